/- Lemmas for CardReports. No condition. -/
import Derived.Test.YtcpoomdoodlkjaaGreatDoorQ14
import Derived.Test.YtcpoomdoodlkjaaGreatDoorQ15
set_option maxRecDepth 100000
set_option maxHeartbeats 64000000
namespace Go.Proofs.YtcpoomdoodlkjaaGreatDoor
section
open Go.RowKit Go.G5 Go.Proofs.Tryz
def sR(n:Int)(l:List Int):Bool:=bM n l&&gR n (jZ l)
theorem afA(n:Int)(l:List Int)(v:Value)(w:World)(R:aR w v l)(hl:l.length<=1048576):
  Calls prog 44 #[.agg #[n,v]] w fun e w'=>e=.returned (.bool (sR n l))/\Below w w w':=by
 obtain⟨a,c,rfl⟩:=R.shape;go_enter func44,ntmps44;go_wp2_with fail;refine(ah4 _ n _ l (R.alloc _) hl).mono ?_;rintro e w1 ⟨Z,Y,q1,rfl,S,F⟩;have z:Below w w w1:=(bF _ _).after F (by simp);clear F
 cases D:bM n l with
 |false=>
  have I:sR n l=false:=by unfold sR;rw[D];rfl
  have J:=aN I;clear I D;go_wp2;go_ret;exact⟨by rw[J.out];rfl,z.after (bF _ _) z.size⟩
 |true=>
  have I:sR n l=gR n (jZ l):=by unfold sR;rw[D];rfl
  have O:zH n l=n:=by unfold zH;rw[D];rfl
  have N:zG n l=jZ l:=by unfold zG;rw[D];rfl
  rw[N]at S;rw[O];have M:(jZ l).length<=1048576:=by rw[tT];exact hl
  have J:=aN I;clear I O N D;go_wp2_with fail;refine(sD n (jZ l) _ _ (S.ints.alloc _) M).mono ?_;rintro e w2 ⟨rfl,K⟩;go_wp2;go_ret;exact⟨by rw[J.out];rfl,(z.after (bF _ _) z.size).after K (z.after (bF _ _) z.size).size⟩
theorem afB(n:Int)(l:List Int)(v:Value)(w:World)(R:aR w v l)(hl:l.length<=1048576):
  Calls prog 60 #[.agg #[n,v]] w fun e w'=>e=.returned (.bool (sR n l))/\Below w w w':=by
 obtain⟨a,c,rfl⟩:=R.shape;go_enter func60,ntmps60;go_wp2_with fail;refine(ah5 _ n _ l (R.alloc _) hl).mono ?_;rintro e w1 ⟨Z,Y,q1,rfl,S,F⟩;have z:Below w w w1:=(bF _ _).after F (by simp);clear F
 cases D:bM n l with
 |false=>
  have I:sR n l=false:=by unfold sR;rw[D];rfl
  have J:=aN I;clear I D;go_wp2;go_ret;exact⟨by rw[J.out];rfl,z.after (bF _ _) z.size⟩
 |true=>
  have I:sR n l=gR n (jZ l):=by unfold sR;rw[D];rfl
  have O:zH n l=n:=by unfold zH;rw[D];rfl
  have N:zG n l=jZ l:=by unfold zG;rw[D];rfl
  rw[N]at S;rw[O];have M:(jZ l).length<=1048576:=by rw[tT];exact hl
  have J:=aN I;clear I O N D;go_wp2_with fail;refine(sE n (jZ l) _ _ (S.ints.alloc _) M).mono ?_;rintro e w2 ⟨rfl,K⟩;go_wp2;go_ret;exact⟨by rw[J.out];rfl,(z.after (bF _ _) z.size).after K (z.after (bF _ _) z.size).size⟩
theorem I1(l o:List Int)(hl:l.length=2^o.length)(D:∀k,(hk:k<l.length)->-1000<=l[k]/\l[k]<=1000)(F:∀x∈o,0<=x/\x<o.length):
  ∀x∈rZ l o,-2000<=x/\x<=2000:=by
 have h:∀k,k<=o.length->∀x∈jG l o k,-2000<=x/\x<=2000:=by
  intro k
  induction k with
  |zero=>intro _ x z;have:=List.eq_of_mem_replicate z;omega
  |succ k ih=>
   intro hk x z;rw[jG]at z;rcases List.mem_or_eq_of_mem_set z with z|z
   ·exact ih aK x z
   ·rw[z];have hlt:k<o.length:=aK;have hm:=F _ (List.getElem_mem hlt);have I:=TS o o.length k F aK;rw[List.getD_eq_getElem?_getD,List.getElem?_eq_getElem hlt,Option.getD_some];refine GP l _ _ aK ?_ D;rw[hl];exact eQ _ _ _ I aK
 exact h o.length aO
theorem W7(l:List Int)(h:∀x∈l,-2000<=x/\x<=2000)(e:Nat):-2000<=l.getD e 0/\l.getD e 0<=2000:=by
 rw[List.getD_eq_getElem?_getD];by_cases z:e<l.length
 ·rw[List.getElem?_eq_getElem z];exact h _ (List.getElem_mem z)
 ·rw[List.getElem?_eq_none aK];decide
theorem aiE(l:List Int)(os:List (List Int))(n:Nat)(hl:l.length=2^n)(z:∀k,(hk:k<l.length)->-1000<=l[k]/\l[k]<=1000)(F:∀o∈os,o.length=n/\∀x∈o,0<=x/\x<n)(e j:Nat)(I:j<=os.length):
  -2000*(j:Int)<=yF l os e j/\yF l os e j<=2000*(j:Int):=by
 induction j with
 |zero=>simp[yF]
 |succ j ih=>have h1:=ih aK;have D:=F _ (List.getElem_mem (show j<os.length by omega));have hb:=W7 _ (I1 l os[j] (by rw[D.1];exact hl) z (by rw[D.1];exact D.2)) e;rw[yF,show os.getD j []=os[j] by rw[List.getD_eq_getElem?_getD,List.getElem?_eq_getElem (show j<os.length by omega)];rfl];omega
theorem ag5(w:World)(n:Int)(v:Value)(l:List Int)(hv:aR w v l)(_:l.length<=1048576):
  Calls prog 41 #[.agg #[n,v]] w fun e w'=>∃ad i cp,e=.returned (aI ad i cp)/\aP 3 w w' (aI ad i cp) (jD n l)/\Below w w w':=by
 obtain⟨a,c,rfl⟩:=hv.shape;go_enter func41,ntmps41;go_wp2_with fail;refine(dV n l _ _ (hv.alloc _)).mono ?_;rintro e w1 ⟨rfl,c8⟩;have X1:=(Box2.new w n (aI a l.length c) 26).after c8;clear c8
 cases hf:bM n l with
 |false=>
  have hx:jD n l=[]:=by unfold jD;rw[hf];rfl
  have HX:=aN hx;obtain⟨I,d1,B1,z1⟩:=X1;clear hx;go_wp2;go_ret;exact⟨none,0,0,rfl,by rw[HX.out];exact aP.nil _ _ _,B1⟩
 |true=>
  obtain⟨h0,h5,hl,e0⟩:=lB hf;obtain⟨N,rfl⟩:=Int.eq_ofNat_of_zero_le h0;have hN:N<=5:=aK;have d9:l.length=2^N:=by
   have:((l.length:Nat):Int)=((2^N:Nat):Int):=by push_cast;exact hl
   exact_mod_cast this
  have hx:jD N l=mD l (cY N N) N (cY N N).length:=by unfold jD;rw[if_pos hf,acU N hN];rfl
  have e6:=FU N hN N;have g9:(5:Nat)^N<=5^5:=Nat.pow_le_pow_right aY hN;have Y:=qJ N N;have c5:=fun W=>TG N hN W;obtain⟨os,e7⟩:=aQ (cY N N);rw[<-e7]at hx e6 Y c5;have k5:os.length<=3125:=aK;have HX:=aN hx;have a9:=aN Y;have g3:=aN c5;have b3:=aN e0;have b4:=aN d9;have m4:=X1.z;clear hx e6 g9 Y c5 e7 hl e0 d9 hf;obtain⟨I,d1,B1,z1⟩:=X1;go_wp2_with (at_make;refine lA rfl _ _ _ rfl 3 underlying24 aS N _ _ rfl rfl rfl rfl aK ?_;intro w2 a1 hg;have X2:=(Box2.mk I d1 B1 z1).grow hg (by simp);have m1:=hg.size;have rO:=a1.lt;clear hg I d1;obtain⟨I,d1,B2,z2⟩:=X2);refine(g3.out _).mono ?_;rintro e w3 ⟨p3,i3,q3,rfl,oL,J⟩;have X3:=(Box2.mk I d1 B2 z2).after J;have a6:=a1.keep J;obtain⟨m5,m7,e3,_⟩:=oL.len;simp only[Value.slice.injEq]at e3;obtain⟨rfl,rfl,rfl⟩:=e3;have z3:=J.size;have b0:w1.heap.size<w2.heap.size:=(rO _ rfl).2;clear I d1 a1 J B2 z2;go_wp2_with fail;go_loopw [18] (fun i wr=>∃j:Nat,j<=os.length/\i=aM j/\aP 3 w1 wr (aI (some ⟨w1,0,none⟩) N N) (mD l os N j)/\dA 3 24 w2.heap.size wr (aI p3 os.length q3) os/\Box2 w wr N (aI a l.length c)/\w2.heap.size<=wr.heap.size)
   (fun i _=>os.length-(intOf i).toNat)
  case atStart=>exact⟨0,Nat.zero_le _,rfl,by rw[acQ];exact a6,oL,X3,z3⟩
  case round=>
   obtain⟨j,hj,rfl,K,oL,X,zr⟩:=hrel;obtain⟨wo,rfl⟩:∃wo:World,wo=wr:=⟨_,rfl⟩;clear X3 a6;by_cases hlt:j<os.length
   ·obtain⟨g,u,i1,b7,hu⟩:=oL.view prog 77 underlying77 jV j hlt;have D:=a9.out _ (List.getElem_mem hlt);have b8:os.getD j []=os[j]:=by rw[List.getD_eq_getElem?_getD,List.getElem?_eq_getElem hlt];rfl
    obtain⟨o,ho⟩:=aQ (os[j]);rw[<-ho]at hu D b8;obtain⟨au,nu,cu,rfl⟩:=hu.shape3;have hcl:(rZ l o).length=N:=by unfold rZ;rw[xM];exact D.1
    have b6:=I1 l o (by rw[D.1];exact b4.out) b3.out (by rw[D.1];exact D.2);have b5:∀(W:World),aR W (aI a l.length c) l->aR W (aI au nu cu) o->Calls prog 167 #[.agg #[(N:Int),aI a l.length c],aI au nu cu] W fun e w'=>∃ad i c,e=.returned (aI ad i c)/\aP 3 W w' (aI ad i c) (rZ l o)/\Below W W w':=
     fun W h1 h2=>YH N l o _ _ W h1 h2 (by rw[D.1];exact hN) (by rw[D.1];exact b4.out) b3.out (by rw[D.1];exact D.2)
    have e8:=fun e j' (h:j'<=os.length)=>aiE l os N b4.out b3.out a9.out e j' h;have F:∀e,yF l os e (j+1)=yF l os e j+(rZ l o).getD e 0:=fun e=>by rw[yF,b8]
    obtain⟨C,hC⟩:=aQ (rZ l o);rw[<-hC]at hcl b6 b5 F;have f9:=aN b6;have f8:=aN b5;have g4:=aN e8;have g5:=aN F;have HW:=aN K;have g2:=aN oL;obtain⟨I,d1,B3,f2⟩:=X;have j1:=hv.below B3 aO;clear hC b6 b5 e8 F ho D b8 K oL;go_wp2_with fail;refine(f8.out _ j1 hu.ints).mono ?_;rintro e w4 ⟨p4,i4,q4,rfl,oC,O⟩;obtain⟨m6,m9,e4⟩:=oC.shape;simp only[Value.slice.injEq]at e4;obtain⟨rfl,rfl,rfl⟩:=e4;rw[hcl]at oC ⊢;have X4:=(Box2.mk I d1 B3 f2).after O;have f0:=HW.out.keep O;have e9:=g2.out.keep O;have z4:=O.size;have rC:=oC.lt;clear I d1 i1 b7 hu O;go_wp2_with fail;go_loopw [26] (fun i wr=>∃e:Nat,e<=N/\i=aM e/\aP 3 w1 wr (aI (some ⟨w1,0,none⟩) N N) ((mD l os N (j+1)).take e++(mD l os N j).drop e)/\aP 3 wo wr (aI p4 N q4) C /\
      dA 3 24 w2.heap.size wr (aI p3 os.length q3) os/\Box2 w wr N (aI a l.length c)/\w2.heap.size<=wr.heap.size)
     (fun i _=>N-(intOf i).toNat)
    case atStart=>exact⟨0,Nat.zero_le _,rfl,by simpa using f0,oC,e9,X4,by omega⟩
    case round=>
     obtain⟨e,he,rfl,K,oC,oL,X,zi⟩:=hrel;obtain⟨wi,rfl⟩:∃wi:World,wi=wr:=⟨_,rfl⟩;clear f0 e9 X4;obtain⟨I,d1,B4,f3⟩:=X;by_cases h8:e<N
     ·have S:(mD l os N (j+1)).length=N:=BM _ _ _ _;have e5:(mD l os N j).length=N:=BM _ _ _ _;have Z:=agP (mD l os N (j+1)) (mD l os N j) e aK aK;have c9:=K.cellAt (by rw[Z,S]) e (by rw[Z,S];exact h8);rw[agO _ _ _ aK aK,TZ]at c9;have l9:=K.frozenAt (by rw[Z,S]) e;obtain⟨aC,bC,k9,cC,eC,i6,R,d6,l7⟩:=oC.ints.view prog 24 3 underlying24 aS;simp only[Value.slice.injEq]at eC;obtain⟨rfl,eN,rfl⟩:=eC;rw[hcl]at R;have d5:=d6 e aK;have d7:C[e]=C.getD e 0:=by rw[List.getD_eq_getElem?_getD,List.getElem?_eq_getElem (show e<C.length by omega)];rfl
      rw[d7]at d5;have h6:=W7 C f9.out e;have J:=g4.out e j hj;have F:=g5.out e;obtain⟨x,hx⟩:=aQ (yF l os e j);obtain⟨y,hy⟩:=aQ (C.getD e 0);rw[<-hx]at c9 J F;rw[<-hy]at d5 h6 F;have c6:=K.stored (by rw[Z,S]) e (x+y) ⟨by omega,by omega⟩;have b9:=aeL (mD l os N (j+1)) (mD l os N j) e aK aK;rw[TZ,F]at b9;rw[b9]at c6;have M:=aN c6;have g0:=aN oC;have g1:=aN oL;have k3:=R;have l8:(0:Int)<=(e:Int):=Int.natCast_nonneg _;have k2:(e:Int)<(N:Int):=aK;have l3:=aN hcl;clear eN hcl S e5 Z K hx hy F b9 c6 oC oL d7 d6 R;go_wp2;go_roundw
      case rel=>exact⟨e+1,by omega,by go_num,M.out.1,g0.out.grow M.out.2 (fun q hq i7=>by cases hq;have:=(rC _ i7).1;have:=b0;omega),g1.out.growLow M.out.2 b0,(Box2.mk I d1 B4 f3).grow M.out.2 aV,by have:=M.out.2.size;omega⟩
      case measure=>simp[intOf];omega
     ·have h7:e=N:=aK;subst h7;have i8:(mD l os e (j+1)).take e++(mD l os e j).drop e=mD l os e (j+1):=by rw[List.take_of_length_le (by rw[BM];exact aO),List.drop_eq_nil_of_le (by rw[BM];exact aO),List.append_nil]
      rw[i8]at K;go_wp2;go_roundw
      case rel=>exact⟨j+1,by omega,by go_num,K,oL,⟨I,d1,B4,f3⟩,zi⟩
      case measure=>simp[intOf];omega
   ·have d8:os.length=j:=aK;obtain⟨I,d1,B3,f2⟩:=X;rw[<-d8]at K;have HW:=aN K;clear K d8;go_wp2;go_ret;exact⟨_,_,_,rfl,by rw[HX.out];exact HW.out.mono B1.size,B3⟩
theorem TO:∀n:Nat,n<=5->∀s:Nat,s<2^n->∀e:Nat,e<n->dO (s:Int) e≠1->bR s+1<=n:=by decide +kernel
theorem I7(k:Nat)(h:k<=4):gP k<=24:=by
 have:=NX k 4 h;have e:gP 4=24:=by decide
 omega
theorem ET{a b A B:Int}(D:0<=a)(F:a<=A)(hb:-B<=b)(hB:b<=B)(z:0<=B):-(A*B)<=a*b/\a*b<=A*B:=by
 have h1:a*b<=a*B:=Int.mul_le_mul_of_nonneg_left hB D;have h2:a*B<=A*B:=Int.mul_le_mul_of_nonneg_right F z;have h3:a*(-B)<=a*b:=Int.mul_le_mul_of_nonneg_left hb D;rw[Int.mul_neg]at h3;omega
theorem ag4(l:List Int)(n e:Nat)(I:n<=5)(D:e<n)(hl:l.length=2^n)(z:∀k,(hk:k<l.length)->-1000<=l[k]/\l[k]<=1000)(s:Nat)(K:s<=2^n):-1152000*(s:Int)<=nY l n e s/\nY l n e s<=1152000*(s:Int):=by
 induction s with
 |zero=>simp[nY]
 |succ s ih=>
  have h1:=ih aK;rw[nY];by_cases hb:dO (s:Int) e=1
  ·rw[if_pos hb];omega
  ·rw[if_neg hb];have hr:=TO n I s aK e D hb;have f1:=I7 (bR s) aK;have J:=I7 (n-1-bR s) aK;have F:=GP l s e aK (by rw[hl];exact eQ _ _ _ aK D) z;unfold eA at F;have M:=ET (a:=(gP (bR s):Int)) (b:=(gP (n-1-bR s):Int)) (A:=24) (B:=24) aK aK aK aK aK;have m0:0<=(gP (bR s):Int)*(gP (n-1-bR s):Int):=Int.mul_nonneg aK aK;have N:=ET (a:=(gP (bR s):Int)*(gP (n-1-bR s):Int)) (b:=l.getD (bU s e) 0-l.getD s 0) (A:=576) (B:=2000) m0 aK aK aK aK;omega
theorem ag6(w:World)(n:Int)(v:Value)(l:List Int)(hv:aR w v l)(_:l.length<=1048576):
  Calls prog 57 #[.agg #[n,v]] w fun e w'=>∃ad i cp,e=.returned (aI ad i cp)/\aP 3 w w' (aI ad i cp) (jD n l)/\Below w w w':=by
 obtain⟨a,b,l2,c,rfl,i6,e0,hc,hb⟩:=hv.view prog 24 3 underlying24 aS;have X0:=Box2.new w n (aI a l.length c) 26;have o0:aP 3 (w.heap.size+1) ((w.alloc (.cells #[n,aI a l.length c] 26)).alloc (.cells #[] 3)) (aI (some ⟨w.heap.size+1,0,none⟩) 0 0) []:=by have:=aP.lit0 (E:=3) (B:=w.heap.size+1) (w.alloc (.cells #[n,aI a l.length c] 26)) (by simp);simpa using this
 have X1:=X0.after (bF _ (.cells #[] 3));clear X0
 cases hf:bM n l with
 |false=>
  have hx:jD n l=[]:=by unfold jD;rw[hf];rfl
  have HX:=aN hx;have HF:=aN hf;have HO:=aN o0;clear hx hf e0 hc o0;obtain⟨d0,d1,M,z1⟩:=X1;go_enter func57,ntmps57;go_wp2_with fail;refine wp_loop_rounds 1 ?_;rw[rounds_succ];go_wp2_with fail;refine(dJ n l _ _ (hv.below M aO)).mono ?_;rintro e w2 ⟨rfl,K⟩;rw[HF.out];have B2:=M.after K M.size;have f6:=aN (HO.out.keep K);go_wp2;go_ret;exact⟨_,_,_,rfl,by rw[HX.out];exact f6.out.mono (Nat.le_succ _),B2⟩
 |true=>
  obtain⟨h0,h5,hl,e4⟩:=lB hf;obtain⟨N,rfl⟩:=Int.eq_ofNat_of_zero_le h0;have hN:N<=5:=aK;have b4:l.length=2^N:=by
   have:((l.length:Nat):Int)=((2^N:Nat):Int):=by push_cast;exact hl
   exact_mod_cast this
  have i1:l.length<=32:=by rw[b4];exact Nat.pow_le_pow_right aY hN
  have hx:jD N l=nO N l:=by unfold jD;rw[if_pos hf];rfl
  have HX:=aN hx;have a8:=aN e4;have O:=aN b4;have HF:=aN hf;have HO:=aN o0;clear hx hl e4 b4 hf o0;go_enter func57,ntmps57;go_wp2_with fail;go_loopw [3,4] (fun out i wr=>∃(e:Nat) (ad:Option Addr) (nn cp:Nat),e<=N/\i=aM e/\out=aI ad nn cp/\aP 3 (w.heap.size+1) wr (aI ad nn cp) ((nO N l).take e)/\Box2 w wr N (aI a l.length c))
   (fun _ i _=>N-(intOf i).toNat)
  case atStart=>exact⟨0,_,_,_,Nat.zero_le _,rfl,rfl,by simpa using HO.out,X1⟩
  case round=>
   obtain⟨e,ad,nn,cp,he,rfl,rfl,ow,X⟩:=hrel;have HW:=aN ow;clear ow X1;obtain⟨d0,d1,M,z1⟩:=X;go_wp2_with fail;refine(dJ N l _ _ (hv.below M aO)).mono ?_;rintro e' w2 ⟨rfl,K⟩;rw[HF.out];have X2:=(Box2.mk d0 d1 M z1).after K;have b0:=aN (HW.out.keep K);clear K d0 d1 M z1;obtain⟨d0,d1,M,z1⟩:=X2;by_cases a1:e<N
   ·have d8:=aW hc hb M aO;have a6:(nO N l).length=N:=by simp[nO]
    have e6:(nO N l).take (e+1)=(nO N l).take e++[nY l N e (2^N)]:=by rw[List.take_succ_eq_append_getElem (by rw[a6];exact a1)];simp[nO]
    have l0:((nO N l).take e).length<=5:=by rw[List.length_take];omega
    have f7:=aN e6;have c7:=aN d8;clear a6 e6 d8;go_wp2_with fail;go_loopw [5,6] (fun x i wr=>∃s m:Nat,s<=l.length/\i=aM s/\x=aM (nY l N e s)/\wr=w2.drewN m) (fun _ i _=>l.length-(intOf i).toNat)
    case atStart=>exact⟨0,0,Nat.zero_le _,rfl,rfl,rfl⟩
    case round=>
     obtain⟨s,m,hs,rfl,rfl,rfl⟩:=hrel;have Z:=ag4 l N e hN a1 O.out a8.out s (by rw[<-O.out];exact hs);by_cases hlt:s<l.length
     ·have h9:=jO s e aK aK;by_cases I:dO (s:Int) e=1
      ·have ht:(dO (s:Int) e==1)=true:=by simp[I]
       have D:nY l N e (s+1)=nY l N e s:=by rw[nY,if_pos I]
       have a9:=aN D;clear I D;go_wp2;go_roundw
       case rel=>exact⟨s+1,m,by omega,by go_num,by rw[a9.out],rfl⟩
       case measure=>simp[intOf];omega
      ·have ht:(dO (s:Int) e==1)=false:=by simp[I]
       have D:nY l N e (s+1)=nY l N e s+(gP (bR s):Int)*(gP (N-1-bR s):Int)*(l.getD (bU s e) 0-l.getD s 0):=by rw[nY,if_neg I]
       have b9:s<2^N:=by rw[<-O.out];exact hlt
       have hr:=TO N hN s b9 e a1 I;have R:bU s e<l.length:=by rw[O.out];exact eQ _ _ _ b9 a1
       have e7:=a8.out s hlt;have e8:=a8.out _ R;have g2:=c7.out s hlt;have d7:=c7.out _ R;have g3:=fun w'=>e0 w' _ R;rw[show l.getD (bU s e) 0=l[bU s e] by rw[List.getD_eq_getElem?_getD,List.getElem?_eq_getElem R];rfl,show l.getD s 0=l[s] by rw[List.getD_eq_getElem?_getD,List.getElem?_eq_getElem hlt];rfl]at D;have S:∀W,Calls prog 175 #[aM (bR s:Int)] W fun e' w'=>e'=.returned (aM (gP (bR s):Int))/\W=w':=fun W=>by have:=NW (bR s:Int) W;rw[show uO (bR s:Int)=(gP (bR s):Int) by unfold uO;rw[show eZ (bR s:Int) 0 12=true from dK.2 ⟨by omega,by omega⟩];rfl]at this;exact this
       have Y:∀W,Calls prog 175 #[aM ((N:Int)-1-(bR s:Int))] W fun e' w'=>e'=.returned (aM (gP (N-1-bR s):Int))/\W=w':=fun W=>by have:=NW (((N-1-bR s:Nat)):Int) W;rw[show uO ((N-1-bR s:Nat):Int)=(gP (N-1-bR s):Int) by unfold uO;rw[show eZ ((N-1-bR s:Nat):Int) 0 12=true from dK.2 ⟨by omega,by omega⟩];rfl]at this;rw[show((N:Int)-1-(bR s:Int))=((N-1-bR s:Nat):Int) by omega];exact this
       have f1:=I7 (bR s) aK;have f2:=I7 (N-1-bR s) aK;have g5:=eP s w2 aK;obtain⟨x,hx⟩:=aQ (l[bU s e]);obtain⟨y,hy⟩:=aQ (l[s]);obtain⟨q,hq⟩:=aQ (bU s e);obtain⟨F,hF⟩:∃F:Int,F=(gP (bR s):Int):=⟨_,rfl⟩;obtain⟨G,hG⟩:∃G:Int,G=(gP (N-1-bR s):Int):=⟨_,rfl⟩;obtain⟨k,hk⟩:∃k:Int,k=(bR s:Int):=⟨_,rfl⟩;obtain⟨k2,b3⟩:∃k:Int,k=(N:Int)-1-(bR s:Int):=⟨_,rfl⟩;obtain⟨z,hz⟩:∃z:Int,z=nY l N e s:=⟨_,rfl⟩;rw[<-hx]at D e8 d7;rw[<-hy]at D e7 g2;rw[<-hF]at D S;rw[<-hG]at D Y;rw[<-b3]at Y;rw[<-hk]at S;rw[<-hz]at D Z ⊢;have m1:=ET (a:=F) (b:=G) (A:=24) (B:=24) aK aK aK aK aK;have m0:0<=F*G:=Int.mul_nonneg aK aK;have m2:=ET (a:=F*G) (b:=x-y) (A:=576) (B:=2000) m0 aK aK aK aK;obtain⟨p1,b5⟩:∃p:Int,p=F*G:=⟨_,rfl⟩;obtain⟨p2,b6⟩:∃p:Int,p=p1*(x-y):=⟨_,rfl⟩;obtain⟨p3,b7⟩:∃p:Int,p=(N:Int)-1:=⟨_,rfl⟩;rw[<-b5]at m0 m1 m2 D;rw[<-b6]at m2 D;have w1:IntKind.i64.wrap (F*G)=p1:=by rw[b5];exact IntWalk.i64_in _ aK
       have l3:IntKind.i64.wrap (x-y)=x-y:=IntWalk.i64_in _ aK;have w3:IntKind.i64.wrap (p1*(x-y))=p2:=by rw[b6];exact IntWalk.i64_in _ aK
       have w4:IntKind.i64.wrap ((N:Int)-1)=p3:=by rw[b7];exact IntWalk.i64_in _ aK
       have w5:IntKind.i64.wrap (p3-k)=k2:=by rw[b7,hk,b3];exact IntWalk.i64_in _ aK
       have w6:IntKind.i64.wrap (z+p2)=z+p2:=IntWalk.i64_in _ aK;have g4:=fZ s e aK aK;have b8:=cO e 6 aK;have i7:(2:Int)^e<=64:=by simpa using b8.1
       have i8:=b8.2;rw[<-hq]at g4 g3 d7;have a9:=aN D;have c8:=aN S;have c9:=aN Y;have HK:=aN hk;have k7:(0:Int)<=(e:Int):=Int.natCast_nonneg _;clear I D S Y R hr b9 hx hy hq hF hG hk b3 hz b5 b6 b7 m0 m1 m2 f1 f2 b8 g5 e7 e8 Z;go_wp2_with (go_at_call 154;refine(eP s _ aK).mono ?_;rintro e' w' ⟨rfl,rfl⟩;rw[<-HK.out]);go_quiet ((go_at_call 175;first|(with_reducible exact iX (c8.out _))|(with_reducible exact kF (c8.out _))|(with_reducible exact iX (c9.out _))|(with_reducible exact kF (c9.out _))));go_wp2;go_roundw
       case rel=>exact⟨s+1,m+nq,by omega,by go_num,by rw[a9.out],by simp⟩
       case measure=>simp[intOf];omega
     ·have e5:s=2^N:=by have:=O.out;omega
      have j1:(s:Int)<=32:=aK;obtain⟨z,hz⟩:∃z:Int,z=nY l N e s:=⟨_,rfl⟩;rw[<-hz]at Z ⊢;have e9:z=nY l N e (2^N):=by rw[hz,e5]
      have j3:-40000000<=z:=aK;have j4:z<=40000000:=aK;have HZ:=aN e9;clear hz e9 e5 Z;go_wp2_with (at_builtin;refine cZ rfl _ _ _ rfl 3 underlying24 aS (w.heap.size+1) _ _ z w2.heap.size rfl rfl (bB w2 #[z] 3 0 _ rfl) ((b0.out.alloc _).drewN m) ⟨by omega,by omega⟩ aK (by first|omega|(simp;done)|(simp;omega)) ?_;intro v' w6 J d9;obtain⟨av,nv,cv,rfl⟩:=J.shape3);have X6:=(((Box2.mk d0 d1 M z1).after (bF _ (.cells #[z] 3))).drewN m).grow d9 (fun k hk=>by have:=(b0.out.lt k hk).1;omega);rw[HZ.out,<-f7.out]at J;have f8:=aN J;clear J d9;go_wp2;go_roundw
      case rel=>exact⟨e+1,_,_,_,by omega,by go_num,rfl,f8.out,X6⟩
      case measure=>simp[intOf];omega
   ·have k8:e=N:=aK;have a6:(nO N l).length=N:=by simp[nO]
    have hw:(nO N l).take e=nO N l:=List.take_of_length_le aK;have HH:=aN hw;clear hw a6;go_wp2;go_ret;exact⟨_,_,_,rfl,by rw[HX.out,<-HH.out];exact b0.out.mono (Nat.le_succ _),M⟩
end
end Go.Proofs.YtcpoomdoodlkjaaGreatDoor
section
namespace Go
section
variable {P:Program} {ops:Array Oper} {md:Region.Mode} {C:World->Prop}
def Oper.loud(o:Oper):Bool:=
 match o.op with
 |.call c=>match c.callee with
  |.value _=>true
  |_=>false
 |_=>false
def Oper.readUpon(w:World)(v:Value):Result Next->Prop
 |.ok (.value u) w'=>w'=w/\u=v
 |.ok .skip w'=>w'=w/\v=undef
 |_=>False
def Oper.reads(P:Program)(o:Oper)(a:Act)(C:World->Prop)(K:Act->Prop):Prop:=∃v,(∀w,C w->Oper.readUpon w v ((execOp a.eval o).run P w))/\K (a.put o.dst v)
def Oper.goesUpon(P:Program)(C:World->Prop)(w:World)(K:Value->World->Prop):Result Next->Prop
 |.ok (.enter f args) w'=>w'=w/\Calls P f args w (fun e w''=>∃v,e=.returned v/\C w''/\K v w'')
 |_=>False
def Oper.goes(P:Program)(o:Oper)(a:Act)(w:World)(C:World->Prop)(K:Act->World->Prop):Prop:=Oper.goesUpon P C w (fun v w''=>K (a.put o.dst v) w'') ((execOp a.eval o).run P w)
def tJ(P:Program)(ops:Array Oper)(C:World->Prop)(Q:Act->World->Prop):List Oper->Act->World->Prop
 |[],a,w=>Q a w
 |o::rest,a,w=>if Region.wanted o (yielded ops a.tmps) then (if o.loud then o.goes P a w C (tJ P ops C Q rest) else o.reads P a C (fun z=>tJ P ops C Q rest z w)) else tJ P ops C Q rest (a.put o.dst undef) w
def mixOp(P:Program)(ops:Array Oper)(C:World->Prop)(i:Nat)(K:Act->World->Prop)(a:Act)(w:World):Prop:=
 match ops[i]? with
 |none=>K a w
 |some o=>if Region.wanted o (yielded ops a.tmps) then (if o.loud then o.goes P a w C K else o.reads P a C (fun z=>K z w)) else K (a.put o.dst undef) w
theorem Oper.goes_mono{o:Oper}{a:Act}{w:World}{K D:Act->World->Prop}(h:∀a w,C w->K a w->D a w)(z:o.goes P a w C K):o.goes P a w C D:=by
 unfold Oper.goes at *
 generalize (execOp a.eval o).run P w=r at *
 cases r with
 |ok n w'=>
  cases n<;>simp only[Oper.goesUpon]at z ⊢
  case enter f args=>
   exact⟨z.1,z.2.mono fun e w'' ⟨v,I,hC,F⟩=>⟨v,I,hC,h _ _ hC F⟩⟩
 |halt x w'=>simp only[Oper.goesUpon]at z
theorem J7{i:Nat}{a:Act}{w:World}{K F:Act->World->Prop}(hw:C w)(h:∀a w,C w->K a w->F a w)(z:mixOp P ops C i K a w):mixOp P ops C i F a w:=by
 unfold mixOp at *
 split
 ·exact h _ _ hw (by simpa[*]using z)
 ·rename_i o I
  simp only[I]at z
  split
  ·rename_i D
   simp only[D,if_true]at z
   split
   ·rename_i hl;simp only[hl,if_true]at z;exact Oper.goes_mono h z
   ·rename_i hl
    simp only[hl]at z;obtain⟨v,h1,h2⟩:=z;exact⟨v,h1,h _ _ hw h2⟩
  ·rename_i D;simp only[D]at z;exact h _ _ hw z
def tD(P:Program)(md:Region.Mode)(ops:Array Oper)(C:World->Prop)(Q:Act->World->Prop):Nat->Array Bool->Act->World->Prop
 |0,listed,a,w=>Region.ready md ops listed=[]/\Q a w
 |fuel+1,listed,a,w=>
  (Region.ready md ops listed=[]->Q a w) /\
  ∀i∈Region.ready md ops listed,mixOp P ops C i (tD P md ops C Q fuel (listed.setIfInBounds i true)) a w
theorem Oper.wp_of_goes{o:Oper}{a:Act}{w:World}{K:Act->World->Prop}{F:Exit->Act->World->Prop}{D:Act->World->Prop}(h:∀a w',C w'->K a w'->D a w')(z:o.goes P a w C K):o.wp P a w D F:=by
 unfold Oper.goes at z;unfold Oper.wp
 generalize (execOp a.eval o).run P w=r at *
 cases r with
 |ok n w'=>
  cases n<;>simp only[Oper.goesUpon]at z<;>simp only[Oper.upon]
  case enter f args=>
   obtain⟨e1,hc⟩:=z;rw[e1];exact hc.mono fun e w'' ⟨v,J,hC,I⟩=>by subst J;exact h _ _ hC I
 |halt x w'=>simp only[Oper.goesUpon]at z
theorem Oper.wp_of_reads{o:Oper}{a:Act}{w:World}{K:Act->Prop}{D:Exit->Act->World->Prop}{z:Act->World->Prop}(hw:C w)(h:∀a,K a->z a w)(F:o.reads P a C K):o.wp P a w z D:=by
 obtain⟨v,h1,h2⟩:=F;have h3:=h1 w hw;unfold Oper.wp
 generalize (execOp a.eval o).run P w=r at *
 cases r with
 |ok n w'=>
  cases n<;>simp only[Oper.readUpon]at h3<;>simp only[Oper.upon]
  case value u=>
   obtain⟨e1,e2⟩:=h3;rw[e1,e2];exact h _ h2
  case skip=>
   obtain⟨e1,e2⟩:=h3;rw[e1,<-e2];exact h _ h2
 |halt x w'=>simp only[Oper.readUpon]at h3
theorem QJ{i:Nat}{a:Act}{w:World}{K F:Act->World->Prop}{I:Exit->Act->World->Prop}(hC:C w)(h:∀a w',C w'->K a w'->F a w')(z:mixOp P ops C i K a w):wpOp P ops I i F a w:=by
 unfold mixOp at z;unfold wpOp
 split
 ·rename_i D;simp only[D]at z;exact h _ _ hC z
 ·rename_i o D
  simp only[D]at z
  split
  ·rename_i hw
   simp only[hw,if_true]at z
   left
   by_cases hl:o.loud=true
   ·simp only[hl,if_true]at z;exact Oper.wp_of_goes h z
   ·simp only[hl]at z;exact Oper.wp_of_reads hC (fun a J=>h _ _ hC J) z
  ·rename_i hw;simp only[hw]at z;exact h _ _ hC z
theorem ED{Q:Act->World->Prop}{F:Exit->Act->World->Prop}(z:∀a w,C w->Q a w->F .normal a w):∀(fuel:Nat) (listed:Array Bool) (a:Act) (w:World),C w ->
  tD P md ops C Q fuel listed a w->wpAny P md ops F fuel listed a w
 |0,_,_,_,hw,h=>⟨h.1,z _ _ hw h.2⟩
 |fuel+1,_,_,_,hw,h=>⟨fun J=>z _ _ hw (h.1 J),fun i K=>QJ hw (fun I w' D=>ED z fuel _ I w' D) (h.2 i K)⟩
def nS(P:Program)(ops:Array Oper)(C:World->Prop)(o:Oper)(v:Value)(a:Act):Prop:=
 (Region.wanted o (yielded ops a.tmps)=true/\o.loud=false/\∀w,C w->Oper.readUpon w v ((execOp a.eval o).run P w)) ∨
 (Region.wanted o (yielded ops a.tmps)=false/\v=undef)
theorem nS.mixOp{i:Nat}{o:Oper}{v:Value}{a:Act}{w:World}(z:ops[i]?=some o)(F:nS P ops C o v a){K:Act->World->Prop}(h:K (a.put o.dst v) w):mixOp P ops C i K a w:=by
 unfold Go.mixOp;simp only[z]
 rcases F with⟨hw,hl,D⟩|⟨hw,rfl⟩
 ·simp only[hw,hl,if_true]
  exact⟨v,D,h⟩
 ·simp only[hw];exact h
theorem nS.of_same{o:Oper}{v:Value}{a z:Act}(F:nS P ops C o v a)(D:execOp z.eval o=execOp a.eval o)
  (hw:Region.wanted o (yielded ops z.tmps)=Region.wanted o (yielded ops a.tmps)):nS P ops C o v z:=by
 unfold nS at *;rw[D,hw];exact F
theorem ab0{j:Nat}{oi oj:Oper}{v:Value}(R:ops[j]?=some oj)(F:oi.apart ops oj=true)
  (I:∀cs b,oi.op≠.select cs b) (z:∀cs b,oj.op≠.select cs b) {K:Act->World->Prop} {a:Act} {w:World}
  (D:nS P ops C oi v a) (h:mixOp P ops C j K (a.put oi.dst v) w):
  mixOp P ops C j (fun M w'=>nS P ops C oi v M/\K (M.put oi.dst v) w') a w:=by
 obtain⟨h1,h2,h3⟩:=Oper.apart_spec F;have keep:∀(a:Act),nS P ops C oi v a->∀u,nS P ops C oi v (a.put oj.dst u):=fun a D u=>
  D.of_same (execOp_put oi I a oj.dst u h3) (wanted_put oi a oj.dst u h3)
 unfold mixOp at *;simp only[R]at *;rw[wanted_put oj a oi.dst v h1]at h
 split
 ·rename_i hw
  simp only[hw,if_true]at h
  split
  ·rename_i hl
   simp only[hl,if_true]at h;unfold Oper.goes at *;rw[execOp_put oj z a oi.dst v h1]at h
   generalize (execOp a.eval oj).run P w=r at *
   cases r with
   |ok n w'=>
    cases n<;>simp only[Oper.goesUpon]at h ⊢
    case enter f args=>
     exact⟨h.1,h.2.mono fun e w'' ⟨u,O,hC,N⟩=>⟨u,O,hC,keep a D u,by rw[<-Act.put_comm a v u h2];exact N⟩⟩
   |halt x w'=>simp only[Oper.goesUpon]at h
  ·rename_i hl
   simp only[hl]at h;obtain⟨u,Y,S⟩:=h;refine⟨u,fun w J=>?_,keep a D u,by rw[<-Act.put_comm a v u h2];exact S⟩;have:=Y w J
   rwa [execOp_put oj z a oi.dst v h1]at this
 ·rename_i hw
  simp only[hw]at h;exact⟨keep a D _,by rw[<-Act.put_comm a v undef h2];exact h⟩
theorem EC{Q:Act->World->Prop}{i:Nat}{oi:Oper}{v:Value}(hi:ops[i]?=some oi)(J:∀(j:Nat) (o:Oper) cs b,ops[j]?=some o->o.op≠.select cs b):
  ∀(fuel:Nat) (listed:Array Bool) (a:Act) (w:World),C w ->
   (∀j oj,ops[j]?=some oj->j≠i->listed.getD j true=false->(∀e∈oj.after,Region.binds md e=true->e.on≠i)->oi.apart ops oj=true) ->
   i∈Region.ready md ops listed->nS P ops C oi v a ->
   tD P md ops C Q fuel (listed.setIfInBounds i true) (a.put oi.dst v) w->tD P md ops C Q (fuel+1) listed a w:=by
 intro fuel
 induction fuel with
 |zero=>
  intro listed a w hC _ hr Y H;refine⟨fun h=>(by rw[h]at hr;cases hr),fun j S=>?_⟩
  by_cases z:j=i
  ·subst z;exact Y.mixOp hi H
  ·have:=ready_mono S z
   rw[H.1]at this
   cases this
 |succ fuel ih=>
  intro listed a w hC D hr Y H;refine⟨fun h=>(by rw[h]at hr;cases hr),fun j S=>?_⟩
  by_cases z:j=i
  ·subst z;exact Y.mixOp hi H
  ·have h1:=H.2 j (ready_mono S z)
   obtain⟨I,oj,K,M⟩:=mem_ready.1 S;have O:∀e∈oj.after,Region.binds md e=true->e.on≠i:=fun e he hb a6=>by
    have h1:=M e he hb;have h0:=(mem_ready.1 hr).1;rw[a6]at h1
    rcases Nat.lt_or_ge i listed.size with Z|Z
    ·simp[Z]at h0 h1;rw[h0]at h1;cases h1
    ·simp[Array.getElem?_eq_none Z]at h1
   have h2:=ab0 K (D j oj K z I O) (fun cs b=>J i oi cs b hi) (fun cs b=>J j oj cs b K) Y h1;have F:∀k ok,ops[k]?=some ok->k≠i->(listed.setIfInBounds j true).getD k true=false ->
     (∀e∈ok.after,Region.binds md e=true->e.on≠i)->oi.apart ops ok=true:=fun k ok hk a8 R a9=>by
    refine D k ok hk a8 ?_ a9
    by_cases N:j=k
    ·subst N;exact I
    ·rw[getD_set_ne true N]at R;exact R
   refine J7 hC (fun a' w' a1 h3=>ih (listed.setIfInBounds j true) a' w' a1 F (ready_mono hr (Ne.symm z)) h3.1 ?_) h2;rw[Array.setIfInBounds_comm _ _ z];exact h3.2
def Region.waits(md:Region.Mode)(ops:Array Oper)(i:Nat):Nat->Nat->Bool
 |0,_=>false
 |n+1,j=>match ops[j]? with
  |none=>false
  |some o=>o.after.any fun e=>Region.binds md e&&(e.on==i||Region.waits md ops i n e.on)
def Region.chained(md:Region.Mode)(ops:Array Oper):Bool:=
 (List.range ops.size).all fun i=>match ops[i]? with
  |none=>true
  |some oi=>!oi.loud||(List.range ops.size).all fun j=>decide (j<=i)||match ops[j]? with
   |none=>true
   |some oj=>!oj.loud||Region.waits md ops i ops.size j
def Region.closed(md:Region.Mode)(ops:Array Oper)(listed:Array Bool):Prop:=
 ∀(k:Nat) (o:Oper),ops[k]?=some o->listed.getD k false=true->∀e∈o.after,Region.binds md e=true->listed.getD e.on false=true
theorem UM{i:Nat}{listed:Array Bool}(hc:Region.closed md ops listed):∀(n j:Nat),Region.waits md ops i n j=true->(∀o,ops[j]?=some o->∀e∈o.after,Region.binds md e=true->listed.getD e.on false=true)->listed.getD i false=true:=by
 intro n
 induction n with
 |zero=>intro j h;simp[Region.waits]at h
 |succ n ih=>
  intro j h z;unfold Region.waits at h
  cases I:ops[j]? with
  |none=>rw[I]at h;cases h
  |some o=>
   rw[I]at h;obtain⟨e,M,hb⟩:=Array.any_eq_true'.1 h;simp only[Bool.and_eq_true,Bool.or_eq_true,beq_iff_eq]at hb;have hl:=z o I e M hb.1
   rcases hb.2 with h1|h1
   ·rw[<-h1];exact hl
   ·exact ih e.on h1 (fun N J K F D=>hc e.on N J hl K F D)
theorem I0{j:Nat}{listed:Array Bool}(hc:Region.closed md ops listed)(I:j∈Region.ready md ops listed):Region.closed md ops (listed.setIfInBounds j true):=by
 obtain⟨_,o,J,z⟩:=mem_ready.1 I;intro k ok hk hl e F hb;refine getD_set_true ?_
 by_cases D:j=k
 ·subst D
  rw[J]at hk
  cases hk
  exact z e F hb
 ·refine hc k ok hk ?_ e F hb
  rw[getD_set_ne false D]at hl;exact hl
theorem N6{o:Oper}{a:Act}{w:World}{K:Act->World->Prop}(h:o.goes P a w C K):∃v w',C w'/\K (a.put o.dst v) w':=by
 unfold Oper.goes at h
 generalize (execOp a.eval o).run P w=r at *
 cases r with
 |ok n w'=>
  cases n<;>simp only[Oper.goesUpon]at h
  case enter f args=>
   obtain⟨e,w'',z,⟨v,_,h2,h3⟩,_⟩:=h.2 [];exact⟨v,w'',h2,h3⟩
 |halt x w'=>simp only[Oper.goesUpon]at h
theorem ae2{w:World}{u v:Value}{r:Result Next}(h:Oper.readUpon w u r)(z:Oper.readUpon w v r):u=v:=by
 cases r with
 |ok n w'=>
  cases n<;>simp only[Oper.readUpon]at h z
  ·rw[<-h.2,<-z.2]
  ·rw[h.2,z.2]
 |halt x w'=>simp only[Oper.readUpon]at h
theorem ZX{j:Nat}{oi oj:Oper}(Y:ops[j]?=some oj)(D:oj.loud=false)(R:oi.apart ops oj=true)
  (I:∀cs b,oi.op≠.select cs b) (J:∀cs b,oj.op≠.select cs b) {K:Act->World->Prop} {a:Act} {w:World}
  (h:oi.goes P a w C (fun N w'=>mixOp P ops C j K N w')):
  mixOp P ops C j (fun N w'=>oi.goes P N w' C K) a w:=by
 obtain⟨h1,h2,h3⟩:=Oper.apart_spec R;obtain⟨v0,w0,a1,F⟩:=N6 h;unfold mixOp at F ⊢;simp only[Y,D]at F ⊢;rw[wanted_put oj a oi.dst v0 h1]at F
 split
 ·rename_i hw
  simp only[hw,if_true]at F;obtain⟨u,Z,_⟩:=F;rw[execOp_put oj J a oi.dst v0 h1]at Z;refine⟨u,Z,?_⟩;unfold Oper.goes at h ⊢;dsimp only;rw[execOp_put oi I a oj.dst u h3]
  generalize (execOp a.eval oi).run P w=r at *
  cases r with
  |ok n w'=>
   cases n<;>simp only[Oper.goesUpon]at h ⊢
   case enter f args=>
    refine⟨h.1,h.2.mono fun e w'' ⟨v,S,hC,z⟩=>⟨v,S,hC,?_⟩⟩;unfold mixOp at z;simp only[Y,D]at z;rw[wanted_put oj a oi.dst v h1]at z;simp only[hw,if_true]at z;obtain⟨u',M,O⟩:=z;rw[execOp_put oj J a oi.dst v h1]at M;have e1:=ae2 (M w'' hC) (Z w'' hC);subst e1;rw[<-Act.put_comm a v u' h2];exact O
  |halt x w'=>simp only[Oper.goesUpon]at h
 ·rename_i hw
  simp only[hw]at F;unfold Oper.goes at h ⊢;rw[execOp_put oi I a oj.dst undef h3]
  generalize (execOp a.eval oi).run P w=r at *
  cases r with
  |ok n w'=>
   cases n<;>simp only[Oper.goesUpon]at h ⊢
   case enter f args=>
    refine⟨h.1,h.2.mono fun e w'' ⟨v,S,hC,z⟩=>⟨v,S,hC,?_⟩⟩;unfold mixOp at z;simp only[Y,D]at z;rw[wanted_put oj a oi.dst v h1]at z;simp only[hw]at z;rw[<-Act.put_comm a v undef h2];exact z
  |halt x w'=>simp only[Oper.goesUpon]at h
theorem WK{Q:Act->World->Prop}{i:Nat}{oi:Oper}(hi:ops[i]?=some oi)(a9:oi.loud=true)(Z:∀(j:Nat) (o:Oper) cs b,ops[j]?=some o->o.op≠.select cs b):
  ∀(fuel:Nat) (listed:Array Bool) (a:Act) (w:World),C w->Region.closed md ops listed ->
   (∀j oj,ops[j]?=some oj->j≠i->listed.getD j true=false->(∀e∈oj.after,Region.binds md e=true->e.on≠i)->oi.apart ops oj=true) ->
   (∀j oj,ops[j]?=some oj->j≠i->listed.getD j true=false->oj.loud=true->Region.waits md ops i ops.size j=true) ->
   i∈Region.ready md ops listed->Region.wanted oi (yielded ops a.tmps)=true ->
   oi.goes P a w C (tD P md ops C Q fuel (listed.setIfInBounds i true))->tD P md ops C Q (fuel+1) listed a w:=by
 intro fuel
 induction fuel with
 |zero=>
  intro listed a w hC _ _ _ hr N H;refine⟨fun h=>(by rw[h]at hr;cases hr),fun j hj=>?_⟩
  by_cases z:j=i
  ·subst z
   unfold mixOp;simp only[hi,N,a9,if_true];exact H
  ·obtain⟨v,w',_,h⟩:=N6 H
   have:=ready_mono hj z;rw[h.1]at this
   cases this
 |succ fuel ih=>
  intro listed a w hC hcl I M hr N H;refine⟨fun h=>(by rw[h]at hr;cases hr),fun j hj=>?_⟩
  by_cases z:j=i
  ·subst z
   unfold mixOp;simp only[hi,N,a9,if_true];exact H
  ·obtain⟨D,oj,F,S⟩:=mem_ready.1 hj
   have Y:listed.getD i false=false:=by
    have h0:=(mem_ready.1 hr).1
    rcases Nat.lt_or_ge i listed.size with h'|h'
    ·simpa[h']using h0
    ·simp[Array.getElem?_eq_none h']
   have b1:oj.loud=false:=by
    cases hl:oj.loud with
    |false=>rfl
    |true=>
     have:=UM hcl ops.size j (M j oj F z D hl) (fun o ho e he hb=>by rw[F]at ho;cases ho;exact S e he hb);rw[Y]at this
     cases this
   have b3:∀e∈oj.after,Region.binds md e=true->e.on≠i:=fun e he hb b7=>by
    have h1:=S e he hb;rw[b7,Y]at h1
    cases h1
   have a8:=I j oj F z D b3;have h1:oi.goes P a w C (fun a' w'=>mixOp P ops C j (tD P md ops C Q fuel ((listed.setIfInBounds i true).setIfInBounds j true)) a' w'):=Oper.goes_mono (fun a' w' _ h=>h.2 j (ready_mono hj z)) H;have h2:=ZX F b1 a8 (fun cs b=>Z i oi cs b hi) (fun cs b=>Z j oj cs b F) h1;have O:∀k ok,ops[k]?=some ok->k≠i->(listed.setIfInBounds j true).getD k true=false ->
     (∀e∈ok.after,Region.binds md e=true->e.on≠i)->oi.apart ops ok=true:=fun k ok hk a6 K b9=>by
    refine I k ok hk a6 ?_ b9
    by_cases J:j=k
    ·subst J;exact D
    ·rw[getD_set_ne true J]at K;exact K
   have R:∀k ok,ops[k]?=some ok->k≠i->(listed.setIfInBounds j true).getD k true=false->ok.loud=true->Region.waits md ops i ops.size k=true:=fun k ok hk a6 K hl=>by
    refine M k ok hk a6 ?_ hl
    by_cases J:j=k
    ·subst J;exact D
    ·rw[getD_set_ne true J]at K;exact K
   obtain⟨_,_,h3⟩:=Oper.apart_spec a8;have a7:mixOp P ops C j (fun a' w'=>Region.wanted oi (yielded ops a'.tmps)=true/\oi.goes P a' w' C (tD P md ops C Q fuel ((listed.setIfInBounds i true).setIfInBounds j true))) a w:=by
    unfold mixOp at h2 ⊢;simp only[F,b1]at h2 ⊢
    split
    ·rename_i hw
     simp only[hw,if_true]at h2;obtain⟨u,hu,hk⟩:=h2;exact⟨u,hu,by rw[wanted_put oi a oj.dst u h3];exact N,hk⟩
    ·rename_i hw
     simp only[hw]at h2;exact⟨by rw[wanted_put oi a oj.dst undef h3];exact N,h2⟩
   refine J7 hC (fun a' w' b5 h4=>ih (listed.setIfInBounds j true) a' w' b5 (I0 hcl hj) O R (ready_mono hr (Ne.symm z)) h4.1 ?_) a7;rw[Array.setIfInBounds_comm _ _ z];exact h4.2
theorem QZ{i j:Nat}{oi oj:Oper}(h:Region.chained md ops=true)(z:ops[i]?=some oi)(D:ops[j]?=some oj)(h1:oi.loud=true)(h2:oj.loud=true)(F:i<j):Region.waits md ops i ops.size j=true:=by
 unfold Region.chained at h;rw[List.all_eq_true]at h;have h3:=h i (List.mem_range.2 (Array.getElem?_eq_some_iff.1 z).1);simp only[z,h1,Bool.not_true,Bool.false_or,List.all_eq_true]at h3;have h4:=h3 j (List.mem_range.2 (Array.getElem?_eq_some_iff.1 D).1);simp only[D,h2,Bool.not_true,Bool.false_or,Bool.or_eq_true,decide_eq_true_eq]at h4
 rcases h4 with h4|h4
 ·omega
 ·exact h4
theorem LK{Q:Act->World->Prop}(S:Region.noSelect ops=true)(M:Region.chained md ops=true):∀(l:List Oper) (k:Nat) (listed:Array Bool) (a:Act) (w:World),C w->(∀j,l[j]?=ops[k+j]?) ->
  Region.closed md ops listed->(∀j,j<k->j<ops.size->listed.getD j true=true) ->
  Region.lexFrom md ops l.length k listed=true->tJ P ops C Q l a w->tD P md ops C Q l.length listed a w
 |[],_,_,_,_,_,_,_,_,hB,h=>⟨by simpa[Region.lexFrom]using hB,h⟩
 |o::l,k,listed,a,w,hC,hl,hcl,hlo,hB,h=>by
  have F:ops[k]?=some o:=by simpa using(hl 0).symm
  simp only[List.length_cons,Region.lexFrom,Bool.and_eq_true]at hB;obtain⟨⟨hr,hf⟩,Y⟩:=hB;have hr:k∈Region.ready md ops listed:=by simpa using hr
  have N:=I0 hcl hr;have O:∀j,j<k+1->j<ops.size->(listed.setIfInBounds k true).getD j true=true:=fun j hj J=>by
   by_cases I:k=j
   ·subst I
    rcases Nat.lt_or_ge k listed.size with K|K
    ·simp[K]
    ·simp[K]
   ·rw[getD_set_ne true I];exact hlo j aK J
  have D:∀R w',C w'->tJ P ops C Q l R w'->tD P md ops C Q l.length (listed.setIfInBounds k true) R w':=fun R w' Z K=>
   LK S M l (k+1) _ R w' Z (fun j=>by have:=hl (j+1);simpa[Nat.add_assoc,Nat.add_comm 1 j]using this) N O Y K
  rw[tJ]at h
  by_cases hw:Region.wanted o (yielded ops a.tmps)=true
  ·rw[if_pos hw]at h
   by_cases z:o.loud=true
   ·rw[if_pos z]at h
    refine WK F z (Region.noSelect_spec S) l.length listed a w hC hcl (Region.free_spec F hf) (fun j oj hj I a8 a7=>?_) hr hw (Oper.goes_mono D h);have J:=(Array.getElem?_eq_some_iff.1 hj).1;have hlt:k<j:=by
     rcases Nat.lt_or_ge k j with q|q
     ·exact q
     ·have:=hlo j aK J
      rw[a8]at this;cases this
    exact QZ M F hj z a7 hlt
   ·rw[if_neg z]at h
    obtain⟨v,hv,hK⟩:=h;exact EC F (Region.noSelect_spec S) l.length listed a w hC (Region.free_spec F hf) hr (.inl ⟨hw,by simpa using z,hv⟩) (D _ _ hC hK)
  ·rw[if_neg hw]at h
   exact EC F (Region.noSelect_spec S) l.length listed a w hC (Region.free_spec F hf) hr (.inr ⟨by simpa using hw,rfl⟩) (D _ _ hC h)
theorem UY(n:Nat):Region.closed md ops (Array.replicate n false):=by
 intro k o _ h;simp[Array.getElem?_replicate]at h
 split at h<;>simp at h
theorem NK{F:Nat}{Q:Exit->Act->World->Prop}{a:Act}{w:World}{l:List Oper}(hm:P.follows .mixedOrders=true)(hB:Region.lexB .any l.toArray=true)(D:Region.chained .any l.toArray=true)
  (hC:C w.drew) (h:tJ P l.toArray C (fun z w'=>Q .normal z w') l a w.drew):(Code.region F l.toArray true).wp P Q a w:=by
 simp only[Region.lexB,Bool.and_eq_true]at hB;refine wp_region_any hm (ED (C:=C) (Q:=fun z w'=>Q .normal z w') (fun _ w' _ h=>h) _ _ _ _ hC ?_);have:=LK (P:=P) (C:=C) (md:=.any) hB.1 D l 0 (Array.replicate l.toArray.size false) a _ hC (by simp) (UY _) (fun j I=>by omega) (by simpa using hB.2) h;simpa using this
end
end Go
end
