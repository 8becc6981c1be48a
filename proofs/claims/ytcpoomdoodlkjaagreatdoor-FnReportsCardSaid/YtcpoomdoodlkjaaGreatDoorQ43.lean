/- Lemmas for CardReports. No condition. -/
import Derived.Test.YtcpoomdoodlkjaaGreatDoorQ42
set_option maxRecDepth 100000
set_option maxHeartbeats 64000000
namespace Go.Proofs.YtcpoomdoodlkjaaGreatDoor
section
open Go.RowKit Go.G5 Go.Proofs.Tryz
def qU(N:Nat)(l:List Int)(i q:Nat):Bool:=cJ (fun k=>!RC N (l.getD i 0) (l.getD k 0)) q
theorem RD{g:Int}{N:Nat}{l:List Int}(z:bJ g l=true)(D:g.toNat=N):mS g l=cJ (fun i=>qU N l i i) l.length:=by
 unfold mS qU;rw[z,D];rfl
theorem LZ(g:Int)(l:List Int)(v:Value)(w:World)(hv:aR w v l)(hf:bJ g l=true):
  Calls prog 108 #[.agg #[g,v]] w fun e w'=>e=.returned (.bool (mS g l))/\Below w w w':=by
 have S:=hv;obtain⟨a,b,h5,c,rfl,g2,b6,hc,hb⟩:=hv.view prog 24 3 underlying24 aS;have g0:=S.capLe;obtain⟨h0,h6,O,e0⟩:=dT hf;obtain⟨N,rfl⟩:=Int.eq_ofNat_of_zero_le h0;have hN:N<=6:=aK;have Y:=RD hf (Int.toNat_natCast N);simp only[Int.toNat_natCast]at O;have K0:=aU.new w 31 #[(N:Int),aI a l.length c];have M:=dF (N:Int) l _ _ (S.alloc (.cells #[(N:Int),aI a l.length c] 31));rw[hf]at M;have HX:=aN Y;have HM:=aN O;have d5:=aN M;have HC:=aN hc;clear Y O e0 M hf hc;go_enter func108,ntmps108;go_wp2_with fail;refine d5.out.mono ?_;rintro e w1 ⟨rfl,b1⟩;have B1:Below w w w1:=(bF _ _).after b1 (by simp);have K1:=K0.keep b1;have G:=K1.cell;clear K0 b1;go_wp2_with fail;clear G;go_loopw [13] (fun iv wr=>∃k:Nat,k<=l.length/\iv=aM k/\cJ (fun i=>qU N l i i) k=true/\Below w1 w1 wr) (fun iv _=>l.length-(intOf iv).toNat)
 case atStart=>exact⟨0,Nat.zero_le _,rfl,rfl,Below.refl _ _⟩
 case round=>
  obtain⟨k,hk,rfl,F,Bw⟩:=hrel;obtain⟨wo,rfl⟩:∃z:World,z=wr:=⟨_,rfl⟩;have H:=aN F;have Z:=B1.after Bw B1.size;have K2:=K1.keep Bw;clear F;by_cases hlt:k<l.length
  ·have c5:(k:Int)<(l.length:Int):=aK;have b8:=HM.out _ (List.getElem_mem hlt);have ck:=aW HC.out hb Z aO k hlt;have ik:=fun W=>b6 W k hlt;have g1:=JK (S.below Z aO) prog 24 3 underlying24 b6 k hk;have G:=K2.cell;obtain⟨x,Y⟩:=aQ (l[k]);have b0:l.getD k 0=x:=by rw[Y];exact aX l k hlt
   rw[<-Y]at b8 ck;have a7:=aN b0;clear Y b0;go_wp2_with fail;clear G;go_loopw [23] (fun jv wr=>∃q:Nat,q<=k/\jv=aM q/\qU N l k q=true/\Below wo wo wr) (fun jv _=>k-(intOf jv).toNat)
   case atStart=>exact⟨0,by omega,rfl,rfl,Below.refl _ _⟩
   case round=>
    obtain⟨q,hq,rfl,b4,Bi⟩:=hrel;obtain⟨wi,rfl⟩:∃z:World,z=wr:=⟨_,rfl⟩;have HI:=aN b4;have B3:=Z.after Bi Z.size;have K3:=K2.keep Bi;clear b4;by_cases e4:q<k
    ·have R:q<l.length:=aK;have c6:(q:Int)<(k:Int):=aK;have b9:=HM.out _ (List.getElem_mem R);have cq:=aW HC.out hb B3 aO q R;obtain⟨y,hy⟩:=aQ (l[q]);have b3:l.getD q 0=y:=by rw[hy];exact aX l q R
     rw[<-hy]at b9 cq;have K:=YN N x y wi hN b8 b9;have a8:=aN b3;have G:=K3.cell;obtain⟨z,hz⟩:=aQ (RC N x y);rw[<-hz]at K;have HZ:=aN hz;have a6:=aN K;clear hy b3 hz K
     cases z with
     |true=>
      have D:mS (N:Int) l=false:=by rw[HX.out];exact dG (p:=fun i=>qU N l i i) hlt (dG (p:=fun k'=>!RC N (l.getD k 0) (l.getD k' 0)) e4 (by rw[a7.out,a8.out,<-HZ.out];rfl))
      have J:=aN D;clear D;go_wp2_with fail;refine a6.out.mono ?_;rintro e w5 ⟨rfl,b5⟩;go_wp2;go_ret;exact⟨aZ J.out.symm,B3.after b5 B3.size⟩
     |false=>
      have I:qU N l k (q+1)=true:=dN (p:=fun k'=>!RC N (l.getD k 0) (l.getD k' 0)) HI.out (by rw[a7.out,a8.out,<-HZ.out];rfl);have d6:=aN I;clear I;go_wp2_with fail;refine a6.out.mono ?_;rintro e w5 ⟨rfl,b5⟩;go_wp2;go_roundw
      case rel=>exact⟨q+1,by omega,by go_num,d6.out,Bi.after b5 Bi.size⟩
      case measure=>simp[intOf];omega
    ·have c6:¬(q:Int)<(k:Int):=aK;have d9:k=q:=aK;have a9:cJ (fun i=>qU N l i i) (k+1)=true:=dN (p:=fun i=>qU N l i i) H.out (by have:=HI.out;rw[<-d9]at this;exact this);have d0:=aN a9;clear a9;go_wp2;go_roundw
     case rel=>exact⟨k+1,by omega,by go_num,d0.out,Bw.after Bi Bw.size⟩
     case measure=>simp[intOf];omega
  ·have c5:¬(k:Int)<(l.length:Int):=aK;have b7:l.length=k:=aK;have D:mS (N:Int) l=true:=by rw[HX.out,b7,H.out]
   have J:=aN D;clear D b7;go_wp2;go_ret;exact⟨aZ J.out.symm,Z⟩
theorem L0(g:Int)(l:List Int)(v:Value)(w:World)(hv:aR w v l)(hf:bJ g l=true):
  Calls prog 120 #[.agg #[g,v]] w fun e w'=>e=.returned (.bool (mS g l))/\Below w w w':=by
 have c6:=hv;obtain⟨a,b,g2,c,rfl,f6,b5,hc,hb⟩:=hv.view prog 24 3 underlying24 aS;obtain⟨h0,h6,Y,d8⟩:=dT hf;obtain⟨N,rfl⟩:=Int.eq_ofNat_of_zero_le h0;have hN:N<=6:=aK;have Z:=RD hf (Int.toNat_natCast N);simp only[Int.toNat_natCast]at Y;have K0:=aU.new w 31 #[(N:Int),aI a l.length c];have S:=fun W (h:aR W (aI a l.length c) l)=>cS (N:Int) l _ W h;simp only[hf]at S;have HX:=aN Z;have HM:=aN Y;have a1:=aN S;have HC:=aN hc;have a8:=aN b5;clear Z Y d8 S hf hc b5;go_enter func120,ntmps120;go_wp2_with fail;go_loopw [3] (fun iv wr=>∃k:Nat,k<=l.length/\iv=aM k/\cJ (fun i=>qU N l i i) k=true/\aU wr w 31 #[(N:Int),aI a l.length c]/\Below w w wr) (fun iv _=>l.length-(intOf iv).toNat)
 case atStart=>exact⟨0,Nat.zero_le _,rfl,rfl,K0,bF _ _⟩
 case round=>
  obtain⟨k,hk,rfl,J,K1,B1⟩:=hrel;obtain⟨wo,rfl⟩:∃z:World,z=wr:=⟨_,rfl⟩;have H:=aN J;have G:=K1.cell;clear J K0;go_wp2_with fail;refine(a1.out wo (c6.below B1 aO)).mono ?_;rintro e w2 ⟨rfl,b2⟩;have M:=B1.after b2 B1.size;have K2:=K1.keep b2;clear G K1 B1 b2;have G:=K2.cell;by_cases hlt:k<l.length
  ·have b9:(k:Int)<(l.length:Int):=aK;have b7:=HM.out _ (List.getElem_mem hlt);have ik:=fun W=>a8.out W k hlt;have d6:=aW HC.out hb M aO k hlt;obtain⟨x,Z⟩:=aQ (l[k]);have b0:l.getD k 0=x:=by rw[Z];exact aX l k hlt
   rw[<-Z]at b7 d6;have a6:=aN b0;clear Z b0;go_wp2_with fail;go_loopw [4] (fun jv wr=>∃(q m:Nat),q<=k/\jv=aM q/\qU N l k q=true/\wr=w2.drewN m) (fun jv _=>k-(intOf jv).toNat)
   case atStart=>exact⟨0,0,by omega,rfl,rfl,rfl⟩
   case round=>
    obtain⟨q,m,hq,rfl,b4,rfl⟩:=hrel;have HI:=aN b4;clear b4;by_cases d9:q<k
    ·have I:q<l.length:=aK;have c5:(q:Int)<(k:Int):=aK;have b8:=HM.out _ (List.getElem_mem I);have cq:=aW HC.out hb M aO q I;have iq:=fun W=>a8.out W q I;obtain⟨y,hy⟩:=aQ (l[q]);have b1:l.getD q 0=y:=by rw[hy];exact aX l q I
     rw[<-hy]at b8 cq;have R:=fun W=>YO N x y W hN b7 b8;have a7:=aN b1;obtain⟨z,hz⟩:=aQ (RC N x y);simp only[<-hz]at R;have HZ:=aN hz;have F:=aN R;clear hy b1 hz R
     cases z with
     |true=>
      have D:mS (N:Int) l=false:=by rw[HX.out];exact dG (p:=fun i=>qU N l i i) hlt (dG (p:=fun k'=>!RC N (l.getD k 0) (l.getD k' 0)) d9 (by rw[a6.out,a7.out,<-HZ.out];rfl))
      have O:=aN D;clear D;go_wp2_with fail;go_quiet ((go_at_call 232;first|exact iX (F.out _)|exact kF (F.out _)));go_wp2;go_ret;exact⟨aZ O.out.symm,(M.drewN' _).drewN' _⟩
     |false=>
      have K:qU N l k (q+1)=true:=dN (p:=fun k'=>!RC N (l.getD k 0) (l.getD k' 0)) HI.out (by rw[a6.out,a7.out,<-HZ.out];rfl);have d0:=aN K;clear K;go_wp2_with fail;go_quiet ((go_at_call 232;first|exact iX (F.out _)|exact kF (F.out _)));go_wp2;go_roundw
      case rel=>exact⟨q+1,m+nq,by omega,by go_num,d0.out,by simp⟩
      case measure=>simp[intOf];omega
    ·have c5:¬(q:Int)<(k:Int):=aK;have d7:k=q:=aK;have a9:cJ (fun i=>qU N l i i) (k+1)=true:=dN (p:=fun i=>qU N l i i) H.out (by have:=HI.out;rw[<-d7]at this;exact this);have c9:=aN a9;clear a9;go_wp2;go_roundw
     case rel=>exact⟨k+1,by omega,by go_num,c9.out,K2.drewN _,M.drewN' _⟩
     case measure=>simp[intOf];omega
  ·have b9:¬(k:Int)<(l.length:Int):=aK;have b6:l.length=k:=aK;have D:mS (N:Int) l=true:=by rw[HX.out,b6,H.out]
   have O:=aN D;clear D b6;go_wp2_with fail;refine(a1.out w2 (c6.below M aO)).mono ?_;rintro e w3 ⟨rfl,b3⟩;go_wp2;go_ret;exact⟨aZ O.out.symm,M.after b3 M.size⟩
theorem acT(w:World)(g:Int)(v:Value)(l:List Int)(hv:aR w v l)(hl:l.length<=1048576):
  Calls prog 222 #[.agg #[g,v]] w fun e w'=>∃ad i I,e=.returned (.tuple #[.agg #[(XP g l),aI ad i I],.bool (bJ g l)])/\dR 3 w.heap.size w' (aI ad i I) (DU g l)/\Below w w w':=by
 obtain⟨a,b,n0,c,rfl,k8,m3,hc,hb⟩:=hv.view prog 24 3 underlying24 aS;go_enter func222,ntmps222;go_wp2_with fail;refine bH ?_;intro V hV;have B:Below w w V:=gD hV;have K1:aU V w 31 #[g,aI a l.length c]:=gO hV;have F:aU V (w.heap.size+1) 31 #[aJ,()]:=gY hV;clear hV;refine(dF g l _ _ (hv.below B aO)).mono ?_;rintro e w1 ⟨rfl,M⟩;have K1:=K1.keep M;have F:=F.keep M;have B1:=B.after M B.size;have m7:=hv.below B1 aO;clear B M;have G1:=K1.cell;have z1:=K1.lt;have z2:=F.lt
 cases O:bJ g l with
 |false=>
  have hN:XP g l=0:=by unfold XP;rw[O];rfl
  have hL:DU g l=[]:=by unfold DU;rw[O];rfl
  have HN:=aN hN;have HL:=aN hL;have HF:=aN O;have G2:=F.cell;have F2:=F.frozen;clear hN hL;go_wp2;refine bG ?_;intro Wf z;have b0:aU Wf (w.heap.size+1) 31 #[aJ,()]:=by rw[z];have:=(F.set 0 (aM 0)).set 1 (aI none 0 0);simpa using this
  have Bf:Below w w Wf:=by rw[z];exact Below.setCell (Below.setCell B1 (by first|omega|(simp;done)|(simp;omega)) _) (by first|omega|(simp;done)|(simp;omega)) _
  have Gf:=b0.cell;clear z G1 G2 F2;exact bodyPost_ret (v:=.tuple #[.agg #[aJ,()],.bool false]) (by simp[results,results222,go_sem,Gf]) rfl ⟨none,0,0,by rw[HN.out,HF.out],by rw[HL.out];exact dR.nil _ _ _,Bf⟩
 |true=>
  obtain⟨h0,h6,hm⟩:=pY O;have k7:=CQ O;have hN:XP g l=g:=by unfold XP;rw[O];rfl
  have hL:DU g l=eD (lC l):=by unfold DU;rw[O];rfl
  have HN:=aN hN;have HL:=aN hL;have HF:=aN O;have HM:=aN hm;clear hN hL O hm;go_wp2_with fail;go_loopw [4,16] (fun out i wr=>∃(k:Nat) (ad:Option Addr) (Y I:Nat),k<=l.length/\out=aI ad Y I/\i=aM k/\aP 3 w1 wr (aI ad Y I) (lC (l.take k))/\Below w1 w1 wr)
   (fun _ i _=>l.length-(intOf i).toNat)
  case atStart=>exact⟨0,none,0,0,Nat.zero_le _,rfl,rfl,aP.nil _ _ _,Below.refl _ _⟩
  case round=>
   obtain⟨k,ad,Y,I,hk,rfl,rfl,ho,B⟩:=hrel;obtain⟨wo,rfl⟩:∃wo:World,wo=wr:=⟨_,rfl⟩;have HO:=aN ho;clear ho;by_cases hlt:k<l.length
   ·have j2:=aW hc hb (B1.after B B1.size) aO k hlt;have R:=HM.out k hlt;have S:=ZY l k hlt;have j6:(lC (l.take k)).length<=6*64:=by have:=DX (l.take k);simp at this;omega
    obtain⟨t,ht⟩:=aQ (l[k]);rw[<-ht]at j2 R S;obtain⟨A,hA⟩:=aQ (lC (l.take k));rw[<-hA]at HO j6 S;have h5:=aN S;have b5:=R.1;have e7:=R.2;clear ht hA S R;have yo:=B.size;go_wp2_with fail;refine(rI t _ b5 e7).mono ?_;rintro e w4 ⟨p4,i4,q4,rfl,o4,b3⟩;have e5:i4=(gX t).length:=o4.ints.capLe.1;have d6:kB (aI ad Y I) (aI p4 i4 q4):=kB.of_lt HO.out.toW o4.toW aO;have e0:=vE t;have J:=WS t;have a6:AO t=(gX t).map (lH t):=rfl;have Z:=aN a6;clear a6;obtain⟨E,hE⟩:=aQ (gX t);rw[<-hE]at Z o4 e5 e0 J;subst e5;have g4:=aN J;have AP:=aN d6;clear hE J d6;obtain⟨a4,i8⟩:=aQ p4;obtain⟨c4,j1⟩:=aQ q4;subst i8 j1;have y4:=b3.size;have g8:=aN (HO.out.keep b3);have B4:=B.after b3 B.size;go_wp2_with fail;go_loopw [4,23] (fun out i wi=>∃(j:Nat) (ad:Option Addr) (Y I:Nat),j<=E.length/\out=aI ad Y I/\i=aM j/\aP 3 w1 wi (aI ad Y I) (A++(E.take j).map (lH t))/\aP 3 wo wi (aI a4 E.length c4) E/\kB (aI ad Y I) (aI a4 E.length c4)/\Below w1 w1 wi)
     (fun _ i _=>E.length-(intOf i).toNat)
    case atStart=>exact⟨0,_,_,_,Nat.zero_le _,rfl,rfl,by simpa using g8.out,o4,AP.out,B4⟩
    case round=>
     obtain⟨j,h8,k1,i1,hj,rfl,rfl,e6,oE,ap,Bi⟩:=hrel;obtain⟨wi,rfl⟩:∃wi:World,wi=wr:=⟨_,rfl⟩;have a9:=aN e6;have c6:=aN ap;clear e6 ap;have yi:=Bi.size;by_cases b4:j<E.length
     ·obtain⟨a5,bj,l1,c5,d9,j5,k6,d7,_⟩:=oE.ints.view prog 24 3 underlying24 aS;simp only[Value.slice.injEq,true_and]at d9;obtain⟨rfl,rfl⟩:=d9;have K:=g4.out _ (List.getElem_mem b4);have d8:=d7 j b4;obtain⟨e,he⟩:∃e:Nat,E[j]=(e:Int):=⟨E[j].toNat,by omega⟩;rw[he]at d8 K;have D:A++(E.take (j+1)).map (lH t)=(A++(E.take j).map (lH t))++[lH t e]:=by rw[List.take_succ_eq_append_getElem b4,List.map_append,List.map_cons,List.map_nil,he,List.append_assoc]
      have hp:=XK e K;have b6:(2:Int)^(e:Int).toNat=2^e:=by simp
      rw[b6]at hp;have j8:bits .andNot .i64 t (2^e)=lH t e:=by unfold lH;rw[b6];exact lV b5 aK aK aK
      have j0:=abR t e ⟨b5,e7⟩;obtain⟨y,hy⟩:=aQ (lH t e);rw[<-hy]at j8 j0 D;have g9:=aN D;have c7:=aN oE;have m4:=hp.1;have m5:=hp.2;have m2:e<6:=aK;have b1:(A++(E.take j).map (lH t)).length<=400:=by simp;omega
      clear d7 D hy b6 he K hp oE;go_wp2_with (at_builtin;refine dI rfl _ _ _ rfl 3 underlying24 aS w1.heap.size _ _ y wi.heap.size rfl rfl (bB wi #[y] 3 0 _ rfl) (a9.out.alloc _) ⟨by omega,by omega⟩ aK aV ?_;intro v' w6 a7 e4 j7;obtain⟨av,nv,cv,rfl⟩:=a7.shape3);have B6:Below w1 w1 w6:=(Bi.alloc Bi.size (.cells #[y] 3)).grown e4 aV (fun q hq=>(a9.out.lt q hq).1);have k3:=((c7.out.alloc (.cells #[y] 3)).growA e4 c6.out);have h9:=j7.apart c6.out (fun k hk=>by have:=(c7.out.lt k hk).2;simp;omega);go_roundw
      case rel=>exact⟨j+1,av,nv,cv,by omega,rfl,by go_num,by rw[g9.out];exact a7,k3,h9,B6⟩
      case measure=>simp[intOf];omega
     ·have b1:A++(E.take j).map (lH t)=lC (l.take (k+1)):=by rw[List.take_of_length_le aK,h5.out,Z.out]
      have g3:=aN b1;clear b1;go_wp2;go_roundw
      case rel=>exact⟨k+1,h8,k1,i1,by omega,rfl,by go_num,by rw[<-g3.out];exact a9.out,Bi⟩
      case measure=>simp[intOf];omega
   ·have j4:k=l.length:=aK;subst j4;have a1:lC (l.take l.length)=lC l:=by rw[List.take_length]
    have hO:aP 3 w1 wo (aI ad Y I) (lC l):=by rw[<-a1];exact HO.out
    have j9:=DX l;obtain⟨A,hA⟩:=aQ (lC l);rw[<-hA]at hO j9;have HO:=aN hO;have HA:=aN hA;have h7:=K1.keep B;have c9:=F.keep B;have BB:=B1.after B B1.size;clear a1 hO hA G1;have G1:=h7.cell;have yB:=BB.size;go_wp2_with fail;refine(JI g _ _ _ HO.out.ints aK).mono ?_;rintro e w7 ⟨p7,i7,q7,rfl,o7,N⟩;have F:=c9.keep N;have B7:=BB.after N BB.size;have G2:=F.cell;have F2:=F.frozen;have n2:=F.lt;have z7:=N.size;clear G1 N;go_wp2;refine bG ?_;intro Wf z;have b0:aU Wf (w.heap.size+1) 31 #[g,aI p7 i7 q7]:=by rw[z];have:=(F.set 0 (aM g)).set 1 (aI p7 i7 q7);simpa using this
    have zo:=c9.lt;have Bf:Below w w Wf:=by rw[z];exact Below.setCell (Below.setCell B7 (by first|omega|(simp;done)|(simp;omega)) _) (by first|omega|(simp;done)|(simp;omega)) _
    have of:dR 3 w.heap.size Wf (aI p7 i7 q7) (eD A):=by rw[z];exact((o7.setBelow (by first|omega|(simp;done)|(simp;omega)) _).setBelow (by first|omega|(simp;done)|(simp;omega)) _).mono (by first|omega|(simp;done)|(simp;omega))
    have Gf:=b0.cell;clear z G2 F2;exact bodyPost_ret (v:=.tuple #[.agg #[g,aI p7 i7 q7],.bool true]) (by simp[results,results222,go_sem,Gf]) rfl ⟨p7,i7,q7,by rw[HN.out,HF.out],by rw[HL.out,<-HA.out];exact of,Bf⟩
theorem U2(w:World)(b:Nat)(g:Int)(l:List Int)(v:Value)(s:Int)(F:aR w v l)(z:l.Pairwise (· < ·))(hl:l.length<=1048576)
  (c0:w.cell? ⟨b,0,none⟩=some (aM g)) (c1:w.cell? ⟨b,1,none⟩=some v):
  Calls prog 224 #[s,.pointer (some ⟨b,0,none⟩)] w fun e w'=>e=.returned (.bool (!fS l s))/\Below w w w':=by
 obtain⟨a,c,rfl⟩:=F.shape;have hcl:=wX g l _ s w F z hl
 cases D:fS l s with
 |false=>rw[D]at hcl;go_enter func224,ntmps224;go_wp2_with (go_at_call 206;refine hcl.mono ?_;rintro e w' ⟨rfl,hb⟩);go_ret;exact⟨rfl,hb⟩
 |true=>rw[D]at hcl;go_enter func224,ntmps224;go_wp2_with (go_at_call 206;refine hcl.mono ?_;rintro e w' ⟨rfl,hb⟩);go_ret;exact⟨rfl,hb⟩
theorem CN:∀args w,(callFunc 224 args).run prog w=.ok (.enter 224 args) w:=enters_of func224 aT rfl
theorem VE(g:Int)(l:List Int)(v:Value)(w:World)(hv:aR w v l)(hl:l.length<=1048576):
  Calls prog 111 #[.agg #[g,v]] w fun e w'=>e=.returned (.bool (oP g l))/\Below w w w':=by
 obtain⟨a,c,rfl⟩:=hv.shape;have d0:∀(fn:Fn) (first cap:Array Value) (w:World),(Instr.makeFunc fn first cap).run prog w=.ok (.func fn first cap) w:=fun _ _ _ _=>rfl;go_enter func111,ntmps111;go_wp2_with fail;refine bH ?_;intro V hV;have B:Below w w V:=fU hV;have R:aU V w 31 #[g,aI a l.length c]:=by rw[hV];exact(aU.new _ _ _)
 clear hV;refine(acT _ g _ l (hv.below B aO) hl).mono ?_;rintro e w1 ⟨M,K,O,rfl,o1,F⟩;have R:=R.keep F;have B1:=B.after F B.size;have b0:=hv.below B1 aO;have hd:=af7 g l;have y1:=B1.size;clear F B
 cases S:bJ g l with
 |false=>
  have hx:oP g l=false:=by rw[<-hd,S];rfl
  have HX:=aN hx;clear hx hd;go_wp2;go_ret;exact⟨by rw[HX.out];rfl,(by repeat(first|exact Below.refl _ _|(with_reducible refine Below.setCell ?_ (by first|omega|(simp;done)|(simp;omega)) _)|(with_reducible refine Below.alloc ?_ (by first|omega|(simp;done)|(simp;omega)) _)|(with_reducible refine Below.drewN' ?_ _)|(with_reducible refine Below.drew ?_)|(with_reducible assumption)|refine Below.trans ?_ (Below.mono (by assumption) (by first|omega|(simp;done)|(simp;omega)))))⟩
 |true=>
  rw[S,Bool.true_and]at hd;have z:=(dT S).2.2.2;have a8:=ag3 g l;obtain⟨N,hN⟩:=aQ (XP g l);obtain⟨L,hL⟩:=aQ (DU g l);rw[<-hN];rw[<-hL]at o1 hd a8;have I:∀W,aR W (aI M K O) L->aR W (aI a l.length c) l->W.cell? ⟨w.heap.size,0,none⟩=some (aM g)->W.cell? ⟨w.heap.size,1,none⟩=some (aI a l.length c) ->
    Calls prog 223 #[aI M K O,.func (.func 224) #[] #[.pointer (some ⟨w,0,none⟩)]] W fun e w'=>e=.returned (.bool (L.any fun s=>!fS l s))/\Below W W w':=
   fun W hW a7 h0 h1=>xL L _ W hW 224 CN w.heap.size (fun s=>!fS l s) (fun t W' _ hB=>U2 W' w.heap.size g l _ t (a7.keep hB) z hl (keep hB h0) (keep hB h1))
  obtain⟨bb,J⟩:=aQ (L.any fun s=>!fS l s);rw[<-J]at hd I;have HD:=aN hd;have Y:=aN I;have z1:=R.lt;have D:=R.alloc (.cells #[N,aI M K O] 31);have g0:(w1.alloc (.cells #[N,aI M K O] 31)).cell? ⟨w.heap.size,0,none⟩=some (aM g):=D.cell 0;have g1:(w1.alloc (.cells #[N,aI M K O] 31)).cell? ⟨w.heap.size,1,none⟩=some (aI a l.length c):=D.cell 1;have Z:=aN g0;have a1:=aN g1;clear hd I J hL hN S z D g0 g1;go_wp2_with (go_at_call 223;refine(Y.out _ (o1.alloc _).ints (b0.alloc _) Z.out a1.out).mono ?_;rintro e w3 ⟨rfl,c9⟩);go_ret;exact⟨aZ HD.out,(by repeat(first|exact Below.refl _ _|(with_reducible refine Below.setCell ?_ (by first|omega|(simp;done)|(simp;omega)) _)|(with_reducible refine Below.alloc ?_ (by first|omega|(simp;done)|(simp;omega)) _)|(with_reducible refine Below.drewN' ?_ _)|(with_reducible refine Below.drew ?_)|(with_reducible assumption)|refine Below.trans ?_ (Below.mono (by assumption) (by first|omega|(simp;done)|(simp;omega)))))⟩
theorem IX(P:Nat->Bool)(n:Nat)(x:Int):x∈bW P n↔∃e:Nat,e<n/\P e=true/\x=(e:Int):=by
 unfold bW;simp only[List.mem_map,List.mem_filter,List.mem_range];constructor
 ·rintro⟨e,⟨h1,h2⟩,rfl⟩;exact⟨e,h1,h2,rfl⟩
 ·rintro⟨e,h1,h2,rfl⟩;exact⟨e,⟨h1,h2⟩,rfl⟩
theorem YQ(l:List Int)(s n:Nat)(I:n<=6)(F:s<2^n):lT l (s:Int)=true↔∀e,e<n->dC s e=true->fS l ((s:Int)-2^e)=true:=by
 have D:gX (s:Int)=bW (dC s) n:=by unfold gX;rw[show((s:Int)).toNat=s by omega];exact uP s 6 n (Nat.lt_of_lt_of_le F (Nat.pow_le_pow_right aY I)) F
 unfold lT;rw[D,List.all_eq_true];constructor
 ·intro h e z hb;have:=h (e:Int) ((IX _ _ _).2 ⟨e,z,hb,rfl⟩);simpa using this
 ·intro h x J;obtain⟨e,z,hb,rfl⟩:=(IX _ _ _).1 J;have:=h e z hb;simpa using this
theorem VF(g:Int)(l:List Int)(v:Value)(w:World)(hv:aR w v l)(hl:l.length<=1048576):
  Calls prog 123 #[.agg #[g,v]] w fun e w'=>e=.returned (.bool (oP g l))/\Below w w w':=by
 have N:=hv;obtain⟨a,b,g8,c,rfl,f3,e5,hc,hb⟩:=hv.view prog 24 3 underlying24 aS;have K0:=aU.new w 31 #[g,aI a l.length c]
 cases R:bJ g l with
 |false=>
  have hx:oP g l=false:=by unfold oP;rw[R];rfl
  have HX:=aN hx;have HF:=aN R;clear hx R;go_enter func123,ntmps123;go_wp2_with fail;go_loopw [3] (fun i wr=>i=aM 0/\Below w w wr/\aU wr w 31 #[g,aI a l.length c]) (fun _ _=>0)
  case atStart=>exact⟨rfl,bF _ _,K0⟩
  case round=>obtain⟨rfl,B,J⟩:=hrel;have Y:=J.cell;go_wp2_with fail;refine(cS g l _ _ (N.below B aO)).mono ?_;rintro e w2 ⟨rfl,F⟩;rw[HF.out];have J:=J.keep F;have O:=B.after F B.size;clear Y;have Y:=J.cell;go_wp2_with fail;refine(cS g l _ _ (N.below O aO)).mono ?_;rintro e w3 ⟨rfl,a9⟩;rw[HF.out];go_wp2;go_ret;exact⟨aZ HX.out.symm,O.after a9 O.size⟩
 |true=>
  have hx:oP g l=l.all (lT l):=by unfold oP;rw[R];rfl
  obtain⟨h0,h6,hm⟩:=pY R;obtain⟨_,_,c7,_⟩:=dT R;obtain⟨n,rfl⟩:=Int.eq_ofNat_of_zero_le h0;have e7:n<=6:=aK;have f2:=CQ R;have HX:=aN hx;have HF:=aN R;have HM:=aN hm;have d9:=aN c7;clear hx R hm c7;go_enter func123,ntmps123;go_wp2_with fail;go_loopw [3] (fun i wr=>∃k:Nat,k<=l.length/\i=aM k/\(l.take k).all (lT l)=true/\Below w w wr/\aU wr w 31 #[n,aI a l.length c]) (fun i _=>l.length-(intOf i).toNat)
  case atStart=>exact⟨0,Nat.zero_le _,rfl,by simp,bF _ _,K0⟩
  case round=>
   obtain⟨k,hk,rfl,a1,B,J⟩:=hrel;obtain⟨wo,rfl⟩:∃wo:World,wo=wr:=⟨_,rfl⟩;have Z:=aN a1;clear a1 K0;have Y:=J.cell;go_wp2_with fail;refine(cS n l _ _ (N.below B aO)).mono ?_;rintro e w2 ⟨rfl,F⟩;rw[HF.out];have J:=J.keep F;have O:=B.after F B.size;clear Y F B;by_cases hlt:k<l.length
   ·have b1:=HM.out k hlt
    have D:=d9.out _ (List.getElem_mem hlt);have b3:=gW (lT l) l k hlt;obtain⟨t,ht⟩:∃t:Nat,l[k]=(t:Int):=⟨l[k].toNat,by omega⟩;have c8:t<2^n:=by
     rw[ht]at D;have e2:(n:Int).toNat=n:=aK;rw[e2]at D
     exact_mod_cast D.2
    have c6:=YQ l t n e7 c8;have z:=fun W (hB:Below w w W)=>aW hc hb hB aO k hlt;rw[ht]at b3 b1;simp only[ht]at z;have b5:=aN c6;have e0:=aN b3;have HC:=aN z;have g6:=b1.2;have HT:=aN ht;clear b3 c6 D z ht b1 c8;have f0:=fun W=>e5 W k hlt;have Y:=J.cell;go_wp2_with fail;go_loopw [4] (fun i wr=>∃e:Nat,e<=n/\i=aM e/\(∀d,d<e->dC t d=true->fS l ((t:Int)-2^d)=true)/\Below w w wr/\aU wr w 31 #[n,aI a l.length c]) (fun i _=>n-(intOf i).toNat)
    case atStart=>exact⟨0,Nat.zero_le _,rfl,by simp,O,J⟩
    case round=>
     obtain⟨j,hj,rfl,c5,Bi,Ki⟩:=hrel;obtain⟨wi,rfl⟩:∃wi:World,wi=wr:=⟨_,rfl⟩;have a8:=aN c5;clear c5 Y J O;have Y:=Ki.cell;have g2:=HC.out wi Bi;have S:=N.below Bi aO;by_cases e6:j<n
     ·have b9:=jO (t:Int) j aK aK;have M:=uC t j;obtain⟨y,hy⟩:=aQ (dO (t:Int) j);rw[<-hy]at b9 M;have hp:=XK (j:Int) aK;have c9:(2:Int)^(j:Int).toNat=2^j:=by simp
      rw[c9]at hp;have g4:=hp.1;have g5:=hp.2;clear hp c9 hy;have g3:j<6:=aK
      cases I:dC t j with
      |false=>
       have e8:(y==1)=false:=by rw[M,I]
       have a7:=aN I;clear I M;go_wp2_with fail;go_quiet (fail);go_wp2;go_roundw
       case rel=>exact⟨j+1,by omega,by go_num,fun d hd K=>by
         by_cases h:d<j
         ·exact a8.out d h K
         ·have:d=j:=aK;subst this;rw[a7.out]at K;exact Bool.noConfusion K,Bi.drewN' _,Ki.drewN _⟩
       case measure=>simp[intOf];omega
      |true=>
       have e8:(y==1)=true:=by rw[M,I]
       have a7:=aN I;clear I M;have g7:IntKind.i64.wrap ((t:Int)-2^j)=(t:Int)-2^j:=by rw[IntKind.wrap_i64];omega
       cases hh:fS l ((t:Int)-2^j) with
       |false=>
        go_wp2_with fail;go_quiet ((go_at_call 210;first|exact nW (kT l _ _ _ (S.drewN _)) hh|exact rT (kT l _ _ _ (S.drewN _)) hh));go_wp2;go_ret;refine⟨aZ ?_,Bi.drewN' _⟩;rw[HX.out];have:lT l l[k]=false:=by
         rw[HT.out]
         cases hd:lT l (t:Int) with
         |false=>rfl
         |true=>have:=b5.out.1 hd j e6 a7.out;rw[hh]at this;cases this
        exact(jM _ _ _ hlt this).symm
       |true=>
        have HH:=aN hh;go_wp2_with fail;go_quiet ((go_at_call 210;first|exact nW (kT l _ _ _ (S.drewN _)) hh|exact rT (kT l _ _ _ (S.drewN _)) hh));clear hh;go_wp2;go_roundw
        case rel=>exact⟨j+1,by omega,by go_num,fun d hd K=>by
          by_cases h:d<j
          ·exact a8.out d h K
          ·have:d=j:=aK;subst this;exact HH.out,Bi.drewN' _,Ki.drewN _⟩
        case measure=>simp[intOf];omega
     ·have a6:lT l (t:Int)=true:=b5.out.2 (fun e he hb=>a8.out e aK hb);have b7:=aN a6;clear a6;go_wp2;go_roundw
      case rel=>exact⟨k+1,by omega,by go_num,by rw[e0.out,Z.out,b7.out];rfl,Bi,Ki⟩
      case measure=>simp[intOf];omega
   ·have b8:l.all (lT l)=true:=by rw[<-kP (lT l) l k aK,Z.out]
    have d8:=aN b8;clear b8;have Y:=J.cell;go_wp2_with fail;refine(cS n l _ _ (N.below O aO)).mono ?_;rintro e w3 ⟨rfl,a9⟩;rw[HF.out];go_wp2;go_ret;exact⟨aZ (by rw[HX.out,d8.out]),O.after a9 O.size⟩
theorem SM(w:World)(g:Int)(v:Value)(l:List Int)(hv:aR w v l)(hf:bJ g l=true):
  Calls prog 112 #[.agg #[g,v]] w fun r w'=>r=.returned (.bool (wL g l))/\Below w w w':=by
 have d5:=hv;obtain⟨p,bb,g8,c,rfl,c9,c8,hc,hb⟩:=hv.view prog 24 3 underlying24 aS;have hm:=dY hf;have hl:=jT hf;have S:=(dT hf).2.2.2;obtain⟨V,hV⟩:=aQ (w.alloc (.cells #[g,aI p l.length c] 31));have B:Below w w V:=fU hV;have K1:aU V w 31 #[g,aI p l.length c]:=eJ hV;have c7:∀W,W=V->Calls prog 101 #[.agg #[g,aI p l.length c]] W fun e w'=>e=.returned (.bool true)/\Below W W w':=fun W h=>by rw[h];have:=dF g l _ V (d5.below B aO);rw[hf]at this;exact this
 have hex:=fun(W:World) (h:aR W (aI p l.length c) l) (a b:Int) (ha:0<=a/\a<64) (hb:0<=b/\b<64)=>MI W g _ l h S aK a b ha hb;have hx:wL g l=(!l.isEmpty&&l.all fun a=>l.all (nL l a)):=by unfold wL;rw[hf,Bool.true_and]
 have HV:=aN hV;have e7:=aN c7;have e5:=aN hex;have HX:=aN hx;have HM:=aN hm;have HC:=aN hc;have b4:=aN c8;clear hV c7 hex hx hm hf S hc c8 c9;go_enter func112,ntmps112;go_wp2_with fail;refine(e7.out _ HV.out.symm).mono ?_;rintro e w1 ⟨rfl,b1⟩;rw[HV.out.symm]at b1;have B1:=B.after b1 B.size;have b8:=K1.keep b1;have G:=b8.cell;by_cases h0:l.length=0
 ·have f5:((l.length:Int)==0)=true:=by rw[beq_iff_eq];omega
  have M:wL g l=false:=by rw[HX.out,List.eq_nil_of_length_eq_zero h0];rfl
  have N:=aN M;clear M;go_wp2;go_ret;exact⟨aZ N.out.symm,B1⟩
 ·have f5:((l.length:Int)==0)=false:=by rw[beq_eq_false_iff_ne];omega
  have M:wL g l=l.all fun a=>l.all (nL l a):=by
   rw[HX.out];have:l.isEmpty=false:=by cases l with|nil=>simp at h0|cons _ _=>rfl
   rw[this];rfl
  have N:=aN M;clear M;go_wp2_with fail;clear G;go_loopw [19] (fun iv wr=>∃j:Nat,j<=l.length/\iv=aM j/\(l.take j).all (fun a=>l.all (nL l a))=true/\Below w1 w1 wr) (fun iv _=>l.length-(intOf iv).toNat)
  case atStart=>exact⟨0,Nat.zero_le _,rfl,by simp,Below.refl _ _⟩
  case round=>
   obtain⟨j,hj,rfl,D,Bw⟩:=hrel;have R:=aN D;clear D;have B2:=B1.after Bw B1.size;have b9:=b8.keep Bw;have z3:=Bw.size;by_cases hlt:j<l.length
   ·have Y:(j:Int)<(l.length:Int):=aK;have ck:=aW HC.out hb B2 aO j hlt;have ik:=fun W=>b4.out W j hlt;have ha:=HM.out _ (List.getElem_mem hlt);have F:(l.take (j+1)).all (fun a=>l.all (nL l a))=l.all (nL l l[j]):=by rw[List.take_succ_eq_append_getElem hlt,List.all_append,R.out];simp
    obtain⟨a,a1⟩:=aQ (l[j]);rw[<-a1]at ck ha F;have Z:a∈l:=by rw[a1];exact List.getElem_mem hlt
    have b6:=aN Z;have f0:=aN F;clear F a1 Z;have G:=b9.cell;go_wp2_with fail;clear G;go_loopw [26] (fun iv wq=>∃k:Nat,k<=l.length/\iv=aM k/\(l.take k).all (nL l a)=true/\Below wr wr wq) (fun iv _=>l.length-(intOf iv).toNat)
    case atStart=>exact⟨0,Nat.zero_le _,rfl,by simp,Below.refl _ _⟩
    case round=>
     obtain⟨k,hk,rfl,D,Bq⟩:=hrel;have I:=aN D;clear D ck ik Y;have b0:=Bw.after Bq z3;have B3:=B1.after b0 B1.size;have f2:=b9.keep Bq;by_cases J:k<l.length
     ·have d0:(k:Int)<(l.length:Int):=aK;have ck:=aW HC.out hb B3 aO k J;have ik:=fun W=>b4.out W k J;have c5:=HM.out _ (List.getElem_mem J);have F:=show(l.take (k+1)).all (nL l a)=nL l a l[k] by rw[List.take_succ_eq_append_getElem J,List.all_append,I.out];simp
      obtain⟨b,a6⟩:=aQ (l[k]);rw[<-a6]at ck c5 F;have K:b∈l:=by rw[a6];exact List.getElem_mem J
      have hcl:=e5.out wr (d5.below B3 aO) a b ha c5;obtain⟨z,hz⟩:=aQ (nL l a b);rw[<-hz]at hcl F;have b3:=aN hcl;have b7:=aN F;have HZ:=aN hz;have e9:=aN K;clear hcl F hz K a6;have G:=f2.cell
      cases z with
      |true=>
       go_wp2_with fail;refine b3.out.mono ?_;rintro r w5 ⟨rfl,b5⟩;go_wp2;go_roundw
       case rel=>exact⟨k+1,by omega,by go_num,by rw[b7.out],Bq.after b5 Bq.size⟩
       case measure=>simp[intOf];omega
      |false=>
       have c6:wL g l=false:=by
        rw[N.out]
        cases O:(l.all fun a=>l.all (nL l a)) with
        |false=>rfl
        |true=>
         have h1:=List.all_eq_true.1 O _ b6.out;have h2:=List.all_eq_true.1 h1 _ e9.out;rw[<-HZ.out]at h2
         cases h2
       have e6:=aN c6;clear c6;go_wp2_with fail;refine b3.out.mono ?_;rintro r w5 ⟨rfl,b5⟩;go_wp2;go_ret;exact⟨aZ e6.out.symm,B3.after b5 B3.size⟩
     ·have d0:¬(k:Int)<(l.length:Int):=aK;have O:=I.out;rw[List.take_of_length_le aK]at O;have HH:=aN O;clear O;go_wp2;go_roundw
      case rel=>exact⟨j+1,by omega,by go_num,by rw[f0.out,HH.out],b0⟩
      case measure=>simp[intOf];omega
   ·have Y:¬(j:Int)<(l.length:Int):=aK;have O:=R.out;rw[List.take_of_length_le aK]at O;have HH:=aN O;clear O;go_wp2;go_ret;exact⟨aZ (by rw[N.out,HH.out]),B2⟩
end
end Go.Proofs.YtcpoomdoodlkjaaGreatDoor
