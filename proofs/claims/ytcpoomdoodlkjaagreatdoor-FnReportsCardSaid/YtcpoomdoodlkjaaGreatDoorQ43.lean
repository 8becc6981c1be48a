/- Lemmas for CardReports. No condition. -/
import Derived.Test.YtcpoomdoodlkjaaGreatDoorQ42
set_option maxRecDepth 100000
set_option maxHeartbeats 64000000
namespace Go.Proofs.YtcpoomdoodlkjaaGreatDoor
section
open Go.RowKit Go.G5 Go.Proofs.Tryz
def qP(N:Nat)(l:List Int)(i q:Nat):Bool:=bY (fun k=>!Q8 N (l.getD i 0) (l.getD k 0)) q
theorem Q9{g:Int}{N:Nat}{l:List Int}(z:bF g l=true)(D:g.toNat=N):mP g l=bY (fun i=>qP N l i i) l.length:=by
 unfold mP qP;rw[z,D];rfl
theorem LU(g:Int)(l:List Int)(v:Value)(w:World)(hv:aO w v l)(hf:bF g l=true):
  Calls prog 108 #[.agg #[g,v]] w fun e w'=>e=.returned (.bool (mP g l))/\Below w w w':=by
 have S:=hv;obtain⟨a,b,h5,c,rfl,g2,b6,hc,hb⟩:=hv.view prog 24 3 underlying24 aP;have g0:=S.capLe;obtain⟨h0,h6,O,e0⟩:=dQ hf;obtain⟨N,rfl⟩:=Int.eq_ofNat_of_zero_le h0;have hN:N<=6:=aI;have Y:=Q9 hf (Int.toNat_natCast N);simp only[Int.toNat_natCast]at O;have K0:=aR.new w 31 #[(N:Int),ajH a l.length c];have M:=dC (N:Int) l _ _ (S.alloc (.cells #[(N:Int),ajH a l.length c] 31));rw[hf]at M;have HX:=aJ Y;have HM:=aJ O;have d5:=aJ M;have HC:=aJ hc;clear Y O e0 M hf hc;go_enter func108,ntmps108;go_wp2_with fail;refine d5.out.mono ?_;rintro e w1 ⟨rfl,b1⟩;have B1:Below w w w1:=(aY _ _).after b1 (by simp);have K1:=K0.keep b1;have G:=K1.cell;clear K0 b1;go_wp2_with fail;clear G;go_loopw [13] (fun iv wr=>∃k:Nat,k<=l.length/\iv=ajJ k/\bY (fun i=>qP N l i i) k=true/\Below w1 w1 wr) (fun iv _=>l.length-(intOf iv).toNat)
 case atStart=>exact⟨0,Nat.zero_le _,rfl,rfl,Below.refl _ _⟩
 case round=>
  obtain⟨k,hk,rfl,F,Bw⟩:=hrel;obtain⟨wo,rfl⟩:∃z:World,z=wr:=⟨_,rfl⟩;have H:=aJ F;have Z:=B1.after Bw B1.size;have K2:=K1.keep Bw;clear F;by_cases hlt:k<l.length
  ·have c5:(k:Int)<(l.length:Int):=aI;have b8:=HM.out _ (List.getElem_mem hlt);have ck:=aT HC.out hb Z aK k hlt;have ik:=fun W=>b6 W k hlt;have g1:=JG (S.below Z aK) prog 24 3 underlying24 b6 k hk;have G:=K2.cell;obtain⟨x,Y⟩:=aN (l[k]);have b0:l.getD k 0=x:=by rw[Y];exact aU l k hlt
   rw[<-Y]at b8 ck;have a7:=aJ b0;clear Y b0;go_wp2_with fail;clear G;go_loopw [23] (fun jv wr=>∃q:Nat,q<=k/\jv=ajJ q/\qP N l k q=true/\Below wo wo wr) (fun jv _=>k-(intOf jv).toNat)
   case atStart=>exact⟨0,by omega,rfl,rfl,Below.refl _ _⟩
   case round=>
    obtain⟨q,hq,rfl,b4,Bi⟩:=hrel;obtain⟨wi,rfl⟩:∃z:World,z=wr:=⟨_,rfl⟩;have HI:=aJ b4;have B3:=Z.after Bi Z.size;have K3:=K2.keep Bi;clear b4;by_cases e4:q<k
    ·have R:q<l.length:=aI;have c6:(q:Int)<(k:Int):=aI;have b9:=HM.out _ (List.getElem_mem R);have cq:=aT HC.out hb B3 aK q R;obtain⟨y,hy⟩:=aN (l[q]);have b3:l.getD q 0=y:=by rw[hy];exact aU l q R
     rw[<-hy]at b9 cq;have K:=YJ N x y wi hN b8 b9;have a8:=aJ b3;have G:=K3.cell;obtain⟨z,hz⟩:=aN (Q8 N x y);rw[<-hz]at K;have HZ:=aJ hz;have a6:=aJ K;clear hy b3 hz K
     cases z with
     |true=>
      have D:mP (N:Int) l=false:=by rw[HX.out];exact dD (p:=fun i=>qP N l i i) hlt (dD (p:=fun k'=>!Q8 N (l.getD k 0) (l.getD k' 0)) e4 (by rw[a7.out,a8.out,<-HZ.out];rfl))
      have J:=aJ D;clear D;go_wp2_with fail;refine a6.out.mono ?_;rintro e w5 ⟨rfl,b5⟩;go_wp2;go_ret;exact⟨aW J.out.symm,B3.after b5 B3.size⟩
     |false=>
      have I:qP N l k (q+1)=true:=dK (p:=fun k'=>!Q8 N (l.getD k 0) (l.getD k' 0)) HI.out (by rw[a7.out,a8.out,<-HZ.out];rfl);have d6:=aJ I;clear I;go_wp2_with fail;refine a6.out.mono ?_;rintro e w5 ⟨rfl,b5⟩;go_wp2;go_roundw
      case rel=>exact⟨q+1,by omega,by go_num,d6.out,Bi.after b5 Bi.size⟩
      case measure=>simp[intOf];omega
    ·have c6:¬(q:Int)<(k:Int):=aI;have d9:k=q:=aI;have a9:bY (fun i=>qP N l i i) (k+1)=true:=dK (p:=fun i=>qP N l i i) H.out (by have:=HI.out;rw[<-d9]at this;exact this);have d0:=aJ a9;clear a9;go_wp2;go_roundw
     case rel=>exact⟨k+1,by omega,by go_num,d0.out,Bw.after Bi Bw.size⟩
     case measure=>simp[intOf];omega
  ·have c5:¬(k:Int)<(l.length:Int):=aI;have b7:l.length=k:=aI;have D:mP (N:Int) l=true:=by rw[HX.out,b7,H.out]
   have J:=aJ D;clear D b7;go_wp2;go_ret;exact⟨aW J.out.symm,Z⟩
theorem LW(g:Int)(l:List Int)(v:Value)(w:World)(hv:aO w v l)(hf:bF g l=true):
  Calls prog 120 #[.agg #[g,v]] w fun e w'=>e=.returned (.bool (mP g l))/\Below w w w':=by
 have c6:=hv;obtain⟨a,b,g2,c,rfl,f6,b5,hc,hb⟩:=hv.view prog 24 3 underlying24 aP;obtain⟨h0,h6,Y,d8⟩:=dQ hf;obtain⟨N,rfl⟩:=Int.eq_ofNat_of_zero_le h0;have hN:N<=6:=aI;have Z:=Q9 hf (Int.toNat_natCast N);simp only[Int.toNat_natCast]at Y;have K0:=aR.new w 31 #[(N:Int),ajH a l.length c];have S:=fun W (h:aO W (ajH a l.length c) l)=>cP (N:Int) l _ W h;simp only[hf]at S;have HX:=aJ Z;have HM:=aJ Y;have a1:=aJ S;have HC:=aJ hc;have a8:=aJ b5;clear Z Y d8 S hf hc b5;go_enter func120,ntmps120;go_wp2_with fail;go_loopw [3] (fun iv wr=>∃k:Nat,k<=l.length/\iv=ajJ k/\bY (fun i=>qP N l i i) k=true/\aR wr w 31 #[(N:Int),ajH a l.length c]/\Below w w wr) (fun iv _=>l.length-(intOf iv).toNat)
 case atStart=>exact⟨0,Nat.zero_le _,rfl,rfl,K0,aY _ _⟩
 case round=>
  obtain⟨k,hk,rfl,J,K1,B1⟩:=hrel;obtain⟨wo,rfl⟩:∃z:World,z=wr:=⟨_,rfl⟩;have H:=aJ J;have G:=K1.cell;clear J K0;go_wp2_with fail;refine(a1.out wo (c6.below B1 aK)).mono ?_;rintro e w2 ⟨rfl,b2⟩;have M:=B1.after b2 B1.size;have K2:=K1.keep b2;clear G K1 B1 b2;have G:=K2.cell;by_cases hlt:k<l.length
  ·have b9:(k:Int)<(l.length:Int):=aI;have b7:=HM.out _ (List.getElem_mem hlt);have ik:=fun W=>a8.out W k hlt;have d6:=aT HC.out hb M aK k hlt;obtain⟨x,Z⟩:=aN (l[k]);have b0:l.getD k 0=x:=by rw[Z];exact aU l k hlt
   rw[<-Z]at b7 d6;have a6:=aJ b0;clear Z b0;go_wp2_with fail;go_loopw [4] (fun jv wr=>∃(q m:Nat),q<=k/\jv=ajJ q/\qP N l k q=true/\wr=w2.drewN m) (fun jv _=>k-(intOf jv).toNat)
   case atStart=>exact⟨0,0,by omega,rfl,rfl,rfl⟩
   case round=>
    obtain⟨q,m,hq,rfl,b4,rfl⟩:=hrel;have HI:=aJ b4;clear b4;by_cases d9:q<k
    ·have I:q<l.length:=aI;have c5:(q:Int)<(k:Int):=aI;have b8:=HM.out _ (List.getElem_mem I);have cq:=aT HC.out hb M aK q I;have iq:=fun W=>a8.out W q I;obtain⟨y,hy⟩:=aN (l[q]);have b1:l.getD q 0=y:=by rw[hy];exact aU l q I
     rw[<-hy]at b8 cq;have R:=fun W=>YK N x y W hN b7 b8;have a7:=aJ b1;obtain⟨z,hz⟩:=aN (Q8 N x y);simp only[<-hz]at R;have HZ:=aJ hz;have F:=aJ R;clear hy b1 hz R
     cases z with
     |true=>
      have D:mP (N:Int) l=false:=by rw[HX.out];exact dD (p:=fun i=>qP N l i i) hlt (dD (p:=fun k'=>!Q8 N (l.getD k 0) (l.getD k' 0)) d9 (by rw[a6.out,a7.out,<-HZ.out];rfl))
      have O:=aJ D;clear D;go_wp2_with fail;go_quiet ((go_at_call 232;first|exact iU (F.out _)|exact kC (F.out _)));go_wp2;go_ret;exact⟨aW O.out.symm,(M.drewN' _).drewN' _⟩
     |false=>
      have K:qP N l k (q+1)=true:=dK (p:=fun k'=>!Q8 N (l.getD k 0) (l.getD k' 0)) HI.out (by rw[a6.out,a7.out,<-HZ.out];rfl);have d0:=aJ K;clear K;go_wp2_with fail;go_quiet ((go_at_call 232;first|exact iU (F.out _)|exact kC (F.out _)));go_wp2;go_roundw
      case rel=>exact⟨q+1,m+nq,by omega,by go_num,d0.out,by simp⟩
      case measure=>simp[intOf];omega
    ·have c5:¬(q:Int)<(k:Int):=aI;have d7:k=q:=aI;have a9:bY (fun i=>qP N l i i) (k+1)=true:=dK (p:=fun i=>qP N l i i) H.out (by have:=HI.out;rw[<-d7]at this;exact this);have c9:=aJ a9;clear a9;go_wp2;go_roundw
     case rel=>exact⟨k+1,by omega,by go_num,c9.out,K2.drewN _,M.drewN' _⟩
     case measure=>simp[intOf];omega
  ·have b9:¬(k:Int)<(l.length:Int):=aI;have b6:l.length=k:=aI;have D:mP (N:Int) l=true:=by rw[HX.out,b6,H.out]
   have O:=aJ D;clear D b6;go_wp2_with fail;refine(a1.out w2 (c6.below M aK)).mono ?_;rintro e w3 ⟨rfl,b3⟩;go_wp2;go_ret;exact⟨aW O.out.symm,M.after b3 M.size⟩
theorem acO(w:World)(g:Int)(v:Value)(l:List Int)(hv:aO w v l)(hl:l.length<=1048576):
  Calls prog 222 #[.agg #[g,v]] w fun e w'=>∃ad i I,e=.returned (.tuple #[.agg #[(XL g l),ajH ad i I],.bool (bF g l)])/\dO 3 w.heap.size w' (ajH ad i I) (DR g l)/\Below w w w':=by
 obtain⟨a,b,n0,c,rfl,k8,m3,hc,hb⟩:=hv.view prog 24 3 underlying24 aP;go_enter func222,ntmps222;go_wp2_with fail;refine bB ?_;intro V hV;have B:Below w w V:=fY hV;have K1:aR V w 31 #[g,ajH a l.length c]:=gL hV;have F:aR V (w.heap.size+1) 31 #['0',()]:=gV hV;clear hV;refine(dC g l _ _ (hv.below B aK)).mono ?_;rintro e w1 ⟨rfl,M⟩;have K1:=K1.keep M;have F:=F.keep M;have B1:=B.after M B.size;have m7:=hv.below B1 aK;clear B M;have G1:=K1.cell;have z1:=K1.lt;have z2:=F.lt
 cases O:bF g l with
 |false=>
  have hN:XL g l=0:=by unfold XL;rw[O];rfl
  have hL:DR g l=[]:=by unfold DR;rw[O];rfl
  have HN:=aJ hN;have HL:=aJ hL;have HF:=aJ O;have G2:=F.cell;have F2:=F.frozen;clear hN hL;go_wp2;refine aZ ?_;intro Wf z;have b0:aR Wf (w.heap.size+1) 31 #['0',()]:=by rw[z];have:=(F.set 0 (ajJ 0)).set 1 (ajH none 0 0);simpa using this
  have Bf:Below w w Wf:=by rw[z];exact Below.setCell (Below.setCell B1 (by first|omega|(simp;done)|(simp;omega)) _) (by first|omega|(simp;done)|(simp;omega)) _
  have Gf:=b0.cell;clear z G1 G2 F2;exact bodyPost_ret (v:=.tuple #[.agg #['0',()],.bool false]) (by simp[results,results222,go_sem,Gf]) rfl ⟨none,0,0,by rw[HN.out,HF.out],by rw[HL.out];exact dO.nil _ _ _,Bf⟩
 |true=>
  obtain⟨h0,h6,hm⟩:=pV O;have k7:=CN O;have hN:XL g l=g:=by unfold XL;rw[O];rfl
  have hL:DR g l=dZ (kZ l):=by unfold DR;rw[O];rfl
  have HN:=aJ hN;have HL:=aJ hL;have HF:=aJ O;have HM:=aJ hm;clear hN hL O hm;go_wp2_with fail;go_loopw [4,16] (fun out i wr=>∃(k:Nat) (ad:Option Addr) (Y I:Nat),k<=l.length/\out=ajH ad Y I/\i=ajJ k/\aM 3 w1 wr (ajH ad Y I) (kZ (l.take k))/\Below w1 w1 wr)
   (fun _ i _=>l.length-(intOf i).toNat)
  case atStart=>exact⟨0,none,0,0,Nat.zero_le _,rfl,rfl,aM.nil _ _ _,Below.refl _ _⟩
  case round=>
   obtain⟨k,ad,Y,I,hk,rfl,rfl,ho,B⟩:=hrel;obtain⟨wo,rfl⟩:∃wo:World,wo=wr:=⟨_,rfl⟩;have HO:=aJ ho;clear ho;by_cases hlt:k<l.length
   ·have j2:=aT hc hb (B1.after B B1.size) aK k hlt;have R:=HM.out k hlt;have S:=ZU l k hlt;have j6:(kZ (l.take k)).length<=6*64:=by have:=DU (l.take k);simp at this;omega
    obtain⟨t,ht⟩:=aN (l[k]);rw[<-ht]at j2 R S;obtain⟨A,hA⟩:=aN (kZ (l.take k));rw[<-hA]at HO j6 S;have h5:=aJ S;have b5:=R.1;have e7:=R.2;clear ht hA S R;have yo:=B.size;go_wp2_with fail;refine(rF t _ b5 e7).mono ?_;rintro e w4 ⟨p4,i4,q4,rfl,o4,b3⟩;have e5:i4=(gU t).length:=o4.ints.capLe.1;have d6:jY (ajH ad Y I) (ajH p4 i4 q4):=jY.of_lt HO.out.toW o4.toW aK;have e0:=vB t;have J:=WN t;have a6:AL t=(gU t).map (lE t):=rfl;have Z:=aJ a6;clear a6;obtain⟨E,hE⟩:=aN (gU t);rw[<-hE]at Z o4 e5 e0 J;subst e5;have g4:=aJ J;have AP:=aJ d6;clear hE J d6;obtain⟨a4,i8⟩:=aN p4;obtain⟨c4,j1⟩:=aN q4;subst i8 j1;have y4:=b3.size;have g8:=aJ (HO.out.keep b3);have B4:=B.after b3 B.size;go_wp2_with fail;go_loopw [4,23] (fun out i wi=>∃(j:Nat) (ad:Option Addr) (Y I:Nat),j<=E.length/\out=ajH ad Y I/\i=ajJ j/\aM 3 w1 wi (ajH ad Y I) (A++(E.take j).map (lE t))/\aM 3 wo wi (ajH a4 E.length c4) E/\jY (ajH ad Y I) (ajH a4 E.length c4)/\Below w1 w1 wi)
     (fun _ i _=>E.length-(intOf i).toNat)
    case atStart=>exact⟨0,_,_,_,Nat.zero_le _,rfl,rfl,by simpa using g8.out,o4,AP.out,B4⟩
    case round=>
     obtain⟨j,h8,k1,i1,hj,rfl,rfl,e6,oE,ap,Bi⟩:=hrel;obtain⟨wi,rfl⟩:∃wi:World,wi=wr:=⟨_,rfl⟩;have a9:=aJ e6;have c6:=aJ ap;clear e6 ap;have yi:=Bi.size;by_cases b4:j<E.length
     ·obtain⟨a5,bj,l1,c5,d9,j5,k6,d7,_⟩:=oE.ints.view prog 24 3 underlying24 aP;simp only[Value.slice.injEq,true_and]at d9;obtain⟨rfl,rfl⟩:=d9;have K:=g4.out _ (List.getElem_mem b4);have d8:=d7 j b4;obtain⟨e,he⟩:∃e:Nat,E[j]=(e:Int):=⟨E[j].toNat,by omega⟩;rw[he]at d8 K;have D:A++(E.take (j+1)).map (lE t)=(A++(E.take j).map (lE t))++[lE t e]:=by rw[List.take_succ_eq_append_getElem b4,List.map_append,List.map_cons,List.map_nil,he,List.append_assoc]
      have hp:=XG e K;have b6:(2:Int)^(e:Int).toNat=2^e:=by simp
      rw[b6]at hp;have j8:bits .andNot .i64 t (2^e)=lE t e:=by unfold lE;rw[b6];exact lS b5 aI aI aI
      have j0:=abN t e ⟨b5,e7⟩;obtain⟨y,hy⟩:=aN (lE t e);rw[<-hy]at j8 j0 D;have g9:=aJ D;have c7:=aJ oE;have m4:=hp.1;have m5:=hp.2;have m2:e<6:=aI;have b1:(A++(E.take j).map (lE t)).length<=400:=by simp;omega
      clear d7 D hy b6 he K hp oE;go_wp2_with (at_builtin;refine dF rfl _ _ _ rfl 3 underlying24 aP w1.heap.size _ _ y wi.heap.size rfl rfl (aX wi #[y] 3 0 _ rfl) (a9.out.alloc _) ⟨by omega,by omega⟩ aI aS ?_;intro v' w6 a7 e4 j7;obtain⟨av,nv,cv,rfl⟩:=a7.shape3);have B6:Below w1 w1 w6:=(Bi.alloc Bi.size (.cells #[y] 3)).grown e4 aS (fun q hq=>(a9.out.lt q hq).1);have k3:=((c7.out.alloc (.cells #[y] 3)).growA e4 c6.out);have h9:=j7.apart c6.out (fun k hk=>by have:=(c7.out.lt k hk).2;simp;omega);go_roundw
      case rel=>exact⟨j+1,av,nv,cv,by omega,rfl,by go_num,by rw[g9.out];exact a7,k3,h9,B6⟩
      case measure=>simp[intOf];omega
     ·have b1:A++(E.take j).map (lE t)=kZ (l.take (k+1)):=by rw[List.take_of_length_le aI,h5.out,Z.out]
      have g3:=aJ b1;clear b1;go_wp2;go_roundw
      case rel=>exact⟨k+1,h8,k1,i1,by omega,rfl,by go_num,by rw[<-g3.out];exact a9.out,Bi⟩
      case measure=>simp[intOf];omega
   ·have j4:k=l.length:=aI;subst j4;have a1:kZ (l.take l.length)=kZ l:=by rw[List.take_length]
    have hO:aM 3 w1 wo (ajH ad Y I) (kZ l):=by rw[<-a1];exact HO.out
    have j9:=DU l;obtain⟨A,hA⟩:=aN (kZ l);rw[<-hA]at hO j9;have HO:=aJ hO;have HA:=aJ hA;have h7:=K1.keep B;have c9:=F.keep B;have BB:=B1.after B B1.size;clear a1 hO hA G1;have G1:=h7.cell;have yB:=BB.size;go_wp2_with fail;refine(JE g _ _ _ HO.out.ints aI).mono ?_;rintro e w7 ⟨p7,i7,q7,rfl,o7,N⟩;have F:=c9.keep N;have B7:=BB.after N BB.size;have G2:=F.cell;have F2:=F.frozen;have n2:=F.lt;have z7:=N.size;clear G1 N;go_wp2;refine aZ ?_;intro Wf z;have b0:aR Wf (w.heap.size+1) 31 #[g,ajH p7 i7 q7]:=by rw[z];have:=(F.set 0 (ajJ g)).set 1 (ajH p7 i7 q7);simpa using this
    have zo:=c9.lt;have Bf:Below w w Wf:=by rw[z];exact Below.setCell (Below.setCell B7 (by first|omega|(simp;done)|(simp;omega)) _) (by first|omega|(simp;done)|(simp;omega)) _
    have of:dO 3 w.heap.size Wf (ajH p7 i7 q7) (dZ A):=by rw[z];exact((o7.setBelow (by first|omega|(simp;done)|(simp;omega)) _).setBelow (by first|omega|(simp;done)|(simp;omega)) _).mono (by first|omega|(simp;done)|(simp;omega))
    have Gf:=b0.cell;clear z G2 F2;exact bodyPost_ret (v:=.tuple #[.agg #[g,ajH p7 i7 q7],.bool true]) (by simp[results,results222,go_sem,Gf]) rfl ⟨p7,i7,q7,by rw[HN.out,HF.out],by rw[HL.out,<-HA.out];exact of,Bf⟩
theorem UY(w:World)(b:Nat)(g:Int)(l:List Int)(v:Value)(s:Int)(F:aO w v l)(z:l.Pairwise (· < ·))(hl:l.length<=1048576)
  (c0:w.cell? ⟨b,0,none⟩=some (ajJ g)) (c1:w.cell? ⟨b,1,none⟩=some v):
  Calls prog 224 #[s,.pointer (some ⟨b,0,none⟩)] w fun e w'=>e=.returned (.bool (!fP l s))/\Below w w w':=by
 obtain⟨a,c,rfl⟩:=F.shape;have hcl:=wU g l _ s w F z hl
 cases D:fP l s with
 |false=>rw[D]at hcl;go_enter func224,ntmps224;go_wp2_with (go_at_call 206;refine hcl.mono ?_;rintro e w' ⟨rfl,hb⟩);go_ret;exact⟨rfl,hb⟩
 |true=>rw[D]at hcl;go_enter func224,ntmps224;go_wp2_with (go_at_call 206;refine hcl.mono ?_;rintro e w' ⟨rfl,hb⟩);go_ret;exact⟨rfl,hb⟩
theorem CK:∀args w,(callFunc 224 args).run prog w=.ok (.enter 224 args) w:=enters_of func224 aQ rfl
theorem VA(g:Int)(l:List Int)(v:Value)(w:World)(hv:aO w v l)(hl:l.length<=1048576):
  Calls prog 111 #[.agg #[g,v]] w fun e w'=>e=.returned (.bool (oJ g l))/\Below w w w':=by
 obtain⟨a,c,rfl⟩:=hv.shape;have d0:∀(fn:Fn) (first cap:Array Value) (w:World),(Instr.makeFunc fn first cap).run prog w=.ok (.func fn first cap) w:=fun _ _ _ _=>rfl;go_enter func111,ntmps111;go_wp2_with fail;refine bB ?_;intro V hV;have B:Below w w V:=fR hV;have R:aR V w 31 #[g,ajH a l.length c]:=by rw[hV];exact(aR.new _ _ _)
 clear hV;refine(acO _ g _ l (hv.below B aK) hl).mono ?_;rintro e w1 ⟨M,K,O,rfl,o1,F⟩;have R:=R.keep F;have B1:=B.after F B.size;have b0:=hv.below B1 aK;have hd:=af3 g l;have y1:=B1.size;clear F B
 cases S:bF g l with
 |false=>
  have hx:oJ g l=false:=by rw[<-hd,S];rfl
  have HX:=aJ hx;clear hx hd;go_wp2;go_ret;exact⟨by rw[HX.out];rfl,(by repeat(first|exact Below.refl _ _|(with_reducible refine Below.setCell ?_ (by first|omega|(simp;done)|(simp;omega)) _)|(with_reducible refine Below.alloc ?_ (by first|omega|(simp;done)|(simp;omega)) _)|(with_reducible refine Below.drewN' ?_ _)|(with_reducible refine Below.drew ?_)|(with_reducible assumption)|refine Below.trans ?_ (Below.mono (by assumption) (by first|omega|(simp;done)|(simp;omega)))))⟩
 |true=>
  rw[S,Bool.true_and]at hd;have z:=(dQ S).2.2.2;have a8:=agZ g l;obtain⟨N,hN⟩:=aN (XL g l);obtain⟨L,hL⟩:=aN (DR g l);rw[<-hN];rw[<-hL]at o1 hd a8;have I:∀W,aO W (ajH M K O) L->aO W (ajH a l.length c) l->W.cell? ⟨w.heap.size,0,none⟩=some (ajJ g)->W.cell? ⟨w.heap.size,1,none⟩=some (ajH a l.length c) ->
    Calls prog 223 #[ajH M K O,.func (.func 224) #[] #[.pointer (some ⟨w,0,none⟩)]] W fun e w'=>e=.returned (.bool (L.any fun s=>!fP l s))/\Below W W w':=
   fun W hW a7 h0 h1=>xI L _ W hW 224 CK w.heap.size (fun s=>!fP l s) (fun t W' _ hB=>UY W' w.heap.size g l _ t (a7.keep hB) z hl (keep hB h0) (keep hB h1))
  obtain⟨bb,J⟩:=aN (L.any fun s=>!fP l s);rw[<-J]at hd I;have HD:=aJ hd;have Y:=aJ I;have z1:=R.lt;have D:=R.alloc (.cells #[N,ajH M K O] 31);have g0:(w1.alloc (.cells #[N,ajH M K O] 31)).cell? ⟨w.heap.size,0,none⟩=some (ajJ g):=D.cell 0;have g1:(w1.alloc (.cells #[N,ajH M K O] 31)).cell? ⟨w.heap.size,1,none⟩=some (ajH a l.length c):=D.cell 1;have Z:=aJ g0;have a1:=aJ g1;clear hd I J hL hN S z D g0 g1;go_wp2_with (go_at_call 223;refine(Y.out _ (o1.alloc _).ints (b0.alloc _) Z.out a1.out).mono ?_;rintro e w3 ⟨rfl,c9⟩);go_ret;exact⟨aW HD.out,(by repeat(first|exact Below.refl _ _|(with_reducible refine Below.setCell ?_ (by first|omega|(simp;done)|(simp;omega)) _)|(with_reducible refine Below.alloc ?_ (by first|omega|(simp;done)|(simp;omega)) _)|(with_reducible refine Below.drewN' ?_ _)|(with_reducible refine Below.drew ?_)|(with_reducible assumption)|refine Below.trans ?_ (Below.mono (by assumption) (by first|omega|(simp;done)|(simp;omega)))))⟩
theorem IT(P:Nat->Bool)(n:Nat)(x:Int):x∈bQ P n↔∃e:Nat,e<n/\P e=true/\x=(e:Int):=by
 unfold bQ;simp only[List.mem_map,List.mem_filter,List.mem_range];constructor
 ·rintro⟨e,⟨h1,h2⟩,rfl⟩;exact⟨e,h1,h2,rfl⟩
 ·rintro⟨e,h1,h2,rfl⟩;exact⟨e,⟨h1,h2⟩,rfl⟩
theorem YM(l:List Int)(s n:Nat)(I:n<=6)(F:s<2^n):lQ l (s:Int)=true↔∀e,e<n->cZ s e=true->fP l ((s:Int)-2^e)=true:=by
 have D:gU (s:Int)=bQ (cZ s) n:=by unfold gU;rw[show((s:Int)).toNat=s by omega];exact uM s 6 n (Nat.lt_of_lt_of_le F (Nat.pow_le_pow_right aV I)) F
 unfold lQ;rw[D,List.all_eq_true];constructor
 ·intro h e z hb;have:=h (e:Int) ((IT _ _ _).2 ⟨e,z,hb,rfl⟩);simpa using this
 ·intro h x J;obtain⟨e,z,hb,rfl⟩:=(IT _ _ _).1 J;have:=h e z hb;simpa using this
theorem VB(g:Int)(l:List Int)(v:Value)(w:World)(hv:aO w v l)(hl:l.length<=1048576):
  Calls prog 123 #[.agg #[g,v]] w fun e w'=>e=.returned (.bool (oJ g l))/\Below w w w':=by
 have N:=hv;obtain⟨a,b,g8,c,rfl,f3,e5,hc,hb⟩:=hv.view prog 24 3 underlying24 aP;have K0:=aR.new w 31 #[g,ajH a l.length c]
 cases R:bF g l with
 |false=>
  have hx:oJ g l=false:=by unfold oJ;rw[R];rfl
  have HX:=aJ hx;have HF:=aJ R;clear hx R;go_enter func123,ntmps123;go_wp2_with fail;go_loopw [3] (fun i wr=>i=ajJ 0/\Below w w wr/\aR wr w 31 #[g,ajH a l.length c]) (fun _ _=>0)
  case atStart=>exact⟨rfl,aY _ _,K0⟩
  case round=>obtain⟨rfl,B,J⟩:=hrel;have Y:=J.cell;go_wp2_with fail;refine(cP g l _ _ (N.below B aK)).mono ?_;rintro e w2 ⟨rfl,F⟩;rw[HF.out];have J:=J.keep F;have O:=B.after F B.size;clear Y;have Y:=J.cell;go_wp2_with fail;refine(cP g l _ _ (N.below O aK)).mono ?_;rintro e w3 ⟨rfl,a9⟩;rw[HF.out];go_wp2;go_ret;exact⟨aW HX.out.symm,O.after a9 O.size⟩
 |true=>
  have hx:oJ g l=l.all (lQ l):=by unfold oJ;rw[R];rfl
  obtain⟨h0,h6,hm⟩:=pV R;obtain⟨_,_,c7,_⟩:=dQ R;obtain⟨n,rfl⟩:=Int.eq_ofNat_of_zero_le h0;have e7:n<=6:=aI;have f2:=CN R;have HX:=aJ hx;have HF:=aJ R;have HM:=aJ hm;have d9:=aJ c7;clear hx R hm c7;go_enter func123,ntmps123;go_wp2_with fail;go_loopw [3] (fun i wr=>∃k:Nat,k<=l.length/\i=ajJ k/\(l.take k).all (lQ l)=true/\Below w w wr/\aR wr w 31 #[n,ajH a l.length c]) (fun i _=>l.length-(intOf i).toNat)
  case atStart=>exact⟨0,Nat.zero_le _,rfl,by simp,aY _ _,K0⟩
  case round=>
   obtain⟨k,hk,rfl,a1,B,J⟩:=hrel;obtain⟨wo,rfl⟩:∃wo:World,wo=wr:=⟨_,rfl⟩;have Z:=aJ a1;clear a1 K0;have Y:=J.cell;go_wp2_with fail;refine(cP n l _ _ (N.below B aK)).mono ?_;rintro e w2 ⟨rfl,F⟩;rw[HF.out];have J:=J.keep F;have O:=B.after F B.size;clear Y F B;by_cases hlt:k<l.length
   ·have b1:=HM.out k hlt
    have D:=d9.out _ (List.getElem_mem hlt);have b3:=gT (lQ l) l k hlt;obtain⟨t,ht⟩:∃t:Nat,l[k]=(t:Int):=⟨l[k].toNat,by omega⟩;have c8:t<2^n:=by
     rw[ht]at D;have e2:(n:Int).toNat=n:=aI;rw[e2]at D
     exact_mod_cast D.2
    have c6:=YM l t n e7 c8;have z:=fun W (hB:Below w w W)=>aT hc hb hB aK k hlt;rw[ht]at b3 b1;simp only[ht]at z;have b5:=aJ c6;have e0:=aJ b3;have HC:=aJ z;have g6:=b1.2;have HT:=aJ ht;clear b3 c6 D z ht b1 c8;have f0:=fun W=>e5 W k hlt;have Y:=J.cell;go_wp2_with fail;go_loopw [4] (fun i wr=>∃e:Nat,e<=n/\i=ajJ e/\(∀d,d<e->cZ t d=true->fP l ((t:Int)-2^d)=true)/\Below w w wr/\aR wr w 31 #[n,ajH a l.length c]) (fun i _=>n-(intOf i).toNat)
    case atStart=>exact⟨0,Nat.zero_le _,rfl,by simp,O,J⟩
    case round=>
     obtain⟨j,hj,rfl,c5,Bi,Ki⟩:=hrel;obtain⟨wi,rfl⟩:∃wi:World,wi=wr:=⟨_,rfl⟩;have a8:=aJ c5;clear c5 Y J O;have Y:=Ki.cell;have g2:=HC.out wi Bi;have S:=N.below Bi aK;by_cases e6:j<n
     ·have b9:=jL (t:Int) j aI aI;have M:=tZ t j;obtain⟨y,hy⟩:=aN (dL (t:Int) j);rw[<-hy]at b9 M;have hp:=XG (j:Int) aI;have c9:(2:Int)^(j:Int).toNat=2^j:=by simp
      rw[c9]at hp;have g4:=hp.1;have g5:=hp.2;clear hp c9 hy;have g3:j<6:=aI
      cases I:cZ t j with
      |false=>
       have e8:(y==1)=false:=by rw[M,I]
       have a7:=aJ I;clear I M;go_wp2_with fail;go_quiet (fail);go_wp2;go_roundw
       case rel=>exact⟨j+1,by omega,by go_num,fun d hd K=>by
         by_cases h:d<j
         ·exact a8.out d h K
         ·have:d=j:=aI;subst this;rw[a7.out]at K;exact Bool.noConfusion K,Bi.drewN' _,Ki.drewN _⟩
       case measure=>simp[intOf];omega
      |true=>
       have e8:(y==1)=true:=by rw[M,I]
       have a7:=aJ I;clear I M;have g7:IntKind.i64.wrap ((t:Int)-2^j)=(t:Int)-2^j:=by rw[IntKind.wrap_i64];omega
       cases hh:fP l ((t:Int)-2^j) with
       |false=>
        go_wp2_with fail;go_quiet ((go_at_call 210;first|exact nT (kQ l _ _ _ (S.drewN _)) hh|exact rP (kQ l _ _ _ (S.drewN _)) hh));go_wp2;go_ret;refine⟨aW ?_,Bi.drewN' _⟩;rw[HX.out];have:lQ l l[k]=false:=by
         rw[HT.out]
         cases hd:lQ l (t:Int) with
         |false=>rfl
         |true=>have:=b5.out.1 hd j e6 a7.out;rw[hh]at this;cases this
        exact(jJ _ _ _ hlt this).symm
       |true=>
        have HH:=aJ hh;go_wp2_with fail;go_quiet ((go_at_call 210;first|exact nT (kQ l _ _ _ (S.drewN _)) hh|exact rP (kQ l _ _ _ (S.drewN _)) hh));clear hh;go_wp2;go_roundw
        case rel=>exact⟨j+1,by omega,by go_num,fun d hd K=>by
          by_cases h:d<j
          ·exact a8.out d h K
          ·have:d=j:=aI;subst this;exact HH.out,Bi.drewN' _,Ki.drewN _⟩
        case measure=>simp[intOf];omega
     ·have a6:lQ l (t:Int)=true:=b5.out.2 (fun e he hb=>a8.out e aI hb);have b7:=aJ a6;clear a6;go_wp2;go_roundw
      case rel=>exact⟨k+1,by omega,by go_num,by rw[e0.out,Z.out,b7.out];rfl,Bi,Ki⟩
      case measure=>simp[intOf];omega
   ·have b8:l.all (lQ l)=true:=by rw[<-kM (lQ l) l k aI,Z.out]
    have d8:=aJ b8;clear b8;have Y:=J.cell;go_wp2_with fail;refine(cP n l _ _ (N.below O aK)).mono ?_;rintro e w3 ⟨rfl,a9⟩;rw[HF.out];go_wp2;go_ret;exact⟨aW (by rw[HX.out,d8.out]),O.after a9 O.size⟩
theorem SI(w:World)(g:Int)(v:Value)(l:List Int)(hv:aO w v l)(hf:bF g l=true):
  Calls prog 112 #[.agg #[g,v]] w fun r w'=>r=.returned (.bool (wI g l))/\Below w w w':=by
 have d5:=hv;obtain⟨p,bb,g8,c,rfl,c9,c8,hc,hb⟩:=hv.view prog 24 3 underlying24 aP;have hm:=dV hf;have hl:=jQ hf;have S:=(dQ hf).2.2.2;obtain⟨V,hV⟩:=aN (w.alloc (.cells #[g,ajH p l.length c] 31));have B:Below w w V:=fR hV;have K1:aR V w 31 #[g,ajH p l.length c]:=eG hV;have c7:∀W,W=V->Calls prog 101 #[.agg #[g,ajH p l.length c]] W fun e w'=>e=.returned (.bool true)/\Below W W w':=fun W h=>by rw[h];have:=dC g l _ V (d5.below B aK);rw[hf]at this;exact this
 have hex:=fun(W:World) (h:aO W (ajH p l.length c) l) (a b:Int) (ha:0<=a/\a<64) (hb:0<=b/\b<64)=>ME W g _ l h S aI a b ha hb;have hx:wI g l=(!l.isEmpty&&l.all fun a=>l.all (nI l a)):=by unfold wI;rw[hf,Bool.true_and]
 have HV:=aJ hV;have e7:=aJ c7;have e5:=aJ hex;have HX:=aJ hx;have HM:=aJ hm;have HC:=aJ hc;have b4:=aJ c8;clear hV c7 hex hx hm hf S hc c8 c9;go_enter func112,ntmps112;go_wp2_with fail;refine(e7.out _ HV.out.symm).mono ?_;rintro e w1 ⟨rfl,b1⟩;rw[HV.out.symm]at b1;have B1:=B.after b1 B.size;have b8:=K1.keep b1;have G:=b8.cell;by_cases h0:l.length=0
 ·have f5:((l.length:Int)==0)=true:=by rw[beq_iff_eq];omega
  have M:wI g l=false:=by rw[HX.out,List.eq_nil_of_length_eq_zero h0];rfl
  have N:=aJ M;clear M;go_wp2;go_ret;exact⟨aW N.out.symm,B1⟩
 ·have f5:((l.length:Int)==0)=false:=by rw[beq_eq_false_iff_ne];omega
  have M:wI g l=l.all fun a=>l.all (nI l a):=by
   rw[HX.out];have:l.isEmpty=false:=by cases l with|nil=>simp at h0|cons _ _=>rfl
   rw[this];rfl
  have N:=aJ M;clear M;go_wp2_with fail;clear G;go_loopw [19] (fun iv wr=>∃j:Nat,j<=l.length/\iv=ajJ j/\(l.take j).all (fun a=>l.all (nI l a))=true/\Below w1 w1 wr) (fun iv _=>l.length-(intOf iv).toNat)
  case atStart=>exact⟨0,Nat.zero_le _,rfl,by simp,Below.refl _ _⟩
  case round=>
   obtain⟨j,hj,rfl,D,Bw⟩:=hrel;have R:=aJ D;clear D;have B2:=B1.after Bw B1.size;have b9:=b8.keep Bw;have z3:=Bw.size;by_cases hlt:j<l.length
   ·have Y:(j:Int)<(l.length:Int):=aI;have ck:=aT HC.out hb B2 aK j hlt;have ik:=fun W=>b4.out W j hlt;have ha:=HM.out _ (List.getElem_mem hlt);have F:(l.take (j+1)).all (fun a=>l.all (nI l a))=l.all (nI l l[j]):=by rw[List.take_succ_eq_append_getElem hlt,List.all_append,R.out];simp
    obtain⟨a,a1⟩:=aN (l[j]);rw[<-a1]at ck ha F;have Z:a∈l:=by rw[a1];exact List.getElem_mem hlt
    have b6:=aJ Z;have f0:=aJ F;clear F a1 Z;have G:=b9.cell;go_wp2_with fail;clear G;go_loopw [26] (fun iv wq=>∃k:Nat,k<=l.length/\iv=ajJ k/\(l.take k).all (nI l a)=true/\Below wr wr wq) (fun iv _=>l.length-(intOf iv).toNat)
    case atStart=>exact⟨0,Nat.zero_le _,rfl,by simp,Below.refl _ _⟩
    case round=>
     obtain⟨k,hk,rfl,D,Bq⟩:=hrel;have I:=aJ D;clear D ck ik Y;have b0:=Bw.after Bq z3;have B3:=B1.after b0 B1.size;have f2:=b9.keep Bq;by_cases J:k<l.length
     ·have d0:(k:Int)<(l.length:Int):=aI;have ck:=aT HC.out hb B3 aK k J;have ik:=fun W=>b4.out W k J;have c5:=HM.out _ (List.getElem_mem J);have F:=show(l.take (k+1)).all (nI l a)=nI l a l[k] by rw[List.take_succ_eq_append_getElem J,List.all_append,I.out];simp
      obtain⟨b,a6⟩:=aN (l[k]);rw[<-a6]at ck c5 F;have K:b∈l:=by rw[a6];exact List.getElem_mem J
      have hcl:=e5.out wr (d5.below B3 aK) a b ha c5;obtain⟨z,hz⟩:=aN (nI l a b);rw[<-hz]at hcl F;have b3:=aJ hcl;have b7:=aJ F;have HZ:=aJ hz;have e9:=aJ K;clear hcl F hz K a6;have G:=f2.cell
      cases z with
      |true=>
       go_wp2_with fail;refine b3.out.mono ?_;rintro r w5 ⟨rfl,b5⟩;go_wp2;go_roundw
       case rel=>exact⟨k+1,by omega,by go_num,by rw[b7.out],Bq.after b5 Bq.size⟩
       case measure=>simp[intOf];omega
      |false=>
       have c6:wI g l=false:=by
        rw[N.out]
        cases O:(l.all fun a=>l.all (nI l a)) with
        |false=>rfl
        |true=>
         have h1:=List.all_eq_true.1 O _ b6.out;have h2:=List.all_eq_true.1 h1 _ e9.out;rw[<-HZ.out]at h2
         cases h2
       have e6:=aJ c6;clear c6;go_wp2_with fail;refine b3.out.mono ?_;rintro r w5 ⟨rfl,b5⟩;go_wp2;go_ret;exact⟨aW e6.out.symm,B3.after b5 B3.size⟩
     ·have d0:¬(k:Int)<(l.length:Int):=aI;have O:=I.out;rw[List.take_of_length_le aI]at O;have HH:=aJ O;clear O;go_wp2;go_roundw
      case rel=>exact⟨j+1,by omega,by go_num,by rw[f0.out,HH.out],b0⟩
      case measure=>simp[intOf];omega
   ·have Y:¬(j:Int)<(l.length:Int):=aI;have O:=R.out;rw[List.take_of_length_le aI]at O;have HH:=aJ O;clear O;go_wp2;go_ret;exact⟨aW (by rw[N.out,HH.out]),B2⟩
end
end Go.Proofs.YtcpoomdoodlkjaaGreatDoor
