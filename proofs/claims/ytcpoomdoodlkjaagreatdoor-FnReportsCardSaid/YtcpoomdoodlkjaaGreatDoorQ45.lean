/- Lemmas for CardReports. No condition. -/
import Derived.Test.YtcpoomdoodlkjaaGreatDoorQ35
import Derived.Test.YtcpoomdoodlkjaaGreatDoorQ44
set_option maxRecDepth 100000
set_option maxHeartbeats 64000000
namespace Go.Proofs.YtcpoomdoodlkjaaGreatDoor
section
open Go.RowKit Go.G5 Go.Proofs.Tryz
theorem VD(w:World)(N:Nat)(v:Value)(l:List Int)(hv:aR w v l)(S:bJ (N:Int) l=true):
  Calls prog 116 #[.agg #[(N:Int),v]] w fun e w'=>∃ad i c,e=.returned (aI ad i c)/\aR w' (aI ad i c) (mX (N:Int) l)/\Below w w w':=by
 obtain⟨a,c,rfl⟩:=hv.shape;have hm:=dY S;have hl:=jT S;obtain⟨h0,h6,e0,e4⟩:=dT S;have hN:N<=6:=aK;have hp:=cO N 6 hN;have d9:=hp.1;have j2:=hp.2;simp at d9;have hx:mX (N:Int) l=jJ l N (2^N):=by unfold mX;rw[S,Int.toNat_natCast];rfl
 obtain⟨V,hV⟩:=aQ (w.alloc (.cells #[(N:Int),aI a l.length c] 31));have B:Below w w V:=fU hV;have K1:aU V w 31 #[(N:Int),aI a l.length c]:=eJ hV;have O:=cS (N:Int) l _ V (hv.below B aO);rw[S]at O;obtain⟨M,hM⟩:=aQ (2^N);have a6:(2:Int)^N=(M:Int):=by rw[hM];simp
 have j5:IntKind.i64.wrap ((2:Int)^N)=2^N:=by rw[IntKind.wrap_i64];omega
 have g1:M<=64:=by have h:=Nat.pow_le_pow_right (show 0<2 by decide) hN;rw[hM];simpa using h
 have a9:∀s,s<M->bR s<=N:=fun s hs=>QM N aK s aK;have D:=fun(W:World) (s:Nat) (hs:s<M) (h:aR W (aI a l.length c) l)=>FX W _ l h hm hl (s:Int) ⟨by omega,by omega⟩;rw[<-hM]at hx;have HV:=aN hV;have c5:=aN O;have Y:=aN a6;have c9:=aN D;have c7:=aN a9;have HX:=aN hx;clear hV O D a9 hx S e0 e4 hm hp hM a6;go_enter func116,ntmps116;go_wp2_with fail;rw[HV.out.symm];refine c5.out.mono ?_;rintro e w1 ⟨rfl,b1⟩;have B1:=B.after b1 B.size;have J:=K1.keep b1;have G1:=J.cell;go_wp2_with (at_make;refine lA rfl _ _ _ rfl 3 underlying24 aS (N+1) _ _ rfl rfl (by go_num) (by go_num) aK ?_;intro w2 I hg;have B2:=B1.grown hg B1.size (fun q hq=>by cases hq);have K2:=J.grow hg (by simp);clear G1 hg;have G1:=K2.cell);have j0:=J.lt;go_loopw [4] (fun iv wr=>∃j:Nat,j<=M/\iv=aM j/\aP 3 w1 wr (aI (some ⟨w1,0,none⟩) (N+1) (N+1)) (jJ l N j)/\Below w w wr/\aU wr w 31 #[(N:Int),aI a l.length c]) (fun iv _=>M-(intOf iv).toNat)
 case atStart=>exact⟨0,Nat.zero_le _,rfl,I,B2,K2⟩
 case round=>
  obtain⟨j,hj,rfl,ho,Br,Kr⟩:=hrel;clear I G1;have G:=Kr.cell;by_cases hlt:j<M
  ·have a8:(j:Int)<2^N:=by rw[Y.out];omega
   have b0:=c7.out j hlt;have z:jJ l N (j+1)=(jJ l N j).set (bR j) (max ((jJ l N j).getD (bR j) 0) ((wR l (j:Int)).length:Int)):=rfl;have K:=GR l N j aK;have e5:=NJ l (j:Int) aK aK;have hk:=SF l N (bR j) b0 j;have F:=yS l N j;have d6:(bR j:Int)<(N:Int)+1:=aK;have Z:=aN (fun W=>eP j W aK);have D:=c9.out wr.drew j hlt (hv.below Br.drew aO);obtain⟨T,hT⟩:=aQ (wR l (j:Int));rw[<-hT]at z e5 D;obtain⟨L,hL⟩:=aQ (jJ l N j);rw[<-hL]at z K hk F ho;obtain⟨k,R⟩:=aQ (bR j);rw[<-R]at z hk b0 d6;simp only[<-R]at Z;rw[List.getD_eq_getElem?_getD,List.getElem?_eq_getElem hk,Option.getD_some]at z;have e9:=K _ (List.getElem_mem hk);obtain⟨y,hy⟩:=aQ (L[k]);have c8:=aN z;have a1:=aN D;have c0:=ho.cellAt F.symm k hk;rw[<-hy]at c0 e9;have HY:=aN hy;clear z D hT hL R K hy;have Kd:aU wr.drew w.heap.size 31 #[(N:Int),aI a l.length c]:=Kr;have od:=ho.drewN 1;have j1:∀(p:Option Addr) (i q:Nat) (W:World),(Instr.field 31 (.agg #[(N:Int),aI p i q]) 1).run prog W=.ok (aI p i q) W:=fun _ _ _ _=>rfl;have Gd:=Kd.cell;go_wp2_with fail;go_region_law
    (go_simp;first|(go_at_call 154;refine(Z.out _).mono ?_;rintro e w' ⟨rfl,rfl⟩)|(go_at_call 228;refine a1.out.mono ?_;rintro e w5 ⟨p5,i5,q5,rfl,o5,b5⟩;have d7:i5=T.length:=o5.ints.capLe.1;subst d7;have o6:=od.keep b5;have c6:=o6.cellAt F.symm k hk;rw[<-HY.out]at c6;have f6:=o6.frozenAt F.symm k))
   all_goals
    have st:=o6.stored F.symm k (max y (T.length:Int)) ⟨by omega,by omega⟩;have B6:Below w w w5:=Br.drew.after b5 Br.drew.size;have K6:=Kd.keep b5;have B7:Below w w (w5.setCell ⟨w1.heap.size,k,none⟩ (aM (max y (T.length:Int)))):=Below.setCell B6 (by show w.heap.size<=w1.heap.size;omega) _;have K7:=K6.far (p:=⟨w1.heap.size,k,none⟩) (by show w.heap.size≠w1.heap.size;omega) (aM (max y (T.length:Int)));clear G Gd c0 c6 f6 od o6 o5;go_wp2;go_roundw
    case rel=>exact⟨j+1,by omega,by go_num,by rw[c8.out,<-HY.out];exact st.1,B7,K7⟩
    case measure=>simp[intOf];omega
  ·have a8:¬(j:Int)<2^N:=by rw[Y.out];omega
   have a7:j=M:=aK;have HJ:=aN a7;clear a7;go_wp2;go_ret;exact⟨_,_,_,rfl,by rw[HX.out,<-HJ.out];exact ho.ints,Br⟩
theorem ad6(s r:Int)(w:World)(J:0<=s/\s<64)(hr:0<=r/\r<64):
  Calls prog 287 #[s,r] w fun e w'=>e=.returned (zZ s r)/\w=w':=by
 have hA:=eG J.1 (show s<4611686018427387904 by omega) hr.1 (show r<4611686018427387904 by omega);have D:=lU s r 64 J.1 J.2;have z:=SJ J hr;have Y:=ad7 J hr;have K:zZ s r=max (dL (bK s r)-dL (cM s r)) (-(dL (bK s r)-dL (cM s r))):=rfl;rw[<-Y]at K z;obtain⟨A,O⟩:=aQ (bK s r);rw[<-O]at hA D z K;have M:=aN (fun W=>tQ A W D.1 aK);have N:=aN (fun W=>tQ s W J.1 aK);obtain⟨p,hp⟩:=aQ (dL A);obtain⟨q,hq⟩:=aQ (dL s);simp only[<-hp]at M z K;simp only[<-hq]at N z K;have R:eZ s 0 1023=true:=dK.2 ⟨J.1,by omega⟩;have S:eZ r 0 1023=true:=dK.2 ⟨hr.1,by omega⟩;have F:=fun W=>cQ s 0 1023 W;have I:=fun W=>cQ r 0 1023 W;simp only[R]at F;simp only[S]at I;have Z:=aN F;have a1:=aN I;have b0:IntKind.i64.wrap (2*p)=2*p:=by rw[IntKind.wrap_i64];omega
 have b1:IntKind.i64.wrap (2*p-q)=2*p-q:=by rw[IntKind.wrap_i64];omega
 have b3:IntKind.i64.wrap (-(2*p-q))=-(2*p-q):=by rw[IntKind.wrap_i64];omega
 have HX:=aN K;clear K O hp hq D Y R S F I;go_enter func287,ntmps287;go_wp2_with (first
  |(go_at_call 174;first|(with_reducible refine(Z.out _).mono ?_;rintro e w' ⟨rfl,rfl⟩)|(with_reducible refine(a1.out _).mono ?_;rintro e w' ⟨rfl,rfl⟩))
  |(go_at_call 154;first|(with_reducible refine(M.out _).mono ?_;rintro e w' ⟨rfl,rfl⟩)|(with_reducible refine(N.out _).mono ?_;rintro e w' ⟨rfl,rfl⟩)))
 go_ret;exact⟨fI (by rw[HX.out];try omega),rfl⟩
theorem aaS(N:Nat)(l:List Int)(v:Value)(r:Int)(w:World)(hv:aR w v l)(hf:bJ (N:Int) l=true)(hr:0<=r/\r<2^N):
  Calls prog 230 #[.agg #[(N:Int),v],r] w fun e w'=>e=.returned (uY l r)/\Below w w w':=by
 have c5:=hv;obtain⟨a,b,f2,c,rfl,d7,S,hc,hb⟩:=hv.view prog 24 3 underlying24 aS;have hm:=dY hf;obtain⟨h0,h6,b8,b9⟩:=dT hf;have hN:N<=6:=aK;have hp:=cO N 6 hN;have e9:=hp.1;have f0:=hp.2;have I:((2:Int)^N)=((2^N:Nat):Int):=by simp
 have b5:(2:Nat)^N<=2^6:=Nat.pow_le_pow_right aY hN;have D:0<=r/\r<64:=aK;have O:=E2 l r hm D;have K0:=aU.new w 31 #[(N:Int),aI a l.length c];have R:eZ r 0 (2^N-1)=true:=dK.2 ⟨hr.1,by omega⟩;have K:=fun W=>cQ r 0 (2^N-1) W;simp only[R]at K;have J:=cS (N:Int) l _ _ (c5.alloc (.cells #[(N:Int),aI a l.length c] 31));rw[hf]at J;have b4:=aN K;have a9:=aN (fun W=>fE N W aK);have a8:=aN J;have HC:=aN hc;have b3:=aN S;have HM:=aN hm;have a7:=aN O;have HR:=aN D;clear hc S hm O K J hf R b8 b9 hp I b5 D;go_enter func230,ntmps230;go_wp2_with fail;refine a8.out.mono ?_;rintro e w1 ⟨rfl,b1⟩;have B1:Below w w w1:=(bF _ _).after b1 (by simp);have G:=(K0.keep b1).cell;go_wp2_with (first|(go_at_call 187;refine(a9.out _).mono ?_;rintro e w' ⟨rfl,rfl⟩)|(go_at_call 174;refine(b4.out _).mono ?_;rintro e w' ⟨rfl,rfl⟩));go_loop [5,6] (fun mv iv=>∃j:Nat,j<=l.length/\iv=aM j/\mv=aM (sU l r j)) (fun _ iv=>l.length-(intOf iv).toNat)
 case atStart=>exact⟨0,Nat.zero_le _,rfl,rfl⟩
 case round=>
  obtain⟨j,hj,rfl,rfl⟩:=hrel;have b6:=a7.out j;by_cases hlt:j<l.length
  ·have Z:(j:Int)<(l.length:Int):=aK;have ck:=aW HC.out hb B1 aO j hlt;have ik:=fun W=>b3.out W j hlt;have F:=fun W=>ad6 l[j] r W (HM.out _ (List.getElem_mem hlt)) HR.out;have hs:sU l r (j+1)=max (sU l r j) (zZ l[j] r):=by rw[sU,aX l j hlt]
   obtain⟨y,hy⟩:=aQ (l[j]);rw[<-hy]at ck hs;simp only[<-hy]at F;obtain⟨z,hz⟩:=aQ (zZ y r);rw[<-hz]at hs;simp only[<-hz]at F;obtain⟨M,hM⟩:=aQ (sU l r j);rw[<-hM]at hs b6 ⊢;have HS:=aN hs;have b0:=aN F;clear hy hz hM hs F;go_wp2_with (go_at_call 287;refine(b0.out _).mono ?_;rintro e w' ⟨rfl,rfl⟩);go_round
   case rel=>exact⟨j+1,by omega,by go_num,by rw[HS.out];try omega⟩
   case measure=>simp[intOf];omega
  ·have Z:¬(j:Int)<(l.length:Int):=aK;have Y:j=l.length:=aK;have HJ:=aN Y;clear Y;go_wp2;go_ret;exact⟨fI (by unfold uY;rw[<-HJ.out]),B1⟩
theorem YE(l:List Int)(r:Nat):jY l (r+1)=if uY l ((r+1:Nat):Int)<(jY l r).2 then (((r+1:Nat):Int),uY l ((r+1:Nat):Int)) else jY l r:=rfl
theorem QT(g:Int)(l:List Int)(v:Value)(w:World)(hv:aR w v l)(Y:bJ g l=true):
  Calls prog 118 #[.agg #[g,v]] w fun e w'=>e=.returned (.tuple #[(yN g l),(wP g l),.bool true])/\Below w w w':=by
 obtain⟨a,c,rfl⟩:=hv.shape;have hm:=dY Y;obtain⟨h0,h6,e4,e5⟩:=dT Y;obtain⟨N,rfl⟩:=Int.eq_ofNat_of_zero_le h0;have hN:N<=6:=aK;have a1:yN (N:Int) l=(jY l (2^N-1)).1:=by unfold yN;rw[Y,Int.toNat_natCast];rfl
 have a6:wP (N:Int) l=(jY l (2^N-1)).2:=by unfold wP;rw[Y,Int.toNat_natCast];rfl
 have b3:=LU l hm;have I:=fun(W:World) (r:Int) (h:aR W (aI a l.length c) l) (hr:0<=r/\r<2^N)=>aaS N l _ r W h Y hr;have d5:(2:Nat)^N<=2^6:=Nat.pow_le_pow_right aY hN;have e0:=Nat.two_pow_pos N;have O:((2:Int)^N)=((2^N:Nat):Int):=by simp
 have hp:=cO N 6 hN;have f8:=hp.1;have f9:=hp.2;have g1:IntKind.i64.wrap ((2:Int)^N)=2^N:=by rw[IntKind.wrap_i64];omega
 have F:jY l 0=(0,uY l 0):=rfl;obtain⟨M,hM⟩:=aQ (2^N-1);have b0:((2:Int)^N)=(M:Int)+1:=by rw[O,hM];omega
 have f0:M<64:=aK;rw[<-hM]at a1 a6;have K0:=aU.new w 31 #[(N:Int),aI a l.length c];have HR:=aN (And.intro a1 a6);have c5:=aN b3;have c8:=aN I;have R:=aN b0;have Z:=cS (N:Int) l _ _ (hv.alloc (.cells #[(N:Int),aI a l.length c] 31));rw[Y]at Z;have c6:=aN Z;obtain⟨W0,S⟩:=aQ (uY l 0);have b7:∀W,aR W (aI a l.length c) l->Calls prog 230 #[.agg #[(N:Int),aI a l.length c],aJ] W fun e w'=>e=.returned W0/\Below W W w':=fun W h=>by rw[S];exact I W 0 h aK
 rw[<-S]at F;have HW:=aN b7;have HS:=aN F;clear a1 a6 b3 I d5 e0 O hM hm Y b7 F S Z e4 e5 hp b0;go_enter func118,ntmps118;go_wp2_with fail;refine c6.out.mono ?_;rintro e w1 ⟨rfl,b1⟩;have B1:Below w w w1:=(bF _ _).after b1 (by simp);have K1:=K0.keep b1;have G:=K1.cell;go_wp2_with fail;refine(HW.out w1 (hv.below B1 aO)).mono ?_;rintro e w2 ⟨rfl,b2⟩;have B2:=B1.after b2 B1.size;have K2:=K1.keep b2;clear G K0 b1 K1 B1 b2;go_wp2_with fail;go_loopw [5,6,7] (fun bv mv iv wr=>∃(r:Nat),r<=M/\iv=aM ((r:Int)+1)/\bv=aM (jY l r).1/\mv=aM (jY l r).2/\aU wr w 31 #[(N:Int),aI a l.length c]/\Below w w wr) (fun _ _ iv _=>M+1-(intOf iv).toNat)
 case atStart=>exact⟨0,Nat.zero_le _,rfl,by rw[HS.out],by rw[HS.out],K2,B2⟩
 case round=>
  obtain⟨r,hr,rfl,rfl,rfl,K,B⟩:=hrel;clear K2 B2;have d8:=c5.out r aK;have z:=YE l r;have b4:((r+1:Nat):Int)=(r:Int)+1:=aK;rw[b4]at z;obtain⟨C,hC⟩:=aQ (jY l r);rw[<-hC]at d8 z ⊢;have HC:=aN hC;have G:=K.cell;clear hC b4;by_cases hlt:r<M
  ·have b5:(r:Int)+1<2^N:=by rw[R.out];omega
   have I:=c8.out wr ((r:Int)+1) (hv.below B aO) (by rw[R.out];omega);obtain⟨D,hD⟩:=aQ (uY l ((r:Int)+1));rw[<-hD]at I z;have a9:=aN I;have g0:IntKind.i64.wrap ((r:Int)+1+1)=(r:Int)+1+1:=by rw[IntKind.wrap_i64];omega
   by_cases hd:D<C.2
   ·rw[if_pos hd]at z;have J:=aN z;clear z I hD;go_wp2_with fail;refine a9.out.mono ?_;rintro e w2 ⟨rfl,b2⟩;have B2:=B.after b2 B.size;have K2:=K.keep b2;go_wp2;go_roundw
    case rel=>exact⟨r+1,by omega,by go_num,by rw[J.out],by rw[J.out],K2,B2⟩
    case measure=>simp[intOf];omega
   ·rw[if_neg hd]at z;have J:=aN z;clear z I hD;go_wp2_with fail;refine a9.out.mono ?_;rintro e w2 ⟨rfl,b2⟩;have B2:=B.after b2 B.size;have K2:=K.keep b2;go_wp2;go_roundw
    case rel=>exact⟨r+1,by omega,by go_num,by rw[J.out],by rw[J.out],K2,B2⟩
    case measure=>simp[intOf];omega
  ·have b5:¬(r:Int)+1<2^N:=by rw[R.out];omega
   have b6:r=M:=aK;have c7:=aN b6;clear b6 z;go_wp2;go_ret3;exact⟨by rw[HR.out.1,HR.out.2,<-c7.out,HC.out];rfl,B⟩
theorem aaB(g:Int)(l:List Int)(v:Value)(w:World)(M:aR w v l)(D:bJ g l=true):
  Calls prog 122 #[.agg #[g,v]] w fun e w'=>e=.returned (.bool (qT g l))/\Below w w w':=by
 obtain⟨a,c,rfl⟩:=M.shape;have S:=aU.new w 31 #[g,aI a l.length c];have z:=cS g l _ _ (M.alloc (.cells #[g,aI a l.length c] 31));rw[D]at z;have O:qT g l=tG l:=by unfold qT;rw[D,aaC (dY D)];rfl
 have F:=fun W (h:aR W (aI a l.length c) l)=>FN l _ W h (dY D) (jT D);have R:=aN O;have J:=aN z;have K:=aN F;clear O z F D;go_enter func122,ntmps122;go_wp2_with fail;refine J.out.mono ?_;rintro e w1 ⟨rfl,N⟩;have I:Below w w w1:=(bF _ _).after N (by simp);have G:=(S.keep N).cell;go_wp2_with fail;refine(K.out w1 (M.below I aO)).mono ?_;rintro e w2 ⟨rfl,b2⟩;go_wp2;go_ret;exact⟨aZ R.out.symm,I.after b2 I.size⟩
theorem aeC(g:Int)(l:List Int)(v:Value)(w:World)(M:aR w v l)(D:bJ g l=true):
  Calls prog 119 #[.agg #[g,v]] w fun e w'=>e=.returned (.bool (tR g l))/\Below w w w':=by
 obtain⟨a,c,rfl⟩:=M.shape;have S:=aU.new w 31 #[g,aI a l.length c];have z:=cS g l _ _ (M.alloc (.cells #[g,aI a l.length c] 31));rw[D]at z;have O:tR g l=SY l:=by
  first
   |(unfold tR;rw[D,SZ (dY D)];rfl)
   |(unfold mB;rw[D,JL];rfl)
 have F:=fun W (h:aR W (aI a l.length c) l)=>MU l _ W h (dY D);have R:=aN O;have J:=aN z;have K:=aN F;clear O z F D;go_enter func119,ntmps119;go_wp2_with fail;refine J.out.mono ?_;rintro e w1 ⟨rfl,N⟩;have I:Below w w w1:=(bF _ _).after N (by simp);have G:=(S.keep N).cell;go_wp2_with fail;refine(K.out w1 (M.below I aO)).mono ?_;rintro e w2 ⟨rfl,b2⟩;go_wp2;go_ret;exact⟨aZ R.out.symm,I.after b2 I.size⟩
theorem Y7(g:Int)(l:List Int)(v:Value)(w:World)(M:aR w v l)(D:bJ g l=true):
  Calls prog 121 #[.agg #[g,v]] w fun e w'=>e=.returned (.bool (mB g l))/\Below w w w':=by
 obtain⟨a,c,rfl⟩:=M.shape;have S:=aU.new w 31 #[g,aI a l.length c];have z:=cS g l _ _ (M.alloc (.cells #[g,aI a l.length c] 31));rw[D]at z;have O:mB g l=J3 l:=by
  first
   |(unfold tR;rw[D,SZ (dY D)];rfl)
   |(unfold mB;rw[D,JL];rfl)
 have F:=fun W (h:aR W (aI a l.length c) l)=>ST l _ W h (dY D);have R:=aN O;have J:=aN z;have K:=aN F;clear O z F D;go_enter func121,ntmps121;go_wp2_with fail;refine J.out.mono ?_;rintro e w1 ⟨rfl,N⟩;have I:Below w w w1:=(bF _ _).after N (by simp);have G:=(S.keep N).cell;go_wp2_with fail;refine(K.out w1 (M.below I aO)).mono ?_;rintro e w2 ⟨rfl,b2⟩;go_wp2;go_ret;exact⟨aZ R.out.symm,I.after b2 I.size⟩
theorem yI(a:Int)(e:Nat)(h:0<=a/\a<64):bits BinOp.and IntKind.i64 (a/2^e) 1=dO a e/\(dO a e==0)=!dC a.toNat e/\(dO a e==1)=dC a.toNat e:=by
 have h1:=uC a.toNat e;rw[show((a.toNat:Nat):Int)=a by omega]at h1;refine⟨jO a e h.1 aK,?_,h1⟩;rw[<-h1];have:dO a e=0∨dO a e=1:=by unfold dO;omega
 rcases this with h|h<;>rw[h]<;>rfl
theorem XL(e:Nat)(h:e<6):0<(2:Int)^e/\(2:Int)^e<64:=by
 rcases(show e=0∨e=1∨e=2∨e=3∨e=4∨e=5 by omega) with rfl|rfl|rfl|rfl|rfl|rfl<;>decide
theorem SN(w:World)(N:Nat)(v:Value)(l:List Int)(hv:aR w v l)(hf:bJ (N:Int) l=true):
  Calls prog 124 #[.agg #[(N:Int),v]] w fun r w'=>r=.returned (.bool (wL (N:Int) l))/\Below w w w':=by
 have d7:=hv;obtain⟨p,bb,o2,c,rfl,h7,g8,hc,hb⟩:=hv.view prog 24 3 underlying24 aS;have hm:=dT hf;have hl:=jT hf;obtain⟨h0,h6,d6,k0⟩:=dT hf;have hN:N<=6:=aK;have f0:=cO N 6 hN;have j9:=f0.1;have n3:=f0.2;simp at j9;have K1:=aU.new w 31 #[(N:Int),aI p l.length c];have e9:=fun(W:World) (h:aR W (aI p l.length c) l)=>cS (N:Int) l _ W h;simp only[hf]at e9;have hx:wL (N:Int) l=(!l.isEmpty&&l.all fun a=>l.all (nL l a)):=by unfold wL;rw[hf,Bool.true_and]
 have g6:∀a b,a∈l->b∈l->nL l a b=WU N l a b:=fun a b ha hb=>by have h1:=d6 a ha;have h2:=d6 b hb;have e:((N:Int)).toNat=N:=Int.toNat_natCast N;exact agD N hN l a b (by simpa[e]using h1) (by simpa[e]using h2)
 have e6:=aN e9;have HX:=aN hx;have j0:=aN g6;have HQ:=aN d6;have HC:=aN hc;have g1:=aN g8;clear e9 hx g6 d6 k0 hm hf hc g8 f0 h7;go_enter func124,ntmps124;go_wp2_with fail;go_loopw [3] (fun iv wr=>∃j:Nat,j<=l.length/\iv=aM j/\(l.take j).all (fun a=>l.all (nL l a))=true/\Below w w wr/\aU wr w 31 #[(N:Int),aI p l.length c]) (fun iv _=>l.length-(intOf iv).toNat)
 case atStart=>exact⟨0,Nat.zero_le _,rfl,by simp,bF _ _,K1⟩
 case round=>
  obtain⟨j,hj,rfl,F,Bw,Kw⟩:=hrel;have d9:=aN F;clear F;have G:=Kw.cell;by_cases hlt:j<l.length
  ·have h9:(j:Int)<(l.length:Int):=aK;go_wp2_with fail;refine(e6.out wr (d7.below Bw aO)).mono ?_;rintro r w3 ⟨rfl,b3⟩;have B3:=Bw.after b3 Bw.size;have K3:=Kw.keep b3;have hB:=B3.size;clear G;have G:=K3.cell;go_wp2_with fail;have Z:(l.take (j+1)).all (fun a=>l.all (nL l a))=l.all (nL l l[j]):=by rw[List.take_succ_eq_append_getElem hlt,List.all_append,d9.out];simp
   have b4:=List.getElem_mem hlt;obtain⟨a,e7⟩:=aQ (l[j]);rw[<-e7]at Z b4;have j3:=aN Z;have a7:=aN b4;have i8:=aN e7;clear Z b4 e7 G;go_loopw [4] (fun iv wq=>∃k:Nat,k<=l.length/\iv=aM k/\(l.take k).all (nL l a)=true/\Below w w wq/\aU wq w 31 #[(N:Int),aI p l.length c]) (fun iv _=>l.length-(intOf iv).toNat)
   case atStart=>exact⟨0,Nat.zero_le _,rfl,by simp,B3,K3⟩
   case round=>
    obtain⟨k,hk,rfl,F,Bk,Kk⟩:=hrel;obtain⟨wk,rfl⟩:∃wk:World,wk=wr:=⟨_,rfl⟩;have a1:=aN F;clear F B3 K3 hB;have G:=Kk.cell;by_cases d5:k<l.length
    ·have h8:(k:Int)<(l.length:Int):=aK;have g4:=aW HC.out hb Bk aO j hlt;have g5:=aW HC.out hb Bk aO k d5;rw[<-i8.out]at g4;have k2:=fun W=>g1.out W j hlt;have k3:=fun W=>g1.out W k d5;obtain⟨b,d0⟩:=aQ (l[k]);have i1:=HQ.out a a7.out;have b1:=List.getElem_mem d5;rw[<-d0]at g5 b1;have i6:=HQ.out b b1;have b6:=j0.out a b a7.out b1;have Z:(l.take (k+1)).all (nL l a)=nL l a b:=by rw[List.take_succ_eq_append_getElem d5,List.all_append,a1.out,d0];simp
     have R:0<=a/\a<64:=by rw[Int.toNat_natCast]at i1;omega
     have S:0<=b/\b<64:=by rw[Int.toNat_natCast]at i6;omega
     have g2:=aN Z;have a8:=aN b6;have j2:=aN b1;have m1:=aN d0;clear Z b6 b1 d0 i1 i6;go_wp2_with fail;clear g4 g5 k2 k3 G;have m7:=R.1;have m8:=R.2;have m9:=S.1;have n0:=S.2;have c7:=aN (And.intro R S);clear R S;go_loopw [7] (fun iv wq=>∃e:Nat,e<=N/\iv=aM e/\cJ (fun e=>wK a b e||mK (uH l a b e) N) e=true/\Below w w wq/\aU wq w 31 #[(N:Int),aI p l.length c]) (fun iv _=>N-(intOf iv).toNat)
     case atStart=>exact⟨0,Nat.zero_le _,rfl,rfl,Bk,Kk⟩
     case round=>
      obtain⟨e,he,rfl,F,Be,Ke⟩:=hrel;obtain⟨we,rfl⟩:∃we:World,we=wr:=⟨_,rfl⟩;have a6:=aN F;clear F Bk Kk;have G:=Ke.cell;by_cases n2:e<N
      ·have h5:(e:Int)<(N:Int):=aK;have j8:e<6:=aK;obtain⟨c8,K,a9⟩:=yI a e c7.out.1;obtain⟨c9,b0,Y⟩:=yI b e c7.out.2;have z:cJ (fun e=>wK a b e||mK (uH l a b e) N) (e+1)=(wK a b e||mK (uH l a b e) N):=by rw[cJ,a6.out,Bool.true_and]
       have M:wK a b e=(!dC a.toNat e||dC b.toNat e):=rfl;obtain⟨za,b9⟩:=aQ (dC a.toNat e);obtain⟨zb,c5⟩:=aQ (dC b.toNat e);rw[<-b9]at K a9 M;rw[<-c5]at b0 Y M;obtain⟨ya,b7⟩:=aQ (dO a e);obtain⟨yb,b8⟩:=aQ (dO b e);rw[<-b7]at c8 K a9;rw[<-b8]at c9 b0 Y;have D:=aN (And.intro z M);clear b9 c5 b7 b8 z M a9 b0
       cases za with
       |false=>
        simp only[Bool.not_false]at K;have I:cJ (fun e=>wK a b e||mK (uH l a b e) N) (e+1)=true:=by rw[D.out.1,D.out.2];rfl
        have HS:=aN I;clear I;go_wp2;go_roundw
        case rel=>exact⟨e+1,by omega,by go_num,HS.out,Be,Ke⟩
        case measure=>simp[intOf];omega
       |true=>
        simp only[Bool.not_true]at K
        cases zb with
        |true=>
         have I:cJ (fun e=>wK a b e||mK (uH l a b e) N) (e+1)=true:=by rw[D.out.1,D.out.2];rfl
         have HS:=aN I;clear I;go_wp2;go_roundw
         case rel=>exact⟨e+1,by omega,by go_num,HS.out,Be,Ke⟩
         case measure=>simp[intOf];omega
        |false=>
         have I:cJ (fun e=>wK a b e||mK (uH l a b e) N) (e+1)=mK (uH l a b e) N:=by rw[D.out.1,D.out.2];rfl
         have HS:=aN I;clear I D;go_wp2_with fail;clear c8 K c9 Y G;go_loopw [9,8] (fun dv fv wq=>∃d:Nat,d<=N/\dv=aM d/\fv=.bool (mK (uH l a b e) d)/\Below w w wq/\aU wq w 31 #[(N:Int),aI p l.length c]) (fun dv _ _=>N-(intOf dv).toNat)
         case atStart=>exact⟨0,Nat.zero_le _,rfl,rfl,Be,Ke⟩
         case round=>
          obtain⟨d,hd,rfl,rfl,Bd,Kd⟩:=hrel;obtain⟨wd,rfl⟩:∃wd:World,wd=wr:=⟨_,rfl⟩;clear Be Ke;have G:=Kd.cell;have d8:=d7.below Bd aO;by_cases n1:d<N
          ·have g9:(d:Int)<(N:Int):=aK;have j6:d<6:=aK;obtain⟨c8,K,a9⟩:=yI a d c7.out.1;obtain⟨c9,b0,Y⟩:=yI b d c7.out.2;have z:mK (uH l a b e) (d+1)=(mK (uH l a b e) d||(dC b.toNat d&&(!dC a.toNat d&&fS l (a-2^e+2^d)))):=rfl;obtain⟨za,b9⟩:=aQ (dC a.toNat d);obtain⟨zb,c5⟩:=aQ (dC b.toNat d);rw[<-b9]at K z;rw[<-c5]at Y z;obtain⟨ya,b7⟩:=aQ (dO a d);obtain⟨yb,b8⟩:=aQ (dO b d);rw[<-b7]at c8 K;rw[<-b8]at c9 Y;obtain⟨q,hq⟩:=aQ (mK (uH l a b e) d);rw[<-hq]at z ⊢;have D:=aN z;clear b9 c5 b7 b8 z a9 b0 hq
           cases zb with
           |false=>
            have I:mK (uH l a b e) (d+1)=q:=by rw[D.out];simp
            have J:=aN I;clear I D;go_wp2_with fail;go_quiet (fail);go_wp2;go_roundw
            case rel=>exact⟨d+1,by omega,by go_num,by rw[J.out],Bd.drewN' _,Kd.drewN _⟩
            case measure=>simp[intOf];omega
           |true=>
            cases za with
            |true=>
             have I:mK (uH l a b e) (d+1)=q:=by rw[D.out];simp
             have J:=aN I;clear I D;simp only[Bool.not_true]at K;go_wp2_with fail;go_quiet (fail);go_wp2;go_roundw
             case rel=>exact⟨d+1,by omega,by go_num,by rw[J.out],Bd.drewN' _,Kd.drewN _⟩
             case measure=>simp[intOf];omega
            |false=>
             simp only[Bool.not_false]at K;have pe:=XL e j8;have pd:=XL d j6;have o5:=pe.1;have o6:=pe.2;have o3:=pd.1;have o4:=pd.2;have o0:IntKind.i64.wrap (a-2^e)=a-2^e:=by rw[IntKind.wrap_i64];omega
             have o1:IntKind.i64.wrap (a-2^e+2^d)=a-2^e+2^d:=by rw[IntKind.wrap_i64];omega
             clear pe pd
             cases O:fS l (a-2^e+2^d) with
             |false=>
              have I:mK (uH l a b e) (d+1)=q:=by rw[D.out,O];simp
              have J:=aN I;clear I D;go_wp2_with fail;go_quiet ((go_at_call 210;first|exact nW (kT l _ _ _ (d8.drewN _)) O|exact rT (kT l _ _ _ (d8.drewN _)) O));go_wp2;go_roundw
              case rel=>exact⟨d+1,by omega,by go_num,by rw[J.out],Bd.drewN' _,Kd.drewN _⟩
              case measure=>simp[intOf];omega
             |true=>
              have I:mK (uH l a b e) (d+1)=true:=by rw[D.out,O];simp
              have J:=aN I;clear I D;go_wp2_with fail;go_quiet ((go_at_call 210;first|exact nW (kT l _ _ _ (d8.drewN _)) O|exact rT (kT l _ _ _ (d8.drewN _)) O));go_wp2;go_roundw
              case rel=>exact⟨d+1,by omega,by go_num,by rw[J.out],Bd.drewN' _,Kd.drewN _⟩
              case measure=>simp[intOf];omega
          ·have g9:¬(d:Int)<(N:Int):=aK;have j7:d=N:=aK;subst j7;obtain⟨q,hq⟩:=aQ (mK (uH l a b e) d);have I:=HS.out;rw[<-hq]at I ⊢;have J:=aN I;have m2:=aN hq;clear I hq HS
           cases q with
           |true=>
            go_wp2;go_roundw
            case rel=>exact⟨e+1,by omega,by go_num,J.out,Bd,Kd⟩
            case measure=>simp[intOf];omega
           |false=>
            go_wp2;go_ret;refine⟨aZ ?_,Bd⟩;rw[HX.out];have k1:nL l a b=false:=by
             rw[a8.out]
             cases hc:WU d l a b with
             |false=>rfl
             |true=>
              unfold WU at hc;have h1:=eK.1 hc;have h2:cJ (fun e=>wK a b e||mK (uH l a b e) d) (e+1)=true:=eK.2 (fun i hi=>h1 i aK);rw[J.out]at h2
              cases h2
            have h1:l.all (fun a=>l.all (nL l a))=false:=by
             cases hc:l.all (fun a=>l.all (nL l a)) with
             |false=>rfl
             |true=>
              have:=List.all_eq_true.1 (List.all_eq_true.1 hc a a7.out) b j2.out;rw[k1]at this
              cases this
            rw[h1,Bool.and_false]
      ·have h5:¬(e:Int)<(N:Int):=aK;have e8:e=N:=aK;have O:nL l a b=true:=by rw[a8.out];unfold WU;rw[<-e8];simpa[e8]using a6.out
       have HH:=aN O;clear O e8;go_wp2;go_roundw
       case rel=>exact⟨k+1,by omega,by go_num,by rw[g2.out,HH.out],Be,Ke⟩
       case measure=>simp[intOf];omega
    ·have h8:¬(k:Int)<(l.length:Int):=aK;have O:=a1.out;rw[List.take_of_length_le aK]at O;have HH:=aN O;clear O;go_wp2;go_roundw
     case rel=>exact⟨j+1,by omega,by go_num,by rw[j3.out,HH.out],Bk,Kk⟩
     case measure=>simp[intOf];omega
  ·have h9:¬(j:Int)<(l.length:Int):=aK;have O:=d9.out;rw[List.take_of_length_le aK]at O;have HH:=aN O;clear O;go_wp2_with fail;refine(e6.out wr (d7.below Bw aO)).mono ?_;rintro r w3 ⟨rfl,b3⟩;have B3:=Bw.after b3 Bw.size;have K3:=Kw.keep b3;clear G;have G:=K3.cell;go_wp2_with fail;refine(e6.out w3 (d7.below B3 aO)).mono ?_;rintro r w5 ⟨rfl,b5⟩;have B5:=B3.after b5 B3.size;have K5:=K3.keep b5;clear G;have G:=K5.cell;have g7:(decide ((0:Int)<(l.length:Int)))=!l.isEmpty:=by cases l with|nil=>rfl|cons x t=>simp
   have j1:=aN g7;clear g7;go_wp2;go_ret;exact⟨aZ (by rw[HX.out,HH.out,Bool.and_true,<-j1.out];simp),B5⟩
theorem aa7(w:World)(g:Int)(v:Value)(l:List Int)(hv:aR w v l)(hl:l.length<=1048576):
  Calls prog 21 #[.agg #[g,v]] w fun e w'=>e=.returned (.string (CS g l))/\Below w w w':=by
 have K:=hv;obtain⟨a,c,rfl⟩:=hv.shape;have K0:=aU.new w 31 #[g,aI a l.length c]
 cases J:bJ g l with
 |false=>have HX:=aN (WW J);have HF:=aN J;clear J;go_enter func21,ntmps21;go_wp2_with fail;refine(cS g l _ _ (K.alloc _)).mono ?_;rintro e w1 ⟨rfl,b1⟩;rw[HF.out];go_wp2;go_ret;exact⟨cI HX.out.symm,(bF _ _).after b1 (by simp)⟩
 |true=>
  have r0:=MA g l;have r2:=(GQ g l).1;have r4:=M0 g l;have q9:=Q7 g l;have hx:CS g l=WY g l:=GK J;unfold WY xG vH at hx;obtain⟨N,hN⟩:∃N:Nat,g=(N:Int):=Int.eq_ofNat_of_zero_le (dT J).1;have j6:∀(W:World),aR W (aI a l.length c) l->Calls prog 116 #[.agg #[g,aI a l.length c]] W fun e w'=>∃ad i c,e=.returned (aI ad i c)/\aR w' (aI ad i c) (mX g l)/\Below W W w':=by intro W h;subst hN;exact VD W N _ l h J
  have j3:∀(W:World),aR W (aI a l.length c) l->Calls prog 124 #[.agg #[g,aI a l.length c]] W fun e w'=>e=.returned (.bool (wL g l))/\Below W W w':=by intro W h;subst hN;exact SN W N _ l h J
  have a9:=fun(W:World) (h:aR W (aI a l.length c) l)=>IU W g _ l h hl;have j4:=fun(W:World) (h:aR W (aI a l.length c) l)=>QT g l _ W h J;have j5:=fun(W:World) (h:aR W (aI a l.length c) l)=>adS W g _ l h J;have j7:=fun(W:World) (h:aR W (aI a l.length c) l)=>aeJ g l _ W h J;simp only[J]at a9;obtain⟨M,hM⟩:=aQ (gZ g l);obtain⟨L,hL⟩:=aQ (lD g l);simp only[<-hM,<-hL]at a9 hx;have s1:=fC g l;have s2:=fC M L;have s3:=cW (sO g l) ⟨by omega,by omega⟩;have s4:=FL g l;have s5:=cW (sP g l) ⟨by omega,by omega⟩;have s6:=cW (wP g l) ⟨by omega,by omega⟩;have s7:=fF g (yN g l);have q1:=fun(W:World) (h:aR W (aI a l.length c) l)=>kR g l _ W h;have q2:=fun(W:World) (v:Value) (h:aR W v L)=>kR M L v W h;have q3:=fun(W:World)=>fX (sO g l) ⟨by omega,by omega⟩ W;have q4:=fun(W:World) (v:Value) (h:aR W v (mX g l))=>vJ (mX g l) v W h aK;have q5:=fun(W:World)=>fX (sP g l) ⟨by omega,by omega⟩ W;have q6:=fun(W:World)=>fX (wP g l) ⟨by omega,by omega⟩ W;have q7:=fun(W:World)=>kS g (yN g l) W;obtain⟨F1,d8⟩:=aQ (dB g l);obtain⟨F2,d9⟩:=aQ (dB M L);obtain⟨F3,e6⟩:=aQ (bQ (sO g l));obtain⟨F4,e7⟩:=aQ (eX (mX g l));obtain⟨F5,e8⟩:=aQ (bQ (sP g l));obtain⟨F6,e9⟩:=aQ (bQ (wP g l));obtain⟨F7,f0⟩:=aQ (bZ g (yN g l));simp only[<-d8]at q1 s1;simp only[<-d9]at q2 s2;simp only[<-e6]at q3 s3;simp only[<-e7]at q4 s4;simp only[<-e8]at q5 s5;simp only[<-e9]at q6 s6;simp only[<-f0]at q7 s7;rw[<-d8,<-d9,<-e6,<-e7,<-e8,<-e9,<-f0]at hx;have g6:=aN q1;have g7:=aN q2;have g8:=aN q3;have g9:=aN q4;have h6:=aN q5;have d0:=aN q6;have d5:=aN q7;have g2:=aN a9;have c8:=aN j4;have g3:=aN j5;have g5:=aN j7;have c7:=aN j3;have g4:=aN j6;have HX:=aN hx;have HF:=aN J;clear hx J a9 j4 j5 j7 j3 j6 hM hL hN d8 d9 e6 e7 e8 e9 f0 q1 q2 q3 q4 q5 q6 q7;go_enter func21,ntmps21;go_wp2_with fail;refine(cS g l _ _ (K.alloc _)).mono ?_;rintro e w1 ⟨rfl,b1⟩;rw[HF.out];have B1:Below w w w1:=(bF _ _).after b1 (by simp);have K1:=K0.keep b1;clear K0 b1;have G:=K1.cell;go_wp2_with fail;refine(g2.out _ (K.below B1 aO)).mono ?_;rintro e w2 ⟨pB,iB,qB,rfl,oB,b2⟩;have r3:iB=L.length:=oB.ints.capLe.1;subst r3;have B2:=B1.after b2 B1.size;have K2:=K1.keep b2;clear G B1 K1 b2;have KB:=aU.new w2 31 #[M,aI pB L.length qB];have hB:=oB.ints.alloc (.cells #[M,aI pB L.length qB] 31);have B3:=B2.alloc B2.size (.cells #[M,aI pB L.length qB] 31);have K3:=K2.alloc (.cells #[M,aI pB L.length qB] 31);have hA:=K.below B3 aO;clear oB B2 K2;go_upto_region 4 with fail;obtain⟨w3,j8⟩:=aQ (w2.alloc (.cells #[M,aI pB L.length qB] 31));rw[<-j8]at KB hB B3 K3 hA ⊢;clear j8;go_cut [5] (fun v wx=>∃X,v=.string X/\X=I9 F1 F2 F3 F4 F5/\Below w3 w3 wx)
  case rest=>
   obtain⟨X,rfl,hX,b4⟩:=hcut;have w0:X.size<=20400:=by rw[hX];exact JA F1 F2 F3 F4 F5 s1 s2 s3 s4 s5
   have D:=HX.out;rw[<-hX]at D;have HX:=aN D;have B4:=B3.after b4 B3.size;have K4:=K3.keep b4;clear hX D b4 B3 K3 KB hB hA g6 g7 g8 g9 h6 g2 g3 g5 g4 s1 s2 s3 s4 s5;have G:=K4.cell;go_wp2_with fail;refine(c8.out _ (K.below B4 aO)).mono ?_;rintro e w5 ⟨rfl,b5⟩;have B5:=B4.after b5 B4.size;have K5:=K4.keep b5;clear B4 K4 G b5;have g0:=K5.cell 0;simp only[List.getElem?_toArray,List.getElem?_cons_zero]at g0;have q0:∀y:Ext w5,y.w.cell? ⟨w.heap.size,0,none⟩=some (aM g):=fun y=>y.cell g0;have R6:=aN (fun y:Ext w5=>d0.out y.w);have R7:=aN (fun y:Ext w5=>d5.out y.w);clear g0;go_wp2_with fail;refine bN _ aT aT ?_
   repeat(first|go_big_quiet_skip|(go_big_quiet_want;go_big_quiet_op;first|go_big_quiet_on|(apply Exists.intro;refine⟨fun _=>?_,?_⟩;(first|(go_at_call 54;with_reducible exact bO (R6.out _))|(go_at_call 80;with_reducible exact bO (R7.out _)));go_big_quiet_on)))
   refine wpQuiet_nil ?_;rintro I ⟨⟨I,b6⟩,rfl⟩
   try dsimp only
   have B6:=B5.after b6 B5.size;have K6:=K5.keep b6;have F:=K.below B6 aO;have v7:(⟨#[32,98,121,32]⟩:ByteArray).size=4:=rfl;have z0:(X++F6++(⟨#[32,98,121,32]⟩:ByteArray)++F7).size<=20600:=by simp only[ByteArray.size_append];omega
   have G:=K6.cell;have g0:=G 0;have g1:=G 1;simp only[List.getElem?_toArray,List.getElem?_cons_zero,List.getElem?_cons_succ]at g0 g1;have q0:∀y:Ext I,y.w.cell? ⟨w.heap.size,0,none⟩=some (aM g):=fun y=>y.cell g0;have q1:∀y:Ext I,y.w.cell? ⟨w.heap.size,1,none⟩=some (aI a l.length c):=fun y=>y.cell g1;clear R6 R7 d0 d5 B5 K5 b6 g0 g1 G;obtain⟨Y,hY⟩:=aQ (X++F6++(⟨#[32,98,121,32]⟩:ByteArray)++F7);rw[<-hY]at z0;have D:=HX.out;rw[<-hY]at D;have HX:=aN D;clear D;have Q0:=fun y:Ext I=>aeC g l _ y.w (F.keep y.b) HF.out;have Q1:=fun y:Ext I=>L0 g l _ y.w (F.keep y.b) HF.out;have Q2:=fun y:Ext I=>Y7 g l _ y.w (F.keep y.b) HF.out;have Q3:=fun y:Ext I=>aaB g l _ y.w (F.keep y.b) HF.out;have Q4:=fun y:Ext I=>VF g l _ y.w (F.keep y.b) hl;have Q5:=fun y:Ext I=>c7.out y.w (F.keep y.b);obtain⟨h9,O⟩:=aQ (tR g l);rw[<-O]at Q0;obtain⟨i6,R⟩:=aQ (mS g l);rw[<-R]at Q1;obtain⟨i7,S⟩:=aQ (mB g l);rw[<-S]at Q2;obtain⟨i8,Z⟩:=aQ (qT g l);rw[<-Z]at Q3;obtain⟨j0,a6⟩:=aQ (oP g l);rw[<-a6]at Q4;obtain⟨j1,a7⟩:=aQ (wL g l);rw[<-a7]at Q5;have o4:=aN (And.intro O (And.intro R (And.intro S (And.intro Z (And.intro a6 a7)))));have Q0:=aN Q0;have Q1:=aN Q1;have Q2:=aN Q2;have Q3:=aN Q3;have Q4:=aN Q4;have Q5:=aN Q5;obtain⟨t0,b0⟩:=aQ (jL h9 (⟨#[32,108,97,109,105,110,97,114]⟩:ByteArray));have Y0:=fun y:Ext I=>kL h9 (⟨#[32,108,97,109,105,110,97,114]⟩:ByteArray) y.w;rw[<-b0]at Y0;have Y0:=aN Y0;have z1:t0.size<=14:=by rw[b0];exact Nat.le_trans (dX _ _) aY
   obtain⟨t1,b3⟩:=aQ (jL i6 (⟨#[32,99,114,111,115,115,102,114,101,101]⟩:ByteArray));have Y1:=fun y:Ext I=>kL i6 (⟨#[32,99,114,111,115,115,102,114,101,101]⟩:ByteArray) y.w;rw[<-b3]at Y1;have Y1:=aN Y1;have z2:t1.size<=14:=by rw[b3];exact Nat.le_trans (dX _ _) aY
   obtain⟨t2,b8⟩:=aQ (jL i7 (⟨#[32,105,110,116,101,114,115,101,99,116,105,110,103]⟩:ByteArray));have Y2:=fun y:Ext I=>kL i7 (⟨#[32,105,110,116,101,114,115,101,99,116,105,110,103]⟩:ByteArray) y.w;rw[<-b8]at Y2;have Y2:=aN Y2;have z3:t2.size<=14:=by rw[b8];exact Nat.le_trans (dX _ _) aY
   obtain⟨t3,b9⟩:=aQ (jL i8 (⟨#[32,97,110,116,105,99,104,97,105,110]⟩:ByteArray));have Y3:=fun y:Ext I=>kL i8 (⟨#[32,97,110,116,105,99,104,97,105,110]⟩:ByteArray) y.w;rw[<-b9]at Y3;have Y3:=aN Y3;have z4:t3.size<=14:=by rw[b9];exact Nat.le_trans (dX _ _) aY
   obtain⟨t4,c5⟩:=aQ (jL j0 (⟨#[32,100,111,119,110]⟩:ByteArray));have Y4:=fun y:Ext I=>kL j0 (⟨#[32,100,111,119,110]⟩:ByteArray) y.w;rw[<-c5]at Y4;have Y4:=aN Y4;have z5:t4.size<=14:=by rw[c5];exact Nat.le_trans (dX _ _) aY
   obtain⟨t5,c6⟩:=aQ (jL j1 (⟨#[32,98,97,115,101,115]⟩:ByteArray));have Y5:=fun y:Ext I=>kL j1 (⟨#[32,98,97,115,101,115]⟩:ByteArray) y.w;rw[<-c6]at Y5;have Y5:=aN Y5;have z6:t5.size<=14:=by rw[c6];exact Nat.le_trans (dX _ _) aY
   have o5:=aN (And.intro b0 (And.intro b3 (And.intro b8 (And.intro b9 (And.intro c5 c6)))));clear O R S Z a6 a7 b0 b3 b8 b9 c5 c6 F K6 r2 r0 r4 q9 c8 c7;have s0:(Y++t0).size<=20614:=by simp only[ByteArray.size_append];omega
   have s1:(Y++t0++t1).size<=20628:=by simp only[ByteArray.size_append];omega
   have s2:(Y++t0++t1++t2).size<=20642:=by simp only[ByteArray.size_append];omega
   have s3:(Y++t0++t1++t2++t3).size<=20656:=by simp only[ByteArray.size_append];omega
   have s4:(Y++t0++t1++t2++t3++t4).size<=20670:=by simp only[ByteArray.size_append];omega
   have s5:(Y++t0++t1++t2++t3++t4++t5).size<=20684:=by simp only[ByteArray.size_append];omega
   have HY:=aN hY;rw[<-hY];clear hY;go_wp2_with fail;refine bN _ aT aT ?_
   repeat(first|go_big_quiet_skip|(go_big_quiet_want;go_big_quiet_op;first|go_big_quiet_on|(apply Exists.intro;refine⟨fun _=>?_,?_⟩;(first|(go_at_call 119;with_reducible exact bO (Q0.out _))|(go_at_call 120;with_reducible exact bO (Q1.out _))|(go_at_call 121;with_reducible exact bO (Q2.out _))|(go_at_call 122;with_reducible exact bO (Q3.out _))|(go_at_call 123;with_reducible exact bO (Q4.out _))|(go_at_call 124;with_reducible exact bO (Q5.out _))|(go_at_call 58;first|(with_reducible exact cR (Y0.out _))|(with_reducible exact cR (Y1.out _))|(with_reducible exact cR (Y2.out _))|(with_reducible exact cR (Y3.out _))|(with_reducible exact cR (Y4.out _))|(with_reducible exact cR (Y5.out _))));go_big_quiet_on)))
   refine wpQuiet_nil ?_;rintro w7 ⟨⟨w7,b7⟩,rfl⟩
   try dsimp only
   go_wp2_with fail;go_ret;refine⟨cI ?_,B6.after b7 B6.size⟩;obtain⟨h0,h1,h2,h3,h4,h5⟩:=o4.out;obtain⟨k0,k1,k2,k3,k4,k5⟩:=o5.out;rw[HX.out,<-h0,<-h1,<-h2,<-h3,<-h4,<-h5,k0,k1,k2,k3,k4,k5]
  case first=>
   have a0:=K3.cell 0;have a1:=K3.cell 1;have a2:=KB.cell 0;have a3:=KB.cell 1;simp only[List.getElem?_toArray,List.getElem?_cons_zero,List.getElem?_cons_succ]at a0 a1 a2 a3;have q0:∀y:Ext w3,y.w.cell? ⟨w.heap.size,0,none⟩=some (aM g):=fun y=>y.cell a0;have q1:∀y:Ext w3,y.w.cell? ⟨w.heap.size,1,none⟩=some (aI a l.length c):=fun y=>y.cell a1;have q2:∀y:Ext w3,y.w.cell? ⟨w2.heap.size,0,none⟩=some (aM M):=fun y=>y.cell a2;have q3:∀y:Ext w3,y.w.cell? ⟨w2.heap.size,1,none⟩=some (aI pB L.length qB):=fun y=>y.cell a3;clear a0 a1 a2 a3 c8 c7 d0 d5;have e0:(⟨#[102,97,109,105,108,121,32]⟩:ByteArray).size=7:=rfl;have e1:(⟨#[32,98,108,111,99,107,101,114,32]⟩:ByteArray).size=9:=rfl;have e2:(⟨#[32,100,105,109,101,110,115,105,111,110,32]⟩:ByteArray).size=11:=rfl;have e3:(⟨#[32,103,114,111,119,116,104,32]⟩:ByteArray).size=8:=rfl;have e4:(⟨#[32,108,121,109,32]⟩:ByteArray).size=5:=rfl;have e5:(⟨#[32,100,105,115,99,114,101,112,97,110,99,121,32]⟩:ByteArray).size=13:=rfl;refine CG (C:=fun w'=>∃x:Ext w3,w'=x.w) aT aT aT ⟨⟨w3.drew,(Below.refl _ _).drew⟩,rfl⟩ ?_;have bd:Below w3 w3 w3.drew:=(Below.refl _ _).drew
   repeat(refine gJ (by rfl) ?_;(first|go_big_quiet_skip|(go_big_quiet_want;go_big_quiet_op;go_big_quiet_on));refine wpQuiet_nil ?_)
   refine iJ 79 _ _ rfl (enters_of func79 aT rfl) aT ?_;intro KK z;go_simp;refine(g6.out _ (hA.keep bd)).mono ?_;rintro e x0 ⟨rfl,y0⟩;have y0:=bd.after y0 bd.size;refine⟨_,rfl,?_⟩;go_simp;refine z _ _ ⟨⟨x0,y0⟩,rfl⟩ ?_;clear z KK
   repeat(refine gJ (by rfl) ?_;(first|go_big_quiet_skip|(go_big_quiet_want;go_big_quiet_op;go_big_quiet_on));refine wpQuiet_nil ?_)
   refine iJ 79 _ _ rfl (enters_of func79 aT rfl) aT ?_;intro KK z;go_simp;refine(g7.out _ _ (hB.keep y0)).mono ?_;rintro e x1 ⟨rfl,y1⟩;have y1:=y0.after y1 y0.size;refine⟨_,rfl,?_⟩;go_simp;refine z _ _ ⟨⟨x1,y1⟩,rfl⟩ ?_;clear z KK
   repeat(refine gJ (by rfl) ?_;(first|go_big_quiet_skip|(go_big_quiet_want;go_big_quiet_op;go_big_quiet_on));refine wpQuiet_nil ?_)
   refine iJ 115 _ _ rfl (enters_of func115 aT rfl) aT ?_;intro KK z;go_simp;refine(g3.out _ (hA.keep y1)).mono ?_;rintro e x2 ⟨rfl,y2⟩;have y2:=y1.after y2 y1.size;refine⟨_,rfl,?_⟩;go_simp;refine z _ _ ⟨⟨x2,y2⟩,rfl⟩ ?_;clear z KK
   repeat(refine gJ (by rfl) ?_;(first|go_big_quiet_skip|(go_big_quiet_want;go_big_quiet_op;go_big_quiet_on));refine wpQuiet_nil ?_)
   refine iJ 54 _ _ rfl (enters_of func54 aT rfl) aT ?_;intro KK z;go_simp;refine(g8.out _).mono ?_;rintro e x3 ⟨rfl,y3⟩;have y3:=y2.after y3 y2.size;refine⟨_,rfl,?_⟩;go_simp;refine z _ _ ⟨⟨x3,y3⟩,rfl⟩ ?_;clear z KK
   repeat(refine gJ (by rfl) ?_;(first|go_big_quiet_skip|(go_big_quiet_want;go_big_quiet_op;go_big_quiet_on));refine wpQuiet_nil ?_)
   refine iJ 116 _ _ rfl (enters_of func116 aT rfl) aT ?_;intro KK z;go_simp;refine(g4.out _ (hA.keep y3)).mono ?_;rintro e x4 ⟨p1,i1,r1,rfl,o1,y4⟩;have y4:=y3.after y4 y3.size;refine⟨_,rfl,?_⟩;go_simp;refine z _ _ ⟨⟨x4,y4⟩,rfl⟩ ?_;clear z KK
   repeat(refine gJ (by rfl) ?_;(first|go_big_quiet_skip|(go_big_quiet_want;go_big_quiet_op;go_big_quiet_on));refine wpQuiet_nil ?_)
   refine iJ 55 _ _ rfl (enters_of func55 aT rfl) aT ?_;intro KK z;go_simp;refine(g9.out _ _ o1).mono ?_;rintro e x5 ⟨rfl,y5⟩;have y5:=y4.after y5 y4.size;refine⟨_,rfl,?_⟩;go_simp;refine z _ _ ⟨⟨x5,y5⟩,rfl⟩ ?_;clear z KK
   repeat(refine gJ (by rfl) ?_;(first|go_big_quiet_skip|(go_big_quiet_want;go_big_quiet_op;go_big_quiet_on));refine wpQuiet_nil ?_)
   refine iJ 117 _ _ rfl (enters_of func117 aT rfl) aT ?_;intro KK z;go_simp;refine(g5.out _ (hA.keep y5)).mono ?_;rintro e x6 ⟨rfl,y6⟩;have y6:=y5.after y6 y5.size;refine⟨_,rfl,?_⟩;go_simp;refine z _ _ ⟨⟨x6,y6⟩,rfl⟩ ?_;clear z KK
   repeat(refine gJ (by rfl) ?_;(first|go_big_quiet_skip|(go_big_quiet_want;go_big_quiet_op;go_big_quiet_on));refine wpQuiet_nil ?_)
   refine iJ 54 _ _ rfl (enters_of func54 aT rfl) aT ?_;intro KK z;go_simp;refine(h6.out _).mono ?_;rintro e x7 ⟨rfl,y7⟩;have y7:=y6.after y7 y6.size;refine⟨_,rfl,?_⟩;go_simp;refine z _ _ ⟨⟨x7,y7⟩,rfl⟩ ?_;clear z KK
   repeat(refine gJ (by rfl) ?_;(first|go_big_quiet_skip|(go_big_quiet_want;go_big_quiet_op;go_big_quiet_on));refine wpQuiet_nil ?_)
   refine O5 ?_;go_wp2_with fail;go_meet;exact⟨_,rfl,rfl,y7⟩
end
end Go.Proofs.YtcpoomdoodlkjaaGreatDoor
