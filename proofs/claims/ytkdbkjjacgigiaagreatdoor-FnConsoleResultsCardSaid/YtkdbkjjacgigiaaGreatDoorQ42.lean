/- Lemmas for CardConsoleResults. No condition. -/
import Derived.Test.YtkdbkjjacgigiaaGreatDoorQ36
import Derived.Test.YtkdbkjjacgigiaaGreatDoorQ41
set_option maxRecDepth 100000
set_option maxHeartbeats 64000000
namespace Go.Proofs.YtkdbkjjacgigiaaGreatDoor
section
open Go.RowKit Go.G5 Go.Proofs.Tryz
theorem ZY(w:World)(N:Nat)(v:Value)(l:List Int)(hv:aK w v l)(R:aU (N:Int) l=true):
  Calls prog 55 #[.agg #[(N:Int),v]] w fun e w'=>∃ad i c,e=.returned (aA ad i c)/\aK w' (aA ad i c) (nK (N:Int) l)/\Below w w w':=by
 obtain⟨a,c,rfl⟩:=hv.shape;have hm:=dR R;have hl:=iL R;obtain⟨h0,h6,e8,e9⟩:=dB R;have hN:N<=6:=aD;have hp:=cJ N 6 hN;have b7:=hp.1;have h8:=hp.2;simp at b7;have hx:nK (N:Int) l=jG l N (2^N):=by unfold nK;rw[R,Int.toNat_natCast];rfl
 obtain⟨V,hV⟩:=aJ (w.alloc (.cells #[(N:Int),aA a l.length c] 29));have B:Below w w V:=gY hV;have K1:aP V w 29 #[(N:Int),aA a l.length c]:=gJ hV;have S:=cK (N:Int) l _ V (hv.below B aI);rw[R]at S;obtain⟨M,hM⟩:=aJ (2^N);have a1:(2:Int)^N=(M:Int):=by rw[hM];simp
 have l5:IntKind.i64.wrap ((2:Int)^N)=2^N:=by rw[IntKind.wrap_i64];omega
 have g9:M<=64:=by have h:=Nat.pow_le_pow_right (show 0<2 by decide) hN;rw[hM];simpa using h
 have a8:∀s,s<M->bY s<=N:=fun s hs=>UA N aD s aD;have D:=fun(W:World) (s:Nat) (hs:s<M) (h:aK W (aA a l.length c) l)=>LI W _ l h hm hl (s:Int) ⟨by omega,by omega⟩;rw[<-hM]at hx;have HV:=aH hV;have c8:=aH S;have g0:=aH a1;have d0:=aH D;have c9:=aH a8;have HX:=aH hx;clear hV S D a8 hx R e8 e9 hm hp hM a1;go_enter func55,ntmps55;go_wp2_with fail;rw[HV.out.symm];refine c8.out.mono ?_;rintro e w1 ⟨rfl,b1⟩;have B1:=B.after b1 B.size;have J:=K1.keep b1;have G1:=J.cell;go_wp2_with (at_make;refine kZ rfl _ _ _ rfl 3 underlying25 aN (N+1) _ _ rfl rfl (by go_num) (by go_num) aD ?_;intro w2 I hg;have B2:=B1.grown hg B1.size (fun q hq=>by cases hq);have K2:=J.grow hg (by simp);clear G1 hg;have G1:=K2.cell);have j6:=J.lt;go_loopw [4] (fun iv wr=>∃j:Nat,j<=M/\iv=aG j/\aM 3 w1 wr (aA (some ⟨w1,0,none⟩) (N+1) (N+1)) (jG l N j)/\Below w w wr/\aP wr w 29 #[(N:Int),aA a l.length c]) (fun iv _=>M-(intOf iv).toNat)
 case atStart=>exact⟨0,Nat.zero_le _,rfl,I,B2,K2⟩
 case round=>
  obtain⟨j,hj,rfl,ho,Br,Kr⟩:=hrel;clear I G1;have G:=Kr.cell;by_cases hlt:j<M
  ·have a7:(j:Int)<2^N:=by rw[g0.out];omega
   have a9:=c9.out j hlt;have z:jG l N (j+1)=(jG l N j).set (bY j) (max ((jG l N j).getD (bY j) 0) ((yW l (j:Int)).length:Int)):=rfl;have K:=MB l N j aD;have f0:=RA l (j:Int) aD aD;have hk:=V9 l N (bY j) a9 j;have F:=BQ l N j;have e4:(bY j:Int)<(N:Int)+1:=aD;have Y:=aH (fun W=>lQ j W aD);have D:=d0.out wr.drew j hlt (hv.below Br.drew aI);obtain⟨T,hT⟩:=aJ (yW l (j:Int));rw[<-hT]at z f0 D;obtain⟨L,hL⟩:=aJ (jG l N j);rw[<-hL]at z K hk F ho;obtain⟨k,O⟩:=aJ (bY j);rw[<-O]at z hk a9 e4;simp only[<-O]at Y;rw[List.getD_eq_getElem?_getD,List.getElem?_eq_getElem hk,Option.getD_some]at z;have f4:=K _ (List.getElem_mem hk);obtain⟨y,hy⟩:=aJ (L[k]);have g2:=aH z;have Z:=aH D;have c0:=ho.cellAt F.symm k hk;rw[<-hy]at c0 f4;have HY:=aH hy;clear z D hT hL O K hy;have Kd:aP wr.drew w.heap.size 29 #[(N:Int),aA a l.length c]:=Kr;have od:=ho.drewN 1;have j7:∀(p:Option Addr) (i q:Nat) (W:World),(Instr.field 29 (.agg #[(N:Int),aA p i q]) 1).run prog W=.ok (aA p i q) W:=fun _ _ _ _=>rfl;have Gd:=Kd.cell;go_wp2_with fail;go_region_law
    (go_simp;first|(go_at_call 84;refine(Y.out _).mono ?_;rintro e w' ⟨rfl,rfl⟩)|(go_at_call 103;refine Z.out.mono ?_;rintro e w5 ⟨p5,i5,q5,rfl,o5,b5⟩;have e6:i5=T.length:=o5.ints.capLe.1;subst e6;have o6:=od.keep b5;have c6:=o6.cellAt F.symm k hk;rw[<-HY.out]at c6;have f6:=o6.frozenAt F.symm k))
   all_goals
    have st:=o6.stored F.symm k (max y (T.length:Int)) ⟨by omega,by omega⟩;exact ag0
  ·have a7:¬(j:Int)<2^N:=by rw[g0.out];omega
   have a6:j=M:=aD;have HJ:=aH a6;clear a6;go_wp2;go_ret;exact⟨_,_,_,rfl,by rw[HX.out,<-HJ.out];exact ho.ints,Br⟩
theorem alF(s r:Int)(w:World)(J:0<=s/\s<64)(hr:0<=r/\r<64):
  Calls prog 156 #[s,r] w fun e w'=>e=.returned (CS s r)/\w=w':=by
 have hA:=dU J.1 (show s<4611686018427387904 by omega) hr.1 (show r<4611686018427387904 by omega);have D:=kE s r 64 J.1 J.2;have z:=WD J hr;have Y:=alG J hr;have K:CS s r=max (cT (bB s r)-cT (cG s r)) (-(cT (bB s r)-cT (cG s r))):=rfl;rw[<-Y]at K z;obtain⟨A,O⟩:=aJ (bB s r);rw[<-O]at hA D z K;have M:=aH (fun W=>sK A W D.1 aD);have N:=aH (fun W=>sK s W J.1 aD);obtain⟨p,hp⟩:=aJ (cT A);obtain⟨q,hq⟩:=aJ (cT s);simp only[<-hp]at M z K;simp only[<-hq]at N z K;have R:dV s 0 1023=true:=cR.2 ⟨J.1,by omega⟩;have S:dV r 0 1023=true:=cR.2 ⟨hr.1,by omega⟩;have F:=fun W=>cP s 0 1023 W;have I:=fun W=>cP r 0 1023 W;simp only[R]at F;simp only[S]at I;have Z:=aH F;have a1:=aH I;have b0:IntKind.i64.wrap (2*p)=2*p:=by rw[IntKind.wrap_i64];omega
 have b1:IntKind.i64.wrap (2*p-q)=2*p-q:=by rw[IntKind.wrap_i64];omega
 have b3:IntKind.i64.wrap (-(2*p-q))=-(2*p-q):=by rw[IntKind.wrap_i64];omega
 have HX:=aH K;clear K O hp hq D Y R S F I;go_enter func156,ntmps156;go_wp2_with (first
  |(go_at_call 77;first|(with_reducible refine(Z.out _).mono ?_;rintro e w' ⟨rfl,rfl⟩)|(with_reducible refine(a1.out _).mono ?_;rintro e w' ⟨rfl,rfl⟩))
  |(go_at_call 84;first|(with_reducible refine(M.out _).mono ?_;rintro e w' ⟨rfl,rfl⟩)|(with_reducible refine(N.out _).mono ?_;rintro e w' ⟨rfl,rfl⟩)))
 go_ret;exact⟨fL (by rw[HX.out];try omega),rfl⟩
theorem afK(N:Nat)(l:List Int)(v:Value)(r:Int)(w:World)(hv:aK w v l)(hf:aU (N:Int) l=true)(hr:0<=r/\r<2^N):
  Calls prog 105 #[.agg #[(N:Int),v],r] w fun e w'=>e=.returned (wF l r)/\Below w w w':=by
 have c5:=hv;obtain⟨a,b,f7,c,rfl,e5,S,hc,hb⟩:=hv.view prog 25 3 underlying25 aN;have hm:=dR hf;obtain⟨h0,h6,b8,b9⟩:=dB hf;have hN:N<=6:=aD;have hp:=cJ N 6 hN;have f5:=hp.1;have f6:=hp.2;have I:((2:Int)^N)=((2^N:Nat):Int):=by simp
 have b5:(2:Nat)^N<=2^6:=Nat.pow_le_pow_right aQ hN;have D:0<=r/\r<64:=aD;have O:=JZ l r hm D;have K0:=aP.new w 29 #[(N:Int),aA a l.length c];have R:dV r 0 (2^N-1)=true:=cR.2 ⟨hr.1,by omega⟩;have K:=fun W=>cP r 0 (2^N-1) W;simp only[R]at K;have J:=cK (N:Int) l _ _ (c5.alloc (.cells #[(N:Int),aA a l.length c] 29));rw[hf]at J;have b4:=aH K;have a9:=aH (fun W=>eO N W aD);have a8:=aH J;have HC:=aH hc;have b3:=aH S;have HM:=aH hm;have a7:=aH O;have HR:=aH D;clear hc S hm O K J hf R b8 b9 hp I b5 D;go_enter func105,ntmps105;go_wp2_with fail;refine a8.out.mono ?_;rintro e w1 ⟨rfl,b1⟩;have B1:Below w w w1:=(bF _ _).after b1 (by simp);have G:=(K0.keep b1).cell;go_wp2_with (first|(go_at_call 78;refine(a9.out _).mono ?_;rintro e w' ⟨rfl,rfl⟩)|(go_at_call 77;refine(b4.out _).mono ?_;rintro e w' ⟨rfl,rfl⟩));go_loop [5,6] (fun mv iv=>∃j:Nat,j<=l.length/\iv=aG j/\mv=aG (tZ l r j)) (fun _ iv=>l.length-(intOf iv).toNat)
 case atStart=>exact⟨0,Nat.zero_le _,rfl,rfl⟩
 case round=>
  obtain⟨j,hj,rfl,rfl⟩:=hrel;have b6:=a7.out j;by_cases hlt:j<l.length
  ·have Z:(j:Int)<(l.length:Int):=aD;have ck:=aR HC.out hb B1 aI j hlt;have ik:=fun W=>b3.out W j hlt;have F:=fun W=>alF l[j] r W (HM.out _ (List.getElem_mem hlt)) HR.out;have hs:tZ l r (j+1)=max (tZ l r j) (CS l[j] r):=by rw[tZ,aS l j hlt]
   obtain⟨y,hy⟩:=aJ (l[j]);rw[<-hy]at ck hs;simp only[<-hy]at F;obtain⟨z,hz⟩:=aJ (CS y r);rw[<-hz]at hs;simp only[<-hz]at F;obtain⟨M,hM⟩:=aJ (tZ l r j);rw[<-hM]at hs b6 ⊢;have HS:=aH hs;have b0:=aH F;clear hy hz hM hs F;go_wp2_with (go_at_call 156;refine(b0.out _).mono ?_;rintro e w' ⟨rfl,rfl⟩);go_round
   case rel=>exact⟨j+1,by omega,by go_num,by rw[HS.out];try omega⟩
   case measure=>simp[intOf];omega
  ·have Z:¬(j:Int)<(l.length:Int):=aD;have Y:j=l.length:=aD;have HJ:=aH Y;clear Y;go_wp2;go_ret;exact⟨fL (by unfold wF;rw[<-HJ.out]),B1⟩
theorem acJ(l:List Int)(r:Nat):jY l (r+1)=if wF l ((r+1:Nat):Int)<(jY l r).2 then (((r+1:Nat):Int),wF l ((r+1:Nat):Int)) else jY l r:=rfl
theorem ahK{p:Prop}(h:p:=by
  clear F I hD;go_wp2_with fail;refine c8.out.mono ?_;rintro e w2 ⟨rfl,b2⟩;have B2:=B.after b2 B.size;have K2:=K.keep b2;go_wp2;go_roundw
  case rel=>exact⟨r+1,by omega,by go_num,by rw[R.out],by rw[R.out],K2,B2⟩
  case measure=>simp[intOf];omega):p:=h
theorem UJ(g:Int)(l:List Int)(v:Value)(w:World)(hv:aK w v l)(Y:aU g l=true):
  Calls prog 57 #[.agg #[g,v]] w fun e w'=>e=.returned (.tuple #[(BK g l),(yR g l),.bool true])/\Below w w w':=by
 obtain⟨a,c,rfl⟩:=hv.shape;have hm:=dR Y;obtain⟨h0,h6,e8,e9⟩:=dB Y;obtain⟨N,rfl⟩:=Int.eq_ofNat_of_zero_le h0;have hN:N<=6:=aD;have a1:BK (N:Int) l=(jY l (2^N-1)).1:=by unfold BK;rw[Y,Int.toNat_natCast];rfl
 have a6:yR (N:Int) l=(jY l (2^N-1)).2:=by unfold yR;rw[Y,Int.toNat_natCast];rfl
 have a8:=PL l hm;have I:=fun(W:World) (r:Int) (h:aK W (aA a l.length c) l) (hr:0<=r/\r<2^N)=>afK N l _ r W h Y hr;have e0:(2:Nat)^N<=2^6:=Nat.pow_le_pow_right aQ hN;have e7:=Nat.two_pow_pos N;have J:((2:Int)^N)=((2^N:Nat):Int):=by simp
 have hp:=cJ N 6 hN;have g6:=hp.1;have g7:=hp.2;have g9:IntKind.i64.wrap ((2:Int)^N)=2^N:=by rw[IntKind.wrap_i64];omega
 have z:jY l 0=(0,wF l 0):=rfl;obtain⟨M,hM⟩:=aJ (2^N-1);have a7:((2:Int)^N)=(M:Int)+1:=by rw[J,hM];omega
 have f6:M<64:=aD;rw[<-hM]at a1 a6;have K0:=aP.new w 29 #[(N:Int),aA a l.length c];have HR:=aH (And.intro a1 a6);have b9:=aH a8;have c7:=aH I;have O:=aH a7;have Z:=cK (N:Int) l _ _ (hv.alloc (.cells #[(N:Int),aA a l.length c] 29));rw[Y]at Z;have c5:=aH Z;obtain⟨W0,S⟩:=aJ (wF l 0);have b4:∀W,aK W (aA a l.length c) l->Calls prog 105 #[.agg #[(N:Int),aA a l.length c],aB] W fun e w'=>e=.returned W0/\Below W W w':=fun W h=>by rw[S];exact I W 0 h aD
 rw[<-S]at z;have HW:=aH b4;have HS:=aH z;clear a1 a6 a8 I e0 e7 J hM hm Y b4 z S Z e8 e9 hp a7;go_enter func57,ntmps57;go_wp2_with fail;refine c5.out.mono ?_;rintro e w1 ⟨rfl,b1⟩;have B1:Below w w w1:=(bF _ _).after b1 (by simp);have K1:=K0.keep b1;have G:=K1.cell;go_wp2_with fail;refine(HW.out w1 (hv.below B1 aI)).mono ?_;rintro e w2 ⟨rfl,b2⟩;have B2:=B1.after b2 B1.size;have K2:=K1.keep b2;clear G K0 b1 K1 B1 b2;go_wp2_with fail;go_loopw [5,6,7] (fun bv mv iv wr=>∃(r:Nat),r<=M/\iv=aG ((r:Int)+1)/\bv=aG (jY l r).1/\mv=aG (jY l r).2/\aP wr w 29 #[(N:Int),aA a l.length c]/\Below w w wr) (fun _ _ iv _=>M+1-(intOf iv).toNat)
 case atStart=>exact⟨0,Nat.zero_le _,rfl,by rw[HS.out],by rw[HS.out],K2,B2⟩
 case round=>
  obtain⟨r,hr,rfl,rfl,rfl,K,B⟩:=hrel;clear K2 B2;have e5:=b9.out r aD;have F:=acJ l r;have a9:((r+1:Nat):Int)=(r:Int)+1:=aD;rw[a9]at F;obtain⟨C,hC⟩:=aJ (jY l r);rw[<-hC]at e5 F ⊢;have HC:=aH hC;have G:=K.cell;clear hC a9;by_cases hlt:r<M
  ·have b0:(r:Int)+1<2^N:=by rw[O.out];omega
   have I:=c7.out wr ((r:Int)+1) (hv.below B aI) (by rw[O.out];omega);obtain⟨D,hD⟩:=aJ (wF l ((r:Int)+1));rw[<-hD]at I F;have c8:=aH I;have g8:IntKind.i64.wrap ((r:Int)+1+1)=(r:Int)+1+1:=by rw[IntKind.wrap_i64];omega
   by_cases hd:D<C.2
   ·rw[if_pos hd]at F;have R:=aH F;exact ahK
   ·rw[if_neg hd]at F;have R:=aH F;exact ahK
  ·have b0:¬(r:Int)+1<2^N:=by rw[O.out];omega
   have b3:r=M:=aD;have c6:=aH b3;clear b3 F;go_wp2;go_ret3;exact⟨by rw[HR.out.1,HR.out.2,<-c6.out,HC.out];rfl,B⟩
theorem WY{p:Prop}(h:p:=by
  go_wp2_with fail;refine K.out.mono ?_;rintro e w1 ⟨rfl,S⟩;have N:Below w w w1:=(bF _ _).after S (by simp);have G:=(R.keep S).cell;go_wp2_with fail;refine(M.out w1 (I.below N aI)).mono ?_;rintro e Y ⟨rfl,b2⟩;go_wp2;go_ret;exact⟨aW O.out.symm,N.after b2 N.size⟩):p:=h
theorem aeX(g:Int)(l:List Int)(v:Value)(w:World)(I:aK w v l)(D:aU g l=true):
  Calls prog 61 #[.agg #[g,v]] w fun e w'=>e=.returned (.bool (rT g l))/\Below w w w':=by
 obtain⟨a,c,rfl⟩:=I.shape;have R:=aP.new w 29 #[g,aA a l.length c];have z:=cK g l _ _ (I.alloc (.cells #[g,aA a l.length c] 29));rw[D]at z;have J:rT g l=uM l:=by unfold rT;rw[D,aeY (dR D)];rfl
 have F:=fun W (h:aK W (aA a l.length c) l)=>KZ l _ W h (dR D) (iL D);have O:=aH J;have K:=aH z;have M:=aH F;clear J z F D;go_enter func61,ntmps61;exact WY
theorem alM(g:Int)(l:List Int)(v:Value)(w:World)(I:aK w v l)(D:aU g l=true):
  Calls prog 58 #[.agg #[g,v]] w fun e w'=>e=.returned (.bool (uU g l))/\Below w w w':=by
 obtain⟨a,c,rfl⟩:=I.shape;have R:=aP.new w 29 #[g,aA a l.length c];have z:=cK g l _ _ (I.alloc (.cells #[g,aA a l.length c] 29));rw[D]at z;have J:uU g l=WR l:=by
  first
   |(unfold uU;rw[D,WS (dR D)];rfl)
   |(unfold mH;rw[D,N5];rfl)
 have F:=fun W (h:aK W (aA a l.length c) l)=>P6 l _ W h (dR D);have O:=aH J;have K:=aH z;have M:=aH F;clear J z F D;go_enter func58,ntmps58;exact WY
theorem ac6(g:Int)(l:List Int)(v:Value)(w:World)(I:aK w v l)(D:aU g l=true):
  Calls prog 60 #[.agg #[g,v]] w fun e w'=>e=.returned (.bool (mH g l))/\Below w w w':=by
 obtain⟨a,c,rfl⟩:=I.shape;have R:=aP.new w 29 #[g,aA a l.length c];have z:=cK g l _ _ (I.alloc (.cells #[g,aA a l.length c] 29));rw[D]at z;have J:mH g l=OK l:=by
  first
   |(unfold uU;rw[D,WS (dR D)];rfl)
   |(unfold mH;rw[D,N5];rfl)
 have F:=fun W (h:aK W (aA a l.length c) l)=>WN l _ W h (dR D);have O:=aH J;have K:=aH z;have M:=aH F;clear J z F D;go_enter func60,ntmps60;exact WY
theorem BE(a:Int)(e:Nat)(h:0<=a/\a<64):bits BinOp.and IntKind.i64 (a/2^e) 1=dI a e/\(dI a e==0)=!cZ a.toNat e/\(dI a e==1)=cZ a.toNat e:=by
 have h1:=oP a.toNat e;rw[show((a.toNat:Nat):Int)=a by omega]at h1;refine⟨jN a e h.1 aD,?_,h1⟩;rw[<-h1];have:dI a e=0∨dI a e=1:=by unfold dI;omega
 rcases this with h|h<;>rw[h]<;>rfl
theorem abQ(e:Nat)(h:e<6):0<(2:Int)^e/\(2:Int)^e<64:=by
 rcases(show e=0∨e=1∨e=2∨e=3∨e=4∨e=5 by omega) with rfl|rfl|rfl|rfl|rfl|rfl<;>decide
theorem ahD{p:Prop}(h:p:=by
  have M:=aH K;clear K D;go_wp2_with fail;go_quiet ((go_at_call 110;first|exact oT (qH l _ _ _ (j3.drewN _)) O|exact sP (qH l _ _ _ (j3.drewN _)) O));go_wp2;go_roundw
  case rel=>exact⟨d+1,by omega,by go_num,by rw[M.out],Bd.drewN' _,Kd.drewN _⟩
  case measure=>simp[intOf];omega):p:=h
theorem ahP{p:Prop}(h:p:=by
  have K:cA (fun e=>AV a b e||nE (wB l a b e) N) (e+1)=true:=by rw[D.out.1,D.out.2];rfl
  have HS:=aH K;clear K;go_wp2;go_roundw
  case rel=>exact⟨e+1,by omega,by go_num,HS.out,Be,Ke⟩
  case measure=>simp[intOf];omega):p:=h
theorem WH(w:World)(N:Nat)(v:Value)(l:List Int)(hv:aK w v l)(hf:aU (N:Int) l=true):
  Calls prog 63 #[.agg #[(N:Int),v]] w fun r w'=>r=.returned (.bool (yO (N:Int) l))/\Below w w w':=by
 have e5:=hv;obtain⟨p,bb,p6,c,rfl,i7,h9,hc,hb⟩:=hv.view prog 25 3 underlying25 aN;have hm:=dB hf;have hl:=iL hf;obtain⟨h0,h6,e4,k8⟩:=dB hf;have hN:N<=6:=aD;have f4:=cJ N 6 hN;have k7:=f4.1;have o8:=f4.2;simp at k7;have K1:=aP.new w 29 #[(N:Int),aA p l.length c];have f3:=fun(W:World) (h:aK W (aA p l.length c) l)=>cK (N:Int) l _ W h;simp only[hf]at f3;have hx:yO (N:Int) l=(!l.isEmpty&&l.all fun a=>l.all (nN l a)):=by unfold yO;rw[hf,Bool.true_and]
 have h7:∀a b,a∈l->b∈l->nN l a b=exS N l a b:=fun a b ha hb=>by have h1:=e4 a ha;have h2:=e4 b hb;have e:((N:Int)).toNat=N:=Int.toNat_natCast N;exact aoB N hN l a b (by simpa[e]using h1) (by simpa[e]using h2)
 have e9:=aH f3;have HX:=aH hx;have j8:=aH h7;have HQ:=aH e4;have HC:=aH hc;have g2:=aH h9;clear f3 hx h7 e4 k8 hm hf hc h9 f4 i7;go_enter func63,ntmps63;go_wp2_with fail;go_loopw [3] (fun iv wr=>∃j:Nat,j<=l.length/\iv=aG j/\(l.take j).all (fun a=>l.all (nN l a))=true/\Below w w wr/\aP wr w 29 #[(N:Int),aA p l.length c]) (fun iv _=>l.length-(intOf iv).toNat)
 case atStart=>exact⟨0,Nat.zero_le _,rfl,by simp,bF _ _,K1⟩
 case round=>
  obtain⟨j,hj,rfl,F,Bw,Kw⟩:=hrel;have e6:=aH F;clear F;have G:=Kw.cell;by_cases hlt:j<l.length
  ·have j0:(j:Int)<(l.length:Int):=aD;go_wp2_with fail;refine(e9.out wr (e5.below Bw aI)).mono ?_;rintro r w3 ⟨rfl,b3⟩;have B3:=Bw.after b3 Bw.size;have K3:=Kw.keep b3;have hB:=B3.size;clear G;have G:=K3.cell;go_wp2_with fail;have Z:(l.take (j+1)).all (fun a=>l.all (nN l a))=l.all (nN l l[j]):=by rw[List.take_succ_eq_append_getElem hlt,List.all_append,e6.out];simp
   have b4:=List.getElem_mem hlt;obtain⟨a,f0⟩:=aJ (l[j]);rw[<-f0]at Z b4;have k1:=aH Z;have a7:=aH b4;have j7:=aH f0;clear Z b4 f0 G;go_loopw [4] (fun iv wq=>∃k:Nat,k<=l.length/\iv=aG k/\(l.take k).all (nN l a)=true/\Below w w wq/\aP wq w 29 #[(N:Int),aA p l.length c]) (fun iv _=>l.length-(intOf iv).toNat)
   case atStart=>exact⟨0,Nat.zero_le _,rfl,by simp,B3,K3⟩
   case round=>
    obtain⟨k,hk,rfl,F,Bk,Kk⟩:=hrel;obtain⟨wk,rfl⟩:∃wk:World,wk=wr:=⟨_,rfl⟩;have a1:=aH F;clear F B3 K3 hB;have G:=Kk.cell;by_cases e0:k<l.length
    ·have i8:(k:Int)<(l.length:Int):=aD;have g9:=aR HC.out hb Bk aI j hlt;have h5:=aR HC.out hb Bk aI k e0;rw[<-j7.out]at g9;have l0:=fun W=>g2.out W j hlt;have l1:=fun W=>g2.out W k e0;obtain⟨b,d0⟩:=aJ (l[k]);have j1:=HQ.out a a7.out;have b1:=List.getElem_mem e0;rw[<-d0]at h5 b1;have j2:=HQ.out b b1;have b6:=j8.out a b a7.out b1;have Z:(l.take (k+1)).all (nN l a)=nN l a b:=by rw[List.take_succ_eq_append_getElem e0,List.all_append,a1.out,d0];simp
     have R:0<=a/\a<64:=by rw[Int.toNat_natCast]at j1;omega
     have S:0<=b/\b<64:=by rw[Int.toNat_natCast]at j2;omega
     have g5:=aH Z;have a8:=aH b6;have k0:=aH b1;have n0:=aH d0;clear Z b6 b1 d0 j1 j2;go_wp2_with fail;clear g9 h5 l0 l1 G;have o2:=R.1;have o3:=R.2;have o4:=S.1;have o5:=S.2;have c7:=aH (And.intro R S);clear R S;go_loopw [7] (fun iv wq=>∃e:Nat,e<=N/\iv=aG e/\cA (fun e=>AV a b e||nE (wB l a b e) N) e=true/\Below w w wq/\aP wq w 29 #[(N:Int),aA p l.length c]) (fun iv _=>N-(intOf iv).toNat)
     case atStart=>exact⟨0,Nat.zero_le _,rfl,rfl,Bk,Kk⟩
     case round=>
      obtain⟨e,he,rfl,F,Be,Ke⟩:=hrel;obtain⟨we,rfl⟩:∃we:World,we=wr:=⟨_,rfl⟩;have a6:=aH F;clear F Bk Kk;have G:=Ke.cell;by_cases o7:e<N
      ·have i6:(e:Int)<(N:Int):=aD;have k6:e<6:=aD;obtain⟨c8,I,a9⟩:=BE a e c7.out.1;obtain⟨c9,b0,Y⟩:=BE b e c7.out.2;have z:cA (fun e=>AV a b e||nE (wB l a b e) N) (e+1)=(AV a b e||nE (wB l a b e) N):=by rw[cA,a6.out,Bool.true_and]
       have J:AV a b e=(!cZ a.toNat e||cZ b.toNat e):=rfl;obtain⟨za,b9⟩:=aJ (cZ a.toNat e);obtain⟨zb,c5⟩:=aJ (cZ b.toNat e);rw[<-b9]at I a9 J;rw[<-c5]at b0 Y J;obtain⟨ya,b7⟩:=aJ (dI a e);obtain⟨yb,b8⟩:=aJ (dI b e);rw[<-b7]at c8 I a9;rw[<-b8]at c9 b0 Y;have D:=aH (And.intro z J);clear b9 c5 b7 b8 z J a9 b0
       cases za with
       |false=>simp only[Bool.not_false]at I;exact ahP
       |true=>
        simp only[Bool.not_true]at I
        cases zb with
        |true=>exact ahP
        |false=>
         have K:cA (fun e=>AV a b e||nE (wB l a b e) N) (e+1)=nE (wB l a b e) N:=by rw[D.out.1,D.out.2];rfl
         have HS:=aH K;clear K D;go_wp2_with fail;clear c8 I c9 Y G;go_loopw [9,8] (fun dv fv wq=>∃d:Nat,d<=N/\dv=aG d/\fv=.bool (nE (wB l a b e) d)/\Below w w wq/\aP wq w 29 #[(N:Int),aA p l.length c]) (fun dv _ _=>N-(intOf dv).toNat)
         case atStart=>exact⟨0,Nat.zero_le _,rfl,rfl,Be,Ke⟩
         case round=>
          obtain⟨d,hd,rfl,rfl,Bd,Kd⟩:=hrel;obtain⟨wd,rfl⟩:∃wd:World,wd=wr:=⟨_,rfl⟩;clear Be Ke;have G:=Kd.cell;have j3:=e5.below Bd aI;by_cases o6:d<N
          ·have i1:(d:Int)<(N:Int):=aD;have k4:d<6:=aD;obtain⟨c8,I,a9⟩:=BE a d c7.out.1;obtain⟨c9,b0,Y⟩:=BE b d c7.out.2;have z:nE (wB l a b e) (d+1)=(nE (wB l a b e) d||(cZ b.toNat d&&(!cZ a.toNat d&&gQ l (a-2^e+2^d)))):=rfl;obtain⟨za,b9⟩:=aJ (cZ a.toNat d);obtain⟨zb,c5⟩:=aJ (cZ b.toNat d);rw[<-b9]at I z;rw[<-c5]at Y z;obtain⟨ya,b7⟩:=aJ (dI a d);obtain⟨yb,b8⟩:=aJ (dI b d);rw[<-b7]at c8 I;rw[<-b8]at c9 Y;obtain⟨q,hq⟩:=aJ (nE (wB l a b e) d);rw[<-hq]at z ⊢;have D:=aH z;clear b9 c5 b7 b8 z a9 b0 hq
           cases zb with
           |false=>
            have K:nE (wB l a b e) (d+1)=q:=by rw[D.out];simp
            have M:=aH K;clear K D;go_wp2_with fail;go_quiet (fail);go_wp2;go_roundw
            case rel=>exact⟨d+1,by omega,by go_num,by rw[M.out],Bd.drewN' _,Kd.drewN _⟩
            case measure=>simp[intOf];omega
           |true=>
            cases za with
            |true=>
             have K:nE (wB l a b e) (d+1)=q:=by rw[D.out];simp
             have M:=aH K;clear K D;simp only[Bool.not_true]at I;go_wp2_with fail;go_quiet (fail);go_wp2;go_roundw
             case rel=>exact⟨d+1,by omega,by go_num,by rw[M.out],Bd.drewN' _,Kd.drewN _⟩
             case measure=>simp[intOf];omega
            |false=>
             simp only[Bool.not_false]at I;have pe:=abQ e k6;have pd:=abQ d k4;have p9:=pe.1;have q0:=pe.2;have p7:=pd.1;have p8:=pd.2;have o9:IntKind.i64.wrap (a-2^e)=a-2^e:=by rw[IntKind.wrap_i64];omega
             have p5:IntKind.i64.wrap (a-2^e+2^d)=a-2^e+2^d:=by rw[IntKind.wrap_i64];omega
             clear pe pd
             cases O:gQ l (a-2^e+2^d) with
             |false=>
              have K:nE (wB l a b e) (d+1)=q:=by rw[D.out,O];simp
              exact ahD
             |true=>
              have K:nE (wB l a b e) (d+1)=true:=by rw[D.out,O];simp
              exact ahD
          ·have i1:¬(d:Int)<(N:Int):=aD;have k5:d=N:=aD;subst k5;obtain⟨q,hq⟩:=aJ (nE (wB l a b e) d);have K:=HS.out;rw[<-hq]at K ⊢;have M:=aH K;have n1:=aH hq;clear K hq HS
           cases q with
           |true=>
            go_wp2;go_roundw
            case rel=>exact⟨e+1,by omega,by go_num,M.out,Bd,Kd⟩
            case measure=>simp[intOf];omega
           |false=>
            go_wp2;go_ret;refine⟨aW ?_,Bd⟩;rw[HX.out];have k9:nN l a b=false:=by
             rw[a8.out]
             cases hc:exS d l a b with
             |false=>rfl
             |true=>
              unfold exS at hc;have h1:=eP.1 hc;have h2:cA (fun e=>AV a b e||nE (wB l a b e) d) (e+1)=true:=eP.2 (fun i hi=>h1 i aD);rw[M.out]at h2
              cases h2
            have h1:l.all (fun a=>l.all (nN l a))=false:=by
             cases hc:l.all (fun a=>l.all (nN l a)) with
             |false=>rfl
             |true=>
              have:=List.all_eq_true.1 (List.all_eq_true.1 hc a a7.out) b k0.out;rw[k9]at this
              cases this
            rw[h1,Bool.and_false]
      ·have i6:¬(e:Int)<(N:Int):=aD;have f2:e=N:=aD;have O:nN l a b=true:=by rw[a8.out];unfold exS;rw[<-f2];simpa[f2]using a6.out
       have HH:=aH O;clear O f2;go_wp2;go_roundw
       case rel=>exact⟨k+1,by omega,by go_num,by rw[g5.out,HH.out],Be,Ke⟩
       case measure=>simp[intOf];omega
    ·have i8:¬(k:Int)<(l.length:Int):=aD;have O:=a1.out;rw[List.take_of_length_le aD]at O;have HH:=aH O;clear O;go_wp2;go_roundw
     case rel=>exact⟨j+1,by omega,by go_num,by rw[k1.out,HH.out],Bk,Kk⟩
     case measure=>simp[intOf];omega
  ·have j0:¬(j:Int)<(l.length:Int):=aD;have O:=e6.out;rw[List.take_of_length_le aD]at O;have HH:=aH O;clear O;go_wp2_with fail;refine(e9.out wr (e5.below Bw aI)).mono ?_;rintro r w3 ⟨rfl,b3⟩;have B3:=Bw.after b3 Bw.size;have K3:=Kw.keep b3;clear G;have G:=K3.cell;go_wp2_with fail;refine(e9.out w3 (e5.below B3 aI)).mono ?_;rintro r w5 ⟨rfl,b5⟩;have B5:=B3.after b5 B3.size;have K5:=K3.keep b5;clear G;have G:=K5.cell;have h8:(decide ((0:Int)<(l.length:Int)))=!l.isEmpty:=by cases l with|nil=>rfl|cons x t=>simp
   have j9:=aH h8;clear h8;go_wp2;go_ret;exact⟨aW (by rw[HX.out,HH.out,Bool.and_true,<-j9.out];simp),B5⟩
end
end Go.Proofs.YtkdbkjjacgigiaaGreatDoor
