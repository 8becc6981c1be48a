/- Lemmas for CardConsoleResults. No condition. -/
import Derived.Test.YtkdbkjjacgigiaaGreatDoorQ21
import Derived.Test.YtkdbkjjacgigiaaGreatDoorQ30
set_option maxRecDepth 100000
set_option maxHeartbeats 64000000
namespace Go.Proofs.YtkdbkjjacgigiaaGreatDoor
section
open Go.RowKit Go.G5 Go.Proofs.Tryz
theorem an5(w:World)(n:Int)(v:Value)(l:List Int)(hv:aK w v l)(hl:l.length<=1048576):
  Calls prog 204 #[.agg #[n,v]] w fun e w'=>e=.returned (.tuple #[(BM n l),.bool (KR n l)])/\Below w w w':=by
 have Z:=hv;obtain⟨a,c,rfl⟩:=hv.shape;have K0:=aP.new w 27 #[n,aA a l.length c]
 cases O:dQ n l with
 |false=>
  have F:NK n l=none:=by unfold NK;rw[O];rfl
  have M:BM n l=0:=by unfold BM;rw[F];rfl
  have hB:KR n l=false:=by unfold KR;rw[F];rfl
  have H:=aH (And.intro M hB);have HF:=aH O;clear F M hB O;go_enter func204,ntmps204;go_wp2_with fail;refine(lX n l _ _ (Z.alloc _) hl).mono ?_;rintro e w1 ⟨rfl,I⟩;rw[HF.out];go_wp2;go_ret2;exact⟨by rw[H.out.1,H.out.2];rfl,(bF _ _).after I (by simp)⟩
 |true=>
  obtain⟨N,rfl,h5,c6,a8,S⟩:=cS (uZ O);have p0:=Nat.two_pow_pos N;have F:NK N l=wN l (l.length-1):=by unfold NK;rw[O];rfl
  have R:=QO (CH O);have a6:=PJ l a8 (fun s hs=>⟨R s aD,by rw[aS l s hs];exact(S s hs).2⟩);have a9:0<l.length:=aD;have D:∀s,(h:s<l.length)->0<=l[s]/\l[s]<=1000:=fun s h=>⟨by rw[<-aS l s h];exact R s aD,(S s h).2⟩;have HO:=aH F;have HF:=aH O;have b3:=aH a6;have b8:=aH D;clear F O R a6 S c6 p0 D;go_enter func204,ntmps204;go_wp2_with fail;refine(lX N l _ _ (Z.alloc _) hl).mono ?_;rintro e w1 ⟨rfl,I⟩;rw[HF.out];have B1:Below w w w1:=(bF _ _).after I (by simp);have K1:=K0.keep I;have c8:=Z.below B1 aI;obtain⟨av,b,g2,cv,c9,_,a7,hc,hb⟩:=c8.view prog 25 3 underlying25 aN;injection c9 with e1 _ e3;subst e1 e3;have HC:=aH hc;have b5:=aH a7;have G:=K1.cell;clear I K0 hc a7;go_wp2_with fail;go_loopw [4,5] (fun mv sv wr=>∃(k:Nat) (m:Int),k<l.length/\sv=aG ((k:Int)+1)/\mv=aG m/\wN l k=some m/\wr=w1) (fun _ sv _=>l.length+1-(intOf sv).toNat)
  case atStart=>exact⟨0,0,a9,rfl,rfl,rfl,rfl⟩
  case round=>
   obtain⟨k,m,hk,rfl,rfl,J,rfl⟩:=hrel;have Y:=b3.out k m hk J;have f6:=Y.1;have f7:=Y.2;by_cases hlt:k+1<l.length
   ·have b0:(k:Int)+1<(l.length:Int):=aD;have b9:=HC.out (k+1) hlt;have c5:=fun W=>b5.out W (k+1) hlt;rw[show(((k+1:Nat):Int))=(k:Int)+1 by simp]at c5;have D:=b8.out (k+1) hlt;have hg:=aS l (k+1) hlt;have z:wN l (k+1)=if l.getD (k+1) 0=0 then none else some (max m (Int.tdiv ((bY (k+1):Int)+l.getD (k+1) 0-1) (l.getD (k+1) 0))):=by rw[wN,J]
    rw[hg]at z;obtain⟨x,hx⟩:=aJ (l[k+1]);rw[<-hx]at b9 D z;have f9:=D.1;have g0:=D.2;clear hx hg D J Y;by_cases hz:x=0
    ·rw[if_pos hz]at z;have e0:(x==0)=true:=by simp[hz]
     have F:NK N l=none:=by rw[HO.out];exact RL l (k+1) z _ aD
     have M:BM N l=0:=by unfold BM;rw[F];rfl
     have hB:KR N l=false:=by unfold KR;rw[F];rfl
     have H:=aH (And.intro M hB);clear z F M hB hz;go_wp2;go_ret2;exact⟨by rw[H.out.1,H.out.2];rfl,B1⟩
    ·rw[if_neg hz]at z;have e0:(x==0)=false:=by simp[hz]
     have d0:0<x:=aD;have c7:=vY (k+1) aD;have hq:=I4 ((bY (k+1):Int)+x-1) x aD d0;have K:=O3 ((k:Int)+1) wr aD aD;rw[show((k:Int)+1).toNat=k+1 by omega]at K;obtain⟨p,hp⟩:∃p:Nat,p=bY (k+1):=⟨_,rfl⟩;rw[<-hp]at K z c7 hq;obtain⟨r,hr⟩:=aJ (Int.tdiv ((p:Int)+x-1) x);rw[<-hr]at z hq;have wa:IntKind.i64.wrap ((p:Int)+x)=(p:Int)+x:=by rw[IntKind.wrap_i64];omega
     have wb:IntKind.i64.wrap ((p:Int)+x-1)=(p:Int)+x-1:=by rw[IntKind.wrap_i64];omega
     have g5:IntKind.i64.wrap r=r:=by rw[IntKind.wrap_i64];omega
     have f8:Int.tdiv ((p:Int)+x-1) x=r:=hr.symm;have b6:=aH z;have b7:=aH K;clear z K hp hr hz;go_wp2_with (go_at_call 214;refine b7.out.mono ?_;rintro e w2 ⟨rfl,rfl⟩);go_roundw
     case rel=>exact⟨k+1,max m r,hlt,by go_num,rfl,b6.out,trivial⟩
     case measure=>simp[intOf];omega
   ·have b0:¬(k:Int)+1<(l.length:Int):=aD;have F:NK N l=some m:=by rw[HO.out,show l.length-1=k by omega];exact J
    have M:BM N l=m:=by unfold BM;rw[F];rfl
    have hB:KR N l=true:=by unfold KR;rw[F];rfl
    have H:=aH (And.intro M hB);clear F M hB J;go_wp2;go_ret2;exact⟨by rw[H.out.1,H.out.2];rfl,B1⟩
theorem ao0(w:World)(n:Int)(v:Value)(l:List Int)(hv:aK w v l)(hl:l.length<=1048576):
  Calls prog 205 #[.agg #[n,v]] w fun e w'=>e=.returned (.tuple #[(yF n l),.bool (FW n l)])/\Below w w w':=by
 have f2:=hv;obtain⟨a,b,j1,c,rfl,b1,Y,hc,hb⟩:=hv.view prog 25 3 underlying25 aN;have K0:=aP.new w 27 #[n,aA a l.length c];obtain⟨V,hV⟩:=aJ (w.alloc (.cells #[n,aA a l.length c] 27));have B:Below w w V:=gY hV;have K1:aP V w 27 #[n,aA a l.length c]:=gJ hV;have f3:=f2.below B aI;have e0:∀y:Ext V,y.w.cell? ⟨w.heap.size,0,none⟩=some (aG n):=fun y=>y.cell (K1.cell 0);have e1:∀y:Ext V,y.w.cell? ⟨w.heap.size,1,none⟩=some (aA a l.length c):=fun y=>y.cell (K1.cell 1);have J:∀y:Ext V,Calls prog 190 #[.agg #[n,aA a l.length c]] y.w fun e w'=>e=.returned (.bool (dQ n l))/\Below y.w.heap.size y.w w':=fun y=>lX n l _ y.w (y.ints f3) hl
 cases O:dQ n l with
 |false=>
  simp only[O]at J;have R:=aH J;clear J;have hB:FW n l=false:=by unfold FW;rw[O];rfl
  have hN:yF n l=0:=by unfold yF;rw[hB];rfl
  have H:=aH (And.intro hN hB);have HF:=aH O;clear hB hN O hc Y b1;go_enter func205,ntmps205;go_wp2_with fail;rw[<-hV];clear hV K0;refine bH _ aO aO ?_
  repeat(first|go_big_quiet_skip|(go_big_quiet_want;go_big_quiet_op;first|go_big_quiet_on|(apply Exists.intro;refine⟨fun _=>?_,?_⟩;(go_at_call 190;exact bW (R.out _));go_big_quiet_on)))
  refine wpQuiet_nil ?_;rintro w3 ⟨⟨w3,I⟩,rfl⟩
  try dsimp only
  go_wp2;go_ret2;exact⟨by rw[H.out.1,H.out.2];rfl,B.after I B.size⟩
 |true=>
  simp only[O]at J;have R:=aH J;clear J;obtain⟨N,rfl,h5,b7,j5,b8⟩:=cS (uZ O);have i1:=Nat.two_pow_pos N;have z:l.length-1<l.length:=aD;have c8:=hc (l.length-1) z;have i8:=fun W=>Y W (l.length-1) z;have b6:vA l=l[l.length-1]:=aS l _ z;have b9:=b8 _ z;have f0:=(YD O).1;have e6:=(YD O).2;obtain⟨t,ht⟩:=aJ (vA l);rw[<-b6,<-ht]at c8;rw[<-b6,<-ht]at b9;rw[<-ht]at f0;have j7:0<l.length:=aD;have j9:=b9.2;clear b6 b9;have c5:((l.length-1:Nat):Int)=2^N-1:=by
   have:((2^N:Nat):Int)=(2:Int)^N:=by simp
   omega
  have S:∀W,aK W (aA a l.length c) l->Calls prog 272 #[.agg #[(N:Int),aA a l.length c]] W fun e w'=>e=.returned (aG (2^N-1))/\Below W W w':=fun W hW=>by have:=sF (N:Int) (aA a l.length c) l W hW aD aD;rw[Int.toNat_natCast]at this;exact this
  obtain⟨A,hA⟩:∃A:Int,A=2^N-1:=⟨_,rfl⟩;rw[c5,<-hA]at i8;simp only[<-hA]at S;have j8:l.length<=64:=aD;have a9:∀k:Nat,k<l.length->bits .andNot .i64 A (k:Int)=((cO (2^N-1) k:Nat):Int)/\cO (2^N-1) k<64/\bY (cO (2^N-1) k)=N-bY k/\bY k<=N:=fun k hk=>by
   refine⟨?_,?_,al7 N aD k aD,abO N aD k aD⟩
   ·rw[hA,<-c5,b7];exact xK (2^N-1) k aD aD
   ·exact Nat.lt_of_lt_of_le (wU (2^N-1) k (2^N) aD) aD
  have g2:=aH S;have a1:=aH (fun y:Ext V=>S y.w (y.ints f3));have a6:=aR hc hb B aI (l.length-1) z;have F:l[l.length-1]=t:=by rw[ht];exact(aS l _ z).symm
  rw[F]at a6;have e2:∀y:Ext V,y.w.cell? ⟨b,j1+(l.length-1),none⟩=some (aG t):=fun y=>y.cell a6;have c6:=aH a9;have h0:=aH b8;have g9:=aH b7;have HC:=aH hc;have g8:=aH Y;have HT:=aH ht;have HH:=aH (And.intro O (And.intro f0 e6));clear O S c5 hA a9 b8 b7 hc Y c8 i1 b1 F ht e6;by_cases hz:t=0
  ·have f5:(t==0)=true:=by simp[hz]
   have hB:FW N l=false:=by unfold FW;rw[HH.out.1,<-HT.out,hz];rfl
   have hN:yF N l=0:=by unfold yF;rw[hB];rfl
   have H:=aH (And.intro hN hB);clear hB hN hz;go_enter func205,ntmps205;go_wp2_with fail;rw[<-hV];clear hV K0;refine bH _ aO aO ?_
   repeat(first|go_big_quiet_skip|(go_big_quiet_want;go_big_quiet_op;first|go_big_quiet_on|(apply Exists.intro;refine⟨fun _=>?_,?_⟩;(first|(go_at_call 190;exact bW (R.out _))|(go_at_call 272;exact bW (a1.out _)));go_big_quiet_on)))
   refine wpQuiet_nil ?_;rintro w3 ⟨⟨w3,I⟩,rfl⟩
   try dsimp only
   go_wp2;go_ret2;exact⟨by rw[H.out.1,H.out.2];rfl,B.after I B.size⟩
  ·have f5:(t==0)=false:=by simp[hz]
   have i7:0<t:=aD;have hB:FW N l=true:=by unfold FW;rw[HH.out.1,<-HT.out,f5];rfl
   have hN:yF N l=uX l N N l.length:=by unfold yF;rw[hB,if_pos rfl,Int.toNat_natCast];have:=XV l N h5 HH.out.2.2 (by rw[<-HT.out];exact i7) (l.length-1);rw[show l.length-1+1=l.length by omega]at this;exact this.symm
   have d0:=QK l N h5 (N:Int) aD;have g5:=aH d0;have H:=aH (And.intro hN hB);clear hB hN hz d0;go_enter func205,ntmps205;go_wp2_with fail;rw[<-hV];clear hV K0;refine bH _ aO aO ?_
   repeat(first|go_big_quiet_skip|(go_big_quiet_want;go_big_quiet_op;first|go_big_quiet_on|(apply Exists.intro;refine⟨fun _=>?_,?_⟩;(first|(go_at_call 190;exact bW (R.out _))|(go_at_call 272;exact bW (a1.out _)));go_big_quiet_on)))
   refine wpQuiet_nil ?_;rintro w3 ⟨⟨w3,I⟩,rfl⟩
   try dsimp only
   have B3:=B.after I B.size;have K3:=K1.keep I;have G:=K3.cell;clear e0 e1 e2 K1;go_wp2_with fail;refine(g2.out _ (f2.below B3 aI)).mono ?_;rintro e w4 ⟨rfl,c9⟩;have B4:=B3.after c9 B3.size;have K4:=K3.keep c9;clear G;have G:=K4.cell;have ct:=aR HC.out hb B4 aI (l.length-1) z;have F:l[l.length-1]=t:=by rw[HT.out];exact(aS l _ z).symm
   rw[F]at ct;clear F;go_wp2_with fail;go_loopw [5,28] (fun mv iv wr=>∃(k:Nat) (m:Int),k<=l.length/\iv=aG k/\mv=aG m/\m=uX l N N k/\wr=w4) (fun _ iv _=>l.length-(intOf iv).toNat)
   case atStart=>exact⟨0,N,Nat.zero_le _,rfl,rfl,rfl,rfl⟩
   case round=>
    obtain⟨k,m,hk,rfl,rfl,hm,rfl⟩:=hrel;by_cases K:k<l.length
    ·have e5:(k:Int)<(l.length:Int):=aD;have h8:=aR HC.out hb B4 aI k K;have l2:=fun W=>g8.out W k K;have Z:=h0.out k K;have e4:=aS l k K;have D:uX l N N (k+1)=if l.getD k 0<vA l then min (uX l N N k) (Int.tdiv ((N:Int)-(bY k:Int)) (vA l-l.getD k 0)) else uX l N N k:=rfl;rw[e4,<-HT.out,<-hm]at D;obtain⟨b5,e7,e8,i6⟩:=c6.out k K;have h9:=g5.out k (by have:=g9.out;omega);rw[<-hm]at h9;obtain⟨x,hx⟩:=aJ (l[k]);rw[<-hx]at h8 Z D;have M:=fH (cO (2^N-1) k) wr aD;rw[e8]at M;obtain⟨d,hd⟩:∃d:Nat,d=cO (2^N-1) k:=⟨_,rfl⟩;rw[<-hd]at b5 M;obtain⟨p,hp⟩:∃p:Nat,p=N-bY k:=⟨_,rfl⟩;have e9:(N:Int)-(bY k:Int)=(p:Int):=aD;rw[<-hp]at M;rw[e9]at D;have k9:=Z.1;have l0:=Z.2;have wa:IntKind.i64.wrap (t-x)=t-x:=by rw[IntKind.wrap_i64];omega
     have h6:=aH M;have k6:p<=5:=aD;clear hx e4 hd hp e9 M e8 i6 e7 Z hm;by_cases hlt:x<t
     ·rw[if_pos hlt]at D;have b3:0<t-x:=aD;have hq:=I4 (p:Int) (t-x) aD b3;have l1:(t-x==0)=false:=by rw[beq_eq_false_iff_ne];omega
      obtain⟨r,hr⟩:=aJ (Int.tdiv (p:Int) (t-x));rw[<-hr]at D hq;have l4:IntKind.i64.wrap r=r:=by rw[IntKind.wrap_i64];omega
      have k8:Int.tdiv (p:Int) (t-x)=r:=hr.symm;have b4:=aH D;clear D hr;go_wp2_with (go_at_call 214;refine h6.out.mono ?_;rintro e w5 ⟨rfl,rfl⟩);go_roundw
      case rel=>exact⟨k+1,min m r,by omega,by go_num,rfl,b4.out.symm,trivial⟩
      case measure=>simp[intOf];omega
     ·rw[if_neg hlt]at D;have b3:¬0<t-x:=aD;have b4:=aH D;clear D;go_wp2;go_roundw
      case rel=>exact⟨k+1,m,by omega,by go_num,rfl,b4.out.symm,trivial⟩
      case measure=>simp[intOf];omega
    ·have e5:¬(k:Int)<(l.length:Int):=aD;have b0:m=yF N l:=by rw[H.out.1,hm,show k=l.length by omega]
     have g6:=aH b0;clear b0 hm;go_wp2;go_ret2;exact⟨by rw[H.out.2,g6.out];rfl,B4⟩
theorem acG{w:World}{b:Nat}{F x1 I x3 J:ByteArray}(K:w.cell? ⟨b,0,none⟩=some (.string F))(h1:w.cell? ⟨b,1,none⟩=some (.string x1))(h2:w.cell? ⟨b,2,none⟩=some (.string I))(h3:w.cell? ⟨b,3,none⟩=some (.string x3))(h4:w.cell? ⟨b,4,none⟩=some (.string J)):
  ∀(j:Nat) z,[F,x1,I,x3,J][j]?=some z->w.cell? ⟨b,0+j,none⟩=some (.string z):=by
 intro j z D
 match j,D with
 |0,D=>cases D;exact K
 |1,D=>cases D;exact h1
 |2,D=>cases D;exact h2
 |3,D=>cases D;exact h3
 |4,D=>cases D;exact h4
theorem aiS(w:World)(n:Int)(v:Value)(l:List Int)(hv:aK w v l)(hl:l.length<=1048576)(hp:iY w):
  Calls prog 136 #[.agg #[n,v]] w fun e w'=>e=.returned (.string (EX n l))/\Below w w w':=by
 have K:=hv;obtain⟨a,c,rfl⟩:=hv.shape;have K0:=aP.new w 27 #[n,aA a l.length c]
 cases hf:dQ n l with
 |false=>have HX:=aH (abH hf);have HF:=aH hf;clear hf;go_enter func136,ntmps136;go_wp2_with fail;refine(lX n l _ _ (K.alloc _) hl).mono ?_;rintro e w1 ⟨rfl,b1⟩;rw[HF.out];go_wp2;go_ret;exact⟨bJ HX.out.symm,(bF _ _).after b1 (by simp)⟩
 |true=>
  obtain⟨TT,e6⟩:=aJ (EX n l);have e7:TT.size<=30180:=by rw[e6,ML hf];exact XJ n l
  have hx:bR dW (mlL n l)=TT:=by rw[e6,ML hf];exact ar2 n l
  unfold mlL at hx;have u3:=afI n l;have u4:=ajI n l;obtain⟨bC,h9⟩:=aJ (KR n l);obtain⟨bP,i1⟩:=aJ (FW n l);rw[<-h9,<-i1]at hx;have i8:=fun(W:World) (h:aK W (aA a l.length c) l)=>an5 W n _ l h hl;have j4:=fun(W:World) (h:aK W (aA a l.length c) l)=>ao0 W n _ l h hl;simp only[<-h9]at i8;simp only[<-i1]at j4;obtain⟨M,hM⟩:=aJ (qP n l);have i6:=fun(W:World) (h:aK W (aA a l.length c) l)=>UI W n _ l h hl;have i7:=fun(W:World) (h:aK W (aA a l.length c) l)=>ap7 W n _ l h hl;simp only[<-hM]at i6 i7;rw[<-hM]at hx;have o2:=aH i6;have o3:=aH i7;have c6:=aH e6;have HX:=aH hx;have HF:=aH hf;have o4:=aH i8;have k8:=aH j4;clear hx hf i8 j4 e6 h9 i1 i6 i7 hM;go_enter func136,ntmps136;go_wp2_with fail;refine(lX n l _ _ (K.alloc _) hl).mono ?_;rintro e w1 ⟨rfl,b1⟩;rw[HF.out];have B1:Below w w w1:=(bF _ _).after b1 (by simp);have K1:=K0.keep b1;clear K0 b1;have G:=K1.cell;go_wp2_with fail;refine(o2.out _ (K.below B1 aI)).mono ?_;rintro e w2 ⟨pB,iB,qB,rfl,oB,b2⟩;have q4:iB=(mR n l).length:=oB.ints.capLe.1;subst q4;have B2:=B1.after b2 B1.size;have K2:=K1.keep b2;clear G B1 K1 b2;have KB:=aP.new w2 29 #[M,.slice pB (mR n l).length qB];have hB:=oB.ints.alloc (.cells #[M,.slice pB (mR n l).length qB] 29);have b9:=B2.alloc B2.size (.cells #[M,.slice pB (mR n l).length qB] 29);have g2:=K2.alloc (.cells #[M,.slice pB (mR n l).length qB] 29);have G:=g2.cell;go_wp2_with fail;refine(o3.out _ (K.below b9 aI)).mono ?_;rintro e w3 ⟨pC,iC,qC,rfl,oC,b3⟩;have q5:iC=(nX n l).length:=oC.ints.capLe.1;subst q5;have B3:=b9.after b3 b9.size;have K3:=g2.keep b3;have KB:=KB.keep b3;have hB:=hB.keep b3;clear G B2 b9 K2 g2 b3;have KC:=aP.new w3 29 #[M,.slice pC (nX n l).length qC];have hC:=oC.ints.alloc (.cells #[M,.slice pC (nX n l).length qC] 29);have c5:=B3.alloc B3.size (.cells #[M,.slice pC (nX n l).length qC] 29);have g5:=K3.alloc (.cells #[M,.slice pC (nX n l).length qC] 29);have KB:=KB.alloc (.cells #[M,.slice pC (nX n l).length qC] 29);have hB:=hB.alloc (.cells #[M,.slice pC (nX n l).length qC] 29);have G:=g5.cell;go_wp2_with fail;refine(aqG _ n _ l (K.below c5 aI) hl).mono ?_;rintro e w4 ⟨pF,iF,qF,rfl,oF,b4⟩;have q6:iF=(AH n l).length:=oF.ints.capLe.1;subst q6;have B4:=c5.after b4 c5.size;have K2:=g5.keep b4;have KB:=KB.keep b4;have KC:=KC.keep b4;have hB:=hB.keep b4;have hC:=hC.keep b4;have p5:=oF.ints;clear G B3 c5 K3 g5 b4;obtain⟨gB,j1⟩:=aJ w2.heap.size;obtain⟨gC,j2⟩:=aJ w3.heap.size;obtain⟨N,Z⟩:=aJ w4.heap.size;rw[<-j1]at KB;rw[<-j2]at KC;have zb:w.heap.size<N:=by rw[Z];exact K2.lt
  have zB:gB<N:=by rw[Z];exact KB.lt
  have zC:gC<N:=by rw[Z];exact KC.lt
  have zc:w4.heap.size<=N:=aD;have L5:gI N (w4.alloc (.cells #[()] 143)) []:=by rw[Z];exact gI.new w4
  have B5:=B4.alloc B4.size (.cells #[()] 143);have C5:Below N w4 (w4.alloc (.cells #[()] 143)):=by rw[Z];exact bF w4 _
  go_wp2_with fail;rw[<-Z,<-j1,<-j2];clear Z j1 j2;obtain⟨V,hV⟩:=aJ (w4.alloc (.cells #[()] 143));rw[<-hV]at L5 B5 C5 ⊢;clear hV;have c8:=cB KB C5 zB;have c9:=cB KC C5 zC;have l7:=(hB.below C5 zc).drewN 1;have l8:=(hC.below C5 zc).drewN 1;have j3:=(hp.keep B5).keep ((Below.refl V.heap.size V).drewN' 1);have LV:=L5.keep ((Below.refl V.heap.size V).drewN' 1);have m4:=L5.lt;have w5:=c8.lt;have w7:=c9.lt;have bV:Below V V (V.drewN 1):=(Below.refl V.heap.size V).drewN' 1;have GB:=c8.cell;have GC:=c9.cell;have f8:=aH (jJ M (mR n l) _ _ l7 j3);have f9:=aH (fun(W:World) (h:Below (V.drewN 1).heap.size (V.drewN 1) W)=>jJ M (nX n l) _ W (l8.keep h) (j3.keep h));have f7:=aH (fun(W:World) (h:Below (V.drewN 1).heap.size (V.drewN 1) W)=>dF N [] [(⟨#[109,97,116,114,111,105,100]⟩:ByteArray),(⟨#[98,97,115,101,115]⟩:ByteArray),bZ M (mR n l),(⟨#[99,105,114,99,117,105,116,115]⟩:ByteArray),bZ M (nX n l)] W.heap.size 5 5 _ ((LV.keep h).keep (bF W (.cells #[.string (⟨#[109,97,116,114,111,105,100]⟩:ByteArray),.string (⟨#[98,97,115,101,115]⟩:ByteArray),.string (bZ M (mR n l)),.string (⟨#[99,105,114,99,117,105,116,115]⟩:ByteArray),.string (bZ M (nX n l))] 9))) rfl (acG (aZ _ _ _ _ _ rfl) (aZ _ _ _ _ _ rfl) (aZ _ _ _ _ _ rfl) (aZ _ _ _ _ _ rfl) (aZ _ _ _ _ _ rfl)) (by simp));obtain⟨F1,h7⟩:=aJ (bZ M (mR n l));obtain⟨F2,h8⟩:=aJ (bZ M (nX n l));simp only[<-h7,<-h8]at f8 f9 f7;have k7:=aH (And.intro h7 h8);clear h7 h8;have j5:=HX.out;rw[<-k7.out.1,<-k7.out.2]at j5;have HX:=aH j5;clear j5;go_region_held3 (fun w'=>(∀i,w'.cell? ⟨gB,i,none⟩=(#[aG M,.slice pB (mR n l).length qB]:Array Value)[i]?)/\(∀i,w'.cell? ⟨gC,i,none⟩=(#[aG M,.slice pC (nX n l).length qC]:Array Value)[i]?)) (go_keep)
   (first
    |(go_at_call_of 196 (Value.slice pB (mR n l).length qB);refine f8.out.mono ?_;rintro e wa ⟨rfl,ba⟩;obtain⟨p9,q1⟩:=gN ba V.heap.size (by first|omega|(simp;done)|(simp;omega));have za:=ba.size;(try simp at za))
    |(go_at_call_of 196 (Value.slice pC (nX n l).length qC);refine(f9.out wa ba).mono ?_;rintro e wb ⟨rfl,bb⟩;have bb:=ba.after bb ba.size;have p7:=fun o=>(((c8.drewN 1).keep bb).alloc o).cell;have p8:=fun o=>(((c9.drewN 1).keep bb).alloc o).cell;obtain⟨l9,q2⟩:=gN bb V.heap.size (by first|omega|(simp;done)|(simp;omega));have r0:=bb.size;(try simp at r0))
    |(go_at_call 177;refine(f7.out wb bb).mono ?_;rintro e wc ⟨rfl,L6,b6⟩;obtain⟨q0,q3⟩:=gN b6 N aI))
  have Bw:=(B5.after bV B5.size).after bb B5.size;have Cw:=(C5.after bV (Nat.le_of_lt m4)).after bb (Nat.le_of_lt m4);have zl:=(LV.keep bb).lt;have B6:=(Bw.alloc Bw.size _).after b6 aD;have C6:=(Cw.alloc (Nat.le_of_lt zl) _).after b6 aI;clear Bw Cw B5 C5 bV bb b6 l7 l8 j3 LV L5 c8 c9 GB GC p9 q1 l9 q2 p7 p8 q0 q3 f8 f9 f7 ba;obtain⟨X6,F⟩:=aJ ([]++[(⟨#[109,97,116,114,111,105,100]⟩:ByteArray),(⟨#[98,97,115,101,115]⟩:ByteArray),F1,(⟨#[99,105,114,99,117,105,116,115]⟩:ByteArray),F2]);rw[<-F]at L6;have u2:X6.length<=5:=by rw[F];simp
  have G:=(cB K2 C6 zb).cell;go_wp2_with fail;clear G;refine(jJ n (AH n l) _ _ (p5.below C6 zc) (hp.keep B6)).mono ?_;rintro e q7 ⟨rfl,e0⟩;have f4:=B6.after e0 B6.size;have k5:=C6.after e0 (Nat.le_of_lt L6.lt);have g7:=L6.keep e0;clear B6 C6 L6 e0;go_wp2_with fail;have m5:=g7.lt;refine(dF N X6 [(⟨#[102,108,97,116,115]⟩:ByteArray),bZ n (AH n l)] q7.heap.size 2 2 _ (g7.keep (bF _ _)) rfl (fF (aZ _ _ _ _ _ rfl) (aZ _ _ _ _ _ rfl)) (by simp only[List.length_cons,List.length_nil];omega)).mono ?_;rintro e u8 ⟨rfl,d0,l3⟩;have b8:=(f4.alloc f4.size _).after l3 aD;have f5:=(k5.alloc (Nat.le_of_lt m5) _).after l3 aI;clear f4 k5 g7;obtain⟨R,z⟩:=aJ (X6++[(⟨#[102,108,97,116,115]⟩:ByteArray),bZ n (AH n l)]);rw[<-z]at d0;have r9:R.length<=7:=by rw[z,List.length_append];first|(simp only[List.length_cons,List.length_nil];omega)|(have:=cN _ _;omega)|(simp[yes];omega)
  have G:=(cB K2 f5 zb).cell;go_wp2_with fail;clear G;refine(o4.out _ (K.below b8 aI)).mono ?_;rintro e u9 ⟨rfl,e4⟩;have O:=b8.after e4 b8.size;have a9:=f5.after e4 (Nat.le_of_lt d0.lt);have b0:=d0.keep e4;clear b8 f5 d0 e4
  cases bC with
  |false=>
   have G:=(cB K2 a9 zb).cell;go_wp2_with fail;clear G;refine(k8.out _ (K.below O aI)).mono ?_;rintro e q8 ⟨rfl,S⟩;have D:=O.after S O.size;have a7:=a9.after S (Nat.le_of_lt b0.lt);have J:=b0.keep S;clear O a9 b0 S
   cases bP with
   |false=>
    have Y:bR dW R=TT:=by rw[z,F];exact HX.out
    have hz:=e7;rw[<-Y]at hz;have HT:=aH Y;clear Y F z;obtain⟨lv,KL,oL⟩:=J;have G:=KL.cell;go_wp2_with fail;clear G;refine(dE (N+1) lv R _ oL aD aD).mono ?_;rintro e wz ⟨rfl,bz⟩;go_wp2;go_ret;exact⟨bJ (HT.out.trans c6.out),D.after bz D.size⟩
   |true=>
    go_wp2_with fail;refine(eQ N R (⟨#[112,97,99,107,115]⟩:ByteArray) (yF n l) ⟨by omega,by omega⟩ _ J (hp.keep D) aD).mono ?_;rintro e v6 ⟨rfl,l0,l5⟩;have k3:=D.after l5 aD;have t1:=a7.after l5 aI;clear D a7 J;obtain⟨g9,a1⟩:=aJ (R++[(⟨#[112,97,99,107,115]⟩:ByteArray),aX (yF n l)]);rw[<-a1]at l0;have s1:g9.length<=9:=by rw[a1,List.length_append];first|(simp only[List.length_cons,List.length_nil];omega)|(have:=cN _ _;omega)|(simp[yes];omega)
    have Y:bR dW g9=TT:=by rw[a1,z,F];exact HX.out
    have hz:=e7;rw[<-Y]at hz;have HT:=aH Y;clear Y F z a1;obtain⟨lv,KL,oL⟩:=l0;have G:=KL.cell;go_wp2_with fail;clear G;refine(dE (N+1) lv g9 _ oL aD aD).mono ?_;rintro e wz ⟨rfl,bz⟩;go_wp2;go_ret;exact⟨bJ (HT.out.trans c6.out),k3.after bz k3.size⟩
  |true=>
   go_wp2_with fail;refine(eQ N R (⟨#[99,111,118,101,114,115]⟩:ByteArray) (BM n l) ⟨by omega,by omega⟩ _ b0 (hp.keep O) aD).mono ?_;rintro e q8 ⟨rfl,J,S⟩;have D:=O.after S aD;have a7:=a9.after S aI;clear O a9 b0;obtain⟨b5,I⟩:=aJ (R++[(⟨#[99,111,118,101,114,115]⟩:ByteArray),aX (BM n l)]);rw[<-I]at J;have s0:b5.length<=9:=by rw[I,List.length_append];first|(simp only[List.length_cons,List.length_nil];omega)|(have:=cN _ _;omega)|(simp[yes];omega)
   have G:=(cB K2 a7 zb).cell;go_wp2_with fail;clear G;refine(k8.out _ (K.below D aI)).mono ?_;rintro e v1 ⟨rfl,e5⟩;have a8:=D.after e5 D.size;have k6:=a7.after e5 (Nat.le_of_lt J.lt);have g8:=J.keep e5;clear D a7 J e5
   cases bP with
   |false=>
    have Y:bR dW b5=TT:=by rw[I,z,F];exact HX.out
    have hz:=e7;rw[<-Y]at hz;have HT:=aH Y;clear Y F z I;obtain⟨lv,KL,oL⟩:=g8;have G:=KL.cell;go_wp2_with fail;clear G;refine(dE (N+1) lv b5 _ oL aD aD).mono ?_;rintro e wz ⟨rfl,bz⟩;go_wp2;go_ret;exact⟨bJ (HT.out.trans c6.out),a8.after bz a8.size⟩
   |true=>
    go_wp2_with fail;refine(eQ N b5 (⟨#[112,97,99,107,115]⟩:ByteArray) (yF n l) ⟨by omega,by omega⟩ _ g8 (hp.keep a8) aD).mono ?_;rintro e v7 ⟨rfl,l1,l6⟩;have k4:=a8.after l6 aD;have t6:=k6.after l6 aI;clear a8 k6 g8;obtain⟨h0,a6⟩:=aJ (b5++[(⟨#[112,97,99,107,115]⟩:ByteArray),aX (yF n l)]);rw[<-a6]at l1;have s2:h0.length<=11:=by rw[a6,List.length_append];first|(simp only[List.length_cons,List.length_nil];omega)|(have:=cN _ _;omega)|(simp[yes];omega)
    have Y:bR dW h0=TT:=by rw[a6,I,z,F];exact HX.out
    have hz:=e7;rw[<-Y]at hz;have HT:=aH Y;clear Y F z I a6;obtain⟨lv,KL,oL⟩:=l1;have G:=KL.cell;go_wp2_with fail;clear G;refine(dE (N+1) lv h0 _ oL aD aD).mono ?_;rintro e wz ⟨rfl,bz⟩;go_wp2;go_ret;exact⟨bJ (HT.out.trans c6.out),k4.after bz k4.size⟩
end
end Go.Proofs.YtkdbkjjacgigiaaGreatDoor
