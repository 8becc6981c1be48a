/- Lemmas for CardClaims, part 35 of 52. No condition. -/
import Derived.Test.YtipejodijbjpcaaGreatDoorQ07
import Derived.Test.YtipejodijbjpcaaGreatDoorQ11
import Derived.Test.YtipejodijbjpcaaGreatDoorQ21
import Derived.Test.YtipejodijbjpcaaGreatDoorQ29
import Derived.Test.YtipejodijbjpcaaGreatDoorQ31
import Derived.Test.YtipejodijbjpcaaGreatDoorQ34
set_option maxRecDepth 100000
set_option maxHeartbeats 64000000
namespace Go.Proofs.YtipejodijbjpcaaGreatDoor
section
open Go.RowKit Go.G5
theorem RE(w:World)(n:Int)(v:Value)(l:List Int)(hv:aD w v l)(hl:l.length<=1048576)(u:Value)(x:List Int)(hu:aD w u x)(vy:Value)(y:List Int)(hy:aD w vy y):
  Calls Tryz.prog 191 #[.agg #[.int .i64 n,v],u,vy] w fun e w'=>e=.returned (.bool (fE n l x y))/\Below w.heap.size w w':=by
 obtain⟨a,c,rfl⟩:=hv.shape;obtain⟨au,cu,rfl⟩:=hu.shape;obtain⟨ay,cy,rfl⟩:=hy.shape;have K0:=aB.new w 32 #[.int .i64 n,.slice a l.length c]
 cases L:eT n l x with
 |false=>
  have A:fE n l x y=false:=by unfold fE;rw[L];rfl
  have HX:=Lib.hid A;have HO:=Lib.hid L;clear A L;go_enter Tryz.func191,Tryz.ntmps191;go_wp2_with fail;refine(rZ _ n _ l (hv.alloc _) hl _ x (hu.alloc _)).mono ?_;rintro e w1 ⟨rfl,S⟩;rw[HO.out];go_wp2;go_ret;exact⟨aE HX.out.symm,(aM _ _).after S (by simp)⟩
 |true=>
  cases hb:hH n l y with
  |false=>
   have A:fE n l x y=false:=by unfold fE;rw[hb,Bool.and_false];rfl
   have HX:=Lib.hid A;have HO:=Lib.hid L;have HB:=Lib.hid hb;clear A L hb;go_enter Tryz.func191,Tryz.ntmps191;go_wp2_with fail;refine(rZ _ n _ l (hv.alloc _) hl _ x (hu.alloc _)).mono ?_;rintro e w1 ⟨rfl,S⟩;rw[HO.out];have K:Below w.heap.size w w1:=(aM _ _).after S (by simp);have G:=(K0.keep S).cell;go_wp2_with fail;refine(sJ _ n _ l (hv.below K (Nat.le_refl _)) _ y (hy.below K (Nat.le_refl _))).mono ?_;rintro e w2 ⟨rfl,b2⟩;rw[HB.out];go_wp2;go_ret;exact⟨aE HX.out.symm,K.after b2 K.size⟩
  |true=>
   obtain⟨h5,hn,h9,j8,i1,e9⟩:=oN L;obtain⟨_,d0⟩:=jQ (uJ hb);obtain⟨j0,f0⟩:=iV d0;have e5:=MW x x.length rfl;have A:fE n l x y=(qC x).all (fun s=>aS l y s==0):=by unfold fE rD;rw[L,hb];rfl
   have e8:iJ x=true:=by
    have h:=L;unfold eT at h;simp only[Bool.and_eq_true]at h;exact h.2.1
   have a1:=fun W (h:aD W (.slice au x.length cu) x)=>CM x _ W h h5 e9 e8;have D:∀s∈qC x,0<=s/\s<(l.length:Int):=fun s h3=>by
    have h4:=e5 s h3;have e:((2:Int)^x.length)=((2^x.length:Nat):Int):=by simp
    omega
   have o:=fun(W:World) (s:Int) (h2:aD W (.slice ay y.length cy) y) (h3:s∈qC x)=>gS y (.slice ay y.length cy) s W h2 (D s h3).1 (by have:=(D s h3).2;omega) (fun k hk=>by have:=f0 k hk;omega) (by omega);have F:∀s∈qC x,∃(p:Nat) (z:Int) (bb:Nat),aS l y s=z-wt y s/\w.cell? ⟨bb,p,none⟩=some (.int .i64 z)/\∀W,(Instr.indexAt 22 (.slice a l.length c) (.int .i64 s)).run Tryz.prog W=.ok (.pointer (some ⟨bb,p,none⟩)) W:=fun s h3=>by
    have h4:=D s h3;obtain⟨sn,rfl⟩:=Int.eq_ofNat_of_zero_le h4.1;have o:sn<l.length:=by omega
    obtain⟨_,bb,j2,_,a7,_,h6,hc,hb⟩:=hv.view Tryz.prog 22 3 Tryz.underlying22 aG
    injection a7 with x1 _ x3
    subst x1 x3;exact⟨j2+sn,l[sn],bb,by unfold aS;rw[Int.toNat_natCast,aJ l sn o],hc sn o,fun W=>h6 W sn o⟩
   obtain⟨T,hT⟩:∃T,T=qC x:=⟨_,rfl⟩;rw[<-hT]at A;simp only[<-hT]at a1 o F;have HX:=Lib.hid A;have HO:=Lib.hid L;have HB:=Lib.hid hb;have f9:=Lib.hid a1;have g0:=Lib.hid o;have b9:=Lib.hid F;clear A L hb a1 o hT e5 i1 e9 f0 j0 h9 hn d0 D e8 F;go_enter Tryz.func191,Tryz.ntmps191;go_wp2_with fail;refine(rZ _ n _ l (hv.alloc _) hl _ x (hu.alloc _)).mono ?_;rintro e w1 ⟨rfl,S⟩;rw[HO.out];have K:Below w.heap.size w w1:=(aM _ _).after S (by simp);have K1:=K0.keep S;clear K0 S;have G:=K1.cell;go_wp2_with fail;refine(sJ _ n _ l (hv.below K (Nat.le_refl _)) _ y (hy.below K (Nat.le_refl _))).mono ?_;rintro e w2 ⟨rfl,b2⟩;rw[HB.out];have B2:=K.after b2 K.size;have K2:=K1.keep b2;clear G K1 K b2;go_wp2_with fail;refine(f9.out w2 (hu.below B2 (Nat.le_refl _))).mono ?_;rintro e w3 ⟨pt,it,qt,rfl,ot,b3⟩;have hit:it=T.length:=ot.ints.capLe.1;subst hit;have B3:=B2.after b3 B2.size;have K3:=K2.keep b3;obtain⟨_,tb,f2,_,a7,_,Y,e6,i7⟩:=ot.ints.view Tryz.prog 22 3 Tryz.underlying22 aG
   injection a7 with x1 _ x3
   subst x1 x3;have g1:=Lib.hid e6;have c6:=Lib.hid Y;clear K2 B2 b3 e6 Y ot;go_wp2_with fail;go_loopw [9] (fun iv wr=>∃j:Nat,j<=T.length/\iv=.int .i64 j/\(T.take j).all (fun s=>aS l y s==0)=true/\Below w3.heap.size w3 wr) (fun iv _=>T.length-(intOf iv).toNat)
   case atStart=>exact⟨0,Nat.zero_le _,rfl,rfl,Below.refl _ _⟩
   case round=>
    obtain⟨j,hj,rfl,U,Bw⟩:=hrel;have R:=Lib.hid U;clear U;have B4:=B3.after Bw B3.size;have K4:=K3.keep Bw
    by_cases hlt:j<T.length
    ·have e0:(j:Int)<(T.length:Int):=by omega
     have ck:=aK g1.out i7 Bw (Nat.le_refl _) j hlt;have ik:=fun W=>c6.out W j hlt;have N:=fun(W:World) (h:aD W (.slice ay y.length cy) y)=>g0.out W T[j] h (List.getElem_mem hlt);obtain⟨p,z,bb,O,c9,h7⟩:=b9.out T[j] (List.getElem_mem hlt);have Q:=dD (fun s=>aS l y s==0) T j hlt;have M:=pH (fun s=>aS l y s==0) T j hlt;obtain⟨s,hs⟩:∃s,s=T[j]:=⟨_,rfl⟩;rw[<-hs]at ck O Q M h7;simp only[<-hs]at N;obtain⟨a8,I⟩:∃z,z=wt y s:=⟨_,rfl⟩;simp only[<-I]at N;rw[<-I]at O;rw[O]at Q M;have e4:(a8 != z)=!(z-a8==0):=by
      rw[bne]
      congr 1
      rw[Bool.eq_iff_iff,beq_iff_eq,beq_iff_eq];omega
     have g2:=Lib.hid Q;have f8:=Lib.hid M;have i8:=hy.below B4 (Nat.le_refl _);have QS:=Lib.hid (fun q:Ext wr=>N q.w (q.ints i8));have G:=K4.cell;have c8:=keep B4 c9;have e1:∀q:Ext wr,q.w.cell? ⟨w.heap.size,1,none⟩=some (.slice a l.length c):=fun q=>q.cell (G 1);have e2:∀q:Ext wr,q.w.cell? ⟨bb,p,none⟩=some (.int .i64 z):=fun q=>q.cell c8;have e3:∀q:Ext wr,q.w.cell? ⟨tb,f2+j,none⟩=some (.int .i64 s):=fun q=>q.cell ck;clear hs I O N Q M c9 c8 G ck
     cases hz:z-a8==0 with
     |false=>
      rw[hz]at e4;have A:=HX.out.trans (f8.out hz);have Z:=Lib.hid A;clear A hz;go_wp2_with fail;refine aO _ (by kernel_rfl) (by kernel_rfl) ?_
      repeat(first|go_big_quiet_skip|(go_big_quiet_want;go_big_quiet_op;first|go_big_quiet_on|(apply Exists.intro;refine⟨fun _=>?_,?_⟩;(go_at_call 186;exact aX (QS.out _));go_big_quiet_on)))
      refine wpQuiet_nil ?_;rintro w5 ⟨⟨w5,b5⟩,rfl⟩
      try dsimp only
      go_wp2;go_ret;exact⟨aE Z.out.symm,B4.after b5 B4.size⟩
     |true=>
      rw[hz]at e4;have c7:(T.take (j+1)).all (fun s=>aS l y s==0)=true:=by rw[g2.out,R.out,hz];rfl
      have f6:=Lib.hid c7;clear c7 hz;go_wp2_with fail;refine aO _ (by kernel_rfl) (by kernel_rfl) ?_
      repeat(first|go_big_quiet_skip|(go_big_quiet_want;go_big_quiet_op;first|go_big_quiet_on|(apply Exists.intro;refine⟨fun _=>?_,?_⟩;(go_at_call 186;exact aX (QS.out _));go_big_quiet_on)))
      refine wpQuiet_nil ?_;rintro w5 ⟨⟨w5,b5⟩,rfl⟩
      try dsimp only
      go_wp2;go_roundw
      case rel=>exact⟨j+1,by omega,by go_num,f6.out,Bw.after b5 Bw.size⟩
      case measure=>simp[intOf];omega
    ·have e0:¬(j:Int)<(T.length:Int):=by omega
     have A:fE n l x y=true:=by rw[HX.out,<-eH _ T j (by omega),R.out]
     have Z:=Lib.hid A;clear A;go_wp2;go_ret;exact⟨aE Z.out.symm,B4⟩
theorem A8(w:World)(N:Nat)(v:Value)(l:List Int)(hv:aD w v l)(hl:l.length<=1048576)(hr:dW (N:Int) l=true)(hf:aN (N:Int) l=true)(s:Nat)(hs:s<2^N):
  Calls Tryz.prog 298 #[.agg #[.int .i64 (N:Int),v],.int .i64 (s:Int)] w fun e w'=>e=.returned (.bool (bH l s))/\Below w.heap.size w w':=by
 obtain⟨a,b,b4,c,rfl,b6,M,hc,hb⟩:=hv.view Tryz.prog 22 3 Tryz.underlying22 aG;obtain⟨o,L,hN,b0,b1,b3⟩:=bN hf;have L:o=N:=by omega
 subst L;have a7:(2:Nat)^o<=2^5:=Nat.pow_le_pow_right (by decide) hN;have A:s<l.length:=by omega
 have O:((2:Int)^o)=((2^o:Nat):Int):=by simp
 have Q:bO o (s:Int)=true:=eN.2 ⟨by omega,by rw[O];omega⟩;have K0:=aB.new w 32 #[.int .i64 (o:Int),.slice a l.length c];have I:=hv.alloc (.cells #[.int .i64 (o:Int),.slice a l.length c] 32);have R:=aM w (.cells #[.int .i64 (o:Int),.slice a l.length c] 32);obtain⟨K,D⟩:∃W,W=w.alloc (.cells #[.int .i64 (o:Int),.slice a l.length c] 32):=⟨_,rfl⟩;rw[<-D]at K0 R I;have Y:=K0.cell;have e0:∀y:Ext K,y.w.cell? ⟨w.heap.size,0,none⟩=some (.int .i64 (o:Int)):=fun y=>y.cell (Y 0);have e1:∀y:Ext K,y.w.cell? ⟨w.heap.size,1,none⟩=some (.slice a l.length c):=fun y=>y.cell (Y 1);have ck:=aK hc hb R (Nat.le_refl _) s A;have ik:=fun W=>M W s A;have F:bH l s=(l[s]==(aY s:Int)):=by
  unfold bH;rw[aJ l s A]
  by_cases h:l[s]=(aY s:Int)
  ·simp[h]
  ·simp[h]
 obtain⟨y,hy⟩:∃y,y=l[s]:=⟨_,rfl⟩;rw[<-hy]at ck F;have e2:∀z:Ext K,z.w.cell? ⟨b,b4+s,none⟩=some (.int .i64 y):=fun z=>z.cell ck;have S:=fun z:Ext K=>sB z.w (o:Int) _ l (z.ints I) (s:Int);simp only[hf,Int.toNat_natCast,Q,Bool.and_self]at S;have U:=fun z:Ext K=>vM (o:Int) l _ z.w (z.ints I) hl;simp only[hr]at U;have S:=Lib.hid S;have U:=Lib.hid U;have QS:=Lib.hid (fun z:Ext K=>jO s z.w (by omega));have HX:=Lib.hid F;have Z:=Lib.hid D;clear O F hf hr b0 b1 b3 Q A hy ck M hc hb D Y K0 a7;go_enter Tryz.func298,Tryz.ntmps298;go_wp2_with fail;rw[Z.out.symm];refine aO _ (by kernel_rfl) (by kernel_rfl) ?_
 repeat(first|go_big_quiet_skip|(go_big_quiet_want;go_big_quiet_op;first|go_big_quiet_on|(apply Exists.intro;refine⟨fun _=>?_,?_⟩;(first|(go_at_call 185;exact aV (S.out _))|(go_at_call 297;exact aV (U.out _))|(go_at_call 173;exact aX (QS.out _)));go_big_quiet_on)))
 refine wpQuiet_nil ?_;rintro w3 ⟨⟨w3,a8⟩,rfl⟩
 try dsimp only
 go_wp2;go_ret;exact⟨aE HX.out.symm,R.after a8 R.size⟩
theorem FI(w:World)(N:Nat)(v:Value)(l:List Int)(hv:aD w v l)(hl:l.length<=1048576)(u:Value)(m:List Int)(hu:aD w u m)(hm:m.length<=1048576)(L:cZ (N:Int) l (N:Int) m=true)(M:aN (N:Int) l=true)(O:aN (N:Int) m=true)(s:Nat)(hs:s<2^N):
  Calls Tryz.prog 194 #[.agg #[.int .i64 (N:Int),v],.agg #[.int .i64 (N:Int),u],.int .i64 (s:Int)] w fun e w'=>e=.returned (.bool (bH l s&&bH m s))/\Below w.heap.size w w':=by
 obtain⟨a,c,rfl⟩:=hv.shape;obtain⟨b,d,rfl⟩:=hu.shape;have o:=fun W (h1:aD W (.slice a l.length c) l) (h2:aD W (.slice b m.length d) m)=>pF W (N:Int) _ l h1 hl (N:Int) _ m h2 hm;simp only[L]at o;have hr:dW (N:Int) l=true/\dW (N:Int) m=true:=by
  unfold cZ at L;simp only[Bool.and_eq_true]at L;exact L.1
 have z:=fun W (h1:aD W (.slice a l.length c) l)=>A8 W N _ l h1 hl hr.1 M s hs;have A:=fun W (h1:aD W (.slice b m.length d) m)=>A8 W N _ m h1 hm hr.2 O s hs;obtain⟨p1,D⟩:∃p,p=bH l s:=⟨_,rfl⟩;obtain⟨p2,F⟩:∃p,p=bH m s:=⟨_,rfl⟩;simp only[<-D]at z;simp only[<-F]at A;rw[<-D,<-F];have Y:=Lib.hid o;have Z:=Lib.hid z;have a1:=Lib.hid A;clear o z A M O D F L hs hr;go_enter Tryz.func194,Tryz.ntmps194;go_wp2_with fail;refine aH ?_;intro V U;have B:Below w.heap.size w V:=by rw[U];exact cD _ _ _
 have K1:aB V w.heap.size 32 #[.int .i64 (N:Int),.slice a l.length c]:=by rw[U];exact(aB.new _ _ _).alloc _
 have K2:aB V (w.heap.size+1) 32 #[.int .i64 (N:Int),.slice b m.length d]:=by rw[U];have:=aB.new (w.alloc (.cells #[.int .i64 (N:Int),.slice a l.length c] 32)) 32 #[.int .i64 (N:Int),.slice b m.length d];simpa using this
 clear U;refine(Y.out V (hv.below B (Nat.le_refl _)) (hu.below B (Nat.le_refl _))).mono ?_;rintro e w1 ⟨rfl,S⟩;have Q:=B.after S B.size;have I:=K1.keep S;have K:=K2.keep S;clear K1 K2 B S;have G1:=I.cell;go_wp2_with fail;refine(Z.out w1 (hv.below Q (Nat.le_refl _))).mono ?_;rintro e w2 ⟨rfl,b2⟩;have R:=Q.after b2 Q.size;have a6:=K.keep b2;have G2:=a6.cell;clear G1 I K Q b2
 cases p1 with
 |false=>
  go_wp2;go_ret;exact⟨rfl,R⟩
 |true=>
  go_wp2_with fail;refine(a1.out w2 (hu.below R (Nat.le_refl _))).mono ?_;rintro e w3 ⟨rfl,b3⟩;go_wp2;go_ret;exact⟨by simp,R.after b3 R.size⟩
theorem GP(n:Int)(hn:0<=n/\n<=6)(x:List Int)(v:Value)(w:World)(hv:aD w v x):
  Calls Tryz.prog 193 #[v,.int .i64 n] w fun e w'=>e=.returned (.int .i64 (fL n x 0))/\w=w':=by
 obtain⟨a,b,e4,c,rfl,b6,S,hc,hb⟩:=hv.view Tryz.prog 22 3 Tryz.underlying22 aG;obtain⟨T,hT⟩:∃T,T=fL n x 0:=⟨_,rfl⟩;have a1:fL n (x.drop 0) 0=T:=by rw[List.drop_zero];exact hT.symm
 rw[<-hT];have e0:IntKind.i64.wrap (n-1)=n-1:=by rw[IntKind.wrap_i64];omega
 have HC:=Lib.hid hc;have a8:=Lib.hid S;have a9:=Lib.hid a1;clear hc S a1 hT;go_enter Tryz.func193,Tryz.ntmps193;go_wp2;go_loop [5,6] (fun uv iv=>∃(j u:Nat),j<=x.length/\iv=.int .i64 j/\uv=.int .i64 (u:Int)/\u<64/\fL n (x.drop j) u=T) (fun _ iv=>x.length-(intOf iv).toNat)
 case atStart=>exact⟨0,0,Nat.zero_le _,rfl,rfl,by omega,a9.out⟩
 case round=>
  obtain⟨j,u,hj,rfl,rfl,hu,hid⟩:=hrel
  by_cases hlt:j<x.length
  ·have Y:(j:Int)<(x.length:Int):=by omega
   have ck:=HC.out j hlt;have ik:=fun W=>a8.out W j hlt;have A:=FZ n x j hlt u;rw[hid]at A;obtain⟨y,hy⟩:∃y,y=x[j]:=⟨_,rfl⟩;rw[<-hy]at ck A;obtain⟨el,F⟩:∃b,b=fX n y:=⟨_,rfl⟩;have R:∀W,Calls Tryz.prog 188 #[.int .i64 y,.int .i64 0,.int .i64 (n-1)] W fun e' w'=>e'=.returned (.bool el)/\W=w':=fun W=>by
    have:=aR y 0 (n-1) W;rw[uC]at this;rw[F];exact this
   have L:=Lib.hid R;have D:sK n u y=(el&&!aW u y.toNat):=by unfold sK;rw[F]
   clear R hid hy
   cases el with
   |false=>
    have o:T=-1:=by rw[A,D];rfl
    have M:=Lib.hid o;clear o A D F;go_wp2_with (go_at_call 188;refine(L.out _).mono ?_;rintro e w' ⟨rfl,rfl⟩);go_ret;exact⟨eJ M.out.symm,rfl⟩
   |true=>
    have Q:0<=y/\y<n:=by
     have h:=F.symm;unfold fX at h;simpa using h
    obtain⟨e,rfl⟩:=Int.eq_ofNat_of_zero_le Q.1;have O:e<6:=by omega
    rw[Int.toNat_natCast]at A D;have b3:=dY (u:Int) e (by omega) (by omega);have I:=gP u e;have Z:=eK u e (by omega) O;have hp:=mW (e:Int) (by omega);rw[Int.toNat_natCast]at hp;have c7:=hp.1;have c8:=hp.2;have K:=sF u hu e O;obtain⟨z,hz⟩:∃y,y=bR (u:Int) e:=⟨_,rfl⟩;rw[<-hz]at b3 I;clear hz hp Q F
    cases h2:aW u e with
    |true=>
     have t2:(z==1)=true:=by rw[I,h2]
     have o:T=-1:=by rw[A,D,h2];rfl
     have M:=Lib.hid o;clear o A D h2 I;go_wp2_with (go_at_call 188;refine(L.out _).mono ?_;rintro e w' ⟨rfl,rfl⟩);go_ret;exact⟨eJ M.out.symm,rfl⟩
    |false=>
     have t2:(z==1)=false:=by rw[I,h2]
     have o:fL n (x.drop (j+1)) (aP u e)=T:=by rw[A,D,h2];rfl
     obtain⟨u2,a6⟩:∃q,q=aP u e:=⟨_,rfl⟩;rw[<-a6]at Z K o;have M:=Lib.hid o;clear o A D h2 I a6;go_wp2_with (go_at_call 188;refine(L.out _).mono ?_;rintro e w' ⟨rfl,rfl⟩);go_round
     case rel=>exact⟨j+1,u2,by omega,by go_num,rfl,K,M.out⟩
     case measure=>simp[intOf];omega
  ·have Y:¬(j:Int)<(x.length:Int):=by omega
   have U:j=x.length:=by omega
   rw[U,List.drop_length]at hid;have N:(u:Int)=T:=hid;have M:=Lib.hid N;clear hid N U;go_wp2;go_ret;exact⟨eJ M.out,rfl⟩
end
section
open Go.RowKit Go.G5
theorem PX(w:World)(n1:Int)(v1:Value)(l1:List Int)(h1:aD w v1 l1)(n2:Int)(v2:Value)(l2:List Int)(h2:aD w v2 l2)(n3:Int)(v3:Value)(l3:List Int)(h3:aD w v3 l3)(q st:Int)(v4:Value)(l4:List Int)(h4:aD w v4 l4):
  Calls Tryz.prog 55 #[clV 1 n1 v1 n2 v2 n3 v3 q st v4] w fun e w'=>e=.returned (.bool (gN n1 l1 q st l4))/\Below w.heap.size w w':=by
 obtain⟨O,c1,rfl⟩:=h1.shape;obtain⟨a2,c2,rfl⟩:=h2.shape;obtain⟨a3,c3,rfl⟩:=h3.shape;obtain⟨a4,c4,rfl⟩:=h4.shape;have K0:=aB.new w 49 (clC 1 n1 (.slice O l1.length c1) n2 (.slice a2 l2.length c2) n3 (.slice a3 l3.length c3) q st (.slice a4 l4.length c4));obtain⟨A,K⟩:∃V,V=(w.alloc (.cells (clC 1 n1 (.slice O l1.length c1) n2 (.slice a2 l2.length c2) n3 (.slice a3 l3.length c3) q st (.slice a4 l4.length c4)) 49)).alloc (.cells #[.int .i64 n1,.slice O l1.length c1] 32):=⟨_,rfl⟩;have F:Below w.heap.size w A:=by rw[K];exact cD _ _ _
 have b5:aB A w.heap.size 49 (clC 1 n1 (.slice O l1.length c1) n2 (.slice a2 l2.length c2) n3 (.slice a3 l3.length c3) q st (.slice a4 l4.length c4)):=by rw[K];exact K0.alloc _
 have KF:aB A (w.heap.size+1) 32 #[.int .i64 n1,.slice O l1.length c1]:=by
  rw[K];have:=aB.new (w.alloc (.cells (clC 1 n1 (.slice O l1.length c1) n2 (.slice a2 l2.length c2) n3 (.slice a3 l3.length c3) q st (.slice a4 l4.length c4)) 49)) 32 #[.int .i64 n1,.slice O l1.length c1];simpa using this
 have M:=Lib.hid K;have g1:=h1.below F (Nat.le_refl _);have g2:=h2.below F (Nat.le_refl _);have g3:=h3.below F (Nat.le_refl _);have g4:=h4.below F (Nat.le_refl _);clear K K0;have G0:=b5.cell;have F0:=KF.cell;have e7:∀z:Ext A,z.w.cell? ⟨w.heap.size,7,none⟩=some (.int .i64 q):=fun z=>z.cell (G0 7);have e8:∀z:Ext A,z.w.cell? ⟨w.heap.size,8,none⟩=some (.int .i64 st):=fun z=>z.cell (G0 8);have e9:∀z:Ext A,z.w.cell? ⟨w.heap.size,9,none⟩=some (.slice a4 l4.length c4):=fun z=>z.cell (G0 9);have f0:∀z:Ext A,z.w.cell? ⟨w.heap.size+1,0,none⟩=some (.int .i64 n1):=fun z=>z.cell (F0 0);have f1:∀z:Ext A,z.w.cell? ⟨w.heap.size+1,1,none⟩=some (.slice O l1.length c1):=fun z=>z.cell (F0 1);clear G0 F0;have L:=fun z:Ext A=>OL z.w n1 _ l1 (z.ints g1) _ l4 (z.ints g4);have I:=fun z:Ext A=>sB z.w n1 _ l1 (z.ints g1) st
 cases hd:gR n1 l1 l4 with
 |false=>
  have D:gN n1 l1 q st l4=false:=by unfold gN;rw[hd];rfl
  simp only[hd]at L;have L:=Lib.hid L;have S:=Lib.hid D;clear D hd I;go_enter Tryz.func55,Tryz.ntmps55;go_wp2_with fail;rw[M.out.symm];refine aO _ (by kernel_rfl) (by kernel_rfl) ?_
  repeat(first|go_big_quiet_skip|(go_big_quiet_want;go_big_quiet_op;first|go_big_quiet_on|(apply Exists.intro;refine⟨fun _=>?_,?_⟩;(go_at_call 184;exact aV (L.out _));go_big_quiet_on)))
  refine wpQuiet_nil ?_;rintro w3 ⟨⟨w3,o⟩,rfl⟩
  try dsimp only
  go_wp2;go_ret;exact⟨aE S.out.symm,F.after o F.size⟩
 |true=>
  simp only[hd]at L;obtain⟨hf,a9⟩:=jQ (JB hd);obtain⟨N,rfl,hN,c7,d0,b9⟩:=bN hf;obtain⟨e4,b0⟩:=iV a9;simp only[hf,Int.toNat_natCast,Bool.true_and]at I;have R:bO N st=true->∃(b p:Nat) (y:Int),l1.getD st.toNat 0=y/\A.cell? ⟨b,p,none⟩=some (.int .i64 y)/\∀W,(Instr.indexAt 22 (.slice O l1.length c1) (.int .i64 st)).run Tryz.prog W=.ok (.pointer (some ⟨b,p,none⟩)) W:=fun Q=>by
   obtain⟨s,rfl,g5⟩:=qP Q;have Y:s<l1.length:=by omega
   obtain⟨_,b,e5,_,e0,_,c6,hc,hb⟩:=g1.view Tryz.prog 22 3 Tryz.underlying22 aG
   injection e0 with x1 _ x3
   subst x1 x3;exact⟨b,e5+s,l1[s],by rw[Int.toNat_natCast,aJ l1 s Y],hc s Y,fun W=>c6 W s Y⟩
  have D:gN (N:Int) l1 q st l4=(bO N st&&(l1.getD st.toNat 0==q&&wt l4 (2^N-1)==q)):=by unfold gN;rw[hd,Int.toNat_natCast];rfl
  have hp:=bJ N 5 hN;have c9:=hp.1;have g0:=hp.2;simp at c9;have QF:=Lib.hid (fun z:Ext A=>cT N z.w (by omega));have Z:=fun z:Ext A=>gS l4 (.slice a4 l4.length c4) (2^N-1) z.w (z.ints g4) (by omega) (by omega) (fun k hk=>by have:=b0 k hk;omega) (by omega);obtain⟨Wt,U⟩:∃P,P=wt l4 (2^N-1):=⟨_,rfl⟩;rw[<-U]at D;simp only[<-U]at Z;have QW:=Lib.hid Z;have L:=Lib.hid L;have a7:=Lib.hid R;clear Z U hp hd hf a9 c7 d0 b9 e4 b0 R
  cases Q:bO N st with
  |false=>
   simp only[Q]at I;rw[Q]at D;have S:=Lib.hid D;have I:=Lib.hid I;clear D Q;go_enter Tryz.func55,Tryz.ntmps55;go_wp2_with fail;rw[M.out.symm];refine aO _ (by kernel_rfl) (by kernel_rfl) ?_
   repeat(first|go_big_quiet_skip|(go_big_quiet_want;go_big_quiet_op;first|go_big_quiet_on|(apply Exists.intro;refine⟨fun _=>?_,?_⟩;(first|(go_at_call 184;exact aV (L.out _))|(go_at_call 185;exact aV (I.out _))|(go_at_call 187;exact aX (QF.out _))|(go_at_call 186;exact aX (QW.out _)));go_big_quiet_on)))
   refine wpQuiet_nil ?_;rintro w3 ⟨⟨w3,o⟩,rfl⟩
   try dsimp only
   go_wp2;go_ret;exact⟨aE S.out.symm,F.after o F.size⟩
  |true=>
   simp only[Q]at I;obtain⟨b,p,y,hy,a8,f3⟩:=a7.out Q;rw[Q,Bool.true_and,hy]at D;have ey:∀z:Ext A,z.w.cell? ⟨b,p,none⟩=some (.int .i64 y):=fun z=>z.cell a8;have I:=Lib.hid I;clear Q hy a8
   cases b1:y==q with
   |false=>
    rw[b1]at D;have S:=Lib.hid D;clear D;go_enter Tryz.func55,Tryz.ntmps55;go_wp2_with fail;rw[M.out.symm];refine aO _ (by kernel_rfl) (by kernel_rfl) ?_
    repeat(first|go_big_quiet_skip|(go_big_quiet_want;go_big_quiet_op;first|go_big_quiet_on|(apply Exists.intro;refine⟨fun _=>?_,?_⟩;(first|(go_at_call 184;exact aV (L.out _))|(go_at_call 185;exact aV (I.out _))|(go_at_call 187;exact aX (QF.out _))|(go_at_call 186;exact aX (QW.out _)));go_big_quiet_on)))
    refine wpQuiet_nil ?_;rintro w3 ⟨⟨w3,o⟩,rfl⟩
    try dsimp only
    go_wp2;go_ret;exact⟨aE S.out.symm,F.after o F.size⟩
   |true=>
    rw[b1]at D;have S:=Lib.hid D;clear D;go_enter Tryz.func55,Tryz.ntmps55;go_wp2_with fail;rw[M.out.symm];refine aO _ (by kernel_rfl) (by kernel_rfl) ?_
    repeat(first|go_big_quiet_skip|(go_big_quiet_want;go_big_quiet_op;first|go_big_quiet_on|(apply Exists.intro;refine⟨fun _=>?_,?_⟩;(first|(go_at_call 184;exact aV (L.out _))|(go_at_call 185;exact aV (I.out _))|(go_at_call 187;exact aX (QF.out _))|(go_at_call 186;exact aX (QW.out _)));go_big_quiet_on)))
    refine wpQuiet_nil ?_;rintro w3 ⟨⟨w3,o⟩,rfl⟩
    try dsimp only
    go_wp2;go_ret;exact⟨aE S.out.symm,F.after o F.size⟩
theorem PR(w:World)(n1:Int)(v1:Value)(l1:List Int)(h1:aD w v1 l1)(n2:Int)(v2:Value)(l2:List Int)(h2:aD w v2 l2)(n3:Int)(v3:Value)(l3:List Int)(h3:aD w v3 l3)(q st:Int)(v4:Value)(l4:List Int)(h4:aD w v4 l4)(hl:l1.length<=1048576):
  Calls Tryz.prog 55 #[clV 5 n1 v1 n2 v2 n3 v3 q st v4] w fun e w'=>e=.returned (.bool (gX n1 l1 q st))/\Below w.heap.size w w':=by
 obtain⟨L,c1,rfl⟩:=h1.shape;obtain⟨a2,c2,rfl⟩:=h2.shape;obtain⟨a3,c3,rfl⟩:=h3.shape;obtain⟨a4,c4,rfl⟩:=h4.shape;have K0:=aB.new w 49 (clC 5 n1 (.slice L l1.length c1) n2 (.slice a2 l2.length c2) n3 (.slice a3 l3.length c3) q st (.slice a4 l4.length c4));obtain⟨V0,S⟩:∃V,V=(w.alloc (.cells (clC 5 n1 (.slice L l1.length c1) n2 (.slice a2 l2.length c2) n3 (.slice a3 l3.length c3) q st (.slice a4 l4.length c4)) 49)).alloc (.cells #[.int .i64 n1,.slice L l1.length c1] 32):=⟨_,rfl⟩;have O:Below w.heap.size w V0:=by rw[S];exact cD _ _ _
 have U:aB V0 w.heap.size 49 (clC 5 n1 (.slice L l1.length c1) n2 (.slice a2 l2.length c2) n3 (.slice a3 l3.length c3) q st (.slice a4 l4.length c4)):=by rw[S];exact K0.alloc _
 have KF:aB V0 (w.heap.size+1) 32 #[.int .i64 n1,.slice L l1.length c1]:=by
  rw[S];have:=aB.new (w.alloc (.cells (clC 5 n1 (.slice L l1.length c1) n2 (.slice a2 l2.length c2) n3 (.slice a3 l3.length c3) q st (.slice a4 l4.length c4)) 49)) 32 #[.int .i64 n1,.slice L l1.length c1];simpa using this
 have D:=Lib.hid S;have g1:=h1.below O (Nat.le_refl _);have g2:=h2.below O (Nat.le_refl _);have g3:=h3.below O (Nat.le_refl _);have g4:=h4.below O (Nat.le_refl _);clear S K0;have K:∀V,V=V0->Calls Tryz.prog 61 #[.agg #[.int .i64 n1,.slice L l1.length c1]] V fun e w'=>e=.returned (.tuple #[.int .i64 (gL n1 l1),.int .i64 (gZ n1 l1),.bool (eF n1 l1)])/\Below V.heap.size V w':=fun V h=>by rw[h];exact vI V0 n1 _ l1 g1 hl
 obtain⟨CN,Y⟩:∃c,c=gL n1 l1:=⟨_,rfl⟩;obtain⟨CS,b3⟩:∃c,c=gZ n1 l1:=⟨_,rfl⟩;simp only[<-Y,<-b3]at K
 cases hf:eF n1 l1 with
 |false=>
  have M:gX n1 l1 q st=false:=by unfold gX;rw[hf];rfl
  simp only[hf]at K;have HX:=Lib.hid M;have R:=Lib.hid K;clear M K hf Y b3;go_enter Tryz.func55,Tryz.ntmps55;go_wp2_with fail;refine(R.out _ D.out.symm).mono ?_;rintro e o ⟨rfl,A⟩;rw[D.out.symm]at A;have Q:=O.after A O.size;have G:=(U.keep A).cell;have F:=(KF.keep A).cell;go_wp2_with fail;have e7:∀z:Ext o,z.w.cell? ⟨w.heap.size,7,none⟩=some (.int .i64 q):=fun z=>z.cell (G 7);have e8:∀z:Ext o,z.w.cell? ⟨w.heap.size,8,none⟩=some (.int .i64 st):=fun z=>z.cell (G 8);have f0:∀z:Ext o,z.w.cell? ⟨w.heap.size+1,0,none⟩=some (.int .i64 n1):=fun z=>z.cell (F 0);have f1:∀z:Ext o,z.w.cell? ⟨w.heap.size+1,1,none⟩=some (.slice L l1.length c1):=fun z=>z.cell (F 1);clear G F;refine aO _ (by kernel_rfl) (by kernel_rfl) ?_
  repeat(first|go_big_quiet_skip|(go_big_quiet_want;go_big_quiet_op;first|go_big_quiet_on|(apply Exists.intro;refine⟨fun _=>?_,?_⟩;(fail);go_big_quiet_on)))
  refine wpQuiet_nil ?_;rintro w3 ⟨⟨w3,I⟩,rfl⟩
  try dsimp only
  go_wp2;go_ret;exact⟨aE HX.out.symm,Q.after I Q.size⟩
 |true=>
  simp only[hf]at K;have M:gX n1 l1 q st=((CN==q)&&((decide (0<st)&&decide (st<2^n1.toNat-1))&&l1.getD st.toNat 0==q)):=by unfold gX;rw[hf,Y];rfl
  have c7:aN n1 l1=true:=by
   have h:=hf;unfold eF cY at h;simp only[Bool.and_eq_true]at h;exact h.1.1.1
  obtain⟨N,rfl,hN,f6,g0,f2⟩:=bN c7;rw[Int.toNat_natCast]at M;have hp:=bJ N 5 hN;have f8:=hp.1;have i1:=hp.2;simp at f8;have i6:IntKind.i64.wrap (2^N-1-1)=2^N-1-1:=by rw[IntKind.wrap_i64];omega
  have c8:cM st 1 (2^N-1-1)=(decide (0<st)&&decide (st<2^N-1)):=by
   unfold cM;rw[Bool.eq_iff_iff,Bool.and_eq_true,Bool.and_eq_true,decide_eq_true_eq,decide_eq_true_eq,decide_eq_true_eq,decide_eq_true_eq];omega
  have a6:=fun W=>aR st 1 (2^N-1-1) W;simp only[c8]at a6;have a7:(0<st/\st<2^N-1)->∃(b p:Nat) (y:Int),l1.getD st.toNat 0=y/\w.cell? ⟨b,p,none⟩=some (.int .i64 y)/\∀W,(Instr.indexAt 22 (.slice L l1.length c1) (.int .i64 st)).run Tryz.prog W=.ok (.pointer (some ⟨b,p,none⟩)) W:=by
   rintro⟨u1,u2⟩;obtain⟨s,rfl⟩:=Int.eq_ofNat_of_zero_le (show 0<=st by omega);have e:((2:Int)^N)=((2^N:Nat):Int):=by simp
   have b6:s<l1.length:=by omega
   obtain⟨_,b,g6,_,g5,_,f5,hc,hb⟩:=h1.view Tryz.prog 22 3 Tryz.underlying22 aG
   injection g5 with x1 _ x3
   subst x1 x3;exact⟨b,g6+s,l1[s],by rw[Int.toNat_natCast,aJ l1 s b6],hc s b6,fun W=>f5 W s b6⟩
  have b8:=Lib.hid a7;have R:=Lib.hid K;have b0:=Lib.hid (fun W=>cT N W (by omega));obtain⟨bI,Z⟩:∃b,b=(decide (0<st)&&decide (st<2^N-1)):=⟨_,rfl⟩;simp only[<-Z]at a6;rw[<-Z]at M;have a8:=Lib.hid a6;have e4:=Lib.hid Z;clear K hf Y b3 c7 f6 f2 hp a7 g0 c8 a6 Z
  cases hq:CN==q with
  |false=>
   rw[hq]at M;have HX:=Lib.hid M;clear M;go_enter Tryz.func55,Tryz.ntmps55;go_wp2_with fail;refine(R.out _ D.out.symm).mono ?_;rintro e o ⟨rfl,A⟩;rw[D.out.symm]at A;have Q:=O.after A O.size;have G:=(U.keep A).cell;have F:=(KF.keep A).cell;go_wp2_with fail;have e7:∀z:Ext o,z.w.cell? ⟨w.heap.size,7,none⟩=some (.int .i64 q):=fun z=>z.cell (G 7);have e8:∀z:Ext o,z.w.cell? ⟨w.heap.size,8,none⟩=some (.int .i64 st):=fun z=>z.cell (G 8);have f0:∀z:Ext o,z.w.cell? ⟨w.heap.size+1,0,none⟩=some (.int .i64 (N:Int)):=fun z=>z.cell (F 0);have f1:∀z:Ext o,z.w.cell? ⟨w.heap.size+1,1,none⟩=some (.slice L l1.length c1):=fun z=>z.cell (F 1);clear G F;have QF:=Lib.hid (fun z:Ext o=>b0.out z.w);have QI:=Lib.hid (fun z:Ext o=>a8.out z.w);refine aO _ (by kernel_rfl) (by kernel_rfl) ?_
   repeat(first|go_big_quiet_skip|(go_big_quiet_want;go_big_quiet_op;first|go_big_quiet_on|(apply Exists.intro;refine⟨fun _=>?_,?_⟩;(first|(go_at_call 187;exact aX (QF.out _))|(go_at_call 188;exact aX (QI.out _)));go_big_quiet_on)))
   refine wpQuiet_nil ?_;rintro w3 ⟨⟨w3,I⟩,rfl⟩
   try dsimp only
   go_wp2;go_ret;exact⟨aE HX.out.symm,Q.after I Q.size⟩
  |true=>
   rw[hq,Bool.true_and]at M;have b5:CN=q:=by simpa using hq
   cases bI with
   |false=>
    have HX:=Lib.hid M;clear M b5;go_enter Tryz.func55,Tryz.ntmps55;go_wp2_with fail;refine(R.out _ D.out.symm).mono ?_;rintro e o ⟨rfl,A⟩;rw[D.out.symm]at A;have Q:=O.after A O.size;have G:=(U.keep A).cell;have F:=(KF.keep A).cell;go_wp2_with fail;have e7:∀z:Ext o,z.w.cell? ⟨w.heap.size,7,none⟩=some (.int .i64 q):=fun z=>z.cell (G 7);have e8:∀z:Ext o,z.w.cell? ⟨w.heap.size,8,none⟩=some (.int .i64 st):=fun z=>z.cell (G 8);have f0:∀z:Ext o,z.w.cell? ⟨w.heap.size+1,0,none⟩=some (.int .i64 (N:Int)):=fun z=>z.cell (F 0);have f1:∀z:Ext o,z.w.cell? ⟨w.heap.size+1,1,none⟩=some (.slice L l1.length c1):=fun z=>z.cell (F 1);clear G F;have QF:=Lib.hid (fun z:Ext o=>b0.out z.w);have QI:=Lib.hid (fun z:Ext o=>a8.out z.w);refine aO _ (by kernel_rfl) (by kernel_rfl) ?_
    repeat(first|go_big_quiet_skip|(go_big_quiet_want;go_big_quiet_op;first|go_big_quiet_on|(apply Exists.intro;refine⟨fun _=>?_,?_⟩;(first|(go_at_call 187;exact aX (QF.out _))|(go_at_call 188;exact aX (QI.out _)));go_big_quiet_on)))
    refine wpQuiet_nil ?_;rintro w3 ⟨⟨w3,I⟩,rfl⟩
    try dsimp only
    go_wp2;go_ret;exact⟨aE HX.out.symm,Q.after I Q.size⟩
   |true=>
    obtain⟨b,p,y,hy,f3,g8⟩:=b8.out (by have:=e4.out.symm;simpa using this);have c9:gX (N:Int) l1 q st=(y==CN):=by rw[M,hy,b5];rfl
    have HX:=Lib.hid c9;clear M c9 b5 hy;go_enter Tryz.func55,Tryz.ntmps55;go_wp2_with fail;refine(R.out _ D.out.symm).mono ?_;rintro e o ⟨rfl,A⟩;rw[D.out.symm]at A;have Q:=O.after A O.size;have G:=(U.keep A).cell;have F:=(KF.keep A).cell;go_wp2_with fail;have e7:∀z:Ext o,z.w.cell? ⟨w.heap.size,7,none⟩=some (.int .i64 q):=fun z=>z.cell (G 7);have e8:∀z:Ext o,z.w.cell? ⟨w.heap.size,8,none⟩=some (.int .i64 st):=fun z=>z.cell (G 8);have f0:∀z:Ext o,z.w.cell? ⟨w.heap.size+1,0,none⟩=some (.int .i64 (N:Int)):=fun z=>z.cell (F 0);have f1:∀z:Ext o,z.w.cell? ⟨w.heap.size+1,1,none⟩=some (.slice L l1.length c1):=fun z=>z.cell (F 1);clear G F;have f4:=keep Q f3;have ey:∀z:Ext o,z.w.cell? ⟨b,p,none⟩=some (.int .i64 y):=fun z=>z.cell f4;have QF:=Lib.hid (fun z:Ext o=>b0.out z.w);have QI:=Lib.hid (fun z:Ext o=>a8.out z.w);refine aO _ (by kernel_rfl) (by kernel_rfl) ?_
    repeat(first|go_big_quiet_skip|(go_big_quiet_want;go_big_quiet_op;first|go_big_quiet_on|(apply Exists.intro;refine⟨fun _=>?_,?_⟩;(first|(go_at_call 187;exact aX (QF.out _))|(go_at_call 188;exact aX (QI.out _)));go_big_quiet_on)))
    refine wpQuiet_nil ?_;rintro w3 ⟨⟨w3,I⟩,rfl⟩
    try dsimp only
    go_wp2;go_ret;exact⟨aE HX.out.symm,Q.after I Q.size⟩
end
end Go.Proofs.YtipejodijbjpcaaGreatDoor
