/- Lemmas for CardClaims, part 23 of 52. No condition. -/
import Derived.Test.YtipejodijbjpcaaGreatDoorQ02
import Derived.Test.YtipejodijbjpcaaGreatDoorQ03
import Derived.Test.YtipejodijbjpcaaGreatDoorQ05
set_option maxRecDepth 100000
set_option maxHeartbeats 64000000
namespace Go.Proofs.YtipejodijbjpcaaGreatDoor
section
open Go.RowKit Go.G5
theorem qD(w:World)(n:Nat)(hn:n<=5)(c:FuncId)(he:∀args w,(callFunc c args).run Tryz.prog w=.ok (.enter c args) w)(g g':Nat)(F:Nat->Int)(hF:∀s,s<2^n->bA (F s))
  (Y:∀(s:Nat) W',s<2^n->Below w.heap.size w W'->Calls Tryz.prog c #[.int .i64 (s:Int),.pointer (some ⟨g,0,none⟩),.pointer (some ⟨g',0,none⟩)] W' fun e w2=>e=.returned (.int .i64 (F s))/\Below W'.heap.size W' w2):
  Calls Tryz.prog 273 #[.int .i64 (n:Int),.func (.func c) #[] #[.pointer (some ⟨g,0,none⟩),.pointer (some ⟨g',0,none⟩)]] w fun e w'=>
   ∃A i D,e=.returned (.tuple #[.agg #[.int .i64 (if aN n (bM F (2^n)) then (n:Int) else 0),.slice A i D],.bool (aN n (bM F (2^n)))])/\aC 3 w.heap.size w' (.slice A i D) (if aN n (bM F (2^n)) then bM F (2^n) else [])/\Below w.heap.size w w':=by
 have b4:(2:Nat)^n<=32:=Nat.pow_le_pow_right (by decide) hn;have b3:=Nat.two_pow_pos n;have M:((2^n:Nat):Int)=(2:Int)^n:=by simp
 obtain⟨N,hN⟩:∃N:Nat,N=2^n:=⟨_,rfl⟩;rw[<-hN]at Y hF b4 b3 M ⊢;clear hN;have r0:=(BoxAt.new w (.int .i64 0) (.slice none 0 0) 32);have r1:=r0.keep (aM _ (.cells #[.int .i64 n,.slice none 0 0] 32));have b1:=BoxAt.new (w.alloc (.cells #[.int .i64 0,.slice none 0 0] 32)) (.int .i64 n) (.slice none 0 0) 32;go_enter Tryz.func273,Tryz.ntmps273;go_wp2_with fail;go_loopw [13] (fun i wr=>∃(k:Nat) (A:Option Addr) (S D:Nat),k<=N/\i=.int .i64 k/\aC 3 (w.heap.size+1+1) wr (.slice A S D) (bM F k)/\Below w.heap.size w wr /\
   BoxAt wr w.heap.size (.int .i64 0) (.slice none 0 0)/\BoxAt wr (w.heap.size+1) (.int .i64 n) (.slice A S D))
  (fun i _=>N-(intOf i).toNat)
 case atStart=>exact⟨0,none,0,0,Nat.zero_le _,rfl,aC.nil _ _ _,(by repeat(first|exact Below.refl _ _|(with_reducible refine Below.setCell ?_ (by first|omega|(simp;done)|(simp;omega)) _)|(with_reducible refine Below.alloc ?_ (by first|omega|(simp;done)|(simp;omega)) _)|(with_reducible refine Below.drewN' ?_ _)|(with_reducible refine Below.drew ?_)|(with_reducible assumption)|refine Below.trans ?_ (Below.mono (by assumption) (by first|omega|(simp;done)|(simp;omega))))),r1,by simpa using b1⟩
 case round=>
  obtain⟨k,A,S,D,hk,rfl,O,B,R,X⟩:=hrel;clear r0 r1 b1
  by_cases hlt:k<N
  ·have Q:(k:Int)<2^n:=by rw[<-M];exact_mod_cast hlt
   have zr:=R.lt;have zx:=X.lt;have a8:=hF k hlt;have e4:(bM F k).length=k:=by simp[bM]
   have f8:(bM F k).length<=64:=by omega
   have z:=O.lt;have Z:=Lib.hid O;have HR:=Lib.hid R;have K:=Lib.hid X;obtain⟨e0,e1,g0,g1⟩:=X;clear O R;have a9:=Y k wr.drew hlt B.drew;clear Y;go_wp2;go_region_law
     (first
      |(go_simp;go_at_fn c;refine a9.mono ?_;rintro e w2 ⟨rfl,o⟩;have U:=K.out.keep ((Below.refl _ _).drew.after o (Nat.le_refl _));have X3:=U.keep (aM w2 (.cells #[.int .i64 (F k)] 3));have g5:=U.lt;have x1:=U.d1;have x2:=U.f1;have x3:=X3.d1;have x4:=X3.f1)
      |(refine lM rfl _ _ _ rfl 3 Tryz.underlying22 aG (w.heap.size+1+1) _ _ (F k) w2.heap.size rfl rfl (aT w2 #[.int .i64 (F k)] 3 0 _ rfl) ((Z.out.keep ((Below.refl _ _).drew.after o (Nat.le_refl _))).alloc (.cells #[.int .i64 (F k)] 3)) a8 (by omega) (by simp;omega) ?_;intro v' w6 I L;obtain⟨av,nv,cv,rfl⟩:=I.shape3;have X6:=X3.grow L (fun e=>by have:=(z _ e).1;omega);obtain⟨i0,i1,j0,j1⟩:=X6))
   all_goals
    have B6:Below w.heap.size w w6:=(((B.drew).after o B.size).alloc (B.drew.after o B.size).size (.cells #[.int .i64 (F k)] 3)).grown L (by simp;omega) (fun q hq=>by have:=(z q hq).1;omega);have R6:=((HR.out.keep ((Below.refl _ _).drew.after o (Nat.le_refl _))).keep (aM w2 (.cells #[.int .i64 (F k)] 3))).grow L (fun e=>by have:=(z _ e).1;omega);go_wp2;go_roundw
    case rel=>exact⟨k+1,av,nv,cv,by omega,by go_num,by rw[nO];exact I.setBelow (by first|omega|(simp;done)|(simp;omega)) _,B6.setCell (by first|omega|(simp;done)|(simp;omega)) _,R6.other (by omega) _,(BoxAt.mk i0 i1 j0 j1).set1 _⟩
    case measure=>simp[intOf];omega
  ·have Q:¬(k:Int)<2^n:=by rw[<-M];exact_mod_cast hlt
   have b0:k=N:=by omega
   subst b0;have Z:=Lib.hid O;have HR:=Lib.hid R;have K:=Lib.hid X;obtain⟨e0,e1,g0,g1⟩:=X;have hi:=O.ints;clear O Y R;go_wp2_with fail;refine(eZ n _ _ _ hi).mono ?_;rintro e w2 ⟨rfl,o⟩;have B2:=B.after o B.size;have o2:=Z.out.keep o;have a1:=Lib.hid o2;obtain⟨f0,f1,j0,j1⟩:=HR.out.keep o;obtain⟨i0,i1,q0,q1⟩:=K.out.keep o;clear e0 e1 g0 g1 o B o2 hi
   cases hf:aN n (bM F k) with
   |false=>
     have HF:=Lib.hid hf;go_wp2
     all_goals refine bodyPost_ret (v:=.tuple #[.agg #[.int .i64 0,.slice none 0 0],.bool false]) (by simp[results,Tryz.results273,go_sem,f0,f1]) rfl ⟨none,0,0,rfl,aC.nil _ _ _,Below.setCell (Below.setCell B2 (Nat.le_refl _) _) (Nat.le_refl _) _⟩
   |true=>
     have HF:=Lib.hid hf;go_wp2;refine bodyPost_ret (v:=.tuple #[.agg #[.int .i64 n,.slice A S D],.bool true]) (by simp[results,Tryz.results273,go_sem,f0,f1]) rfl ⟨A,S,D,rfl,?_,?_⟩
     ·exact((a1.out.setBelow (by first|omega|(simp;done)|(simp;omega)) _).setBelow (by first|omega|(simp;done)|(simp;omega)) _).mono (by first|omega|(simp;done)|(simp;omega))
     ·exact Below.setCell (Below.setCell B2 (Nat.le_refl _) _) (Nat.le_refl _) _
end
section
open Go.RowKit Go.G5
def fZ(x:List Int)(c:Int)(s:Nat):Int:=c+wt x (s:Int)
def kU(x:List Int)(c:Int):Bool:=(decide (x.length<=5)&&dB x (-1000) 1000)&&cM c (-1000) 1000
def iT(x:List Int)(c:Int):Bool:=kU x c&&aN x.length (bM (fZ x c) (2^x.length))
def dJ(x:List Int)(c:Int):Int:=if iT x c then (x.length:Int) else 0
def iU(x:List Int)(c:Int):List Int:=if iT x c then bM (fZ x c) (2^x.length) else []
theorem nB{x:List Int}{c:Int}(h:kU x c=true):x.length<=5/\(∀k,(o:k<x.length)->-1000<=x[k]/\x[k]<=1000)/\-1000<=c/\c<=1000:=by
 unfold kU dB at h;simp only[Bool.and_eq_true,List.all_eq_true,decide_eq_true_eq]at h;obtain⟨⟨h1,h2⟩,h3⟩:=h;have:=bL.1 h3;exact⟨h1,fun k o=>bL.1 (h2 _ (List.getElem_mem o)),this.1,this.2⟩
theorem vH{x:List Int}{c:Int}(h:kU x c=true)(s:Int):-5000000<=wt x s/\wt x s<=5000000:=by
 obtain⟨h1,h2,_⟩:=nB h;have:=wT x s (fun k o=>by have:=h2 k o;omega) x.length (Nat.le_refl _);unfold wt;omega
theorem N1(W:World)(x:List Int)(c:Int)(v:Value)(g o s:Nat)(h:kU x c=true)(I:aD W v x)(Q:s<1073741824)(c0:W.cell? ⟨g,0,none⟩=some (.int .i64 c))(c1:W.cell? ⟨o,0,none⟩=some v):
  Calls Tryz.prog 274 #[.int .i64 (s:Int),.pointer (some ⟨g,0,none⟩),.pointer (some ⟨o,0,none⟩)] W fun e w'=>e=.returned (.int .i64 (fZ x c s))/\Below W.heap.size W w':=by
 obtain⟨h1,h2,h3,h4⟩:=nB h;have M:=vH h (s:Int);obtain⟨a,d,rfl⟩:=I.shape;have O:∀y:Ext W,y.w.cell? ⟨g,0,none⟩=some (.int .i64 c):=fun y=>y.cell c0;have e1:∀y:Ext W,y.w.cell? ⟨o,0,none⟩=some (.slice a x.length d):=fun y=>y.cell c1;have F:=Lib.hid (fun y:Ext W=>lN x (.slice a x.length d) (s:Int) y.w (y.ints I) (by omega) (by omega) (fun k L=>by have:=h2 k L;omega) (by omega));have A:fZ x c s=c+wt x (s:Int):=rfl;obtain⟨q,D⟩:∃q,q=wt x (s:Int):=⟨_,rfl⟩;rw[<-D]at M A;simp only[<-D]at F;have K:=Lib.hid A;clear A D h2;go_enter Tryz.func274,Tryz.ntmps274;go_wp2_with fail;refine aO _ (by kernel_rfl) (by kernel_rfl) ?_
 repeat(first|go_big_quiet_skip|(go_big_quiet_want;go_big_quiet_op;first|go_big_quiet_on|(apply Exists.intro;refine⟨fun _=>?_,?_⟩;(go_at_call 132;exact aX (F.out _));go_big_quiet_on)))
 refine wpQuiet_nil ?_;rintro N ⟨⟨N,z⟩,rfl⟩
 try dsimp only
 go_wp2;go_ret;exact⟨eJ K.out.symm,z⟩
theorem wZ:∀args w,(callFunc 274 args).run Tryz.prog w=.ok (.enter 274 args) w:=enters_of Tryz.func274 (by kernel_rfl) rfl
theorem XA(w:World)(v:Value)(x:List Int)(hv:aD w v x)(c:Int):
  Calls Tryz.prog 163 #[v,.int .i64 c] w fun e w'=>∃ad i cp,e=.returned (.tuple #[.agg #[.int .i64 (dJ x c),.slice ad i cp],.bool (iT x c)])/\aC 3 w.heap.size w' (.slice ad i cp) (iU x c)/\Below w.heap.size w w':=by
 obtain⟨a,d,rfl⟩:=hv.shape;have e4:∀(fn:Fn) (first cap:Array Value) (w:World),(Instr.makeFunc fn first cap).run Tryz.prog w=.ok (.func fn first cap) w:=fun _ _ _ _=>rfl;have A:kU x c=false->dJ x c=0/\iU x c=[]/\iT x c=false:=fun h=>by
  have hb:iT x c=false:=by unfold iT;rw[h];rfl
  exact⟨by unfold dJ;rw[hb];rfl,by unfold iU;rw[hb];rfl,hb⟩
 obtain⟨V,F⟩:∃V,V=((w.alloc (.cells #[.slice a x.length d] 22)).alloc (.cells #[.int .i64 c] 3)).alloc (.cells #[.int .i64 0,.slice none 0 0] 32):=⟨_,rfl⟩;have B:Below w.heap.size w V:=by rw[F];exact PO _ _ _ _
 have K1:aB V w.heap.size 22 #[.slice a x.length d]:=by rw[F];exact((aB.new _ _ _).alloc _).alloc _
 have K2:aB V (w.heap.size+1) 3 #[.int .i64 c]:=by rw[F];have:=(aB.new (w.alloc (.cells #[.slice a x.length d] 22)) 3 #[.int .i64 c]).alloc (.cells #[.int .i64 0,.slice none 0 0] 32);simpa using this
 have D:aB V (w.heap.size+1+1) 32 #[.int .i64 0,.slice none 0 0]:=by rw[F];have:=aB.new ((w.alloc (.cells #[.slice a x.length d] 22)).alloc (.cells #[.int .i64 c] 3)) 32 #[.int .i64 0,.slice none 0 0];simpa using this
 have Y:=hv.below B (Nat.le_refl _);have G1:=K1.cell;have G2:=K2.cell;have G3:=D.cell;have F3:=D.frozen;have z3:=D.lt
 by_cases Z:x.length<=5
 ·have a9:¬(5:Int)<(x.length:Int):=by omega
  have I:=Lib.hid (kV x _ (-1000) 1000 V Y);have K:=Lib.hid (fN c (-1000) 1000 V)
  cases R:dB x (-1000) 1000 with
  |false=>
   have H:=Lib.hid (A (by unfold kU;rw[R];simp));rw[R]at I;clear R A;go_enter Tryz.func163,Tryz.ntmps163;go_wp2_with fail;rw[<-F];clear F;refine I.out.mono ?_;rintro e w1 ⟨rfl,rfl⟩;go_wp2;refine aI ?_;intro Wf o;have z:aB Wf (w.heap.size+1+1) 32 #[.int .i64 0,.slice none 0 0]:=by
    rw[o]
    first
     |exact D
     |(have:=(D.set 0 (.int .i64 0)).set 1 (.slice none 0 0);simpa using this)
   have N:V.grownBy Wf (some (w.heap.size+1+1)):=by
    rw[o]
    first
     |exact World.grownBy.refl _ _
     |exact aA (aA (World.grownBy.refl _ _) 0 _) 1 _
   have O:Below w.heap.size w Wf:=B.grown N B.size (fun q L=>by have:=Option.some.inj L;omega);have Q:=z.cell;clear o;exact bodyPost_ret (v:=.tuple #[.agg #[.int .i64 0,.slice none 0 0],.bool false]) (by simp[results,Tryz.results163,go_sem,Q]) rfl ⟨none,0,0,by rw[H.out.1,H.out.2.2],by rw[H.out.2.1];exact aC.nil _ _ _,O⟩
  |true=>
   rw[R]at I
   cases U:cM c (-1000) 1000 with
   |false=>
    have H:=Lib.hid (A (by unfold kU;rw[U];simp));rw[U]at K;clear R U A;go_enter Tryz.func163,Tryz.ntmps163;go_wp2_with fail;rw[<-F];clear F;refine I.out.mono ?_;rintro e w1 ⟨rfl,rfl⟩;go_wp2_with fail;refine K.out.mono ?_;rintro e w1 ⟨rfl,rfl⟩;go_wp2;refine aI ?_;intro Wf o;have z:aB Wf (w.heap.size+1+1) 32 #[.int .i64 0,.slice none 0 0]:=by
     rw[o]
     first
      |exact D
      |(have:=(D.set 0 (.int .i64 0)).set 1 (.slice none 0 0);simpa using this)
    have N:V.grownBy Wf (some (w.heap.size+1+1)):=by
     rw[o]
     first
      |exact World.grownBy.refl _ _
      |exact aA (aA (World.grownBy.refl _ _) 0 _) 1 _
    have O:Below w.heap.size w Wf:=B.grown N B.size (fun q L=>by have:=Option.some.inj L;omega);have Q:=z.cell;clear o;exact bodyPost_ret (v:=.tuple #[.agg #[.int .i64 0,.slice none 0 0],.bool false]) (by simp[results,Tryz.results163,go_sem,Q]) rfl ⟨none,0,0,by rw[H.out.1,H.out.2.2],by rw[H.out.2.1];exact aC.nil _ _ _,O⟩
   |true=>
    have hG:kU x c=true:=by unfold kU;rw[R,U,decide_eq_true Z];rfl
    rw[U]at K;have S:=qD V x.length Z 274 wZ (w.heap.size+1) w.heap.size (fZ x c)
     (fun s hs=>by have h1:=vH hG (s:Int);have h2:=(nB hG).2.2;unfold fZ;exact⟨by omega,by omega⟩)
     (fun s W' hs M=>N1 W' x c (.slice a x.length d) (w.heap.size+1) w.heap.size s hG (Y.keep M) (by have:(2:Nat)^x.length<=2^5:=Nat.pow_le_pow_right (by decide) Z;omega) (keep M (G2 0)) (keep M (G1 0)))
    have M:iT x c=aN x.length (bM (fZ x c) (2^x.length)):=by unfold iT;rw[hG];rfl
    have hN:dJ x c=if aN x.length (bM (fZ x c) (2^x.length)) then (x.length:Int) else 0:=by unfold dJ;rw[M]
    have hL:iU x c=if aN x.length (bM (fZ x c) (2^x.length)) then bM (fZ x c) (2^x.length) else []:=by unfold iU;rw[M]
    rw[<-hN,<-hL,<-M]at S;have a8:=Lib.hid S;clear R U A S M hN hL;go_enter Tryz.func163,Tryz.ntmps163;go_wp2_with fail;rw[<-F];clear F;refine I.out.mono ?_;rintro e w1 ⟨rfl,rfl⟩;go_wp2_with fail;refine K.out.mono ?_;rintro e w1 ⟨rfl,rfl⟩;go_wp2_with fail;refine a8.out.mono ?_;rintro e w4 ⟨p4,i4,q4,rfl,o4,b4⟩;have D:=D.keep b4;have B4:=B.after b4 B.size;have ro:=o4.lt;clear G3 F3;have G3:=D.cell;have F3:=D.frozen;go_wp2;refine aI ?_;intro Wf o;have z:aB Wf (w.heap.size+1+1) 32 #[.int .i64 (dJ x c),.slice p4 i4 q4]:=by
     rw[o];have:=(D.set 0 (.int .i64 (dJ x c))).set 1 (.slice p4 i4 q4);simpa using this
    have N:w4.grownBy Wf (some (w.heap.size+1+1)):=by rw[o];exact aA (aA (World.grownBy.refl _ _) 0 _) 1 _
    have O:Below w.heap.size w Wf:=B4.grown N B4.size (fun q L=>by have:=Option.some.inj L;omega);have of:=(o4.grow N (fun q L e=>by have:=Option.some.inj L;have:=(ro _ e).1;omega)).mono (B':=w.heap.size) B.size;have Q:=z.cell;clear o;exact bodyPost_ret (v:=.tuple #[.agg #[.int .i64 (dJ x c),.slice p4 i4 q4],.bool (iT x c)]) (by simp[results,Tryz.results163,go_sem,Q]) rfl ⟨p4,i4,q4,rfl,of,O⟩
 ·have a9:(5:Int)<(x.length:Int):=by omega
  have H:=Lib.hid (A (by unfold kU;rw[decide_eq_false Z];rfl));clear A;go_enter Tryz.func163,Tryz.ntmps163;go_wp2;rw[<-F];clear F;refine aI ?_;intro Wf o;have z:aB Wf (w.heap.size+1+1) 32 #[.int .i64 0,.slice none 0 0]:=by
   rw[o]
   first
    |exact D
    |(have:=(D.set 0 (.int .i64 0)).set 1 (.slice none 0 0);simpa using this)
  have N:V.grownBy Wf (some (w.heap.size+1+1)):=by
   rw[o]
   first
    |exact World.grownBy.refl _ _
    |exact aA (aA (World.grownBy.refl _ _) 0 _) 1 _
  have O:Below w.heap.size w Wf:=B.grown N B.size (fun q L=>by have:=Option.some.inj L;omega);have Q:=z.cell;clear o;exact bodyPost_ret (v:=.tuple #[.agg #[.int .i64 0,.slice none 0 0],.bool false]) (by simp[results,Tryz.results163,go_sem,Q]) rfl ⟨none,0,0,by rw[H.out.1,H.out.2.2],by rw[H.out.2.1];exact aC.nil _ _ _,O⟩
end
section
open Go.RowKit Go.G5
theorem VR(w:World)(v:Value)(x:List Int)(hv:aD w v x)(c:Int):
  Calls Tryz.prog 166 #[v,.int .i64 c] w fun e w'=>∃K i L,e=.returned (.tuple #[.agg #[.int .i64 (dJ x c),.slice K i L],.bool (iT x c)])/\aC 3 w.heap.size w' (.slice K i L) (iU x c)/\Below w.heap.size w w':=by
 have h0:=hv;obtain⟨a,b,k2,d,rfl,j0,b0,hc,hb⟩:=hv.view Tryz.prog 22 3 Tryz.underlying22 aG;have M:kU x c=false->dJ x c=0/\iU x c=[]/\iT x c=false:=fun h=>by
  have hb:iT x c=false:=by unfold iT;rw[h];rfl
  exact⟨by unfold dJ;rw[hb];rfl,by unfold iU;rw[hb];rfl,hb⟩
 obtain⟨I,hV⟩:∃V,V=w.alloc (.cells #[.int .i64 0,.slice none 0 0] 32):=⟨_,rfl⟩;have B:Below w.heap.size w I:=by rw[hV];exact aM _ _
 have z:aB I w.heap.size 32 #[.int .i64 0,.slice none 0 0]:=by rw[hV];exact aB.new _ _ _
 have G3:=z.cell;have F3:=z.frozen;have z3:=z.lt
 by_cases h5:x.length<=5
 ·have g5:¬(5:Int)<(x.length:Int):=by omega
  have a8:=Lib.hid (aR c (-1000) 1000 I);have b5:=aK hc hb B (Nat.le_refl _)
  cases hi:cM c (-1000) 1000 with
  |false=>
   have H:=Lib.hid (M (by unfold kU;rw[hi];simp));rw[hi]at a8;clear hi M hc b5 b0;go_enter Tryz.func166,Tryz.ntmps166;go_wp2_with fail;rw[<-hV];clear hV;refine a8.out.mono ?_;rintro e w1 ⟨rfl,rfl⟩;go_wp2;refine aI ?_;intro Wf o;have A:aB Wf w.heap.size 32 #[.int .i64 0,.slice none 0 0]:=by
    rw[o]
    first
     |exact z
     |(have:=(z.set 0 (.int .i64 0)).set 1 (.slice none 0 0);simpa using this)
   have Y:I.grownBy Wf (some w.heap.size):=by
    rw[o]
    first
     |exact World.grownBy.refl _ _
     |exact aA (aA (World.grownBy.refl _ _) 0 _) 1 _
   have Bf:Below w.heap.size w Wf:=B.grown Y B.size (fun q F=>by have:=Option.some.inj F;omega);have Gf:=A.cell;clear o;exact bodyPost_ret (v:=.tuple #[.agg #[.int .i64 0,.slice none 0 0],.bool false]) (by simp[results,Tryz.results166,go_sem,Gf]) rfl ⟨none,0,0,by rw[H.out.1,H.out.2.2],by rw[H.out.2.1];exact aC.nil _ _ _,Bf⟩
  |true=>
   rw[hi]at a8;have g2:=Lib.hid M;have HI:=Lib.hid hi;have f7:=Lib.hid b5;have f9:=Lib.hid b0;clear hi M hc b5 b0;go_enter Tryz.func166,Tryz.ntmps166;go_wp2_with fail;rw[<-hV];clear hV;refine a8.out.mono ?_;rintro e w1 ⟨rfl,rfl⟩;go_wp2_with fail;go_loop [6] (fun i=>∃k:Nat,k<=x.length/\i=.int .i64 k/\(x.take k).all (fun y=>cM y (-1000) 1000)=true) (fun i=>x.length-(intOf i).toNat)
   case atStart=>exact⟨0,Nat.zero_le _,rfl,by simp⟩
   case round=>
    obtain⟨k,hk,rfl,b3⟩:=hrel;have HA:=Lib.hid b3;clear b3
    by_cases hlt:k<x.length
    ·have U:(k:Int)<(x.length:Int):=by omega
     have ck:=f7.out k hlt;have ik:=fun W=>f9.out W k hlt;have c6:(x.take (k+1)).all (fun y=>cM y (-1000) 1000)=((x.take k).all (fun y=>cM y (-1000) 1000)&&cM x[k] (-1000) 1000):=dD _ _ _ hlt;have b7:cM x[k] (-1000) 1000=false->kU x c=false:=fun h=>by
      unfold kU dB;rw[gB (fun y=>cM y (-1000) 1000) x k hlt h];simp
     obtain⟨y,hy⟩:∃y,y=x[k]:=⟨_,rfl⟩;rw[<-hy]at ck c6 b7;have HT:=Lib.hid c6;have f8:=Lib.hid b7;have a9:=Lib.hid (aR y (-1000) 1000 I);clear c6 b7 hy
     cases O:cM y (-1000) 1000 with
     |false=>
      have H:=Lib.hid (g2.out (f8.out O));rw[O]at a9;clear O;go_wp2_with fail;refine a9.out.mono ?_;rintro e w1 ⟨rfl,rfl⟩;go_wp2;refine aI ?_;intro Wf o;have A:aB Wf w.heap.size 32 #[.int .i64 0,.slice none 0 0]:=by
       rw[o]
       first
        |exact z
        |(have:=(z.set 0 (.int .i64 0)).set 1 (.slice none 0 0);simpa using this)
      have Y:I.grownBy Wf (some w.heap.size):=by
       rw[o]
       first
        |exact World.grownBy.refl _ _
        |exact aA (aA (World.grownBy.refl _ _) 0 _) 1 _
      have Bf:Below w.heap.size w Wf:=B.grown Y B.size (fun q F=>by have:=Option.some.inj F;omega);have Gf:=A.cell;clear o;exact bodyPost_ret (v:=.tuple #[.agg #[.int .i64 0,.slice none 0 0],.bool false]) (by simp[results,Tryz.results166,go_sem,Gf]) rfl ⟨none,0,0,by rw[H.out.1,H.out.2.2],by rw[H.out.2.1];exact aC.nil _ _ _,Bf⟩
     |true=>
      have g4:=Lib.hid O;rw[O]at a9;clear O;go_wp2_with fail;refine a9.out.mono ?_;rintro e w1 ⟨rfl,rfl⟩;go_wp2;go_round
      case rel=>exact⟨k+1,by omega,by go_num,by rw[HT.out,HA.out,g4.out];rfl⟩
      case measure=>simp[intOf];omega
    ·have U:¬(k:Int)<(x.length:Int):=by omega
     have e4:dB x (-1000) 1000=true:=by unfold dB;rw[<-eH (fun y=>cM y (-1000) 1000) x k (by omega),HA.out]
     have hG:kU x c=true:=by unfold kU;rw[e4,HI.out,decide_eq_true h5];rfl
     have HG:=Lib.hid hG;have p5:=bJ x.length 5 h5;obtain⟨N,hN⟩:∃N:Nat,N=2^x.length:=⟨_,rfl⟩;have e0:(2:Int)^x.length=(N:Int):=by rw[hN];push_cast;rfl
     have HN:=Lib.hid hN;have d0:=Lib.hid e0;have HZ:=Lib.hid z3;clear e4 hG hN e0 G3 F3 HA;go_wp2_with fail;go_loopw [7,8] (fun vv i wr=>∃(t:Nat) (K:Option Addr) (Z L:Nat),t<=N/\i=.int .i64 t/\vv=.slice K Z L/\aC 3 I.heap.size wr (.slice K Z L) (bM (fZ x c) t)/\Below I.heap.size I wr) (fun _ i _=>N-(intOf i).toNat)
     case atStart=>exact⟨0,_,_,_,Nat.zero_le _,rfl,rfl,aC.lit0 I (Nat.le_refl _),aM _ _⟩
     case round=>
      obtain⟨t,K,Z,L,ht,rfl,rfl,ho,Bt⟩:=hrel;have h6:=(h0.below B (Nat.le_refl _)).keep Bt;have i7:N<=32:=by
       rw[HN.out];have:(2:Nat)^x.length<=2^5:=Nat.pow_le_pow_right (by decide) h5;omega
      have g8:(bM (fZ x c) t).length=t:=by unfold bM;simp
      by_cases hlt:t<N
      ·have U:(t:Int)<2^x.length:=by rw[d0.out];omega
       have h7:=vH HG.out (t:Int);have j9:=(nB HG.out).2.2;have e6:=(nB HG.out).2.1;have HW:=Lib.hid (fun W (h:aD W (.slice a x.length d) x)=>gS x (.slice a x.length d) (t:Int) W h (by omega) (by omega) (fun k hk=>by have:=e6 k hk;omega) (by omega));have c5:=nO (fZ x c) t;have b8:fZ x c t=c+wt x (t:Int):=rfl;obtain⟨q,F⟩:∃q,q=wt x (t:Int):=⟨_,rfl⟩;rw[<-F]at h7 b8;simp only[<-F]at HW;rw[b8]at c5;have g3:=Lib.hid c5;have S:(bM (fZ x c) t).length<17592186044415:=by omega
       have hy:bA (c+q):=⟨by omega,by omega⟩;have HY:=Lib.hid (And.intro S hy);have e5:=ho.lt;have HO:=Lib.hid ho;clear F b8 c5 e6 g8 S hy ho;go_wp2_with fail;refine(HW.out _ h6).mono ?_;rintro e w5 ⟨rfl,rfl⟩;go_wp2_with (at_builtin;refine eI rfl _ _ _ rfl 3 Tryz.underlying22 aG I.heap.size _ _ (c+q) wr.heap.size rfl rfl (aT _ _ _ 0 _ rfl) (HO.out.alloc _) HY.out.2 (by have:=HY.out.1;omega) (by have:=Bt.size;simp;omega) ?_;intro v' w6 b4 g7;obtain⟨av,nv,cv,rfl⟩:=b4.shape3);go_roundw
       case rel=>exact⟨t+1,av,nv,cv,by omega,by go_num,rfl,by rw[g3.out];exact b4,(Bt.alloc Bt.size _).grown g7 (Bt.alloc Bt.size _).size (fun q F=>(e5 q F).1)⟩
       case measure=>simp[intOf];omega
      ·have U:¬(t:Int)<2^x.length:=by rw[d0.out];omega
       have g9:t=N:=by omega
       subst g9;have hB:iT x c=aN x.length (bM (fZ x c) t):=by unfold iT;rw[HG.out,HN.out];rfl
       have z:=z.keep Bt;have B:=B.after Bt B.size;have z3:=z.lt
       cases hf:aN x.length (bM (fZ x c) t) with
       |false=>
        have D:iT x c=false:=by rw[hB,hf]
        have R:dJ x c=0:=by unfold dJ;rw[D];rfl
        have Q:iU x c=[]:=by unfold iU;rw[D];rfl
        have H:=Lib.hid (And.intro R (And.intro Q D));have HM:=Lib.hid (EI wr (x.length:Int) K Z L _ ho.ints hf);clear D R Q hf hB;go_wp2_with fail;refine HM.out.mono ?_;rintro e w6 ⟨rfl,b6⟩;have z:=z.keep b6;have B:=B.after b6 B.size;have z3:=z.lt;obtain⟨I,rfl⟩:∃I:World,I=w6:=⟨_,rfl⟩;have F3:=z.frozen;have G3:=z.cell;go_wp2;refine aI ?_;intro Wf o;have A:aB Wf w.heap.size 32 #[.int .i64 0,.slice none 0 0]:=by
         rw[o];have:=((z.set 0 (.int .i64 0)).set 1 (.slice none 0 0)).alloc (.cells #[.int .i64 0,.slice none 0 0] 32);simpa using this
        have Y:I.grownBy Wf (some w.heap.size):=by rw[o];exact cN (aA (aA (World.grownBy.refl _ _) 0 _) 1 _) (dI _ (aM _ _))
        have Bf:Below w.heap.size w Wf:=B.grown Y B.size (fun q F=>by have:=Option.some.inj F;omega);have Gf:=A.cell;clear o;exact bodyPost_ret (v:=.tuple #[.agg #[.int .i64 0,.slice none 0 0],.bool false]) (by simp[results,Tryz.results166,go_sem,Gf]) rfl ⟨none,0,0,by rw[H.out.1,H.out.2.2],by rw[H.out.2.1];exact aC.nil _ _ _,Bf⟩
       |true=>
        have D:iT x c=true:=by rw[hB,hf]
        have R:dJ x c=(x.length:Int):=by unfold dJ;rw[D];rfl
        have Q:iU x c=bM (fZ x c) t:=by unfold iU;rw[D,if_pos rfl,HN.out]
        have H:=Lib.hid (And.intro R (And.intro Q D));have HM:=Lib.hid (uL wr (x.length:Int) K Z L _ ho.ints hf);have zb:=Bt.size;have zw:=B.size;clear D R Q hf hB;go_wp2_with fail;refine HM.out.mono ?_;rintro e w6 ⟨rfl,b6⟩;have z:=z.keep b6;have B:=B.after b6 B.size;have z3:=z.lt;have o6:=ho.keep b6;have ro:=ho.lt;have F3:=z.frozen;have G3:=z.cell;go_wp2;refine aI ?_;intro Wf o;have A:aB Wf w.heap.size 32 #[.int .i64 (x.length:Int),.slice K Z L]:=by
         rw[o];have:=((z.set 0 (.int .i64 (x.length:Int))).set 1 (.slice K Z L)).alloc (.cells #[.int .i64 (x.length:Int),.slice K Z L] 32);simpa using this
        have Y:w6.grownBy Wf (some w.heap.size):=by rw[o];exact cN (aA (aA (World.grownBy.refl _ _) 0 _) 1 _) (dI _ (aM _ _))
        have Bf:Below w.heap.size w Wf:=B.grown Y B.size (fun q F=>by have:=Option.some.inj F;omega);have k4:w.heap.size<I.heap.size:=HZ.out;have of:=(o6.grow Y (fun q F e=>by have:=Option.some.inj F;have:=(ro _ e).1;omega)).mono (B':=w.heap.size) (by omega);have Gf:=A.cell;clear o;exact bodyPost_ret (v:=.tuple #[.agg #[.int .i64 (x.length:Int),.slice K Z L],.bool true]) (by simp[results,Tryz.results166,go_sem,Gf]) rfl ⟨K,Z,L,by rw[H.out.1,H.out.2.2],by rw[H.out.2.1];exact of,Bf⟩
 ·have g5:(5:Int)<(x.length:Int):=by omega
  have H:=Lib.hid (M (by unfold kU;rw[decide_eq_false h5];rfl));clear M hc b0;go_enter Tryz.func166,Tryz.ntmps166;go_wp2;rw[<-hV];clear hV;refine aI ?_;intro Wf o;have A:aB Wf w.heap.size 32 #[.int .i64 0,.slice none 0 0]:=by
   rw[o]
   first
    |exact z
    |(have:=(z.set 0 (.int .i64 0)).set 1 (.slice none 0 0);simpa using this)
  have Y:I.grownBy Wf (some w.heap.size):=by
   rw[o]
   first
    |exact World.grownBy.refl _ _
    |exact aA (aA (World.grownBy.refl _ _) 0 _) 1 _
  have Bf:Below w.heap.size w Wf:=B.grown Y B.size (fun q F=>by have:=Option.some.inj F;omega);have Gf:=A.cell;clear o;exact bodyPost_ret (v:=.tuple #[.agg #[.int .i64 0,.slice none 0 0],.bool false]) (by simp[results,Tryz.results166,go_sem,Gf]) rfl ⟨none,0,0,by rw[H.out.1,H.out.2.2],by rw[H.out.2.1];exact aC.nil _ _ _,Bf⟩
end
end Go.Proofs.YtipejodijbjpcaaGreatDoor
