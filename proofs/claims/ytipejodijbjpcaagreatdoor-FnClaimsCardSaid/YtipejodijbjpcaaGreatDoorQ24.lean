/- Lemmas for CardClaims, part 24 of 52. No condition. -/
import Derived.Test.YtipejodijbjpcaaGreatDoorQ16
import Derived.Test.YtipejodijbjpcaaGreatDoorQ22
import Derived.Test.YtipejodijbjpcaaGreatDoorQ23
set_option maxRecDepth 100000
set_option maxHeartbeats 64000000
namespace Go.Proofs.YtipejodijbjpcaaGreatDoor
section
open Go.RowKit Go.G5
def lI(n:Int)(l x:List Int):Bool:=iT x 0&&eT n l x
def mL(n:Int)(l x:List Int):Int:=if lI n l x then 3 else 0
def mM(n:Int)(l x:List Int):Int:=if lI n l x then n else 0
def lT(n:Int)(l x:List Int):List Int:=if lI n l x then l else []
def mJ(n:Int)(l x:List Int):Int:=if lI n l x then dJ x 0 else 0
def lP(n:Int)(l x:List Int):List Int:=if lI n l x then iU x 0 else []
def mK(n:Int)(l x:List Int):Int:=if lI n l x then kO n l x else 0
def lO(n:Int)(l x:List Int):List Int:=if lI n l x then jE n l x else []
theorem CG(n:Int)(l x:List Int)(h:l.length<=1048576):(lT n l x).length<=1048576:=by unfold lT;split<;>simp_all
theorem CH(n:Int)(l x:List Int):(lP n l x).length<=1048576:=by
 unfold lP iU
 split
 ·rename_i h
  split
  ·rename_i h2
   have h3:kU x 0=true:=by unfold iT at h2;exact(Bool.and_eq_true_iff.1 h2).1
   have:=(nB h3).1;have:=Nat.pow_le_pow_right (show 1<=2 by decide) this;simp only[bM,List.length_map,List.length_range];omega
  ·simp
 ·simp
theorem CJ(n:Int)(l x:List Int):(lO n l x).length<=1048576:=by
 unfold lO jE
 split
 ·split
  ·rename_i h
   have:=(ID h).1;have:=(oN h).1;omega
  ·simp
 ·simp
theorem vC{w w':World}{row:Option Nat}(h:w.grownBy w' row)(o:Obj):w.grownBy (w'.alloc o) row:=cN h (dI row (aM w' o))
theorem IX(w:World)(n:Int)(v:Value)(l:List Int)(hv:aD w v l)(hl:l.length<=1048576)(u:Value)(x:List Int)(hu:aD w u x)(_:x.length<=1048576):
  Calls Tryz.prog 40 #[.agg #[.int .i64 n,v],u] w fun e w'=>∃p0 i0 q0 I F K p2 i2 S p3 i3 q3,e=.returned (.tuple #[.agg #[.int .i64 (mL n l x),.int .i64 (mM n l x),.slice p0 i0 q0,.int .i64 (mJ n l x),.slice I F K,.int .i64 0,.slice p2 i2 S,.int .i64 (mK n l x),.int .i64 0,.slice p3 i3 q3],.bool (lI n l x)])/\aL 3 w.heap.size w' (.slice p0 i0 q0) (lT n l x)/\aL 3 w.heap.size w' (.slice I F K) (lP n l x)/\aL 3 w.heap.size w' (.slice p2 i2 S) []/\aL 3 w.heap.size w' (.slice p3 i3 q3) (lO n l x)/\(aF (.slice p0 i0 q0) (.slice I F K)/\aF (.slice p0 i0 q0) (.slice p2 i2 S)/\aF (.slice p0 i0 q0) (.slice p3 i3 q3)/\aF (.slice I F K) (.slice p2 i2 S)/\aF (.slice I F K) (.slice p3 i3 q3)/\aF (.slice p2 i2 S) (.slice p3 i3 q3))/\Below w.heap.size w w':=by
 obtain⟨a,c,rfl⟩:=hv.shape;obtain⟨b,d,rfl⟩:=hu.shape;go_enter Tryz.func40,Tryz.ntmps40;go_wp2_with fail;refine aH ?_;intro V hV;have B:Below w.heap.size w V:=by rw[hV];exact cD _ _ _
 have K1:aB V w.heap.size 32 #[.int .i64 n,.slice a l.length c]:=by rw[hV];exact(aB.new _ _ _).alloc _
 have D:aB V (w.heap.size+1) 49 #[.int .i64 0,.int .i64 0,.slice none 0 0,.int .i64 0,.slice none 0 0,.int .i64 0,.slice none 0 0,.int .i64 0,.int .i64 0,.slice none 0 0]:=by rw[hV];have:=aB.new (w.alloc (.cells #[.int .i64 n,.slice a l.length c] 32)) 49 #[.int .i64 0,.int .i64 0,.slice none 0 0,.int .i64 0,.slice none 0 0,.int .i64 0,.slice none 0 0,.int .i64 0,.int .i64 0,.slice none 0 0];simpa using this
 clear hV;refine(XA V _ x (hu.below B (Nat.le_refl _)) 0).mono ?_;rintro e wm ⟨I,F,K,rfl,o1,b1⟩;have z3:=D.lt;have h8:w.heap.size+1+1<=V.heap.size:=z3;have K1:=K1.keep b1;have D:=D.keep b1;have B:=B.after b1 B.size;have j8:=o1;have o1:=o1.mono (B':=w.heap.size+1+1) (by omega);have y3:=D.lt;have G1:=(K1.alloc (.cells #[.int .i64 (dJ x 0),.slice I F K] 32)).cell;go_wp2_with fail;clear G1;refine aH ?_;intro V2 b6;have K2:aB V2 wm.heap.size 32 #[.int .i64 (dJ x 0),.slice I F K]:=by
  rw[b6];exact aB.new _ _ _
 have b2:Below wm.heap.size wm V2:=by
  rw[b6];exact aM wm _
 have K1:=K1.keep b2;have D:=D.keep b2;have B:=B.after b2 B.size;have o1:=o1.keep b2;obtain⟨g2,b7⟩:∃g,g=wm.heap.size:=⟨_,rfl⟩;rw[<-b7]at K2;clear b6;simp only[<-b7];clear b7;refine(FA V2 n _ l (hv.below B (Nat.le_refl _)) hl _ x (hu.below B (Nat.le_refl _))).mono ?_;rintro e wl ⟨p2,i2,S,rfl,o2,b3⟩;have K1:=K1.keep b3;have K2:=K2.keep b3;have D:=D.keep b3;have B:=B.after b3 B.size;have e5:aF (.slice I F K) (.slice p2 i2 S):=aF.of_lt o1.toW o2.toW (Nat.le_refl _);have o1:=o1.keep b3;have o2:=o2.mono (B':=w.heap.size+1+1) (by have:=b2.size;omega);have z3:=D.lt;have h8:w.heap.size+1<wl.heap.size:=z3
 cases hm:iT x 0 with
 |false=>
  have z:lI n l x=false:=by unfold lI;rw[hm];rfl
  clear hm;have N:mL n l x=0:=by unfold mL;rw[z];rfl
  have L:mM n l x=0:=by unfold mM;rw[z];rfl
  have O:lT n l x=[]:=by unfold lT;rw[z];rfl
  have o:mJ n l x=0:=by unfold mJ;rw[z];rfl
  have Q:lP n l x=[]:=by unfold lP;rw[z];rfl
  have R:mK n l x=0:=by unfold mK;rw[z];rfl
  have M:lO n l x=[]:=by unfold lO;rw[z];rfl
  have H:=Lib.hid (And.intro N (And.intro L (And.intro O (And.intro o (And.intro Q (And.intro R M))))));have HB:=Lib.hid z;clear N L O o Q R M z;have G3:=D.cell;have F3:=D.frozen;go_wp2;refine aI ?_;intro Wf A;have U:aB Wf (w.heap.size+1) 49 #[.int .i64 0,.int .i64 0,.slice none 0 0,.int .i64 0,.slice none 0 0,.int .i64 0,.slice none 0 0,.int .i64 0,.int .i64 0,.slice none 0 0]:=by
   rw[A];have:=(((((((((D.set 0 (.int .i64 0)).set 1 (.int .i64 0)).set 2 (.slice none 0 0)).set 3 (.int .i64 0)).set 4 (.slice none 0 0)).set 5 (.int .i64 0)).set 6 (.slice none 0 0)).set 7 (.int .i64 0)).set 8 (.int .i64 0)).set 9 (.slice none 0 0);simpa using this
  have hg:wl.grownBy Wf (some (w.heap.size+1)):=by
   rw[A];exact(aA (aA (aA (aA (aA (aA (aA (aA (aA (aA (World.grownBy.refl _ _) 0 _) 1 _) 2 _) 3 _) 4 _) 5 _) 6 _) 7 _) 8 _) 9 _)
  have Bf:Below w.heap.size w Wf:=B.grown hg B.size (fun q Y=>by have:=Option.some.inj Y;omega);have Gf:=U.cell;clear A G3 F3;obtain⟨N,L,O,o,Q,R,M⟩:=H.out;exact bodyPost_ret (v:=.tuple #[.agg #[.int .i64 0,.int .i64 0,.slice none 0 0,.int .i64 0,.slice none 0 0,.int .i64 0,.slice none 0 0,.int .i64 0,.int .i64 0,.slice none 0 0],.bool false]) (by simp[results,Tryz.results40,go_sem,Gf]) rfl
   ⟨none,0,0,none,0,0,none,0,0,none,0,0,by rw[N,L,o,R,HB.out],by rw[O];exact aL.nil _ _ _,by rw[Q];exact aL.nil _ _ _,aL.nil _ _ _,by rw[M];exact aL.nil _ _ _,
    ⟨aF.nil _ _ _,aF.nil _ _ _,aF.nil _ _ _,aF.nil _ _ _,aF.nil _ _ _,aF.nil _ _ _⟩,Bf⟩
 |true=>
  cases ho:eT n l x with
  |false=>
   have z:lI n l x=false:=by unfold lI;rw[hm,ho];rfl
   clear hm ho;have N:mL n l x=0:=by unfold mL;rw[z];rfl
   have L:mM n l x=0:=by unfold mM;rw[z];rfl
   have O:lT n l x=[]:=by unfold lT;rw[z];rfl
   have o:mJ n l x=0:=by unfold mJ;rw[z];rfl
   have Q:lP n l x=[]:=by unfold lP;rw[z];rfl
   have R:mK n l x=0:=by unfold mK;rw[z];rfl
   have M:lO n l x=[]:=by unfold lO;rw[z];rfl
   have H:=Lib.hid (And.intro N (And.intro L (And.intro O (And.intro o (And.intro Q (And.intro R M))))));have HB:=Lib.hid z;clear N L O o Q R M z;have G3:=D.cell;have F3:=D.frozen;go_wp2;refine aI ?_;intro Wf A;have U:aB Wf (w.heap.size+1) 49 #[.int .i64 0,.int .i64 0,.slice none 0 0,.int .i64 0,.slice none 0 0,.int .i64 0,.slice none 0 0,.int .i64 0,.int .i64 0,.slice none 0 0]:=by
    rw[A];have:=(((((((((D.set 0 (.int .i64 0)).set 1 (.int .i64 0)).set 2 (.slice none 0 0)).set 3 (.int .i64 0)).set 4 (.slice none 0 0)).set 5 (.int .i64 0)).set 6 (.slice none 0 0)).set 7 (.int .i64 0)).set 8 (.int .i64 0)).set 9 (.slice none 0 0);simpa using this
   have hg:wl.grownBy Wf (some (w.heap.size+1)):=by
    rw[A];exact(aA (aA (aA (aA (aA (aA (aA (aA (aA (aA (World.grownBy.refl _ _) 0 _) 1 _) 2 _) 3 _) 4 _) 5 _) 6 _) 7 _) 8 _) 9 _)
   have Bf:Below w.heap.size w Wf:=B.grown hg B.size (fun q Y=>by have:=Option.some.inj Y;omega);have Gf:=U.cell;clear A G3 F3;obtain⟨N,L,O,o,Q,R,M⟩:=H.out;exact bodyPost_ret (v:=.tuple #[.agg #[.int .i64 0,.int .i64 0,.slice none 0 0,.int .i64 0,.slice none 0 0,.int .i64 0,.slice none 0 0,.int .i64 0,.int .i64 0,.slice none 0 0],.bool false]) (by simp[results,Tryz.results40,go_sem,Gf]) rfl
    ⟨none,0,0,none,0,0,none,0,0,none,0,0,by rw[N,L,o,R,HB.out],by rw[O];exact aL.nil _ _ _,by rw[Q];exact aL.nil _ _ _,aL.nil _ _ _,by rw[M];exact aL.nil _ _ _,
     ⟨aF.nil _ _ _,aF.nil _ _ _,aF.nil _ _ _,aF.nil _ _ _,aF.nil _ _ _,aF.nil _ _ _⟩,Bf⟩
  |true=>
   have z:lI n l x=true:=by unfold lI;rw[hm,ho];rfl
   clear hm ho;have N:mL n l x=3:=by unfold mL;rw[z];rfl
   have L:mM n l x=n:=by unfold mM;rw[z];rfl
   have O:lT n l x=l:=by unfold lT;rw[z];rfl
   have o:mJ n l x=dJ x 0:=by unfold mJ;rw[z];rfl
   have Q:lP n l x=iU x 0:=by unfold lP;rw[z];rfl
   have R:mK n l x=kO n l x:=by unfold mK;rw[z];rfl
   have M:lO n l x=jE n l x:=by unfold lO;rw[z];rfl
   have H:=Lib.hid (And.intro N (And.intro L (And.intro O (And.intro o (And.intro Q (And.intro R M))))));have HB:=Lib.hid z;have h0:=hv.below B (Nat.le_refl _);have h5:aD wl.drew (.slice a l.length c) l:=h0.keep (Below.refl _ _).drew;have g1:=Lib.hid (lB wl.drew n (.slice a l.length c) l h5 hl);have e0:aB wl.drew g2 32 #[.int .i64 (dJ x 0),.slice I F K]:=K2;have e4:aB wl.drew (w.heap.size+1) 49 #[.int .i64 0,.int .i64 0,.slice none 0 0,.int .i64 0,.slice none 0 0,.int .i64 0,.slice none 0 0,.int .i64 0,.int .i64 0,.slice none 0 0]:=D;have Bd:Below w.heap.size w wl.drew:=B.drew;have zd:w.heap.size+1<wl.drew.heap.size:=e4.lt;obtain⟨P,b4⟩:∃q,q=kO n l x:=⟨_,rfl⟩;obtain⟨C,a6⟩:∃q,q=dJ x 0:=⟨_,rfl⟩;have g4:=Lib.hid b4;have g3:=Lib.hid a6;simp only[<-b4,<-a6];rw[<-a6]at K2 e0;clear N L O o Q R M z b4 a6;have G1:=K1.cell;have G2:=K2.cell;go_wp2_with fail;go_region_law
    (go_simp;go_at_call 134;with_reducible refine g1.out.mono ?_;rintro e w5 ⟨p5,i5,q5,rfl,o5,b5⟩;have g5:=e0.keep b5;have b0:=e4.keep b5;have j3:=g5.cell;have j4:=b0.cell;have j2:=b0.frozen)
   all_goals
    have B5:=Bd.after b5 Bd.size;have y5:=b5.size;have x5:=o5.toW.mono (B':=w.heap.size+1+1) (by omega);have x1:aL 3 (w.heap.size+1+1) w5 (.slice I F K) (iU x 0):=(o1.drewN 1).toW.keep b5;have x2:aL 3 (w.heap.size+1+1) w5 (.slice p2 i2 S) (jE n l x):=(o2.drewN 1).toW.keep b5;have e6:aF (.slice p5 i5 q5) (.slice I F K):=(aF.of_lt (o1.drewN 1).toW o5.toW (Nat.le_refl _)).symm;have e7:aF (.slice p5 i5 q5) (.slice p2 i2 S):=(aF.of_lt (o2.drewN 1).toW o5.toW (Nat.le_refl _)).symm;go_wp2;refine aI ?_;intro Wf A;have U:aB Wf (w.heap.size+1) 49 #[.int .i64 3,.int .i64 n,.slice p5 i5 q5,.int .i64 C,.slice I F K,.int .i64 0,.slice none 0 0,.int .i64 P,.int .i64 0,.slice p2 i2 S]:=by
     rw[A];have:=(((((((((b0.set 0 (.int .i64 3)).set 1 (.int .i64 n)).set 2 (.slice p5 i5 q5)).set 3 (.int .i64 C)).set 4 (.slice I F K)).set 5 (.int .i64 0)).set 6 (.slice none 0 0)).set 7 (.int .i64 P)).set 8 (.int .i64 0)).set 9 (.slice p2 i2 S);simpa using this
    have hg:w5.grownBy Wf (some (w.heap.size+1)):=by
     rw[A];exact(aA (aA (aA (aA (aA (aA (aA (aA (aA (aA (World.grownBy.refl _ _) 0 _) 1 _) 2 _) 3 _) 4 _) 5 _) 6 _) 7 _) 8 _) 9 _)
    have Bf:Below w.heap.size w Wf:=B5.grown hg B5.size (fun q Y=>by have:=Option.some.inj Y;omega);have f5:=(x5.grow hg (fun q Y Z=>by have:=Option.some.inj Y;have:=(x5.lt q Z).1;omega)).mono (B':=w.heap.size) (by omega);have f1:=(x1.grow hg (fun q Y Z=>by have:=Option.some.inj Y;have:=(x1.lt q Z).1;omega)).mono (B':=w.heap.size) (by omega);have f2:=(x2.grow hg (fun q Y Z=>by have:=Option.some.inj Y;have:=(x2.lt q Z).1;omega)).mono (B':=w.heap.size) (by omega);have Gf:=U.cell;clear A;obtain⟨N,L,O,o,Q,R,M⟩:=H.out;exact bodyPost_ret (v:=.tuple #[.agg #[.int .i64 3,.int .i64 n,.slice p5 i5 q5,.int .i64 C,.slice I F K,.int .i64 0,.slice none 0 0,.int .i64 P,.int .i64 0,.slice p2 i2 S],.bool true]) (by simp[results,Tryz.results40,go_sem,Gf]) rfl
     ⟨p5,i5,q5,I,F,K,none,0,0,p2,i2,S,by rw[N,L,o,R,<-g4.out,<-g3.out,HB.out],by rw[O];exact f5,by rw[Q];exact f1,aL.nil _ _ _,by rw[M];exact f2,
      ⟨e6,(aF.nil _ _ _).symm,e7,(aF.nil _ _ _).symm,e5,aF.nil _ _ _⟩,Bf⟩
theorem wE(w:World)(n:Int)(v:Value)(l:List Int)(hv:aD w v l)(hl:l.length<=1048576)(u:Value)(x:List Int)(hu:aD w u x)(_:x.length<=1048576):
  Calls Tryz.prog 41 #[.agg #[.int .i64 n,v],u] w fun e w'=>∃p0 i0 q0 F D I p2 i2 Z p3 i3 q3,e=.returned (.tuple #[.agg #[.int .i64 (mL n l x),.int .i64 (mM n l x),.slice p0 i0 q0,.int .i64 (mJ n l x),.slice F D I,.int .i64 0,.slice p2 i2 Z,.int .i64 (mK n l x),.int .i64 0,.slice p3 i3 q3],.bool (lI n l x)])/\aL 3 w.heap.size w' (.slice p0 i0 q0) (lT n l x)/\aL 3 w.heap.size w' (.slice F D I) (lP n l x)/\aL 3 w.heap.size w' (.slice p2 i2 Z) []/\aL 3 w.heap.size w' (.slice p3 i3 q3) (lO n l x)/\(aF (.slice p0 i0 q0) (.slice F D I)/\aF (.slice p0 i0 q0) (.slice p2 i2 Z)/\aF (.slice p0 i0 q0) (.slice p3 i3 q3)/\aF (.slice F D I) (.slice p2 i2 Z)/\aF (.slice F D I) (.slice p3 i3 q3)/\aF (.slice p2 i2 Z) (.slice p3 i3 q3))/\Below w.heap.size w w':=by
 obtain⟨a,c,rfl⟩:=hv.shape;obtain⟨b,d,rfl⟩:=hu.shape;go_enter Tryz.func41,Tryz.ntmps41;go_wp2_with fail;refine aH ?_;intro V hV;have B:Below w.heap.size w V:=by rw[hV];exact cD _ _ _
 have K1:aB V w.heap.size 32 #[.int .i64 n,.slice a l.length c]:=by rw[hV];exact(aB.new _ _ _).alloc _
 have K3:aB V (w.heap.size+1) 49 #[.int .i64 0,.int .i64 0,.slice none 0 0,.int .i64 0,.slice none 0 0,.int .i64 0,.slice none 0 0,.int .i64 0,.int .i64 0,.slice none 0 0]:=by rw[hV];have:=aB.new (w.alloc (.cells #[.int .i64 n,.slice a l.length c] 32)) 49 #[.int .i64 0,.int .i64 0,.slice none 0 0,.int .i64 0,.slice none 0 0,.int .i64 0,.slice none 0 0,.int .i64 0,.int .i64 0,.slice none 0 0];simpa using this
 clear hV;refine(E9 V n _ l (hv.below B (Nat.le_refl _)) hl _ x (hu.below B (Nat.le_refl _))).mono ?_;rintro e wx ⟨p2,i2,Z,rfl,o2,b3⟩;have z3:=K3.lt;have K1:=K1.keep b3;have K3:=K3.keep b3;have B:=B.after b3 B.size;have o2:=o2.mono (B':=w.heap.size+1+1) z3;have G1:=K1.cell;go_wp2_with fail;clear G1;refine(VR wx _ x (hu.below B (Nat.le_refl _)) 0).mono ?_;rintro e S ⟨F,D,I,rfl,o1,b1⟩;have z3:=K3.lt;have h0:w.heap.size+1+1<=wx.heap.size:=z3;have K1:=K1.keep b1;have K3:=K3.keep b1;have B:=B.after b1 B.size;have g7:=o1;have o1:=o1.mono (B':=w.heap.size+1+1) (by omega);have y3:=K3.lt;have e6:aF (.slice F D I) (.slice p2 i2 Z):=(aF.of_lt o2.toW g7.toW (Nat.le_refl _)).symm;have o2:=o2.keep b1;obtain⟨g2,a8⟩:∃g,g=S.heap.size:=⟨_,rfl⟩;have K:=K3;have Bw:=B;have K2:aB (S.alloc (.cells #[.int .i64 (dJ x 0),.slice F D I] 32)) S.heap.size 32 #[.int .i64 (dJ x 0),.slice F D I]:=aB.new _ _ _;have b2:Below S.heap.size S (S.alloc (.cells #[.int .i64 (dJ x 0),.slice F D I] 32)):=aM S _;have K1:=K1.keep b2;have K3:=K3.keep b2;have B:=B.after b2 B.size;have o1:=o1.keep b2;have o2:=o2.keep b2;have z3:=K3.lt;have h0:w.heap.size+1<(S.alloc (.cells #[.int .i64 (dJ x 0),.slice F D I] 32)).heap.size:=z3;clear a8;obtain⟨g2,a8⟩:∃g,g=S.heap.size:=⟨_,rfl⟩;rw[<-a8]at K2
 cases hm:iT x 0 with
 |false=>
  have z:lI n l x=false:=by unfold lI;rw[hm];rfl
  clear hm
  cases ho:eT n l x with
  |false=>
   clear ho;have N:mL n l x=0:=by unfold mL;rw[z];rfl
   have L:mM n l x=0:=by unfold mM;rw[z];rfl
   have O:lT n l x=[]:=by unfold lT;rw[z];rfl
   have o:mJ n l x=0:=by unfold mJ;rw[z];rfl
   have Q:lP n l x=[]:=by unfold lP;rw[z];rfl
   have R:mK n l x=0:=by unfold mK;rw[z];rfl
   have M:lO n l x=[]:=by unfold lO;rw[z];rfl
   have H:=Lib.hid (And.intro N (And.intro L (And.intro O (And.intro o (And.intro Q (And.intro R M))))));have HB:=Lib.hid z;clear N L O o Q R M z;have G3:=K.cell;have F3:=K.frozen;go_wp2;refine aI ?_;intro Wf A;have U:aB Wf (w.heap.size+1) 49 #[.int .i64 0,.int .i64 0,.slice none 0 0,.int .i64 0,.slice none 0 0,.int .i64 0,.slice none 0 0,.int .i64 0,.int .i64 0,.slice none 0 0]:=by
    rw[A];have:=(((((((((K.set 0 (.int .i64 0)).set 1 (.int .i64 0)).set 2 (.slice none 0 0)).set 3 (.int .i64 0)).set 4 (.slice none 0 0)).set 5 (.int .i64 0)).set 6 (.slice none 0 0)).set 7 (.int .i64 0)).set 8 (.int .i64 0)).set 9 (.slice none 0 0);simpa using this.alloc (.cells #[.int .i64 (dJ x 0),.slice F D I] 32)
   have hg:S.grownBy Wf (some (w.heap.size+1)):=by
    rw[A];exact vC (aA (aA (aA (aA (aA (aA (aA (aA (aA (aA (World.grownBy.refl _ _) 0 _) 1 _) 2 _) 3 _) 4 _) 5 _) 6 _) 7 _) 8 _) 9 _) _
   have Bf:Below w.heap.size w Wf:=Bw.grown hg Bw.size (fun q Y=>by have:=Option.some.inj Y;omega);have Gf:=U.cell;clear A G3 F3;obtain⟨N,L,O,o,Q,R,M⟩:=H.out;exact bodyPost_ret (v:=.tuple #[.agg #[.int .i64 0,.int .i64 0,.slice none 0 0,.int .i64 0,.slice none 0 0,.int .i64 0,.slice none 0 0,.int .i64 0,.int .i64 0,.slice none 0 0],.bool false]) (by simp[results,Tryz.results41,go_sem,Gf]) rfl
    ⟨none,0,0,none,0,0,none,0,0,none,0,0,by rw[N,L,o,R,HB.out],by rw[O];exact aL.nil _ _ _,by rw[Q];exact aL.nil _ _ _,aL.nil _ _ _,by rw[M];exact aL.nil _ _ _,
     ⟨aF.nil _ _ _,aF.nil _ _ _,aF.nil _ _ _,aF.nil _ _ _,aF.nil _ _ _,aF.nil _ _ _⟩,Bf⟩
  |true=>
   clear ho;have N:mL n l x=0:=by unfold mL;rw[z];rfl
   have L:mM n l x=0:=by unfold mM;rw[z];rfl
   have O:lT n l x=[]:=by unfold lT;rw[z];rfl
   have o:mJ n l x=0:=by unfold mJ;rw[z];rfl
   have Q:lP n l x=[]:=by unfold lP;rw[z];rfl
   have R:mK n l x=0:=by unfold mK;rw[z];rfl
   have M:lO n l x=[]:=by unfold lO;rw[z];rfl
   have H:=Lib.hid (And.intro N (And.intro L (And.intro O (And.intro o (And.intro Q (And.intro R M))))));have HB:=Lib.hid z;clear N L O o Q R M z;have G3:=K.cell;have F3:=K.frozen;go_wp2;refine aI ?_;intro Wf A;have U:aB Wf (w.heap.size+1) 49 #[.int .i64 0,.int .i64 0,.slice none 0 0,.int .i64 0,.slice none 0 0,.int .i64 0,.slice none 0 0,.int .i64 0,.int .i64 0,.slice none 0 0]:=by
    rw[A];have:=(((((((((K.set 0 (.int .i64 0)).set 1 (.int .i64 0)).set 2 (.slice none 0 0)).set 3 (.int .i64 0)).set 4 (.slice none 0 0)).set 5 (.int .i64 0)).set 6 (.slice none 0 0)).set 7 (.int .i64 0)).set 8 (.int .i64 0)).set 9 (.slice none 0 0);simpa using this.alloc (.cells #[.int .i64 (dJ x 0),.slice F D I] 32)
   have hg:S.grownBy Wf (some (w.heap.size+1)):=by
    rw[A];exact vC (aA (aA (aA (aA (aA (aA (aA (aA (aA (aA (World.grownBy.refl _ _) 0 _) 1 _) 2 _) 3 _) 4 _) 5 _) 6 _) 7 _) 8 _) 9 _) _
   have Bf:Below w.heap.size w Wf:=Bw.grown hg Bw.size (fun q Y=>by have:=Option.some.inj Y;omega);have Gf:=U.cell;clear A G3 F3;obtain⟨N,L,O,o,Q,R,M⟩:=H.out;exact bodyPost_ret (v:=.tuple #[.agg #[.int .i64 0,.int .i64 0,.slice none 0 0,.int .i64 0,.slice none 0 0,.int .i64 0,.slice none 0 0,.int .i64 0,.int .i64 0,.slice none 0 0],.bool false]) (by simp[results,Tryz.results41,go_sem,Gf]) rfl
    ⟨none,0,0,none,0,0,none,0,0,none,0,0,by rw[N,L,o,R,HB.out],by rw[O];exact aL.nil _ _ _,by rw[Q];exact aL.nil _ _ _,aL.nil _ _ _,by rw[M];exact aL.nil _ _ _,
     ⟨aF.nil _ _ _,aF.nil _ _ _,aF.nil _ _ _,aF.nil _ _ _,aF.nil _ _ _,aF.nil _ _ _⟩,Bf⟩
 |true=>
  cases ho:eT n l x with
  |false=>
   have z:lI n l x=false:=by unfold lI;rw[hm,ho];rfl
   clear hm ho;have N:mL n l x=0:=by unfold mL;rw[z];rfl
   have L:mM n l x=0:=by unfold mM;rw[z];rfl
   have O:lT n l x=[]:=by unfold lT;rw[z];rfl
   have o:mJ n l x=0:=by unfold mJ;rw[z];rfl
   have Q:lP n l x=[]:=by unfold lP;rw[z];rfl
   have R:mK n l x=0:=by unfold mK;rw[z];rfl
   have M:lO n l x=[]:=by unfold lO;rw[z];rfl
   have H:=Lib.hid (And.intro N (And.intro L (And.intro O (And.intro o (And.intro Q (And.intro R M))))));have HB:=Lib.hid z;clear N L O o Q R M z;have G3:=K.cell;have F3:=K.frozen;go_wp2;refine aI ?_;intro Wf A;have U:aB Wf (w.heap.size+1) 49 #[.int .i64 0,.int .i64 0,.slice none 0 0,.int .i64 0,.slice none 0 0,.int .i64 0,.slice none 0 0,.int .i64 0,.int .i64 0,.slice none 0 0]:=by
    rw[A];have:=(((((((((K.set 0 (.int .i64 0)).set 1 (.int .i64 0)).set 2 (.slice none 0 0)).set 3 (.int .i64 0)).set 4 (.slice none 0 0)).set 5 (.int .i64 0)).set 6 (.slice none 0 0)).set 7 (.int .i64 0)).set 8 (.int .i64 0)).set 9 (.slice none 0 0);simpa using this.alloc (.cells #[.int .i64 (dJ x 0),.slice F D I] 32)
   have hg:S.grownBy Wf (some (w.heap.size+1)):=by
    rw[A];exact vC (aA (aA (aA (aA (aA (aA (aA (aA (aA (aA (World.grownBy.refl _ _) 0 _) 1 _) 2 _) 3 _) 4 _) 5 _) 6 _) 7 _) 8 _) 9 _) _
   have Bf:Below w.heap.size w Wf:=Bw.grown hg Bw.size (fun q Y=>by have:=Option.some.inj Y;omega);have Gf:=U.cell;clear A G3 F3;obtain⟨N,L,O,o,Q,R,M⟩:=H.out;exact bodyPost_ret (v:=.tuple #[.agg #[.int .i64 0,.int .i64 0,.slice none 0 0,.int .i64 0,.slice none 0 0,.int .i64 0,.slice none 0 0,.int .i64 0,.int .i64 0,.slice none 0 0],.bool false]) (by simp[results,Tryz.results41,go_sem,Gf]) rfl
    ⟨none,0,0,none,0,0,none,0,0,none,0,0,by rw[N,L,o,R,HB.out],by rw[O];exact aL.nil _ _ _,by rw[Q];exact aL.nil _ _ _,aL.nil _ _ _,by rw[M];exact aL.nil _ _ _,
     ⟨aF.nil _ _ _,aF.nil _ _ _,aF.nil _ _ _,aF.nil _ _ _,aF.nil _ _ _,aF.nil _ _ _⟩,Bf⟩
  |true=>
   have z:lI n l x=true:=by unfold lI;rw[hm,ho];rfl
   clear hm ho;subst a8;have N:mL n l x=3:=by unfold mL;rw[z];rfl
   have L:mM n l x=n:=by unfold mM;rw[z];rfl
   have O:lT n l x=l:=by unfold lT;rw[z];rfl
   have o:mJ n l x=dJ x 0:=by unfold mJ;rw[z];rfl
   have Q:lP n l x=iU x 0:=by unfold lP;rw[z];rfl
   have R:mK n l x=kO n l x:=by unfold mK;rw[z];rfl
   have M:lO n l x=jE n l x:=by unfold lO;rw[z];rfl
   have H:=Lib.hid (And.intro N (And.intro L (And.intro O (And.intro o (And.intro Q (And.intro R M))))));have HB:=Lib.hid z;have g5:=hv.below B (Nat.le_refl _);have g6:aD (S.alloc (.cells #[.int .i64 (dJ x 0),.slice F D I] 32)).drew (.slice a l.length c) l:=g5.keep (Below.refl _ _).drew;have f7:=Lib.hid (kZ (S.alloc (.cells #[.int .i64 (dJ x 0),.slice F D I] 32)).drew n (.slice a l.length c) l g6 hl);have g0:aB (S.alloc (.cells #[.int .i64 (dJ x 0),.slice F D I] 32)).drew S.heap.size 32 #[.int .i64 (dJ x 0),.slice F D I]:=K2;have e5:aB (S.alloc (.cells #[.int .i64 (dJ x 0),.slice F D I] 32)).drew (w.heap.size+1) 49 #[.int .i64 0,.int .i64 0,.slice none 0 0,.int .i64 0,.slice none 0 0,.int .i64 0,.slice none 0 0,.int .i64 0,.int .i64 0,.slice none 0 0]:=K3;have Bd:Below w.heap.size w (S.alloc (.cells #[.int .i64 (dJ x 0),.slice F D I] 32)).drew:=B.drew;have zd:w.heap.size+1<(S.alloc (.cells #[.int .i64 (dJ x 0),.slice F D I] 32)).drew.heap.size:=e5.lt;clear N L O o Q R M z;have G1:=K1.cell;have G2:=K2.cell;go_wp2_with fail;go_region_law
    (go_simp;go_at_call 158;with_reducible refine f7.out.mono ?_;rintro e w5 ⟨p5,i5,q5,rfl,o5,b5⟩;have f9:=g0.keep b5;have b8:=e5.keep b5;have j0:=f9.cell;have j1:=b8.cell;have i8:=b8.frozen)
   all_goals
    have B5:=Bd.after b5 Bd.size;have y5:=b5.size;have x5:=o5.toW.mono (B':=w.heap.size+1+1) (by omega);have x1:aL 3 (w.heap.size+1+1) w5 (.slice F D I) (iU x 0):=(o1.drewN 1).toW.keep b5;have x2:aL 3 (w.heap.size+1+1) w5 (.slice p2 i2 Z) (jE n l x):=(o2.drewN 1).toW.keep b5;have e7:aF (.slice p5 i5 q5) (.slice F D I):=(aF.of_lt (o1.drewN 1).toW o5.toW (Nat.le_refl _)).symm;have e8:aF (.slice p5 i5 q5) (.slice p2 i2 Z):=(aF.of_lt (o2.drewN 1).toW o5.toW (Nat.le_refl _)).symm;go_wp2;refine aI ?_;intro Wf A;have U:aB Wf (w.heap.size+1) 49 #[.int .i64 3,.int .i64 n,.slice p5 i5 q5,.int .i64 (dJ x 0),.slice F D I,.int .i64 0,.slice none 0 0,.int .i64 (kO n l x),.int .i64 0,.slice p2 i2 Z]:=by
     rw[A];have:=(((((((((b8.set 0 (.int .i64 3)).set 1 (.int .i64 n)).set 2 (.slice p5 i5 q5)).set 3 (.int .i64 (dJ x 0))).set 4 (.slice F D I)).set 5 (.int .i64 0)).set 6 (.slice none 0 0)).set 7 (.int .i64 (kO n l x))).set 8 (.int .i64 0)).set 9 (.slice p2 i2 Z);simpa using this
    have hg:w5.grownBy Wf (some (w.heap.size+1)):=by
     rw[A];exact(aA (aA (aA (aA (aA (aA (aA (aA (aA (aA (World.grownBy.refl _ _) 0 _) 1 _) 2 _) 3 _) 4 _) 5 _) 6 _) 7 _) 8 _) 9 _)
    have Bf:Below w.heap.size w Wf:=B5.grown hg B5.size (fun q Y=>by have:=Option.some.inj Y;omega);have f5:=(x5.grow hg (fun q Y a6=>by have:=Option.some.inj Y;have:=(x5.lt q a6).1;omega)).mono (B':=w.heap.size) (by omega);have f1:=(x1.grow hg (fun q Y a6=>by have:=Option.some.inj Y;have:=(x1.lt q a6).1;omega)).mono (B':=w.heap.size) (by omega);have f2:=(x2.grow hg (fun q Y a6=>by have:=Option.some.inj Y;have:=(x2.lt q a6).1;omega)).mono (B':=w.heap.size) (by omega);have Gf:=U.cell;clear A;obtain⟨N,L,O,o,Q,R,M⟩:=H.out;exact bodyPost_ret (v:=.tuple #[.agg #[.int .i64 3,.int .i64 n,.slice p5 i5 q5,.int .i64 (dJ x 0),.slice F D I,.int .i64 0,.slice none 0 0,.int .i64 (kO n l x),.int .i64 0,.slice p2 i2 Z],.bool true]) (by simp[results,Tryz.results41,go_sem,Gf]) rfl
     ⟨p5,i5,q5,F,D,I,none,0,0,p2,i2,Z,by rw[N,L,o,R,HB.out],by rw[O];exact f5,by rw[Q];exact f1,aL.nil _ _ _,by rw[M];exact f2,
      ⟨e7,(aF.nil _ _ _).symm,e8,(aF.nil _ _ _).symm,e6,aF.nil _ _ _⟩,Bf⟩
end
end Go.Proofs.YtipejodijbjpcaaGreatDoor
