/- Lemmas for CardClaims, part 45 of 52. No condition. -/
import Derived.Test.YtipejodijbjpcaaGreatDoorQ06
import Derived.Test.YtipejodijbjpcaaGreatDoorQ07
import Derived.Test.YtipejodijbjpcaaGreatDoorQ44
import Derived.Deep.CutRange
set_option maxRecDepth 100000
set_option maxHeartbeats 64000000
namespace Go.Proofs.YtipejodijbjpcaaGreatDoor
section
open Go.RowKit Go.G5
def jG(g:Int)(l:List Int):Bool:=bW g l&&decide (l.length<=6)
def nV(g:Int)(l:List Int):Int:=if jG g l then 7 else 0
def nN(g:Int)(l:List Int):Int:=if jG g l then g else 0
def mP(g:Int)(l:List Int):List Int:=if jG g l then l else []
def jN(g:Int)(l:List Int):Int:=if jG g l&&eR g l then 1 else 0
def mQ(g:Int)(l:List Int):List Int:=if jG g l then (if eR g l then kC g l else eQ g l) else []
theorem CZ(g:Int)(l:List Int)(h:l.length<=1048576):(mP g l).length<=1048576:=by unfold mP;split<;>simp_all
theorem C0(g:Int)(l:List Int):(mQ g l).length<=1048576:=by
 unfold mQ;have:=TE g l;have:=S4 g l
 split
 ·split<;>omega
 ·simp
theorem J2(w:World)(g:Int)(v:Value)(l:List Int)(hv:aD w v l)(hl:l.length<=1048576):
  Calls Tryz.prog 35 #[.agg #[.int .i64 g,v]] w fun e w'=>∃p0 i0 q0 p1 i1 q1 p2 i2 q2 p3 i3 q3,e=.returned (.tuple #[.agg #[.int .i64 (nV g l),.int .i64 0,.slice p0 i0 q0,.int .i64 0,.slice p1 i1 q1,.int .i64 (nN g l),.slice p2 i2 q2,.int .i64 (jN g l),.int .i64 0,.slice p3 i3 q3],.bool (jG g l)])/\aL 3 w.heap.size w' (.slice p0 i0 q0) []/\aL 3 w.heap.size w' (.slice p1 i1 q1) []/\aL 3 w.heap.size w' (.slice p2 i2 q2) (mP g l)/\aL 3 w.heap.size w' (.slice p3 i3 q3) (mQ g l)/\(aF (.slice p0 i0 q0) (.slice p1 i1 q1)/\aF (.slice p0 i0 q0) (.slice p2 i2 q2)/\aF (.slice p0 i0 q0) (.slice p3 i3 q3)/\aF (.slice p1 i1 q1) (.slice p2 i2 q2)/\aF (.slice p1 i1 q1) (.slice p3 i3 q3)/\aF (.slice p2 i2 q2) (.slice p3 i3 q3))/\Below w.heap.size w w':=by
 obtain⟨a,c,rfl⟩:=hv.shape;go_enter Tryz.func35,Tryz.ntmps35;go_wp2_with fail;refine aH ?_;intro V hV;have B:Below w.heap.size w V:=by rw[hV];exact cD _ _ _
 have S:aB V w.heap.size 27 #[.int .i64 g,.slice a l.length c]:=by rw[hV];exact(aB.new _ _ _).alloc _
 have F:aB V (w.heap.size+1) 49 #[.int .i64 0,.int .i64 0,.slice none 0 0,.int .i64 0,.slice none 0 0,.int .i64 0,.slice none 0 0,.int .i64 0,.int .i64 0,.slice none 0 0]:=by rw[hV];have:=aB.new (w.alloc (.cells #[.int .i64 g,.slice a l.length c] 27)) 49 #[.int .i64 0,.int .i64 0,.slice none 0 0,.int .i64 0,.slice none 0 0,.int .i64 0,.slice none 0 0,.int .i64 0,.int .i64 0,.slice none 0 0];simpa using this
 clear hV;have k2:w.heap.size+2<=V.heap.size:=by have:=F.lt;omega
 refine(kR g l _ _ (hv.below B (Nat.le_refl _))).mono ?_;rintro e w1 ⟨rfl,b9⟩;have S:=S.keep b9;have F:=F.keep b9;have B1:=B.after b9 B.size;have g3:=hv.below B1 (Nat.le_refl _);have z1:=S.lt;have z2:=F.lt;clear b9 B
 cases hf:bW g l with
 |false=>
  have o:jG g l=false:=by unfold jG;rw[hf];rfl
  clear hf;have O:nV g l=0:=by unfold nV;rw[o];rfl
  have N:nN g l=0:=by unfold nN;rw[o];rfl
  have M:mP g l=[]:=by unfold mP;rw[o];rfl
  have R:jN g l=0:=by unfold jN;rw[o];rfl
  have Q:mQ g l=[]:=by unfold mQ;rw[o];rfl
  have H:=Lib.hid (And.intro O (And.intro N (And.intro M (And.intro R Q))));have HB:=Lib.hid o;clear O N M R Q o;have G1:=S.cell;have G2:=F.cell;have F2:=F.frozen;go_wp2;refine aI ?_;intro Wf z;have U:aB Wf (w.heap.size+1) 49 #[.int .i64 0,.int .i64 0,.slice none 0 0,.int .i64 0,.slice none 0 0,.int .i64 0,.slice none 0 0,.int .i64 0,.int .i64 0,.slice none 0 0]:=by
   rw[z];have:=(((((((((F.set 0 (.int .i64 0)).set 1 (.int .i64 0)).set 2 (.slice none 0 0)).set 3 (.int .i64 0)).set 4 (.slice none 0 0)).set 5 (.int .i64 0)).set 6 (.slice none 0 0)).set 7 (.int .i64 0)).set 8 (.int .i64 0)).set 9 (.slice none 0 0);simpa using this
  have hg:w1.grownBy Wf (some (w.heap.size+1)):=by
   rw[z];exact(aA (aA (aA (aA (aA (aA (aA (aA (aA (aA (World.grownBy.refl _ _) 0 _) 1 _) 2 _) 3 _) 4 _) 5 _) 6 _) 7 _) 8 _) 9 _)
  have Bf:Below w.heap.size w Wf:=B1.grown hg B1.size (fun q A=>by have:=Option.some.inj A;omega);have Gf:=U.cell;clear z G2 F2 G1;obtain⟨O,N,M,R,Q⟩:=H.out;exact bodyPost_ret (v:=.tuple #[.agg #[.int .i64 0,.int .i64 0,.slice none 0 0,.int .i64 0,.slice none 0 0,.int .i64 0,.slice none 0 0,.int .i64 0,.int .i64 0,.slice none 0 0],.bool false]) (by simp[results,Tryz.results35,go_sem,Gf]) rfl
   ⟨none,0,0,none,0,0,none,0,0,none,0,0,by rw[O,N,R,HB.out],aL.nil _ _ _,aL.nil _ _ _,by rw[M];exact aL.nil _ _ _,by rw[Q];exact aL.nil _ _ _,
    ⟨aF.nil _ _ _,aF.nil _ _ _,aF.nil _ _ _,aF.nil _ _ _,aF.nil _ _ _,aF.nil _ _ _⟩,Bf⟩
 |true=>
  by_cases g1:l.length<=6
  rotate_left
  ·have o:jG g l=false:=by unfold jG;rw[decide_eq_false g1];simp
   have j2:(6:Int)<l.length:=by omega
   clear hf;have O:nV g l=0:=by unfold nV;rw[o];rfl
   have N:nN g l=0:=by unfold nN;rw[o];rfl
   have M:mP g l=[]:=by unfold mP;rw[o];rfl
   have R:jN g l=0:=by unfold jN;rw[o];rfl
   have Q:mQ g l=[]:=by unfold mQ;rw[o];rfl
   have H:=Lib.hid (And.intro O (And.intro N (And.intro M (And.intro R Q))));have HB:=Lib.hid o;clear O N M R Q o;have G1:=S.cell;have G2:=F.cell;have F2:=F.frozen;go_wp2;refine aI ?_;intro Wf z;have U:aB Wf (w.heap.size+1) 49 #[.int .i64 0,.int .i64 0,.slice none 0 0,.int .i64 0,.slice none 0 0,.int .i64 0,.slice none 0 0,.int .i64 0,.int .i64 0,.slice none 0 0]:=by
    rw[z];have:=(((((((((F.set 0 (.int .i64 0)).set 1 (.int .i64 0)).set 2 (.slice none 0 0)).set 3 (.int .i64 0)).set 4 (.slice none 0 0)).set 5 (.int .i64 0)).set 6 (.slice none 0 0)).set 7 (.int .i64 0)).set 8 (.int .i64 0)).set 9 (.slice none 0 0);simpa using this
   have hg:w1.grownBy Wf (some (w.heap.size+1)):=by
    rw[z];exact(aA (aA (aA (aA (aA (aA (aA (aA (aA (aA (World.grownBy.refl _ _) 0 _) 1 _) 2 _) 3 _) 4 _) 5 _) 6 _) 7 _) 8 _) 9 _)
   have Bf:Below w.heap.size w Wf:=B1.grown hg B1.size (fun q A=>by have:=Option.some.inj A;omega);have Gf:=U.cell;clear z G2 F2 G1;obtain⟨O,N,M,R,Q⟩:=H.out;exact bodyPost_ret (v:=.tuple #[.agg #[.int .i64 0,.int .i64 0,.slice none 0 0,.int .i64 0,.slice none 0 0,.int .i64 0,.slice none 0 0,.int .i64 0,.int .i64 0,.slice none 0 0],.bool false]) (by simp[results,Tryz.results35,go_sem,Gf]) rfl
    ⟨none,0,0,none,0,0,none,0,0,none,0,0,by rw[O,N,R,HB.out],aL.nil _ _ _,aL.nil _ _ _,by rw[M];exact aL.nil _ _ _,by rw[Q];exact aL.nil _ _ _,
     ⟨aF.nil _ _ _,aF.nil _ _ _,aF.nil _ _ _,aF.nil _ _ _,aF.nil _ _ _,aF.nil _ _ _⟩,Bf⟩
  have j2:¬(6:Int)<l.length:=by omega
  have o:jG g l=true:=by unfold jG;rw[hf,decide_eq_true g1];rfl
  have O:nV g l=7:=by unfold nV;rw[o];rfl
  have N:nN g l=g:=by unfold nN;rw[o];rfl
  have M:mP g l=l:=by unfold mP;rw[o];rfl
  have R:jN g l=if eR g l then 1 else 0:=by unfold jN;rw[o];rfl
  have Q:mQ g l=if eR g l then kC g l else eQ g l:=by unfold mQ;rw[o];rfl
  have c8:=(jZ hf).2.2.2;have g0:=qE l c8;have f8:bA g:=by have:=jZ hf;exact⟨by omega,by omega⟩
  have H:=Lib.hid (And.intro O (And.intro N (And.intro M (And.intro R Q))));have HB:=Lib.hid o;have h9:=Lib.hid g0;have HF:=Lib.hid hf;have f4:=Lib.hid f8;clear O N M R Q o c8 g0 hf f8;have G1:=S.cell;go_wp2_with fail;refine(AL g _ l _ g3 hl).mono ?_;rintro e w7 ⟨p7,Y,q7,rfl,Z,c5⟩;rw[h9.out]at Z;have S:=S.keep c5;have F:=F.keep c5;have B7:=B1.after c5 B1.size;have Z:=Z.mono (B':=w.heap.size+2) (by omega);have j3:∀k,(Value.slice p7 Y q7).ownBlock=some k->k<w7.heap.size:=fun k hk=>(Z.lt k hk).2;have y7:=B7.size;clear c5 G1 B1 g3;have G1:=S.cell;have z1:=S.lt;have z2:=F.lt;go_wp2_with fail;refine aH ?_;intro V3 a7;have B8:Below w.heap.size w V3:=by rw[a7];exact B7.alloc B7.size _
  have S:aB V3 w.heap.size 27 #[.int .i64 g,.slice a l.length c]:=by rw[a7];exact S.alloc _
  have F:aB V3 (w.heap.size+1) 49 #[.int .i64 0,.int .i64 0,.slice none 0 0,.int .i64 0,.slice none 0 0,.int .i64 0,.slice none 0 0,.int .i64 0,.int .i64 0,.slice none 0 0]:=by rw[a7];exact F.alloc _
  have K4:aB V3 w7.heap.size 49 #[.int .i64 7,.int .i64 0,.slice none 0 0,.int .i64 0,.slice none 0 0,.int .i64 g,.slice p7 Y q7,.int .i64 0,.int .i64 0,.slice none 0 0]:=by rw[a7];exact aB.new _ _ _
  have Z:aL 3 (w.heap.size+2) V3 (.slice p7 Y q7) l:=by rw[a7];exact Z.alloc _
  have r7:∀k,(Value.slice p7 Y q7).ownBlock=some k->k<w7.heap.size:=j3;have yy:w.heap.size+2<=w7.heap.size:=by omega
  clear a7 B7 G1 z1 z2;have z4:=K4.lt;have j4:¬w7.heap.size=w.heap.size+1:=by omega
  have j5:¬w.heap.size+1=w7.heap.size:=by omega
  refine(WH _ g f4.out _ l (hv.below B8 (Nat.le_refl _)) hl).mono ?_;rintro e w9 ⟨p9,i9,q9,rfl,o9,L⟩;have S:=S.keep L;have F:=F.keep L;have K4:=K4.keep L;have B9:=B8.after L B8.size;have f6:aF (.slice p7 Y q7) (.slice p9 i9 q9):=aF.of_lt Z o9 (Nat.le_refl _);have Z:=Z.keep L;have y9:=L.size;have z2:=F.lt
  cases c6:eR g l with
  |true=>
   have b0:=Lib.hid c6;clear L c6;have e7:=f6;have G2:=F.cell;have F2:=F.frozen;have G4:=K4.cell;have F4:=K4.frozen;have z4:=K4.lt;obtain⟨WX,b3⟩:∃W,W=(w9.setCell ⟨w7.heap.size,7,none⟩ (.int .i64 1)).setCell ⟨w7.heap.size,9,none⟩ (.slice p9 i9 q9):=⟨_,rfl⟩;have K:w9.grownBy WX (some w7.heap.size):=by rw[b3];exact aA (aA (World.grownBy.refl _ _) 7 _) 9 _
   have KX:=F.grow K (by intro A;have:=Option.some.inj A;omega);have BX:Below w.heap.size w WX:=B9.grown K B9.size (fun q A=>by have:=Option.some.inj A;omega);have b5:=Z.grow K (fun q A D=>by have:=Option.some.inj A;have:=r7 q D;omega);have b6:=(o9.mono (B':=w.heap.size+2) (by omega)).grow K (fun q A D=>by have:=Option.some.inj A;have:=(o9.lt q D).1;omega);go_wp2;refine aI ?_;intro Wf z;rw[<-b3]at z;have U:aB Wf (w.heap.size+1) 49 #[.int .i64 7,.int .i64 0,.slice none 0 0,.int .i64 0,.slice none 0 0,.int .i64 g,.slice p7 Y q7,.int .i64 1,.int .i64 0,.slice p9 i9 q9]:=by
    rw[z];have:=(((((((((KX.set 0 (.int .i64 7)).set 1 (.int .i64 0)).set 2 (.slice none 0 0)).set 3 (.int .i64 0)).set 4 (.slice none 0 0)).set 5 (.int .i64 g)).set 6 (.slice p7 Y q7)).set 7 (.int .i64 1)).set 8 (.int .i64 0)).set 9 (.slice p9 i9 q9);simpa using this
   have hg:WX.grownBy Wf (some (w.heap.size+1)):=by
    rw[z];exact(aA (aA (aA (aA (aA (aA (aA (aA (aA (aA (World.grownBy.refl _ _) 0 _) 1 _) 2 _) 3 _) 4 _) 5 _) 6 _) 7 _) 8 _) 9 _)
   have yX:=BX.size;have Bf:Below w.heap.size w Wf:=BX.grown hg BX.size (fun q A=>by have:=Option.some.inj A;omega);have f7:=(b5.grow hg (fun q A D=>by have:=Option.some.inj A;have:=(b5.lt q D).1;omega)).mono (B':=w.heap.size) (by omega);have f9:=(b6.grow hg (fun q A D=>by have:=Option.some.inj A;have:=(b6.lt q D).1;omega)).mono (B':=w.heap.size) (by omega);have Gf:=U.cell;clear z;obtain⟨O,N,M,R,Q⟩:=H.out;exact bodyPost_ret (v:=.tuple #[.agg #[.int .i64 7,.int .i64 0,.slice none 0 0,.int .i64 0,.slice none 0 0,.int .i64 g,.slice p7 Y q7,.int .i64 1,.int .i64 0,.slice p9 i9 q9],.bool true]) (by simp[results,Tryz.results35,go_sem,Gf]) rfl
    ⟨none,0,0,none,0,0,p7,Y,q7,p9,i9,q9,by rw[O,N,R,b0.out,HB.out];rfl,aL.nil _ _ _,aL.nil _ _ _,by rw[M];exact f7,by rw[Q,b0.out];exact f9,
     ⟨aF.nil _ _ _,aF.nil _ _ _,aF.nil _ _ _,aF.nil _ _ _,aF.nil _ _ _,e7⟩,Bf⟩
  |false=>
   have b0:=Lib.hid c6;clear L c6 o9 f6;have G1:=S.cell;go_wp2_with fail;refine(WD _ g f4.out _ l (hv.below B9 (Nat.le_refl _)) hl).mono ?_;rintro e h5 ⟨p9,i9,q9,rfl,o9,I⟩;have F:=F.keep I;have K4:=K4.keep I;have e9:=B9.after I B9.size;have e7:aF (.slice p7 Y q7) (.slice p9 i9 q9):=aF.of_lt Z o9 (Nat.le_refl _);have Z:=Z.keep I;have k4:=I.size;have z2:=F.lt;clear I G1;have G2:=F.cell;have F2:=F.frozen;have G4:=K4.cell;have F4:=K4.frozen;have z4:=K4.lt;obtain⟨WX,b3⟩:∃W,W=h5.setCell ⟨w7.heap.size,9,none⟩ (.slice p9 i9 q9):=⟨_,rfl⟩;have K:h5.grownBy WX (some w7.heap.size):=by rw[b3];exact aA (World.grownBy.refl _ _) 9 _
   have KX:=F.grow K (by intro A;have:=Option.some.inj A;omega);have BX:Below w.heap.size w WX:=e9.grown K e9.size (fun q A=>by have:=Option.some.inj A;omega);have b5:=Z.grow K (fun q A D=>by have:=Option.some.inj A;have:=r7 q D;omega);have b6:=(o9.mono (B':=w.heap.size+2) (by omega)).grow K (fun q A D=>by have:=Option.some.inj A;have:=(o9.lt q D).1;omega);go_wp2;refine aI ?_;intro Wf z;rw[<-b3]at z;have U:aB Wf (w.heap.size+1) 49 #[.int .i64 7,.int .i64 0,.slice none 0 0,.int .i64 0,.slice none 0 0,.int .i64 g,.slice p7 Y q7,.int .i64 0,.int .i64 0,.slice p9 i9 q9]:=by
    rw[z];have:=(((((((((KX.set 0 (.int .i64 7)).set 1 (.int .i64 0)).set 2 (.slice none 0 0)).set 3 (.int .i64 0)).set 4 (.slice none 0 0)).set 5 (.int .i64 g)).set 6 (.slice p7 Y q7)).set 7 (.int .i64 0)).set 8 (.int .i64 0)).set 9 (.slice p9 i9 q9);simpa using this
   have hg:WX.grownBy Wf (some (w.heap.size+1)):=by
    rw[z];exact(aA (aA (aA (aA (aA (aA (aA (aA (aA (aA (World.grownBy.refl _ _) 0 _) 1 _) 2 _) 3 _) 4 _) 5 _) 6 _) 7 _) 8 _) 9 _)
   have yX:=BX.size;have Bf:Below w.heap.size w Wf:=BX.grown hg BX.size (fun q A=>by have:=Option.some.inj A;omega);have f7:=(b5.grow hg (fun q A D=>by have:=Option.some.inj A;have:=(b5.lt q D).1;omega)).mono (B':=w.heap.size) (by omega);have f9:=(b6.grow hg (fun q A D=>by have:=Option.some.inj A;have:=(b6.lt q D).1;omega)).mono (B':=w.heap.size) (by omega);have Gf:=U.cell;clear z;obtain⟨O,N,M,R,Q⟩:=H.out;exact bodyPost_ret (v:=.tuple #[.agg #[.int .i64 7,.int .i64 0,.slice none 0 0,.int .i64 0,.slice none 0 0,.int .i64 g,.slice p7 Y q7,.int .i64 0,.int .i64 0,.slice p9 i9 q9],.bool true]) (by simp[results,Tryz.results35,go_sem,Gf]) rfl
    ⟨none,0,0,none,0,0,p7,Y,q7,p9,i9,q9,by rw[O,N,R,b0.out,HB.out];rfl,aL.nil _ _ _,aL.nil _ _ _,by rw[M];exact f7,by rw[Q,b0.out];exact f9,
     ⟨aF.nil _ _ _,aF.nil _ _ _,aF.nil _ _ _,aF.nil _ _ _,aF.nil _ _ _,e7⟩,Bf⟩
theorem vL(w:World)(g:Int)(v:Value)(l:List Int)(hv:aD w v l)(hl:l.length<=1048576):
  Calls Tryz.prog 53 #[.agg #[.int .i64 g,v]] w fun e w'=>∃p0 i0 q0 p1 i1 q1 p2 i2 q2 p3 i3 q3,e=.returned (.tuple #[.agg #[.int .i64 (nV g l),.int .i64 0,.slice p0 i0 q0,.int .i64 0,.slice p1 i1 q1,.int .i64 (nN g l),.slice p2 i2 q2,.int .i64 (jN g l),.int .i64 0,.slice p3 i3 q3],.bool (jG g l)])/\aL 3 w.heap.size w' (.slice p0 i0 q0) []/\aL 3 w.heap.size w' (.slice p1 i1 q1) []/\aL 3 w.heap.size w' (.slice p2 i2 q2) (mP g l)/\aL 3 w.heap.size w' (.slice p3 i3 q3) (mQ g l)/\(aF (.slice p0 i0 q0) (.slice p1 i1 q1)/\aF (.slice p0 i0 q0) (.slice p2 i2 q2)/\aF (.slice p0 i0 q0) (.slice p3 i3 q3)/\aF (.slice p1 i1 q1) (.slice p2 i2 q2)/\aF (.slice p1 i1 q1) (.slice p3 i3 q3)/\aF (.slice p2 i2 q2) (.slice p3 i3 q3))/\Below w.heap.size w w':=by
 obtain⟨a,c,rfl⟩:=hv.shape;go_enter Tryz.func53,Tryz.ntmps53;go_wp2_with fail;refine aH ?_;intro V hV;have B:Below w.heap.size w V:=by rw[hV];exact cD _ _ _
 have Y:aB V w.heap.size 27 #[.int .i64 g,.slice a l.length c]:=by rw[hV];exact(aB.new _ _ _).alloc _
 have A:aB V (w.heap.size+1) 49 #[.int .i64 0,.int .i64 0,.slice none 0 0,.int .i64 0,.slice none 0 0,.int .i64 0,.slice none 0 0,.int .i64 0,.int .i64 0,.slice none 0 0]:=by rw[hV];have:=aB.new (w.alloc (.cells #[.int .i64 g,.slice a l.length c] 27)) 49 #[.int .i64 0,.int .i64 0,.slice none 0 0,.int .i64 0,.slice none 0 0,.int .i64 0,.slice none 0 0,.int .i64 0,.int .i64 0,.slice none 0 0];simpa using this
 clear hV;have k5:w.heap.size+2<=V.heap.size:=by have:=A.lt;omega
 refine(gD g l _ _ (hv.below B (Nat.le_refl _))).mono ?_;rintro e F ⟨rfl,b6⟩;have Y:=Y.keep b6;have A:=A.keep b6;have B1:=B.after b6 B.size;have e4:=hv.below B1 (Nat.le_refl _);have z1:=Y.lt;have z2:=A.lt;clear b6 B
 cases hf:bW g l with
 |false=>
  have o:jG g l=false:=by unfold jG;rw[hf];rfl
  clear hf;have N:nV g l=0:=by unfold nV;rw[o];rfl
  have M:nN g l=0:=by unfold nN;rw[o];rfl
  have L:mP g l=[]:=by unfold mP;rw[o];rfl
  have Q:jN g l=0:=by unfold jN;rw[o];rfl
  have O:mQ g l=[]:=by unfold mQ;rw[o];rfl
  have H:=Lib.hid (And.intro N (And.intro M (And.intro L (And.intro Q O))));have HB:=Lib.hid o;clear N M L Q O o;have G1:=Y.cell;have G2:=A.cell;have F2:=A.frozen;go_wp2;refine aI ?_;intro Wf z;have R:aB Wf (w.heap.size+1) 49 #[.int .i64 0,.int .i64 0,.slice none 0 0,.int .i64 0,.slice none 0 0,.int .i64 0,.slice none 0 0,.int .i64 0,.int .i64 0,.slice none 0 0]:=by
   rw[z];have:=(((((((((A.set 0 (.int .i64 0)).set 1 (.int .i64 0)).set 2 (.slice none 0 0)).set 3 (.int .i64 0)).set 4 (.slice none 0 0)).set 5 (.int .i64 0)).set 6 (.slice none 0 0)).set 7 (.int .i64 0)).set 8 (.int .i64 0)).set 9 (.slice none 0 0);simpa using this
  have hg:F.grownBy Wf (some (w.heap.size+1)):=by
   rw[z];exact(aA (aA (aA (aA (aA (aA (aA (aA (aA (aA (World.grownBy.refl _ _) 0 _) 1 _) 2 _) 3 _) 4 _) 5 _) 6 _) 7 _) 8 _) 9 _)
  have Bf:Below w.heap.size w Wf:=B1.grown hg B1.size (fun q S=>by have:=Option.some.inj S;omega);have Gf:=R.cell;clear z G2 F2 G1;obtain⟨N,M,L,Q,O⟩:=H.out;exact bodyPost_ret (v:=.tuple #[.agg #[.int .i64 0,.int .i64 0,.slice none 0 0,.int .i64 0,.slice none 0 0,.int .i64 0,.slice none 0 0,.int .i64 0,.int .i64 0,.slice none 0 0],.bool false]) (by simp[results,Tryz.results53,go_sem,Gf]) rfl
   ⟨none,0,0,none,0,0,none,0,0,none,0,0,by rw[N,M,Q,HB.out],aL.nil _ _ _,aL.nil _ _ _,by rw[L];exact aL.nil _ _ _,by rw[O];exact aL.nil _ _ _,
    ⟨aF.nil _ _ _,aF.nil _ _ _,aF.nil _ _ _,aF.nil _ _ _,aF.nil _ _ _,aF.nil _ _ _⟩,Bf⟩
 |true=>
  by_cases g1:l.length<=6
  rotate_left
  ·have o:jG g l=false:=by unfold jG;rw[decide_eq_false g1];simp
   have j3:(6:Int)<l.length:=by omega
   clear hf;have N:nV g l=0:=by unfold nV;rw[o];rfl
   have M:nN g l=0:=by unfold nN;rw[o];rfl
   have L:mP g l=[]:=by unfold mP;rw[o];rfl
   have Q:jN g l=0:=by unfold jN;rw[o];rfl
   have O:mQ g l=[]:=by unfold mQ;rw[o];rfl
   have H:=Lib.hid (And.intro N (And.intro M (And.intro L (And.intro Q O))));have HB:=Lib.hid o;clear N M L Q O o;have G1:=Y.cell;have G2:=A.cell;have F2:=A.frozen;go_wp2;refine aI ?_;intro Wf z;have R:aB Wf (w.heap.size+1) 49 #[.int .i64 0,.int .i64 0,.slice none 0 0,.int .i64 0,.slice none 0 0,.int .i64 0,.slice none 0 0,.int .i64 0,.int .i64 0,.slice none 0 0]:=by
    rw[z];have:=(((((((((A.set 0 (.int .i64 0)).set 1 (.int .i64 0)).set 2 (.slice none 0 0)).set 3 (.int .i64 0)).set 4 (.slice none 0 0)).set 5 (.int .i64 0)).set 6 (.slice none 0 0)).set 7 (.int .i64 0)).set 8 (.int .i64 0)).set 9 (.slice none 0 0);simpa using this
   have hg:F.grownBy Wf (some (w.heap.size+1)):=by
    rw[z];exact(aA (aA (aA (aA (aA (aA (aA (aA (aA (aA (World.grownBy.refl _ _) 0 _) 1 _) 2 _) 3 _) 4 _) 5 _) 6 _) 7 _) 8 _) 9 _)
   have Bf:Below w.heap.size w Wf:=B1.grown hg B1.size (fun q S=>by have:=Option.some.inj S;omega);have Gf:=R.cell;clear z G2 F2 G1;obtain⟨N,M,L,Q,O⟩:=H.out;exact bodyPost_ret (v:=.tuple #[.agg #[.int .i64 0,.int .i64 0,.slice none 0 0,.int .i64 0,.slice none 0 0,.int .i64 0,.slice none 0 0,.int .i64 0,.int .i64 0,.slice none 0 0],.bool false]) (by simp[results,Tryz.results53,go_sem,Gf]) rfl
    ⟨none,0,0,none,0,0,none,0,0,none,0,0,by rw[N,M,Q,HB.out],aL.nil _ _ _,aL.nil _ _ _,by rw[L];exact aL.nil _ _ _,by rw[O];exact aL.nil _ _ _,
     ⟨aF.nil _ _ _,aF.nil _ _ _,aF.nil _ _ _,aF.nil _ _ _,aF.nil _ _ _,aF.nil _ _ _⟩,Bf⟩
  have j3:¬(6:Int)<l.length:=by omega
  have o:jG g l=true:=by unfold jG;rw[hf,decide_eq_true g1];rfl
  have N:nV g l=7:=by unfold nV;rw[o];rfl
  have M:nN g l=g:=by unfold nN;rw[o];rfl
  have L:mP g l=l:=by unfold mP;rw[o];rfl
  have Q:jN g l=if eR g l then 1 else 0:=by unfold jN;rw[o];rfl
  have O:mQ g l=if eR g l then kC g l else eQ g l:=by unfold mQ;rw[o];rfl
  have b8:=(jZ hf).2.2.2;have g0:=qE l b8;have f8:bA g:=by have:=jZ hf;exact⟨by omega,by omega⟩
  have H:=Lib.hid (And.intro N (And.intro M (And.intro L (And.intro Q O))));have HB:=Lib.hid o;have k3:=Lib.hid g0;have HF:=Lib.hid hf;have f4:=Lib.hid f8;clear N M L Q O o b8 g0 hf f8;have g2:([]:List Int).length+l.length<=17592186044416:=by simp;omega
  have i8:=Lib.hid g2;have e1:F.cell? ⟨w.heap.size,0,none⟩=some (.int .i64 g):=Y.cell 0;have e2:F.cell? ⟨w.heap.size,1,none⟩=some (.slice a l.length c):=Y.cell 1;have j4:¬F.heap.size=w.heap.size:=by omega
  have j5:¬F.heap.size+1=w.heap.size:=by omega
  have y1:=B1.size;clear g2;go_wp2_with fail;go_cut [4] from 9 (fun fp wc=>∃(gb:Nat) (p:Option Addr) (i q:Nat),fp=.pointer (some ⟨gb,0,none⟩)/\F.heap.size<=gb/\aB wc gb 27 #[.int .i64 g,.slice p i q]/\aC 3 F.heap.size wc (.slice p i q) l/\Below F.heap.size F wc)
  case first=>
   go_region_held3 (fun w'=>w'.cell? ⟨w.heap.size,0,none⟩=some (.int .i64 g)/\w'.cell? ⟨w.heap.size,1,none⟩=some (.slice a l.length c)) (go_keep)
    (first
     |(refine PQ rfl _ _ _ rfl 3 Tryz.underlying22 aG F.heap.size (.slice (some ⟨_,0,none⟩) 0 0) [] rfl (.slice a l.length c) l rfl ?_ ?_ i8.out F ?_ (Nat.le_refl _) ?_;(first|(with_reducible exact(aC.lit0 F (Nat.le_refl _)).drew')|(with_reducible exact((aC.lit0 F (Nat.le_refl _)).alloc _).drew')|(with_reducible exact(aC.lit0' F _).drew'));(first|(with_reducible exact(e4.alloc _).drew')|(with_reducible exact((e4.alloc _).alloc _).drew'));(first|(with_reducible exact(aM F _).drew)|(with_reducible exact(cD F _ _).drew));(intro v5 w5 o5 b5 pc;obtain⟨p5,i5,q5,rfl⟩:=o5.shape3;have k9:=UT b5 z1;obtain⟨k6,k7⟩:=pX b5 F.heap.size (Nat.le_refl _);first|(have e0:=pc _ _ _ (aB.second F _ 27 #[.int .i64 0,.slice none 0 0]) (mB _ _ _);obtain⟨I,e5⟩:=e0;have GF:=I.cell;have FF:=I.frozen;have zF:=I.lt)|(have e0:=pc _ _ _ (aB.first F _ 27 #[.int .i64 0,.slice none 0 0]) (lX _ _ _);obtain⟨I,e5⟩:=e0;have GF:=I.cell;have FF:=I.frozen;have zF:=I.lt)|skip))
    )
   ·go_wp2
    go_meet
    case rel=>
     refine⟨_,p5,i5,q5,rfl,b5.size,aB.new _ _ _,o5.alloc _,b5.alloc b5.size _⟩
   all_goals
    go_wp2;go_meet
    case rel=>
     have f5:=(I.set 0 (.int .i64 g)).set 1 (.slice p5 i5 q5);simp at f5;have l7:=b5.size;refine⟨_,p5,i5,q5,rfl,(by first|exact Nat.le_refl _|omega),f5,(o5.setFar ⟨_,0,none⟩ e5 _).setFar ⟨_,1,none⟩ e5 _,(by repeat(first|exact Below.refl _ _|(with_reducible refine Below.setCell ?_ (by first|omega|(simp;done)|(simp;omega)) _)|(with_reducible refine Below.alloc ?_ (by first|omega|(simp;done)|(simp;omega)) _)|(with_reducible refine Below.drewN' ?_ _)|(with_reducible refine Below.drew ?_)|(with_reducible assumption)|refine Below.trans ?_ (Below.mono (by assumption) (by first|omega|(simp;done)|(simp;omega)))))⟩
  case rest=>
   obtain⟨gb,p7,i7,q7,rfl,k8,I,o7,Bc⟩:=hcut;have Y:=Y.keep Bc;have A:=A.keep Bc;have B7:=B1.after Bc B1.size;have o7:=o7.toW.mono (B':=w.heap.size+2) (by omega);have y7:=B7.size;have yc:=Bc.size;have yy:w.heap.size+2<=wc.heap.size:=by omega
   clear e1 e2 j4 j5 Bc B1 e4 z1 z2;have G1:=Y.cell;have z2:=A.lt;have zF:=I.lt;go_wp2_with fail;refine(PH _ g f4.out _ l (hv.below B7 (Nat.le_refl _)) hl).mono ?_;rintro e w9 ⟨p9,i9,q9,rfl,o9,K⟩;have Y:=Y.keep K;have A:=A.keep K;have I:=I.keep K;have B9:=B7.after K B7.size;have f6:aF (.slice p7 i7 q7) (.slice p9 i9 q9):=aF.of_lt o7 o9 (Nat.le_refl _);have o7:=o7.keep K;have y9:=K.size;clear z2 zF G1
   cases b7:eR g l with
   |true=>
    have Z:=Lib.hid b7;clear K b7;have d0:=f6;have z2:=A.lt;have zF:=I.lt;have G2:=A.cell;have F2:=A.frozen;have GF:=I.cell;obtain⟨WX,rfl⟩:∃W:World,W=w9:=⟨_,rfl⟩;have KX:=A;have BX:=B9;have a6:=o7;have a7:=o9.mono (B':=w.heap.size+2) (by omega);go_wp2;refine aI ?_;intro Wf z;have R:aB Wf (w.heap.size+1) 49 #[.int .i64 7,.int .i64 0,.slice none 0 0,.int .i64 0,.slice none 0 0,.int .i64 g,.slice p7 i7 q7,.int .i64 1,.int .i64 0,.slice p9 i9 q9]:=by
     rw[z];have:=(((((((((KX.set 0 (.int .i64 7)).set 1 (.int .i64 0)).set 2 (.slice none 0 0)).set 3 (.int .i64 0)).set 4 (.slice none 0 0)).set 5 (.int .i64 g)).set 6 (.slice p7 i7 q7)).set 7 (.int .i64 1)).set 8 (.int .i64 0)).set 9 (.slice p9 i9 q9);simpa using this
    have hg:WX.grownBy Wf (some (w.heap.size+1)):=by
     rw[z];exact(aA (aA (aA (aA (aA (aA (aA (aA (aA (aA (World.grownBy.refl _ _) 0 _) 1 _) 2 _) 3 _) 4 _) 5 _) 6 _) 7 _) 8 _) 9 _)
    have yX:=BX.size;have Bf:Below w.heap.size w Wf:=BX.grown hg BX.size (fun q S=>by have:=Option.some.inj S;omega);have f7:=(a6.grow hg (fun q S U=>by have:=Option.some.inj S;have:=(a6.lt q U).1;omega)).mono (B':=w.heap.size) (by omega);have f9:=(a7.grow hg (fun q S U=>by have:=Option.some.inj S;have:=(a7.lt q U).1;omega)).mono (B':=w.heap.size) (by omega);have Gf:=R.cell;clear z;obtain⟨N,M,L,Q,O⟩:=H.out;exact bodyPost_ret (v:=.tuple #[.agg #[.int .i64 7,.int .i64 0,.slice none 0 0,.int .i64 0,.slice none 0 0,.int .i64 g,.slice p7 i7 q7,.int .i64 1,.int .i64 0,.slice p9 i9 q9],.bool true]) (by simp[results,Tryz.results53,go_sem,Gf]) rfl
     ⟨none,0,0,none,0,0,p7,i7,q7,p9,i9,q9,by rw[N,M,Q,Z.out,HB.out];rfl,aL.nil _ _ _,aL.nil _ _ _,by rw[L];exact f7,by rw[O,Z.out];exact f9,
      ⟨aF.nil _ _ _,aF.nil _ _ _,aF.nil _ _ _,aF.nil _ _ _,aF.nil _ _ _,d0⟩,Bf⟩
   |false=>
    have Z:=Lib.hid b7;clear K b7 o9 f6;have G1:=Y.cell;have z1:=Y.lt;go_wp2_with fail;refine(WQ _ g f4.out _ l (hv.below B9 (Nat.le_refl _)) hl).mono ?_;rintro e WX ⟨p9,i9,q9,rfl,o9,D⟩;have KX:=A.keep D;have I:=I.keep D;have BX:=B9.after D B9.size;have d0:aF (.slice p7 i7 q7) (.slice p9 i9 q9):=aF.of_lt o7 o9 (Nat.le_refl _);have a6:=o7.keep D;have l5:=D.size;have a7:=o9.mono (B':=w.heap.size+2) (by omega);clear D G1;have z2:=KX.lt;have zF:=I.lt;have G2:=KX.cell;have F2:=KX.frozen;have GF:=I.cell;go_wp2;refine aI ?_;intro Wf z;have R:aB Wf (w.heap.size+1) 49 #[.int .i64 7,.int .i64 0,.slice none 0 0,.int .i64 0,.slice none 0 0,.int .i64 g,.slice p7 i7 q7,.int .i64 0,.int .i64 0,.slice p9 i9 q9]:=by
     rw[z];have:=(((((((((KX.set 0 (.int .i64 7)).set 1 (.int .i64 0)).set 2 (.slice none 0 0)).set 3 (.int .i64 0)).set 4 (.slice none 0 0)).set 5 (.int .i64 g)).set 6 (.slice p7 i7 q7)).set 7 (.int .i64 0)).set 8 (.int .i64 0)).set 9 (.slice p9 i9 q9);simpa using this
    have hg:WX.grownBy Wf (some (w.heap.size+1)):=by
     rw[z];exact(aA (aA (aA (aA (aA (aA (aA (aA (aA (aA (World.grownBy.refl _ _) 0 _) 1 _) 2 _) 3 _) 4 _) 5 _) 6 _) 7 _) 8 _) 9 _)
    have yX:=BX.size;have Bf:Below w.heap.size w Wf:=BX.grown hg BX.size (fun q S=>by have:=Option.some.inj S;omega);have f7:=(a6.grow hg (fun q S U=>by have:=Option.some.inj S;have:=(a6.lt q U).1;omega)).mono (B':=w.heap.size) (by omega);have f9:=(a7.grow hg (fun q S U=>by have:=Option.some.inj S;have:=(a7.lt q U).1;omega)).mono (B':=w.heap.size) (by omega);have Gf:=R.cell;clear z;obtain⟨N,M,L,Q,O⟩:=H.out;exact bodyPost_ret (v:=.tuple #[.agg #[.int .i64 7,.int .i64 0,.slice none 0 0,.int .i64 0,.slice none 0 0,.int .i64 g,.slice p7 i7 q7,.int .i64 0,.int .i64 0,.slice p9 i9 q9],.bool true]) (by simp[results,Tryz.results53,go_sem,Gf]) rfl
     ⟨none,0,0,none,0,0,p7,i7,q7,p9,i9,q9,by rw[N,M,Q,Z.out,HB.out];rfl,aL.nil _ _ _,aL.nil _ _ _,by rw[L];exact f7,by rw[O,Z.out];exact f9,
      ⟨aF.nil _ _ _,aF.nil _ _ _,aF.nil _ _ _,aF.nil _ _ _,aF.nil _ _ _,d0⟩,Bf⟩
end
end Go.Proofs.YtipejodijbjpcaaGreatDoor
