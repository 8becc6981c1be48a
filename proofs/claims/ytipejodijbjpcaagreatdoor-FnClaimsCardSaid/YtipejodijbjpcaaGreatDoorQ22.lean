/- Lemmas for CardClaims, part 22 of 52. No condition. -/
import Derived.Test.YtipejodijbjpcaaGreatDoorQ02
import Derived.Test.YtipejodijbjpcaaGreatDoorQ03
import Derived.Test.YtipejodijbjpcaaGreatDoorQ06
import Derived.Test.YtipejodijbjpcaaGreatDoorQ11
import Derived.Test.YtipejodijbjpcaaGreatDoorQ20
import Derived.Test.YtipejodijbjpcaaGreatDoorQ21
set_option maxRecDepth 100000
set_option maxHeartbeats 64000000
namespace Go.Proofs.YtipejodijbjpcaaGreatDoor
section
open Go.RowKit Go.G5
def rS(n:Int)(l:List Int):Int:=if eF n l then 5 else 0
def rQ(n:Int)(l:List Int):Int:=if eF n l then n else 0
def pV(n:Int)(l:List Int):List Int:=if eF n l then l else []
theorem CL(n:Int)(l:List Int)(h:l.length<=1048576):(pV n l).length<=1048576:=by unfold pV;split<;>simp_all
theorem lB(w:World)(n:Int)(v:Value)(l:List Int)(hv:aD w v l)(hl:l.length<=1048576):
  Calls Tryz.prog 134 #[.agg #[.int .i64 n,v]] w fun e w'=>∃ad i cp,e=.returned (.agg #[.int .i64 n,.slice ad i cp])/\aC 3 w.heap.size w' (.slice ad i cp) l/\Below w.heap.size w w':=by
 obtain⟨a,c,rfl⟩:=hv.shape;have A:([]:List Int).length+l.length<=17592186044416:=by simp;omega
 have b3:=Lib.hid A;clear A;go_enter Tryz.func134,Tryz.ntmps134;go_wp2_with fail;obtain⟨V,z⟩:∃V,V=(w.alloc (.cells #[.int .i64 n,.slice a l.length c] 32)).alloc (.cells #[.int .i64 0,.slice none 0 0] 32):=⟨_,rfl⟩;rw[<-z];have B:Below w.heap.size w V:=by rw[z];exact cD _ _ _
 have N:aB V w.heap.size 32 #[.int .i64 n,.slice a l.length c]:=by rw[z];exact(aB.new _ _ _).alloc _
 have Z:aB V (w.heap.size+1) 32 #[.int .i64 0,.slice none 0 0]:=by rw[z];have:=aB.new (w.alloc (.cells #[.int .i64 n,.slice a l.length c] 32)) 32 #[.int .i64 0,.slice none 0 0];simpa using this
 clear z;have S:=hv.below B (Nat.le_refl _);have e1:V.cell? ⟨w.heap.size,0,none⟩=some (.int .i64 n):=N.cell 0;have e2:V.cell? ⟨w.heap.size,1,none⟩=some (.slice a l.length c):=N.cell 1;have z2:=Z.lt;have z1:=N.lt;go_region_held3 (fun w'=>w'.cell? ⟨w.heap.size,0,none⟩=some (.int .i64 n)/\w'.cell? ⟨w.heap.size,1,none⟩=some (.slice a l.length c)) (go_keep)
  (first
   |(go_at_call 242;refine(pY _ l _ ?_ hl).mono ?_;(with_reducible exact S.drew');rintro b4 Y ⟨F,D,I,rfl,U,L⟩;have o7:aC 3 V.heap.size Y (.slice F D I) l:=U;have K:=(Z.drewN 1).keep L;have G2:=K.cell;have F2:=K.frozen;have z7:=K.lt;obtain⟨b5,b6⟩:=pX L V.heap.size (Nat.le_refl _)))
 go_wp2;refine aI ?_;intro Wf o;have O:aB Wf (w.heap.size+1) 32 #[.int .i64 n,.slice F D I]:=by
  rw[o];have:=(K.set 0 (.int .i64 n)).set 1 (.slice F D I);simpa using this
 have hg:Y.grownBy Wf (some (w.heap.size+1)):=by rw[o];exact aA (aA (World.grownBy.refl _ _) 0 _) 1 _
 have M:Below w.heap.size w Y:=by first|exact B.after L B.size|exact(B.drewN' 1).after L B.size
 have y7:=M.size;have yB:=B.size;have Bf:Below w.heap.size w Wf:=M.grown hg M.size (fun q Q=>by have:=Option.some.inj Q;omega);have of:=(o7.grow hg (fun q Q R=>by have:=Option.some.inj Q;have:=(o7.lt q R).1;omega)).mono (B':=w.heap.size) (by omega);have Gf:=O.cell;clear o;exact bodyPost_ret (v:=.agg #[.int .i64 n,.slice F D I]) (by simp[results,Tryz.results134,go_sem,Gf]) rfl ⟨F,D,I,rfl,of,Bf⟩
theorem kZ(w:World)(n:Int)(v:Value)(l:List Int)(hv:aD w v l)(hl:l.length<=1048576):
  Calls Tryz.prog 158 #[.agg #[.int .i64 n,v]] w fun e w'=>∃ad i cp,e=.returned (.agg #[.int .i64 n,.slice ad i cp])/\aC 3 w.heap.size w' (.slice ad i cp) l/\Below w.heap.size w w':=by
 obtain⟨a,c,rfl⟩:=hv.shape;have A:([]:List Int).length+l.length<=17592186044416:=by simp;omega
 have N:=Lib.hid A;clear A;go_enter Tryz.func158,Tryz.ntmps158;go_wp2_with fail;obtain⟨V,z⟩:∃V,V=(w.alloc (.cells #[.int .i64 n,.slice a l.length c] 32)).alloc (.cells #[.int .i64 0,.slice none 0 0] 32):=⟨_,rfl⟩;rw[<-z];have B:Below w.heap.size w V:=by rw[z];exact cD _ _ _
 have O:aB V w.heap.size 32 #[.int .i64 n,.slice a l.length c]:=by rw[z];exact(aB.new _ _ _).alloc _
 have Z:aB V (w.heap.size+1) 32 #[.int .i64 0,.slice none 0 0]:=by rw[z];have:=aB.new (w.alloc (.cells #[.int .i64 n,.slice a l.length c] 32)) 32 #[.int .i64 0,.slice none 0 0];simpa using this
 clear z;have U:=hv.below B (Nat.le_refl _);have e1:V.cell? ⟨w.heap.size,0,none⟩=some (.int .i64 n):=O.cell 0;have e2:V.cell? ⟨w.heap.size,1,none⟩=some (.slice a l.length c):=O.cell 1;have z2:=Z.lt;have z1:=O.lt;go_region_held3 (fun w'=>w'.cell? ⟨w.heap.size,0,none⟩=some (.int .i64 n)/\w'.cell? ⟨w.heap.size,1,none⟩=some (.slice a l.length c)) (go_keep)
  (first
   |(refine cV rfl _ _ _ rfl 3 Tryz.underlying22 aG V.heap.size (.slice (some ⟨_,0,none⟩) 0 0) [] rfl (.slice a l.length c) l rfl ?_ ?_ N.out V ?_ (Nat.le_refl _) ?_;(with_reducible exact(aC.lit0 V (Nat.le_refl _)).drew');(with_reducible exact(U.alloc _).drew');(with_reducible exact(aM V _).drew);(intro v7 w7 Y F _;obtain⟨K,I,L,rfl⟩:=Y.shape3;have D:=Z.keep F;have G2:=D.cell;have F2:=D.frozen;have z7:=D.lt;obtain⟨b3,b4⟩:=pX F V.heap.size (Nat.le_refl _))))
 go_wp2;refine aI ?_;intro Wf o;have Q:aB Wf (w.heap.size+1) 32 #[.int .i64 n,.slice K I L]:=by
  rw[o];have:=(D.set 0 (.int .i64 n)).set 1 (.slice K I L);simpa using this
 have hg:w7.grownBy Wf (some (w.heap.size+1)):=by rw[o];exact aA (aA (World.grownBy.refl _ _) 0 _) 1 _
 have M:Below w.heap.size w w7:=by first|exact B.after F B.size|exact(B.drewN' 1).after F B.size
 have y7:=M.size;have yB:=B.size;have Bf:Below w.heap.size w Wf:=M.grown hg M.size (fun q R=>by have:=Option.some.inj R;omega);have of:=(Y.grow hg (fun q R S=>by have:=Option.some.inj R;have:=(Y.lt q S).1;omega)).mono (B':=w.heap.size) (by omega);have Gf:=Q.cell;clear o;exact bodyPost_ret (v:=.agg #[.int .i64 n,.slice K I L]) (by simp[results,Tryz.results158,go_sem,Gf]) rfl ⟨K,I,L,rfl,of,Bf⟩
theorem MA(w:World)(n:Int)(v:Value)(l:List Int)(hv:aD w v l)(hl:l.length<=1048576):
  Calls Tryz.prog 47 #[.agg #[.int .i64 n,v]] w fun e w'=>∃Z i0 q0 p1 U q1 p2 i2 q2 p3 i3 q3,e=.returned (.tuple #[.agg #[.int .i64 (rS n l),.int .i64 (rQ n l),.slice Z i0 q0,.int .i64 0,.slice p1 U q1,.int .i64 0,.slice p2 i2 q2,.int .i64 (gL n l),.int .i64 (gZ n l),.slice p3 i3 q3],.bool (eF n l)])/\aL 3 w.heap.size w' (.slice Z i0 q0) (pV n l)/\aL 3 w.heap.size w' (.slice p1 U q1) []/\aL 3 w.heap.size w' (.slice p2 i2 q2) []/\aL 3 w.heap.size w' (.slice p3 i3 q3) []/\(aF (.slice Z i0 q0) (.slice p1 U q1)/\aF (.slice Z i0 q0) (.slice p2 i2 q2)/\aF (.slice Z i0 q0) (.slice p3 i3 q3)/\aF (.slice p1 U q1) (.slice p2 i2 q2)/\aF (.slice p1 U q1) (.slice p3 i3 q3)/\aF (.slice p2 i2 q2) (.slice p3 i3 q3))/\Below w.heap.size w w':=by
 obtain⟨a,c,rfl⟩:=hv.shape;go_enter Tryz.func47,Tryz.ntmps47;go_wp2_with fail;refine aH ?_;intro V hV;have B:Below w.heap.size w V:=by rw[hV];exact cD _ _ _
 have K1:aB V w.heap.size 32 #[.int .i64 n,.slice a l.length c]:=by rw[hV];exact(aB.new _ _ _).alloc _
 have L:aB V (w.heap.size+1) 49 #[.int .i64 0,.int .i64 0,.slice none 0 0,.int .i64 0,.slice none 0 0,.int .i64 0,.slice none 0 0,.int .i64 0,.int .i64 0,.slice none 0 0]:=by rw[hV];have:=aB.new (w.alloc (.cells #[.int .i64 n,.slice a l.length c] 32)) 49 #[.int .i64 0,.int .i64 0,.slice none 0 0,.int .i64 0,.slice none 0 0,.int .i64 0,.slice none 0 0,.int .i64 0,.int .i64 0,.slice none 0 0];simpa using this
 clear hV;refine(DP _ n _ l (hv.below B (Nat.le_refl _)) hl).mono ?_;rintro e w1 ⟨rfl,I⟩;have K1:=K1.keep I;have L:=L.keep I;have R:=B.after I B.size;have e4:=hv.below R (Nat.le_refl _);have z1:=K1.lt;have z2:=L.lt;clear I B
 cases z:eF n l with
 |false=>
  have A:rS n l=0:=by unfold rS;rw[z];rfl
  have F:rQ n l=0:=by unfold rQ;rw[z];rfl
  have D:pV n l=[]:=by unfold pV;rw[z];rfl
  have jN:gL n l=0:=by unfold gL;rw[z];rfl
  have K:gZ n l=0:=by unfold gZ;rw[z];rfl
  have H:=Lib.hid (And.intro A (And.intro F (And.intro D (And.intro jN K))));have HB:=Lib.hid z;clear A F D jN K z;have G2:=L.cell;have F2:=L.frozen;go_wp2;refine aI ?_;intro Wf o;have M:aB Wf (w.heap.size+1) 49 #[.int .i64 0,.int .i64 0,.slice none 0 0,.int .i64 0,.slice none 0 0,.int .i64 0,.slice none 0 0,.int .i64 0,.int .i64 0,.slice none 0 0]:=by
   rw[o];have:=(((((((((L.set 0 (.int .i64 0)).set 1 (.int .i64 0)).set 2 (.slice none 0 0)).set 3 (.int .i64 0)).set 4 (.slice none 0 0)).set 5 (.int .i64 0)).set 6 (.slice none 0 0)).set 7 (.int .i64 0)).set 8 (.int .i64 0)).set 9 (.slice none 0 0);simpa using this
  have hg:w1.grownBy Wf (some (w.heap.size+1)):=by
   rw[o];exact(aA (aA (aA (aA (aA (aA (aA (aA (aA (aA (World.grownBy.refl _ _) 0 _) 1 _) 2 _) 3 _) 4 _) 5 _) 6 _) 7 _) 8 _) 9 _)
  have Bf:Below w.heap.size w Wf:=R.grown hg R.size (fun q S=>by have:=Option.some.inj S;omega);have Gf:=M.cell;clear o G2 F2;obtain⟨A,F,D,jN,K⟩:=H.out;exact bodyPost_ret (v:=.tuple #[.agg #[.int .i64 0,.int .i64 0,.slice none 0 0,.int .i64 0,.slice none 0 0,.int .i64 0,.slice none 0 0,.int .i64 0,.int .i64 0,.slice none 0 0],.bool false]) (by simp[results,Tryz.results47,go_sem,Gf]) rfl
   ⟨none,0,0,none,0,0,none,0,0,none,0,0,by rw[A,F,jN,K,HB.out],by rw[D];exact aL.nil _ _ _,aL.nil _ _ _,aL.nil _ _ _,aL.nil _ _ _,
    ⟨aF.nil _ _ _,aF.nil _ _ _,aF.nil _ _ _,aF.nil _ _ _,aF.nil _ _ _,aF.nil _ _ _⟩,Bf⟩
 |true=>
  have A:rS n l=5:=by unfold rS;rw[z];rfl
  have F:rQ n l=n:=by unfold rQ;rw[z];rfl
  have D:pV n l=l:=by unfold pV;rw[z];rfl
  have H:=Lib.hid (And.intro A (And.intro F D));have HB:=Lib.hid z;obtain⟨cn,O⟩:∃q,q=gL n l:=⟨_,rfl⟩;obtain⟨cs,Q⟩:∃q,q=gZ n l:=⟨_,rfl⟩;rw[<-O,<-Q];have c7:=Lib.hid O;have c8:=Lib.hid Q;clear A F D z O Q;have G1:=K1.cell;go_wp2_with fail;refine(lB _ n _ l e4 hl).mono ?_;rintro e w7 ⟨p7,i7,q7,rfl,o7,N⟩;have K7:=L.keep N;have B7:=R.after N R.size;have Y:=o7.toW.mono (B':=w.heap.size+2) (by omega);have G2:=K7.cell;have F2:=K7.frozen;have z7:=K7.lt;clear N G1 o7;go_wp2;refine aI ?_;intro Wf o;have M:aB Wf (w.heap.size+1) 49 #[.int .i64 5,.int .i64 n,.slice p7 i7 q7,.int .i64 0,.slice none 0 0,.int .i64 0,.slice none 0 0,.int .i64 cn,.int .i64 cs,.slice none 0 0]:=by
   rw[o];have:=(((((((((K7.set 0 (.int .i64 5)).set 1 (.int .i64 n)).set 2 (.slice p7 i7 q7)).set 3 (.int .i64 0)).set 4 (.slice none 0 0)).set 5 (.int .i64 0)).set 6 (.slice none 0 0)).set 7 (.int .i64 cn)).set 8 (.int .i64 cs)).set 9 (.slice none 0 0);simpa using this
  have hg:w7.grownBy Wf (some (w.heap.size+1)):=by
   rw[o];exact(aA (aA (aA (aA (aA (aA (aA (aA (aA (aA (World.grownBy.refl _ _) 0 _) 1 _) 2 _) 3 _) 4 _) 5 _) 6 _) 7 _) 8 _) 9 _)
  have y7:=B7.size;have Bf:Below w.heap.size w Wf:=B7.grown hg B7.size (fun q S=>by have:=Option.some.inj S;omega);have f7:=(Y.grow hg (fun q S d0=>by have:=Option.some.inj S;have:=(Y.lt q d0).1;omega)).mono (B':=w.heap.size) (by omega);have Gf:=M.cell;clear o;obtain⟨A,F,D⟩:=H.out;exact bodyPost_ret (v:=.tuple #[.agg #[.int .i64 5,.int .i64 n,.slice p7 i7 q7,.int .i64 0,.slice none 0 0,.int .i64 0,.slice none 0 0,.int .i64 cn,.int .i64 cs,.slice none 0 0],.bool true]) (by simp[results,Tryz.results47,go_sem,Gf]) rfl
   ⟨p7,i7,q7,none,0,0,none,0,0,none,0,0,by rw[A,F,c7.out,c8.out,HB.out],by rw[D];exact f7,aL.nil _ _ _,aL.nil _ _ _,aL.nil _ _ _,
    ⟨(aF.nil _ _ _).symm,(aF.nil _ _ _).symm,(aF.nil _ _ _).symm,aF.nil _ _ _,aF.nil _ _ _,aF.nil _ _ _⟩,Bf⟩
theorem xT(w:World)(n:Int)(v:Value)(l:List Int)(hv:aD w v l)(hl:l.length<=1048576):
  Calls Tryz.prog 48 #[.agg #[.int .i64 n,v]] w fun e w'=>∃Z i0 q0 p1 U q1 p2 i2 q2 p3 i3 q3,e=.returned (.tuple #[.agg #[.int .i64 (rS n l),.int .i64 (rQ n l),.slice Z i0 q0,.int .i64 0,.slice p1 U q1,.int .i64 0,.slice p2 i2 q2,.int .i64 (gL n l),.int .i64 (gZ n l),.slice p3 i3 q3],.bool (eF n l)])/\aL 3 w.heap.size w' (.slice Z i0 q0) (pV n l)/\aL 3 w.heap.size w' (.slice p1 U q1) []/\aL 3 w.heap.size w' (.slice p2 i2 q2) []/\aL 3 w.heap.size w' (.slice p3 i3 q3) []/\(aF (.slice Z i0 q0) (.slice p1 U q1)/\aF (.slice Z i0 q0) (.slice p2 i2 q2)/\aF (.slice Z i0 q0) (.slice p3 i3 q3)/\aF (.slice p1 U q1) (.slice p2 i2 q2)/\aF (.slice p1 U q1) (.slice p3 i3 q3)/\aF (.slice p2 i2 q2) (.slice p3 i3 q3))/\Below w.heap.size w w':=by
 obtain⟨a,c,rfl⟩:=hv.shape;go_enter Tryz.func48,Tryz.ntmps48;go_wp2_with fail;refine aH ?_;intro V hV;have B:Below w.heap.size w V:=by rw[hV];exact cD _ _ _
 have K1:aB V w.heap.size 32 #[.int .i64 n,.slice a l.length c]:=by rw[hV];exact(aB.new _ _ _).alloc _
 have L:aB V (w.heap.size+1) 49 #[.int .i64 0,.int .i64 0,.slice none 0 0,.int .i64 0,.slice none 0 0,.int .i64 0,.slice none 0 0,.int .i64 0,.int .i64 0,.slice none 0 0]:=by rw[hV];have:=aB.new (w.alloc (.cells #[.int .i64 n,.slice a l.length c] 32)) 49 #[.int .i64 0,.int .i64 0,.slice none 0 0,.int .i64 0,.slice none 0 0,.int .i64 0,.slice none 0 0,.int .i64 0,.int .i64 0,.slice none 0 0];simpa using this
 clear hV;refine(vI _ n _ l (hv.below B (Nat.le_refl _)) hl).mono ?_;rintro e w1 ⟨rfl,I⟩;have K1:=K1.keep I;have L:=L.keep I;have R:=B.after I B.size;have e4:=hv.below R (Nat.le_refl _);have z1:=K1.lt;have z2:=L.lt;clear I B
 cases z:eF n l with
 |false=>
  have A:rS n l=0:=by unfold rS;rw[z];rfl
  have F:rQ n l=0:=by unfold rQ;rw[z];rfl
  have D:pV n l=[]:=by unfold pV;rw[z];rfl
  have jN:gL n l=0:=by unfold gL;rw[z];rfl
  have K:gZ n l=0:=by unfold gZ;rw[z];rfl
  have H:=Lib.hid (And.intro A (And.intro F (And.intro D (And.intro jN K))));have HB:=Lib.hid z;clear A F D jN K z;have G2:=L.cell;have F2:=L.frozen;go_wp2;refine aI ?_;intro Wf o;have M:aB Wf (w.heap.size+1) 49 #[.int .i64 0,.int .i64 0,.slice none 0 0,.int .i64 0,.slice none 0 0,.int .i64 0,.slice none 0 0,.int .i64 0,.int .i64 0,.slice none 0 0]:=by
   rw[o];have:=(((((((((L.set 0 (.int .i64 0)).set 1 (.int .i64 0)).set 2 (.slice none 0 0)).set 3 (.int .i64 0)).set 4 (.slice none 0 0)).set 5 (.int .i64 0)).set 6 (.slice none 0 0)).set 7 (.int .i64 0)).set 8 (.int .i64 0)).set 9 (.slice none 0 0);simpa using this
  have hg:w1.grownBy Wf (some (w.heap.size+1)):=by
   rw[o];exact(aA (aA (aA (aA (aA (aA (aA (aA (aA (aA (World.grownBy.refl _ _) 0 _) 1 _) 2 _) 3 _) 4 _) 5 _) 6 _) 7 _) 8 _) 9 _)
  have Bf:Below w.heap.size w Wf:=R.grown hg R.size (fun q S=>by have:=Option.some.inj S;omega);have Gf:=M.cell;clear o G2 F2;obtain⟨A,F,D,jN,K⟩:=H.out;exact bodyPost_ret (v:=.tuple #[.agg #[.int .i64 0,.int .i64 0,.slice none 0 0,.int .i64 0,.slice none 0 0,.int .i64 0,.slice none 0 0,.int .i64 0,.int .i64 0,.slice none 0 0],.bool false]) (by simp[results,Tryz.results48,go_sem,Gf]) rfl
   ⟨none,0,0,none,0,0,none,0,0,none,0,0,by rw[A,F,jN,K,HB.out],by rw[D];exact aL.nil _ _ _,aL.nil _ _ _,aL.nil _ _ _,aL.nil _ _ _,
    ⟨aF.nil _ _ _,aF.nil _ _ _,aF.nil _ _ _,aF.nil _ _ _,aF.nil _ _ _,aF.nil _ _ _⟩,Bf⟩
 |true=>
  have A:rS n l=5:=by unfold rS;rw[z];rfl
  have F:rQ n l=n:=by unfold rQ;rw[z];rfl
  have D:pV n l=l:=by unfold pV;rw[z];rfl
  have H:=Lib.hid (And.intro A (And.intro F D));have HB:=Lib.hid z;obtain⟨cn,O⟩:∃q,q=gL n l:=⟨_,rfl⟩;obtain⟨cs,Q⟩:∃q,q=gZ n l:=⟨_,rfl⟩;rw[<-O,<-Q];have c7:=Lib.hid O;have c8:=Lib.hid Q;clear A F D z O Q;have G1:=K1.cell;go_wp2_with fail;refine(kZ _ n _ l e4 hl).mono ?_;rintro e w7 ⟨p7,i7,q7,rfl,o7,N⟩;have K7:=L.keep N;have B7:=R.after N R.size;have Y:=o7.toW.mono (B':=w.heap.size+2) (by omega);have G2:=K7.cell;have F2:=K7.frozen;have z7:=K7.lt;clear N G1 o7;go_wp2;refine aI ?_;intro Wf o;have M:aB Wf (w.heap.size+1) 49 #[.int .i64 5,.int .i64 n,.slice p7 i7 q7,.int .i64 0,.slice none 0 0,.int .i64 0,.slice none 0 0,.int .i64 cn,.int .i64 cs,.slice none 0 0]:=by
   rw[o];have:=(((((((((K7.set 0 (.int .i64 5)).set 1 (.int .i64 n)).set 2 (.slice p7 i7 q7)).set 3 (.int .i64 0)).set 4 (.slice none 0 0)).set 5 (.int .i64 0)).set 6 (.slice none 0 0)).set 7 (.int .i64 cn)).set 8 (.int .i64 cs)).set 9 (.slice none 0 0);simpa using this
  have hg:w7.grownBy Wf (some (w.heap.size+1)):=by
   rw[o];exact(aA (aA (aA (aA (aA (aA (aA (aA (aA (aA (World.grownBy.refl _ _) 0 _) 1 _) 2 _) 3 _) 4 _) 5 _) 6 _) 7 _) 8 _) 9 _)
  have y7:=B7.size;have Bf:Below w.heap.size w Wf:=B7.grown hg B7.size (fun q S=>by have:=Option.some.inj S;omega);have f7:=(Y.grow hg (fun q S d0=>by have:=Option.some.inj S;have:=(Y.lt q d0).1;omega)).mono (B':=w.heap.size) (by omega);have Gf:=M.cell;clear o;obtain⟨A,F,D⟩:=H.out;exact bodyPost_ret (v:=.tuple #[.agg #[.int .i64 5,.int .i64 n,.slice p7 i7 q7,.int .i64 0,.slice none 0 0,.int .i64 0,.slice none 0 0,.int .i64 cn,.int .i64 cs,.slice none 0 0],.bool true]) (by simp[results,Tryz.results48,go_sem,Gf]) rfl
   ⟨p7,i7,q7,none,0,0,none,0,0,none,0,0,by rw[A,F,c7.out,c8.out,HB.out],by rw[D];exact f7,aL.nil _ _ _,aL.nil _ _ _,aL.nil _ _ _,
    ⟨(aF.nil _ _ _).symm,(aF.nil _ _ _).symm,(aF.nil _ _ _).symm,aF.nil _ _ _,aF.nil _ _ _,aF.nil _ _ _⟩,Bf⟩
end
section
open Go.RowKit Go.G5
def nJ(n:Int)(l:List Int):Int:=if bP n l then (if fH n l then 2 else 1) else 0
def nH(n:Int)(l:List Int):Int:=if bP n l then n else 0
def mE(n:Int)(l:List Int):List Int:=if bP n l then l else []
def nF(n:Int)(l:List Int):Int:=if bP n l then (if fH n l then 0 else cO l) else 0
def nE(n:Int)(l:List Int):Int:=if bP n l then (if fH n l then 0 else kY n l) else 0
def mF(n:Int)(l:List Int):List Int:=if bP n l then (if fH n l then fS n l else kW n l) else []
theorem wR(n:Int)(l:List Int)(h:l.length<=1048576):(mE n l).length<=1048576:=by unfold mE;split<;>simp_all
theorem wU(n:Int)(l:List Int):(mF n l).length<=1048576:=by
 unfold mF
 split
 ·rename_i h
  split
  ·have:=PP n l;omega
  ·unfold kW kX
   obtain⟨N,rfl,o,_⟩:=bN (jD h)
   split
   ·split
    ·rw[tZ];unfold mT;simp;omega
    ·simp
   ·simp
 ·simp
theorem KR(w:World)(n:Int)(v:Value)(l:List Int)(hv:aD w v l)(hl:l.length<=1048576):
  Calls Tryz.prog 26 #[.agg #[.int .i64 n,v]] w fun e w'=>∃A i0 D p1 i1 q1 p2 i2 q2 p3 i3 q3,e=.returned (.tuple #[.agg #[.int .i64 (nJ n l),.int .i64 (nH n l),.slice A i0 D,.int .i64 0,.slice p1 i1 q1,.int .i64 0,.slice p2 i2 q2,.int .i64 (nF n l),.int .i64 (nE n l),.slice p3 i3 q3],.bool (bP n l)])/\aL 3 w.heap.size w' (.slice A i0 D) (mE n l)/\aL 3 w.heap.size w' (.slice p1 i1 q1) []/\aL 3 w.heap.size w' (.slice p2 i2 q2) []/\aL 3 w.heap.size w' (.slice p3 i3 q3) (mF n l)/\(aF (.slice A i0 D) (.slice p1 i1 q1)/\aF (.slice A i0 D) (.slice p2 i2 q2)/\aF (.slice A i0 D) (.slice p3 i3 q3)/\aF (.slice p1 i1 q1) (.slice p2 i2 q2)/\aF (.slice p1 i1 q1) (.slice p3 i3 q3)/\aF (.slice p2 i2 q2) (.slice p3 i3 q3))/\Below w.heap.size w w':=by
 obtain⟨a,c,rfl⟩:=hv.shape;go_enter Tryz.func26,Tryz.ntmps26;go_wp2_with fail;refine aH ?_;intro V hV;have B:Below w.heap.size w V:=by rw[hV];exact cD _ _ _
 have I:aB V w.heap.size 32 #[.int .i64 n,.slice a l.length c]:=by rw[hV];exact(aB.new _ _ _).alloc _
 have o:aB V (w.heap.size+1) 49 #[.int .i64 0,.int .i64 0,.slice none 0 0,.int .i64 0,.slice none 0 0,.int .i64 0,.slice none 0 0,.int .i64 0,.int .i64 0,.slice none 0 0]:=by rw[hV];have:=aB.new (w.alloc (.cells #[.int .i64 n,.slice a l.length c] 32)) 49 #[.int .i64 0,.int .i64 0,.slice none 0 0,.int .i64 0,.slice none 0 0,.int .i64 0,.slice none 0 0,.int .i64 0,.int .i64 0,.slice none 0 0];simpa using this
 clear hV;refine(nC n l _ V (hv.below B (Nat.le_refl _))).mono ?_;rintro e w1 ⟨rfl,b1⟩;have I:=I.keep b1;have o:=o.keep b1;have B:=B.after b1 B.size;have z3:w.heap.size+1<w1.heap.size:=o.lt
 cases z:bP n l with
 |false=>
  have Y:nJ n l=0:=by unfold nJ;rw[z];rfl
  have S:nH n l=0:=by unfold nH;rw[z];rfl
  have Z:mE n l=[]:=by unfold mE;rw[z];rfl
  have hP:nF n l=0:=by unfold nF;rw[z];rfl
  have hS:nE n l=0:=by unfold nE;rw[z];rfl
  have U:mF n l=[]:=by unfold mF;rw[z];rfl
  have H:=Lib.hid (And.intro Y (And.intro S (And.intro Z (And.intro hP (And.intro hS (And.intro U z))))));clear Y S Z hP hS U z;have G3:=o.cell;have F3:=o.frozen;go_wp2;refine aI ?_;intro Wf F;have a8:aB Wf (w.heap.size+1) 49 #[.int .i64 0,.int .i64 0,.slice none 0 0,.int .i64 0,.slice none 0 0,.int .i64 0,.slice none 0 0,.int .i64 0,.int .i64 0,.slice none 0 0]:=by
   rw[F];have:=((((((((((o.set 0 (.int .i64 0)).set 1 (.int .i64 0)).set 2 (.slice none 0 0)).set 3 (.int .i64 0)).set 4 (.slice none 0 0)).set 5 (.int .i64 0)).set 6 (.slice none 0 0)).set 7 (.int .i64 0)).set 8 (.int .i64 0)).set 9 (.slice none 0 0));simpa using this
  have hg:w1.grownBy Wf (some (w.heap.size+1)):=by
   rw[F];exact(aA (aA (aA (aA (aA (aA (aA (aA (aA (aA (World.grownBy.refl _ _) 0 _) 1 _) 2 _) 3 _) 4 _) 5 _) 6 _) 7 _) 8 _) 9 _)
  have Bf:Below w.heap.size w Wf:=B.grown hg B.size (fun q M=>by have:=Option.some.inj M;omega);have Gf:=a8.cell;clear F;obtain⟨Y,S,Z,hP,hS,U,hB⟩:=H.out;exact bodyPost_ret (v:=.tuple #[.agg #[.int .i64 0,.int .i64 0,.slice none 0 0,.int .i64 0,.slice none 0 0,.int .i64 0,.slice none 0 0,.int .i64 0,.int .i64 0,.slice none 0 0],.bool false]) (by simp[results,Tryz.results26,go_sem,Gf]) rfl
   ⟨none,0,0,none,0,0,none,0,0,none,0,0,by rw[Y,S,hP,hS,hB],by rw[Z];exact aL.nil _ _ _,aL.nil _ _ _,aL.nil _ _ _,by rw[U];exact aL.nil _ _ _,⟨aF.nil _ _ _,aF.nil _ _ _,aF.nil _ _ _,aF.nil _ _ _,aF.nil _ _ _,aF.nil _ _ _⟩,Bf⟩
 |true=>
 have G1:=I.cell;go_wp2_with fail;clear G1;refine(MY w1 n _ l (hv.below B (Nat.le_refl _)) hl).mono ?_;rintro e wl ⟨A,i0,D,rfl,o0,b2⟩;have I:=I.keep b2;have o:=o.keep b2;have B:=B.after b2 B.size;have o0:=o0.mono (B':=w.heap.size+1+1) z3;have z3:w.heap.size+1<wl.heap.size:=o.lt
 cases K:fH n l with
 |true=>
  have Y:nJ n l=2:=by unfold nJ;rw[z,K];rfl
  have S:nH n l=n:=by unfold nH;rw[z];rfl
  have Z:mE n l=l:=by unfold mE;rw[z];rfl
  have hP:nF n l=0:=by unfold nF;rw[z,K];rfl
  have hS:nE n l=0:=by unfold nE;rw[z,K];rfl
  have U:mF n l=fS n l:=by unfold mF;rw[z,K];rfl
  have H:=Lib.hid (And.intro Y (And.intro S (And.intro Z (And.intro hP (And.intro hS (And.intro U z))))));clear Y S Z hP hS U z K;have G1:=I.cell;go_wp2_with fail;clear G1;refine(lB wl n _ l (hv.below B (Nat.le_refl _)) hl).mono ?_;rintro e w5 ⟨O,i5,Q,rfl,L,b5⟩;have c6:=o.keep b5;have j7:=c6.cell;have j5:=c6.frozen;have B5:=B.after b5 B.size;have x5:=L.toW.mono (B':=w.heap.size+1+1) (by omega);have x0:aL 3 (w.heap.size+1+1) w5 (.slice A i0 D) (fS n l):=o0.keep b5;have a9:aF (.slice O i5 Q) (.slice A i0 D):=(aF.of_lt o0 L.toW (Nat.le_refl _)).symm;go_wp2;refine aI ?_;intro Wf F;have a8:aB Wf (w.heap.size+1) 49 #[.int .i64 2,.int .i64 n,.slice O i5 Q,.int .i64 0,.slice none 0 0,.int .i64 0,.slice none 0 0,.int .i64 0,.int .i64 0,.slice A i0 D]:=by
   rw[F];have:=((((((((((c6.set 0 (.int .i64 2)).set 1 (.int .i64 n)).set 2 (.slice O i5 Q)).set 3 (.int .i64 0)).set 4 (.slice none 0 0)).set 5 (.int .i64 0)).set 6 (.slice none 0 0)).set 7 (.int .i64 0)).set 8 (.int .i64 0)).set 9 (.slice A i0 D));simpa using this
  have hg:w5.grownBy Wf (some (w.heap.size+1)):=by
   rw[F];exact(aA (aA (aA (aA (aA (aA (aA (aA (aA (aA (World.grownBy.refl _ _) 0 _) 1 _) 2 _) 3 _) 4 _) 5 _) 6 _) 7 _) 8 _) 9 _)
  have Bf:Below w.heap.size w Wf:=B5.grown hg B5.size (fun q M=>by have:=Option.some.inj M;omega);have f5:=(x5.grow hg (fun q M R=>by have:=Option.some.inj M;have:=(x5.lt q R).1;omega)).mono (B':=w.heap.size) (by omega);have f0:=(x0.grow hg (fun q M R=>by have:=Option.some.inj M;have:=(x0.lt q R).1;omega)).mono (B':=w.heap.size) (by omega);have Gf:=a8.cell;clear F;obtain⟨Y,S,Z,hP,hS,U,hB⟩:=H.out;exact bodyPost_ret (v:=.tuple #[.agg #[.int .i64 2,.int .i64 n,.slice O i5 Q,.int .i64 0,.slice none 0 0,.int .i64 0,.slice none 0 0,.int .i64 0,.int .i64 0,.slice A i0 D],.bool true]) (by simp[results,Tryz.results26,go_sem,Gf]) rfl
   ⟨O,i5,Q,none,0,0,none,0,0,A,i0,D,by rw[Y,S,hP,hS,hB],by rw[Z];exact f5,aL.nil _ _ _,aL.nil _ _ _,by rw[U];exact f0,⟨(aF.nil _ _ _).symm,(aF.nil _ _ _).symm,a9,aF.nil _ _ _,aF.nil _ _ _,aF.nil _ _ _⟩,Bf⟩
 |false=>
  have Y:nJ n l=1:=by unfold nJ;rw[z,K];rfl
  have S:nH n l=n:=by unfold nH;rw[z];rfl
  have Z:mE n l=l:=by unfold mE;rw[z];rfl
  have hP:nF n l=cO l:=by unfold nF;rw[z,K];rfl
  have hS:nE n l=kY n l:=by unfold nE;rw[z,K];rfl
  have U:mF n l=kW n l:=by unfold mF;rw[z,K];rfl
  have H:=Lib.hid (And.intro Y (And.intro S (And.intro Z (And.intro hP (And.intro hS (And.intro U z))))));have f8:rC n l=cO l:=by unfold rC;rw[jD z];rfl
  clear Y S Z hP hS U z K;have G1:=I.cell;go_wp2_with fail;clear G1;refine(lB wl n _ l (hv.below B (Nat.le_refl _)) hl).mono ?_;rintro e w5 ⟨O,i5,Q,rfl,L,b5⟩;have I:=I.keep b5;have o:=o.keep b5;have B:=B.after b5 B.size;have L:=L.mono (B':=w.heap.size+1+1) z3;have z5:w.heap.size+1<w5.heap.size:=o.lt;have j0:=L;have G1:=(I.alloc (.cells #[.int .i64 1,.int .i64 n,.slice O i5 Q,.int .i64 0,.slice none 0 0,.int .i64 0,.slice none 0 0,.int .i64 0,.int .i64 0,.slice none 0 0] 49)).cell;go_wp2_with fail;clear G1;refine aH ?_;intro V2 c9;obtain⟨gc,e4⟩:∃g,g=w5.heap.size:=⟨_,rfl⟩;have N:aB V2 gc 49 #[.int .i64 1,.int .i64 n,.slice O i5 Q,.int .i64 0,.slice none 0 0,.int .i64 0,.slice none 0 0,.int .i64 0,.int .i64 0,.slice none 0 0]:=by rw[c9,e4];exact aB.new _ _ _
  have bv:Below w5.heap.size w5 V2:=by rw[c9];exact aM _ _
  have I:=I.keep bv;have o:=o.keep bv;have B:=B.after bv B.size;have L:=L.keep bv;have zc:w.heap.size+1<gc:=by omega
  have e5:some gc≠(Value.slice O i5 Q).ownBlock:=fun h=>by have:=(j0.lt gc h.symm).2;omega
  rw[<-e4];clear c9 e4 z5;refine(qU V2 n _ l (hv.below B (Nat.le_refl _))).mono ?_;rintro e w6 ⟨rfl,b6⟩;have I:=I.keep b6;have o:=o.keep b6;have N:=N.keep b6;have B:=B.after b6 B.size;have L:=L.keep b6;simp only[f8];clear f8;have G1:=(I.far (p:=⟨gc,7,none⟩) (by show w.heap.size≠gc;omega) (.int .i64 (cO l))).cell;have GC:=N.cell;have FC:=N.frozen;go_wp2_with fail;clear G1 GC FC;refine aH ?_;intro V3 d0;have bs:w6.grownBy V3 (some gc):=by rw[d0];exact aA (World.grownBy.refl _ _) 7 _
  have I:=I.grow bs (by simp;omega);have o:=o.grow bs (by simp;omega);have N:aB V3 gc 49 #[.int .i64 1,.int .i64 n,.slice O i5 Q,.int .i64 0,.slice none 0 0,.int .i64 0,.slice none 0 0,.int .i64 (cO l),.int .i64 0,.slice none 0 0]:=by rw[d0];have:=N.set 7 (.int .i64 (cO l));simpa using this
  have B:=B.grown bs B.size (fun q M=>by have:=Option.some.inj M;omega);have L:=L.grow bs (fun k hk h=>e5 (by rw[h];exact hk));clear d0;refine(EY V3 n _ l (hv.below B (Nat.le_refl _)) hl).mono ?_;rintro e w7 ⟨rfl,b7⟩;have I:=I.keep b7;have o:=o.keep b7;have N:=N.keep b7;have B:=B.after b7 B.size;have L:=L.keep b7;have G1:=(I.far (p:=⟨gc,8,none⟩) (by show w.heap.size≠gc;omega) (.int .i64 (kY n l))).cell;have GC:=N.cell;have FC:=N.frozen;go_wp2_with fail;clear G1 GC FC;refine aH ?_;intro V4 e0;have bs:w7.grownBy V4 (some gc):=by rw[e0];exact aA (World.grownBy.refl _ _) 8 _
  have I:=I.grow bs (by simp;omega);have o:=o.grow bs (by simp;omega);have N:aB V4 gc 49 #[.int .i64 1,.int .i64 n,.slice O i5 Q,.int .i64 0,.slice none 0 0,.int .i64 0,.slice none 0 0,.int .i64 (cO l),.int .i64 (kY n l),.slice none 0 0]:=by rw[e0];have:=N.set 8 (.int .i64 (kY n l));simpa using this
  have B:=B.grown bs B.size (fun q M=>by have:=Option.some.inj M;omega);have L:=L.grow bs (fun k hk h=>e5 (by rw[h];exact hk));clear e0;refine(RI V4 n _ l (hv.below B (Nat.le_refl _)) hl).mono ?_;rintro e w8 ⟨A,i0,D,rfl,o0,b8⟩;have k2:gc<V4.heap.size:=N.lt;have a9:aF (.slice O i5 Q) (.slice A i0 D):=aF.of_lt L.toW o0.toW (Nat.le_refl _);have o:=o.keep b8;have N:=N.keep b8;have B:=B.after b8 B.size;have L:=L.keep b8;have f6:some gc≠(Value.slice A i0 D).ownBlock:=fun h=>by have:=(o0.lt gc h.symm).1;omega
  have o0:=o0.mono (B':=w.heap.size+1+1) (by omega);have K9:aB (w8.setCell ⟨gc,9,none⟩ (.slice A i0 D)) gc 49 #[.int .i64 1,.int .i64 n,.slice O i5 Q,.int .i64 0,.slice none 0 0,.int .i64 0,.slice none 0 0,.int .i64 (cO l),.int .i64 (kY n l),.slice A i0 D]:=by have:=N.set 9 (.slice A i0 D);simpa using this
  have c7:=o.far (p:=⟨gc,9,none⟩) (by show w.heap.size+1≠gc;omega) (.slice A i0 D);have b9:w8.grownBy (w8.setCell ⟨gc,9,none⟩ (.slice A i0 D)) (some gc):=aA (World.grownBy.refl _ _) 9 _;have B9:=B.grown b9 B.size (fun q M=>by have:=Option.some.inj M;omega);have x5:=(L.grow b9 (fun k hk h=>e5 (by rw[h];exact hk))).toW;have x0:=(o0.grow b9 (fun k hk h=>f6 (by rw[h];exact hk))).toW;have GC:=N.cell;have FC:=N.frozen;have G9:=K9.cell;have j8:=c7.cell;have j6:=c7.frozen;go_wp2;refine aI ?_;intro Wf F;have a8:aB Wf (w.heap.size+1) 49 #[.int .i64 1,.int .i64 n,.slice O i5 Q,.int .i64 0,.slice none 0 0,.int .i64 0,.slice none 0 0,.int .i64 (cO l),.int .i64 (kY n l),.slice A i0 D]:=by
   rw[F];have:=((((((((((c7.set 0 (.int .i64 1)).set 1 (.int .i64 n)).set 2 (.slice O i5 Q)).set 3 (.int .i64 0)).set 4 (.slice none 0 0)).set 5 (.int .i64 0)).set 6 (.slice none 0 0)).set 7 (.int .i64 (cO l))).set 8 (.int .i64 (kY n l))).set 9 (.slice A i0 D));simpa using this
  have hg:(w8.setCell ⟨gc,9,none⟩ (.slice A i0 D)).grownBy Wf (some (w.heap.size+1)):=by
   rw[F];exact(aA (aA (aA (aA (aA (aA (aA (aA (aA (aA (World.grownBy.refl _ _) 0 _) 1 _) 2 _) 3 _) 4 _) 5 _) 6 _) 7 _) 8 _) 9 _)
  have Bf:Below w.heap.size w Wf:=B9.grown hg B9.size (fun q M=>by have:=Option.some.inj M;omega);have f5:=(x5.grow hg (fun q M R=>by have:=Option.some.inj M;have:=(x5.lt q R).1;omega)).mono (B':=w.heap.size) (by omega);have f0:=(x0.grow hg (fun q M R=>by have:=Option.some.inj M;have:=(x0.lt q R).1;omega)).mono (B':=w.heap.size) (by omega);have Gf:=a8.cell;clear F;obtain⟨Y,S,Z,hP,hS,U,hB⟩:=H.out;exact bodyPost_ret (v:=.tuple #[.agg #[.int .i64 1,.int .i64 n,.slice O i5 Q,.int .i64 0,.slice none 0 0,.int .i64 0,.slice none 0 0,.int .i64 (cO l),.int .i64 (kY n l),.slice A i0 D],.bool true]) (by simp[results,Tryz.results26,go_sem,Gf]) rfl
   ⟨O,i5,Q,none,0,0,none,0,0,A,i0,D,by rw[Y,S,hP,hS,hB],by rw[Z];exact f5,aL.nil _ _ _,aL.nil _ _ _,by rw[U];exact f0,⟨(aF.nil _ _ _).symm,(aF.nil _ _ _).symm,a9,aF.nil _ _ _,aF.nil _ _ _,aF.nil _ _ _⟩,Bf⟩
theorem sM(w:World)(n:Int)(v:Value)(l:List Int)(hv:aD w v l)(hl:l.length<=1048576):
  Calls Tryz.prog 38 #[.agg #[.int .i64 n,v]] w fun e w'=>∃D i0 F p1 i1 q1 p2 i2 q2 p3 i3 q3,e=.returned (.tuple #[.agg #[.int .i64 (nJ n l),.int .i64 (nH n l),.slice D i0 F,.int .i64 0,.slice p1 i1 q1,.int .i64 0,.slice p2 i2 q2,.int .i64 (nF n l),.int .i64 (nE n l),.slice p3 i3 q3],.bool (bP n l)])/\aL 3 w.heap.size w' (.slice D i0 F) (mE n l)/\aL 3 w.heap.size w' (.slice p1 i1 q1) []/\aL 3 w.heap.size w' (.slice p2 i2 q2) []/\aL 3 w.heap.size w' (.slice p3 i3 q3) (mF n l)/\(aF (.slice D i0 F) (.slice p1 i1 q1)/\aF (.slice D i0 F) (.slice p2 i2 q2)/\aF (.slice D i0 F) (.slice p3 i3 q3)/\aF (.slice p1 i1 q1) (.slice p2 i2 q2)/\aF (.slice p1 i1 q1) (.slice p3 i3 q3)/\aF (.slice p2 i2 q2) (.slice p3 i3 q3))/\Below w.heap.size w w':=by
 obtain⟨a,c,rfl⟩:=hv.shape;go_enter Tryz.func38,Tryz.ntmps38;go_wp2_with fail;refine aH ?_;intro V hV;have B:Below w.heap.size w V:=by rw[hV];exact cD _ _ _
 have L:aB V w.heap.size 32 #[.int .i64 n,.slice a l.length c]:=by rw[hV];exact(aB.new _ _ _).alloc _
 have I:aB V (w.heap.size+1) 49 #[.int .i64 0,.int .i64 0,.slice none 0 0,.int .i64 0,.slice none 0 0,.int .i64 0,.slice none 0 0,.int .i64 0,.int .i64 0,.slice none 0 0]:=by rw[hV];have:=aB.new (w.alloc (.cells #[.int .i64 n,.slice a l.length c] 32)) 49 #[.int .i64 0,.int .i64 0,.slice none 0 0,.int .i64 0,.slice none 0 0,.int .i64 0,.slice none 0 0,.int .i64 0,.int .i64 0,.slice none 0 0];simpa using this
 clear hV;refine(kJ n l _ V (hv.below B (Nat.le_refl _))).mono ?_;rintro e w1 ⟨rfl,b1⟩;have L:=L.keep b1;have I:=I.keep b1;have B:=B.after b1 B.size;have z3:w.heap.size+1<w1.heap.size:=I.lt
 cases o:bP n l with
 |false=>
  have Q:nJ n l=0:=by unfold nJ;rw[o];rfl
  have M:nH n l=0:=by unfold nH;rw[o];rfl
  have R:mE n l=[]:=by unfold mE;rw[o];rfl
  have S:nF n l=0:=by unfold nF;rw[o];rfl
  have U:nE n l=0:=by unfold nE;rw[o];rfl
  have O:mF n l=[]:=by unfold mF;rw[o];rfl
  have H:=Lib.hid (And.intro Q (And.intro M (And.intro R (And.intro S (And.intro U (And.intro O o))))));clear Q M R S U O o;have G3:=I.cell;have F3:=I.frozen;go_wp2;refine aI ?_;intro Wf z;have Z:aB Wf (w.heap.size+1) 49 #[.int .i64 0,.int .i64 0,.slice none 0 0,.int .i64 0,.slice none 0 0,.int .i64 0,.slice none 0 0,.int .i64 0,.int .i64 0,.slice none 0 0]:=by
   rw[z];have:=((((((((((I.set 0 (.int .i64 0)).set 1 (.int .i64 0)).set 2 (.slice none 0 0)).set 3 (.int .i64 0)).set 4 (.slice none 0 0)).set 5 (.int .i64 0)).set 6 (.slice none 0 0)).set 7 (.int .i64 0)).set 8 (.int .i64 0)).set 9 (.slice none 0 0));simpa using this
  have hg:w1.grownBy Wf (some (w.heap.size+1)):=by
   rw[z];exact(aA (aA (aA (aA (aA (aA (aA (aA (aA (aA (World.grownBy.refl _ _) 0 _) 1 _) 2 _) 3 _) 4 _) 5 _) 6 _) 7 _) 8 _) 9 _)
  have Bf:Below w.heap.size w Wf:=B.grown hg B.size (fun q Y=>by have:=Option.some.inj Y;omega);have Gf:=Z.cell;clear z;obtain⟨Q,M,R,S,U,O,hB⟩:=H.out;exact bodyPost_ret (v:=.tuple #[.agg #[.int .i64 0,.int .i64 0,.slice none 0 0,.int .i64 0,.slice none 0 0,.int .i64 0,.slice none 0 0,.int .i64 0,.int .i64 0,.slice none 0 0],.bool false]) (by simp[results,Tryz.results38,go_sem,Gf]) rfl
   ⟨none,0,0,none,0,0,none,0,0,none,0,0,by rw[Q,M,S,U,hB],by rw[R];exact aL.nil _ _ _,aL.nil _ _ _,aL.nil _ _ _,by rw[O];exact aL.nil _ _ _,⟨aF.nil _ _ _,aF.nil _ _ _,aF.nil _ _ _,aF.nil _ _ _,aF.nil _ _ _,aF.nil _ _ _⟩,Bf⟩
 |true=>
 have G1:=L.cell;go_wp2_with fail;clear G1;refine(MN w1 n _ l (hv.below B (Nat.le_refl _)) hl).mono ?_;rintro e wl ⟨D,i0,F,rfl,o0,b2⟩;have L:=L.keep b2;have I:=I.keep b2;have B:=B.after b2 B.size;have o0:=o0.mono (B':=w.heap.size+1+1) z3;have z3:w.heap.size+1<wl.heap.size:=I.lt
 cases A:fH n l with
 |true=>
  have Q:nJ n l=2:=by unfold nJ;rw[o,A];rfl
  have M:nH n l=n:=by unfold nH;rw[o];rfl
  have R:mE n l=l:=by unfold mE;rw[o];rfl
  have S:nF n l=0:=by unfold nF;rw[o,A];rfl
  have U:nE n l=0:=by unfold nE;rw[o,A];rfl
  have O:mF n l=fS n l:=by unfold mF;rw[o,A];rfl
  have H:=Lib.hid (And.intro Q (And.intro M (And.intro R (And.intro S (And.intro U (And.intro O o))))));clear Q M R S U O o A;have G1:=L.cell;go_wp2_with fail;clear G1;refine(kZ wl n _ l (hv.below B (Nat.le_refl _)) hl).mono ?_;rintro e w5 ⟨p5,i5,q5,rfl,o5,b5⟩;have b8:=I.keep b5;have i7:=b8.cell;have h8:=b8.frozen;have B5:=B.after b5 B.size;have x5:=o5.toW.mono (B':=w.heap.size+1+1) (by omega);have x0:aL 3 (w.heap.size+1+1) w5 (.slice D i0 F) (fS n l):=o0.keep b5;have a1:aF (.slice p5 i5 q5) (.slice D i0 F):=(aF.of_lt o0 o5.toW (Nat.le_refl _)).symm;go_wp2;refine aI ?_;intro Wf z;have Z:aB Wf (w.heap.size+1) 49 #[.int .i64 2,.int .i64 n,.slice p5 i5 q5,.int .i64 0,.slice none 0 0,.int .i64 0,.slice none 0 0,.int .i64 0,.int .i64 0,.slice D i0 F]:=by
   rw[z];have:=((((((((((b8.set 0 (.int .i64 2)).set 1 (.int .i64 n)).set 2 (.slice p5 i5 q5)).set 3 (.int .i64 0)).set 4 (.slice none 0 0)).set 5 (.int .i64 0)).set 6 (.slice none 0 0)).set 7 (.int .i64 0)).set 8 (.int .i64 0)).set 9 (.slice D i0 F));simpa using this
  have hg:w5.grownBy Wf (some (w.heap.size+1)):=by
   rw[z];exact(aA (aA (aA (aA (aA (aA (aA (aA (aA (aA (World.grownBy.refl _ _) 0 _) 1 _) 2 _) 3 _) 4 _) 5 _) 6 _) 7 _) 8 _) 9 _)
  have Bf:Below w.heap.size w Wf:=B5.grown hg B5.size (fun q Y=>by have:=Option.some.inj Y;omega);have f5:=(x5.grow hg (fun q Y K=>by have:=Option.some.inj Y;have:=(x5.lt q K).1;omega)).mono (B':=w.heap.size) (by omega);have f0:=(x0.grow hg (fun q Y K=>by have:=Option.some.inj Y;have:=(x0.lt q K).1;omega)).mono (B':=w.heap.size) (by omega);have Gf:=Z.cell;clear z;obtain⟨Q,M,R,S,U,O,hB⟩:=H.out;exact bodyPost_ret (v:=.tuple #[.agg #[.int .i64 2,.int .i64 n,.slice p5 i5 q5,.int .i64 0,.slice none 0 0,.int .i64 0,.slice none 0 0,.int .i64 0,.int .i64 0,.slice D i0 F],.bool true]) (by simp[results,Tryz.results38,go_sem,Gf]) rfl
   ⟨p5,i5,q5,none,0,0,none,0,0,D,i0,F,by rw[Q,M,S,U,hB],by rw[R];exact f5,aL.nil _ _ _,aL.nil _ _ _,by rw[O];exact f0,⟨(aF.nil _ _ _).symm,(aF.nil _ _ _).symm,a1,aF.nil _ _ _,aF.nil _ _ _,aF.nil _ _ _⟩,Bf⟩
 |false=>
  have Q:nJ n l=1:=by unfold nJ;rw[o,A];rfl
  have M:nH n l=n:=by unfold nH;rw[o];rfl
  have R:mE n l=l:=by unfold mE;rw[o];rfl
  have S:nF n l=cO l:=by unfold nF;rw[o,A];rfl
  have U:nE n l=kY n l:=by unfold nE;rw[o,A];rfl
  have O:mF n l=kW n l:=by unfold mF;rw[o,A];rfl
  have H:=Lib.hid (And.intro Q (And.intro M (And.intro R (And.intro S (And.intro U (And.intro O o))))));have e4:0<l.length:=by
   obtain⟨N,rfl,_,g8,_⟩:=bN (jD o);rw[g8];exact Nat.two_pow_pos N
  clear Q M R S U O o A;have G1:=L.cell;go_wp2_with fail;clear G1;refine(RG wl n _ l (hv.below B (Nat.le_refl _)) hl).mono ?_;rintro e w2 ⟨D,i0,F,rfl,o0,b2⟩;have L:=L.keep b2;have I:=I.keep b2;have B:=B.after b2 B.size;have o0:=o0.mono (B':=w.heap.size+1+1) z3;have G1:=L.cell;go_wp2_with fail;clear G1;refine(EP w2 n _ l (hv.below B (Nat.le_refl _)) hl).mono ?_;rintro e w3 ⟨rfl,b3⟩;have L:=L.keep b3;have I:=I.keep b3;have B:=B.after b3 B.size;have o0:=o0.keep b3;have e5:aD w3.drew (.slice a l.length c) l:=(hv.below B (Nat.le_refl _)).keep (Below.refl _ _).drew;have g1:=Lib.hid (kZ w3.drew n (.slice a l.length c) l e5 hl);have g2:=Lib.hid (fun(W:World) (h:Below w3.drew.heap.size w3.drew W)=>nM W n _ l (e5.keep h) e4);have g4:aB w3.drew w.heap.size 32 #[.int .i64 n,.slice a l.length c]:=L;have c9:aB w3.drew (w.heap.size+1) 49 #[.int .i64 0,.int .i64 0,.slice none 0 0,.int .i64 0,.slice none 0 0,.int .i64 0,.slice none 0 0,.int .i64 0,.int .i64 0,.slice none 0 0]:=I;have Bd:Below w.heap.size w w3.drew:=B.drew;have zd:w.heap.size+1<w3.drew.heap.size:=c9.lt;have G1:=L.cell;go_wp2_with fail;go_region_law
   (first
    |(go_simp;go_at_call 158;with_reducible refine g1.out.mono ?_;rintro e w5 ⟨p5,i5,q5,rfl,o5,b5⟩;have g3:=g4.keep b5;have i6:=g3.cell)
    |(go_simp;go_at_call 161;with_reducible refine(g2.out w5 b5).mono ?_;rintro e w6 ⟨rfl,b6⟩;have b9:=(c9.keep b5).keep b6;have i8:=b9.cell;have h9:=b9.frozen))
  all_goals
   have B5:=Bd.after b5 Bd.size;have B6:=B5.after b6 B5.size;have x5:=(o5.toW.mono (B':=w.heap.size+1+1) (by omega)).keep b6;have x0:aL 3 (w.heap.size+1+1) w6 (.slice D i0 F) (kW n l):=((o0.drewN 1).toW.keep b5).keep b6;have a1:aF (.slice p5 i5 q5) (.slice D i0 F):=(aF.of_lt (o0.drewN 1).toW o5.toW (Nat.le_refl _)).symm;go_wp2;refine aI ?_;intro Wf z;have Z:aB Wf (w.heap.size+1) 49 #[.int .i64 1,.int .i64 n,.slice p5 i5 q5,.int .i64 0,.slice none 0 0,.int .i64 0,.slice none 0 0,.int .i64 (cO l),.int .i64 (kY n l),.slice D i0 F]:=by
    rw[z];have:=((((((((((b9.set 0 (.int .i64 1)).set 1 (.int .i64 n)).set 2 (.slice p5 i5 q5)).set 3 (.int .i64 0)).set 4 (.slice none 0 0)).set 5 (.int .i64 0)).set 6 (.slice none 0 0)).set 7 (.int .i64 (cO l))).set 8 (.int .i64 (kY n l))).set 9 (.slice D i0 F));simpa using this
   have hg:w6.grownBy Wf (some (w.heap.size+1)):=by
    rw[z];exact(aA (aA (aA (aA (aA (aA (aA (aA (aA (aA (World.grownBy.refl _ _) 0 _) 1 _) 2 _) 3 _) 4 _) 5 _) 6 _) 7 _) 8 _) 9 _)
   have Bf:Below w.heap.size w Wf:=B6.grown hg B6.size (fun q Y=>by have:=Option.some.inj Y;omega);have f5:=(x5.grow hg (fun q Y K=>by have:=Option.some.inj Y;have:=(x5.lt q K).1;omega)).mono (B':=w.heap.size) (by omega);have f0:=(x0.grow hg (fun q Y K=>by have:=Option.some.inj Y;have:=(x0.lt q K).1;omega)).mono (B':=w.heap.size) (by omega);have Gf:=Z.cell;clear z;obtain⟨Q,M,R,S,U,O,hB⟩:=H.out;exact bodyPost_ret (v:=.tuple #[.agg #[.int .i64 1,.int .i64 n,.slice p5 i5 q5,.int .i64 0,.slice none 0 0,.int .i64 0,.slice none 0 0,.int .i64 (cO l),.int .i64 (kY n l),.slice D i0 F],.bool true]) (by simp[results,Tryz.results38,go_sem,Gf]) rfl
    ⟨p5,i5,q5,none,0,0,none,0,0,D,i0,F,by rw[Q,M,S,U,hB],by rw[R];exact f5,aL.nil _ _ _,aL.nil _ _ _,by rw[O];exact f0,⟨(aF.nil _ _ _).symm,(aF.nil _ _ _).symm,a1,aF.nil _ _ _,aF.nil _ _ _,aF.nil _ _ _⟩,Bf⟩
end
end Go.Proofs.YtipejodijbjpcaaGreatDoor
