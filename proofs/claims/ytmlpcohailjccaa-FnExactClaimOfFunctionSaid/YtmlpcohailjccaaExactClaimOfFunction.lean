/- The statement FnExactClaimOfFunction: for every input the call returns true and each argument reads as it did. No condition. -/
import Derived.Test.YtmlpcohailjccaaRead
import Derived.Test.YtmlpcohailjccaaTo
import Derived.Test.YtmlpcohailjccaaEq
import Derived.Test.YtmlpcohailjccaaMark
import Derived.Deep.RegionHeld3
import Derived.Test.YtmlpcohailjccaaMarkK
import Derived.Test.YtmlpcohailjccaaBlk
import Derived.Test.YtmlpcohailjccaaClaimFun
import Derived.Test.YtmlpcohailjccaaClaim
import Derived.Test.YtmlpcohailjccaaClaimEq
namespace Go.Proofs.Ytmlpcohailjccaa
open Go.ChangeShapes Go.WideShapes Go.ChangeAt Go.RowKit Go.G5
set_option maxHeartbeats 4000000 in
set_option maxRecDepth 100000 in
theorem claimfunction (w : World) (n0_0 : Int) (v0_1 : Value) (l0_1 : List Int) (_ : InR n0_0) (hv0_1 : Ints w v0_1 l0_1) :
    Calls Try.prog 4 #[.agg #[.int .i64 n0_0, v0_1]] w fun e w' => e = .returned (.bool true) ∧ Below w.heap.size w w' := by
  obtain ⟨av0_1, cv0_1, rfl⟩ := hv0_1.shape
  go_enter Try.func4, Try.ntmps4
  go_wp2_with fail
  refine calls_named ?_
  intro V1 hV
  have B : Below w.heap.size w V1 := by rw [hV]; exact (by repeat (first | exact Below.refl _ _ | (with_reducible refine Below.setCell ?_ (by first | omega | (simp; done) | (simp; omega)) _) | (with_reducible refine Below.alloc ?_ (by first | omega | (simp; done) | (simp; omega)) _) | (with_reducible refine Below.drewN' ?_ _) | (with_reducible refine Below.drew ?_) | (with_reducible assumption) | refine Below.trans ?_ (Below.mono (by assumption) (by first | omega | (simp; done) | (simp; omega)))))
  have zV1 : w.heap.size + 1 ≤ V1.heap.size := by rw [hV]; (first | simp | omega)
  have K0 : Blk V1 (w.heap.size) 24 #[.int .i64 n0_0, .slice av0_1 l0_1.length cv0_1] := by rw [hV]; have := (Blk.new (w) 24 #[.int .i64 n0_0, .slice av0_1 l0_1.length cv0_1]); simpa using this
  clear hV
  refine (szFunction_c n0_0 _ l0_1 _ _ (hv0_1.below B (Nat.le_refl _)) (by omega) (by omega)).mono ?_
  rintro e W2 ⟨⟨s0, rfl, hs0⟩, hb⟩
  have zW2 : V1.heap.size ≤ W2.heap.size := hb.size
  have B1 := B.after hb B.size
  have K0x := K0.keep hb
  clear B K0
  have B := B1
  have K0 := K0x
  clear B1 K0x
  clear hb
  rcases hs0 with hs0 | ⟨g0_0, g0_1, hlv0_1'⟩
  · go_wp2
    go_ret
    exact ⟨rfl, B⟩
  have hlv0_1 : l0_1.length ≤ 1048576 := by omega
  have GK0 := K0.cell
  have ZK0 := K0.lt
  go_wp2_with fail
  clear GK0 ZK0
  refine calls_named ?_
  intro V3 hV
  have zV3 : W2.heap.size + 0 ≤ V3.heap.size := by rw [hV]; (first | exact Nat.le_refl _ | simp)
  have B1 : Below w.heap.size w V3 := by rw [hV]; first | exact B | exact B.alloc B.size _ | exact (B.alloc B.size _).alloc (by have := B.size; simp; omega) _
  have K0x : Blk V3 (w.heap.size) 24 #[.int .i64 n0_0, .slice av0_1 l0_1.length cv0_1] := by rw [hV]; first | exact K0 | exact K0.alloc _ | exact (K0.alloc _).alloc _
  clear B K0
  have B := B1
  have K0 := K0x
  clear B1 K0x
  clear hV
  refine (toFunction_any n0_0 _ l0_1 _ (hv0_1.below B (Nat.le_refl _)) hlv0_1).mono ?_
  rintro e W4 ⟨pwx00, iwx00, qwx00, rfl, owx00x, hb⟩
  have zW4 : V3.heap.size ≤ W4.heap.size := hb.size
  have B1 := B.after hb B.size
  have K0x := K0.keep hb
  clear B K0
  have B := B1
  have K0 := K0x
  clear B1 K0x
  clear hb
  have owx00 := owx00x.toW
  clear owx00x
  have r_wx00 := owx00.lt
  have GK0 := K0.cell
  have ZK0 := K0.lt
  go_wp2_with fail
  clear GK0 ZK0
  refine calls_named ?_
  intro V5 hV
  have zV5 : W4.heap.size + 0 ≤ V5.heap.size := by rw [hV]; (first | exact Nat.le_refl _ | simp)
  have B1 : Below w.heap.size w V5 := by rw [hV]; first | exact B | exact B.alloc B.size _ | exact (B.alloc B.size _).alloc (by have := B.size; simp; omega) _
  have K0x : Blk V5 (w.heap.size) 24 #[.int .i64 n0_0, .slice av0_1 l0_1.length cv0_1] := by rw [hV]; first | exact K0 | exact K0.alloc _ | exact (K0.alloc _).alloc _
  have owx00x : OwnW 3 V3.heap.size V5 (.slice pwx00 iwx00 qwx00) (l0_1) := by rw [hV]; first | exact owx00 | exact owx00.alloc _ | exact (owx00.alloc _).alloc _
  clear B K0 owx00
  have B := B1
  have K0 := K0x
  have owx00 := owx00x
  clear B1 K0x owx00x
  clear hV
  refine (claimFunS_c _ n0_0 _ l0_1 owx00.ints hlv0_1).mono ?_
  rintro e W6 ⟨pw0_0, iw0_0, qw0_0, pw0_1, iw0_1, qw0_1, pw0_2, iw0_2, qw0_2, pw0_3, iw0_3, qw0_3, rfl, ow0_0x, ow0_1x, ow0_2x, ow0_3x, ap_w, hb⟩
  have zW6 : V5.heap.size ≤ W6.heap.size := hb.size
  have B1 := B.after hb B.size
  have K0x := K0.keep hb
  clear B K0
  have B := B1
  have K0 := K0x
  clear B1 K0x
  clear hb
  clear owx00
  have ow0_0 := ow0_0x.toW
  clear ow0_0x
  have r_w0_0 := ow0_0.lt
  have ow0_1 := ow0_1x.toW
  clear ow0_1x
  have r_w0_1 := ow0_1.lt
  have ow0_2 := ow0_2x.toW
  clear ow0_2x
  have r_w0_2 := ow0_2.lt
  have ow0_3 := ow0_3x.toW
  clear ow0_3x
  have r_w0_3 := ow0_3.lt
  have GK0 := K0.cell
  have ZK0 := K0.lt
  go_wp2_with fail
  clear GK0 ZK0
  refine calls_named ?_
  intro V7 hV
  have zV7 : W6.heap.size + 1 ≤ V7.heap.size := by rw [hV]; (first | exact Nat.le_refl _ | simp)
  have B1 : Below w.heap.size w V7 := by rw [hV]; first | exact B | exact B.alloc B.size _ | exact (B.alloc B.size _).alloc (by have := B.size; simp; omega) _
  have K0x : Blk V7 (w.heap.size) 24 #[.int .i64 n0_0, .slice av0_1 l0_1.length cv0_1] := by rw [hV]; first | exact K0 | exact K0.alloc _ | exact (K0.alloc _).alloc _
  have ow0_0x : OwnW 3 V5.heap.size V7 (.slice pw0_0 iw0_0 qw0_0) (cfL n0_0 l0_1) := by rw [hV]; first | exact ow0_0 | exact ow0_0.alloc _ | exact (ow0_0.alloc _).alloc _
  have ow0_1x : OwnW 3 V5.heap.size V7 (.slice pw0_1 iw0_1 qw0_1) (([] : List Int)) := by rw [hV]; first | exact ow0_1 | exact ow0_1.alloc _ | exact (ow0_1.alloc _).alloc _
  have ow0_2x : OwnW 3 V5.heap.size V7 (.slice pw0_2 iw0_2 qw0_2) (([] : List Int)) := by rw [hV]; first | exact ow0_2 | exact ow0_2.alloc _ | exact (ow0_2.alloc _).alloc _
  have ow0_3x : OwnW 3 V5.heap.size V7 (.slice pw0_3 iw0_3 qw0_3) (cfE n0_0 l0_1) := by rw [hV]; first | exact ow0_3 | exact ow0_3.alloc _ | exact (ow0_3.alloc _).alloc _
  have K1x : Blk V7 (W6.heap.size) 30 #[.int .i64 (cfK n0_0 l0_1), .int .i64 (cfA n0_0 l0_1), .slice pw0_0 iw0_0 qw0_0, .int .i64 (0), .slice pw0_1 iw0_1 qw0_1, .int .i64 (0), .slice pw0_2 iw0_2 qw0_2, .int .i64 (cfP n0_0 l0_1), .int .i64 (cfS n0_0 l0_1), .slice pw0_3 iw0_3 qw0_3] := by rw [hV]; exact Blk.new _ _ _
  clear B K0 ow0_0 ow0_1 ow0_2 ow0_3
  have B := B1
  have K0 := K0x
  have K1 := K1x
  have ow0_0 := ow0_0x
  have ow0_1 := ow0_1x
  have ow0_2 := ow0_2x
  have ow0_3 := ow0_3x
  clear B1 K0x K1x ow0_0x ow0_1x ow0_2x ow0_3x
  clear hV
  refine (toFunction_any n0_0 _ l0_1 _ (hv0_1.below B (Nat.le_refl _)) hlv0_1).mono ?_
  rintro e W8 ⟨px00, ix00, qx00, rfl, ox00x, hb⟩
  have zW8 : V7.heap.size ≤ W8.heap.size := hb.size
  have B1 := B.after hb B.size
  have K0x := K0.keep hb
  have K1x := K1.keep hb
  have ow0_0x := ow0_0.keep hb
  have ow0_1x := ow0_1.keep hb
  have ow0_2x := ow0_2.keep hb
  have ow0_3x := ow0_3.keep hb
  clear B K0 K1 ow0_0 ow0_1 ow0_2 ow0_3
  have B := B1
  have K0 := K0x
  have K1 := K1x
  have ow0_0 := ow0_0x
  have ow0_1 := ow0_1x
  have ow0_2 := ow0_2x
  have ow0_3 := ow0_3x
  clear B1 K0x K1x ow0_0x ow0_1x ow0_2x ow0_3x
  clear hb
  have ox00 := ox00x.toW
  clear ox00x
  have r_x00 := ox00.lt
  have GK0 := K0.cell
  have ZK0 := K0.lt
  have GK1 := K1.cell
  have ZK1 := K1.lt
  go_wp2_with fail
  clear GK0 ZK0 GK1 ZK1
  refine calls_named ?_
  intro V9 hV
  have zV9 : W8.heap.size + 1 ≤ V9.heap.size := by rw [hV]; (first | exact Nat.le_refl _ | simp)
  have B1 : Below w.heap.size w V9 := by rw [hV]; first | exact B | exact B.alloc B.size _ | exact (B.alloc B.size _).alloc (by have := B.size; simp; omega) _
  have K0x : Blk V9 (w.heap.size) 24 #[.int .i64 n0_0, .slice av0_1 l0_1.length cv0_1] := by rw [hV]; first | exact K0 | exact K0.alloc _ | exact (K0.alloc _).alloc _
  have K1x : Blk V9 (W6.heap.size) 30 #[.int .i64 (cfK n0_0 l0_1), .int .i64 (cfA n0_0 l0_1), .slice pw0_0 iw0_0 qw0_0, .int .i64 (0), .slice pw0_1 iw0_1 qw0_1, .int .i64 (0), .slice pw0_2 iw0_2 qw0_2, .int .i64 (cfP n0_0 l0_1), .int .i64 (cfS n0_0 l0_1), .slice pw0_3 iw0_3 qw0_3] := by rw [hV]; first | exact K1 | exact K1.alloc _ | exact (K1.alloc _).alloc _
  have ow0_0x : OwnW 3 V5.heap.size V9 (.slice pw0_0 iw0_0 qw0_0) (cfL n0_0 l0_1) := by rw [hV]; first | exact ow0_0 | exact ow0_0.alloc _ | exact (ow0_0.alloc _).alloc _
  have ow0_1x : OwnW 3 V5.heap.size V9 (.slice pw0_1 iw0_1 qw0_1) (([] : List Int)) := by rw [hV]; first | exact ow0_1 | exact ow0_1.alloc _ | exact (ow0_1.alloc _).alloc _
  have ow0_2x : OwnW 3 V5.heap.size V9 (.slice pw0_2 iw0_2 qw0_2) (([] : List Int)) := by rw [hV]; first | exact ow0_2 | exact ow0_2.alloc _ | exact (ow0_2.alloc _).alloc _
  have ow0_3x : OwnW 3 V5.heap.size V9 (.slice pw0_3 iw0_3 qw0_3) (cfE n0_0 l0_1) := by rw [hV]; first | exact ow0_3 | exact ow0_3.alloc _ | exact (ow0_3.alloc _).alloc _
  have ox00x : OwnW 3 V7.heap.size V9 (.slice px00 ix00 qx00) (l0_1) := by rw [hV]; first | exact ox00 | exact ox00.alloc _ | exact (ox00.alloc _).alloc _
  have K2x : Blk V9 (W8.heap.size) 26 #[.int .i64 n0_0, .slice px00 ix00 qx00] := by rw [hV]; exact Blk.new _ _ _
  clear B K0 K1 ow0_0 ow0_1 ow0_2 ow0_3 ox00
  have B := B1
  have K0 := K0x
  have K1 := K1x
  have K2 := K2x
  have ow0_0 := ow0_0x
  have ow0_1 := ow0_1x
  have ow0_2 := ow0_2x
  have ow0_3 := ow0_3x
  have ox00 := ox00x
  clear B1 K0x K1x K2x ow0_0x ow0_1x ow0_2x ow0_3x ox00x
  clear hV
  refine (claimFunI_c _ n0_0 _ l0_1 ox00.ints hlv0_1).mono ?_
  rintro e W10 ⟨pg0_0, ig0_0, qg0_0, pg0_1, ig0_1, qg0_1, pg0_2, ig0_2, qg0_2, pg0_3, ig0_3, qg0_3, rfl, og0_0x, og0_1x, og0_2x, og0_3x, ap_g, hb⟩
  have zW10 : V9.heap.size ≤ W10.heap.size := hb.size
  have B1 := B.after hb B.size
  have K0x := K0.keep hb
  have K1x := K1.keep hb
  have K2x := K2.keep hb
  have ow0_0x := ow0_0.keep hb
  have ow0_1x := ow0_1.keep hb
  have ow0_2x := ow0_2.keep hb
  have ow0_3x := ow0_3.keep hb
  have ox00x := ox00.keep hb
  clear B K0 K1 K2 ow0_0 ow0_1 ow0_2 ow0_3 ox00
  have B := B1
  have K0 := K0x
  have K1 := K1x
  have K2 := K2x
  have ow0_0 := ow0_0x
  have ow0_1 := ow0_1x
  have ow0_2 := ow0_2x
  have ow0_3 := ow0_3x
  have ox00 := ox00x
  clear B1 K0x K1x K2x ow0_0x ow0_1x ow0_2x ow0_3x ox00x
  clear hb
  have og0_0 := og0_0x.toW
  clear og0_0x
  have r_g0_0 := og0_0.lt
  have og0_1 := og0_1x.toW
  clear og0_1x
  have r_g0_1 := og0_1.lt
  have og0_2 := og0_2x.toW
  clear og0_2x
  have r_g0_2 := og0_2.lt
  have og0_3 := og0_3x.toW
  clear og0_3x
  have r_g0_3 := og0_3.lt
  have GK0 := K0.cell
  have ZK0 := K0.lt
  have GK1 := K1.cell
  have ZK1 := K1.lt
  have GK2 := K2.cell
  have ZK2 := K2.lt
  go_wp2_with fail
  clear GK0 ZK0 GK1 ZK1 GK2 ZK2
  refine calls_named ?_
  intro V11 hV
  have zV11 : W10.heap.size + 1 ≤ V11.heap.size := by rw [hV]; (first | exact Nat.le_refl _ | simp)
  have B1 : Below w.heap.size w V11 := by rw [hV]; first | exact B | exact B.alloc B.size _ | exact (B.alloc B.size _).alloc (by have := B.size; simp; omega) _
  have K0x : Blk V11 (w.heap.size) 24 #[.int .i64 n0_0, .slice av0_1 l0_1.length cv0_1] := by rw [hV]; first | exact K0 | exact K0.alloc _ | exact (K0.alloc _).alloc _
  have K1x : Blk V11 (W6.heap.size) 30 #[.int .i64 (cfK n0_0 l0_1), .int .i64 (cfA n0_0 l0_1), .slice pw0_0 iw0_0 qw0_0, .int .i64 (0), .slice pw0_1 iw0_1 qw0_1, .int .i64 (0), .slice pw0_2 iw0_2 qw0_2, .int .i64 (cfP n0_0 l0_1), .int .i64 (cfS n0_0 l0_1), .slice pw0_3 iw0_3 qw0_3] := by rw [hV]; first | exact K1 | exact K1.alloc _ | exact (K1.alloc _).alloc _
  have K2x : Blk V11 (W8.heap.size) 26 #[.int .i64 n0_0, .slice px00 ix00 qx00] := by rw [hV]; first | exact K2 | exact K2.alloc _ | exact (K2.alloc _).alloc _
  have ow0_0x : OwnW 3 V5.heap.size V11 (.slice pw0_0 iw0_0 qw0_0) (cfL n0_0 l0_1) := by rw [hV]; first | exact ow0_0 | exact ow0_0.alloc _ | exact (ow0_0.alloc _).alloc _
  have ow0_1x : OwnW 3 V5.heap.size V11 (.slice pw0_1 iw0_1 qw0_1) (([] : List Int)) := by rw [hV]; first | exact ow0_1 | exact ow0_1.alloc _ | exact (ow0_1.alloc _).alloc _
  have ow0_2x : OwnW 3 V5.heap.size V11 (.slice pw0_2 iw0_2 qw0_2) (([] : List Int)) := by rw [hV]; first | exact ow0_2 | exact ow0_2.alloc _ | exact (ow0_2.alloc _).alloc _
  have ow0_3x : OwnW 3 V5.heap.size V11 (.slice pw0_3 iw0_3 qw0_3) (cfE n0_0 l0_1) := by rw [hV]; first | exact ow0_3 | exact ow0_3.alloc _ | exact (ow0_3.alloc _).alloc _
  have ox00x : OwnW 3 V7.heap.size V11 (.slice px00 ix00 qx00) (l0_1) := by rw [hV]; first | exact ox00 | exact ox00.alloc _ | exact (ox00.alloc _).alloc _
  have og0_0x : OwnW 3 V9.heap.size V11 (.slice pg0_0 ig0_0 qg0_0) (cfL n0_0 l0_1) := by rw [hV]; first | exact og0_0 | exact og0_0.alloc _ | exact (og0_0.alloc _).alloc _
  have og0_1x : OwnW 3 V9.heap.size V11 (.slice pg0_1 ig0_1 qg0_1) (([] : List Int)) := by rw [hV]; first | exact og0_1 | exact og0_1.alloc _ | exact (og0_1.alloc _).alloc _
  have og0_2x : OwnW 3 V9.heap.size V11 (.slice pg0_2 ig0_2 qg0_2) (([] : List Int)) := by rw [hV]; first | exact og0_2 | exact og0_2.alloc _ | exact (og0_2.alloc _).alloc _
  have og0_3x : OwnW 3 V9.heap.size V11 (.slice pg0_3 ig0_3 qg0_3) (cfE n0_0 l0_1) := by rw [hV]; first | exact og0_3 | exact og0_3.alloc _ | exact (og0_3.alloc _).alloc _
  have K3x : Blk V11 (W10.heap.size) 30 #[.int .i64 (cfK n0_0 l0_1), .int .i64 (cfA n0_0 l0_1), .slice pg0_0 ig0_0 qg0_0, .int .i64 (0), .slice pg0_1 ig0_1 qg0_1, .int .i64 (0), .slice pg0_2 ig0_2 qg0_2, .int .i64 (cfP n0_0 l0_1), .int .i64 (cfS n0_0 l0_1), .slice pg0_3 ig0_3 qg0_3] := by rw [hV]; exact Blk.new _ _ _
  clear B K0 K1 K2 ow0_0 ow0_1 ow0_2 ow0_3 ox00 og0_0 og0_1 og0_2 og0_3
  have B := B1
  have K0 := K0x
  have K1 := K1x
  have K2 := K2x
  have K3 := K3x
  have ow0_0 := ow0_0x
  have ow0_1 := ow0_1x
  have ow0_2 := ow0_2x
  have ow0_3 := ow0_3x
  have ox00 := ox00x
  have og0_0 := og0_0x
  have og0_1 := og0_1x
  have og0_2 := og0_2x
  have og0_3 := og0_3x
  clear B1 K0x K1x K2x K3x ow0_0x ow0_1x ow0_2x ow0_3x ox00x og0_0x og0_1x og0_2x og0_3x
  clear hV
  refine (eqClaim_c _ _ _ _ _ og0_0.ints _ _ _ og0_1.ints _ _ _ og0_2.ints _ _ _ _ og0_3.ints _ ow0_0.ints _ ow0_1.ints _ ow0_2.ints _ ow0_3.ints).mono ?_
  rintro e W12 ⟨rfl, hb⟩
  have zW12 : V11.heap.size ≤ W12.heap.size := hb.size
  have B1 := B.after hb B.size
  have K0x := K0.keep hb
  have K1x := K1.keep hb
  have K2x := K2.keep hb
  have K3x := K3.keep hb
  have ow0_0x := ow0_0.keep hb
  have ow0_1x := ow0_1.keep hb
  have ow0_2x := ow0_2.keep hb
  have ow0_3x := ow0_3.keep hb
  have ox00x := ox00.keep hb
  have og0_0x := og0_0.keep hb
  have og0_1x := og0_1.keep hb
  have og0_2x := og0_2.keep hb
  have og0_3x := og0_3.keep hb
  clear B K0 K1 K2 K3 ow0_0 ow0_1 ow0_2 ow0_3 ox00 og0_0 og0_1 og0_2 og0_3
  have B := B1
  have K0 := K0x
  have K1 := K1x
  have K2 := K2x
  have K3 := K3x
  have ow0_0 := ow0_0x
  have ow0_1 := ow0_1x
  have ow0_2 := ow0_2x
  have ow0_3 := ow0_3x
  have ox00 := ox00x
  have og0_0 := og0_0x
  have og0_1 := og0_1x
  have og0_2 := og0_2x
  have og0_3 := og0_3x
  clear B1 K0x K1x K2x K3x ow0_0x ow0_1x ow0_2x ow0_3x ox00x og0_0x og0_1x og0_2x og0_3x
  clear hb
  have GK0 := K0.cell
  have ZK0 := K0.lt
  have GK1 := K1.cell
  have ZK1 := K1.lt
  have GK2 := K2.cell
  have ZK2 := K2.lt
  have GK3 := K3.cell
  have ZK3 := K3.lt
  go_wp2_with fail
  clear GK0 ZK0 GK1 ZK1 GK2 ZK2 GK3 ZK3
  have yK0 := K0.lt
  have yK1 := K1.lt
  have yK2 := K2.lt
  have yK3 := K3.lt
  have GK0 := K0.cell
  have GK2 := K2.cell
  go_region_held3 (fun w' => (∀ i, w'.cell? ⟨w.heap.size, i, none⟩ = (#[.int .i64 n0_0, .slice av0_1 l0_1.length cv0_1] : Array Value)[i]?) ∧ (∀ i, w'.cell? ⟨W8.heap.size, i, none⟩ = (#[.int .i64 n0_0, .slice px00 ix00 qx00] : Array Value)[i]?)) (go_keep)
    (first
      | (go_at_call 10; refine (toFunction_any n0_0 _ l0_1 _ (hv0_1.below (B := w.heap.size) (by repeat (first | exact Below.refl _ _ | (with_reducible refine Below.setCell ?_ (by first | omega | (simp; done) | (simp; omega)) _) | (with_reducible refine Below.alloc ?_ (by first | omega | (simp; done) | (simp; omega)) _) | (with_reducible refine Below.drewN' ?_ _) | (with_reducible refine Below.drew ?_) | (with_reducible assumption) | refine Below.trans ?_ (Below.mono (by assumption) (by first | omega | (simp; done) | (simp; omega))))) (Nat.le_refl _)) hlv0_1).mono ?_; rintro e W13 ⟨pyW13x0, iyW13x0, qyW13x0, rfl, oyW13x0, hbW13⟩; obtain ⟨hchbW13, hfhbW13⟩ := bcellN hbW13 (W12.heap.size) (by first | omega | (simp; done) | (simp; omega)); have zhbW13 := hbW13.size; (try simp at zhbW13))
      | (go_at_call 13; refine (eqFunction_any _ _ _ _ _ _ _ ((ox00.drewN 1).below hbW13 (by first | omega | (simp; done) | (simp; omega))).ints oyW13x0.ints).mono ?_; rintro e W14 ⟨rfl, hbW14⟩; obtain ⟨hchbW14, hfhbW14⟩ := bcellN hbW14 (W12.heap.size) (by first | omega | (simp; done) | (simp; omega)); have zhbW14 := hbW14.size; (try simp at zhbW14))
    )
  have B1 : Below w.heap.size w W14 := (by repeat (first | exact Below.refl _ _ | (with_reducible refine Below.setCell ?_ (by first | omega | (simp; done) | (simp; omega)) _) | (with_reducible refine Below.alloc ?_ (by first | omega | (simp; done) | (simp; omega)) _) | (with_reducible refine Below.drewN' ?_ _) | (with_reducible refine Below.drew ?_) | (with_reducible assumption) | refine Below.trans ?_ (Below.mono (by assumption) (by first | omega | (simp; done) | (simp; omega)))))
  have zzW14 : W12.heap.size ≤ W14.heap.size := by omega
  have K0x : Blk W14 (w.heap.size) 24 #[.int .i64 n0_0, .slice av0_1 l0_1.length cv0_1] := (((K0.drewN 1).keep hbW13).keep hbW14)
  have K1x : Blk W14 (W6.heap.size) 30 #[.int .i64 (cfK n0_0 l0_1), .int .i64 (cfA n0_0 l0_1), .slice pw0_0 iw0_0 qw0_0, .int .i64 (0), .slice pw0_1 iw0_1 qw0_1, .int .i64 (0), .slice pw0_2 iw0_2 qw0_2, .int .i64 (cfP n0_0 l0_1), .int .i64 (cfS n0_0 l0_1), .slice pw0_3 iw0_3 qw0_3] := (((K1.drewN 1).keep hbW13).keep hbW14)
  have K2x : Blk W14 (W8.heap.size) 26 #[.int .i64 n0_0, .slice px00 ix00 qx00] := (((K2.drewN 1).keep hbW13).keep hbW14)
  have K3x : Blk W14 (W10.heap.size) 30 #[.int .i64 (cfK n0_0 l0_1), .int .i64 (cfA n0_0 l0_1), .slice pg0_0 ig0_0 qg0_0, .int .i64 (0), .slice pg0_1 ig0_1 qg0_1, .int .i64 (0), .slice pg0_2 ig0_2 qg0_2, .int .i64 (cfP n0_0 l0_1), .int .i64 (cfS n0_0 l0_1), .slice pg0_3 ig0_3 qg0_3] := (((K3.drewN 1).keep hbW13).keep hbW14)
  have ow0_0x : OwnW 3 V5.heap.size W14 (.slice pw0_0 iw0_0 qw0_0) (cfL n0_0 l0_1) := (((ow0_0.drewN 1).keep hbW13).keep hbW14)
  have ow0_1x : OwnW 3 V5.heap.size W14 (.slice pw0_1 iw0_1 qw0_1) (([] : List Int)) := (((ow0_1.drewN 1).keep hbW13).keep hbW14)
  have ow0_2x : OwnW 3 V5.heap.size W14 (.slice pw0_2 iw0_2 qw0_2) (([] : List Int)) := (((ow0_2.drewN 1).keep hbW13).keep hbW14)
  have ow0_3x : OwnW 3 V5.heap.size W14 (.slice pw0_3 iw0_3 qw0_3) (cfE n0_0 l0_1) := (((ow0_3.drewN 1).keep hbW13).keep hbW14)
  have ox00x : OwnW 3 V7.heap.size W14 (.slice px00 ix00 qx00) (l0_1) := (((ox00.drewN 1).keep hbW13).keep hbW14)
  have og0_0x : OwnW 3 V9.heap.size W14 (.slice pg0_0 ig0_0 qg0_0) (cfL n0_0 l0_1) := (((og0_0.drewN 1).keep hbW13).keep hbW14)
  have og0_1x : OwnW 3 V9.heap.size W14 (.slice pg0_1 ig0_1 qg0_1) (([] : List Int)) := (((og0_1.drewN 1).keep hbW13).keep hbW14)
  have og0_2x : OwnW 3 V9.heap.size W14 (.slice pg0_2 ig0_2 qg0_2) (([] : List Int)) := (((og0_2.drewN 1).keep hbW13).keep hbW14)
  have og0_3x : OwnW 3 V9.heap.size W14 (.slice pg0_3 ig0_3 qg0_3) (cfE n0_0 l0_1) := (((og0_3.drewN 1).keep hbW13).keep hbW14)
  clear B K0 K1 K2 K3 ow0_0 ow0_1 ow0_2 ow0_3 ox00 og0_0 og0_1 og0_2 og0_3 GK0 GK2 yK0 yK1 yK2 yK3 hchbW13 hfhbW13 hchbW14 hfhbW14
  have B := B1
  have K0 := K0x
  have K1 := K1x
  have K2 := K2x
  have K3 := K3x
  have ow0_0 := ow0_0x
  have ow0_1 := ow0_1x
  have ow0_2 := ow0_2x
  have ow0_3 := ow0_3x
  have ox00 := ox00x
  have og0_0 := og0_0x
  have og0_1 := og0_1x
  have og0_2 := og0_2x
  have og0_3 := og0_3x
  clear B1 K0x K1x K2x K3x ow0_0x ow0_1x ow0_2x ow0_3x ox00x og0_0x og0_1x og0_2x og0_3x
  try simp only [decide_true, Bool.and_self]
  have hlen0 := cfL_len n0_0 l0_1 hlv0_1
  have hlen1 := cfE_len n0_0 l0_1
  have hlen2 := (show ([] : List Int).length ≤ 1048576 by decide)
  have GK0 := K0.cell
  have ZK0 := K0.lt
  have GK1 := K1.cell
  have ZK1 := K1.lt
  have GK2 := K2.cell
  have ZK2 := K2.lt
  have GK3 := K3.cell
  have ZK3 := K3.lt
  go_wp2_with fail
  clear GK0 ZK0 GK1 ZK1 GK2 ZK2 GK3 ZK3
  refine calls_named ?_
  intro V15 hV
  have zV15 : W14.heap.size + 0 ≤ V15.heap.size := by rw [hV]; (first | exact Nat.le_refl _ | simp)
  have B1 : Below w.heap.size w V15 := by rw [hV]; first | exact B | exact B.alloc B.size _ | exact (B.alloc B.size _).alloc (by have := B.size; simp; omega) _
  have K0x : Blk V15 (w.heap.size) 24 #[.int .i64 n0_0, .slice av0_1 l0_1.length cv0_1] := by rw [hV]; first | exact K0 | exact K0.alloc _ | exact (K0.alloc _).alloc _
  have K1x : Blk V15 (W6.heap.size) 30 #[.int .i64 (cfK n0_0 l0_1), .int .i64 (cfA n0_0 l0_1), .slice pw0_0 iw0_0 qw0_0, .int .i64 (0), .slice pw0_1 iw0_1 qw0_1, .int .i64 (0), .slice pw0_2 iw0_2 qw0_2, .int .i64 (cfP n0_0 l0_1), .int .i64 (cfS n0_0 l0_1), .slice pw0_3 iw0_3 qw0_3] := by rw [hV]; first | exact K1 | exact K1.alloc _ | exact (K1.alloc _).alloc _
  have K2x : Blk V15 (W8.heap.size) 26 #[.int .i64 n0_0, .slice px00 ix00 qx00] := by rw [hV]; first | exact K2 | exact K2.alloc _ | exact (K2.alloc _).alloc _
  have K3x : Blk V15 (W10.heap.size) 30 #[.int .i64 (cfK n0_0 l0_1), .int .i64 (cfA n0_0 l0_1), .slice pg0_0 ig0_0 qg0_0, .int .i64 (0), .slice pg0_1 ig0_1 qg0_1, .int .i64 (0), .slice pg0_2 ig0_2 qg0_2, .int .i64 (cfP n0_0 l0_1), .int .i64 (cfS n0_0 l0_1), .slice pg0_3 ig0_3 qg0_3] := by rw [hV]; first | exact K3 | exact K3.alloc _ | exact (K3.alloc _).alloc _
  have ow0_0x : OwnW 3 V5.heap.size V15 (.slice pw0_0 iw0_0 qw0_0) (cfL n0_0 l0_1) := by rw [hV]; first | exact ow0_0 | exact ow0_0.alloc _ | exact (ow0_0.alloc _).alloc _
  have ow0_1x : OwnW 3 V5.heap.size V15 (.slice pw0_1 iw0_1 qw0_1) (([] : List Int)) := by rw [hV]; first | exact ow0_1 | exact ow0_1.alloc _ | exact (ow0_1.alloc _).alloc _
  have ow0_2x : OwnW 3 V5.heap.size V15 (.slice pw0_2 iw0_2 qw0_2) (([] : List Int)) := by rw [hV]; first | exact ow0_2 | exact ow0_2.alloc _ | exact (ow0_2.alloc _).alloc _
  have ow0_3x : OwnW 3 V5.heap.size V15 (.slice pw0_3 iw0_3 qw0_3) (cfE n0_0 l0_1) := by rw [hV]; first | exact ow0_3 | exact ow0_3.alloc _ | exact (ow0_3.alloc _).alloc _
  have ox00x : OwnW 3 V7.heap.size V15 (.slice px00 ix00 qx00) (l0_1) := by rw [hV]; first | exact ox00 | exact ox00.alloc _ | exact (ox00.alloc _).alloc _
  have og0_0x : OwnW 3 V9.heap.size V15 (.slice pg0_0 ig0_0 qg0_0) (cfL n0_0 l0_1) := by rw [hV]; first | exact og0_0 | exact og0_0.alloc _ | exact (og0_0.alloc _).alloc _
  have og0_1x : OwnW 3 V9.heap.size V15 (.slice pg0_1 ig0_1 qg0_1) (([] : List Int)) := by rw [hV]; first | exact og0_1 | exact og0_1.alloc _ | exact (og0_1.alloc _).alloc _
  have og0_2x : OwnW 3 V9.heap.size V15 (.slice pg0_2 ig0_2 qg0_2) (([] : List Int)) := by rw [hV]; first | exact og0_2 | exact og0_2.alloc _ | exact (og0_2.alloc _).alloc _
  have og0_3x : OwnW 3 V9.heap.size V15 (.slice pg0_3 ig0_3 qg0_3) (cfE n0_0 l0_1) := by rw [hV]; first | exact og0_3 | exact og0_3.alloc _ | exact (og0_3.alloc _).alloc _
  clear B K0 K1 K2 K3 ow0_0 ow0_1 ow0_2 ow0_3 ox00 og0_0 og0_1 og0_2 og0_3
  have B := B1
  have K0 := K0x
  have K1 := K1x
  have K2 := K2x
  have K3 := K3x
  have ow0_0 := ow0_0x
  have ow0_1 := ow0_1x
  have ow0_2 := ow0_2x
  have ow0_3 := ow0_3x
  have ox00 := ox00x
  have og0_0 := og0_0x
  have og0_1 := og0_1x
  have og0_2 := og0_2x
  have og0_3 := og0_3x
  clear B1 K0x K1x K2x K3x ow0_0x ow0_1x ow0_2x ow0_3x ox00x og0_0x og0_1x og0_2x og0_3x
  clear hV
  refine (markFunction_any _ _ _ _ _ ox00 _ (by omega) (by omega) (by omega)).mono ?_
  rintro e W16 ⟨rfl, ox00x, hg⟩
  have zW16 : V15.heap.size ≤ W16.heap.size := hg.size
  have B1 := below_grow B hg B.size (by intro kk hk; have := r_x00 kk hk; omega)
  have K0x := K0.grow hg (by intro hk; have := r_x00 _ hk; omega)
  have K1x := K1.grow hg (by intro hk; have := r_x00 _ hk; omega)
  have K2x := K2.grow hg (by intro hk; have := r_x00 _ hk; omega)
  have K3x := K3.grow hg (by intro hk; have := r_x00 _ hk; omega)
  have ow0_0x := ow0_0.grow hg (by intro kk hk hk2; have := r_x00 kk hk; have := r_w0_0 kk hk2; omega)
  have ow0_1x := ow0_1.grow hg (by intro kk hk hk2; have := r_x00 kk hk; have := r_w0_1 kk hk2; omega)
  have ow0_2x := ow0_2.grow hg (by intro kk hk hk2; have := r_x00 kk hk; have := r_w0_2 kk hk2; omega)
  have ow0_3x := ow0_3.grow hg (by intro kk hk hk2; have := r_x00 kk hk; have := r_w0_3 kk hk2; omega)
  have og0_0x := og0_0.grow hg (by intro kk hk hk2; have := r_x00 kk hk; have := r_g0_0 kk hk2; omega)
  have og0_1x := og0_1.grow hg (by intro kk hk hk2; have := r_x00 kk hk; have := r_g0_1 kk hk2; omega)
  have og0_2x := og0_2.grow hg (by intro kk hk hk2; have := r_x00 kk hk; have := r_g0_2 kk hk2; omega)
  have og0_3x := og0_3.grow hg (by intro kk hk hk2; have := r_x00 kk hk; have := r_g0_3 kk hk2; omega)
  clear B hg K0 K1 K2 K3 ow0_0 ow0_1 ow0_2 ow0_3 ox00 og0_0 og0_1 og0_2 og0_3
  have B := B1
  have K0 := K0x
  have K1 := K1x
  have K2 := K2x
  have K3 := K3x
  have ow0_0 := ow0_0x
  have ow0_1 := ow0_1x
  have ow0_2 := ow0_2x
  have ow0_3 := ow0_3x
  have ox00 := ox00x
  have og0_0 := og0_0x
  have og0_1 := og0_1x
  have og0_2 := og0_2x
  have og0_3 := og0_3x
  clear B1 K0x K1x K2x K3x ow0_0x ow0_1x ow0_2x ow0_3x ox00x og0_0x og0_1x og0_2x og0_3x
  have GK0 := K0.cell
  have ZK0 := K0.lt
  have GK1 := K1.cell
  have ZK1 := K1.lt
  have GK2 := K2.cell
  have ZK2 := K2.lt
  have GK3 := K3.cell
  have ZK3 := K3.lt
  go_wp2_with fail
  clear GK0 ZK0 GK1 ZK1 GK2 ZK2 GK3 ZK3
  refine calls_named ?_
  intro V17 hV
  have zV17 : W16.heap.size + 0 ≤ V17.heap.size := by rw [hV]; (first | exact Nat.le_refl _ | simp)
  have B1 : Below w.heap.size w V17 := by rw [hV]; first | exact B | exact B.alloc B.size _ | exact (B.alloc B.size _).alloc (by have := B.size; simp; omega) _
  have K0x : Blk V17 (w.heap.size) 24 #[.int .i64 n0_0, .slice av0_1 l0_1.length cv0_1] := by rw [hV]; first | exact K0 | exact K0.alloc _ | exact (K0.alloc _).alloc _
  have K1x : Blk V17 (W6.heap.size) 30 #[.int .i64 (cfK n0_0 l0_1), .int .i64 (cfA n0_0 l0_1), .slice pw0_0 iw0_0 qw0_0, .int .i64 (0), .slice pw0_1 iw0_1 qw0_1, .int .i64 (0), .slice pw0_2 iw0_2 qw0_2, .int .i64 (cfP n0_0 l0_1), .int .i64 (cfS n0_0 l0_1), .slice pw0_3 iw0_3 qw0_3] := by rw [hV]; first | exact K1 | exact K1.alloc _ | exact (K1.alloc _).alloc _
  have K2x : Blk V17 (W8.heap.size) 26 #[.int .i64 n0_0, .slice px00 ix00 qx00] := by rw [hV]; first | exact K2 | exact K2.alloc _ | exact (K2.alloc _).alloc _
  have K3x : Blk V17 (W10.heap.size) 30 #[.int .i64 (cfK n0_0 l0_1), .int .i64 (cfA n0_0 l0_1), .slice pg0_0 ig0_0 qg0_0, .int .i64 (0), .slice pg0_1 ig0_1 qg0_1, .int .i64 (0), .slice pg0_2 ig0_2 qg0_2, .int .i64 (cfP n0_0 l0_1), .int .i64 (cfS n0_0 l0_1), .slice pg0_3 ig0_3 qg0_3] := by rw [hV]; first | exact K3 | exact K3.alloc _ | exact (K3.alloc _).alloc _
  have ow0_0x : OwnW 3 V5.heap.size V17 (.slice pw0_0 iw0_0 qw0_0) (cfL n0_0 l0_1) := by rw [hV]; first | exact ow0_0 | exact ow0_0.alloc _ | exact (ow0_0.alloc _).alloc _
  have ow0_1x : OwnW 3 V5.heap.size V17 (.slice pw0_1 iw0_1 qw0_1) (([] : List Int)) := by rw [hV]; first | exact ow0_1 | exact ow0_1.alloc _ | exact (ow0_1.alloc _).alloc _
  have ow0_2x : OwnW 3 V5.heap.size V17 (.slice pw0_2 iw0_2 qw0_2) (([] : List Int)) := by rw [hV]; first | exact ow0_2 | exact ow0_2.alloc _ | exact (ow0_2.alloc _).alloc _
  have ow0_3x : OwnW 3 V5.heap.size V17 (.slice pw0_3 iw0_3 qw0_3) (cfE n0_0 l0_1) := by rw [hV]; first | exact ow0_3 | exact ow0_3.alloc _ | exact (ow0_3.alloc _).alloc _
  have ox00x : OwnW 3 V7.heap.size V17 (.slice px00 ix00 qx00) (ramp (1) (l0_1).length) := by rw [hV]; first | exact ox00 | exact ox00.alloc _ | exact (ox00.alloc _).alloc _
  have og0_0x : OwnW 3 V9.heap.size V17 (.slice pg0_0 ig0_0 qg0_0) (cfL n0_0 l0_1) := by rw [hV]; first | exact og0_0 | exact og0_0.alloc _ | exact (og0_0.alloc _).alloc _
  have og0_1x : OwnW 3 V9.heap.size V17 (.slice pg0_1 ig0_1 qg0_1) (([] : List Int)) := by rw [hV]; first | exact og0_1 | exact og0_1.alloc _ | exact (og0_1.alloc _).alloc _
  have og0_2x : OwnW 3 V9.heap.size V17 (.slice pg0_2 ig0_2 qg0_2) (([] : List Int)) := by rw [hV]; first | exact og0_2 | exact og0_2.alloc _ | exact (og0_2.alloc _).alloc _
  have og0_3x : OwnW 3 V9.heap.size V17 (.slice pg0_3 ig0_3 qg0_3) (cfE n0_0 l0_1) := by rw [hV]; first | exact og0_3 | exact og0_3.alloc _ | exact (og0_3.alloc _).alloc _
  clear B K0 K1 K2 K3 ow0_0 ow0_1 ow0_2 ow0_3 ox00 og0_0 og0_1 og0_2 og0_3
  have B := B1
  have K0 := K0x
  have K1 := K1x
  have K2 := K2x
  have K3 := K3x
  have ow0_0 := ow0_0x
  have ow0_1 := ow0_1x
  have ow0_2 := ow0_2x
  have ow0_3 := ow0_3x
  have ox00 := ox00x
  have og0_0 := og0_0x
  have og0_1 := og0_1x
  have og0_2 := og0_2x
  have og0_3 := og0_3x
  clear B1 K0x K1x K2x K3x ow0_0x ow0_1x ow0_2x ow0_3x ox00x og0_0x og0_1x og0_2x og0_3x
  clear hV
  refine (eqClaim_c _ _ _ _ _ og0_0.ints _ _ _ og0_1.ints _ _ _ og0_2.ints _ _ _ _ og0_3.ints _ ow0_0.ints _ ow0_1.ints _ ow0_2.ints _ ow0_3.ints).mono ?_
  rintro e W18 ⟨rfl, hb⟩
  have zW18 : V17.heap.size ≤ W18.heap.size := hb.size
  have B1 := B.after hb B.size
  have K0x := K0.keep hb
  have K1x := K1.keep hb
  have K2x := K2.keep hb
  have K3x := K3.keep hb
  have ow0_0x := ow0_0.keep hb
  have ow0_1x := ow0_1.keep hb
  have ow0_2x := ow0_2.keep hb
  have ow0_3x := ow0_3.keep hb
  have ox00x := ox00.keep hb
  have og0_0x := og0_0.keep hb
  have og0_1x := og0_1.keep hb
  have og0_2x := og0_2.keep hb
  have og0_3x := og0_3.keep hb
  clear B K0 K1 K2 K3 ow0_0 ow0_1 ow0_2 ow0_3 ox00 og0_0 og0_1 og0_2 og0_3
  have B := B1
  have K0 := K0x
  have K1 := K1x
  have K2 := K2x
  have K3 := K3x
  have ow0_0 := ow0_0x
  have ow0_1 := ow0_1x
  have ow0_2 := ow0_2x
  have ow0_3 := ow0_3x
  have ox00 := ox00x
  have og0_0 := og0_0x
  have og0_1 := og0_1x
  have og0_2 := og0_2x
  have og0_3 := og0_3x
  clear B1 K0x K1x K2x K3x ow0_0x ow0_1x ow0_2x ow0_3x ox00x og0_0x og0_1x og0_2x og0_3x
  clear hb
  have GK0 := K0.cell
  have ZK0 := K0.lt
  have GK1 := K1.cell
  have ZK1 := K1.lt
  have GK2 := K2.cell
  have ZK2 := K2.lt
  have GK3 := K3.cell
  have ZK3 := K3.lt
  go_wp2_with fail
  clear GK0 ZK0 GK1 ZK1 GK2 ZK2 GK3 ZK3
  refine calls_named ?_
  intro V19 hV
  have zV19 : W18.heap.size + 0 ≤ V19.heap.size := by rw [hV]; (first | exact Nat.le_refl _ | simp)
  have B1 : Below w.heap.size w V19 := by rw [hV]; first | exact B | exact B.alloc B.size _ | exact (B.alloc B.size _).alloc (by have := B.size; simp; omega) _
  have K0x : Blk V19 (w.heap.size) 24 #[.int .i64 n0_0, .slice av0_1 l0_1.length cv0_1] := by rw [hV]; first | exact K0 | exact K0.alloc _ | exact (K0.alloc _).alloc _
  have K1x : Blk V19 (W6.heap.size) 30 #[.int .i64 (cfK n0_0 l0_1), .int .i64 (cfA n0_0 l0_1), .slice pw0_0 iw0_0 qw0_0, .int .i64 (0), .slice pw0_1 iw0_1 qw0_1, .int .i64 (0), .slice pw0_2 iw0_2 qw0_2, .int .i64 (cfP n0_0 l0_1), .int .i64 (cfS n0_0 l0_1), .slice pw0_3 iw0_3 qw0_3] := by rw [hV]; first | exact K1 | exact K1.alloc _ | exact (K1.alloc _).alloc _
  have K2x : Blk V19 (W8.heap.size) 26 #[.int .i64 n0_0, .slice px00 ix00 qx00] := by rw [hV]; first | exact K2 | exact K2.alloc _ | exact (K2.alloc _).alloc _
  have K3x : Blk V19 (W10.heap.size) 30 #[.int .i64 (cfK n0_0 l0_1), .int .i64 (cfA n0_0 l0_1), .slice pg0_0 ig0_0 qg0_0, .int .i64 (0), .slice pg0_1 ig0_1 qg0_1, .int .i64 (0), .slice pg0_2 ig0_2 qg0_2, .int .i64 (cfP n0_0 l0_1), .int .i64 (cfS n0_0 l0_1), .slice pg0_3 ig0_3 qg0_3] := by rw [hV]; first | exact K3 | exact K3.alloc _ | exact (K3.alloc _).alloc _
  have ow0_0x : OwnW 3 V5.heap.size V19 (.slice pw0_0 iw0_0 qw0_0) (cfL n0_0 l0_1) := by rw [hV]; first | exact ow0_0 | exact ow0_0.alloc _ | exact (ow0_0.alloc _).alloc _
  have ow0_1x : OwnW 3 V5.heap.size V19 (.slice pw0_1 iw0_1 qw0_1) (([] : List Int)) := by rw [hV]; first | exact ow0_1 | exact ow0_1.alloc _ | exact (ow0_1.alloc _).alloc _
  have ow0_2x : OwnW 3 V5.heap.size V19 (.slice pw0_2 iw0_2 qw0_2) (([] : List Int)) := by rw [hV]; first | exact ow0_2 | exact ow0_2.alloc _ | exact (ow0_2.alloc _).alloc _
  have ow0_3x : OwnW 3 V5.heap.size V19 (.slice pw0_3 iw0_3 qw0_3) (cfE n0_0 l0_1) := by rw [hV]; first | exact ow0_3 | exact ow0_3.alloc _ | exact (ow0_3.alloc _).alloc _
  have ox00x : OwnW 3 V7.heap.size V19 (.slice px00 ix00 qx00) (ramp (1) (l0_1).length) := by rw [hV]; first | exact ox00 | exact ox00.alloc _ | exact (ox00.alloc _).alloc _
  have og0_0x : OwnW 3 V9.heap.size V19 (.slice pg0_0 ig0_0 qg0_0) (cfL n0_0 l0_1) := by rw [hV]; first | exact og0_0 | exact og0_0.alloc _ | exact (og0_0.alloc _).alloc _
  have og0_1x : OwnW 3 V9.heap.size V19 (.slice pg0_1 ig0_1 qg0_1) (([] : List Int)) := by rw [hV]; first | exact og0_1 | exact og0_1.alloc _ | exact (og0_1.alloc _).alloc _
  have og0_2x : OwnW 3 V9.heap.size V19 (.slice pg0_2 ig0_2 qg0_2) (([] : List Int)) := by rw [hV]; first | exact og0_2 | exact og0_2.alloc _ | exact (og0_2.alloc _).alloc _
  have og0_3x : OwnW 3 V9.heap.size V19 (.slice pg0_3 ig0_3 qg0_3) (cfE n0_0 l0_1) := by rw [hV]; first | exact og0_3 | exact og0_3.alloc _ | exact (og0_3.alloc _).alloc _
  clear B K0 K1 K2 K3 ow0_0 ow0_1 ow0_2 ow0_3 ox00 og0_0 og0_1 og0_2 og0_3
  have B := B1
  have K0 := K0x
  have K1 := K1x
  have K2 := K2x
  have K3 := K3x
  have ow0_0 := ow0_0x
  have ow0_1 := ow0_1x
  have ow0_2 := ow0_2x
  have ow0_3 := ow0_3x
  have ox00 := ox00x
  have og0_0 := og0_0x
  have og0_1 := og0_1x
  have og0_2 := og0_2x
  have og0_3 := og0_3x
  clear B1 K0x K1x K2x K3x ow0_0x ow0_1x ow0_2x ow0_3x ox00x og0_0x og0_1x og0_2x og0_3x
  clear hV
  refine (markClaim_c _ _ _ _ _ _ og0_0 _ _ _ _ og0_1 _ _ _ _ og0_2 _ _ _ _ _ og0_3 ap_g.1 ap_g.2.1 ap_g.2.2.1 ap_g.2.2.2.1 ap_g.2.2.2.2.1 ap_g.2.2.2.2.2 _ (by omega) (by omega) (by omega) (by omega) (by omega) (by omega)).mono ?_
  rintro e W20 ⟨rfl, og0_0x, og0_1x, og0_2x, og0_3x, hg⟩
  have zW20 : V19.heap.size ≤ W20.heap.size := hg.size
  have B1 : Below w.heap.size w W20 := Below.growIn B hg B.size (by intro kk hk; rcases hk with h | h | h | h <;> first | (have := r_g0_0 kk h; omega) | (have := r_g0_1 kk h; omega) | (have := r_g0_2 kk h; omega) | (have := r_g0_3 kk h; omega))
  have K0x := K0.growIn hg (by intro hk; rcases hk with h | h | h | h <;> first | (have := r_g0_0 _ h; omega) | (have := r_g0_1 _ h; omega) | (have := r_g0_2 _ h; omega) | (have := r_g0_3 _ h; omega))
  have K1x := K1.growIn hg (by intro hk; rcases hk with h | h | h | h <;> first | (have := r_g0_0 _ h; omega) | (have := r_g0_1 _ h; omega) | (have := r_g0_2 _ h; omega) | (have := r_g0_3 _ h; omega))
  have K2x := K2.growIn hg (by intro hk; rcases hk with h | h | h | h <;> first | (have := r_g0_0 _ h; omega) | (have := r_g0_1 _ h; omega) | (have := r_g0_2 _ h; omega) | (have := r_g0_3 _ h; omega))
  have K3x := K3.growIn hg (by intro hk; rcases hk with h | h | h | h <;> first | (have := r_g0_0 _ h; omega) | (have := r_g0_1 _ h; omega) | (have := r_g0_2 _ h; omega) | (have := r_g0_3 _ h; omega))
  have ow0_0x := ow0_0.growIn hg (by intro kk hk hk2; have := r_w0_0 kk hk; rcases hk2 with h | h | h | h <;> first | (have := r_g0_0 kk h; omega) | (have := r_g0_1 kk h; omega) | (have := r_g0_2 kk h; omega) | (have := r_g0_3 kk h; omega))
  have ow0_1x := ow0_1.growIn hg (by intro kk hk hk2; have := r_w0_1 kk hk; rcases hk2 with h | h | h | h <;> first | (have := r_g0_0 kk h; omega) | (have := r_g0_1 kk h; omega) | (have := r_g0_2 kk h; omega) | (have := r_g0_3 kk h; omega))
  have ow0_2x := ow0_2.growIn hg (by intro kk hk hk2; have := r_w0_2 kk hk; rcases hk2 with h | h | h | h <;> first | (have := r_g0_0 kk h; omega) | (have := r_g0_1 kk h; omega) | (have := r_g0_2 kk h; omega) | (have := r_g0_3 kk h; omega))
  have ow0_3x := ow0_3.growIn hg (by intro kk hk hk2; have := r_w0_3 kk hk; rcases hk2 with h | h | h | h <;> first | (have := r_g0_0 kk h; omega) | (have := r_g0_1 kk h; omega) | (have := r_g0_2 kk h; omega) | (have := r_g0_3 kk h; omega))
  have ox00x := ox00.growIn hg (by intro kk hk hk2; have := r_x00 kk hk; rcases hk2 with h | h | h | h <;> first | (have := r_g0_0 kk h; omega) | (have := r_g0_1 kk h; omega) | (have := r_g0_2 kk h; omega) | (have := r_g0_3 kk h; omega))
  clear B hg K0 K1 K2 K3 ow0_0 ow0_1 ow0_2 ow0_3 ox00 og0_0 og0_1 og0_2 og0_3
  have B := B1
  have K0 := K0x
  have K1 := K1x
  have K2 := K2x
  have K3 := K3x
  have ow0_0 := ow0_0x
  have ow0_1 := ow0_1x
  have ow0_2 := ow0_2x
  have ow0_3 := ow0_3x
  have ox00 := ox00x
  have og0_0 := og0_0x
  have og0_1 := og0_1x
  have og0_2 := og0_2x
  have og0_3 := og0_3x
  clear B1 K0x K1x K2x K3x ow0_0x ow0_1x ow0_2x ow0_3x ox00x og0_0x og0_1x og0_2x og0_3x
  have GK0 := K0.cell
  have ZK0 := K0.lt
  have GK1 := K1.cell
  have ZK1 := K1.lt
  have GK2 := K2.cell
  have ZK2 := K2.lt
  have GK3 := K3.cell
  have ZK3 := K3.lt
  go_wp2_with fail
  clear GK0 ZK0 GK1 ZK1 GK2 ZK2 GK3 ZK3
  refine calls_named ?_
  intro V21 hV
  have zV21 : W20.heap.size + 0 ≤ V21.heap.size := by rw [hV]; (first | exact Nat.le_refl _ | simp)
  have B1 : Below w.heap.size w V21 := by rw [hV]; first | exact B | exact B.alloc B.size _ | exact (B.alloc B.size _).alloc (by have := B.size; simp; omega) _
  have K0x : Blk V21 (w.heap.size) 24 #[.int .i64 n0_0, .slice av0_1 l0_1.length cv0_1] := by rw [hV]; first | exact K0 | exact K0.alloc _ | exact (K0.alloc _).alloc _
  have K1x : Blk V21 (W6.heap.size) 30 #[.int .i64 (cfK n0_0 l0_1), .int .i64 (cfA n0_0 l0_1), .slice pw0_0 iw0_0 qw0_0, .int .i64 (0), .slice pw0_1 iw0_1 qw0_1, .int .i64 (0), .slice pw0_2 iw0_2 qw0_2, .int .i64 (cfP n0_0 l0_1), .int .i64 (cfS n0_0 l0_1), .slice pw0_3 iw0_3 qw0_3] := by rw [hV]; first | exact K1 | exact K1.alloc _ | exact (K1.alloc _).alloc _
  have K2x : Blk V21 (W8.heap.size) 26 #[.int .i64 n0_0, .slice px00 ix00 qx00] := by rw [hV]; first | exact K2 | exact K2.alloc _ | exact (K2.alloc _).alloc _
  have K3x : Blk V21 (W10.heap.size) 30 #[.int .i64 (cfK n0_0 l0_1), .int .i64 (cfA n0_0 l0_1), .slice pg0_0 ig0_0 qg0_0, .int .i64 (0), .slice pg0_1 ig0_1 qg0_1, .int .i64 (0), .slice pg0_2 ig0_2 qg0_2, .int .i64 (cfP n0_0 l0_1), .int .i64 (cfS n0_0 l0_1), .slice pg0_3 ig0_3 qg0_3] := by rw [hV]; first | exact K3 | exact K3.alloc _ | exact (K3.alloc _).alloc _
  have ow0_0x : OwnW 3 V5.heap.size V21 (.slice pw0_0 iw0_0 qw0_0) (cfL n0_0 l0_1) := by rw [hV]; first | exact ow0_0 | exact ow0_0.alloc _ | exact (ow0_0.alloc _).alloc _
  have ow0_1x : OwnW 3 V5.heap.size V21 (.slice pw0_1 iw0_1 qw0_1) (([] : List Int)) := by rw [hV]; first | exact ow0_1 | exact ow0_1.alloc _ | exact (ow0_1.alloc _).alloc _
  have ow0_2x : OwnW 3 V5.heap.size V21 (.slice pw0_2 iw0_2 qw0_2) (([] : List Int)) := by rw [hV]; first | exact ow0_2 | exact ow0_2.alloc _ | exact (ow0_2.alloc _).alloc _
  have ow0_3x : OwnW 3 V5.heap.size V21 (.slice pw0_3 iw0_3 qw0_3) (cfE n0_0 l0_1) := by rw [hV]; first | exact ow0_3 | exact ow0_3.alloc _ | exact (ow0_3.alloc _).alloc _
  have ox00x : OwnW 3 V7.heap.size V21 (.slice px00 ix00 qx00) (ramp (1) (l0_1).length) := by rw [hV]; first | exact ox00 | exact ox00.alloc _ | exact (ox00.alloc _).alloc _
  have og0_0x : OwnW 3 V9.heap.size V21 (.slice pg0_0 ig0_0 qg0_0) (ramp (1) (cfL n0_0 l0_1).length) := by rw [hV]; first | exact og0_0 | exact og0_0.alloc _ | exact (og0_0.alloc _).alloc _
  have og0_1x : OwnW 3 V9.heap.size V21 (.slice pg0_1 ig0_1 qg0_1) (ramp (1 + ((cfL n0_0 l0_1).length : Int)) (([] : List Int)).length) := by rw [hV]; first | exact og0_1 | exact og0_1.alloc _ | exact (og0_1.alloc _).alloc _
  have og0_2x : OwnW 3 V9.heap.size V21 (.slice pg0_2 ig0_2 qg0_2) (ramp (1 + ((cfL n0_0 l0_1).length : Int) + ((([] : List Int)).length : Int)) (([] : List Int)).length) := by rw [hV]; first | exact og0_2 | exact og0_2.alloc _ | exact (og0_2.alloc _).alloc _
  have og0_3x : OwnW 3 V9.heap.size V21 (.slice pg0_3 ig0_3 qg0_3) (ramp (1 + ((cfL n0_0 l0_1).length : Int) + ((([] : List Int)).length : Int) + ((([] : List Int)).length : Int)) (cfE n0_0 l0_1).length) := by rw [hV]; first | exact og0_3 | exact og0_3.alloc _ | exact (og0_3.alloc _).alloc _
  clear B K0 K1 K2 K3 ow0_0 ow0_1 ow0_2 ow0_3 ox00 og0_0 og0_1 og0_2 og0_3
  have B := B1
  have K0 := K0x
  have K1 := K1x
  have K2 := K2x
  have K3 := K3x
  have ow0_0 := ow0_0x
  have ow0_1 := ow0_1x
  have ow0_2 := ow0_2x
  have ow0_3 := ow0_3x
  have ox00 := ox00x
  have og0_0 := og0_0x
  have og0_1 := og0_1x
  have og0_2 := og0_2x
  have og0_3 := og0_3x
  clear B1 K0x K1x K2x K3x ow0_0x ow0_1x ow0_2x ow0_3x ox00x og0_0x og0_1x og0_2x og0_3x
  clear hV
  refine (heldClaim_c _ _ _ _ _ _ _ _ _ _ _ _ _ _ _ _ og0_0.ints og0_1.ints og0_2.ints og0_3.ints (by omega) (by omega) (by omega) (by omega) (by omega) (by omega)).mono ?_
  rintro e W22 ⟨rfl, hb⟩
  have zW22 : V21.heap.size ≤ W22.heap.size := hb.size
  have B1 := B.after hb B.size
  have K0x := K0.keep hb
  have K1x := K1.keep hb
  have K2x := K2.keep hb
  have K3x := K3.keep hb
  have ow0_0x := ow0_0.keep hb
  have ow0_1x := ow0_1.keep hb
  have ow0_2x := ow0_2.keep hb
  have ow0_3x := ow0_3.keep hb
  have ox00x := ox00.keep hb
  have og0_0x := og0_0.keep hb
  have og0_1x := og0_1.keep hb
  have og0_2x := og0_2.keep hb
  have og0_3x := og0_3.keep hb
  clear B K0 K1 K2 K3 ow0_0 ow0_1 ow0_2 ow0_3 ox00 og0_0 og0_1 og0_2 og0_3
  have B := B1
  have K0 := K0x
  have K1 := K1x
  have K2 := K2x
  have K3 := K3x
  have ow0_0 := ow0_0x
  have ow0_1 := ow0_1x
  have ow0_2 := ow0_2x
  have ow0_3 := ow0_3x
  have ox00 := ox00x
  have og0_0 := og0_0x
  have og0_1 := og0_1x
  have og0_2 := og0_2x
  have og0_3 := og0_3x
  clear B1 K0x K1x K2x K3x ow0_0x ow0_1x ow0_2x ow0_3x ox00x og0_0x og0_1x og0_2x og0_3x
  clear hb
  have GK0 := K0.cell
  have ZK0 := K0.lt
  have GK1 := K1.cell
  have ZK1 := K1.lt
  have GK2 := K2.cell
  have ZK2 := K2.lt
  have GK3 := K3.cell
  have ZK3 := K3.lt
  go_wp2_with fail
  clear GK0 ZK0 GK1 ZK1 GK2 ZK2 GK3 ZK3
  refine calls_named ?_
  intro V23 hV
  have zV23 : W22.heap.size + 0 ≤ V23.heap.size := by rw [hV]; (first | exact Nat.le_refl _ | simp)
  have B1 : Below w.heap.size w V23 := by rw [hV]; first | exact B | exact B.alloc B.size _ | exact (B.alloc B.size _).alloc (by have := B.size; simp; omega) _
  have K0x : Blk V23 (w.heap.size) 24 #[.int .i64 n0_0, .slice av0_1 l0_1.length cv0_1] := by rw [hV]; first | exact K0 | exact K0.alloc _ | exact (K0.alloc _).alloc _
  have K1x : Blk V23 (W6.heap.size) 30 #[.int .i64 (cfK n0_0 l0_1), .int .i64 (cfA n0_0 l0_1), .slice pw0_0 iw0_0 qw0_0, .int .i64 (0), .slice pw0_1 iw0_1 qw0_1, .int .i64 (0), .slice pw0_2 iw0_2 qw0_2, .int .i64 (cfP n0_0 l0_1), .int .i64 (cfS n0_0 l0_1), .slice pw0_3 iw0_3 qw0_3] := by rw [hV]; first | exact K1 | exact K1.alloc _ | exact (K1.alloc _).alloc _
  have K2x : Blk V23 (W8.heap.size) 26 #[.int .i64 n0_0, .slice px00 ix00 qx00] := by rw [hV]; first | exact K2 | exact K2.alloc _ | exact (K2.alloc _).alloc _
  have K3x : Blk V23 (W10.heap.size) 30 #[.int .i64 (cfK n0_0 l0_1), .int .i64 (cfA n0_0 l0_1), .slice pg0_0 ig0_0 qg0_0, .int .i64 (0), .slice pg0_1 ig0_1 qg0_1, .int .i64 (0), .slice pg0_2 ig0_2 qg0_2, .int .i64 (cfP n0_0 l0_1), .int .i64 (cfS n0_0 l0_1), .slice pg0_3 ig0_3 qg0_3] := by rw [hV]; first | exact K3 | exact K3.alloc _ | exact (K3.alloc _).alloc _
  have ow0_0x : OwnW 3 V5.heap.size V23 (.slice pw0_0 iw0_0 qw0_0) (cfL n0_0 l0_1) := by rw [hV]; first | exact ow0_0 | exact ow0_0.alloc _ | exact (ow0_0.alloc _).alloc _
  have ow0_1x : OwnW 3 V5.heap.size V23 (.slice pw0_1 iw0_1 qw0_1) (([] : List Int)) := by rw [hV]; first | exact ow0_1 | exact ow0_1.alloc _ | exact (ow0_1.alloc _).alloc _
  have ow0_2x : OwnW 3 V5.heap.size V23 (.slice pw0_2 iw0_2 qw0_2) (([] : List Int)) := by rw [hV]; first | exact ow0_2 | exact ow0_2.alloc _ | exact (ow0_2.alloc _).alloc _
  have ow0_3x : OwnW 3 V5.heap.size V23 (.slice pw0_3 iw0_3 qw0_3) (cfE n0_0 l0_1) := by rw [hV]; first | exact ow0_3 | exact ow0_3.alloc _ | exact (ow0_3.alloc _).alloc _
  have ox00x : OwnW 3 V7.heap.size V23 (.slice px00 ix00 qx00) (ramp (1) (l0_1).length) := by rw [hV]; first | exact ox00 | exact ox00.alloc _ | exact (ox00.alloc _).alloc _
  have og0_0x : OwnW 3 V9.heap.size V23 (.slice pg0_0 ig0_0 qg0_0) (ramp (1) (cfL n0_0 l0_1).length) := by rw [hV]; first | exact og0_0 | exact og0_0.alloc _ | exact (og0_0.alloc _).alloc _
  have og0_1x : OwnW 3 V9.heap.size V23 (.slice pg0_1 ig0_1 qg0_1) (ramp (1 + ((cfL n0_0 l0_1).length : Int)) (([] : List Int)).length) := by rw [hV]; first | exact og0_1 | exact og0_1.alloc _ | exact (og0_1.alloc _).alloc _
  have og0_2x : OwnW 3 V9.heap.size V23 (.slice pg0_2 ig0_2 qg0_2) (ramp (1 + ((cfL n0_0 l0_1).length : Int) + ((([] : List Int)).length : Int)) (([] : List Int)).length) := by rw [hV]; first | exact og0_2 | exact og0_2.alloc _ | exact (og0_2.alloc _).alloc _
  have og0_3x : OwnW 3 V9.heap.size V23 (.slice pg0_3 ig0_3 qg0_3) (ramp (1 + ((cfL n0_0 l0_1).length : Int) + ((([] : List Int)).length : Int) + ((([] : List Int)).length : Int)) (cfE n0_0 l0_1).length) := by rw [hV]; first | exact og0_3 | exact og0_3.alloc _ | exact (og0_3.alloc _).alloc _
  clear B K0 K1 K2 K3 ow0_0 ow0_1 ow0_2 ow0_3 ox00 og0_0 og0_1 og0_2 og0_3
  have B := B1
  have K0 := K0x
  have K1 := K1x
  have K2 := K2x
  have K3 := K3x
  have ow0_0 := ow0_0x
  have ow0_1 := ow0_1x
  have ow0_2 := ow0_2x
  have ow0_3 := ow0_3x
  have ox00 := ox00x
  have og0_0 := og0_0x
  have og0_1 := og0_1x
  have og0_2 := og0_2x
  have og0_3 := og0_3x
  clear B1 K0x K1x K2x K3x ow0_0x ow0_1x ow0_2x ow0_3x ox00x og0_0x og0_1x og0_2x og0_3x
  clear hV
  refine (toFunction_any n0_0 _ l0_1 _ (hv0_1.below B (Nat.le_refl _)) hlv0_1).mono ?_
  rintro e W24 ⟨phx00, ihx00, qhx00, rfl, ohx00x, hb⟩
  have zW24 : V23.heap.size ≤ W24.heap.size := hb.size
  have B1 := B.after hb B.size
  have K0x := K0.keep hb
  have K1x := K1.keep hb
  have K2x := K2.keep hb
  have K3x := K3.keep hb
  have ow0_0x := ow0_0.keep hb
  have ow0_1x := ow0_1.keep hb
  have ow0_2x := ow0_2.keep hb
  have ow0_3x := ow0_3.keep hb
  have ox00x := ox00.keep hb
  have og0_0x := og0_0.keep hb
  have og0_1x := og0_1.keep hb
  have og0_2x := og0_2.keep hb
  have og0_3x := og0_3.keep hb
  clear B K0 K1 K2 K3 ow0_0 ow0_1 ow0_2 ow0_3 ox00 og0_0 og0_1 og0_2 og0_3
  have B := B1
  have K0 := K0x
  have K1 := K1x
  have K2 := K2x
  have K3 := K3x
  have ow0_0 := ow0_0x
  have ow0_1 := ow0_1x
  have ow0_2 := ow0_2x
  have ow0_3 := ow0_3x
  have ox00 := ox00x
  have og0_0 := og0_0x
  have og0_1 := og0_1x
  have og0_2 := og0_2x
  have og0_3 := og0_3x
  clear B1 K0x K1x K2x K3x ow0_0x ow0_1x ow0_2x ow0_3x ox00x og0_0x og0_1x og0_2x og0_3x
  clear hb
  have ohx00 := ohx00x.toW
  clear ohx00x
  have r_hx00 := ohx00.lt
  have GK0 := K0.cell
  have ZK0 := K0.lt
  have GK1 := K1.cell
  have ZK1 := K1.lt
  have GK2 := K2.cell
  have ZK2 := K2.lt
  have GK3 := K3.cell
  have ZK3 := K3.lt
  go_wp2_with fail
  clear GK0 ZK0 GK1 ZK1 GK2 ZK2 GK3 ZK3
  refine calls_named ?_
  intro V25 hV
  have zV25 : W24.heap.size + 0 ≤ V25.heap.size := by rw [hV]; (first | exact Nat.le_refl _ | simp)
  have B1 : Below w.heap.size w V25 := by rw [hV]; first | exact B | exact B.alloc B.size _ | exact (B.alloc B.size _).alloc (by have := B.size; simp; omega) _
  have K0x : Blk V25 (w.heap.size) 24 #[.int .i64 n0_0, .slice av0_1 l0_1.length cv0_1] := by rw [hV]; first | exact K0 | exact K0.alloc _ | exact (K0.alloc _).alloc _
  have K1x : Blk V25 (W6.heap.size) 30 #[.int .i64 (cfK n0_0 l0_1), .int .i64 (cfA n0_0 l0_1), .slice pw0_0 iw0_0 qw0_0, .int .i64 (0), .slice pw0_1 iw0_1 qw0_1, .int .i64 (0), .slice pw0_2 iw0_2 qw0_2, .int .i64 (cfP n0_0 l0_1), .int .i64 (cfS n0_0 l0_1), .slice pw0_3 iw0_3 qw0_3] := by rw [hV]; first | exact K1 | exact K1.alloc _ | exact (K1.alloc _).alloc _
  have K2x : Blk V25 (W8.heap.size) 26 #[.int .i64 n0_0, .slice px00 ix00 qx00] := by rw [hV]; first | exact K2 | exact K2.alloc _ | exact (K2.alloc _).alloc _
  have K3x : Blk V25 (W10.heap.size) 30 #[.int .i64 (cfK n0_0 l0_1), .int .i64 (cfA n0_0 l0_1), .slice pg0_0 ig0_0 qg0_0, .int .i64 (0), .slice pg0_1 ig0_1 qg0_1, .int .i64 (0), .slice pg0_2 ig0_2 qg0_2, .int .i64 (cfP n0_0 l0_1), .int .i64 (cfS n0_0 l0_1), .slice pg0_3 ig0_3 qg0_3] := by rw [hV]; first | exact K3 | exact K3.alloc _ | exact (K3.alloc _).alloc _
  have ow0_0x : OwnW 3 V5.heap.size V25 (.slice pw0_0 iw0_0 qw0_0) (cfL n0_0 l0_1) := by rw [hV]; first | exact ow0_0 | exact ow0_0.alloc _ | exact (ow0_0.alloc _).alloc _
  have ow0_1x : OwnW 3 V5.heap.size V25 (.slice pw0_1 iw0_1 qw0_1) (([] : List Int)) := by rw [hV]; first | exact ow0_1 | exact ow0_1.alloc _ | exact (ow0_1.alloc _).alloc _
  have ow0_2x : OwnW 3 V5.heap.size V25 (.slice pw0_2 iw0_2 qw0_2) (([] : List Int)) := by rw [hV]; first | exact ow0_2 | exact ow0_2.alloc _ | exact (ow0_2.alloc _).alloc _
  have ow0_3x : OwnW 3 V5.heap.size V25 (.slice pw0_3 iw0_3 qw0_3) (cfE n0_0 l0_1) := by rw [hV]; first | exact ow0_3 | exact ow0_3.alloc _ | exact (ow0_3.alloc _).alloc _
  have ox00x : OwnW 3 V7.heap.size V25 (.slice px00 ix00 qx00) (ramp (1) (l0_1).length) := by rw [hV]; first | exact ox00 | exact ox00.alloc _ | exact (ox00.alloc _).alloc _
  have og0_0x : OwnW 3 V9.heap.size V25 (.slice pg0_0 ig0_0 qg0_0) (ramp (1) (cfL n0_0 l0_1).length) := by rw [hV]; first | exact og0_0 | exact og0_0.alloc _ | exact (og0_0.alloc _).alloc _
  have og0_1x : OwnW 3 V9.heap.size V25 (.slice pg0_1 ig0_1 qg0_1) (ramp (1 + ((cfL n0_0 l0_1).length : Int)) (([] : List Int)).length) := by rw [hV]; first | exact og0_1 | exact og0_1.alloc _ | exact (og0_1.alloc _).alloc _
  have og0_2x : OwnW 3 V9.heap.size V25 (.slice pg0_2 ig0_2 qg0_2) (ramp (1 + ((cfL n0_0 l0_1).length : Int) + ((([] : List Int)).length : Int)) (([] : List Int)).length) := by rw [hV]; first | exact og0_2 | exact og0_2.alloc _ | exact (og0_2.alloc _).alloc _
  have og0_3x : OwnW 3 V9.heap.size V25 (.slice pg0_3 ig0_3 qg0_3) (ramp (1 + ((cfL n0_0 l0_1).length : Int) + ((([] : List Int)).length : Int) + ((([] : List Int)).length : Int)) (cfE n0_0 l0_1).length) := by rw [hV]; first | exact og0_3 | exact og0_3.alloc _ | exact (og0_3.alloc _).alloc _
  have ohx00x : OwnW 3 V23.heap.size V25 (.slice phx00 ihx00 qhx00) (l0_1) := by rw [hV]; first | exact ohx00 | exact ohx00.alloc _ | exact (ohx00.alloc _).alloc _
  clear B K0 K1 K2 K3 ow0_0 ow0_1 ow0_2 ow0_3 ox00 og0_0 og0_1 og0_2 og0_3 ohx00
  have B := B1
  have K0 := K0x
  have K1 := K1x
  have K2 := K2x
  have K3 := K3x
  have ow0_0 := ow0_0x
  have ow0_1 := ow0_1x
  have ow0_2 := ow0_2x
  have ow0_3 := ow0_3x
  have ox00 := ox00x
  have og0_0 := og0_0x
  have og0_1 := og0_1x
  have og0_2 := og0_2x
  have og0_3 := og0_3x
  have ohx00 := ohx00x
  clear B1 K0x K1x K2x K3x ow0_0x ow0_1x ow0_2x ow0_3x ox00x og0_0x og0_1x og0_2x og0_3x ohx00x
  clear hV
  refine (claimFunI_c _ n0_0 _ l0_1 ohx00.ints hlv0_1).mono ?_
  rintro e W26 ⟨ph0_0, ih0_0, qh0_0, ph0_1, ih0_1, qh0_1, ph0_2, ih0_2, qh0_2, ph0_3, ih0_3, qh0_3, rfl, oh0_0x, oh0_1x, oh0_2x, oh0_3x, ap_h, hb⟩
  have zW26 : V25.heap.size ≤ W26.heap.size := hb.size
  have B1 := B.after hb B.size
  have K0x := K0.keep hb
  have K1x := K1.keep hb
  have K2x := K2.keep hb
  have K3x := K3.keep hb
  have ow0_0x := ow0_0.keep hb
  have ow0_1x := ow0_1.keep hb
  have ow0_2x := ow0_2.keep hb
  have ow0_3x := ow0_3.keep hb
  have ox00x := ox00.keep hb
  have og0_0x := og0_0.keep hb
  have og0_1x := og0_1.keep hb
  have og0_2x := og0_2.keep hb
  have og0_3x := og0_3.keep hb
  clear B K0 K1 K2 K3 ow0_0 ow0_1 ow0_2 ow0_3 ox00 og0_0 og0_1 og0_2 og0_3
  have B := B1
  have K0 := K0x
  have K1 := K1x
  have K2 := K2x
  have K3 := K3x
  have ow0_0 := ow0_0x
  have ow0_1 := ow0_1x
  have ow0_2 := ow0_2x
  have ow0_3 := ow0_3x
  have ox00 := ox00x
  have og0_0 := og0_0x
  have og0_1 := og0_1x
  have og0_2 := og0_2x
  have og0_3 := og0_3x
  clear B1 K0x K1x K2x K3x ow0_0x ow0_1x ow0_2x ow0_3x ox00x og0_0x og0_1x og0_2x og0_3x
  clear hb
  clear ohx00
  have oh0_0 := oh0_0x.toW
  clear oh0_0x
  have r_h0_0 := oh0_0.lt
  have oh0_1 := oh0_1x.toW
  clear oh0_1x
  have r_h0_1 := oh0_1.lt
  have oh0_2 := oh0_2x.toW
  clear oh0_2x
  have r_h0_2 := oh0_2.lt
  have oh0_3 := oh0_3x.toW
  clear oh0_3x
  have r_h0_3 := oh0_3.lt
  have GK0 := K0.cell
  have ZK0 := K0.lt
  have GK1 := K1.cell
  have ZK1 := K1.lt
  have GK2 := K2.cell
  have ZK2 := K2.lt
  have GK3 := K3.cell
  have ZK3 := K3.lt
  go_wp2_with fail
  clear GK0 ZK0 GK1 ZK1 GK2 ZK2 GK3 ZK3
  refine calls_named ?_
  intro V27 hV
  have zV27 : W26.heap.size + 1 ≤ V27.heap.size := by rw [hV]; (first | exact Nat.le_refl _ | simp)
  have B1 : Below w.heap.size w V27 := by rw [hV]; first | exact B | exact B.alloc B.size _ | exact (B.alloc B.size _).alloc (by have := B.size; simp; omega) _
  have K0x : Blk V27 (w.heap.size) 24 #[.int .i64 n0_0, .slice av0_1 l0_1.length cv0_1] := by rw [hV]; first | exact K0 | exact K0.alloc _ | exact (K0.alloc _).alloc _
  have K1x : Blk V27 (W6.heap.size) 30 #[.int .i64 (cfK n0_0 l0_1), .int .i64 (cfA n0_0 l0_1), .slice pw0_0 iw0_0 qw0_0, .int .i64 (0), .slice pw0_1 iw0_1 qw0_1, .int .i64 (0), .slice pw0_2 iw0_2 qw0_2, .int .i64 (cfP n0_0 l0_1), .int .i64 (cfS n0_0 l0_1), .slice pw0_3 iw0_3 qw0_3] := by rw [hV]; first | exact K1 | exact K1.alloc _ | exact (K1.alloc _).alloc _
  have K2x : Blk V27 (W8.heap.size) 26 #[.int .i64 n0_0, .slice px00 ix00 qx00] := by rw [hV]; first | exact K2 | exact K2.alloc _ | exact (K2.alloc _).alloc _
  have K3x : Blk V27 (W10.heap.size) 30 #[.int .i64 (cfK n0_0 l0_1), .int .i64 (cfA n0_0 l0_1), .slice pg0_0 ig0_0 qg0_0, .int .i64 (0), .slice pg0_1 ig0_1 qg0_1, .int .i64 (0), .slice pg0_2 ig0_2 qg0_2, .int .i64 (cfP n0_0 l0_1), .int .i64 (cfS n0_0 l0_1), .slice pg0_3 ig0_3 qg0_3] := by rw [hV]; first | exact K3 | exact K3.alloc _ | exact (K3.alloc _).alloc _
  have ow0_0x : OwnW 3 V5.heap.size V27 (.slice pw0_0 iw0_0 qw0_0) (cfL n0_0 l0_1) := by rw [hV]; first | exact ow0_0 | exact ow0_0.alloc _ | exact (ow0_0.alloc _).alloc _
  have ow0_1x : OwnW 3 V5.heap.size V27 (.slice pw0_1 iw0_1 qw0_1) (([] : List Int)) := by rw [hV]; first | exact ow0_1 | exact ow0_1.alloc _ | exact (ow0_1.alloc _).alloc _
  have ow0_2x : OwnW 3 V5.heap.size V27 (.slice pw0_2 iw0_2 qw0_2) (([] : List Int)) := by rw [hV]; first | exact ow0_2 | exact ow0_2.alloc _ | exact (ow0_2.alloc _).alloc _
  have ow0_3x : OwnW 3 V5.heap.size V27 (.slice pw0_3 iw0_3 qw0_3) (cfE n0_0 l0_1) := by rw [hV]; first | exact ow0_3 | exact ow0_3.alloc _ | exact (ow0_3.alloc _).alloc _
  have ox00x : OwnW 3 V7.heap.size V27 (.slice px00 ix00 qx00) (ramp (1) (l0_1).length) := by rw [hV]; first | exact ox00 | exact ox00.alloc _ | exact (ox00.alloc _).alloc _
  have og0_0x : OwnW 3 V9.heap.size V27 (.slice pg0_0 ig0_0 qg0_0) (ramp (1) (cfL n0_0 l0_1).length) := by rw [hV]; first | exact og0_0 | exact og0_0.alloc _ | exact (og0_0.alloc _).alloc _
  have og0_1x : OwnW 3 V9.heap.size V27 (.slice pg0_1 ig0_1 qg0_1) (ramp (1 + ((cfL n0_0 l0_1).length : Int)) (([] : List Int)).length) := by rw [hV]; first | exact og0_1 | exact og0_1.alloc _ | exact (og0_1.alloc _).alloc _
  have og0_2x : OwnW 3 V9.heap.size V27 (.slice pg0_2 ig0_2 qg0_2) (ramp (1 + ((cfL n0_0 l0_1).length : Int) + ((([] : List Int)).length : Int)) (([] : List Int)).length) := by rw [hV]; first | exact og0_2 | exact og0_2.alloc _ | exact (og0_2.alloc _).alloc _
  have og0_3x : OwnW 3 V9.heap.size V27 (.slice pg0_3 ig0_3 qg0_3) (ramp (1 + ((cfL n0_0 l0_1).length : Int) + ((([] : List Int)).length : Int) + ((([] : List Int)).length : Int)) (cfE n0_0 l0_1).length) := by rw [hV]; first | exact og0_3 | exact og0_3.alloc _ | exact (og0_3.alloc _).alloc _
  have oh0_0x : OwnW 3 V25.heap.size V27 (.slice ph0_0 ih0_0 qh0_0) (cfL n0_0 l0_1) := by rw [hV]; first | exact oh0_0 | exact oh0_0.alloc _ | exact (oh0_0.alloc _).alloc _
  have oh0_1x : OwnW 3 V25.heap.size V27 (.slice ph0_1 ih0_1 qh0_1) (([] : List Int)) := by rw [hV]; first | exact oh0_1 | exact oh0_1.alloc _ | exact (oh0_1.alloc _).alloc _
  have oh0_2x : OwnW 3 V25.heap.size V27 (.slice ph0_2 ih0_2 qh0_2) (([] : List Int)) := by rw [hV]; first | exact oh0_2 | exact oh0_2.alloc _ | exact (oh0_2.alloc _).alloc _
  have oh0_3x : OwnW 3 V25.heap.size V27 (.slice ph0_3 ih0_3 qh0_3) (cfE n0_0 l0_1) := by rw [hV]; first | exact oh0_3 | exact oh0_3.alloc _ | exact (oh0_3.alloc _).alloc _
  have K4x : Blk V27 (W26.heap.size) 30 #[.int .i64 (cfK n0_0 l0_1), .int .i64 (cfA n0_0 l0_1), .slice ph0_0 ih0_0 qh0_0, .int .i64 (0), .slice ph0_1 ih0_1 qh0_1, .int .i64 (0), .slice ph0_2 ih0_2 qh0_2, .int .i64 (cfP n0_0 l0_1), .int .i64 (cfS n0_0 l0_1), .slice ph0_3 ih0_3 qh0_3] := by rw [hV]; exact Blk.new _ _ _
  clear B K0 K1 K2 K3 ow0_0 ow0_1 ow0_2 ow0_3 ox00 og0_0 og0_1 og0_2 og0_3 oh0_0 oh0_1 oh0_2 oh0_3
  have B := B1
  have K0 := K0x
  have K1 := K1x
  have K2 := K2x
  have K3 := K3x
  have K4 := K4x
  have ow0_0 := ow0_0x
  have ow0_1 := ow0_1x
  have ow0_2 := ow0_2x
  have ow0_3 := ow0_3x
  have ox00 := ox00x
  have og0_0 := og0_0x
  have og0_1 := og0_1x
  have og0_2 := og0_2x
  have og0_3 := og0_3x
  have oh0_0 := oh0_0x
  have oh0_1 := oh0_1x
  have oh0_2 := oh0_2x
  have oh0_3 := oh0_3x
  clear B1 K0x K1x K2x K3x K4x ow0_0x ow0_1x ow0_2x ow0_3x ox00x og0_0x og0_1x og0_2x og0_3x oh0_0x oh0_1x oh0_2x oh0_3x
  clear hV
  refine (eqClaim_c _ _ _ _ _ oh0_0.ints _ _ _ oh0_1.ints _ _ _ oh0_2.ints _ _ _ _ oh0_3.ints _ ow0_0.ints _ ow0_1.ints _ ow0_2.ints _ ow0_3.ints).mono ?_
  rintro e W28 ⟨rfl, hb⟩
  have zW28 : V27.heap.size ≤ W28.heap.size := hb.size
  have B1 := B.after hb B.size
  have K0x := K0.keep hb
  have K1x := K1.keep hb
  have K2x := K2.keep hb
  have K3x := K3.keep hb
  have K4x := K4.keep hb
  have ow0_0x := ow0_0.keep hb
  have ow0_1x := ow0_1.keep hb
  have ow0_2x := ow0_2.keep hb
  have ow0_3x := ow0_3.keep hb
  have ox00x := ox00.keep hb
  have og0_0x := og0_0.keep hb
  have og0_1x := og0_1.keep hb
  have og0_2x := og0_2.keep hb
  have og0_3x := og0_3.keep hb
  have oh0_0x := oh0_0.keep hb
  have oh0_1x := oh0_1.keep hb
  have oh0_2x := oh0_2.keep hb
  have oh0_3x := oh0_3.keep hb
  clear B K0 K1 K2 K3 K4 ow0_0 ow0_1 ow0_2 ow0_3 ox00 og0_0 og0_1 og0_2 og0_3 oh0_0 oh0_1 oh0_2 oh0_3
  have B := B1
  have K0 := K0x
  have K1 := K1x
  have K2 := K2x
  have K3 := K3x
  have K4 := K4x
  have ow0_0 := ow0_0x
  have ow0_1 := ow0_1x
  have ow0_2 := ow0_2x
  have ow0_3 := ow0_3x
  have ox00 := ox00x
  have og0_0 := og0_0x
  have og0_1 := og0_1x
  have og0_2 := og0_2x
  have og0_3 := og0_3x
  have oh0_0 := oh0_0x
  have oh0_1 := oh0_1x
  have oh0_2 := oh0_2x
  have oh0_3 := oh0_3x
  clear B1 K0x K1x K2x K3x K4x ow0_0x ow0_1x ow0_2x ow0_3x ox00x og0_0x og0_1x og0_2x og0_3x oh0_0x oh0_1x oh0_2x oh0_3x
  clear hb
  have GK0 := K0.cell
  have ZK0 := K0.lt
  have GK1 := K1.cell
  have ZK1 := K1.lt
  have GK2 := K2.cell
  have ZK2 := K2.lt
  have GK3 := K3.cell
  have ZK3 := K3.lt
  have GK4 := K4.cell
  have ZK4 := K4.lt
  go_wp2_with fail
  clear GK0 ZK0 GK1 ZK1 GK2 ZK2 GK3 ZK3 GK4 ZK4
  refine calls_named ?_
  intro V29 hV
  have zV29 : W28.heap.size + 0 ≤ V29.heap.size := by rw [hV]; (first | exact Nat.le_refl _ | simp)
  have B1 : Below w.heap.size w V29 := by rw [hV]; first | exact B | exact B.alloc B.size _ | exact (B.alloc B.size _).alloc (by have := B.size; simp; omega) _
  have K0x : Blk V29 (w.heap.size) 24 #[.int .i64 n0_0, .slice av0_1 l0_1.length cv0_1] := by rw [hV]; first | exact K0 | exact K0.alloc _ | exact (K0.alloc _).alloc _
  have K1x : Blk V29 (W6.heap.size) 30 #[.int .i64 (cfK n0_0 l0_1), .int .i64 (cfA n0_0 l0_1), .slice pw0_0 iw0_0 qw0_0, .int .i64 (0), .slice pw0_1 iw0_1 qw0_1, .int .i64 (0), .slice pw0_2 iw0_2 qw0_2, .int .i64 (cfP n0_0 l0_1), .int .i64 (cfS n0_0 l0_1), .slice pw0_3 iw0_3 qw0_3] := by rw [hV]; first | exact K1 | exact K1.alloc _ | exact (K1.alloc _).alloc _
  have K2x : Blk V29 (W8.heap.size) 26 #[.int .i64 n0_0, .slice px00 ix00 qx00] := by rw [hV]; first | exact K2 | exact K2.alloc _ | exact (K2.alloc _).alloc _
  have K3x : Blk V29 (W10.heap.size) 30 #[.int .i64 (cfK n0_0 l0_1), .int .i64 (cfA n0_0 l0_1), .slice pg0_0 ig0_0 qg0_0, .int .i64 (0), .slice pg0_1 ig0_1 qg0_1, .int .i64 (0), .slice pg0_2 ig0_2 qg0_2, .int .i64 (cfP n0_0 l0_1), .int .i64 (cfS n0_0 l0_1), .slice pg0_3 ig0_3 qg0_3] := by rw [hV]; first | exact K3 | exact K3.alloc _ | exact (K3.alloc _).alloc _
  have K4x : Blk V29 (W26.heap.size) 30 #[.int .i64 (cfK n0_0 l0_1), .int .i64 (cfA n0_0 l0_1), .slice ph0_0 ih0_0 qh0_0, .int .i64 (0), .slice ph0_1 ih0_1 qh0_1, .int .i64 (0), .slice ph0_2 ih0_2 qh0_2, .int .i64 (cfP n0_0 l0_1), .int .i64 (cfS n0_0 l0_1), .slice ph0_3 ih0_3 qh0_3] := by rw [hV]; first | exact K4 | exact K4.alloc _ | exact (K4.alloc _).alloc _
  have ow0_0x : OwnW 3 V5.heap.size V29 (.slice pw0_0 iw0_0 qw0_0) (cfL n0_0 l0_1) := by rw [hV]; first | exact ow0_0 | exact ow0_0.alloc _ | exact (ow0_0.alloc _).alloc _
  have ow0_1x : OwnW 3 V5.heap.size V29 (.slice pw0_1 iw0_1 qw0_1) (([] : List Int)) := by rw [hV]; first | exact ow0_1 | exact ow0_1.alloc _ | exact (ow0_1.alloc _).alloc _
  have ow0_2x : OwnW 3 V5.heap.size V29 (.slice pw0_2 iw0_2 qw0_2) (([] : List Int)) := by rw [hV]; first | exact ow0_2 | exact ow0_2.alloc _ | exact (ow0_2.alloc _).alloc _
  have ow0_3x : OwnW 3 V5.heap.size V29 (.slice pw0_3 iw0_3 qw0_3) (cfE n0_0 l0_1) := by rw [hV]; first | exact ow0_3 | exact ow0_3.alloc _ | exact (ow0_3.alloc _).alloc _
  have ox00x : OwnW 3 V7.heap.size V29 (.slice px00 ix00 qx00) (ramp (1) (l0_1).length) := by rw [hV]; first | exact ox00 | exact ox00.alloc _ | exact (ox00.alloc _).alloc _
  have og0_0x : OwnW 3 V9.heap.size V29 (.slice pg0_0 ig0_0 qg0_0) (ramp (1) (cfL n0_0 l0_1).length) := by rw [hV]; first | exact og0_0 | exact og0_0.alloc _ | exact (og0_0.alloc _).alloc _
  have og0_1x : OwnW 3 V9.heap.size V29 (.slice pg0_1 ig0_1 qg0_1) (ramp (1 + ((cfL n0_0 l0_1).length : Int)) (([] : List Int)).length) := by rw [hV]; first | exact og0_1 | exact og0_1.alloc _ | exact (og0_1.alloc _).alloc _
  have og0_2x : OwnW 3 V9.heap.size V29 (.slice pg0_2 ig0_2 qg0_2) (ramp (1 + ((cfL n0_0 l0_1).length : Int) + ((([] : List Int)).length : Int)) (([] : List Int)).length) := by rw [hV]; first | exact og0_2 | exact og0_2.alloc _ | exact (og0_2.alloc _).alloc _
  have og0_3x : OwnW 3 V9.heap.size V29 (.slice pg0_3 ig0_3 qg0_3) (ramp (1 + ((cfL n0_0 l0_1).length : Int) + ((([] : List Int)).length : Int) + ((([] : List Int)).length : Int)) (cfE n0_0 l0_1).length) := by rw [hV]; first | exact og0_3 | exact og0_3.alloc _ | exact (og0_3.alloc _).alloc _
  have oh0_0x : OwnW 3 V25.heap.size V29 (.slice ph0_0 ih0_0 qh0_0) (cfL n0_0 l0_1) := by rw [hV]; first | exact oh0_0 | exact oh0_0.alloc _ | exact (oh0_0.alloc _).alloc _
  have oh0_1x : OwnW 3 V25.heap.size V29 (.slice ph0_1 ih0_1 qh0_1) (([] : List Int)) := by rw [hV]; first | exact oh0_1 | exact oh0_1.alloc _ | exact (oh0_1.alloc _).alloc _
  have oh0_2x : OwnW 3 V25.heap.size V29 (.slice ph0_2 ih0_2 qh0_2) (([] : List Int)) := by rw [hV]; first | exact oh0_2 | exact oh0_2.alloc _ | exact (oh0_2.alloc _).alloc _
  have oh0_3x : OwnW 3 V25.heap.size V29 (.slice ph0_3 ih0_3 qh0_3) (cfE n0_0 l0_1) := by rw [hV]; first | exact oh0_3 | exact oh0_3.alloc _ | exact (oh0_3.alloc _).alloc _
  clear B K0 K1 K2 K3 K4 ow0_0 ow0_1 ow0_2 ow0_3 ox00 og0_0 og0_1 og0_2 og0_3 oh0_0 oh0_1 oh0_2 oh0_3
  have B := B1
  have K0 := K0x
  have K1 := K1x
  have K2 := K2x
  have K3 := K3x
  have K4 := K4x
  have ow0_0 := ow0_0x
  have ow0_1 := ow0_1x
  have ow0_2 := ow0_2x
  have ow0_3 := ow0_3x
  have ox00 := ox00x
  have og0_0 := og0_0x
  have og0_1 := og0_1x
  have og0_2 := og0_2x
  have og0_3 := og0_3x
  have oh0_0 := oh0_0x
  have oh0_1 := oh0_1x
  have oh0_2 := oh0_2x
  have oh0_3 := oh0_3x
  clear B1 K0x K1x K2x K3x K4x ow0_0x ow0_1x ow0_2x ow0_3x ox00x og0_0x og0_1x og0_2x og0_3x oh0_0x oh0_1x oh0_2x oh0_3x
  clear hV
  refine (heldClaim_c _ _ _ _ _ _ _ _ _ _ _ _ _ _ _ _ og0_0.ints og0_1.ints og0_2.ints og0_3.ints (by omega) (by omega) (by omega) (by omega) (by omega) (by omega)).mono ?_
  rintro e W30 ⟨rfl, hb⟩
  have zW30 : V29.heap.size ≤ W30.heap.size := hb.size
  have B1 := B.after hb B.size
  have K0x := K0.keep hb
  have K1x := K1.keep hb
  have K2x := K2.keep hb
  have K3x := K3.keep hb
  have K4x := K4.keep hb
  have ow0_0x := ow0_0.keep hb
  have ow0_1x := ow0_1.keep hb
  have ow0_2x := ow0_2.keep hb
  have ow0_3x := ow0_3.keep hb
  have ox00x := ox00.keep hb
  have og0_0x := og0_0.keep hb
  have og0_1x := og0_1.keep hb
  have og0_2x := og0_2.keep hb
  have og0_3x := og0_3.keep hb
  have oh0_0x := oh0_0.keep hb
  have oh0_1x := oh0_1.keep hb
  have oh0_2x := oh0_2.keep hb
  have oh0_3x := oh0_3.keep hb
  clear B K0 K1 K2 K3 K4 ow0_0 ow0_1 ow0_2 ow0_3 ox00 og0_0 og0_1 og0_2 og0_3 oh0_0 oh0_1 oh0_2 oh0_3
  have B := B1
  have K0 := K0x
  have K1 := K1x
  have K2 := K2x
  have K3 := K3x
  have K4 := K4x
  have ow0_0 := ow0_0x
  have ow0_1 := ow0_1x
  have ow0_2 := ow0_2x
  have ow0_3 := ow0_3x
  have ox00 := ox00x
  have og0_0 := og0_0x
  have og0_1 := og0_1x
  have og0_2 := og0_2x
  have og0_3 := og0_3x
  have oh0_0 := oh0_0x
  have oh0_1 := oh0_1x
  have oh0_2 := oh0_2x
  have oh0_3 := oh0_3x
  clear B1 K0x K1x K2x K3x K4x ow0_0x ow0_1x ow0_2x ow0_3x ox00x og0_0x og0_1x og0_2x og0_3x oh0_0x oh0_1x oh0_2x oh0_3x
  clear hb
  have GK0 := K0.cell
  have ZK0 := K0.lt
  have GK1 := K1.cell
  have ZK1 := K1.lt
  have GK2 := K2.cell
  have ZK2 := K2.lt
  have GK3 := K3.cell
  have ZK3 := K3.lt
  have GK4 := K4.cell
  have ZK4 := K4.lt
  go_wp2
  go_ret
  exact ⟨rfl, B⟩

theorem fnExactClaimOfFunction_params : Try.f4.params = #[24] := by kernel_rfl
set_option maxRecDepth 100000 in
theorem fnExactClaimOfFunction_lifted (os : Os) (started : os.Started) (H : Type) (enc : TypeId × Value → H) :
    ReturnsInHanded {} Try.checked os 4 .any (Rows.fnExactClaimOfFunctionSpec.pre6 enc Try.prog Try.f4 Rows.fnExactClaimOfFunctionRow.domain false) (Rows.fnExactClaimOfFunctionSpec.post enc Try.prog Try.f4 false true false false) := by
  refine law_lift os started H enc Try.func4 (by kernel_rfl) rfl (by kernel_rfl) (by kernel_rfl) ?_
    (ChangeSpec.witness6 (enc := enc) (C := Try.checked) false ⟨#[], #[.agg #[.int .i64 0, .slice none 0 0]], []⟩ 8 (by kernel_rfl) (by kernel_rfl) (by kernel_rfl) (by kernel_rfl)) ?_
  · intro ds hds
    rw [fnExactClaimOfFunction_params] at hds
    match ds, hds with
    | [d0], _ => rfl
  · intro W base args ds p hval hA
    rw [fnExactClaimOfFunction_params] at hA hval
    obtain ⟨v0, vs0, d0, ds0, p0, q0, hargs, rfl, rfl, h0, r0⟩ := trodAll_cons hA
    obtain ⟨rfl, rfl, rfl⟩ := trodAll_nil r0
    obtain rfl : args = #[v0] := by cases args; simp_all
    obtain ⟨n0, u0, l0, rfl, w0, x0⟩ := rd_fun (hval 0 24 v0 rfl rfl) h0
    exact claimfunction W n0 u0 l0 w0 x0

theorem fnExactClaimOfFunction_holds : Rows.FnExactClaimOfFunctionSaid :=
  OpenClaim.holds_of_wide 4 Try.f4 rfl rfl rfl rfl rfl rfl rfl ⟨rfl, rfl, rfl, rfl, rfl⟩ rfl rfl rfl rfl rfl (by kernel_rfl) Try.func4 (by kernel_rfl)
    (of_decide_eq_true (by kernel_rfl)) (by unfold Func.isWrapper; first | (rw [if_pos (by decide +kernel)]; kernel_rfl) | (rw [if_neg (by decide +kernel)]; exact ⟨rfl, rfl⟩))
    (fun os started H enc _ => fnExactClaimOfFunction_lifted os started H enc)
end Go.Proofs.Ytmlpcohailjccaa
