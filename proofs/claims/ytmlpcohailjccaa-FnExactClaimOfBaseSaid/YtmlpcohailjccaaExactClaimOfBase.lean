/- The statement FnExactClaimOfBase: for every input the call returns true and each argument reads as it did. No condition. -/
import Derived.Test.YtmlpcohailjccaaRead
import Derived.Test.YtmlpcohailjccaaTo
import Derived.Test.YtmlpcohailjccaaEq
import Derived.Test.YtmlpcohailjccaaMark
import Derived.Deep.RegionHeld3
import Derived.Test.YtmlpcohailjccaaMarkK
import Derived.Test.YtmlpcohailjccaaBlk
import Derived.Test.YtmlpcohailjccaaClaimBase
import Derived.Test.YtmlpcohailjccaaClaim
import Derived.Test.YtmlpcohailjccaaClaimEq
namespace Go.Proofs.Ytmlpcohailjccaa
open Go.ChangeShapes Go.WideShapes Go.ChangeAt Go.RowKit Go.G5
set_option maxHeartbeats 4000000 in
set_option maxRecDepth 100000 in
theorem claimbase (w : World) (n0_0 : Int) (v0_1 : Value) (l0_1 : List Int) (_ : InR n0_0) (hv0_1 : Ints w v0_1 l0_1) (v1_0 : Value) (l1_0 : List Int) (hv1_0 : Ints w v1_0 l1_0) :
    Calls Try.prog 5 #[.agg #[.int .i64 n0_0, v0_1], v1_0] w fun e w' => e = .returned (.bool true) ∧ Below w.heap.size w w' := by
  obtain ⟨av0_1, cv0_1, rfl⟩ := hv0_1.shape
  obtain ⟨av1_0, cv1_0, rfl⟩ := hv1_0.shape
  by_cases hlv1_0 : l1_0.length ≤ 1048576
  rotate_left
  · go_enter Try.func5, Try.ntmps5
    go_wp2
    go_ret
    exact ⟨rfl, (by repeat (first | exact Below.refl _ _ | (with_reducible refine Below.setCell ?_ (by first | omega | (simp; done) | (simp; omega)) _) | (with_reducible refine Below.alloc ?_ (by first | omega | (simp; done) | (simp; omega)) _) | (with_reducible refine Below.drewN' ?_ _) | (with_reducible refine Below.drew ?_) | (with_reducible assumption) | refine Below.trans ?_ (Below.mono (by assumption) (by first | omega | (simp; done) | (simp; omega)))))⟩
  go_enter Try.func5, Try.ntmps5
  go_wp2_with fail
  refine calls_named ?_
  intro V1 hV
  have B : Below w.heap.size w V1 := by rw [hV]; exact (by repeat (first | exact Below.refl _ _ | (with_reducible refine Below.setCell ?_ (by first | omega | (simp; done) | (simp; omega)) _) | (with_reducible refine Below.alloc ?_ (by first | omega | (simp; done) | (simp; omega)) _) | (with_reducible refine Below.drewN' ?_ _) | (with_reducible refine Below.drew ?_) | (with_reducible assumption) | refine Below.trans ?_ (Below.mono (by assumption) (by first | omega | (simp; done) | (simp; omega)))))
  have zV1 : w.heap.size + 1 ≤ V1.heap.size := by rw [hV]; (first | simp | omega)
  have K0 : Blk V1 (w.heap.size) 24 #[.int .i64 n0_0, .slice av0_1 l0_1.length cv0_1] := by rw [hV]; have := (Blk.new (w) 24 #[.int .i64 n0_0, .slice av0_1 l0_1.length cv0_1]); simpa using this
  clear hV
  refine (szFunction_c n0_0 _ l0_1 _ _ (hv0_1.below B (Nat.le_refl _)) (by omega) (by omega)).mono ?_
  rintro e W2 ⟨⟨s0, rfl, hs0⟩, hb⟩
  have zW2 : V1.heap.size ≤ W2.heap.size := hb.size
  have B1 := B.after hb B.size
  have K0x := K0.keep hb
  clear B K0
  have B := B1
  have K0 := K0x
  clear B1 K0x
  clear hb
  rcases hs0 with hs0 | ⟨g0_0, g0_1, hlv0_1'⟩
  · go_wp2
    go_ret
    exact ⟨rfl, B⟩
  have hlv0_1 : l0_1.length ≤ 1048576 := by omega
  have GK0 := K0.cell
  have ZK0 := K0.lt
  go_wp2_with fail
  clear GK0 ZK0
  refine calls_named ?_
  intro V3 hV
  have zV3 : W2.heap.size + 0 ≤ V3.heap.size := by rw [hV]; (first | exact Nat.le_refl _ | simp)
  have B1 : Below w.heap.size w V3 := by rw [hV]; first | exact B | exact B.alloc B.size _ | exact (B.alloc B.size _).alloc (by have := B.size; simp; omega) _
  have K0x : Blk V3 (w.heap.size) 24 #[.int .i64 n0_0, .slice av0_1 l0_1.length cv0_1] := by rw [hV]; first | exact K0 | exact K0.alloc _ | exact (K0.alloc _).alloc _
  clear B K0
  have B := B1
  have K0 := K0x
  clear B1 K0x
  clear hV
  refine (toFunction_any n0_0 _ l0_1 _ (hv0_1.below B (Nat.le_refl _)) hlv0_1).mono ?_
  rintro e W4 ⟨pwx00, iwx00, qwx00, rfl, owx00x, hb⟩
  have zW4 : V3.heap.size ≤ W4.heap.size := hb.size
  have B1 := B.after hb B.size
  have K0x := K0.keep hb
  clear B K0
  have B := B1
  have K0 := K0x
  clear B1 K0x
  clear hb
  have owx00 := owx00x.toW
  clear owx00x
  have r_wx00 := owx00.lt
  have GK0 := K0.cell
  have ZK0 := K0.lt
  go_wp2_with fail
  clear GK0 ZK0
  refine calls_named ?_
  intro V5 hV
  have zV5 : W4.heap.size + 0 ≤ V5.heap.size := by rw [hV]; (first | exact Nat.le_refl _ | simp)
  have B1 : Below w.heap.size w V5 := by rw [hV]; first | exact B | exact B.alloc B.size _ | exact (B.alloc B.size _).alloc (by have := B.size; simp; omega) _
  have K0x : Blk V5 (w.heap.size) 24 #[.int .i64 n0_0, .slice av0_1 l0_1.length cv0_1] := by rw [hV]; first | exact K0 | exact K0.alloc _ | exact (K0.alloc _).alloc _
  have owx00x : OwnW 3 V3.heap.size V5 (.slice pwx00 iwx00 qwx00) (l0_1) := by rw [hV]; first | exact owx00 | exact owx00.alloc _ | exact (owx00.alloc _).alloc _
  clear B K0 owx00
  have B := B1
  have K0 := K0x
  have owx00 := owx00x
  clear B1 K0x owx00x
  clear hV
  refine (toIntS_any _ l1_0 _ (hv1_0.below B (Nat.le_refl _)) hlv1_0).mono ?_
  rintro e W6 ⟨pwx10, iwx10, qwx10, rfl, owx10x, hb⟩
  have zW6 : V5.heap.size ≤ W6.heap.size := hb.size
  have B1 := B.after hb B.size
  have K0x := K0.keep hb
  have owx00x := owx00.keep hb
  clear B K0 owx00
  have B := B1
  have K0 := K0x
  have owx00 := owx00x
  clear B1 K0x owx00x
  clear hb
  have owx10 := owx10x.toW
  clear owx10x
  have r_wx10 := owx10.lt
  have GK0 := K0.cell
  have ZK0 := K0.lt
  go_wp2_with fail
  clear GK0 ZK0
  refine calls_named ?_
  intro V7 hV
  have zV7 : W6.heap.size + 0 ≤ V7.heap.size := by rw [hV]; (first | exact Nat.le_refl _ | simp)
  have B1 : Below w.heap.size w V7 := by rw [hV]; first | exact B | exact B.alloc B.size _ | exact (B.alloc B.size _).alloc (by have := B.size; simp; omega) _
  have K0x : Blk V7 (w.heap.size) 24 #[.int .i64 n0_0, .slice av0_1 l0_1.length cv0_1] := by rw [hV]; first | exact K0 | exact K0.alloc _ | exact (K0.alloc _).alloc _
  have owx00x : OwnW 3 V3.heap.size V7 (.slice pwx00 iwx00 qwx00) (l0_1) := by rw [hV]; first | exact owx00 | exact owx00.alloc _ | exact (owx00.alloc _).alloc _
  have owx10x : OwnW 3 V5.heap.size V7 (.slice pwx10 iwx10 qwx10) (l1_0) := by rw [hV]; first | exact owx10 | exact owx10.alloc _ | exact (owx10.alloc _).alloc _
  clear B K0 owx00 owx10
  have B := B1
  have K0 := K0x
  have owx00 := owx00x
  have owx10 := owx10x
  clear B1 K0x owx00x owx10x
  clear hV
  refine (claimBaseS_c _ n0_0 _ l0_1 owx00.ints hlv0_1 _ l1_0 owx10.ints hlv1_0).mono ?_
  rintro e W8 ⟨pw0_0, iw0_0, qw0_0, pw0_1, iw0_1, qw0_1, pw0_2, iw0_2, qw0_2, pw0_3, iw0_3, qw0_3, rfl, ow0_0x, ow0_1x, ow0_2x, ow0_3x, ap_w, hb⟩
  have zW8 : V7.heap.size ≤ W8.heap.size := hb.size
  have B1 := B.after hb B.size
  have K0x := K0.keep hb
  clear B K0
  have B := B1
  have K0 := K0x
  clear B1 K0x
  clear hb
  clear owx00 owx10
  have ow0_0 := ow0_0x.toW
  clear ow0_0x
  have r_w0_0 := ow0_0.lt
  have ow0_1 := ow0_1x.toW
  clear ow0_1x
  have r_w0_1 := ow0_1.lt
  have ow0_2 := ow0_2x.toW
  clear ow0_2x
  have r_w0_2 := ow0_2.lt
  have ow0_3 := ow0_3x.toW
  clear ow0_3x
  have r_w0_3 := ow0_3.lt
  have GK0 := K0.cell
  have ZK0 := K0.lt
  go_wp2_with fail
  clear GK0 ZK0
  refine calls_named ?_
  intro V9 hV
  have zV9 : W8.heap.size + 1 ≤ V9.heap.size := by rw [hV]; (first | exact Nat.le_refl _ | simp)
  have B1 : Below w.heap.size w V9 := by rw [hV]; first | exact B | exact B.alloc B.size _ | exact (B.alloc B.size _).alloc (by have := B.size; simp; omega) _
  have K0x : Blk V9 (w.heap.size) 24 #[.int .i64 n0_0, .slice av0_1 l0_1.length cv0_1] := by rw [hV]; first | exact K0 | exact K0.alloc _ | exact (K0.alloc _).alloc _
  have ow0_0x : OwnW 3 V7.heap.size V9 (.slice pw0_0 iw0_0 qw0_0) (bsL n0_0 l0_1 l1_0) := by rw [hV]; first | exact ow0_0 | exact ow0_0.alloc _ | exact (ow0_0.alloc _).alloc _
  have ow0_1x : OwnW 3 V7.heap.size V9 (.slice pw0_1 iw0_1 qw0_1) (bsM n0_0 l0_1 l1_0) := by rw [hV]; first | exact ow0_1 | exact ow0_1.alloc _ | exact (ow0_1.alloc _).alloc _
  have ow0_2x : OwnW 3 V7.heap.size V9 (.slice pw0_2 iw0_2 qw0_2) (([] : List Int)) := by rw [hV]; first | exact ow0_2 | exact ow0_2.alloc _ | exact (ow0_2.alloc _).alloc _
  have ow0_3x : OwnW 3 V7.heap.size V9 (.slice pw0_3 iw0_3 qw0_3) (bsE n0_0 l0_1 l1_0) := by rw [hV]; first | exact ow0_3 | exact ow0_3.alloc _ | exact (ow0_3.alloc _).alloc _
  have K1x : Blk V9 (W8.heap.size) 30 #[.int .i64 (bsK n0_0 l0_1 l1_0), .int .i64 (bsA n0_0 l0_1 l1_0), .slice pw0_0 iw0_0 qw0_0, .int .i64 (bsC n0_0 l0_1 l1_0), .slice pw0_1 iw0_1 qw0_1, .int .i64 (0), .slice pw0_2 iw0_2 qw0_2, .int .i64 (bsP n0_0 l0_1 l1_0), .int .i64 (0), .slice pw0_3 iw0_3 qw0_3] := by rw [hV]; exact Blk.new _ _ _
  clear B K0 ow0_0 ow0_1 ow0_2 ow0_3
  have B := B1
  have K0 := K0x
  have K1 := K1x
  have ow0_0 := ow0_0x
  have ow0_1 := ow0_1x
  have ow0_2 := ow0_2x
  have ow0_3 := ow0_3x
  clear B1 K0x K1x ow0_0x ow0_1x ow0_2x ow0_3x
  clear hV
  refine (toFunction_any n0_0 _ l0_1 _ (hv0_1.below B (Nat.le_refl _)) hlv0_1).mono ?_
  rintro e W10 ⟨px00, ix00, qx00, rfl, ox00x, hb⟩
  have zW10 : V9.heap.size ≤ W10.heap.size := hb.size
  have B1 := B.after hb B.size
  have K0x := K0.keep hb
  have K1x := K1.keep hb
  have ow0_0x := ow0_0.keep hb
  have ow0_1x := ow0_1.keep hb
  have ow0_2x := ow0_2.keep hb
  have ow0_3x := ow0_3.keep hb
  clear B K0 K1 ow0_0 ow0_1 ow0_2 ow0_3
  have B := B1
  have K0 := K0x
  have K1 := K1x
  have ow0_0 := ow0_0x
  have ow0_1 := ow0_1x
  have ow0_2 := ow0_2x
  have ow0_3 := ow0_3x
  clear B1 K0x K1x ow0_0x ow0_1x ow0_2x ow0_3x
  clear hb
  have ox00 := ox00x.toW
  clear ox00x
  have r_x00 := ox00.lt
  have GK0 := K0.cell
  have ZK0 := K0.lt
  have GK1 := K1.cell
  have ZK1 := K1.lt
  go_wp2_with fail
  clear GK0 ZK0 GK1 ZK1
  refine calls_named ?_
  intro V11 hV
  have zV11 : W10.heap.size + 1 ≤ V11.heap.size := by rw [hV]; (first | exact Nat.le_refl _ | simp)
  have B1 : Below w.heap.size w V11 := by rw [hV]; first | exact B | exact B.alloc B.size _ | exact (B.alloc B.size _).alloc (by have := B.size; simp; omega) _
  have K0x : Blk V11 (w.heap.size) 24 #[.int .i64 n0_0, .slice av0_1 l0_1.length cv0_1] := by rw [hV]; first | exact K0 | exact K0.alloc _ | exact (K0.alloc _).alloc _
  have K1x : Blk V11 (W8.heap.size) 30 #[.int .i64 (bsK n0_0 l0_1 l1_0), .int .i64 (bsA n0_0 l0_1 l1_0), .slice pw0_0 iw0_0 qw0_0, .int .i64 (bsC n0_0 l0_1 l1_0), .slice pw0_1 iw0_1 qw0_1, .int .i64 (0), .slice pw0_2 iw0_2 qw0_2, .int .i64 (bsP n0_0 l0_1 l1_0), .int .i64 (0), .slice pw0_3 iw0_3 qw0_3] := by rw [hV]; first | exact K1 | exact K1.alloc _ | exact (K1.alloc _).alloc _
  have ow0_0x : OwnW 3 V7.heap.size V11 (.slice pw0_0 iw0_0 qw0_0) (bsL n0_0 l0_1 l1_0) := by rw [hV]; first | exact ow0_0 | exact ow0_0.alloc _ | exact (ow0_0.alloc _).alloc _
  have ow0_1x : OwnW 3 V7.heap.size V11 (.slice pw0_1 iw0_1 qw0_1) (bsM n0_0 l0_1 l1_0) := by rw [hV]; first | exact ow0_1 | exact ow0_1.alloc _ | exact (ow0_1.alloc _).alloc _
  have ow0_2x : OwnW 3 V7.heap.size V11 (.slice pw0_2 iw0_2 qw0_2) (([] : List Int)) := by rw [hV]; first | exact ow0_2 | exact ow0_2.alloc _ | exact (ow0_2.alloc _).alloc _
  have ow0_3x : OwnW 3 V7.heap.size V11 (.slice pw0_3 iw0_3 qw0_3) (bsE n0_0 l0_1 l1_0) := by rw [hV]; first | exact ow0_3 | exact ow0_3.alloc _ | exact (ow0_3.alloc _).alloc _
  have ox00x : OwnW 3 V9.heap.size V11 (.slice px00 ix00 qx00) (l0_1) := by rw [hV]; first | exact ox00 | exact ox00.alloc _ | exact (ox00.alloc _).alloc _
  have K2x : Blk V11 (W10.heap.size) 26 #[.int .i64 n0_0, .slice px00 ix00 qx00] := by rw [hV]; exact Blk.new _ _ _
  clear B K0 K1 ow0_0 ow0_1 ow0_2 ow0_3 ox00
  have B := B1
  have K0 := K0x
  have K1 := K1x
  have K2 := K2x
  have ow0_0 := ow0_0x
  have ow0_1 := ow0_1x
  have ow0_2 := ow0_2x
  have ow0_3 := ow0_3x
  have ox00 := ox00x
  clear B1 K0x K1x K2x ow0_0x ow0_1x ow0_2x ow0_3x ox00x
  clear hV
  refine (toIntS_any _ l1_0 _ (hv1_0.below B (Nat.le_refl _)) hlv1_0).mono ?_
  rintro e W12 ⟨px10, ix10, qx10, rfl, ox10x, hb⟩
  have zW12 : V11.heap.size ≤ W12.heap.size := hb.size
  have B1 := B.after hb B.size
  have K0x := K0.keep hb
  have K1x := K1.keep hb
  have K2x := K2.keep hb
  have ow0_0x := ow0_0.keep hb
  have ow0_1x := ow0_1.keep hb
  have ow0_2x := ow0_2.keep hb
  have ow0_3x := ow0_3.keep hb
  have ox00x := ox00.keep hb
  clear B K0 K1 K2 ow0_0 ow0_1 ow0_2 ow0_3 ox00
  have B := B1
  have K0 := K0x
  have K1 := K1x
  have K2 := K2x
  have ow0_0 := ow0_0x
  have ow0_1 := ow0_1x
  have ow0_2 := ow0_2x
  have ow0_3 := ow0_3x
  have ox00 := ox00x
  clear B1 K0x K1x K2x ow0_0x ow0_1x ow0_2x ow0_3x ox00x
  clear hb
  have ox10 := ox10x.toW
  clear ox10x
  have r_x10 := ox10.lt
  have GK0 := K0.cell
  have ZK0 := K0.lt
  have GK1 := K1.cell
  have ZK1 := K1.lt
  have GK2 := K2.cell
  have ZK2 := K2.lt
  go_wp2_with fail
  clear GK0 ZK0 GK1 ZK1 GK2 ZK2
  refine calls_named ?_
  intro V13 hV
  have zV13 : W12.heap.size + 0 ≤ V13.heap.size := by rw [hV]; (first | exact Nat.le_refl _ | simp)
  have B1 : Below w.heap.size w V13 := by rw [hV]; first | exact B | exact B.alloc B.size _ | exact (B.alloc B.size _).alloc (by have := B.size; simp; omega) _
  have K0x : Blk V13 (w.heap.size) 24 #[.int .i64 n0_0, .slice av0_1 l0_1.length cv0_1] := by rw [hV]; first | exact K0 | exact K0.alloc _ | exact (K0.alloc _).alloc _
  have K1x : Blk V13 (W8.heap.size) 30 #[.int .i64 (bsK n0_0 l0_1 l1_0), .int .i64 (bsA n0_0 l0_1 l1_0), .slice pw0_0 iw0_0 qw0_0, .int .i64 (bsC n0_0 l0_1 l1_0), .slice pw0_1 iw0_1 qw0_1, .int .i64 (0), .slice pw0_2 iw0_2 qw0_2, .int .i64 (bsP n0_0 l0_1 l1_0), .int .i64 (0), .slice pw0_3 iw0_3 qw0_3] := by rw [hV]; first | exact K1 | exact K1.alloc _ | exact (K1.alloc _).alloc _
  have K2x : Blk V13 (W10.heap.size) 26 #[.int .i64 n0_0, .slice px00 ix00 qx00] := by rw [hV]; first | exact K2 | exact K2.alloc _ | exact (K2.alloc _).alloc _
  have ow0_0x : OwnW 3 V7.heap.size V13 (.slice pw0_0 iw0_0 qw0_0) (bsL n0_0 l0_1 l1_0) := by rw [hV]; first | exact ow0_0 | exact ow0_0.alloc _ | exact (ow0_0.alloc _).alloc _
  have ow0_1x : OwnW 3 V7.heap.size V13 (.slice pw0_1 iw0_1 qw0_1) (bsM n0_0 l0_1 l1_0) := by rw [hV]; first | exact ow0_1 | exact ow0_1.alloc _ | exact (ow0_1.alloc _).alloc _
  have ow0_2x : OwnW 3 V7.heap.size V13 (.slice pw0_2 iw0_2 qw0_2) (([] : List Int)) := by rw [hV]; first | exact ow0_2 | exact ow0_2.alloc _ | exact (ow0_2.alloc _).alloc _
  have ow0_3x : OwnW 3 V7.heap.size V13 (.slice pw0_3 iw0_3 qw0_3) (bsE n0_0 l0_1 l1_0) := by rw [hV]; first | exact ow0_3 | exact ow0_3.alloc _ | exact (ow0_3.alloc _).alloc _
  have ox00x : OwnW 3 V9.heap.size V13 (.slice px00 ix00 qx00) (l0_1) := by rw [hV]; first | exact ox00 | exact ox00.alloc _ | exact (ox00.alloc _).alloc _
  have ox10x : OwnW 3 V11.heap.size V13 (.slice px10 ix10 qx10) (l1_0) := by rw [hV]; first | exact ox10 | exact ox10.alloc _ | exact (ox10.alloc _).alloc _
  clear B K0 K1 K2 ow0_0 ow0_1 ow0_2 ow0_3 ox00 ox10
  have B := B1
  have K0 := K0x
  have K1 := K1x
  have K2 := K2x
  have ow0_0 := ow0_0x
  have ow0_1 := ow0_1x
  have ow0_2 := ow0_2x
  have ow0_3 := ow0_3x
  have ox00 := ox00x
  have ox10 := ox10x
  clear B1 K0x K1x K2x ow0_0x ow0_1x ow0_2x ow0_3x ox00x ox10x
  clear hV
  refine (claimBaseI_c _ n0_0 _ l0_1 ox00.ints hlv0_1 _ l1_0 ox10.ints hlv1_0).mono ?_
  rintro e W14 ⟨pg0_0, ig0_0, qg0_0, pg0_1, ig0_1, qg0_1, pg0_2, ig0_2, qg0_2, pg0_3, ig0_3, qg0_3, rfl, og0_0x, og0_1x, og0_2x, og0_3x, ap_g, hb⟩
  have zW14 : V13.heap.size ≤ W14.heap.size := hb.size
  have B1 := B.after hb B.size
  have K0x := K0.keep hb
  have K1x := K1.keep hb
  have K2x := K2.keep hb
  have ow0_0x := ow0_0.keep hb
  have ow0_1x := ow0_1.keep hb
  have ow0_2x := ow0_2.keep hb
  have ow0_3x := ow0_3.keep hb
  have ox00x := ox00.keep hb
  have ox10x := ox10.keep hb
  clear B K0 K1 K2 ow0_0 ow0_1 ow0_2 ow0_3 ox00 ox10
  have B := B1
  have K0 := K0x
  have K1 := K1x
  have K2 := K2x
  have ow0_0 := ow0_0x
  have ow0_1 := ow0_1x
  have ow0_2 := ow0_2x
  have ow0_3 := ow0_3x
  have ox00 := ox00x
  have ox10 := ox10x
  clear B1 K0x K1x K2x ow0_0x ow0_1x ow0_2x ow0_3x ox00x ox10x
  clear hb
  have og0_0 := og0_0x.toW
  clear og0_0x
  have r_g0_0 := og0_0.lt
  have og0_1 := og0_1x.toW
  clear og0_1x
  have r_g0_1 := og0_1.lt
  have og0_2 := og0_2x.toW
  clear og0_2x
  have r_g0_2 := og0_2.lt
  have og0_3 := og0_3x.toW
  clear og0_3x
  have r_g0_3 := og0_3.lt
  have GK0 := K0.cell
  have ZK0 := K0.lt
  have GK1 := K1.cell
  have ZK1 := K1.lt
  have GK2 := K2.cell
  have ZK2 := K2.lt
  go_wp2_with fail
  clear GK0 ZK0 GK1 ZK1 GK2 ZK2
  refine calls_named ?_
  intro V15 hV
  have zV15 : W14.heap.size + 1 ≤ V15.heap.size := by rw [hV]; (first | exact Nat.le_refl _ | simp)
  have B1 : Below w.heap.size w V15 := by rw [hV]; first | exact B | exact B.alloc B.size _ | exact (B.alloc B.size _).alloc (by have := B.size; simp; omega) _
  have K0x : Blk V15 (w.heap.size) 24 #[.int .i64 n0_0, .slice av0_1 l0_1.length cv0_1] := by rw [hV]; first | exact K0 | exact K0.alloc _ | exact (K0.alloc _).alloc _
  have K1x : Blk V15 (W8.heap.size) 30 #[.int .i64 (bsK n0_0 l0_1 l1_0), .int .i64 (bsA n0_0 l0_1 l1_0), .slice pw0_0 iw0_0 qw0_0, .int .i64 (bsC n0_0 l0_1 l1_0), .slice pw0_1 iw0_1 qw0_1, .int .i64 (0), .slice pw0_2 iw0_2 qw0_2, .int .i64 (bsP n0_0 l0_1 l1_0), .int .i64 (0), .slice pw0_3 iw0_3 qw0_3] := by rw [hV]; first | exact K1 | exact K1.alloc _ | exact (K1.alloc _).alloc _
  have K2x : Blk V15 (W10.heap.size) 26 #[.int .i64 n0_0, .slice px00 ix00 qx00] := by rw [hV]; first | exact K2 | exact K2.alloc _ | exact (K2.alloc _).alloc _
  have ow0_0x : OwnW 3 V7.heap.size V15 (.slice pw0_0 iw0_0 qw0_0) (bsL n0_0 l0_1 l1_0) := by rw [hV]; first | exact ow0_0 | exact ow0_0.alloc _ | exact (ow0_0.alloc _).alloc _
  have ow0_1x : OwnW 3 V7.heap.size V15 (.slice pw0_1 iw0_1 qw0_1) (bsM n0_0 l0_1 l1_0) := by rw [hV]; first | exact ow0_1 | exact ow0_1.alloc _ | exact (ow0_1.alloc _).alloc _
  have ow0_2x : OwnW 3 V7.heap.size V15 (.slice pw0_2 iw0_2 qw0_2) (([] : List Int)) := by rw [hV]; first | exact ow0_2 | exact ow0_2.alloc _ | exact (ow0_2.alloc _).alloc _
  have ow0_3x : OwnW 3 V7.heap.size V15 (.slice pw0_3 iw0_3 qw0_3) (bsE n0_0 l0_1 l1_0) := by rw [hV]; first | exact ow0_3 | exact ow0_3.alloc _ | exact (ow0_3.alloc _).alloc _
  have ox00x : OwnW 3 V9.heap.size V15 (.slice px00 ix00 qx00) (l0_1) := by rw [hV]; first | exact ox00 | exact ox00.alloc _ | exact (ox00.alloc _).alloc _
  have ox10x : OwnW 3 V11.heap.size V15 (.slice px10 ix10 qx10) (l1_0) := by rw [hV]; first | exact ox10 | exact ox10.alloc _ | exact (ox10.alloc _).alloc _
  have og0_0x : OwnW 3 V13.heap.size V15 (.slice pg0_0 ig0_0 qg0_0) (bsL n0_0 l0_1 l1_0) := by rw [hV]; first | exact og0_0 | exact og0_0.alloc _ | exact (og0_0.alloc _).alloc _
  have og0_1x : OwnW 3 V13.heap.size V15 (.slice pg0_1 ig0_1 qg0_1) (bsM n0_0 l0_1 l1_0) := by rw [hV]; first | exact og0_1 | exact og0_1.alloc _ | exact (og0_1.alloc _).alloc _
  have og0_2x : OwnW 3 V13.heap.size V15 (.slice pg0_2 ig0_2 qg0_2) (([] : List Int)) := by rw [hV]; first | exact og0_2 | exact og0_2.alloc _ | exact (og0_2.alloc _).alloc _
  have og0_3x : OwnW 3 V13.heap.size V15 (.slice pg0_3 ig0_3 qg0_3) (bsE n0_0 l0_1 l1_0) := by rw [hV]; first | exact og0_3 | exact og0_3.alloc _ | exact (og0_3.alloc _).alloc _
  have K3x : Blk V15 (W14.heap.size) 30 #[.int .i64 (bsK n0_0 l0_1 l1_0), .int .i64 (bsA n0_0 l0_1 l1_0), .slice pg0_0 ig0_0 qg0_0, .int .i64 (bsC n0_0 l0_1 l1_0), .slice pg0_1 ig0_1 qg0_1, .int .i64 (0), .slice pg0_2 ig0_2 qg0_2, .int .i64 (bsP n0_0 l0_1 l1_0), .int .i64 (0), .slice pg0_3 ig0_3 qg0_3] := by rw [hV]; exact Blk.new _ _ _
  clear B K0 K1 K2 ow0_0 ow0_1 ow0_2 ow0_3 ox00 ox10 og0_0 og0_1 og0_2 og0_3
  have B := B1
  have K0 := K0x
  have K1 := K1x
  have K2 := K2x
  have K3 := K3x
  have ow0_0 := ow0_0x
  have ow0_1 := ow0_1x
  have ow0_2 := ow0_2x
  have ow0_3 := ow0_3x
  have ox00 := ox00x
  have ox10 := ox10x
  have og0_0 := og0_0x
  have og0_1 := og0_1x
  have og0_2 := og0_2x
  have og0_3 := og0_3x
  clear B1 K0x K1x K2x K3x ow0_0x ow0_1x ow0_2x ow0_3x ox00x ox10x og0_0x og0_1x og0_2x og0_3x
  clear hV
  refine (eqClaim_c _ _ _ _ _ og0_0.ints _ _ _ og0_1.ints _ _ _ og0_2.ints _ _ _ _ og0_3.ints _ ow0_0.ints _ ow0_1.ints _ ow0_2.ints _ ow0_3.ints).mono ?_
  rintro e W16 ⟨rfl, hb⟩
  have zW16 : V15.heap.size ≤ W16.heap.size := hb.size
  have B1 := B.after hb B.size
  have K0x := K0.keep hb
  have K1x := K1.keep hb
  have K2x := K2.keep hb
  have K3x := K3.keep hb
  have ow0_0x := ow0_0.keep hb
  have ow0_1x := ow0_1.keep hb
  have ow0_2x := ow0_2.keep hb
  have ow0_3x := ow0_3.keep hb
  have ox00x := ox00.keep hb
  have ox10x := ox10.keep hb
  have og0_0x := og0_0.keep hb
  have og0_1x := og0_1.keep hb
  have og0_2x := og0_2.keep hb
  have og0_3x := og0_3.keep hb
  clear B K0 K1 K2 K3 ow0_0 ow0_1 ow0_2 ow0_3 ox00 ox10 og0_0 og0_1 og0_2 og0_3
  have B := B1
  have K0 := K0x
  have K1 := K1x
  have K2 := K2x
  have K3 := K3x
  have ow0_0 := ow0_0x
  have ow0_1 := ow0_1x
  have ow0_2 := ow0_2x
  have ow0_3 := ow0_3x
  have ox00 := ox00x
  have ox10 := ox10x
  have og0_0 := og0_0x
  have og0_1 := og0_1x
  have og0_2 := og0_2x
  have og0_3 := og0_3x
  clear B1 K0x K1x K2x K3x ow0_0x ow0_1x ow0_2x ow0_3x ox00x ox10x og0_0x og0_1x og0_2x og0_3x
  clear hb
  have GK0 := K0.cell
  have ZK0 := K0.lt
  have GK1 := K1.cell
  have ZK1 := K1.lt
  have GK2 := K2.cell
  have ZK2 := K2.lt
  have GK3 := K3.cell
  have ZK3 := K3.lt
  go_wp2_with fail
  clear GK0 ZK0 GK1 ZK1 GK2 ZK2 GK3 ZK3
  have yK0 := K0.lt
  have yK1 := K1.lt
  have yK2 := K2.lt
  have yK3 := K3.lt
  have GK0 := K0.cell
  have GK2 := K2.cell
  go_region_held3 (fun w' => (∀ i, w'.cell? ⟨w.heap.size, i, none⟩ = (#[.int .i64 n0_0, .slice av0_1 l0_1.length cv0_1] : Array Value)[i]?) ∧ (∀ i, w'.cell? ⟨W10.heap.size, i, none⟩ = (#[.int .i64 n0_0, .slice px00 ix00 qx00] : Array Value)[i]?)) (go_keep)
    (first
      | (go_at_call 10; refine (toFunction_any n0_0 _ l0_1 _ (hv0_1.below (B := w.heap.size) (by repeat (first | exact Below.refl _ _ | (with_reducible refine Below.setCell ?_ (by first | omega | (simp; done) | (simp; omega)) _) | (with_reducible refine Below.alloc ?_ (by first | omega | (simp; done) | (simp; omega)) _) | (with_reducible refine Below.drewN' ?_ _) | (with_reducible refine Below.drew ?_) | (with_reducible assumption) | refine Below.trans ?_ (Below.mono (by assumption) (by first | omega | (simp; done) | (simp; omega))))) (Nat.le_refl _)) hlv0_1).mono ?_; rintro e W17 ⟨pyW17x0, iyW17x0, qyW17x0, rfl, oyW17x0, hbW17⟩; obtain ⟨hchbW17, hfhbW17⟩ := bcellN hbW17 (W16.heap.size) (by first | omega | (simp; done) | (simp; omega)); have zhbW17 := hbW17.size; (try simp at zhbW17))
      | (go_at_call 13; refine (eqFunction_any _ _ _ _ _ _ _ ((ox00.drewN 1).below hbW17 (by first | omega | (simp; done) | (simp; omega))).ints oyW17x0.ints).mono ?_; rintro e W18 ⟨rfl, hbW18⟩; obtain ⟨hchbW18, hfhbW18⟩ := bcellN hbW18 (W16.heap.size) (by first | omega | (simp; done) | (simp; omega)); have zhbW18 := hbW18.size; (try simp at zhbW18))
    )
  have B1 : Below w.heap.size w W18 := (by repeat (first | exact Below.refl _ _ | (with_reducible refine Below.setCell ?_ (by first | omega | (simp; done) | (simp; omega)) _) | (with_reducible refine Below.alloc ?_ (by first | omega | (simp; done) | (simp; omega)) _) | (with_reducible refine Below.drewN' ?_ _) | (with_reducible refine Below.drew ?_) | (with_reducible assumption) | refine Below.trans ?_ (Below.mono (by assumption) (by first | omega | (simp; done) | (simp; omega)))))
  have zzW18 : W16.heap.size ≤ W18.heap.size := by omega
  have K0x : Blk W18 (w.heap.size) 24 #[.int .i64 n0_0, .slice av0_1 l0_1.length cv0_1] := (((K0.drewN 1).keep hbW17).keep hbW18)
  have K1x : Blk W18 (W8.heap.size) 30 #[.int .i64 (bsK n0_0 l0_1 l1_0), .int .i64 (bsA n0_0 l0_1 l1_0), .slice pw0_0 iw0_0 qw0_0, .int .i64 (bsC n0_0 l0_1 l1_0), .slice pw0_1 iw0_1 qw0_1, .int .i64 (0), .slice pw0_2 iw0_2 qw0_2, .int .i64 (bsP n0_0 l0_1 l1_0), .int .i64 (0), .slice pw0_3 iw0_3 qw0_3] := (((K1.drewN 1).keep hbW17).keep hbW18)
  have K2x : Blk W18 (W10.heap.size) 26 #[.int .i64 n0_0, .slice px00 ix00 qx00] := (((K2.drewN 1).keep hbW17).keep hbW18)
  have K3x : Blk W18 (W14.heap.size) 30 #[.int .i64 (bsK n0_0 l0_1 l1_0), .int .i64 (bsA n0_0 l0_1 l1_0), .slice pg0_0 ig0_0 qg0_0, .int .i64 (bsC n0_0 l0_1 l1_0), .slice pg0_1 ig0_1 qg0_1, .int .i64 (0), .slice pg0_2 ig0_2 qg0_2, .int .i64 (bsP n0_0 l0_1 l1_0), .int .i64 (0), .slice pg0_3 ig0_3 qg0_3] := (((K3.drewN 1).keep hbW17).keep hbW18)
  have ow0_0x : OwnW 3 V7.heap.size W18 (.slice pw0_0 iw0_0 qw0_0) (bsL n0_0 l0_1 l1_0) := (((ow0_0.drewN 1).keep hbW17).keep hbW18)
  have ow0_1x : OwnW 3 V7.heap.size W18 (.slice pw0_1 iw0_1 qw0_1) (bsM n0_0 l0_1 l1_0) := (((ow0_1.drewN 1).keep hbW17).keep hbW18)
  have ow0_2x : OwnW 3 V7.heap.size W18 (.slice pw0_2 iw0_2 qw0_2) (([] : List Int)) := (((ow0_2.drewN 1).keep hbW17).keep hbW18)
  have ow0_3x : OwnW 3 V7.heap.size W18 (.slice pw0_3 iw0_3 qw0_3) (bsE n0_0 l0_1 l1_0) := (((ow0_3.drewN 1).keep hbW17).keep hbW18)
  have ox00x : OwnW 3 V9.heap.size W18 (.slice px00 ix00 qx00) (l0_1) := (((ox00.drewN 1).keep hbW17).keep hbW18)
  have ox10x : OwnW 3 V11.heap.size W18 (.slice px10 ix10 qx10) (l1_0) := (((ox10.drewN 1).keep hbW17).keep hbW18)
  have og0_0x : OwnW 3 V13.heap.size W18 (.slice pg0_0 ig0_0 qg0_0) (bsL n0_0 l0_1 l1_0) := (((og0_0.drewN 1).keep hbW17).keep hbW18)
  have og0_1x : OwnW 3 V13.heap.size W18 (.slice pg0_1 ig0_1 qg0_1) (bsM n0_0 l0_1 l1_0) := (((og0_1.drewN 1).keep hbW17).keep hbW18)
  have og0_2x : OwnW 3 V13.heap.size W18 (.slice pg0_2 ig0_2 qg0_2) (([] : List Int)) := (((og0_2.drewN 1).keep hbW17).keep hbW18)
  have og0_3x : OwnW 3 V13.heap.size W18 (.slice pg0_3 ig0_3 qg0_3) (bsE n0_0 l0_1 l1_0) := (((og0_3.drewN 1).keep hbW17).keep hbW18)
  clear B K0 K1 K2 K3 ow0_0 ow0_1 ow0_2 ow0_3 ox00 ox10 og0_0 og0_1 og0_2 og0_3 GK0 GK2 yK0 yK1 yK2 yK3 hchbW17 hfhbW17 hchbW18 hfhbW18
  have B := B1
  have K0 := K0x
  have K1 := K1x
  have K2 := K2x
  have K3 := K3x
  have ow0_0 := ow0_0x
  have ow0_1 := ow0_1x
  have ow0_2 := ow0_2x
  have ow0_3 := ow0_3x
  have ox00 := ox00x
  have ox10 := ox10x
  have og0_0 := og0_0x
  have og0_1 := og0_1x
  have og0_2 := og0_2x
  have og0_3 := og0_3x
  clear B1 K0x K1x K2x K3x ow0_0x ow0_1x ow0_2x ow0_3x ox00x ox10x og0_0x og0_1x og0_2x og0_3x
  try simp only [decide_true, Bool.and_self]
  have GK0 := K0.cell
  have ZK0 := K0.lt
  have GK1 := K1.cell
  have ZK1 := K1.lt
  have GK2 := K2.cell
  have ZK2 := K2.lt
  have GK3 := K3.cell
  have ZK3 := K3.lt
  go_wp2_with fail
  clear GK0 ZK0 GK1 ZK1 GK2 ZK2 GK3 ZK3
  refine calls_named ?_
  intro V20 hV
  have zV20 : W18.heap.size + 0 ≤ V20.heap.size := by rw [hV]; (first | exact Nat.le_refl _ | simp)
  have B1 : Below w.heap.size w V20 := by rw [hV]; first | exact B | exact B.alloc B.size _ | exact (B.alloc B.size _).alloc (by have := B.size; simp; omega) _
  have K0x : Blk V20 (w.heap.size) 24 #[.int .i64 n0_0, .slice av0_1 l0_1.length cv0_1] := by rw [hV]; first | exact K0 | exact K0.alloc _ | exact (K0.alloc _).alloc _
  have K1x : Blk V20 (W8.heap.size) 30 #[.int .i64 (bsK n0_0 l0_1 l1_0), .int .i64 (bsA n0_0 l0_1 l1_0), .slice pw0_0 iw0_0 qw0_0, .int .i64 (bsC n0_0 l0_1 l1_0), .slice pw0_1 iw0_1 qw0_1, .int .i64 (0), .slice pw0_2 iw0_2 qw0_2, .int .i64 (bsP n0_0 l0_1 l1_0), .int .i64 (0), .slice pw0_3 iw0_3 qw0_3] := by rw [hV]; first | exact K1 | exact K1.alloc _ | exact (K1.alloc _).alloc _
  have K2x : Blk V20 (W10.heap.size) 26 #[.int .i64 n0_0, .slice px00 ix00 qx00] := by rw [hV]; first | exact K2 | exact K2.alloc _ | exact (K2.alloc _).alloc _
  have K3x : Blk V20 (W14.heap.size) 30 #[.int .i64 (bsK n0_0 l0_1 l1_0), .int .i64 (bsA n0_0 l0_1 l1_0), .slice pg0_0 ig0_0 qg0_0, .int .i64 (bsC n0_0 l0_1 l1_0), .slice pg0_1 ig0_1 qg0_1, .int .i64 (0), .slice pg0_2 ig0_2 qg0_2, .int .i64 (bsP n0_0 l0_1 l1_0), .int .i64 (0), .slice pg0_3 ig0_3 qg0_3] := by rw [hV]; first | exact K3 | exact K3.alloc _ | exact (K3.alloc _).alloc _
  have ow0_0x : OwnW 3 V7.heap.size V20 (.slice pw0_0 iw0_0 qw0_0) (bsL n0_0 l0_1 l1_0) := by rw [hV]; first | exact ow0_0 | exact ow0_0.alloc _ | exact (ow0_0.alloc _).alloc _
  have ow0_1x : OwnW 3 V7.heap.size V20 (.slice pw0_1 iw0_1 qw0_1) (bsM n0_0 l0_1 l1_0) := by rw [hV]; first | exact ow0_1 | exact ow0_1.alloc _ | exact (ow0_1.alloc _).alloc _
  have ow0_2x : OwnW 3 V7.heap.size V20 (.slice pw0_2 iw0_2 qw0_2) (([] : List Int)) := by rw [hV]; first | exact ow0_2 | exact ow0_2.alloc _ | exact (ow0_2.alloc _).alloc _
  have ow0_3x : OwnW 3 V7.heap.size V20 (.slice pw0_3 iw0_3 qw0_3) (bsE n0_0 l0_1 l1_0) := by rw [hV]; first | exact ow0_3 | exact ow0_3.alloc _ | exact (ow0_3.alloc _).alloc _
  have ox00x : OwnW 3 V9.heap.size V20 (.slice px00 ix00 qx00) (l0_1) := by rw [hV]; first | exact ox00 | exact ox00.alloc _ | exact (ox00.alloc _).alloc _
  have ox10x : OwnW 3 V11.heap.size V20 (.slice px10 ix10 qx10) (l1_0) := by rw [hV]; first | exact ox10 | exact ox10.alloc _ | exact (ox10.alloc _).alloc _
  have og0_0x : OwnW 3 V13.heap.size V20 (.slice pg0_0 ig0_0 qg0_0) (bsL n0_0 l0_1 l1_0) := by rw [hV]; first | exact og0_0 | exact og0_0.alloc _ | exact (og0_0.alloc _).alloc _
  have og0_1x : OwnW 3 V13.heap.size V20 (.slice pg0_1 ig0_1 qg0_1) (bsM n0_0 l0_1 l1_0) := by rw [hV]; first | exact og0_1 | exact og0_1.alloc _ | exact (og0_1.alloc _).alloc _
  have og0_2x : OwnW 3 V13.heap.size V20 (.slice pg0_2 ig0_2 qg0_2) (([] : List Int)) := by rw [hV]; first | exact og0_2 | exact og0_2.alloc _ | exact (og0_2.alloc _).alloc _
  have og0_3x : OwnW 3 V13.heap.size V20 (.slice pg0_3 ig0_3 qg0_3) (bsE n0_0 l0_1 l1_0) := by rw [hV]; first | exact og0_3 | exact og0_3.alloc _ | exact (og0_3.alloc _).alloc _
  clear B K0 K1 K2 K3 ow0_0 ow0_1 ow0_2 ow0_3 ox00 ox10 og0_0 og0_1 og0_2 og0_3
  have B := B1
  have K0 := K0x
  have K1 := K1x
  have K2 := K2x
  have K3 := K3x
  have ow0_0 := ow0_0x
  have ow0_1 := ow0_1x
  have ow0_2 := ow0_2x
  have ow0_3 := ow0_3x
  have ox00 := ox00x
  have ox10 := ox10x
  have og0_0 := og0_0x
  have og0_1 := og0_1x
  have og0_2 := og0_2x
  have og0_3 := og0_3x
  clear B1 K0x K1x K2x K3x ow0_0x ow0_1x ow0_2x ow0_3x ox00x ox10x og0_0x og0_1x og0_2x og0_3x
  clear hV
  refine (toIntS_any _ l1_0 _ (hv1_0.below B (Nat.le_refl _)) hlv1_0).mono ?_
  rintro e W21 ⟨py1_190, iy1_190, qy1_190, rfl, oy1_190x, hb⟩
  have zW21 : V20.heap.size ≤ W21.heap.size := hb.size
  have B1 := B.after hb B.size
  have K0x := K0.keep hb
  have K1x := K1.keep hb
  have K2x := K2.keep hb
  have K3x := K3.keep hb
  have ow0_0x := ow0_0.keep hb
  have ow0_1x := ow0_1.keep hb
  have ow0_2x := ow0_2.keep hb
  have ow0_3x := ow0_3.keep hb
  have ox00x := ox00.keep hb
  have ox10x := ox10.keep hb
  have og0_0x := og0_0.keep hb
  have og0_1x := og0_1.keep hb
  have og0_2x := og0_2.keep hb
  have og0_3x := og0_3.keep hb
  clear B K0 K1 K2 K3 ow0_0 ow0_1 ow0_2 ow0_3 ox00 ox10 og0_0 og0_1 og0_2 og0_3
  have B := B1
  have K0 := K0x
  have K1 := K1x
  have K2 := K2x
  have K3 := K3x
  have ow0_0 := ow0_0x
  have ow0_1 := ow0_1x
  have ow0_2 := ow0_2x
  have ow0_3 := ow0_3x
  have ox00 := ox00x
  have ox10 := ox10x
  have og0_0 := og0_0x
  have og0_1 := og0_1x
  have og0_2 := og0_2x
  have og0_3 := og0_3x
  clear B1 K0x K1x K2x K3x ow0_0x ow0_1x ow0_2x ow0_3x ox00x ox10x og0_0x og0_1x og0_2x og0_3x
  clear hb
  have oy1_190 := oy1_190x.toW
  clear oy1_190x
  have r_y1_190 := oy1_190.lt
  have GK0 := K0.cell
  have ZK0 := K0.lt
  have GK1 := K1.cell
  have ZK1 := K1.lt
  have GK2 := K2.cell
  have ZK2 := K2.lt
  have GK3 := K3.cell
  have ZK3 := K3.lt
  go_wp2_with fail
  clear GK0 ZK0 GK1 ZK1 GK2 ZK2 GK3 ZK3
  refine calls_named ?_
  intro V22 hV
  have zV22 : W21.heap.size + 0 ≤ V22.heap.size := by rw [hV]; (first | exact Nat.le_refl _ | simp)
  have B1 : Below w.heap.size w V22 := by rw [hV]; first | exact B | exact B.alloc B.size _ | exact (B.alloc B.size _).alloc (by have := B.size; simp; omega) _
  have K0x : Blk V22 (w.heap.size) 24 #[.int .i64 n0_0, .slice av0_1 l0_1.length cv0_1] := by rw [hV]; first | exact K0 | exact K0.alloc _ | exact (K0.alloc _).alloc _
  have K1x : Blk V22 (W8.heap.size) 30 #[.int .i64 (bsK n0_0 l0_1 l1_0), .int .i64 (bsA n0_0 l0_1 l1_0), .slice pw0_0 iw0_0 qw0_0, .int .i64 (bsC n0_0 l0_1 l1_0), .slice pw0_1 iw0_1 qw0_1, .int .i64 (0), .slice pw0_2 iw0_2 qw0_2, .int .i64 (bsP n0_0 l0_1 l1_0), .int .i64 (0), .slice pw0_3 iw0_3 qw0_3] := by rw [hV]; first | exact K1 | exact K1.alloc _ | exact (K1.alloc _).alloc _
  have K2x : Blk V22 (W10.heap.size) 26 #[.int .i64 n0_0, .slice px00 ix00 qx00] := by rw [hV]; first | exact K2 | exact K2.alloc _ | exact (K2.alloc _).alloc _
  have K3x : Blk V22 (W14.heap.size) 30 #[.int .i64 (bsK n0_0 l0_1 l1_0), .int .i64 (bsA n0_0 l0_1 l1_0), .slice pg0_0 ig0_0 qg0_0, .int .i64 (bsC n0_0 l0_1 l1_0), .slice pg0_1 ig0_1 qg0_1, .int .i64 (0), .slice pg0_2 ig0_2 qg0_2, .int .i64 (bsP n0_0 l0_1 l1_0), .int .i64 (0), .slice pg0_3 ig0_3 qg0_3] := by rw [hV]; first | exact K3 | exact K3.alloc _ | exact (K3.alloc _).alloc _
  have ow0_0x : OwnW 3 V7.heap.size V22 (.slice pw0_0 iw0_0 qw0_0) (bsL n0_0 l0_1 l1_0) := by rw [hV]; first | exact ow0_0 | exact ow0_0.alloc _ | exact (ow0_0.alloc _).alloc _
  have ow0_1x : OwnW 3 V7.heap.size V22 (.slice pw0_1 iw0_1 qw0_1) (bsM n0_0 l0_1 l1_0) := by rw [hV]; first | exact ow0_1 | exact ow0_1.alloc _ | exact (ow0_1.alloc _).alloc _
  have ow0_2x : OwnW 3 V7.heap.size V22 (.slice pw0_2 iw0_2 qw0_2) (([] : List Int)) := by rw [hV]; first | exact ow0_2 | exact ow0_2.alloc _ | exact (ow0_2.alloc _).alloc _
  have ow0_3x : OwnW 3 V7.heap.size V22 (.slice pw0_3 iw0_3 qw0_3) (bsE n0_0 l0_1 l1_0) := by rw [hV]; first | exact ow0_3 | exact ow0_3.alloc _ | exact (ow0_3.alloc _).alloc _
  have ox00x : OwnW 3 V9.heap.size V22 (.slice px00 ix00 qx00) (l0_1) := by rw [hV]; first | exact ox00 | exact ox00.alloc _ | exact (ox00.alloc _).alloc _
  have ox10x : OwnW 3 V11.heap.size V22 (.slice px10 ix10 qx10) (l1_0) := by rw [hV]; first | exact ox10 | exact ox10.alloc _ | exact (ox10.alloc _).alloc _
  have og0_0x : OwnW 3 V13.heap.size V22 (.slice pg0_0 ig0_0 qg0_0) (bsL n0_0 l0_1 l1_0) := by rw [hV]; first | exact og0_0 | exact og0_0.alloc _ | exact (og0_0.alloc _).alloc _
  have og0_1x : OwnW 3 V13.heap.size V22 (.slice pg0_1 ig0_1 qg0_1) (bsM n0_0 l0_1 l1_0) := by rw [hV]; first | exact og0_1 | exact og0_1.alloc _ | exact (og0_1.alloc _).alloc _
  have og0_2x : OwnW 3 V13.heap.size V22 (.slice pg0_2 ig0_2 qg0_2) (([] : List Int)) := by rw [hV]; first | exact og0_2 | exact og0_2.alloc _ | exact (og0_2.alloc _).alloc _
  have og0_3x : OwnW 3 V13.heap.size V22 (.slice pg0_3 ig0_3 qg0_3) (bsE n0_0 l0_1 l1_0) := by rw [hV]; first | exact og0_3 | exact og0_3.alloc _ | exact (og0_3.alloc _).alloc _
  have oy1_190x : OwnW 3 V20.heap.size V22 (.slice py1_190 iy1_190 qy1_190) (l1_0) := by rw [hV]; first | exact oy1_190 | exact oy1_190.alloc _ | exact (oy1_190.alloc _).alloc _
  clear B K0 K1 K2 K3 ow0_0 ow0_1 ow0_2 ow0_3 ox00 ox10 og0_0 og0_1 og0_2 og0_3 oy1_190
  have B := B1
  have K0 := K0x
  have K1 := K1x
  have K2 := K2x
  have K3 := K3x
  have ow0_0 := ow0_0x
  have ow0_1 := ow0_1x
  have ow0_2 := ow0_2x
  have ow0_3 := ow0_3x
  have ox00 := ox00x
  have ox10 := ox10x
  have og0_0 := og0_0x
  have og0_1 := og0_1x
  have og0_2 := og0_2x
  have og0_3 := og0_3x
  have oy1_190 := oy1_190x
  clear B1 K0x K1x K2x K3x ow0_0x ow0_1x ow0_2x ow0_3x ox00x ox10x og0_0x og0_1x og0_2x og0_3x oy1_190x
  clear hV
  refine (eqIntS_any _ _ _ _ _ ox10.ints oy1_190.ints).mono ?_
  rintro e W23 ⟨rfl, nq, hq⟩
  have hb : Below V22.heap.size V22 W23 := by rw [hq]; exact (Below.refl _ _).drewN' _
  clear hq
  simp only [decide_true]
  have zW23 : V22.heap.size ≤ W23.heap.size := hb.size
  have B1 := B.after hb B.size
  have K0x := K0.keep hb
  have K1x := K1.keep hb
  have K2x := K2.keep hb
  have K3x := K3.keep hb
  have ow0_0x := ow0_0.keep hb
  have ow0_1x := ow0_1.keep hb
  have ow0_2x := ow0_2.keep hb
  have ow0_3x := ow0_3.keep hb
  have ox00x := ox00.keep hb
  have ox10x := ox10.keep hb
  have og0_0x := og0_0.keep hb
  have og0_1x := og0_1.keep hb
  have og0_2x := og0_2.keep hb
  have og0_3x := og0_3.keep hb
  have oy1_190x := oy1_190.keep hb
  clear B K0 K1 K2 K3 ow0_0 ow0_1 ow0_2 ow0_3 ox00 ox10 og0_0 og0_1 og0_2 og0_3 oy1_190
  have B := B1
  have K0 := K0x
  have K1 := K1x
  have K2 := K2x
  have K3 := K3x
  have ow0_0 := ow0_0x
  have ow0_1 := ow0_1x
  have ow0_2 := ow0_2x
  have ow0_3 := ow0_3x
  have ox00 := ox00x
  have ox10 := ox10x
  have og0_0 := og0_0x
  have og0_1 := og0_1x
  have og0_2 := og0_2x
  have og0_3 := og0_3x
  have oy1_190 := oy1_190x
  clear B1 K0x K1x K2x K3x ow0_0x ow0_1x ow0_2x ow0_3x ox00x ox10x og0_0x og0_1x og0_2x og0_3x oy1_190x
  clear hb
  clear oy1_190
  have hlen0 := bsL_len n0_0 l0_1 l1_0 hlv0_1
  have hlen1 := bsM_len n0_0 l0_1 l1_0
  have hlen2 := bsE_len n0_0 l0_1 l1_0
  have hlen3 := (show ([] : List Int).length ≤ 1048576 by decide)
  have GK0 := K0.cell
  have ZK0 := K0.lt
  have GK1 := K1.cell
  have ZK1 := K1.lt
  have GK2 := K2.cell
  have ZK2 := K2.lt
  have GK3 := K3.cell
  have ZK3 := K3.lt
  go_wp2_with fail
  clear GK0 ZK0 GK1 ZK1 GK2 ZK2 GK3 ZK3
  refine calls_named ?_
  intro V24 hV
  have zV24 : W23.heap.size + 0 ≤ V24.heap.size := by rw [hV]; (first | exact Nat.le_refl _ | simp)
  have B1 : Below w.heap.size w V24 := by rw [hV]; first | exact B | exact B.alloc B.size _ | exact (B.alloc B.size _).alloc (by have := B.size; simp; omega) _
  have K0x : Blk V24 (w.heap.size) 24 #[.int .i64 n0_0, .slice av0_1 l0_1.length cv0_1] := by rw [hV]; first | exact K0 | exact K0.alloc _ | exact (K0.alloc _).alloc _
  have K1x : Blk V24 (W8.heap.size) 30 #[.int .i64 (bsK n0_0 l0_1 l1_0), .int .i64 (bsA n0_0 l0_1 l1_0), .slice pw0_0 iw0_0 qw0_0, .int .i64 (bsC n0_0 l0_1 l1_0), .slice pw0_1 iw0_1 qw0_1, .int .i64 (0), .slice pw0_2 iw0_2 qw0_2, .int .i64 (bsP n0_0 l0_1 l1_0), .int .i64 (0), .slice pw0_3 iw0_3 qw0_3] := by rw [hV]; first | exact K1 | exact K1.alloc _ | exact (K1.alloc _).alloc _
  have K2x : Blk V24 (W10.heap.size) 26 #[.int .i64 n0_0, .slice px00 ix00 qx00] := by rw [hV]; first | exact K2 | exact K2.alloc _ | exact (K2.alloc _).alloc _
  have K3x : Blk V24 (W14.heap.size) 30 #[.int .i64 (bsK n0_0 l0_1 l1_0), .int .i64 (bsA n0_0 l0_1 l1_0), .slice pg0_0 ig0_0 qg0_0, .int .i64 (bsC n0_0 l0_1 l1_0), .slice pg0_1 ig0_1 qg0_1, .int .i64 (0), .slice pg0_2 ig0_2 qg0_2, .int .i64 (bsP n0_0 l0_1 l1_0), .int .i64 (0), .slice pg0_3 ig0_3 qg0_3] := by rw [hV]; first | exact K3 | exact K3.alloc _ | exact (K3.alloc _).alloc _
  have ow0_0x : OwnW 3 V7.heap.size V24 (.slice pw0_0 iw0_0 qw0_0) (bsL n0_0 l0_1 l1_0) := by rw [hV]; first | exact ow0_0 | exact ow0_0.alloc _ | exact (ow0_0.alloc _).alloc _
  have ow0_1x : OwnW 3 V7.heap.size V24 (.slice pw0_1 iw0_1 qw0_1) (bsM n0_0 l0_1 l1_0) := by rw [hV]; first | exact ow0_1 | exact ow0_1.alloc _ | exact (ow0_1.alloc _).alloc _
  have ow0_2x : OwnW 3 V7.heap.size V24 (.slice pw0_2 iw0_2 qw0_2) (([] : List Int)) := by rw [hV]; first | exact ow0_2 | exact ow0_2.alloc _ | exact (ow0_2.alloc _).alloc _
  have ow0_3x : OwnW 3 V7.heap.size V24 (.slice pw0_3 iw0_3 qw0_3) (bsE n0_0 l0_1 l1_0) := by rw [hV]; first | exact ow0_3 | exact ow0_3.alloc _ | exact (ow0_3.alloc _).alloc _
  have ox00x : OwnW 3 V9.heap.size V24 (.slice px00 ix00 qx00) (l0_1) := by rw [hV]; first | exact ox00 | exact ox00.alloc _ | exact (ox00.alloc _).alloc _
  have ox10x : OwnW 3 V11.heap.size V24 (.slice px10 ix10 qx10) (l1_0) := by rw [hV]; first | exact ox10 | exact ox10.alloc _ | exact (ox10.alloc _).alloc _
  have og0_0x : OwnW 3 V13.heap.size V24 (.slice pg0_0 ig0_0 qg0_0) (bsL n0_0 l0_1 l1_0) := by rw [hV]; first | exact og0_0 | exact og0_0.alloc _ | exact (og0_0.alloc _).alloc _
  have og0_1x : OwnW 3 V13.heap.size V24 (.slice pg0_1 ig0_1 qg0_1) (bsM n0_0 l0_1 l1_0) := by rw [hV]; first | exact og0_1 | exact og0_1.alloc _ | exact (og0_1.alloc _).alloc _
  have og0_2x : OwnW 3 V13.heap.size V24 (.slice pg0_2 ig0_2 qg0_2) (([] : List Int)) := by rw [hV]; first | exact og0_2 | exact og0_2.alloc _ | exact (og0_2.alloc _).alloc _
  have og0_3x : OwnW 3 V13.heap.size V24 (.slice pg0_3 ig0_3 qg0_3) (bsE n0_0 l0_1 l1_0) := by rw [hV]; first | exact og0_3 | exact og0_3.alloc _ | exact (og0_3.alloc _).alloc _
  clear B K0 K1 K2 K3 ow0_0 ow0_1 ow0_2 ow0_3 ox00 ox10 og0_0 og0_1 og0_2 og0_3
  have B := B1
  have K0 := K0x
  have K1 := K1x
  have K2 := K2x
  have K3 := K3x
  have ow0_0 := ow0_0x
  have ow0_1 := ow0_1x
  have ow0_2 := ow0_2x
  have ow0_3 := ow0_3x
  have ox00 := ox00x
  have ox10 := ox10x
  have og0_0 := og0_0x
  have og0_1 := og0_1x
  have og0_2 := og0_2x
  have og0_3 := og0_3x
  clear B1 K0x K1x K2x K3x ow0_0x ow0_1x ow0_2x ow0_3x ox00x ox10x og0_0x og0_1x og0_2x og0_3x
  clear hV
  refine (markFunction_any _ _ _ _ _ ox00 _ (by omega) (by omega) (by omega)).mono ?_
  rintro e W25 ⟨rfl, ox00x, hg⟩
  have zW25 : V24.heap.size ≤ W25.heap.size := hg.size
  have B1 := below_grow B hg B.size (by intro kk hk; have := r_x00 kk hk; omega)
  have K0x := K0.grow hg (by intro hk; have := r_x00 _ hk; omega)
  have K1x := K1.grow hg (by intro hk; have := r_x00 _ hk; omega)
  have K2x := K2.grow hg (by intro hk; have := r_x00 _ hk; omega)
  have K3x := K3.grow hg (by intro hk; have := r_x00 _ hk; omega)
  have ow0_0x := ow0_0.grow hg (by intro kk hk hk2; have := r_x00 kk hk; have := r_w0_0 kk hk2; omega)
  have ow0_1x := ow0_1.grow hg (by intro kk hk hk2; have := r_x00 kk hk; have := r_w0_1 kk hk2; omega)
  have ow0_2x := ow0_2.grow hg (by intro kk hk hk2; have := r_x00 kk hk; have := r_w0_2 kk hk2; omega)
  have ow0_3x := ow0_3.grow hg (by intro kk hk hk2; have := r_x00 kk hk; have := r_w0_3 kk hk2; omega)
  have ox10x := ox10.grow hg (by intro kk hk hk2; have := r_x00 kk hk; have := r_x10 kk hk2; omega)
  have og0_0x := og0_0.grow hg (by intro kk hk hk2; have := r_x00 kk hk; have := r_g0_0 kk hk2; omega)
  have og0_1x := og0_1.grow hg (by intro kk hk hk2; have := r_x00 kk hk; have := r_g0_1 kk hk2; omega)
  have og0_2x := og0_2.grow hg (by intro kk hk hk2; have := r_x00 kk hk; have := r_g0_2 kk hk2; omega)
  have og0_3x := og0_3.grow hg (by intro kk hk hk2; have := r_x00 kk hk; have := r_g0_3 kk hk2; omega)
  clear B hg K0 K1 K2 K3 ow0_0 ow0_1 ow0_2 ow0_3 ox00 ox10 og0_0 og0_1 og0_2 og0_3
  have B := B1
  have K0 := K0x
  have K1 := K1x
  have K2 := K2x
  have K3 := K3x
  have ow0_0 := ow0_0x
  have ow0_1 := ow0_1x
  have ow0_2 := ow0_2x
  have ow0_3 := ow0_3x
  have ox00 := ox00x
  have ox10 := ox10x
  have og0_0 := og0_0x
  have og0_1 := og0_1x
  have og0_2 := og0_2x
  have og0_3 := og0_3x
  clear B1 K0x K1x K2x K3x ow0_0x ow0_1x ow0_2x ow0_3x ox00x ox10x og0_0x og0_1x og0_2x og0_3x
  have GK0 := K0.cell
  have ZK0 := K0.lt
  have GK1 := K1.cell
  have ZK1 := K1.lt
  have GK2 := K2.cell
  have ZK2 := K2.lt
  have GK3 := K3.cell
  have ZK3 := K3.lt
  go_wp2_with fail
  clear GK0 ZK0 GK1 ZK1 GK2 ZK2 GK3 ZK3
  refine calls_named ?_
  intro V26 hV
  have zV26 : W25.heap.size + 0 ≤ V26.heap.size := by rw [hV]; (first | exact Nat.le_refl _ | simp)
  have B1 : Below w.heap.size w V26 := by rw [hV]; first | exact B | exact B.alloc B.size _ | exact (B.alloc B.size _).alloc (by have := B.size; simp; omega) _
  have K0x : Blk V26 (w.heap.size) 24 #[.int .i64 n0_0, .slice av0_1 l0_1.length cv0_1] := by rw [hV]; first | exact K0 | exact K0.alloc _ | exact (K0.alloc _).alloc _
  have K1x : Blk V26 (W8.heap.size) 30 #[.int .i64 (bsK n0_0 l0_1 l1_0), .int .i64 (bsA n0_0 l0_1 l1_0), .slice pw0_0 iw0_0 qw0_0, .int .i64 (bsC n0_0 l0_1 l1_0), .slice pw0_1 iw0_1 qw0_1, .int .i64 (0), .slice pw0_2 iw0_2 qw0_2, .int .i64 (bsP n0_0 l0_1 l1_0), .int .i64 (0), .slice pw0_3 iw0_3 qw0_3] := by rw [hV]; first | exact K1 | exact K1.alloc _ | exact (K1.alloc _).alloc _
  have K2x : Blk V26 (W10.heap.size) 26 #[.int .i64 n0_0, .slice px00 ix00 qx00] := by rw [hV]; first | exact K2 | exact K2.alloc _ | exact (K2.alloc _).alloc _
  have K3x : Blk V26 (W14.heap.size) 30 #[.int .i64 (bsK n0_0 l0_1 l1_0), .int .i64 (bsA n0_0 l0_1 l1_0), .slice pg0_0 ig0_0 qg0_0, .int .i64 (bsC n0_0 l0_1 l1_0), .slice pg0_1 ig0_1 qg0_1, .int .i64 (0), .slice pg0_2 ig0_2 qg0_2, .int .i64 (bsP n0_0 l0_1 l1_0), .int .i64 (0), .slice pg0_3 ig0_3 qg0_3] := by rw [hV]; first | exact K3 | exact K3.alloc _ | exact (K3.alloc _).alloc _
  have ow0_0x : OwnW 3 V7.heap.size V26 (.slice pw0_0 iw0_0 qw0_0) (bsL n0_0 l0_1 l1_0) := by rw [hV]; first | exact ow0_0 | exact ow0_0.alloc _ | exact (ow0_0.alloc _).alloc _
  have ow0_1x : OwnW 3 V7.heap.size V26 (.slice pw0_1 iw0_1 qw0_1) (bsM n0_0 l0_1 l1_0) := by rw [hV]; first | exact ow0_1 | exact ow0_1.alloc _ | exact (ow0_1.alloc _).alloc _
  have ow0_2x : OwnW 3 V7.heap.size V26 (.slice pw0_2 iw0_2 qw0_2) (([] : List Int)) := by rw [hV]; first | exact ow0_2 | exact ow0_2.alloc _ | exact (ow0_2.alloc _).alloc _
  have ow0_3x : OwnW 3 V7.heap.size V26 (.slice pw0_3 iw0_3 qw0_3) (bsE n0_0 l0_1 l1_0) := by rw [hV]; first | exact ow0_3 | exact ow0_3.alloc _ | exact (ow0_3.alloc _).alloc _
  have ox00x : OwnW 3 V9.heap.size V26 (.slice px00 ix00 qx00) (ramp (1) (l0_1).length) := by rw [hV]; first | exact ox00 | exact ox00.alloc _ | exact (ox00.alloc _).alloc _
  have ox10x : OwnW 3 V11.heap.size V26 (.slice px10 ix10 qx10) (l1_0) := by rw [hV]; first | exact ox10 | exact ox10.alloc _ | exact (ox10.alloc _).alloc _
  have og0_0x : OwnW 3 V13.heap.size V26 (.slice pg0_0 ig0_0 qg0_0) (bsL n0_0 l0_1 l1_0) := by rw [hV]; first | exact og0_0 | exact og0_0.alloc _ | exact (og0_0.alloc _).alloc _
  have og0_1x : OwnW 3 V13.heap.size V26 (.slice pg0_1 ig0_1 qg0_1) (bsM n0_0 l0_1 l1_0) := by rw [hV]; first | exact og0_1 | exact og0_1.alloc _ | exact (og0_1.alloc _).alloc _
  have og0_2x : OwnW 3 V13.heap.size V26 (.slice pg0_2 ig0_2 qg0_2) (([] : List Int)) := by rw [hV]; first | exact og0_2 | exact og0_2.alloc _ | exact (og0_2.alloc _).alloc _
  have og0_3x : OwnW 3 V13.heap.size V26 (.slice pg0_3 ig0_3 qg0_3) (bsE n0_0 l0_1 l1_0) := by rw [hV]; first | exact og0_3 | exact og0_3.alloc _ | exact (og0_3.alloc _).alloc _
  clear B K0 K1 K2 K3 ow0_0 ow0_1 ow0_2 ow0_3 ox00 ox10 og0_0 og0_1 og0_2 og0_3
  have B := B1
  have K0 := K0x
  have K1 := K1x
  have K2 := K2x
  have K3 := K3x
  have ow0_0 := ow0_0x
  have ow0_1 := ow0_1x
  have ow0_2 := ow0_2x
  have ow0_3 := ow0_3x
  have ox00 := ox00x
  have ox10 := ox10x
  have og0_0 := og0_0x
  have og0_1 := og0_1x
  have og0_2 := og0_2x
  have og0_3 := og0_3x
  clear B1 K0x K1x K2x K3x ow0_0x ow0_1x ow0_2x ow0_3x ox00x ox10x og0_0x og0_1x og0_2x og0_3x
  clear hV
  refine (markIntS_any _ _ _ _ ox10 _ (by omega) (by omega) (by omega)).mono ?_
  rintro e W27 ⟨rfl, ox10x, hg⟩
  have zW27 : V26.heap.size ≤ W27.heap.size := hg.size
  have B1 := below_grow B hg B.size (by intro kk hk; have := r_x10 kk hk; omega)
  have K0x := K0.grow hg (by intro hk; have := r_x10 _ hk; omega)
  have K1x := K1.grow hg (by intro hk; have := r_x10 _ hk; omega)
  have K2x := K2.grow hg (by intro hk; have := r_x10 _ hk; omega)
  have K3x := K3.grow hg (by intro hk; have := r_x10 _ hk; omega)
  have ow0_0x := ow0_0.grow hg (by intro kk hk hk2; have := r_x10 kk hk; have := r_w0_0 kk hk2; omega)
  have ow0_1x := ow0_1.grow hg (by intro kk hk hk2; have := r_x10 kk hk; have := r_w0_1 kk hk2; omega)
  have ow0_2x := ow0_2.grow hg (by intro kk hk hk2; have := r_x10 kk hk; have := r_w0_2 kk hk2; omega)
  have ow0_3x := ow0_3.grow hg (by intro kk hk hk2; have := r_x10 kk hk; have := r_w0_3 kk hk2; omega)
  have ox00x := ox00.grow hg (by intro kk hk hk2; have := r_x10 kk hk; have := r_x00 kk hk2; omega)
  have og0_0x := og0_0.grow hg (by intro kk hk hk2; have := r_x10 kk hk; have := r_g0_0 kk hk2; omega)
  have og0_1x := og0_1.grow hg (by intro kk hk hk2; have := r_x10 kk hk; have := r_g0_1 kk hk2; omega)
  have og0_2x := og0_2.grow hg (by intro kk hk hk2; have := r_x10 kk hk; have := r_g0_2 kk hk2; omega)
  have og0_3x := og0_3.grow hg (by intro kk hk hk2; have := r_x10 kk hk; have := r_g0_3 kk hk2; omega)
  clear B hg K0 K1 K2 K3 ow0_0 ow0_1 ow0_2 ow0_3 ox00 ox10 og0_0 og0_1 og0_2 og0_3
  have B := B1
  have K0 := K0x
  have K1 := K1x
  have K2 := K2x
  have K3 := K3x
  have ow0_0 := ow0_0x
  have ow0_1 := ow0_1x
  have ow0_2 := ow0_2x
  have ow0_3 := ow0_3x
  have ox00 := ox00x
  have ox10 := ox10x
  have og0_0 := og0_0x
  have og0_1 := og0_1x
  have og0_2 := og0_2x
  have og0_3 := og0_3x
  clear B1 K0x K1x K2x K3x ow0_0x ow0_1x ow0_2x ow0_3x ox00x ox10x og0_0x og0_1x og0_2x og0_3x
  have GK0 := K0.cell
  have ZK0 := K0.lt
  have GK1 := K1.cell
  have ZK1 := K1.lt
  have GK2 := K2.cell
  have ZK2 := K2.lt
  have GK3 := K3.cell
  have ZK3 := K3.lt
  go_wp2_with fail
  clear GK0 ZK0 GK1 ZK1 GK2 ZK2 GK3 ZK3
  refine calls_named ?_
  intro V28 hV
  have zV28 : W27.heap.size + 0 ≤ V28.heap.size := by rw [hV]; (first | exact Nat.le_refl _ | simp)
  have B1 : Below w.heap.size w V28 := by rw [hV]; first | exact B | exact B.alloc B.size _ | exact (B.alloc B.size _).alloc (by have := B.size; simp; omega) _
  have K0x : Blk V28 (w.heap.size) 24 #[.int .i64 n0_0, .slice av0_1 l0_1.length cv0_1] := by rw [hV]; first | exact K0 | exact K0.alloc _ | exact (K0.alloc _).alloc _
  have K1x : Blk V28 (W8.heap.size) 30 #[.int .i64 (bsK n0_0 l0_1 l1_0), .int .i64 (bsA n0_0 l0_1 l1_0), .slice pw0_0 iw0_0 qw0_0, .int .i64 (bsC n0_0 l0_1 l1_0), .slice pw0_1 iw0_1 qw0_1, .int .i64 (0), .slice pw0_2 iw0_2 qw0_2, .int .i64 (bsP n0_0 l0_1 l1_0), .int .i64 (0), .slice pw0_3 iw0_3 qw0_3] := by rw [hV]; first | exact K1 | exact K1.alloc _ | exact (K1.alloc _).alloc _
  have K2x : Blk V28 (W10.heap.size) 26 #[.int .i64 n0_0, .slice px00 ix00 qx00] := by rw [hV]; first | exact K2 | exact K2.alloc _ | exact (K2.alloc _).alloc _
  have K3x : Blk V28 (W14.heap.size) 30 #[.int .i64 (bsK n0_0 l0_1 l1_0), .int .i64 (bsA n0_0 l0_1 l1_0), .slice pg0_0 ig0_0 qg0_0, .int .i64 (bsC n0_0 l0_1 l1_0), .slice pg0_1 ig0_1 qg0_1, .int .i64 (0), .slice pg0_2 ig0_2 qg0_2, .int .i64 (bsP n0_0 l0_1 l1_0), .int .i64 (0), .slice pg0_3 ig0_3 qg0_3] := by rw [hV]; first | exact K3 | exact K3.alloc _ | exact (K3.alloc _).alloc _
  have ow0_0x : OwnW 3 V7.heap.size V28 (.slice pw0_0 iw0_0 qw0_0) (bsL n0_0 l0_1 l1_0) := by rw [hV]; first | exact ow0_0 | exact ow0_0.alloc _ | exact (ow0_0.alloc _).alloc _
  have ow0_1x : OwnW 3 V7.heap.size V28 (.slice pw0_1 iw0_1 qw0_1) (bsM n0_0 l0_1 l1_0) := by rw [hV]; first | exact ow0_1 | exact ow0_1.alloc _ | exact (ow0_1.alloc _).alloc _
  have ow0_2x : OwnW 3 V7.heap.size V28 (.slice pw0_2 iw0_2 qw0_2) (([] : List Int)) := by rw [hV]; first | exact ow0_2 | exact ow0_2.alloc _ | exact (ow0_2.alloc _).alloc _
  have ow0_3x : OwnW 3 V7.heap.size V28 (.slice pw0_3 iw0_3 qw0_3) (bsE n0_0 l0_1 l1_0) := by rw [hV]; first | exact ow0_3 | exact ow0_3.alloc _ | exact (ow0_3.alloc _).alloc _
  have ox00x : OwnW 3 V9.heap.size V28 (.slice px00 ix00 qx00) (ramp (1) (l0_1).length) := by rw [hV]; first | exact ox00 | exact ox00.alloc _ | exact (ox00.alloc _).alloc _
  have ox10x : OwnW 3 V11.heap.size V28 (.slice px10 ix10 qx10) (ramp (1 + ((l0_1).length : Int)) (l1_0).length) := by rw [hV]; first | exact ox10 | exact ox10.alloc _ | exact (ox10.alloc _).alloc _
  have og0_0x : OwnW 3 V13.heap.size V28 (.slice pg0_0 ig0_0 qg0_0) (bsL n0_0 l0_1 l1_0) := by rw [hV]; first | exact og0_0 | exact og0_0.alloc _ | exact (og0_0.alloc _).alloc _
  have og0_1x : OwnW 3 V13.heap.size V28 (.slice pg0_1 ig0_1 qg0_1) (bsM n0_0 l0_1 l1_0) := by rw [hV]; first | exact og0_1 | exact og0_1.alloc _ | exact (og0_1.alloc _).alloc _
  have og0_2x : OwnW 3 V13.heap.size V28 (.slice pg0_2 ig0_2 qg0_2) (([] : List Int)) := by rw [hV]; first | exact og0_2 | exact og0_2.alloc _ | exact (og0_2.alloc _).alloc _
  have og0_3x : OwnW 3 V13.heap.size V28 (.slice pg0_3 ig0_3 qg0_3) (bsE n0_0 l0_1 l1_0) := by rw [hV]; first | exact og0_3 | exact og0_3.alloc _ | exact (og0_3.alloc _).alloc _
  clear B K0 K1 K2 K3 ow0_0 ow0_1 ow0_2 ow0_3 ox00 ox10 og0_0 og0_1 og0_2 og0_3
  have B := B1
  have K0 := K0x
  have K1 := K1x
  have K2 := K2x
  have K3 := K3x
  have ow0_0 := ow0_0x
  have ow0_1 := ow0_1x
  have ow0_2 := ow0_2x
  have ow0_3 := ow0_3x
  have ox00 := ox00x
  have ox10 := ox10x
  have og0_0 := og0_0x
  have og0_1 := og0_1x
  have og0_2 := og0_2x
  have og0_3 := og0_3x
  clear B1 K0x K1x K2x K3x ow0_0x ow0_1x ow0_2x ow0_3x ox00x ox10x og0_0x og0_1x og0_2x og0_3x
  clear hV
  refine (eqClaim_c _ _ _ _ _ og0_0.ints _ _ _ og0_1.ints _ _ _ og0_2.ints _ _ _ _ og0_3.ints _ ow0_0.ints _ ow0_1.ints _ ow0_2.ints _ ow0_3.ints).mono ?_
  rintro e W29 ⟨rfl, hb⟩
  have zW29 : V28.heap.size ≤ W29.heap.size := hb.size
  have B1 := B.after hb B.size
  have K0x := K0.keep hb
  have K1x := K1.keep hb
  have K2x := K2.keep hb
  have K3x := K3.keep hb
  have ow0_0x := ow0_0.keep hb
  have ow0_1x := ow0_1.keep hb
  have ow0_2x := ow0_2.keep hb
  have ow0_3x := ow0_3.keep hb
  have ox00x := ox00.keep hb
  have ox10x := ox10.keep hb
  have og0_0x := og0_0.keep hb
  have og0_1x := og0_1.keep hb
  have og0_2x := og0_2.keep hb
  have og0_3x := og0_3.keep hb
  clear B K0 K1 K2 K3 ow0_0 ow0_1 ow0_2 ow0_3 ox00 ox10 og0_0 og0_1 og0_2 og0_3
  have B := B1
  have K0 := K0x
  have K1 := K1x
  have K2 := K2x
  have K3 := K3x
  have ow0_0 := ow0_0x
  have ow0_1 := ow0_1x
  have ow0_2 := ow0_2x
  have ow0_3 := ow0_3x
  have ox00 := ox00x
  have ox10 := ox10x
  have og0_0 := og0_0x
  have og0_1 := og0_1x
  have og0_2 := og0_2x
  have og0_3 := og0_3x
  clear B1 K0x K1x K2x K3x ow0_0x ow0_1x ow0_2x ow0_3x ox00x ox10x og0_0x og0_1x og0_2x og0_3x
  clear hb
  have GK0 := K0.cell
  have ZK0 := K0.lt
  have GK1 := K1.cell
  have ZK1 := K1.lt
  have GK2 := K2.cell
  have ZK2 := K2.lt
  have GK3 := K3.cell
  have ZK3 := K3.lt
  go_wp2_with fail
  clear GK0 ZK0 GK1 ZK1 GK2 ZK2 GK3 ZK3
  refine calls_named ?_
  intro V30 hV
  have zV30 : W29.heap.size + 0 ≤ V30.heap.size := by rw [hV]; (first | exact Nat.le_refl _ | simp)
  have B1 : Below w.heap.size w V30 := by rw [hV]; first | exact B | exact B.alloc B.size _ | exact (B.alloc B.size _).alloc (by have := B.size; simp; omega) _
  have K0x : Blk V30 (w.heap.size) 24 #[.int .i64 n0_0, .slice av0_1 l0_1.length cv0_1] := by rw [hV]; first | exact K0 | exact K0.alloc _ | exact (K0.alloc _).alloc _
  have K1x : Blk V30 (W8.heap.size) 30 #[.int .i64 (bsK n0_0 l0_1 l1_0), .int .i64 (bsA n0_0 l0_1 l1_0), .slice pw0_0 iw0_0 qw0_0, .int .i64 (bsC n0_0 l0_1 l1_0), .slice pw0_1 iw0_1 qw0_1, .int .i64 (0), .slice pw0_2 iw0_2 qw0_2, .int .i64 (bsP n0_0 l0_1 l1_0), .int .i64 (0), .slice pw0_3 iw0_3 qw0_3] := by rw [hV]; first | exact K1 | exact K1.alloc _ | exact (K1.alloc _).alloc _
  have K2x : Blk V30 (W10.heap.size) 26 #[.int .i64 n0_0, .slice px00 ix00 qx00] := by rw [hV]; first | exact K2 | exact K2.alloc _ | exact (K2.alloc _).alloc _
  have K3x : Blk V30 (W14.heap.size) 30 #[.int .i64 (bsK n0_0 l0_1 l1_0), .int .i64 (bsA n0_0 l0_1 l1_0), .slice pg0_0 ig0_0 qg0_0, .int .i64 (bsC n0_0 l0_1 l1_0), .slice pg0_1 ig0_1 qg0_1, .int .i64 (0), .slice pg0_2 ig0_2 qg0_2, .int .i64 (bsP n0_0 l0_1 l1_0), .int .i64 (0), .slice pg0_3 ig0_3 qg0_3] := by rw [hV]; first | exact K3 | exact K3.alloc _ | exact (K3.alloc _).alloc _
  have ow0_0x : OwnW 3 V7.heap.size V30 (.slice pw0_0 iw0_0 qw0_0) (bsL n0_0 l0_1 l1_0) := by rw [hV]; first | exact ow0_0 | exact ow0_0.alloc _ | exact (ow0_0.alloc _).alloc _
  have ow0_1x : OwnW 3 V7.heap.size V30 (.slice pw0_1 iw0_1 qw0_1) (bsM n0_0 l0_1 l1_0) := by rw [hV]; first | exact ow0_1 | exact ow0_1.alloc _ | exact (ow0_1.alloc _).alloc _
  have ow0_2x : OwnW 3 V7.heap.size V30 (.slice pw0_2 iw0_2 qw0_2) (([] : List Int)) := by rw [hV]; first | exact ow0_2 | exact ow0_2.alloc _ | exact (ow0_2.alloc _).alloc _
  have ow0_3x : OwnW 3 V7.heap.size V30 (.slice pw0_3 iw0_3 qw0_3) (bsE n0_0 l0_1 l1_0) := by rw [hV]; first | exact ow0_3 | exact ow0_3.alloc _ | exact (ow0_3.alloc _).alloc _
  have ox00x : OwnW 3 V9.heap.size V30 (.slice px00 ix00 qx00) (ramp (1) (l0_1).length) := by rw [hV]; first | exact ox00 | exact ox00.alloc _ | exact (ox00.alloc _).alloc _
  have ox10x : OwnW 3 V11.heap.size V30 (.slice px10 ix10 qx10) (ramp (1 + ((l0_1).length : Int)) (l1_0).length) := by rw [hV]; first | exact ox10 | exact ox10.alloc _ | exact (ox10.alloc _).alloc _
  have og0_0x : OwnW 3 V13.heap.size V30 (.slice pg0_0 ig0_0 qg0_0) (bsL n0_0 l0_1 l1_0) := by rw [hV]; first | exact og0_0 | exact og0_0.alloc _ | exact (og0_0.alloc _).alloc _
  have og0_1x : OwnW 3 V13.heap.size V30 (.slice pg0_1 ig0_1 qg0_1) (bsM n0_0 l0_1 l1_0) := by rw [hV]; first | exact og0_1 | exact og0_1.alloc _ | exact (og0_1.alloc _).alloc _
  have og0_2x : OwnW 3 V13.heap.size V30 (.slice pg0_2 ig0_2 qg0_2) (([] : List Int)) := by rw [hV]; first | exact og0_2 | exact og0_2.alloc _ | exact (og0_2.alloc _).alloc _
  have og0_3x : OwnW 3 V13.heap.size V30 (.slice pg0_3 ig0_3 qg0_3) (bsE n0_0 l0_1 l1_0) := by rw [hV]; first | exact og0_3 | exact og0_3.alloc _ | exact (og0_3.alloc _).alloc _
  clear B K0 K1 K2 K3 ow0_0 ow0_1 ow0_2 ow0_3 ox00 ox10 og0_0 og0_1 og0_2 og0_3
  have B := B1
  have K0 := K0x
  have K1 := K1x
  have K2 := K2x
  have K3 := K3x
  have ow0_0 := ow0_0x
  have ow0_1 := ow0_1x
  have ow0_2 := ow0_2x
  have ow0_3 := ow0_3x
  have ox00 := ox00x
  have ox10 := ox10x
  have og0_0 := og0_0x
  have og0_1 := og0_1x
  have og0_2 := og0_2x
  have og0_3 := og0_3x
  clear B1 K0x K1x K2x K3x ow0_0x ow0_1x ow0_2x ow0_3x ox00x ox10x og0_0x og0_1x og0_2x og0_3x
  clear hV
  refine (markClaim_c _ _ _ _ _ _ og0_0 _ _ _ _ og0_1 _ _ _ _ og0_2 _ _ _ _ _ og0_3 ap_g.1 ap_g.2.1 ap_g.2.2.1 ap_g.2.2.2.1 ap_g.2.2.2.2.1 ap_g.2.2.2.2.2 _ (by omega) (by omega) (by omega) (by omega) (by omega) (by omega)).mono ?_
  rintro e W31 ⟨rfl, og0_0x, og0_1x, og0_2x, og0_3x, hg⟩
  have zW31 : V30.heap.size ≤ W31.heap.size := hg.size
  have B1 : Below w.heap.size w W31 := Below.growIn B hg B.size (by intro kk hk; rcases hk with h | h | h | h <;> first | (have := r_g0_0 kk h; omega) | (have := r_g0_1 kk h; omega) | (have := r_g0_2 kk h; omega) | (have := r_g0_3 kk h; omega))
  have K0x := K0.growIn hg (by intro hk; rcases hk with h | h | h | h <;> first | (have := r_g0_0 _ h; omega) | (have := r_g0_1 _ h; omega) | (have := r_g0_2 _ h; omega) | (have := r_g0_3 _ h; omega))
  have K1x := K1.growIn hg (by intro hk; rcases hk with h | h | h | h <;> first | (have := r_g0_0 _ h; omega) | (have := r_g0_1 _ h; omega) | (have := r_g0_2 _ h; omega) | (have := r_g0_3 _ h; omega))
  have K2x := K2.growIn hg (by intro hk; rcases hk with h | h | h | h <;> first | (have := r_g0_0 _ h; omega) | (have := r_g0_1 _ h; omega) | (have := r_g0_2 _ h; omega) | (have := r_g0_3 _ h; omega))
  have K3x := K3.growIn hg (by intro hk; rcases hk with h | h | h | h <;> first | (have := r_g0_0 _ h; omega) | (have := r_g0_1 _ h; omega) | (have := r_g0_2 _ h; omega) | (have := r_g0_3 _ h; omega))
  have ow0_0x := ow0_0.growIn hg (by intro kk hk hk2; have := r_w0_0 kk hk; rcases hk2 with h | h | h | h <;> first | (have := r_g0_0 kk h; omega) | (have := r_g0_1 kk h; omega) | (have := r_g0_2 kk h; omega) | (have := r_g0_3 kk h; omega))
  have ow0_1x := ow0_1.growIn hg (by intro kk hk hk2; have := r_w0_1 kk hk; rcases hk2 with h | h | h | h <;> first | (have := r_g0_0 kk h; omega) | (have := r_g0_1 kk h; omega) | (have := r_g0_2 kk h; omega) | (have := r_g0_3 kk h; omega))
  have ow0_2x := ow0_2.growIn hg (by intro kk hk hk2; have := r_w0_2 kk hk; rcases hk2 with h | h | h | h <;> first | (have := r_g0_0 kk h; omega) | (have := r_g0_1 kk h; omega) | (have := r_g0_2 kk h; omega) | (have := r_g0_3 kk h; omega))
  have ow0_3x := ow0_3.growIn hg (by intro kk hk hk2; have := r_w0_3 kk hk; rcases hk2 with h | h | h | h <;> first | (have := r_g0_0 kk h; omega) | (have := r_g0_1 kk h; omega) | (have := r_g0_2 kk h; omega) | (have := r_g0_3 kk h; omega))
  have ox00x := ox00.growIn hg (by intro kk hk hk2; have := r_x00 kk hk; rcases hk2 with h | h | h | h <;> first | (have := r_g0_0 kk h; omega) | (have := r_g0_1 kk h; omega) | (have := r_g0_2 kk h; omega) | (have := r_g0_3 kk h; omega))
  have ox10x := ox10.growIn hg (by intro kk hk hk2; have := r_x10 kk hk; rcases hk2 with h | h | h | h <;> first | (have := r_g0_0 kk h; omega) | (have := r_g0_1 kk h; omega) | (have := r_g0_2 kk h; omega) | (have := r_g0_3 kk h; omega))
  clear B hg K0 K1 K2 K3 ow0_0 ow0_1 ow0_2 ow0_3 ox00 ox10 og0_0 og0_1 og0_2 og0_3
  have B := B1
  have K0 := K0x
  have K1 := K1x
  have K2 := K2x
  have K3 := K3x
  have ow0_0 := ow0_0x
  have ow0_1 := ow0_1x
  have ow0_2 := ow0_2x
  have ow0_3 := ow0_3x
  have ox00 := ox00x
  have ox10 := ox10x
  have og0_0 := og0_0x
  have og0_1 := og0_1x
  have og0_2 := og0_2x
  have og0_3 := og0_3x
  clear B1 K0x K1x K2x K3x ow0_0x ow0_1x ow0_2x ow0_3x ox00x ox10x og0_0x og0_1x og0_2x og0_3x
  have GK0 := K0.cell
  have ZK0 := K0.lt
  have GK1 := K1.cell
  have ZK1 := K1.lt
  have GK2 := K2.cell
  have ZK2 := K2.lt
  have GK3 := K3.cell
  have ZK3 := K3.lt
  go_wp2_with fail
  clear GK0 ZK0 GK1 ZK1 GK2 ZK2 GK3 ZK3
  refine calls_named ?_
  intro V32 hV
  have zV32 : W31.heap.size + 0 ≤ V32.heap.size := by rw [hV]; (first | exact Nat.le_refl _ | simp)
  have B1 : Below w.heap.size w V32 := by rw [hV]; first | exact B | exact B.alloc B.size _ | exact (B.alloc B.size _).alloc (by have := B.size; simp; omega) _
  have K0x : Blk V32 (w.heap.size) 24 #[.int .i64 n0_0, .slice av0_1 l0_1.length cv0_1] := by rw [hV]; first | exact K0 | exact K0.alloc _ | exact (K0.alloc _).alloc _
  have K1x : Blk V32 (W8.heap.size) 30 #[.int .i64 (bsK n0_0 l0_1 l1_0), .int .i64 (bsA n0_0 l0_1 l1_0), .slice pw0_0 iw0_0 qw0_0, .int .i64 (bsC n0_0 l0_1 l1_0), .slice pw0_1 iw0_1 qw0_1, .int .i64 (0), .slice pw0_2 iw0_2 qw0_2, .int .i64 (bsP n0_0 l0_1 l1_0), .int .i64 (0), .slice pw0_3 iw0_3 qw0_3] := by rw [hV]; first | exact K1 | exact K1.alloc _ | exact (K1.alloc _).alloc _
  have K2x : Blk V32 (W10.heap.size) 26 #[.int .i64 n0_0, .slice px00 ix00 qx00] := by rw [hV]; first | exact K2 | exact K2.alloc _ | exact (K2.alloc _).alloc _
  have K3x : Blk V32 (W14.heap.size) 30 #[.int .i64 (bsK n0_0 l0_1 l1_0), .int .i64 (bsA n0_0 l0_1 l1_0), .slice pg0_0 ig0_0 qg0_0, .int .i64 (bsC n0_0 l0_1 l1_0), .slice pg0_1 ig0_1 qg0_1, .int .i64 (0), .slice pg0_2 ig0_2 qg0_2, .int .i64 (bsP n0_0 l0_1 l1_0), .int .i64 (0), .slice pg0_3 ig0_3 qg0_3] := by rw [hV]; first | exact K3 | exact K3.alloc _ | exact (K3.alloc _).alloc _
  have ow0_0x : OwnW 3 V7.heap.size V32 (.slice pw0_0 iw0_0 qw0_0) (bsL n0_0 l0_1 l1_0) := by rw [hV]; first | exact ow0_0 | exact ow0_0.alloc _ | exact (ow0_0.alloc _).alloc _
  have ow0_1x : OwnW 3 V7.heap.size V32 (.slice pw0_1 iw0_1 qw0_1) (bsM n0_0 l0_1 l1_0) := by rw [hV]; first | exact ow0_1 | exact ow0_1.alloc _ | exact (ow0_1.alloc _).alloc _
  have ow0_2x : OwnW 3 V7.heap.size V32 (.slice pw0_2 iw0_2 qw0_2) (([] : List Int)) := by rw [hV]; first | exact ow0_2 | exact ow0_2.alloc _ | exact (ow0_2.alloc _).alloc _
  have ow0_3x : OwnW 3 V7.heap.size V32 (.slice pw0_3 iw0_3 qw0_3) (bsE n0_0 l0_1 l1_0) := by rw [hV]; first | exact ow0_3 | exact ow0_3.alloc _ | exact (ow0_3.alloc _).alloc _
  have ox00x : OwnW 3 V9.heap.size V32 (.slice px00 ix00 qx00) (ramp (1) (l0_1).length) := by rw [hV]; first | exact ox00 | exact ox00.alloc _ | exact (ox00.alloc _).alloc _
  have ox10x : OwnW 3 V11.heap.size V32 (.slice px10 ix10 qx10) (ramp (1 + ((l0_1).length : Int)) (l1_0).length) := by rw [hV]; first | exact ox10 | exact ox10.alloc _ | exact (ox10.alloc _).alloc _
  have og0_0x : OwnW 3 V13.heap.size V32 (.slice pg0_0 ig0_0 qg0_0) (ramp (1) (bsL n0_0 l0_1 l1_0).length) := by rw [hV]; first | exact og0_0 | exact og0_0.alloc _ | exact (og0_0.alloc _).alloc _
  have og0_1x : OwnW 3 V13.heap.size V32 (.slice pg0_1 ig0_1 qg0_1) (ramp (1 + ((bsL n0_0 l0_1 l1_0).length : Int)) (bsM n0_0 l0_1 l1_0).length) := by rw [hV]; first | exact og0_1 | exact og0_1.alloc _ | exact (og0_1.alloc _).alloc _
  have og0_2x : OwnW 3 V13.heap.size V32 (.slice pg0_2 ig0_2 qg0_2) (ramp (1 + ((bsL n0_0 l0_1 l1_0).length : Int) + ((bsM n0_0 l0_1 l1_0).length : Int)) (([] : List Int)).length) := by rw [hV]; first | exact og0_2 | exact og0_2.alloc _ | exact (og0_2.alloc _).alloc _
  have og0_3x : OwnW 3 V13.heap.size V32 (.slice pg0_3 ig0_3 qg0_3) (ramp (1 + ((bsL n0_0 l0_1 l1_0).length : Int) + ((bsM n0_0 l0_1 l1_0).length : Int) + ((([] : List Int)).length : Int)) (bsE n0_0 l0_1 l1_0).length) := by rw [hV]; first | exact og0_3 | exact og0_3.alloc _ | exact (og0_3.alloc _).alloc _
  clear B K0 K1 K2 K3 ow0_0 ow0_1 ow0_2 ow0_3 ox00 ox10 og0_0 og0_1 og0_2 og0_3
  have B := B1
  have K0 := K0x
  have K1 := K1x
  have K2 := K2x
  have K3 := K3x
  have ow0_0 := ow0_0x
  have ow0_1 := ow0_1x
  have ow0_2 := ow0_2x
  have ow0_3 := ow0_3x
  have ox00 := ox00x
  have ox10 := ox10x
  have og0_0 := og0_0x
  have og0_1 := og0_1x
  have og0_2 := og0_2x
  have og0_3 := og0_3x
  clear B1 K0x K1x K2x K3x ow0_0x ow0_1x ow0_2x ow0_3x ox00x ox10x og0_0x og0_1x og0_2x og0_3x
  clear hV
  refine (heldClaim_c _ _ _ _ _ _ _ _ _ _ _ _ _ _ _ _ og0_0.ints og0_1.ints og0_2.ints og0_3.ints (by omega) (by omega) (by omega) (by omega) (by omega) (by omega)).mono ?_
  rintro e W33 ⟨rfl, hb⟩
  have zW33 : V32.heap.size ≤ W33.heap.size := hb.size
  have B1 := B.after hb B.size
  have K0x := K0.keep hb
  have K1x := K1.keep hb
  have K2x := K2.keep hb
  have K3x := K3.keep hb
  have ow0_0x := ow0_0.keep hb
  have ow0_1x := ow0_1.keep hb
  have ow0_2x := ow0_2.keep hb
  have ow0_3x := ow0_3.keep hb
  have ox00x := ox00.keep hb
  have ox10x := ox10.keep hb
  have og0_0x := og0_0.keep hb
  have og0_1x := og0_1.keep hb
  have og0_2x := og0_2.keep hb
  have og0_3x := og0_3.keep hb
  clear B K0 K1 K2 K3 ow0_0 ow0_1 ow0_2 ow0_3 ox00 ox10 og0_0 og0_1 og0_2 og0_3
  have B := B1
  have K0 := K0x
  have K1 := K1x
  have K2 := K2x
  have K3 := K3x
  have ow0_0 := ow0_0x
  have ow0_1 := ow0_1x
  have ow0_2 := ow0_2x
  have ow0_3 := ow0_3x
  have ox00 := ox00x
  have ox10 := ox10x
  have og0_0 := og0_0x
  have og0_1 := og0_1x
  have og0_2 := og0_2x
  have og0_3 := og0_3x
  clear B1 K0x K1x K2x K3x ow0_0x ow0_1x ow0_2x ow0_3x ox00x ox10x og0_0x og0_1x og0_2x og0_3x
  clear hb
  have GK0 := K0.cell
  have ZK0 := K0.lt
  have GK1 := K1.cell
  have ZK1 := K1.lt
  have GK2 := K2.cell
  have ZK2 := K2.lt
  have GK3 := K3.cell
  have ZK3 := K3.lt
  go_wp2_with fail
  clear GK0 ZK0 GK1 ZK1 GK2 ZK2 GK3 ZK3
  refine calls_named ?_
  intro V34 hV
  have zV34 : W33.heap.size + 0 ≤ V34.heap.size := by rw [hV]; (first | exact Nat.le_refl _ | simp)
  have B1 : Below w.heap.size w V34 := by rw [hV]; first | exact B | exact B.alloc B.size _ | exact (B.alloc B.size _).alloc (by have := B.size; simp; omega) _
  have K0x : Blk V34 (w.heap.size) 24 #[.int .i64 n0_0, .slice av0_1 l0_1.length cv0_1] := by rw [hV]; first | exact K0 | exact K0.alloc _ | exact (K0.alloc _).alloc _
  have K1x : Blk V34 (W8.heap.size) 30 #[.int .i64 (bsK n0_0 l0_1 l1_0), .int .i64 (bsA n0_0 l0_1 l1_0), .slice pw0_0 iw0_0 qw0_0, .int .i64 (bsC n0_0 l0_1 l1_0), .slice pw0_1 iw0_1 qw0_1, .int .i64 (0), .slice pw0_2 iw0_2 qw0_2, .int .i64 (bsP n0_0 l0_1 l1_0), .int .i64 (0), .slice pw0_3 iw0_3 qw0_3] := by rw [hV]; first | exact K1 | exact K1.alloc _ | exact (K1.alloc _).alloc _
  have K2x : Blk V34 (W10.heap.size) 26 #[.int .i64 n0_0, .slice px00 ix00 qx00] := by rw [hV]; first | exact K2 | exact K2.alloc _ | exact (K2.alloc _).alloc _
  have K3x : Blk V34 (W14.heap.size) 30 #[.int .i64 (bsK n0_0 l0_1 l1_0), .int .i64 (bsA n0_0 l0_1 l1_0), .slice pg0_0 ig0_0 qg0_0, .int .i64 (bsC n0_0 l0_1 l1_0), .slice pg0_1 ig0_1 qg0_1, .int .i64 (0), .slice pg0_2 ig0_2 qg0_2, .int .i64 (bsP n0_0 l0_1 l1_0), .int .i64 (0), .slice pg0_3 ig0_3 qg0_3] := by rw [hV]; first | exact K3 | exact K3.alloc _ | exact (K3.alloc _).alloc _
  have ow0_0x : OwnW 3 V7.heap.size V34 (.slice pw0_0 iw0_0 qw0_0) (bsL n0_0 l0_1 l1_0) := by rw [hV]; first | exact ow0_0 | exact ow0_0.alloc _ | exact (ow0_0.alloc _).alloc _
  have ow0_1x : OwnW 3 V7.heap.size V34 (.slice pw0_1 iw0_1 qw0_1) (bsM n0_0 l0_1 l1_0) := by rw [hV]; first | exact ow0_1 | exact ow0_1.alloc _ | exact (ow0_1.alloc _).alloc _
  have ow0_2x : OwnW 3 V7.heap.size V34 (.slice pw0_2 iw0_2 qw0_2) (([] : List Int)) := by rw [hV]; first | exact ow0_2 | exact ow0_2.alloc _ | exact (ow0_2.alloc _).alloc _
  have ow0_3x : OwnW 3 V7.heap.size V34 (.slice pw0_3 iw0_3 qw0_3) (bsE n0_0 l0_1 l1_0) := by rw [hV]; first | exact ow0_3 | exact ow0_3.alloc _ | exact (ow0_3.alloc _).alloc _
  have ox00x : OwnW 3 V9.heap.size V34 (.slice px00 ix00 qx00) (ramp (1) (l0_1).length) := by rw [hV]; first | exact ox00 | exact ox00.alloc _ | exact (ox00.alloc _).alloc _
  have ox10x : OwnW 3 V11.heap.size V34 (.slice px10 ix10 qx10) (ramp (1 + ((l0_1).length : Int)) (l1_0).length) := by rw [hV]; first | exact ox10 | exact ox10.alloc _ | exact (ox10.alloc _).alloc _
  have og0_0x : OwnW 3 V13.heap.size V34 (.slice pg0_0 ig0_0 qg0_0) (ramp (1) (bsL n0_0 l0_1 l1_0).length) := by rw [hV]; first | exact og0_0 | exact og0_0.alloc _ | exact (og0_0.alloc _).alloc _
  have og0_1x : OwnW 3 V13.heap.size V34 (.slice pg0_1 ig0_1 qg0_1) (ramp (1 + ((bsL n0_0 l0_1 l1_0).length : Int)) (bsM n0_0 l0_1 l1_0).length) := by rw [hV]; first | exact og0_1 | exact og0_1.alloc _ | exact (og0_1.alloc _).alloc _
  have og0_2x : OwnW 3 V13.heap.size V34 (.slice pg0_2 ig0_2 qg0_2) (ramp (1 + ((bsL n0_0 l0_1 l1_0).length : Int) + ((bsM n0_0 l0_1 l1_0).length : Int)) (([] : List Int)).length) := by rw [hV]; first | exact og0_2 | exact og0_2.alloc _ | exact (og0_2.alloc _).alloc _
  have og0_3x : OwnW 3 V13.heap.size V34 (.slice pg0_3 ig0_3 qg0_3) (ramp (1 + ((bsL n0_0 l0_1 l1_0).length : Int) + ((bsM n0_0 l0_1 l1_0).length : Int) + ((([] : List Int)).length : Int)) (bsE n0_0 l0_1 l1_0).length) := by rw [hV]; first | exact og0_3 | exact og0_3.alloc _ | exact (og0_3.alloc _).alloc _
  clear B K0 K1 K2 K3 ow0_0 ow0_1 ow0_2 ow0_3 ox00 ox10 og0_0 og0_1 og0_2 og0_3
  have B := B1
  have K0 := K0x
  have K1 := K1x
  have K2 := K2x
  have K3 := K3x
  have ow0_0 := ow0_0x
  have ow0_1 := ow0_1x
  have ow0_2 := ow0_2x
  have ow0_3 := ow0_3x
  have ox00 := ox00x
  have ox10 := ox10x
  have og0_0 := og0_0x
  have og0_1 := og0_1x
  have og0_2 := og0_2x
  have og0_3 := og0_3x
  clear B1 K0x K1x K2x K3x ow0_0x ow0_1x ow0_2x ow0_3x ox00x ox10x og0_0x og0_1x og0_2x og0_3x
  clear hV
  refine (toFunction_any n0_0 _ l0_1 _ (hv0_1.below B (Nat.le_refl _)) hlv0_1).mono ?_
  rintro e W35 ⟨phx00, ihx00, qhx00, rfl, ohx00x, hb⟩
  have zW35 : V34.heap.size ≤ W35.heap.size := hb.size
  have B1 := B.after hb B.size
  have K0x := K0.keep hb
  have K1x := K1.keep hb
  have K2x := K2.keep hb
  have K3x := K3.keep hb
  have ow0_0x := ow0_0.keep hb
  have ow0_1x := ow0_1.keep hb
  have ow0_2x := ow0_2.keep hb
  have ow0_3x := ow0_3.keep hb
  have ox00x := ox00.keep hb
  have ox10x := ox10.keep hb
  have og0_0x := og0_0.keep hb
  have og0_1x := og0_1.keep hb
  have og0_2x := og0_2.keep hb
  have og0_3x := og0_3.keep hb
  clear B K0 K1 K2 K3 ow0_0 ow0_1 ow0_2 ow0_3 ox00 ox10 og0_0 og0_1 og0_2 og0_3
  have B := B1
  have K0 := K0x
  have K1 := K1x
  have K2 := K2x
  have K3 := K3x
  have ow0_0 := ow0_0x
  have ow0_1 := ow0_1x
  have ow0_2 := ow0_2x
  have ow0_3 := ow0_3x
  have ox00 := ox00x
  have ox10 := ox10x
  have og0_0 := og0_0x
  have og0_1 := og0_1x
  have og0_2 := og0_2x
  have og0_3 := og0_3x
  clear B1 K0x K1x K2x K3x ow0_0x ow0_1x ow0_2x ow0_3x ox00x ox10x og0_0x og0_1x og0_2x og0_3x
  clear hb
  have ohx00 := ohx00x.toW
  clear ohx00x
  have r_hx00 := ohx00.lt
  have GK0 := K0.cell
  have ZK0 := K0.lt
  have GK1 := K1.cell
  have ZK1 := K1.lt
  have GK2 := K2.cell
  have ZK2 := K2.lt
  have GK3 := K3.cell
  have ZK3 := K3.lt
  go_wp2_with fail
  clear GK0 ZK0 GK1 ZK1 GK2 ZK2 GK3 ZK3
  refine calls_named ?_
  intro V36 hV
  have zV36 : W35.heap.size + 0 ≤ V36.heap.size := by rw [hV]; (first | exact Nat.le_refl _ | simp)
  have B1 : Below w.heap.size w V36 := by rw [hV]; first | exact B | exact B.alloc B.size _ | exact (B.alloc B.size _).alloc (by have := B.size; simp; omega) _
  have K0x : Blk V36 (w.heap.size) 24 #[.int .i64 n0_0, .slice av0_1 l0_1.length cv0_1] := by rw [hV]; first | exact K0 | exact K0.alloc _ | exact (K0.alloc _).alloc _
  have K1x : Blk V36 (W8.heap.size) 30 #[.int .i64 (bsK n0_0 l0_1 l1_0), .int .i64 (bsA n0_0 l0_1 l1_0), .slice pw0_0 iw0_0 qw0_0, .int .i64 (bsC n0_0 l0_1 l1_0), .slice pw0_1 iw0_1 qw0_1, .int .i64 (0), .slice pw0_2 iw0_2 qw0_2, .int .i64 (bsP n0_0 l0_1 l1_0), .int .i64 (0), .slice pw0_3 iw0_3 qw0_3] := by rw [hV]; first | exact K1 | exact K1.alloc _ | exact (K1.alloc _).alloc _
  have K2x : Blk V36 (W10.heap.size) 26 #[.int .i64 n0_0, .slice px00 ix00 qx00] := by rw [hV]; first | exact K2 | exact K2.alloc _ | exact (K2.alloc _).alloc _
  have K3x : Blk V36 (W14.heap.size) 30 #[.int .i64 (bsK n0_0 l0_1 l1_0), .int .i64 (bsA n0_0 l0_1 l1_0), .slice pg0_0 ig0_0 qg0_0, .int .i64 (bsC n0_0 l0_1 l1_0), .slice pg0_1 ig0_1 qg0_1, .int .i64 (0), .slice pg0_2 ig0_2 qg0_2, .int .i64 (bsP n0_0 l0_1 l1_0), .int .i64 (0), .slice pg0_3 ig0_3 qg0_3] := by rw [hV]; first | exact K3 | exact K3.alloc _ | exact (K3.alloc _).alloc _
  have ow0_0x : OwnW 3 V7.heap.size V36 (.slice pw0_0 iw0_0 qw0_0) (bsL n0_0 l0_1 l1_0) := by rw [hV]; first | exact ow0_0 | exact ow0_0.alloc _ | exact (ow0_0.alloc _).alloc _
  have ow0_1x : OwnW 3 V7.heap.size V36 (.slice pw0_1 iw0_1 qw0_1) (bsM n0_0 l0_1 l1_0) := by rw [hV]; first | exact ow0_1 | exact ow0_1.alloc _ | exact (ow0_1.alloc _).alloc _
  have ow0_2x : OwnW 3 V7.heap.size V36 (.slice pw0_2 iw0_2 qw0_2) (([] : List Int)) := by rw [hV]; first | exact ow0_2 | exact ow0_2.alloc _ | exact (ow0_2.alloc _).alloc _
  have ow0_3x : OwnW 3 V7.heap.size V36 (.slice pw0_3 iw0_3 qw0_3) (bsE n0_0 l0_1 l1_0) := by rw [hV]; first | exact ow0_3 | exact ow0_3.alloc _ | exact (ow0_3.alloc _).alloc _
  have ox00x : OwnW 3 V9.heap.size V36 (.slice px00 ix00 qx00) (ramp (1) (l0_1).length) := by rw [hV]; first | exact ox00 | exact ox00.alloc _ | exact (ox00.alloc _).alloc _
  have ox10x : OwnW 3 V11.heap.size V36 (.slice px10 ix10 qx10) (ramp (1 + ((l0_1).length : Int)) (l1_0).length) := by rw [hV]; first | exact ox10 | exact ox10.alloc _ | exact (ox10.alloc _).alloc _
  have og0_0x : OwnW 3 V13.heap.size V36 (.slice pg0_0 ig0_0 qg0_0) (ramp (1) (bsL n0_0 l0_1 l1_0).length) := by rw [hV]; first | exact og0_0 | exact og0_0.alloc _ | exact (og0_0.alloc _).alloc _
  have og0_1x : OwnW 3 V13.heap.size V36 (.slice pg0_1 ig0_1 qg0_1) (ramp (1 + ((bsL n0_0 l0_1 l1_0).length : Int)) (bsM n0_0 l0_1 l1_0).length) := by rw [hV]; first | exact og0_1 | exact og0_1.alloc _ | exact (og0_1.alloc _).alloc _
  have og0_2x : OwnW 3 V13.heap.size V36 (.slice pg0_2 ig0_2 qg0_2) (ramp (1 + ((bsL n0_0 l0_1 l1_0).length : Int) + ((bsM n0_0 l0_1 l1_0).length : Int)) (([] : List Int)).length) := by rw [hV]; first | exact og0_2 | exact og0_2.alloc _ | exact (og0_2.alloc _).alloc _
  have og0_3x : OwnW 3 V13.heap.size V36 (.slice pg0_3 ig0_3 qg0_3) (ramp (1 + ((bsL n0_0 l0_1 l1_0).length : Int) + ((bsM n0_0 l0_1 l1_0).length : Int) + ((([] : List Int)).length : Int)) (bsE n0_0 l0_1 l1_0).length) := by rw [hV]; first | exact og0_3 | exact og0_3.alloc _ | exact (og0_3.alloc _).alloc _
  have ohx00x : OwnW 3 V34.heap.size V36 (.slice phx00 ihx00 qhx00) (l0_1) := by rw [hV]; first | exact ohx00 | exact ohx00.alloc _ | exact (ohx00.alloc _).alloc _
  clear B K0 K1 K2 K3 ow0_0 ow0_1 ow0_2 ow0_3 ox00 ox10 og0_0 og0_1 og0_2 og0_3 ohx00
  have B := B1
  have K0 := K0x
  have K1 := K1x
  have K2 := K2x
  have K3 := K3x
  have ow0_0 := ow0_0x
  have ow0_1 := ow0_1x
  have ow0_2 := ow0_2x
  have ow0_3 := ow0_3x
  have ox00 := ox00x
  have ox10 := ox10x
  have og0_0 := og0_0x
  have og0_1 := og0_1x
  have og0_2 := og0_2x
  have og0_3 := og0_3x
  have ohx00 := ohx00x
  clear B1 K0x K1x K2x K3x ow0_0x ow0_1x ow0_2x ow0_3x ox00x ox10x og0_0x og0_1x og0_2x og0_3x ohx00x
  clear hV
  refine (toIntS_any _ l1_0 _ (hv1_0.below B (Nat.le_refl _)) hlv1_0).mono ?_
  rintro e W37 ⟨phx10, ihx10, qhx10, rfl, ohx10x, hb⟩
  have zW37 : V36.heap.size ≤ W37.heap.size := hb.size
  have B1 := B.after hb B.size
  have K0x := K0.keep hb
  have K1x := K1.keep hb
  have K2x := K2.keep hb
  have K3x := K3.keep hb
  have ow0_0x := ow0_0.keep hb
  have ow0_1x := ow0_1.keep hb
  have ow0_2x := ow0_2.keep hb
  have ow0_3x := ow0_3.keep hb
  have ox00x := ox00.keep hb
  have ox10x := ox10.keep hb
  have og0_0x := og0_0.keep hb
  have og0_1x := og0_1.keep hb
  have og0_2x := og0_2.keep hb
  have og0_3x := og0_3.keep hb
  have ohx00x := ohx00.keep hb
  clear B K0 K1 K2 K3 ow0_0 ow0_1 ow0_2 ow0_3 ox00 ox10 og0_0 og0_1 og0_2 og0_3 ohx00
  have B := B1
  have K0 := K0x
  have K1 := K1x
  have K2 := K2x
  have K3 := K3x
  have ow0_0 := ow0_0x
  have ow0_1 := ow0_1x
  have ow0_2 := ow0_2x
  have ow0_3 := ow0_3x
  have ox00 := ox00x
  have ox10 := ox10x
  have og0_0 := og0_0x
  have og0_1 := og0_1x
  have og0_2 := og0_2x
  have og0_3 := og0_3x
  have ohx00 := ohx00x
  clear B1 K0x K1x K2x K3x ow0_0x ow0_1x ow0_2x ow0_3x ox00x ox10x og0_0x og0_1x og0_2x og0_3x ohx00x
  clear hb
  have ohx10 := ohx10x.toW
  clear ohx10x
  have r_hx10 := ohx10.lt
  have GK0 := K0.cell
  have ZK0 := K0.lt
  have GK1 := K1.cell
  have ZK1 := K1.lt
  have GK2 := K2.cell
  have ZK2 := K2.lt
  have GK3 := K3.cell
  have ZK3 := K3.lt
  go_wp2_with fail
  clear GK0 ZK0 GK1 ZK1 GK2 ZK2 GK3 ZK3
  refine calls_named ?_
  intro V38 hV
  have zV38 : W37.heap.size + 0 ≤ V38.heap.size := by rw [hV]; (first | exact Nat.le_refl _ | simp)
  have B1 : Below w.heap.size w V38 := by rw [hV]; first | exact B | exact B.alloc B.size _ | exact (B.alloc B.size _).alloc (by have := B.size; simp; omega) _
  have K0x : Blk V38 (w.heap.size) 24 #[.int .i64 n0_0, .slice av0_1 l0_1.length cv0_1] := by rw [hV]; first | exact K0 | exact K0.alloc _ | exact (K0.alloc _).alloc _
  have K1x : Blk V38 (W8.heap.size) 30 #[.int .i64 (bsK n0_0 l0_1 l1_0), .int .i64 (bsA n0_0 l0_1 l1_0), .slice pw0_0 iw0_0 qw0_0, .int .i64 (bsC n0_0 l0_1 l1_0), .slice pw0_1 iw0_1 qw0_1, .int .i64 (0), .slice pw0_2 iw0_2 qw0_2, .int .i64 (bsP n0_0 l0_1 l1_0), .int .i64 (0), .slice pw0_3 iw0_3 qw0_3] := by rw [hV]; first | exact K1 | exact K1.alloc _ | exact (K1.alloc _).alloc _
  have K2x : Blk V38 (W10.heap.size) 26 #[.int .i64 n0_0, .slice px00 ix00 qx00] := by rw [hV]; first | exact K2 | exact K2.alloc _ | exact (K2.alloc _).alloc _
  have K3x : Blk V38 (W14.heap.size) 30 #[.int .i64 (bsK n0_0 l0_1 l1_0), .int .i64 (bsA n0_0 l0_1 l1_0), .slice pg0_0 ig0_0 qg0_0, .int .i64 (bsC n0_0 l0_1 l1_0), .slice pg0_1 ig0_1 qg0_1, .int .i64 (0), .slice pg0_2 ig0_2 qg0_2, .int .i64 (bsP n0_0 l0_1 l1_0), .int .i64 (0), .slice pg0_3 ig0_3 qg0_3] := by rw [hV]; first | exact K3 | exact K3.alloc _ | exact (K3.alloc _).alloc _
  have ow0_0x : OwnW 3 V7.heap.size V38 (.slice pw0_0 iw0_0 qw0_0) (bsL n0_0 l0_1 l1_0) := by rw [hV]; first | exact ow0_0 | exact ow0_0.alloc _ | exact (ow0_0.alloc _).alloc _
  have ow0_1x : OwnW 3 V7.heap.size V38 (.slice pw0_1 iw0_1 qw0_1) (bsM n0_0 l0_1 l1_0) := by rw [hV]; first | exact ow0_1 | exact ow0_1.alloc _ | exact (ow0_1.alloc _).alloc _
  have ow0_2x : OwnW 3 V7.heap.size V38 (.slice pw0_2 iw0_2 qw0_2) (([] : List Int)) := by rw [hV]; first | exact ow0_2 | exact ow0_2.alloc _ | exact (ow0_2.alloc _).alloc _
  have ow0_3x : OwnW 3 V7.heap.size V38 (.slice pw0_3 iw0_3 qw0_3) (bsE n0_0 l0_1 l1_0) := by rw [hV]; first | exact ow0_3 | exact ow0_3.alloc _ | exact (ow0_3.alloc _).alloc _
  have ox00x : OwnW 3 V9.heap.size V38 (.slice px00 ix00 qx00) (ramp (1) (l0_1).length) := by rw [hV]; first | exact ox00 | exact ox00.alloc _ | exact (ox00.alloc _).alloc _
  have ox10x : OwnW 3 V11.heap.size V38 (.slice px10 ix10 qx10) (ramp (1 + ((l0_1).length : Int)) (l1_0).length) := by rw [hV]; first | exact ox10 | exact ox10.alloc _ | exact (ox10.alloc _).alloc _
  have og0_0x : OwnW 3 V13.heap.size V38 (.slice pg0_0 ig0_0 qg0_0) (ramp (1) (bsL n0_0 l0_1 l1_0).length) := by rw [hV]; first | exact og0_0 | exact og0_0.alloc _ | exact (og0_0.alloc _).alloc _
  have og0_1x : OwnW 3 V13.heap.size V38 (.slice pg0_1 ig0_1 qg0_1) (ramp (1 + ((bsL n0_0 l0_1 l1_0).length : Int)) (bsM n0_0 l0_1 l1_0).length) := by rw [hV]; first | exact og0_1 | exact og0_1.alloc _ | exact (og0_1.alloc _).alloc _
  have og0_2x : OwnW 3 V13.heap.size V38 (.slice pg0_2 ig0_2 qg0_2) (ramp (1 + ((bsL n0_0 l0_1 l1_0).length : Int) + ((bsM n0_0 l0_1 l1_0).length : Int)) (([] : List Int)).length) := by rw [hV]; first | exact og0_2 | exact og0_2.alloc _ | exact (og0_2.alloc _).alloc _
  have og0_3x : OwnW 3 V13.heap.size V38 (.slice pg0_3 ig0_3 qg0_3) (ramp (1 + ((bsL n0_0 l0_1 l1_0).length : Int) + ((bsM n0_0 l0_1 l1_0).length : Int) + ((([] : List Int)).length : Int)) (bsE n0_0 l0_1 l1_0).length) := by rw [hV]; first | exact og0_3 | exact og0_3.alloc _ | exact (og0_3.alloc _).alloc _
  have ohx00x : OwnW 3 V34.heap.size V38 (.slice phx00 ihx00 qhx00) (l0_1) := by rw [hV]; first | exact ohx00 | exact ohx00.alloc _ | exact (ohx00.alloc _).alloc _
  have ohx10x : OwnW 3 V36.heap.size V38 (.slice phx10 ihx10 qhx10) (l1_0) := by rw [hV]; first | exact ohx10 | exact ohx10.alloc _ | exact (ohx10.alloc _).alloc _
  clear B K0 K1 K2 K3 ow0_0 ow0_1 ow0_2 ow0_3 ox00 ox10 og0_0 og0_1 og0_2 og0_3 ohx00 ohx10
  have B := B1
  have K0 := K0x
  have K1 := K1x
  have K2 := K2x
  have K3 := K3x
  have ow0_0 := ow0_0x
  have ow0_1 := ow0_1x
  have ow0_2 := ow0_2x
  have ow0_3 := ow0_3x
  have ox00 := ox00x
  have ox10 := ox10x
  have og0_0 := og0_0x
  have og0_1 := og0_1x
  have og0_2 := og0_2x
  have og0_3 := og0_3x
  have ohx00 := ohx00x
  have ohx10 := ohx10x
  clear B1 K0x K1x K2x K3x ow0_0x ow0_1x ow0_2x ow0_3x ox00x ox10x og0_0x og0_1x og0_2x og0_3x ohx00x ohx10x
  clear hV
  refine (claimBaseI_c _ n0_0 _ l0_1 ohx00.ints hlv0_1 _ l1_0 ohx10.ints hlv1_0).mono ?_
  rintro e W39 ⟨ph0_0, ih0_0, qh0_0, ph0_1, ih0_1, qh0_1, ph0_2, ih0_2, qh0_2, ph0_3, ih0_3, qh0_3, rfl, oh0_0x, oh0_1x, oh0_2x, oh0_3x, ap_h, hb⟩
  have zW39 : V38.heap.size ≤ W39.heap.size := hb.size
  have B1 := B.after hb B.size
  have K0x := K0.keep hb
  have K1x := K1.keep hb
  have K2x := K2.keep hb
  have K3x := K3.keep hb
  have ow0_0x := ow0_0.keep hb
  have ow0_1x := ow0_1.keep hb
  have ow0_2x := ow0_2.keep hb
  have ow0_3x := ow0_3.keep hb
  have ox00x := ox00.keep hb
  have ox10x := ox10.keep hb
  have og0_0x := og0_0.keep hb
  have og0_1x := og0_1.keep hb
  have og0_2x := og0_2.keep hb
  have og0_3x := og0_3.keep hb
  clear B K0 K1 K2 K3 ow0_0 ow0_1 ow0_2 ow0_3 ox00 ox10 og0_0 og0_1 og0_2 og0_3
  have B := B1
  have K0 := K0x
  have K1 := K1x
  have K2 := K2x
  have K3 := K3x
  have ow0_0 := ow0_0x
  have ow0_1 := ow0_1x
  have ow0_2 := ow0_2x
  have ow0_3 := ow0_3x
  have ox00 := ox00x
  have ox10 := ox10x
  have og0_0 := og0_0x
  have og0_1 := og0_1x
  have og0_2 := og0_2x
  have og0_3 := og0_3x
  clear B1 K0x K1x K2x K3x ow0_0x ow0_1x ow0_2x ow0_3x ox00x ox10x og0_0x og0_1x og0_2x og0_3x
  clear hb
  clear ohx00 ohx10
  have oh0_0 := oh0_0x.toW
  clear oh0_0x
  have r_h0_0 := oh0_0.lt
  have oh0_1 := oh0_1x.toW
  clear oh0_1x
  have r_h0_1 := oh0_1.lt
  have oh0_2 := oh0_2x.toW
  clear oh0_2x
  have r_h0_2 := oh0_2.lt
  have oh0_3 := oh0_3x.toW
  clear oh0_3x
  have r_h0_3 := oh0_3.lt
  have GK0 := K0.cell
  have ZK0 := K0.lt
  have GK1 := K1.cell
  have ZK1 := K1.lt
  have GK2 := K2.cell
  have ZK2 := K2.lt
  have GK3 := K3.cell
  have ZK3 := K3.lt
  go_wp2_with fail
  clear GK0 ZK0 GK1 ZK1 GK2 ZK2 GK3 ZK3
  refine calls_named ?_
  intro V40 hV
  have zV40 : W39.heap.size + 1 ≤ V40.heap.size := by rw [hV]; (first | exact Nat.le_refl _ | simp)
  have B1 : Below w.heap.size w V40 := by rw [hV]; first | exact B | exact B.alloc B.size _ | exact (B.alloc B.size _).alloc (by have := B.size; simp; omega) _
  have K0x : Blk V40 (w.heap.size) 24 #[.int .i64 n0_0, .slice av0_1 l0_1.length cv0_1] := by rw [hV]; first | exact K0 | exact K0.alloc _ | exact (K0.alloc _).alloc _
  have K1x : Blk V40 (W8.heap.size) 30 #[.int .i64 (bsK n0_0 l0_1 l1_0), .int .i64 (bsA n0_0 l0_1 l1_0), .slice pw0_0 iw0_0 qw0_0, .int .i64 (bsC n0_0 l0_1 l1_0), .slice pw0_1 iw0_1 qw0_1, .int .i64 (0), .slice pw0_2 iw0_2 qw0_2, .int .i64 (bsP n0_0 l0_1 l1_0), .int .i64 (0), .slice pw0_3 iw0_3 qw0_3] := by rw [hV]; first | exact K1 | exact K1.alloc _ | exact (K1.alloc _).alloc _
  have K2x : Blk V40 (W10.heap.size) 26 #[.int .i64 n0_0, .slice px00 ix00 qx00] := by rw [hV]; first | exact K2 | exact K2.alloc _ | exact (K2.alloc _).alloc _
  have K3x : Blk V40 (W14.heap.size) 30 #[.int .i64 (bsK n0_0 l0_1 l1_0), .int .i64 (bsA n0_0 l0_1 l1_0), .slice pg0_0 ig0_0 qg0_0, .int .i64 (bsC n0_0 l0_1 l1_0), .slice pg0_1 ig0_1 qg0_1, .int .i64 (0), .slice pg0_2 ig0_2 qg0_2, .int .i64 (bsP n0_0 l0_1 l1_0), .int .i64 (0), .slice pg0_3 ig0_3 qg0_3] := by rw [hV]; first | exact K3 | exact K3.alloc _ | exact (K3.alloc _).alloc _
  have ow0_0x : OwnW 3 V7.heap.size V40 (.slice pw0_0 iw0_0 qw0_0) (bsL n0_0 l0_1 l1_0) := by rw [hV]; first | exact ow0_0 | exact ow0_0.alloc _ | exact (ow0_0.alloc _).alloc _
  have ow0_1x : OwnW 3 V7.heap.size V40 (.slice pw0_1 iw0_1 qw0_1) (bsM n0_0 l0_1 l1_0) := by rw [hV]; first | exact ow0_1 | exact ow0_1.alloc _ | exact (ow0_1.alloc _).alloc _
  have ow0_2x : OwnW 3 V7.heap.size V40 (.slice pw0_2 iw0_2 qw0_2) (([] : List Int)) := by rw [hV]; first | exact ow0_2 | exact ow0_2.alloc _ | exact (ow0_2.alloc _).alloc _
  have ow0_3x : OwnW 3 V7.heap.size V40 (.slice pw0_3 iw0_3 qw0_3) (bsE n0_0 l0_1 l1_0) := by rw [hV]; first | exact ow0_3 | exact ow0_3.alloc _ | exact (ow0_3.alloc _).alloc _
  have ox00x : OwnW 3 V9.heap.size V40 (.slice px00 ix00 qx00) (ramp (1) (l0_1).length) := by rw [hV]; first | exact ox00 | exact ox00.alloc _ | exact (ox00.alloc _).alloc _
  have ox10x : OwnW 3 V11.heap.size V40 (.slice px10 ix10 qx10) (ramp (1 + ((l0_1).length : Int)) (l1_0).length) := by rw [hV]; first | exact ox10 | exact ox10.alloc _ | exact (ox10.alloc _).alloc _
  have og0_0x : OwnW 3 V13.heap.size V40 (.slice pg0_0 ig0_0 qg0_0) (ramp (1) (bsL n0_0 l0_1 l1_0).length) := by rw [hV]; first | exact og0_0 | exact og0_0.alloc _ | exact (og0_0.alloc _).alloc _
  have og0_1x : OwnW 3 V13.heap.size V40 (.slice pg0_1 ig0_1 qg0_1) (ramp (1 + ((bsL n0_0 l0_1 l1_0).length : Int)) (bsM n0_0 l0_1 l1_0).length) := by rw [hV]; first | exact og0_1 | exact og0_1.alloc _ | exact (og0_1.alloc _).alloc _
  have og0_2x : OwnW 3 V13.heap.size V40 (.slice pg0_2 ig0_2 qg0_2) (ramp (1 + ((bsL n0_0 l0_1 l1_0).length : Int) + ((bsM n0_0 l0_1 l1_0).length : Int)) (([] : List Int)).length) := by rw [hV]; first | exact og0_2 | exact og0_2.alloc _ | exact (og0_2.alloc _).alloc _
  have og0_3x : OwnW 3 V13.heap.size V40 (.slice pg0_3 ig0_3 qg0_3) (ramp (1 + ((bsL n0_0 l0_1 l1_0).length : Int) + ((bsM n0_0 l0_1 l1_0).length : Int) + ((([] : List Int)).length : Int)) (bsE n0_0 l0_1 l1_0).length) := by rw [hV]; first | exact og0_3 | exact og0_3.alloc _ | exact (og0_3.alloc _).alloc _
  have oh0_0x : OwnW 3 V38.heap.size V40 (.slice ph0_0 ih0_0 qh0_0) (bsL n0_0 l0_1 l1_0) := by rw [hV]; first | exact oh0_0 | exact oh0_0.alloc _ | exact (oh0_0.alloc _).alloc _
  have oh0_1x : OwnW 3 V38.heap.size V40 (.slice ph0_1 ih0_1 qh0_1) (bsM n0_0 l0_1 l1_0) := by rw [hV]; first | exact oh0_1 | exact oh0_1.alloc _ | exact (oh0_1.alloc _).alloc _
  have oh0_2x : OwnW 3 V38.heap.size V40 (.slice ph0_2 ih0_2 qh0_2) (([] : List Int)) := by rw [hV]; first | exact oh0_2 | exact oh0_2.alloc _ | exact (oh0_2.alloc _).alloc _
  have oh0_3x : OwnW 3 V38.heap.size V40 (.slice ph0_3 ih0_3 qh0_3) (bsE n0_0 l0_1 l1_0) := by rw [hV]; first | exact oh0_3 | exact oh0_3.alloc _ | exact (oh0_3.alloc _).alloc _
  have K4x : Blk V40 (W39.heap.size) 30 #[.int .i64 (bsK n0_0 l0_1 l1_0), .int .i64 (bsA n0_0 l0_1 l1_0), .slice ph0_0 ih0_0 qh0_0, .int .i64 (bsC n0_0 l0_1 l1_0), .slice ph0_1 ih0_1 qh0_1, .int .i64 (0), .slice ph0_2 ih0_2 qh0_2, .int .i64 (bsP n0_0 l0_1 l1_0), .int .i64 (0), .slice ph0_3 ih0_3 qh0_3] := by rw [hV]; exact Blk.new _ _ _
  clear B K0 K1 K2 K3 ow0_0 ow0_1 ow0_2 ow0_3 ox00 ox10 og0_0 og0_1 og0_2 og0_3 oh0_0 oh0_1 oh0_2 oh0_3
  have B := B1
  have K0 := K0x
  have K1 := K1x
  have K2 := K2x
  have K3 := K3x
  have K4 := K4x
  have ow0_0 := ow0_0x
  have ow0_1 := ow0_1x
  have ow0_2 := ow0_2x
  have ow0_3 := ow0_3x
  have ox00 := ox00x
  have ox10 := ox10x
  have og0_0 := og0_0x
  have og0_1 := og0_1x
  have og0_2 := og0_2x
  have og0_3 := og0_3x
  have oh0_0 := oh0_0x
  have oh0_1 := oh0_1x
  have oh0_2 := oh0_2x
  have oh0_3 := oh0_3x
  clear B1 K0x K1x K2x K3x K4x ow0_0x ow0_1x ow0_2x ow0_3x ox00x ox10x og0_0x og0_1x og0_2x og0_3x oh0_0x oh0_1x oh0_2x oh0_3x
  clear hV
  refine (eqClaim_c _ _ _ _ _ oh0_0.ints _ _ _ oh0_1.ints _ _ _ oh0_2.ints _ _ _ _ oh0_3.ints _ ow0_0.ints _ ow0_1.ints _ ow0_2.ints _ ow0_3.ints).mono ?_
  rintro e W41 ⟨rfl, hb⟩
  have zW41 : V40.heap.size ≤ W41.heap.size := hb.size
  have B1 := B.after hb B.size
  have K0x := K0.keep hb
  have K1x := K1.keep hb
  have K2x := K2.keep hb
  have K3x := K3.keep hb
  have K4x := K4.keep hb
  have ow0_0x := ow0_0.keep hb
  have ow0_1x := ow0_1.keep hb
  have ow0_2x := ow0_2.keep hb
  have ow0_3x := ow0_3.keep hb
  have ox00x := ox00.keep hb
  have ox10x := ox10.keep hb
  have og0_0x := og0_0.keep hb
  have og0_1x := og0_1.keep hb
  have og0_2x := og0_2.keep hb
  have og0_3x := og0_3.keep hb
  have oh0_0x := oh0_0.keep hb
  have oh0_1x := oh0_1.keep hb
  have oh0_2x := oh0_2.keep hb
  have oh0_3x := oh0_3.keep hb
  clear B K0 K1 K2 K3 K4 ow0_0 ow0_1 ow0_2 ow0_3 ox00 ox10 og0_0 og0_1 og0_2 og0_3 oh0_0 oh0_1 oh0_2 oh0_3
  have B := B1
  have K0 := K0x
  have K1 := K1x
  have K2 := K2x
  have K3 := K3x
  have K4 := K4x
  have ow0_0 := ow0_0x
  have ow0_1 := ow0_1x
  have ow0_2 := ow0_2x
  have ow0_3 := ow0_3x
  have ox00 := ox00x
  have ox10 := ox10x
  have og0_0 := og0_0x
  have og0_1 := og0_1x
  have og0_2 := og0_2x
  have og0_3 := og0_3x
  have oh0_0 := oh0_0x
  have oh0_1 := oh0_1x
  have oh0_2 := oh0_2x
  have oh0_3 := oh0_3x
  clear B1 K0x K1x K2x K3x K4x ow0_0x ow0_1x ow0_2x ow0_3x ox00x ox10x og0_0x og0_1x og0_2x og0_3x oh0_0x oh0_1x oh0_2x oh0_3x
  clear hb
  have GK0 := K0.cell
  have ZK0 := K0.lt
  have GK1 := K1.cell
  have ZK1 := K1.lt
  have GK2 := K2.cell
  have ZK2 := K2.lt
  have GK3 := K3.cell
  have ZK3 := K3.lt
  have GK4 := K4.cell
  have ZK4 := K4.lt
  go_wp2_with fail
  clear GK0 ZK0 GK1 ZK1 GK2 ZK2 GK3 ZK3 GK4 ZK4
  refine calls_named ?_
  intro V42 hV
  have zV42 : W41.heap.size + 0 ≤ V42.heap.size := by rw [hV]; (first | exact Nat.le_refl _ | simp)
  have B1 : Below w.heap.size w V42 := by rw [hV]; first | exact B | exact B.alloc B.size _ | exact (B.alloc B.size _).alloc (by have := B.size; simp; omega) _
  have K0x : Blk V42 (w.heap.size) 24 #[.int .i64 n0_0, .slice av0_1 l0_1.length cv0_1] := by rw [hV]; first | exact K0 | exact K0.alloc _ | exact (K0.alloc _).alloc _
  have K1x : Blk V42 (W8.heap.size) 30 #[.int .i64 (bsK n0_0 l0_1 l1_0), .int .i64 (bsA n0_0 l0_1 l1_0), .slice pw0_0 iw0_0 qw0_0, .int .i64 (bsC n0_0 l0_1 l1_0), .slice pw0_1 iw0_1 qw0_1, .int .i64 (0), .slice pw0_2 iw0_2 qw0_2, .int .i64 (bsP n0_0 l0_1 l1_0), .int .i64 (0), .slice pw0_3 iw0_3 qw0_3] := by rw [hV]; first | exact K1 | exact K1.alloc _ | exact (K1.alloc _).alloc _
  have K2x : Blk V42 (W10.heap.size) 26 #[.int .i64 n0_0, .slice px00 ix00 qx00] := by rw [hV]; first | exact K2 | exact K2.alloc _ | exact (K2.alloc _).alloc _
  have K3x : Blk V42 (W14.heap.size) 30 #[.int .i64 (bsK n0_0 l0_1 l1_0), .int .i64 (bsA n0_0 l0_1 l1_0), .slice pg0_0 ig0_0 qg0_0, .int .i64 (bsC n0_0 l0_1 l1_0), .slice pg0_1 ig0_1 qg0_1, .int .i64 (0), .slice pg0_2 ig0_2 qg0_2, .int .i64 (bsP n0_0 l0_1 l1_0), .int .i64 (0), .slice pg0_3 ig0_3 qg0_3] := by rw [hV]; first | exact K3 | exact K3.alloc _ | exact (K3.alloc _).alloc _
  have K4x : Blk V42 (W39.heap.size) 30 #[.int .i64 (bsK n0_0 l0_1 l1_0), .int .i64 (bsA n0_0 l0_1 l1_0), .slice ph0_0 ih0_0 qh0_0, .int .i64 (bsC n0_0 l0_1 l1_0), .slice ph0_1 ih0_1 qh0_1, .int .i64 (0), .slice ph0_2 ih0_2 qh0_2, .int .i64 (bsP n0_0 l0_1 l1_0), .int .i64 (0), .slice ph0_3 ih0_3 qh0_3] := by rw [hV]; first | exact K4 | exact K4.alloc _ | exact (K4.alloc _).alloc _
  have ow0_0x : OwnW 3 V7.heap.size V42 (.slice pw0_0 iw0_0 qw0_0) (bsL n0_0 l0_1 l1_0) := by rw [hV]; first | exact ow0_0 | exact ow0_0.alloc _ | exact (ow0_0.alloc _).alloc _
  have ow0_1x : OwnW 3 V7.heap.size V42 (.slice pw0_1 iw0_1 qw0_1) (bsM n0_0 l0_1 l1_0) := by rw [hV]; first | exact ow0_1 | exact ow0_1.alloc _ | exact (ow0_1.alloc _).alloc _
  have ow0_2x : OwnW 3 V7.heap.size V42 (.slice pw0_2 iw0_2 qw0_2) (([] : List Int)) := by rw [hV]; first | exact ow0_2 | exact ow0_2.alloc _ | exact (ow0_2.alloc _).alloc _
  have ow0_3x : OwnW 3 V7.heap.size V42 (.slice pw0_3 iw0_3 qw0_3) (bsE n0_0 l0_1 l1_0) := by rw [hV]; first | exact ow0_3 | exact ow0_3.alloc _ | exact (ow0_3.alloc _).alloc _
  have ox00x : OwnW 3 V9.heap.size V42 (.slice px00 ix00 qx00) (ramp (1) (l0_1).length) := by rw [hV]; first | exact ox00 | exact ox00.alloc _ | exact (ox00.alloc _).alloc _
  have ox10x : OwnW 3 V11.heap.size V42 (.slice px10 ix10 qx10) (ramp (1 + ((l0_1).length : Int)) (l1_0).length) := by rw [hV]; first | exact ox10 | exact ox10.alloc _ | exact (ox10.alloc _).alloc _
  have og0_0x : OwnW 3 V13.heap.size V42 (.slice pg0_0 ig0_0 qg0_0) (ramp (1) (bsL n0_0 l0_1 l1_0).length) := by rw [hV]; first | exact og0_0 | exact og0_0.alloc _ | exact (og0_0.alloc _).alloc _
  have og0_1x : OwnW 3 V13.heap.size V42 (.slice pg0_1 ig0_1 qg0_1) (ramp (1 + ((bsL n0_0 l0_1 l1_0).length : Int)) (bsM n0_0 l0_1 l1_0).length) := by rw [hV]; first | exact og0_1 | exact og0_1.alloc _ | exact (og0_1.alloc _).alloc _
  have og0_2x : OwnW 3 V13.heap.size V42 (.slice pg0_2 ig0_2 qg0_2) (ramp (1 + ((bsL n0_0 l0_1 l1_0).length : Int) + ((bsM n0_0 l0_1 l1_0).length : Int)) (([] : List Int)).length) := by rw [hV]; first | exact og0_2 | exact og0_2.alloc _ | exact (og0_2.alloc _).alloc _
  have og0_3x : OwnW 3 V13.heap.size V42 (.slice pg0_3 ig0_3 qg0_3) (ramp (1 + ((bsL n0_0 l0_1 l1_0).length : Int) + ((bsM n0_0 l0_1 l1_0).length : Int) + ((([] : List Int)).length : Int)) (bsE n0_0 l0_1 l1_0).length) := by rw [hV]; first | exact og0_3 | exact og0_3.alloc _ | exact (og0_3.alloc _).alloc _
  have oh0_0x : OwnW 3 V38.heap.size V42 (.slice ph0_0 ih0_0 qh0_0) (bsL n0_0 l0_1 l1_0) := by rw [hV]; first | exact oh0_0 | exact oh0_0.alloc _ | exact (oh0_0.alloc _).alloc _
  have oh0_1x : OwnW 3 V38.heap.size V42 (.slice ph0_1 ih0_1 qh0_1) (bsM n0_0 l0_1 l1_0) := by rw [hV]; first | exact oh0_1 | exact oh0_1.alloc _ | exact (oh0_1.alloc _).alloc _
  have oh0_2x : OwnW 3 V38.heap.size V42 (.slice ph0_2 ih0_2 qh0_2) (([] : List Int)) := by rw [hV]; first | exact oh0_2 | exact oh0_2.alloc _ | exact (oh0_2.alloc _).alloc _
  have oh0_3x : OwnW 3 V38.heap.size V42 (.slice ph0_3 ih0_3 qh0_3) (bsE n0_0 l0_1 l1_0) := by rw [hV]; first | exact oh0_3 | exact oh0_3.alloc _ | exact (oh0_3.alloc _).alloc _
  clear B K0 K1 K2 K3 K4 ow0_0 ow0_1 ow0_2 ow0_3 ox00 ox10 og0_0 og0_1 og0_2 og0_3 oh0_0 oh0_1 oh0_2 oh0_3
  have B := B1
  have K0 := K0x
  have K1 := K1x
  have K2 := K2x
  have K3 := K3x
  have K4 := K4x
  have ow0_0 := ow0_0x
  have ow0_1 := ow0_1x
  have ow0_2 := ow0_2x
  have ow0_3 := ow0_3x
  have ox00 := ox00x
  have ox10 := ox10x
  have og0_0 := og0_0x
  have og0_1 := og0_1x
  have og0_2 := og0_2x
  have og0_3 := og0_3x
  have oh0_0 := oh0_0x
  have oh0_1 := oh0_1x
  have oh0_2 := oh0_2x
  have oh0_3 := oh0_3x
  clear B1 K0x K1x K2x K3x K4x ow0_0x ow0_1x ow0_2x ow0_3x ox00x ox10x og0_0x og0_1x og0_2x og0_3x oh0_0x oh0_1x oh0_2x oh0_3x
  clear hV
  refine (heldClaim_c _ _ _ _ _ _ _ _ _ _ _ _ _ _ _ _ og0_0.ints og0_1.ints og0_2.ints og0_3.ints (by omega) (by omega) (by omega) (by omega) (by omega) (by omega)).mono ?_
  rintro e W43 ⟨rfl, hb⟩
  have zW43 : V42.heap.size ≤ W43.heap.size := hb.size
  have B1 := B.after hb B.size
  have K0x := K0.keep hb
  have K1x := K1.keep hb
  have K2x := K2.keep hb
  have K3x := K3.keep hb
  have K4x := K4.keep hb
  have ow0_0x := ow0_0.keep hb
  have ow0_1x := ow0_1.keep hb
  have ow0_2x := ow0_2.keep hb
  have ow0_3x := ow0_3.keep hb
  have ox00x := ox00.keep hb
  have ox10x := ox10.keep hb
  have og0_0x := og0_0.keep hb
  have og0_1x := og0_1.keep hb
  have og0_2x := og0_2.keep hb
  have og0_3x := og0_3.keep hb
  have oh0_0x := oh0_0.keep hb
  have oh0_1x := oh0_1.keep hb
  have oh0_2x := oh0_2.keep hb
  have oh0_3x := oh0_3.keep hb
  clear B K0 K1 K2 K3 K4 ow0_0 ow0_1 ow0_2 ow0_3 ox00 ox10 og0_0 og0_1 og0_2 og0_3 oh0_0 oh0_1 oh0_2 oh0_3
  have B := B1
  have K0 := K0x
  have K1 := K1x
  have K2 := K2x
  have K3 := K3x
  have K4 := K4x
  have ow0_0 := ow0_0x
  have ow0_1 := ow0_1x
  have ow0_2 := ow0_2x
  have ow0_3 := ow0_3x
  have ox00 := ox00x
  have ox10 := ox10x
  have og0_0 := og0_0x
  have og0_1 := og0_1x
  have og0_2 := og0_2x
  have og0_3 := og0_3x
  have oh0_0 := oh0_0x
  have oh0_1 := oh0_1x
  have oh0_2 := oh0_2x
  have oh0_3 := oh0_3x
  clear B1 K0x K1x K2x K3x K4x ow0_0x ow0_1x ow0_2x ow0_3x ox00x ox10x og0_0x og0_1x og0_2x og0_3x oh0_0x oh0_1x oh0_2x oh0_3x
  clear hb
  have GK0 := K0.cell
  have ZK0 := K0.lt
  have GK1 := K1.cell
  have ZK1 := K1.lt
  have GK2 := K2.cell
  have ZK2 := K2.lt
  have GK3 := K3.cell
  have ZK3 := K3.lt
  have GK4 := K4.cell
  have ZK4 := K4.lt
  go_wp2
  go_ret
  exact ⟨rfl, B⟩

theorem fnExactClaimOfBase_params : Try.f5.params = #[24, 22] := by kernel_rfl
set_option maxRecDepth 100000 in
theorem fnExactClaimOfBase_lifted (os : Os) (started : os.Started) (H : Type) (enc : TypeId × Value → H) :
    ReturnsInHanded {} Try.checked os 5 .any (Rows.fnExactClaimOfBaseSpec.pre6 enc Try.prog Try.f5 Rows.fnExactClaimOfBaseRow.domain false) (Rows.fnExactClaimOfBaseSpec.post enc Try.prog Try.f5 false true false false) := by
  refine law_lift os started H enc Try.func5 (by kernel_rfl) rfl (by kernel_rfl) (by kernel_rfl) ?_
    (ChangeSpec.witness6 (enc := enc) (C := Try.checked) false ⟨#[], #[.agg #[.int .i64 0, .slice none 0 0], .slice none 0 0], []⟩ 8 (by kernel_rfl) (by kernel_rfl) (by kernel_rfl) (by kernel_rfl)) ?_
  · intro ds hds
    rw [fnExactClaimOfBase_params] at hds
    match ds, hds with
    | [d0, d1], _ => rfl
  · intro W base args ds p hval hA
    rw [fnExactClaimOfBase_params] at hA hval
    obtain ⟨v0, vs0, d0, ds0, p0, q0, hargs, rfl, rfl, h0, r0⟩ := trodAll_cons hA
    obtain ⟨v1, vs1, d1, ds1, p1, q1, rfl, rfl, rfl, h1, r1⟩ := trodAll_cons r0
    obtain ⟨rfl, rfl, rfl⟩ := trodAll_nil r1
    obtain rfl : args = #[v0, v1] := by cases args; simp_all
    obtain ⟨n0, u0, l0, rfl, w0, x0⟩ := rd_fun (hval 0 24 v0 rfl rfl) h0
    obtain ⟨l1, w1⟩ := rd_ints (hval 1 22 v1 rfl rfl) h1
    exact claimbase W n0 u0 l0 w0 x0 _ l1 w1

theorem fnExactClaimOfBase_holds : Rows.FnExactClaimOfBaseSaid :=
  OpenClaim.holds_of_wide 5 Try.f5 rfl rfl rfl rfl rfl rfl rfl ⟨rfl, rfl, rfl, rfl, rfl⟩ rfl rfl rfl rfl rfl (by kernel_rfl) Try.func5 (by kernel_rfl)
    (of_decide_eq_true (by kernel_rfl)) (by unfold Func.isWrapper; first | (rw [if_pos (by decide +kernel)]; kernel_rfl) | (rw [if_neg (by decide +kernel)]; exact ⟨rfl, rfl⟩))
    (fun os started H enc _ => fnExactClaimOfBase_lifted os started H enc)
end Go.Proofs.Ytmlpcohailjccaa
