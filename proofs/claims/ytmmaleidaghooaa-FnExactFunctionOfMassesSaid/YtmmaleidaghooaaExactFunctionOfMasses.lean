/- The statement FnExactFunctionOfMasses: for every input the call returns true and each argument reads as it did. No condition. -/
import Derived.Test.YtmmaleidaghooaaRead
import Derived.Test.YtmmaleidaghooaaTo
import Derived.Test.YtmmaleidaghooaaEq
import Derived.Test.YtmmaleidaghooaaMark
import Derived.Deep.RegionHeld3
import Derived.Test.YtmmaleidaghooaaFomS
namespace Go.Proofs.Ytmmaleidaghooaa
open Go.ChangeShapes Go.WideShapes Go.ChangeAt Go.RowKit Go.G5
set_option maxHeartbeats 2000000 in
set_option maxRecDepth 100000 in
theorem fom_walk (w : World) (n0_0 : Int) (hn0_0 : InR n0_0) (v1_0 : Value) (l1_0 : List Int) (hv1_0 : Ints w v1_0 l1_0) :
    Calls Try.prog 5 #[.int .i64 n0_0, v1_0] w fun e w' => e = .returned (.bool true) ∧ Below w.heap.size w w' := by
  obtain ⟨av1_0, cv1_0, rfl⟩ := hv1_0.shape
  by_cases hlv1_0 : l1_0.length ≤ 1048576
  rotate_left
  · go_enter Try.func5, Try.ntmps5
    go_wp2
    go_ret
    exact ⟨rfl, (by repeat (first | exact Below.refl _ _ | (with_reducible refine Below.setCell ?_ (by first | omega | (simp; done) | (simp; omega)) _) | (with_reducible refine Below.alloc ?_ (by first | omega | (simp; done) | (simp; omega)) _) | (with_reducible refine Below.drewN' ?_ _) | (with_reducible refine Below.drew ?_) | (with_reducible assumption) | refine Below.trans ?_ (Below.mono (by assumption) (by first | omega | (simp; done) | (simp; omega)))))⟩
  go_enter Try.func5, Try.ntmps5
  go_wp2_with fail
  refine calls_named ?_
  intro V1 hV1
  have B1 : Below w.heap.size w V1 := by rw [hV1]; exact (by repeat (first | exact Below.refl _ _ | (with_reducible refine Below.setCell ?_ (by first | omega | (simp; done) | (simp; omega)) _) | (with_reducible refine Below.alloc ?_ (by first | omega | (simp; done) | (simp; omega)) _) | (with_reducible refine Below.drewN' ?_ _) | (with_reducible refine Below.drew ?_) | (with_reducible assumption) | refine Below.trans ?_ (Below.mono (by assumption) (by first | omega | (simp; done) | (simp; omega)))))
  have z1 : w.heap.size + 0 ≤ V1.heap.size := by rw [hV1]; (first | simp | omega)
  clear hV1
  refine (toIntS_any _ l1_0 _ (hv1_0.below B1 (Nat.le_refl _)) hlv1_0).mono ?_
  rintro e W2 ⟨pwx10, iwx10, qwx10, rfl, o2_wx10, hb2⟩
  have B2 : Below w.heap.size w W2 := B1.after hb2 B1.size
  have z2 : V1.heap.size ≤ W2.heap.size := hb2.size
  skip
  have r_wx10 := o2_wx10.lt
  go_wp2_with fail
  refine calls_named ?_
  intro V3 hV3
  have B3 : Below w.heap.size w V3 := by rw [hV3]; first | exact B2 | exact B2.alloc B2.size _ | exact (B2.alloc B2.size _).alloc (by have := B2.size; simp; omega) _
  have z3 : W2.heap.size + 0 ≤ V3.heap.size := by rw [hV3]; (first | exact Nat.le_refl _ | simp)
  have o3_wx10 : OwnI 3 V1.heap.size V3 (.slice pwx10 iwx10 qwx10) (l1_0) := by rw [hV3]; first | exact o2_wx10 | exact o2_wx10.alloc _ | exact (o2_wx10.alloc _).alloc _
  skip
  clear hV3
  refine (fomS_c _ n0_0 hn0_0 _ l1_0 o3_wx10.ints hlv1_0).mono ?_
  rintro e W4 ⟨pw0_0, iw0_0, qw0_0, rfl, o4_w0_0, hb4⟩
  have B4 : Below w.heap.size w W4 := B3.after hb4 B3.size
  have z4 : V3.heap.size ≤ W4.heap.size := hb4.size
  skip
  have r_w0_0 := o4_w0_0.lt
  go_wp2_with fail
  refine calls_named ?_
  intro V5 hV5
  have B5 : Below w.heap.size w V5 := by rw [hV5]; first | exact B4 | exact B4.alloc B4.size _ | exact (B4.alloc B4.size _).alloc (by have := B4.size; simp; omega) _
  have z5 : W4.heap.size + 1 ≤ V5.heap.size := by rw [hV5]; (first | exact Nat.le_refl _ | simp)
  have d5_0 : V5.cell? ⟨W4.heap.size, 0, none⟩ = some (.int .i64 (fomN n0_0 l1_0)) := by rw [hV5]; first | exact cell_new _ _ _ _ _ rfl | exact cell_old (cell_new _ _ _ _ _ rfl) _ | simp [go_sem]
  have d5_1 : V5.cell? ⟨W4.heap.size, 1, none⟩ = some (.slice pw0_0 iw0_0 qw0_0) := by rw [hV5]; first | exact cell_new _ _ _ _ _ rfl | exact cell_old (cell_new _ _ _ _ _ rfl) _ | simp [go_sem]
  have o5_w0_0 : OwnI 3 V3.heap.size V5 (.slice pw0_0 iw0_0 qw0_0) (fomL n0_0 l1_0) := by rw [hV5]; first | exact o4_w0_0 | exact o4_w0_0.alloc _ | exact (o4_w0_0.alloc _).alloc _
  skip
  clear hV5
  refine (toIntS_any _ l1_0 _ (hv1_0.below B5 (Nat.le_refl _)) hlv1_0).mono ?_
  rintro e W6 ⟨px10, ix10, qx10, rfl, o6_x10, hb6⟩
  have B6 : Below w.heap.size w W6 := B5.after hb6 B5.size
  have z6 : V5.heap.size ≤ W6.heap.size := hb6.size
  have d6_0 := keep hb6 d5_0
  have d6_1 := keep hb6 d5_1
  have o6_w0_0 := o5_w0_0.keep hb6
  clear d5_0 d5_1 o5_w0_0
  have b6_0 : W4.heap.size < W6.heap.size := lt_of_cell d6_0
  have r_x10 := o6_x10.lt
  go_wp2_with fail
  refine calls_named ?_
  intro V7 hV7
  have B7 : Below w.heap.size w V7 := by rw [hV7]; first | exact B6 | exact B6.alloc B6.size _ | exact (B6.alloc B6.size _).alloc (by have := B6.size; simp; omega) _
  have z7 : W6.heap.size + 0 ≤ V7.heap.size := by rw [hV7]; (first | exact Nat.le_refl _ | simp)
  have d7_0 : V7.cell? ⟨W4.heap.size, 0, none⟩ = some (.int .i64 (fomN n0_0 l1_0)) := by rw [hV7]; first | exact d6_0 | exact cell_old d6_0 _ | exact cell_old (cell_old d6_0 _) _
  have d7_1 : V7.cell? ⟨W4.heap.size, 1, none⟩ = some (.slice pw0_0 iw0_0 qw0_0) := by rw [hV7]; first | exact d6_1 | exact cell_old d6_1 _ | exact cell_old (cell_old d6_1 _) _
  have o7_w0_0 : OwnI 3 V3.heap.size V7 (.slice pw0_0 iw0_0 qw0_0) (fomL n0_0 l1_0) := by rw [hV7]; first | exact o6_w0_0 | exact o6_w0_0.alloc _ | exact (o6_w0_0.alloc _).alloc _
  have o7_x10 : OwnI 3 V5.heap.size V7 (.slice px10 ix10 qx10) (l1_0) := by rw [hV7]; first | exact o6_x10 | exact o6_x10.alloc _ | exact (o6_x10.alloc _).alloc _
  skip
  clear hV7
  refine (fomI_c _ n0_0 hn0_0 _ l1_0 o7_x10.ints hlv1_0).mono ?_
  rintro e W8 ⟨pg0_0, ig0_0, qg0_0, rfl, o8_g0_0, hb8⟩
  have B8 : Below w.heap.size w W8 := B7.after hb8 B7.size
  have z8 : V7.heap.size ≤ W8.heap.size := hb8.size
  have d8_0 := keep hb8 d7_0
  have d8_1 := keep hb8 d7_1
  have o8_w0_0 := o7_w0_0.keep hb8
  have o8_x10 := o7_x10.keep hb8
  clear d7_0 d7_1 o7_w0_0 o7_x10
  have b8_0 : W4.heap.size < W8.heap.size := lt_of_cell d8_0
  clear b6_0
  have r_g0_0 := o8_g0_0.lt
  go_wp2_with fail
  refine calls_named ?_
  intro V9 hV9
  have B9 : Below w.heap.size w V9 := by rw [hV9]; first | exact B8 | exact B8.alloc B8.size _ | exact (B8.alloc B8.size _).alloc (by have := B8.size; simp; omega) _
  have z9 : W8.heap.size + 1 ≤ V9.heap.size := by rw [hV9]; (first | exact Nat.le_refl _ | simp)
  have d9_0 : V9.cell? ⟨W4.heap.size, 0, none⟩ = some (.int .i64 (fomN n0_0 l1_0)) := by rw [hV9]; first | exact d8_0 | exact cell_old d8_0 _ | exact cell_old (cell_old d8_0 _) _
  have d9_1 : V9.cell? ⟨W4.heap.size, 1, none⟩ = some (.slice pw0_0 iw0_0 qw0_0) := by rw [hV9]; first | exact d8_1 | exact cell_old d8_1 _ | exact cell_old (cell_old d8_1 _) _
  have d9_2 : V9.cell? ⟨W8.heap.size, 0, none⟩ = some (.int .i64 (fomN n0_0 l1_0)) := by rw [hV9]; first | exact cell_new _ _ _ _ _ rfl | exact cell_old (cell_new _ _ _ _ _ rfl) _ | simp [go_sem]
  have d9_3 : V9.cell? ⟨W8.heap.size, 1, none⟩ = some (.slice pg0_0 ig0_0 qg0_0) := by rw [hV9]; first | exact cell_new _ _ _ _ _ rfl | exact cell_old (cell_new _ _ _ _ _ rfl) _ | simp [go_sem]
  have o9_w0_0 : OwnI 3 V3.heap.size V9 (.slice pw0_0 iw0_0 qw0_0) (fomL n0_0 l1_0) := by rw [hV9]; first | exact o8_w0_0 | exact o8_w0_0.alloc _ | exact (o8_w0_0.alloc _).alloc _
  have o9_x10 : OwnI 3 V5.heap.size V9 (.slice px10 ix10 qx10) (l1_0) := by rw [hV9]; first | exact o8_x10 | exact o8_x10.alloc _ | exact (o8_x10.alloc _).alloc _
  have o9_g0_0 : OwnI 3 V7.heap.size V9 (.slice pg0_0 ig0_0 qg0_0) (fomL n0_0 l1_0) := by rw [hV9]; first | exact o8_g0_0 | exact o8_g0_0.alloc _ | exact (o8_g0_0.alloc _).alloc _
  skip
  clear hV9
  refine (eqFunction_any _ _ _ _ _ _ _ o9_g0_0.ints o9_w0_0.ints).mono ?_
  rintro e W10 ⟨rfl, hb10⟩
  simp only [decide_true, Bool.and_self]
  have B10 : Below w.heap.size w W10 := B9.after hb10 B9.size
  have z10 : V9.heap.size ≤ W10.heap.size := hb10.size
  have d10_0 := keep hb10 d9_0
  have d10_1 := keep hb10 d9_1
  have d10_2 := keep hb10 d9_2
  have d10_3 := keep hb10 d9_3
  have o10_w0_0 := o9_w0_0.keep hb10
  have o10_x10 := o9_x10.keep hb10
  have o10_g0_0 := o9_g0_0.keep hb10
  clear d9_0 d9_1 d9_2 d9_3 o9_w0_0 o9_x10 o9_g0_0
  have b10_0 : W4.heap.size < W10.heap.size := lt_of_cell d10_0
  have b10_2 : W8.heap.size < W10.heap.size := lt_of_cell d10_2
  clear b8_0
  go_wp2_with fail
  refine calls_named ?_
  intro V12 hV12
  have B12 : Below w.heap.size w V12 := by rw [hV12]; first | exact B10 | exact B10.alloc B10.size _ | exact (B10.alloc B10.size _).alloc (by have := B10.size; simp; omega) _
  have z12 : W10.heap.size + 0 ≤ V12.heap.size := by rw [hV12]; (first | exact Nat.le_refl _ | simp)
  have d12_0 : V12.cell? ⟨W4.heap.size, 0, none⟩ = some (.int .i64 (fomN n0_0 l1_0)) := by rw [hV12]; first | exact d10_0 | exact cell_old d10_0 _ | exact cell_old (cell_old d10_0 _) _
  have d12_1 : V12.cell? ⟨W4.heap.size, 1, none⟩ = some (.slice pw0_0 iw0_0 qw0_0) := by rw [hV12]; first | exact d10_1 | exact cell_old d10_1 _ | exact cell_old (cell_old d10_1 _) _
  have d12_2 : V12.cell? ⟨W8.heap.size, 0, none⟩ = some (.int .i64 (fomN n0_0 l1_0)) := by rw [hV12]; first | exact d10_2 | exact cell_old d10_2 _ | exact cell_old (cell_old d10_2 _) _
  have d12_3 : V12.cell? ⟨W8.heap.size, 1, none⟩ = some (.slice pg0_0 ig0_0 qg0_0) := by rw [hV12]; first | exact d10_3 | exact cell_old d10_3 _ | exact cell_old (cell_old d10_3 _) _
  have o12_w0_0 : OwnI 3 V3.heap.size V12 (.slice pw0_0 iw0_0 qw0_0) (fomL n0_0 l1_0) := by rw [hV12]; first | exact o10_w0_0 | exact o10_w0_0.alloc _ | exact (o10_w0_0.alloc _).alloc _
  have o12_x10 : OwnI 3 V5.heap.size V12 (.slice px10 ix10 qx10) (l1_0) := by rw [hV12]; first | exact o10_x10 | exact o10_x10.alloc _ | exact (o10_x10.alloc _).alloc _
  have o12_g0_0 : OwnI 3 V7.heap.size V12 (.slice pg0_0 ig0_0 qg0_0) (fomL n0_0 l1_0) := by rw [hV12]; first | exact o10_g0_0 | exact o10_g0_0.alloc _ | exact (o10_g0_0.alloc _).alloc _
  skip
  clear hV12
  refine (toIntS_any _ l1_0 _ (hv1_0.below B12 (Nat.le_refl _)) hlv1_0).mono ?_
  rintro e W13 ⟨py1_110, iy1_110, qy1_110, rfl, o13_y1_110, hb13⟩
  have B13 : Below w.heap.size w W13 := B12.after hb13 B12.size
  have z13 : V12.heap.size ≤ W13.heap.size := hb13.size
  have d13_0 := keep hb13 d12_0
  have d13_1 := keep hb13 d12_1
  have d13_2 := keep hb13 d12_2
  have d13_3 := keep hb13 d12_3
  have o13_w0_0 := o12_w0_0.keep hb13
  have o13_x10 := o12_x10.keep hb13
  have o13_g0_0 := o12_g0_0.keep hb13
  clear d12_0 d12_1 d12_2 d12_3 o12_w0_0 o12_x10 o12_g0_0
  have b13_0 : W4.heap.size < W13.heap.size := lt_of_cell d13_0
  have b13_2 : W8.heap.size < W13.heap.size := lt_of_cell d13_2
  clear b10_0 b10_2
  have r_y1_110 := o13_y1_110.lt
  go_wp2_with fail
  refine calls_named ?_
  intro V14 hV14
  have B14 : Below w.heap.size w V14 := by rw [hV14]; first | exact B13 | exact B13.alloc B13.size _ | exact (B13.alloc B13.size _).alloc (by have := B13.size; simp; omega) _
  have z14 : W13.heap.size + 0 ≤ V14.heap.size := by rw [hV14]; (first | exact Nat.le_refl _ | simp)
  have d14_0 : V14.cell? ⟨W4.heap.size, 0, none⟩ = some (.int .i64 (fomN n0_0 l1_0)) := by rw [hV14]; first | exact d13_0 | exact cell_old d13_0 _ | exact cell_old (cell_old d13_0 _) _
  have d14_1 : V14.cell? ⟨W4.heap.size, 1, none⟩ = some (.slice pw0_0 iw0_0 qw0_0) := by rw [hV14]; first | exact d13_1 | exact cell_old d13_1 _ | exact cell_old (cell_old d13_1 _) _
  have d14_2 : V14.cell? ⟨W8.heap.size, 0, none⟩ = some (.int .i64 (fomN n0_0 l1_0)) := by rw [hV14]; first | exact d13_2 | exact cell_old d13_2 _ | exact cell_old (cell_old d13_2 _) _
  have d14_3 : V14.cell? ⟨W8.heap.size, 1, none⟩ = some (.slice pg0_0 ig0_0 qg0_0) := by rw [hV14]; first | exact d13_3 | exact cell_old d13_3 _ | exact cell_old (cell_old d13_3 _) _
  have o14_w0_0 : OwnI 3 V3.heap.size V14 (.slice pw0_0 iw0_0 qw0_0) (fomL n0_0 l1_0) := by rw [hV14]; first | exact o13_w0_0 | exact o13_w0_0.alloc _ | exact (o13_w0_0.alloc _).alloc _
  have o14_x10 : OwnI 3 V5.heap.size V14 (.slice px10 ix10 qx10) (l1_0) := by rw [hV14]; first | exact o13_x10 | exact o13_x10.alloc _ | exact (o13_x10.alloc _).alloc _
  have o14_g0_0 : OwnI 3 V7.heap.size V14 (.slice pg0_0 ig0_0 qg0_0) (fomL n0_0 l1_0) := by rw [hV14]; first | exact o13_g0_0 | exact o13_g0_0.alloc _ | exact (o13_g0_0.alloc _).alloc _
  have o14_y1_110 : OwnI 3 V12.heap.size V14 (.slice py1_110 iy1_110 qy1_110) (l1_0) := by rw [hV14]; first | exact o13_y1_110 | exact o13_y1_110.alloc _ | exact (o13_y1_110.alloc _).alloc _
  skip
  clear hV14
  refine (eqIntS_any _ _ _ _ _ o14_x10.ints o14_y1_110.ints).mono ?_
  rintro e W15 ⟨rfl, nq15, hq15⟩
  have hb15 : Below V14.heap.size V14 W15 := by rw [hq15]; exact (Below.refl _ _).drewN' _
  clear hq15
  simp only [decide_true]
  have B15 : Below w.heap.size w W15 := B14.after hb15 B14.size
  have z15 : V14.heap.size ≤ W15.heap.size := hb15.size
  have d15_0 := keep hb15 d14_0
  have d15_1 := keep hb15 d14_1
  have d15_2 := keep hb15 d14_2
  have d15_3 := keep hb15 d14_3
  have o15_w0_0 := o14_w0_0.keep hb15
  have o15_x10 := o14_x10.keep hb15
  have o15_g0_0 := o14_g0_0.keep hb15
  have o15_y1_110 := o14_y1_110.keep hb15
  clear d14_0 d14_1 d14_2 d14_3 o14_w0_0 o14_x10 o14_g0_0 o14_y1_110
  have b15_0 : W4.heap.size < W15.heap.size := lt_of_cell d15_0
  have b15_2 : W8.heap.size < W15.heap.size := lt_of_cell d15_2
  clear b13_0 b13_2
  have hlen0 := fomL_len n0_0 l1_0
  go_wp2_with fail
  refine calls_named ?_
  intro V16 hV16
  have B16 : Below w.heap.size w V16 := by rw [hV16]; first | exact B15 | exact B15.alloc B15.size _ | exact (B15.alloc B15.size _).alloc (by have := B15.size; simp; omega) _
  have z16 : W15.heap.size + 0 ≤ V16.heap.size := by rw [hV16]; (first | exact Nat.le_refl _ | simp)
  have d16_0 : V16.cell? ⟨W4.heap.size, 0, none⟩ = some (.int .i64 (fomN n0_0 l1_0)) := by rw [hV16]; first | exact d15_0 | exact cell_old d15_0 _ | exact cell_old (cell_old d15_0 _) _
  have d16_1 : V16.cell? ⟨W4.heap.size, 1, none⟩ = some (.slice pw0_0 iw0_0 qw0_0) := by rw [hV16]; first | exact d15_1 | exact cell_old d15_1 _ | exact cell_old (cell_old d15_1 _) _
  have d16_2 : V16.cell? ⟨W8.heap.size, 0, none⟩ = some (.int .i64 (fomN n0_0 l1_0)) := by rw [hV16]; first | exact d15_2 | exact cell_old d15_2 _ | exact cell_old (cell_old d15_2 _) _
  have d16_3 : V16.cell? ⟨W8.heap.size, 1, none⟩ = some (.slice pg0_0 ig0_0 qg0_0) := by rw [hV16]; first | exact d15_3 | exact cell_old d15_3 _ | exact cell_old (cell_old d15_3 _) _
  have o16_w0_0 : OwnI 3 V3.heap.size V16 (.slice pw0_0 iw0_0 qw0_0) (fomL n0_0 l1_0) := by rw [hV16]; first | exact o15_w0_0 | exact o15_w0_0.alloc _ | exact (o15_w0_0.alloc _).alloc _
  have o16_x10 : OwnI 3 V5.heap.size V16 (.slice px10 ix10 qx10) (l1_0) := by rw [hV16]; first | exact o15_x10 | exact o15_x10.alloc _ | exact (o15_x10.alloc _).alloc _
  have o16_g0_0 : OwnI 3 V7.heap.size V16 (.slice pg0_0 ig0_0 qg0_0) (fomL n0_0 l1_0) := by rw [hV16]; first | exact o15_g0_0 | exact o15_g0_0.alloc _ | exact (o15_g0_0.alloc _).alloc _
  skip
  clear hV16
  refine (markIntS_any _ _ _ _ o16_x10 _ (by omega) (by omega) (by omega)).mono ?_
  rintro e W17 ⟨rfl, o17_x10, hg17⟩
  have z17 : V16.heap.size ≤ W17.heap.size := hg17.size
  have B17 : Below w.heap.size w W17 := below_grow B16 hg17 B16.size (by intro kk hk; have := r_x10 kk hk; omega)
  have d17_0 := grown_keep hg17 d16_0 (by intro kk hk; have := r_x10 kk hk; simp only []; omega)
  have d17_1 := grown_keep hg17 d16_1 (by intro kk hk; have := r_x10 kk hk; simp only []; omega)
  have d17_2 := grown_keep hg17 d16_2 (by intro kk hk; have := r_x10 kk hk; simp only []; omega)
  have d17_3 := grown_keep hg17 d16_3 (by intro kk hk; have := r_x10 kk hk; simp only []; omega)
  have o17_w0_0 := o16_w0_0.grow hg17 (by intro kk hk hk2; have := r_x10 kk hk; have := r_w0_0 kk hk2; omega)
  have o17_g0_0 := o16_g0_0.grow hg17 (by intro kk hk hk2; have := r_x10 kk hk; have := r_g0_0 kk hk2; omega)
  clear d16_0 d16_1 d16_2 d16_3 o16_w0_0 o16_x10 o16_g0_0
  have b17_0 : W4.heap.size < W17.heap.size := lt_of_cell d17_0
  have b17_2 : W8.heap.size < W17.heap.size := lt_of_cell d17_2
  clear b15_0 b15_2
  go_wp2_with fail
  refine calls_named ?_
  intro V18 hV18
  have B18 : Below w.heap.size w V18 := by rw [hV18]; first | exact B17 | exact B17.alloc B17.size _ | exact (B17.alloc B17.size _).alloc (by have := B17.size; simp; omega) _
  have z18 : W17.heap.size + 0 ≤ V18.heap.size := by rw [hV18]; (first | exact Nat.le_refl _ | simp)
  have d18_0 : V18.cell? ⟨W4.heap.size, 0, none⟩ = some (.int .i64 (fomN n0_0 l1_0)) := by rw [hV18]; first | exact d17_0 | exact cell_old d17_0 _ | exact cell_old (cell_old d17_0 _) _
  have d18_1 : V18.cell? ⟨W4.heap.size, 1, none⟩ = some (.slice pw0_0 iw0_0 qw0_0) := by rw [hV18]; first | exact d17_1 | exact cell_old d17_1 _ | exact cell_old (cell_old d17_1 _) _
  have d18_2 : V18.cell? ⟨W8.heap.size, 0, none⟩ = some (.int .i64 (fomN n0_0 l1_0)) := by rw [hV18]; first | exact d17_2 | exact cell_old d17_2 _ | exact cell_old (cell_old d17_2 _) _
  have d18_3 : V18.cell? ⟨W8.heap.size, 1, none⟩ = some (.slice pg0_0 ig0_0 qg0_0) := by rw [hV18]; first | exact d17_3 | exact cell_old d17_3 _ | exact cell_old (cell_old d17_3 _) _
  have o18_w0_0 : OwnI 3 V3.heap.size V18 (.slice pw0_0 iw0_0 qw0_0) (fomL n0_0 l1_0) := by rw [hV18]; first | exact o17_w0_0 | exact o17_w0_0.alloc _ | exact (o17_w0_0.alloc _).alloc _
  have o18_x10 : OwnI 3 V5.heap.size V18 (.slice px10 ix10 qx10) (ramp (1) (l1_0).length) := by rw [hV18]; first | exact o17_x10 | exact o17_x10.alloc _ | exact (o17_x10.alloc _).alloc _
  have o18_g0_0 : OwnI 3 V7.heap.size V18 (.slice pg0_0 ig0_0 qg0_0) (fomL n0_0 l1_0) := by rw [hV18]; first | exact o17_g0_0 | exact o17_g0_0.alloc _ | exact (o17_g0_0.alloc _).alloc _
  skip
  clear hV18
  refine (eqFunction_any _ _ _ _ _ _ _ o18_g0_0.ints o18_w0_0.ints).mono ?_
  rintro e W19 ⟨rfl, hb19⟩
  simp only [decide_true, Bool.and_self]
  have B19 : Below w.heap.size w W19 := B18.after hb19 B18.size
  have z19 : V18.heap.size ≤ W19.heap.size := hb19.size
  have d19_0 := keep hb19 d18_0
  have d19_1 := keep hb19 d18_1
  have d19_2 := keep hb19 d18_2
  have d19_3 := keep hb19 d18_3
  have o19_w0_0 := o18_w0_0.keep hb19
  have o19_x10 := o18_x10.keep hb19
  have o19_g0_0 := o18_g0_0.keep hb19
  clear d18_0 d18_1 d18_2 d18_3 o18_w0_0 o18_x10 o18_g0_0
  have b19_0 : W4.heap.size < W19.heap.size := lt_of_cell d19_0
  have b19_2 : W8.heap.size < W19.heap.size := lt_of_cell d19_2
  clear b17_0 b17_2
  go_wp2_with fail
  refine calls_named ?_
  intro V20 hV20
  have B20 : Below w.heap.size w V20 := by rw [hV20]; first | exact B19 | exact B19.alloc B19.size _ | exact (B19.alloc B19.size _).alloc (by have := B19.size; simp; omega) _
  have z20 : W19.heap.size + 0 ≤ V20.heap.size := by rw [hV20]; (first | exact Nat.le_refl _ | simp)
  have d20_0 : V20.cell? ⟨W4.heap.size, 0, none⟩ = some (.int .i64 (fomN n0_0 l1_0)) := by rw [hV20]; first | exact d19_0 | exact cell_old d19_0 _ | exact cell_old (cell_old d19_0 _) _
  have d20_1 : V20.cell? ⟨W4.heap.size, 1, none⟩ = some (.slice pw0_0 iw0_0 qw0_0) := by rw [hV20]; first | exact d19_1 | exact cell_old d19_1 _ | exact cell_old (cell_old d19_1 _) _
  have d20_2 : V20.cell? ⟨W8.heap.size, 0, none⟩ = some (.int .i64 (fomN n0_0 l1_0)) := by rw [hV20]; first | exact d19_2 | exact cell_old d19_2 _ | exact cell_old (cell_old d19_2 _) _
  have d20_3 : V20.cell? ⟨W8.heap.size, 1, none⟩ = some (.slice pg0_0 ig0_0 qg0_0) := by rw [hV20]; first | exact d19_3 | exact cell_old d19_3 _ | exact cell_old (cell_old d19_3 _) _
  have o20_w0_0 : OwnI 3 V3.heap.size V20 (.slice pw0_0 iw0_0 qw0_0) (fomL n0_0 l1_0) := by rw [hV20]; first | exact o19_w0_0 | exact o19_w0_0.alloc _ | exact (o19_w0_0.alloc _).alloc _
  have o20_x10 : OwnI 3 V5.heap.size V20 (.slice px10 ix10 qx10) (ramp (1) (l1_0).length) := by rw [hV20]; first | exact o19_x10 | exact o19_x10.alloc _ | exact (o19_x10.alloc _).alloc _
  have o20_g0_0 : OwnI 3 V7.heap.size V20 (.slice pg0_0 ig0_0 qg0_0) (fomL n0_0 l1_0) := by rw [hV20]; first | exact o19_g0_0 | exact o19_g0_0.alloc _ | exact (o19_g0_0.alloc _).alloc _
  skip
  clear hV20
  refine (markFunction_any _ _ _ _ _ o20_g0_0 _ (by omega) (by omega) (by omega)).mono ?_
  rintro e W21 ⟨rfl, o21_g0_0, hg21⟩
  have z21 : V20.heap.size ≤ W21.heap.size := hg21.size
  have B21 : Below w.heap.size w W21 := below_grow B20 hg21 B20.size (by intro kk hk; have := r_g0_0 kk hk; omega)
  have d21_0 := grown_keep hg21 d20_0 (by intro kk hk; have := r_g0_0 kk hk; simp only []; omega)
  have d21_1 := grown_keep hg21 d20_1 (by intro kk hk; have := r_g0_0 kk hk; simp only []; omega)
  have d21_2 := grown_keep hg21 d20_2 (by intro kk hk; have := r_g0_0 kk hk; simp only []; omega)
  have d21_3 := grown_keep hg21 d20_3 (by intro kk hk; have := r_g0_0 kk hk; simp only []; omega)
  have o21_w0_0 := o20_w0_0.grow hg21 (by intro kk hk hk2; have := r_g0_0 kk hk; have := r_w0_0 kk hk2; omega)
  have o21_x10 := o20_x10.grow hg21 (by intro kk hk hk2; have := r_g0_0 kk hk; have := r_x10 kk hk2; omega)
  clear d20_0 d20_1 d20_2 d20_3 o20_w0_0 o20_x10 o20_g0_0
  have b21_0 : W4.heap.size < W21.heap.size := lt_of_cell d21_0
  have b21_2 : W8.heap.size < W21.heap.size := lt_of_cell d21_2
  clear b19_0 b19_2
  go_wp2_with fail
  refine calls_named ?_
  intro V22 hV22
  have B22 : Below w.heap.size w V22 := by rw [hV22]; first | exact B21 | exact B21.alloc B21.size _ | exact (B21.alloc B21.size _).alloc (by have := B21.size; simp; omega) _
  have z22 : W21.heap.size + 0 ≤ V22.heap.size := by rw [hV22]; (first | exact Nat.le_refl _ | simp)
  have d22_0 : V22.cell? ⟨W4.heap.size, 0, none⟩ = some (.int .i64 (fomN n0_0 l1_0)) := by rw [hV22]; first | exact d21_0 | exact cell_old d21_0 _ | exact cell_old (cell_old d21_0 _) _
  have d22_1 : V22.cell? ⟨W4.heap.size, 1, none⟩ = some (.slice pw0_0 iw0_0 qw0_0) := by rw [hV22]; first | exact d21_1 | exact cell_old d21_1 _ | exact cell_old (cell_old d21_1 _) _
  have d22_2 : V22.cell? ⟨W8.heap.size, 0, none⟩ = some (.int .i64 (fomN n0_0 l1_0)) := by rw [hV22]; first | exact d21_2 | exact cell_old d21_2 _ | exact cell_old (cell_old d21_2 _) _
  have d22_3 : V22.cell? ⟨W8.heap.size, 1, none⟩ = some (.slice pg0_0 ig0_0 qg0_0) := by rw [hV22]; first | exact d21_3 | exact cell_old d21_3 _ | exact cell_old (cell_old d21_3 _) _
  have o22_w0_0 : OwnI 3 V3.heap.size V22 (.slice pw0_0 iw0_0 qw0_0) (fomL n0_0 l1_0) := by rw [hV22]; first | exact o21_w0_0 | exact o21_w0_0.alloc _ | exact (o21_w0_0.alloc _).alloc _
  have o22_x10 : OwnI 3 V5.heap.size V22 (.slice px10 ix10 qx10) (ramp (1) (l1_0).length) := by rw [hV22]; first | exact o21_x10 | exact o21_x10.alloc _ | exact (o21_x10.alloc _).alloc _
  have o22_g0_0 : OwnI 3 V7.heap.size V22 (.slice pg0_0 ig0_0 qg0_0) (ramp (1) (fomL n0_0 l1_0).length) := by rw [hV22]; first | exact o21_g0_0 | exact o21_g0_0.alloc _ | exact (o21_g0_0.alloc _).alloc _
  skip
  clear hV22
  refine (heldFunction_any _ _ _ _ _ o22_g0_0.ints (by omega) (by omega) (by omega)).mono ?_
  rintro e W23 ⟨rfl, hb23⟩
  have B23 : Below w.heap.size w W23 := B22.after hb23 B22.size
  have z23 : V22.heap.size ≤ W23.heap.size := hb23.size
  have d23_0 := keep hb23 d22_0
  have d23_1 := keep hb23 d22_1
  have d23_2 := keep hb23 d22_2
  have d23_3 := keep hb23 d22_3
  have o23_w0_0 := o22_w0_0.keep hb23
  have o23_x10 := o22_x10.keep hb23
  have o23_g0_0 := o22_g0_0.keep hb23
  clear d22_0 d22_1 d22_2 d22_3 o22_w0_0 o22_x10 o22_g0_0
  have b23_0 : W4.heap.size < W23.heap.size := lt_of_cell d23_0
  have b23_2 : W8.heap.size < W23.heap.size := lt_of_cell d23_2
  clear b21_0 b21_2
  go_wp2_with fail
  refine calls_named ?_
  intro V24 hV24
  have B24 : Below w.heap.size w V24 := by rw [hV24]; first | exact B23 | exact B23.alloc B23.size _ | exact (B23.alloc B23.size _).alloc (by have := B23.size; simp; omega) _
  have z24 : W23.heap.size + 0 ≤ V24.heap.size := by rw [hV24]; (first | exact Nat.le_refl _ | simp)
  have d24_0 : V24.cell? ⟨W4.heap.size, 0, none⟩ = some (.int .i64 (fomN n0_0 l1_0)) := by rw [hV24]; first | exact d23_0 | exact cell_old d23_0 _ | exact cell_old (cell_old d23_0 _) _
  have d24_1 : V24.cell? ⟨W4.heap.size, 1, none⟩ = some (.slice pw0_0 iw0_0 qw0_0) := by rw [hV24]; first | exact d23_1 | exact cell_old d23_1 _ | exact cell_old (cell_old d23_1 _) _
  have d24_2 : V24.cell? ⟨W8.heap.size, 0, none⟩ = some (.int .i64 (fomN n0_0 l1_0)) := by rw [hV24]; first | exact d23_2 | exact cell_old d23_2 _ | exact cell_old (cell_old d23_2 _) _
  have d24_3 : V24.cell? ⟨W8.heap.size, 1, none⟩ = some (.slice pg0_0 ig0_0 qg0_0) := by rw [hV24]; first | exact d23_3 | exact cell_old d23_3 _ | exact cell_old (cell_old d23_3 _) _
  have o24_w0_0 : OwnI 3 V3.heap.size V24 (.slice pw0_0 iw0_0 qw0_0) (fomL n0_0 l1_0) := by rw [hV24]; first | exact o23_w0_0 | exact o23_w0_0.alloc _ | exact (o23_w0_0.alloc _).alloc _
  have o24_x10 : OwnI 3 V5.heap.size V24 (.slice px10 ix10 qx10) (ramp (1) (l1_0).length) := by rw [hV24]; first | exact o23_x10 | exact o23_x10.alloc _ | exact (o23_x10.alloc _).alloc _
  have o24_g0_0 : OwnI 3 V7.heap.size V24 (.slice pg0_0 ig0_0 qg0_0) (ramp (1) (fomL n0_0 l1_0).length) := by rw [hV24]; first | exact o23_g0_0 | exact o23_g0_0.alloc _ | exact (o23_g0_0.alloc _).alloc _
  skip
  clear hV24
  refine (toIntS_any _ l1_0 _ (hv1_0.below B24 (Nat.le_refl _)) hlv1_0).mono ?_
  rintro e W25 ⟨phx10, ihx10, qhx10, rfl, o25_hx10, hb25⟩
  have B25 : Below w.heap.size w W25 := B24.after hb25 B24.size
  have z25 : V24.heap.size ≤ W25.heap.size := hb25.size
  have d25_0 := keep hb25 d24_0
  have d25_1 := keep hb25 d24_1
  have d25_2 := keep hb25 d24_2
  have d25_3 := keep hb25 d24_3
  have o25_w0_0 := o24_w0_0.keep hb25
  have o25_x10 := o24_x10.keep hb25
  have o25_g0_0 := o24_g0_0.keep hb25
  clear d24_0 d24_1 d24_2 d24_3 o24_w0_0 o24_x10 o24_g0_0
  have b25_0 : W4.heap.size < W25.heap.size := lt_of_cell d25_0
  have b25_2 : W8.heap.size < W25.heap.size := lt_of_cell d25_2
  clear b23_0 b23_2
  have r_hx10 := o25_hx10.lt
  go_wp2_with fail
  refine calls_named ?_
  intro V26 hV26
  have B26 : Below w.heap.size w V26 := by rw [hV26]; first | exact B25 | exact B25.alloc B25.size _ | exact (B25.alloc B25.size _).alloc (by have := B25.size; simp; omega) _
  have z26 : W25.heap.size + 0 ≤ V26.heap.size := by rw [hV26]; (first | exact Nat.le_refl _ | simp)
  have d26_0 : V26.cell? ⟨W4.heap.size, 0, none⟩ = some (.int .i64 (fomN n0_0 l1_0)) := by rw [hV26]; first | exact d25_0 | exact cell_old d25_0 _ | exact cell_old (cell_old d25_0 _) _
  have d26_1 : V26.cell? ⟨W4.heap.size, 1, none⟩ = some (.slice pw0_0 iw0_0 qw0_0) := by rw [hV26]; first | exact d25_1 | exact cell_old d25_1 _ | exact cell_old (cell_old d25_1 _) _
  have d26_2 : V26.cell? ⟨W8.heap.size, 0, none⟩ = some (.int .i64 (fomN n0_0 l1_0)) := by rw [hV26]; first | exact d25_2 | exact cell_old d25_2 _ | exact cell_old (cell_old d25_2 _) _
  have d26_3 : V26.cell? ⟨W8.heap.size, 1, none⟩ = some (.slice pg0_0 ig0_0 qg0_0) := by rw [hV26]; first | exact d25_3 | exact cell_old d25_3 _ | exact cell_old (cell_old d25_3 _) _
  have o26_w0_0 : OwnI 3 V3.heap.size V26 (.slice pw0_0 iw0_0 qw0_0) (fomL n0_0 l1_0) := by rw [hV26]; first | exact o25_w0_0 | exact o25_w0_0.alloc _ | exact (o25_w0_0.alloc _).alloc _
  have o26_x10 : OwnI 3 V5.heap.size V26 (.slice px10 ix10 qx10) (ramp (1) (l1_0).length) := by rw [hV26]; first | exact o25_x10 | exact o25_x10.alloc _ | exact (o25_x10.alloc _).alloc _
  have o26_g0_0 : OwnI 3 V7.heap.size V26 (.slice pg0_0 ig0_0 qg0_0) (ramp (1) (fomL n0_0 l1_0).length) := by rw [hV26]; first | exact o25_g0_0 | exact o25_g0_0.alloc _ | exact (o25_g0_0.alloc _).alloc _
  have o26_hx10 : OwnI 3 V24.heap.size V26 (.slice phx10 ihx10 qhx10) (l1_0) := by rw [hV26]; first | exact o25_hx10 | exact o25_hx10.alloc _ | exact (o25_hx10.alloc _).alloc _
  skip
  clear hV26
  refine (fomI_c _ n0_0 hn0_0 _ l1_0 o26_hx10.ints hlv1_0).mono ?_
  rintro e W27 ⟨ph0_0, ih0_0, qh0_0, rfl, o27_h0_0, hb27⟩
  have B27 : Below w.heap.size w W27 := B26.after hb27 B26.size
  have z27 : V26.heap.size ≤ W27.heap.size := hb27.size
  have d27_0 := keep hb27 d26_0
  have d27_1 := keep hb27 d26_1
  have d27_2 := keep hb27 d26_2
  have d27_3 := keep hb27 d26_3
  have o27_w0_0 := o26_w0_0.keep hb27
  have o27_x10 := o26_x10.keep hb27
  have o27_g0_0 := o26_g0_0.keep hb27
  clear d26_0 d26_1 d26_2 d26_3 o26_w0_0 o26_x10 o26_g0_0
  have b27_0 : W4.heap.size < W27.heap.size := lt_of_cell d27_0
  have b27_2 : W8.heap.size < W27.heap.size := lt_of_cell d27_2
  clear b25_0 b25_2
  have r_h0_0 := o27_h0_0.lt
  go_wp2_with fail
  refine calls_named ?_
  intro V28 hV28
  have B28 : Below w.heap.size w V28 := by rw [hV28]; first | exact B27 | exact B27.alloc B27.size _ | exact (B27.alloc B27.size _).alloc (by have := B27.size; simp; omega) _
  have z28 : W27.heap.size + 1 ≤ V28.heap.size := by rw [hV28]; (first | exact Nat.le_refl _ | simp)
  have d28_0 : V28.cell? ⟨W4.heap.size, 0, none⟩ = some (.int .i64 (fomN n0_0 l1_0)) := by rw [hV28]; first | exact d27_0 | exact cell_old d27_0 _ | exact cell_old (cell_old d27_0 _) _
  have d28_1 : V28.cell? ⟨W4.heap.size, 1, none⟩ = some (.slice pw0_0 iw0_0 qw0_0) := by rw [hV28]; first | exact d27_1 | exact cell_old d27_1 _ | exact cell_old (cell_old d27_1 _) _
  have d28_2 : V28.cell? ⟨W8.heap.size, 0, none⟩ = some (.int .i64 (fomN n0_0 l1_0)) := by rw [hV28]; first | exact d27_2 | exact cell_old d27_2 _ | exact cell_old (cell_old d27_2 _) _
  have d28_3 : V28.cell? ⟨W8.heap.size, 1, none⟩ = some (.slice pg0_0 ig0_0 qg0_0) := by rw [hV28]; first | exact d27_3 | exact cell_old d27_3 _ | exact cell_old (cell_old d27_3 _) _
  have d28_4 : V28.cell? ⟨W27.heap.size, 0, none⟩ = some (.int .i64 (fomN n0_0 l1_0)) := by rw [hV28]; first | exact cell_new _ _ _ _ _ rfl | exact cell_old (cell_new _ _ _ _ _ rfl) _ | simp [go_sem]
  have d28_5 : V28.cell? ⟨W27.heap.size, 1, none⟩ = some (.slice ph0_0 ih0_0 qh0_0) := by rw [hV28]; first | exact cell_new _ _ _ _ _ rfl | exact cell_old (cell_new _ _ _ _ _ rfl) _ | simp [go_sem]
  have o28_w0_0 : OwnI 3 V3.heap.size V28 (.slice pw0_0 iw0_0 qw0_0) (fomL n0_0 l1_0) := by rw [hV28]; first | exact o27_w0_0 | exact o27_w0_0.alloc _ | exact (o27_w0_0.alloc _).alloc _
  have o28_x10 : OwnI 3 V5.heap.size V28 (.slice px10 ix10 qx10) (ramp (1) (l1_0).length) := by rw [hV28]; first | exact o27_x10 | exact o27_x10.alloc _ | exact (o27_x10.alloc _).alloc _
  have o28_g0_0 : OwnI 3 V7.heap.size V28 (.slice pg0_0 ig0_0 qg0_0) (ramp (1) (fomL n0_0 l1_0).length) := by rw [hV28]; first | exact o27_g0_0 | exact o27_g0_0.alloc _ | exact (o27_g0_0.alloc _).alloc _
  have o28_h0_0 : OwnI 3 V26.heap.size V28 (.slice ph0_0 ih0_0 qh0_0) (fomL n0_0 l1_0) := by rw [hV28]; first | exact o27_h0_0 | exact o27_h0_0.alloc _ | exact (o27_h0_0.alloc _).alloc _
  skip
  clear hV28
  refine (eqFunction_any _ _ _ _ _ _ _ o28_h0_0.ints o28_w0_0.ints).mono ?_
  rintro e W29 ⟨rfl, hb29⟩
  simp only [decide_true, Bool.and_self]
  have B29 : Below w.heap.size w W29 := B28.after hb29 B28.size
  have z29 : V28.heap.size ≤ W29.heap.size := hb29.size
  have d29_0 := keep hb29 d28_0
  have d29_1 := keep hb29 d28_1
  have d29_2 := keep hb29 d28_2
  have d29_3 := keep hb29 d28_3
  have d29_4 := keep hb29 d28_4
  have d29_5 := keep hb29 d28_5
  have o29_w0_0 := o28_w0_0.keep hb29
  have o29_x10 := o28_x10.keep hb29
  have o29_g0_0 := o28_g0_0.keep hb29
  have o29_h0_0 := o28_h0_0.keep hb29
  clear d28_0 d28_1 d28_2 d28_3 d28_4 d28_5 o28_w0_0 o28_x10 o28_g0_0 o28_h0_0
  have b29_0 : W4.heap.size < W29.heap.size := lt_of_cell d29_0
  have b29_2 : W8.heap.size < W29.heap.size := lt_of_cell d29_2
  have b29_4 : W27.heap.size < W29.heap.size := lt_of_cell d29_4
  clear b27_0 b27_2
  go_wp2_with fail
  refine calls_named ?_
  intro V30 hV30
  have B30 : Below w.heap.size w V30 := by rw [hV30]; first | exact B29 | exact B29.alloc B29.size _ | exact (B29.alloc B29.size _).alloc (by have := B29.size; simp; omega) _
  have z30 : W29.heap.size + 0 ≤ V30.heap.size := by rw [hV30]; (first | exact Nat.le_refl _ | simp)
  have d30_0 : V30.cell? ⟨W4.heap.size, 0, none⟩ = some (.int .i64 (fomN n0_0 l1_0)) := by rw [hV30]; first | exact d29_0 | exact cell_old d29_0 _ | exact cell_old (cell_old d29_0 _) _
  have d30_1 : V30.cell? ⟨W4.heap.size, 1, none⟩ = some (.slice pw0_0 iw0_0 qw0_0) := by rw [hV30]; first | exact d29_1 | exact cell_old d29_1 _ | exact cell_old (cell_old d29_1 _) _
  have d30_2 : V30.cell? ⟨W8.heap.size, 0, none⟩ = some (.int .i64 (fomN n0_0 l1_0)) := by rw [hV30]; first | exact d29_2 | exact cell_old d29_2 _ | exact cell_old (cell_old d29_2 _) _
  have d30_3 : V30.cell? ⟨W8.heap.size, 1, none⟩ = some (.slice pg0_0 ig0_0 qg0_0) := by rw [hV30]; first | exact d29_3 | exact cell_old d29_3 _ | exact cell_old (cell_old d29_3 _) _
  have d30_4 : V30.cell? ⟨W27.heap.size, 0, none⟩ = some (.int .i64 (fomN n0_0 l1_0)) := by rw [hV30]; first | exact d29_4 | exact cell_old d29_4 _ | exact cell_old (cell_old d29_4 _) _
  have d30_5 : V30.cell? ⟨W27.heap.size, 1, none⟩ = some (.slice ph0_0 ih0_0 qh0_0) := by rw [hV30]; first | exact d29_5 | exact cell_old d29_5 _ | exact cell_old (cell_old d29_5 _) _
  have o30_w0_0 : OwnI 3 V3.heap.size V30 (.slice pw0_0 iw0_0 qw0_0) (fomL n0_0 l1_0) := by rw [hV30]; first | exact o29_w0_0 | exact o29_w0_0.alloc _ | exact (o29_w0_0.alloc _).alloc _
  have o30_x10 : OwnI 3 V5.heap.size V30 (.slice px10 ix10 qx10) (ramp (1) (l1_0).length) := by rw [hV30]; first | exact o29_x10 | exact o29_x10.alloc _ | exact (o29_x10.alloc _).alloc _
  have o30_g0_0 : OwnI 3 V7.heap.size V30 (.slice pg0_0 ig0_0 qg0_0) (ramp (1) (fomL n0_0 l1_0).length) := by rw [hV30]; first | exact o29_g0_0 | exact o29_g0_0.alloc _ | exact (o29_g0_0.alloc _).alloc _
  have o30_h0_0 : OwnI 3 V26.heap.size V30 (.slice ph0_0 ih0_0 qh0_0) (fomL n0_0 l1_0) := by rw [hV30]; first | exact o29_h0_0 | exact o29_h0_0.alloc _ | exact (o29_h0_0.alloc _).alloc _
  skip
  clear hV30
  refine (heldFunction_any _ _ _ _ _ o30_g0_0.ints (by omega) (by omega) (by omega)).mono ?_
  rintro e W31 ⟨rfl, hb31⟩
  have B31 : Below w.heap.size w W31 := B30.after hb31 B30.size
  have z31 : V30.heap.size ≤ W31.heap.size := hb31.size
  have d31_0 := keep hb31 d30_0
  have d31_1 := keep hb31 d30_1
  have d31_2 := keep hb31 d30_2
  have d31_3 := keep hb31 d30_3
  have d31_4 := keep hb31 d30_4
  have d31_5 := keep hb31 d30_5
  have o31_w0_0 := o30_w0_0.keep hb31
  have o31_x10 := o30_x10.keep hb31
  have o31_g0_0 := o30_g0_0.keep hb31
  have o31_h0_0 := o30_h0_0.keep hb31
  clear d30_0 d30_1 d30_2 d30_3 d30_4 d30_5 o30_w0_0 o30_x10 o30_g0_0 o30_h0_0
  have b31_0 : W4.heap.size < W31.heap.size := lt_of_cell d31_0
  have b31_2 : W8.heap.size < W31.heap.size := lt_of_cell d31_2
  have b31_4 : W27.heap.size < W31.heap.size := lt_of_cell d31_4
  clear b29_0 b29_2 b29_4
  go_wp2
  go_ret
  exact ⟨rfl, B31⟩

theorem fnExactFunctionOfMasses_params : Try.f5.params = #[3, 24] := by kernel_rfl
set_option maxRecDepth 100000 in
theorem fnExactFunctionOfMasses_lifted (os : Os) (started : os.Started) (H : Type) (enc : TypeId × Value → H) :
    ReturnsInHanded {} Try.checked os 5 .any (Rows.fnExactFunctionOfMassesSpec.pre6 enc Try.prog Try.f5 Rows.fnExactFunctionOfMassesRow.domain false) (Rows.fnExactFunctionOfMassesSpec.post enc Try.prog Try.f5 false true false false) := by
  refine law_lift os started H enc Try.func5 (by kernel_rfl) rfl (by kernel_rfl) (by kernel_rfl) ?_
    (ChangeSpec.witness6 (enc := enc) (C := Try.checked) false ⟨#[], #[.int .i64 0, .slice none 0 0], []⟩ 8 (by kernel_rfl) (by kernel_rfl) (by kernel_rfl) (by kernel_rfl)) ?_
  · intro ds hds
    rw [fnExactFunctionOfMasses_params] at hds
    match ds, hds with
    | [d0, d1], _ => rfl
  · intro W base args ds p hval hA
    rw [fnExactFunctionOfMasses_params] at hA hval
    obtain ⟨v0, vs0, d0, ds0, p0, q0, hargs, rfl, rfl, h0, r0⟩ := trodAll_cons hA
    obtain ⟨v1, vs1, d1, ds1, p1, q1, rfl, rfl, rfl, h1, r1⟩ := trodAll_cons r0
    obtain ⟨rfl, rfl, rfl⟩ := trodAll_nil r1
    obtain rfl : args = #[v0, v1] := by cases args; simp_all
    obtain ⟨a0, rfl, w0⟩ := rd_int (hval 0 3 v0 rfl rfl) h0
    obtain ⟨l1, w1⟩ := rd_ints (hval 1 24 v1 rfl rfl) h1
    exact fom_walk W a0 w0 _ l1 w1

theorem fnExactFunctionOfMasses_holds : Rows.FnExactFunctionOfMassesSaid :=
  OpenClaim.holds_of_wide 5 Try.f5 rfl rfl rfl rfl rfl rfl rfl ⟨rfl, rfl, rfl, rfl, rfl⟩ rfl rfl rfl rfl rfl (by kernel_rfl) Try.func5 (by kernel_rfl)
    (of_decide_eq_true (by kernel_rfl)) (by unfold Func.isWrapper; first | (rw [if_pos (by decide +kernel)]; kernel_rfl) | (rw [if_neg (by decide +kernel)]; exact ⟨rfl, rfl⟩))
    (fun os started H enc _ => fnExactFunctionOfMasses_lifted os started H enc)
end Go.Proofs.Ytmmaleidaghooaa
