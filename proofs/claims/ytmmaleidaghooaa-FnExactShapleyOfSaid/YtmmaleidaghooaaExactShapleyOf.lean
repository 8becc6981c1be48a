/- The statement FnExactShapleyOf: for every input the call returns true and each argument reads as it did. No condition. -/
import Derived.Test.YtmmaleidaghooaaRead
import Derived.Test.YtmmaleidaghooaaTo
import Derived.Test.YtmmaleidaghooaaEq
import Derived.Test.YtmmaleidaghooaaMark
import Derived.Deep.RegionHeld3
import Derived.Test.YtmmaleidaghooaaShap
import Derived.Test.YtmmaleidaghooaaShapS
namespace Go.Proofs.Ytmmaleidaghooaa
open Go.ChangeShapes Go.WideShapes Go.ChangeAt Go.RowKit Go.G5
set_option maxHeartbeats 2000000 in
set_option maxRecDepth 100000 in
theorem shap_walk (w : World) (n0_0 : Int) (v0_1 : Value) (l0_1 : List Int) (_ : InR n0_0) (hv0_1 : Ints w v0_1 l0_1) :
    Calls Try.prog 13 #[.agg #[.int .i64 n0_0, v0_1]] w fun e w' => e = .returned (.bool true) ∧ Below w.heap.size w w' := by
  obtain ⟨av0_1, cv0_1, rfl⟩ := hv0_1.shape
  go_enter Try.func13, Try.ntmps13
  go_wp2_with fail
  refine calls_named ?_
  intro V1 hV1
  have B1 : Below w.heap.size w V1 := by rw [hV1]; exact (by repeat (first | exact Below.refl _ _ | (with_reducible refine Below.setCell ?_ (by first | omega | (simp; done) | (simp; omega)) _) | (with_reducible refine Below.alloc ?_ (by first | omega | (simp; done) | (simp; omega)) _) | (with_reducible refine Below.drewN' ?_ _) | (with_reducible refine Below.drew ?_) | (with_reducible assumption) | refine Below.trans ?_ (Below.mono (by assumption) (by first | omega | (simp; done) | (simp; omega)))))
  have z1 : w.heap.size + 1 ≤ V1.heap.size := by rw [hV1]; (first | simp | omega)
  have d1_0 : V1.cell? ⟨w.heap.size, 0, none⟩ = some (.int .i64 n0_0) := by rw [hV1]; simp [go_sem]
  have d1_1 : V1.cell? ⟨w.heap.size, 1, none⟩ = some ((.slice av0_1 l0_1.length cv0_1)) := by rw [hV1]; simp [go_sem]
  clear hV1
  refine (szFunction_c n0_0 _ l0_1 _ _ (hv0_1.below B1 (Nat.le_refl _)) (by omega) (by omega)).mono ?_
  rintro e W2 ⟨⟨s0, rfl, hs0⟩, hb2⟩
  have B2 : Below w.heap.size w W2 := B1.after hb2 B1.size
  have z2 : V1.heap.size ≤ W2.heap.size := hb2.size
  have d2_0 := keep hb2 d1_0
  have d2_1 := keep hb2 d1_1
  clear d1_0 d1_1
  have b2_0 : w.heap.size < W2.heap.size := lt_of_cell d2_0
  rcases hs0 with hs0 | ⟨g0_0, g0_1, hlv0_1'⟩
  · go_wp2
    go_ret
    exact ⟨rfl, B2⟩
  have hlv0_1 : l0_1.length ≤ 1048576 := by omega
  go_wp2_with fail
  refine calls_named ?_
  intro V3 hV3
  have B3 : Below w.heap.size w V3 := by rw [hV3]; first | exact B2 | exact B2.alloc B2.size _ | exact (B2.alloc B2.size _).alloc (by have := B2.size; simp; omega) _
  have z3 : W2.heap.size + 0 ≤ V3.heap.size := by rw [hV3]; (first | exact Nat.le_refl _ | simp)
  have d3_0 : V3.cell? ⟨w.heap.size, 0, none⟩ = some (.int .i64 n0_0) := by rw [hV3]; first | exact d2_0 | exact cell_old d2_0 _ | exact cell_old (cell_old d2_0 _) _
  have d3_1 : V3.cell? ⟨w.heap.size, 1, none⟩ = some ((.slice av0_1 l0_1.length cv0_1)) := by rw [hV3]; first | exact d2_1 | exact cell_old d2_1 _ | exact cell_old (cell_old d2_1 _) _
  skip
  clear hV3
  refine (toFunction_any n0_0 _ l0_1 _ (hv0_1.below B3 (Nat.le_refl _)) hlv0_1).mono ?_
  rintro e W4 ⟨pwx00, iwx00, qwx00, rfl, o4_wx00, hb4⟩
  have B4 : Below w.heap.size w W4 := B3.after hb4 B3.size
  have z4 : V3.heap.size ≤ W4.heap.size := hb4.size
  have d4_0 := keep hb4 d3_0
  have d4_1 := keep hb4 d3_1
  clear d3_0 d3_1
  have b4_0 : w.heap.size < W4.heap.size := lt_of_cell d4_0
  clear b2_0
  have r_wx00 := o4_wx00.lt
  go_wp2_with fail
  refine calls_named ?_
  intro V5 hV5
  have B5 : Below w.heap.size w V5 := by rw [hV5]; first | exact B4 | exact B4.alloc B4.size _ | exact (B4.alloc B4.size _).alloc (by have := B4.size; simp; omega) _
  have z5 : W4.heap.size + 0 ≤ V5.heap.size := by rw [hV5]; (first | exact Nat.le_refl _ | simp)
  have d5_0 : V5.cell? ⟨w.heap.size, 0, none⟩ = some (.int .i64 n0_0) := by rw [hV5]; first | exact d4_0 | exact cell_old d4_0 _ | exact cell_old (cell_old d4_0 _) _
  have d5_1 : V5.cell? ⟨w.heap.size, 1, none⟩ = some ((.slice av0_1 l0_1.length cv0_1)) := by rw [hV5]; first | exact d4_1 | exact cell_old d4_1 _ | exact cell_old (cell_old d4_1 _) _
  have o5_wx00 : OwnI 3 V3.heap.size V5 (.slice pwx00 iwx00 qwx00) (l0_1) := by rw [hV5]; first | exact o4_wx00 | exact o4_wx00.alloc _ | exact (o4_wx00.alloc _).alloc _
  skip
  clear hV5
  refine (shapS_c _ n0_0 _ l0_1 o5_wx00.ints hlv0_1).mono ?_
  rintro e W6 ⟨pw0_0, iw0_0, qw0_0, rfl, o6_w0_0, hb6⟩
  have B6 : Below w.heap.size w W6 := B5.after hb6 B5.size
  have z6 : V5.heap.size ≤ W6.heap.size := hb6.size
  have d6_0 := keep hb6 d5_0
  have d6_1 := keep hb6 d5_1
  clear d5_0 d5_1
  have b6_0 : w.heap.size < W6.heap.size := lt_of_cell d6_0
  clear b4_0
  have r_w0_0 := o6_w0_0.lt
  go_wp2_with fail
  refine calls_named ?_
  intro V7 hV7
  have B7 : Below w.heap.size w V7 := by rw [hV7]; first | exact B6 | exact B6.alloc B6.size _ | exact (B6.alloc B6.size _).alloc (by have := B6.size; simp; omega) _
  have z7 : W6.heap.size + 0 ≤ V7.heap.size := by rw [hV7]; (first | exact Nat.le_refl _ | simp)
  have d7_0 : V7.cell? ⟨w.heap.size, 0, none⟩ = some (.int .i64 n0_0) := by rw [hV7]; first | exact d6_0 | exact cell_old d6_0 _ | exact cell_old (cell_old d6_0 _) _
  have d7_1 : V7.cell? ⟨w.heap.size, 1, none⟩ = some ((.slice av0_1 l0_1.length cv0_1)) := by rw [hV7]; first | exact d6_1 | exact cell_old d6_1 _ | exact cell_old (cell_old d6_1 _) _
  have o7_w0_0 : OwnI 3 V5.heap.size V7 (.slice pw0_0 iw0_0 qw0_0) (shapOf n0_0 l0_1) := by rw [hV7]; first | exact o6_w0_0 | exact o6_w0_0.alloc _ | exact (o6_w0_0.alloc _).alloc _
  skip
  clear hV7
  refine (toFunction_any n0_0 _ l0_1 _ (hv0_1.below B7 (Nat.le_refl _)) hlv0_1).mono ?_
  rintro e W8 ⟨px00, ix00, qx00, rfl, o8_x00, hb8⟩
  have B8 : Below w.heap.size w W8 := B7.after hb8 B7.size
  have z8 : V7.heap.size ≤ W8.heap.size := hb8.size
  have d8_0 := keep hb8 d7_0
  have d8_1 := keep hb8 d7_1
  have o8_w0_0 := o7_w0_0.keep hb8
  clear d7_0 d7_1 o7_w0_0
  have b8_0 : w.heap.size < W8.heap.size := lt_of_cell d8_0
  clear b6_0
  have r_x00 := o8_x00.lt
  go_wp2_with fail
  refine calls_named ?_
  intro V9 hV9
  have B9 : Below w.heap.size w V9 := by rw [hV9]; first | exact B8 | exact B8.alloc B8.size _ | exact (B8.alloc B8.size _).alloc (by have := B8.size; simp; omega) _
  have z9 : W8.heap.size + 1 ≤ V9.heap.size := by rw [hV9]; (first | exact Nat.le_refl _ | simp)
  have d9_0 : V9.cell? ⟨w.heap.size, 0, none⟩ = some (.int .i64 n0_0) := by rw [hV9]; first | exact d8_0 | exact cell_old d8_0 _ | exact cell_old (cell_old d8_0 _) _
  have d9_1 : V9.cell? ⟨w.heap.size, 1, none⟩ = some ((.slice av0_1 l0_1.length cv0_1)) := by rw [hV9]; first | exact d8_1 | exact cell_old d8_1 _ | exact cell_old (cell_old d8_1 _) _
  have d9_2 : V9.cell? ⟨W8.heap.size, 0, none⟩ = some (.int .i64 n0_0) := by rw [hV9]; first | exact cell_new _ _ _ _ _ rfl | exact cell_old (cell_new _ _ _ _ _ rfl) _ | simp [go_sem]
  have d9_3 : V9.cell? ⟨W8.heap.size, 1, none⟩ = some (.slice px00 ix00 qx00) := by rw [hV9]; first | exact cell_new _ _ _ _ _ rfl | exact cell_old (cell_new _ _ _ _ _ rfl) _ | simp [go_sem]
  have o9_w0_0 : OwnI 3 V5.heap.size V9 (.slice pw0_0 iw0_0 qw0_0) (shapOf n0_0 l0_1) := by rw [hV9]; first | exact o8_w0_0 | exact o8_w0_0.alloc _ | exact (o8_w0_0.alloc _).alloc _
  have o9_x00 : OwnI 3 V7.heap.size V9 (.slice px00 ix00 qx00) (l0_1) := by rw [hV9]; first | exact o8_x00 | exact o8_x00.alloc _ | exact (o8_x00.alloc _).alloc _
  skip
  clear hV9
  refine (shapI_c _ n0_0 _ l0_1 o9_x00.ints hlv0_1).mono ?_
  rintro e W10 ⟨pg0_0, ig0_0, qg0_0, rfl, o10_g0_0, hb10⟩
  have B10 : Below w.heap.size w W10 := B9.after hb10 B9.size
  have z10 : V9.heap.size ≤ W10.heap.size := hb10.size
  have d10_0 := keep hb10 d9_0
  have d10_1 := keep hb10 d9_1
  have d10_2 := keep hb10 d9_2
  have d10_3 := keep hb10 d9_3
  have o10_w0_0 := o9_w0_0.keep hb10
  have o10_x00 := o9_x00.keep hb10
  clear d9_0 d9_1 d9_2 d9_3 o9_w0_0 o9_x00
  have b10_0 : w.heap.size < W10.heap.size := lt_of_cell d10_0
  have b10_2 : W8.heap.size < W10.heap.size := lt_of_cell d10_2
  clear b8_0
  have r_g0_0 := o10_g0_0.lt
  go_wp2_with fail
  refine calls_named ?_
  intro V11 hV11
  have B11 : Below w.heap.size w V11 := by rw [hV11]; first | exact B10 | exact B10.alloc B10.size _ | exact (B10.alloc B10.size _).alloc (by have := B10.size; simp; omega) _
  have z11 : W10.heap.size + 0 ≤ V11.heap.size := by rw [hV11]; (first | exact Nat.le_refl _ | simp)
  have d11_0 : V11.cell? ⟨w.heap.size, 0, none⟩ = some (.int .i64 n0_0) := by rw [hV11]; first | exact d10_0 | exact cell_old d10_0 _ | exact cell_old (cell_old d10_0 _) _
  have d11_1 : V11.cell? ⟨w.heap.size, 1, none⟩ = some ((.slice av0_1 l0_1.length cv0_1)) := by rw [hV11]; first | exact d10_1 | exact cell_old d10_1 _ | exact cell_old (cell_old d10_1 _) _
  have d11_2 : V11.cell? ⟨W8.heap.size, 0, none⟩ = some (.int .i64 n0_0) := by rw [hV11]; first | exact d10_2 | exact cell_old d10_2 _ | exact cell_old (cell_old d10_2 _) _
  have d11_3 : V11.cell? ⟨W8.heap.size, 1, none⟩ = some (.slice px00 ix00 qx00) := by rw [hV11]; first | exact d10_3 | exact cell_old d10_3 _ | exact cell_old (cell_old d10_3 _) _
  have o11_w0_0 : OwnI 3 V5.heap.size V11 (.slice pw0_0 iw0_0 qw0_0) (shapOf n0_0 l0_1) := by rw [hV11]; first | exact o10_w0_0 | exact o10_w0_0.alloc _ | exact (o10_w0_0.alloc _).alloc _
  have o11_x00 : OwnI 3 V7.heap.size V11 (.slice px00 ix00 qx00) (l0_1) := by rw [hV11]; first | exact o10_x00 | exact o10_x00.alloc _ | exact (o10_x00.alloc _).alloc _
  have o11_g0_0 : OwnI 3 V9.heap.size V11 (.slice pg0_0 ig0_0 qg0_0) (shapOf n0_0 l0_1) := by rw [hV11]; first | exact o10_g0_0 | exact o10_g0_0.alloc _ | exact (o10_g0_0.alloc _).alloc _
  skip
  clear hV11
  refine (eqIntS_any _ _ _ _ _ o11_g0_0.ints o11_w0_0.ints).mono ?_
  rintro e W12 ⟨rfl, nq12, hq12⟩
  have hb12 : Below V11.heap.size V11 W12 := by rw [hq12]; exact (Below.refl _ _).drewN' _
  clear hq12
  simp only [decide_true]
  have B12 : Below w.heap.size w W12 := B11.after hb12 B11.size
  have z12 : V11.heap.size ≤ W12.heap.size := hb12.size
  have d12_0 := keep hb12 d11_0
  have d12_1 := keep hb12 d11_1
  have d12_2 := keep hb12 d11_2
  have d12_3 := keep hb12 d11_3
  have o12_w0_0 := o11_w0_0.keep hb12
  have o12_x00 := o11_x00.keep hb12
  have o12_g0_0 := o11_g0_0.keep hb12
  clear d11_0 d11_1 d11_2 d11_3 o11_w0_0 o11_x00 o11_g0_0
  have b12_0 : w.heap.size < W12.heap.size := lt_of_cell d12_0
  have b12_2 : W8.heap.size < W12.heap.size := lt_of_cell d12_2
  clear b10_0 b10_2
  go_wp2_with fail
  have y13_0 : w.heap.size < W12.heap.size := lt_of_cell d12_0
  have y13_1 : w.heap.size < W12.heap.size := lt_of_cell d12_1
  have y13_2 : W8.heap.size < W12.heap.size := lt_of_cell d12_2
  have y13_3 : W8.heap.size < W12.heap.size := lt_of_cell d12_3
  go_region_held3 (fun w' => w'.cell? ⟨w.heap.size, 0, none⟩ = some (.int .i64 n0_0) ∧ w'.cell? ⟨w.heap.size, 1, none⟩ = some ((.slice av0_1 l0_1.length cv0_1)) ∧ w'.cell? ⟨W8.heap.size, 0, none⟩ = some (.int .i64 n0_0) ∧ w'.cell? ⟨W8.heap.size, 1, none⟩ = some (.slice px00 ix00 qx00)) (go_keep)
    (first
      | (go_at_call 29; refine (toFunction_any n0_0 _ l0_1 _ (hv0_1.below (B := w.heap.size) (by repeat (first | exact Below.refl _ _ | (with_reducible refine Below.setCell ?_ (by first | omega | (simp; done) | (simp; omega)) _) | (with_reducible refine Below.alloc ?_ (by first | omega | (simp; done) | (simp; omega)) _) | (with_reducible refine Below.drewN' ?_ _) | (with_reducible refine Below.drew ?_) | (with_reducible assumption) | refine Below.trans ?_ (Below.mono (by assumption) (by first | omega | (simp; done) | (simp; omega))))) (Nat.le_refl _)) hlv0_1).mono ?_; rintro e W14 ⟨py14x0, iy14x0, qy14x0, rfl, o14_y14x0, hb14⟩; obtain ⟨hc14, hf14⟩ := bcellN hb14 (W12.heap.size) (by first | omega | (simp; done) | (simp; omega)); have z14 := hb14.size; (try simp at z14))
      | (go_at_call 22; refine (eqFunction_any n0_0 n0_0 _ _ _ _ _ ((o12_x00.drewN 1).below hb14 (by first | omega | (simp; done) | (simp; omega))).ints o14_y14x0.ints).mono ?_; rintro e W15 ⟨rfl, hb15⟩; obtain ⟨hc15, hf15⟩ := bcellN hb15 (W12.heap.size) (by first | omega | (simp; done) | (simp; omega)); have z15 := hb15.size; (try simp at z15)))
  have B15 : Below w.heap.size w W15 := (by repeat (first | exact Below.refl _ _ | (with_reducible refine Below.setCell ?_ (by first | omega | (simp; done) | (simp; omega)) _) | (with_reducible refine Below.alloc ?_ (by first | omega | (simp; done) | (simp; omega)) _) | (with_reducible refine Below.drewN' ?_ _) | (with_reducible refine Below.drew ?_) | (with_reducible assumption) | refine Below.trans ?_ (Below.mono (by assumption) (by first | omega | (simp; done) | (simp; omega)))))
  have hS := (‹W15.cell? ⟨w.heap.size, 0, none⟩ = some (.int .i64 n0_0) ∧ W15.cell? ⟨w.heap.size, 1, none⟩ = some ((.slice av0_1 l0_1.length cv0_1)) ∧ W15.cell? ⟨W8.heap.size, 0, none⟩ = some (.int .i64 n0_0) ∧ W15.cell? ⟨W8.heap.size, 1, none⟩ = some (.slice px00 ix00 qx00)› : W15.cell? ⟨w.heap.size, 0, none⟩ = some (.int .i64 n0_0) ∧ W15.cell? ⟨w.heap.size, 1, none⟩ = some ((.slice av0_1 l0_1.length cv0_1)) ∧ W15.cell? ⟨W8.heap.size, 0, none⟩ = some (.int .i64 n0_0) ∧ W15.cell? ⟨W8.heap.size, 1, none⟩ = some (.slice px00 ix00 qx00))
  obtain ⟨d15_0, d15_1, d15_2, d15_3⟩ := hS
  have o15_w0_0 : OwnI 3 V5.heap.size W15 (.slice pw0_0 iw0_0 qw0_0) (shapOf n0_0 l0_1) := (((o12_w0_0.drewN 1).below hb14 (by first | omega | (simp; done) | (simp; omega))).below hb15 (by first | omega | (simp; done) | (simp; omega)))
  have o15_x00 : OwnI 3 V7.heap.size W15 (.slice px00 ix00 qx00) (l0_1) := (((o12_x00.drewN 1).below hb14 (by first | omega | (simp; done) | (simp; omega))).below hb15 (by first | omega | (simp; done) | (simp; omega)))
  have o15_g0_0 : OwnI 3 V9.heap.size W15 (.slice pg0_0 ig0_0 qg0_0) (shapOf n0_0 l0_1) := (((o12_g0_0.drewN 1).below hb14 (by first | omega | (simp; done) | (simp; omega))).below hb15 (by first | omega | (simp; done) | (simp; omega)))
  have z15' : W12.heap.size ≤ W15.heap.size := by omega
  clear d12_0 d12_1 d12_2 d12_3 o12_w0_0 o12_x00 o12_g0_0 hc14 hf14 hc15 hf15 y13_0 y13_1 y13_2 y13_3
  have b15_0 : w.heap.size < W15.heap.size := lt_of_cell d15_0
  have b15_2 : W8.heap.size < W15.heap.size := lt_of_cell d15_2
  clear b12_0 b12_2
  have hlen0 := shapOf_len n0_0 l0_1
  go_wp2_with fail
  refine calls_named ?_
  intro V16 hV16
  have B16 : Below w.heap.size w V16 := by rw [hV16]; first | exact B15 | exact B15.alloc B15.size _ | exact (B15.alloc B15.size _).alloc (by have := B15.size; simp; omega) _
  have z16 : W15.heap.size + 0 ≤ V16.heap.size := by rw [hV16]; (first | exact Nat.le_refl _ | simp)
  have d16_0 : V16.cell? ⟨w.heap.size, 0, none⟩ = some (.int .i64 n0_0) := by rw [hV16]; first | exact d15_0 | exact cell_old d15_0 _ | exact cell_old (cell_old d15_0 _) _
  have d16_1 : V16.cell? ⟨w.heap.size, 1, none⟩ = some ((.slice av0_1 l0_1.length cv0_1)) := by rw [hV16]; first | exact d15_1 | exact cell_old d15_1 _ | exact cell_old (cell_old d15_1 _) _
  have d16_2 : V16.cell? ⟨W8.heap.size, 0, none⟩ = some (.int .i64 n0_0) := by rw [hV16]; first | exact d15_2 | exact cell_old d15_2 _ | exact cell_old (cell_old d15_2 _) _
  have d16_3 : V16.cell? ⟨W8.heap.size, 1, none⟩ = some (.slice px00 ix00 qx00) := by rw [hV16]; first | exact d15_3 | exact cell_old d15_3 _ | exact cell_old (cell_old d15_3 _) _
  have o16_w0_0 : OwnI 3 V5.heap.size V16 (.slice pw0_0 iw0_0 qw0_0) (shapOf n0_0 l0_1) := by rw [hV16]; first | exact o15_w0_0 | exact o15_w0_0.alloc _ | exact (o15_w0_0.alloc _).alloc _
  have o16_x00 : OwnI 3 V7.heap.size V16 (.slice px00 ix00 qx00) (l0_1) := by rw [hV16]; first | exact o15_x00 | exact o15_x00.alloc _ | exact (o15_x00.alloc _).alloc _
  have o16_g0_0 : OwnI 3 V9.heap.size V16 (.slice pg0_0 ig0_0 qg0_0) (shapOf n0_0 l0_1) := by rw [hV16]; first | exact o15_g0_0 | exact o15_g0_0.alloc _ | exact (o15_g0_0.alloc _).alloc _
  skip
  clear hV16
  refine (markFunction_any _ _ _ _ _ o16_x00 _ (by omega) (by omega) (by omega)).mono ?_
  rintro e W17 ⟨rfl, o17_x00, hg17⟩
  have z17 : V16.heap.size ≤ W17.heap.size := hg17.size
  have B17 : Below w.heap.size w W17 := below_grow B16 hg17 B16.size (by intro kk hk; have := r_x00 kk hk; omega)
  have d17_0 := grown_keep hg17 d16_0 (by intro kk hk; have := r_x00 kk hk; simp only []; omega)
  have d17_1 := grown_keep hg17 d16_1 (by intro kk hk; have := r_x00 kk hk; simp only []; omega)
  have d17_2 := grown_keep hg17 d16_2 (by intro kk hk; have := r_x00 kk hk; simp only []; omega)
  have d17_3 := grown_keep hg17 d16_3 (by intro kk hk; have := r_x00 kk hk; simp only []; omega)
  have o17_w0_0 := o16_w0_0.grow hg17 (by intro kk hk hk2; have := r_x00 kk hk; have := r_w0_0 kk hk2; omega)
  have o17_g0_0 := o16_g0_0.grow hg17 (by intro kk hk hk2; have := r_x00 kk hk; have := r_g0_0 kk hk2; omega)
  clear d16_0 d16_1 d16_2 d16_3 o16_w0_0 o16_x00 o16_g0_0
  have b17_0 : w.heap.size < W17.heap.size := lt_of_cell d17_0
  have b17_2 : W8.heap.size < W17.heap.size := lt_of_cell d17_2
  clear b15_0 b15_2
  go_wp2_with fail
  refine calls_named ?_
  intro V18 hV18
  have B18 : Below w.heap.size w V18 := by rw [hV18]; first | exact B17 | exact B17.alloc B17.size _ | exact (B17.alloc B17.size _).alloc (by have := B17.size; simp; omega) _
  have z18 : W17.heap.size + 0 ≤ V18.heap.size := by rw [hV18]; (first | exact Nat.le_refl _ | simp)
  have d18_0 : V18.cell? ⟨w.heap.size, 0, none⟩ = some (.int .i64 n0_0) := by rw [hV18]; first | exact d17_0 | exact cell_old d17_0 _ | exact cell_old (cell_old d17_0 _) _
  have d18_1 : V18.cell? ⟨w.heap.size, 1, none⟩ = some ((.slice av0_1 l0_1.length cv0_1)) := by rw [hV18]; first | exact d17_1 | exact cell_old d17_1 _ | exact cell_old (cell_old d17_1 _) _
  have d18_2 : V18.cell? ⟨W8.heap.size, 0, none⟩ = some (.int .i64 n0_0) := by rw [hV18]; first | exact d17_2 | exact cell_old d17_2 _ | exact cell_old (cell_old d17_2 _) _
  have d18_3 : V18.cell? ⟨W8.heap.size, 1, none⟩ = some (.slice px00 ix00 qx00) := by rw [hV18]; first | exact d17_3 | exact cell_old d17_3 _ | exact cell_old (cell_old d17_3 _) _
  have o18_w0_0 : OwnI 3 V5.heap.size V18 (.slice pw0_0 iw0_0 qw0_0) (shapOf n0_0 l0_1) := by rw [hV18]; first | exact o17_w0_0 | exact o17_w0_0.alloc _ | exact (o17_w0_0.alloc _).alloc _
  have o18_x00 : OwnI 3 V7.heap.size V18 (.slice px00 ix00 qx00) (ramp (1) (l0_1).length) := by rw [hV18]; first | exact o17_x00 | exact o17_x00.alloc _ | exact (o17_x00.alloc _).alloc _
  have o18_g0_0 : OwnI 3 V9.heap.size V18 (.slice pg0_0 ig0_0 qg0_0) (shapOf n0_0 l0_1) := by rw [hV18]; first | exact o17_g0_0 | exact o17_g0_0.alloc _ | exact (o17_g0_0.alloc _).alloc _
  skip
  clear hV18
  refine (eqIntS_any _ _ _ _ _ o18_g0_0.ints o18_w0_0.ints).mono ?_
  rintro e W19 ⟨rfl, nq19, hq19⟩
  have hb19 : Below V18.heap.size V18 W19 := by rw [hq19]; exact (Below.refl _ _).drewN' _
  clear hq19
  simp only [decide_true]
  have B19 : Below w.heap.size w W19 := B18.after hb19 B18.size
  have z19 : V18.heap.size ≤ W19.heap.size := hb19.size
  have d19_0 := keep hb19 d18_0
  have d19_1 := keep hb19 d18_1
  have d19_2 := keep hb19 d18_2
  have d19_3 := keep hb19 d18_3
  have o19_w0_0 := o18_w0_0.keep hb19
  have o19_x00 := o18_x00.keep hb19
  have o19_g0_0 := o18_g0_0.keep hb19
  clear d18_0 d18_1 d18_2 d18_3 o18_w0_0 o18_x00 o18_g0_0
  have b19_0 : w.heap.size < W19.heap.size := lt_of_cell d19_0
  have b19_2 : W8.heap.size < W19.heap.size := lt_of_cell d19_2
  clear b17_0 b17_2
  go_wp2_with fail
  refine calls_named ?_
  intro V20 hV20
  have B20 : Below w.heap.size w V20 := by rw [hV20]; first | exact B19 | exact B19.alloc B19.size _ | exact (B19.alloc B19.size _).alloc (by have := B19.size; simp; omega) _
  have z20 : W19.heap.size + 0 ≤ V20.heap.size := by rw [hV20]; (first | exact Nat.le_refl _ | simp)
  have d20_0 : V20.cell? ⟨w.heap.size, 0, none⟩ = some (.int .i64 n0_0) := by rw [hV20]; first | exact d19_0 | exact cell_old d19_0 _ | exact cell_old (cell_old d19_0 _) _
  have d20_1 : V20.cell? ⟨w.heap.size, 1, none⟩ = some ((.slice av0_1 l0_1.length cv0_1)) := by rw [hV20]; first | exact d19_1 | exact cell_old d19_1 _ | exact cell_old (cell_old d19_1 _) _
  have d20_2 : V20.cell? ⟨W8.heap.size, 0, none⟩ = some (.int .i64 n0_0) := by rw [hV20]; first | exact d19_2 | exact cell_old d19_2 _ | exact cell_old (cell_old d19_2 _) _
  have d20_3 : V20.cell? ⟨W8.heap.size, 1, none⟩ = some (.slice px00 ix00 qx00) := by rw [hV20]; first | exact d19_3 | exact cell_old d19_3 _ | exact cell_old (cell_old d19_3 _) _
  have o20_w0_0 : OwnI 3 V5.heap.size V20 (.slice pw0_0 iw0_0 qw0_0) (shapOf n0_0 l0_1) := by rw [hV20]; first | exact o19_w0_0 | exact o19_w0_0.alloc _ | exact (o19_w0_0.alloc _).alloc _
  have o20_x00 : OwnI 3 V7.heap.size V20 (.slice px00 ix00 qx00) (ramp (1) (l0_1).length) := by rw [hV20]; first | exact o19_x00 | exact o19_x00.alloc _ | exact (o19_x00.alloc _).alloc _
  have o20_g0_0 : OwnI 3 V9.heap.size V20 (.slice pg0_0 ig0_0 qg0_0) (shapOf n0_0 l0_1) := by rw [hV20]; first | exact o19_g0_0 | exact o19_g0_0.alloc _ | exact (o19_g0_0.alloc _).alloc _
  skip
  clear hV20
  refine (markIntS_any _ _ _ _ o20_g0_0 _ (by omega) (by omega) (by omega)).mono ?_
  rintro e W21 ⟨rfl, o21_g0_0, hg21⟩
  have z21 : V20.heap.size ≤ W21.heap.size := hg21.size
  have B21 : Below w.heap.size w W21 := below_grow B20 hg21 B20.size (by intro kk hk; have := r_g0_0 kk hk; omega)
  have d21_0 := grown_keep hg21 d20_0 (by intro kk hk; have := r_g0_0 kk hk; simp only []; omega)
  have d21_1 := grown_keep hg21 d20_1 (by intro kk hk; have := r_g0_0 kk hk; simp only []; omega)
  have d21_2 := grown_keep hg21 d20_2 (by intro kk hk; have := r_g0_0 kk hk; simp only []; omega)
  have d21_3 := grown_keep hg21 d20_3 (by intro kk hk; have := r_g0_0 kk hk; simp only []; omega)
  have o21_w0_0 := o20_w0_0.grow hg21 (by intro kk hk hk2; have := r_g0_0 kk hk; have := r_w0_0 kk hk2; omega)
  have o21_x00 := o20_x00.grow hg21 (by intro kk hk hk2; have := r_g0_0 kk hk; have := r_x00 kk hk2; omega)
  clear d20_0 d20_1 d20_2 d20_3 o20_w0_0 o20_x00 o20_g0_0
  have b21_0 : w.heap.size < W21.heap.size := lt_of_cell d21_0
  have b21_2 : W8.heap.size < W21.heap.size := lt_of_cell d21_2
  clear b19_0 b19_2
  go_wp2_with fail
  refine calls_named ?_
  intro V22 hV22
  have B22 : Below w.heap.size w V22 := by rw [hV22]; first | exact B21 | exact B21.alloc B21.size _ | exact (B21.alloc B21.size _).alloc (by have := B21.size; simp; omega) _
  have z22 : W21.heap.size + 0 ≤ V22.heap.size := by rw [hV22]; (first | exact Nat.le_refl _ | simp)
  have d22_0 : V22.cell? ⟨w.heap.size, 0, none⟩ = some (.int .i64 n0_0) := by rw [hV22]; first | exact d21_0 | exact cell_old d21_0 _ | exact cell_old (cell_old d21_0 _) _
  have d22_1 : V22.cell? ⟨w.heap.size, 1, none⟩ = some ((.slice av0_1 l0_1.length cv0_1)) := by rw [hV22]; first | exact d21_1 | exact cell_old d21_1 _ | exact cell_old (cell_old d21_1 _) _
  have d22_2 : V22.cell? ⟨W8.heap.size, 0, none⟩ = some (.int .i64 n0_0) := by rw [hV22]; first | exact d21_2 | exact cell_old d21_2 _ | exact cell_old (cell_old d21_2 _) _
  have d22_3 : V22.cell? ⟨W8.heap.size, 1, none⟩ = some (.slice px00 ix00 qx00) := by rw [hV22]; first | exact d21_3 | exact cell_old d21_3 _ | exact cell_old (cell_old d21_3 _) _
  have o22_w0_0 : OwnI 3 V5.heap.size V22 (.slice pw0_0 iw0_0 qw0_0) (shapOf n0_0 l0_1) := by rw [hV22]; first | exact o21_w0_0 | exact o21_w0_0.alloc _ | exact (o21_w0_0.alloc _).alloc _
  have o22_x00 : OwnI 3 V7.heap.size V22 (.slice px00 ix00 qx00) (ramp (1) (l0_1).length) := by rw [hV22]; first | exact o21_x00 | exact o21_x00.alloc _ | exact (o21_x00.alloc _).alloc _
  have o22_g0_0 : OwnI 3 V9.heap.size V22 (.slice pg0_0 ig0_0 qg0_0) (ramp (1) (shapOf n0_0 l0_1).length) := by rw [hV22]; first | exact o21_g0_0 | exact o21_g0_0.alloc _ | exact (o21_g0_0.alloc _).alloc _
  skip
  clear hV22
  refine (heldIntS_any _ _ _ _ o22_g0_0.ints (by omega) (by omega) (by omega)).mono ?_
  rintro e W23 ⟨rfl, hb23⟩
  have B23 : Below w.heap.size w W23 := B22.after hb23 B22.size
  have z23 : V22.heap.size ≤ W23.heap.size := hb23.size
  have d23_0 := keep hb23 d22_0
  have d23_1 := keep hb23 d22_1
  have d23_2 := keep hb23 d22_2
  have d23_3 := keep hb23 d22_3
  have o23_w0_0 := o22_w0_0.keep hb23
  have o23_x00 := o22_x00.keep hb23
  have o23_g0_0 := o22_g0_0.keep hb23
  clear d22_0 d22_1 d22_2 d22_3 o22_w0_0 o22_x00 o22_g0_0
  have b23_0 : w.heap.size < W23.heap.size := lt_of_cell d23_0
  have b23_2 : W8.heap.size < W23.heap.size := lt_of_cell d23_2
  clear b21_0 b21_2
  go_wp2_with fail
  refine calls_named ?_
  intro V24 hV24
  have B24 : Below w.heap.size w V24 := by rw [hV24]; first | exact B23 | exact B23.alloc B23.size _ | exact (B23.alloc B23.size _).alloc (by have := B23.size; simp; omega) _
  have z24 : W23.heap.size + 0 ≤ V24.heap.size := by rw [hV24]; (first | exact Nat.le_refl _ | simp)
  have d24_0 : V24.cell? ⟨w.heap.size, 0, none⟩ = some (.int .i64 n0_0) := by rw [hV24]; first | exact d23_0 | exact cell_old d23_0 _ | exact cell_old (cell_old d23_0 _) _
  have d24_1 : V24.cell? ⟨w.heap.size, 1, none⟩ = some ((.slice av0_1 l0_1.length cv0_1)) := by rw [hV24]; first | exact d23_1 | exact cell_old d23_1 _ | exact cell_old (cell_old d23_1 _) _
  have d24_2 : V24.cell? ⟨W8.heap.size, 0, none⟩ = some (.int .i64 n0_0) := by rw [hV24]; first | exact d23_2 | exact cell_old d23_2 _ | exact cell_old (cell_old d23_2 _) _
  have d24_3 : V24.cell? ⟨W8.heap.size, 1, none⟩ = some (.slice px00 ix00 qx00) := by rw [hV24]; first | exact d23_3 | exact cell_old d23_3 _ | exact cell_old (cell_old d23_3 _) _
  have o24_w0_0 : OwnI 3 V5.heap.size V24 (.slice pw0_0 iw0_0 qw0_0) (shapOf n0_0 l0_1) := by rw [hV24]; first | exact o23_w0_0 | exact o23_w0_0.alloc _ | exact (o23_w0_0.alloc _).alloc _
  have o24_x00 : OwnI 3 V7.heap.size V24 (.slice px00 ix00 qx00) (ramp (1) (l0_1).length) := by rw [hV24]; first | exact o23_x00 | exact o23_x00.alloc _ | exact (o23_x00.alloc _).alloc _
  have o24_g0_0 : OwnI 3 V9.heap.size V24 (.slice pg0_0 ig0_0 qg0_0) (ramp (1) (shapOf n0_0 l0_1).length) := by rw [hV24]; first | exact o23_g0_0 | exact o23_g0_0.alloc _ | exact (o23_g0_0.alloc _).alloc _
  skip
  clear hV24
  refine (toFunction_any n0_0 _ l0_1 _ (hv0_1.below B24 (Nat.le_refl _)) hlv0_1).mono ?_
  rintro e W25 ⟨phx00, ihx00, qhx00, rfl, o25_hx00, hb25⟩
  have B25 : Below w.heap.size w W25 := B24.after hb25 B24.size
  have z25 : V24.heap.size ≤ W25.heap.size := hb25.size
  have d25_0 := keep hb25 d24_0
  have d25_1 := keep hb25 d24_1
  have d25_2 := keep hb25 d24_2
  have d25_3 := keep hb25 d24_3
  have o25_w0_0 := o24_w0_0.keep hb25
  have o25_x00 := o24_x00.keep hb25
  have o25_g0_0 := o24_g0_0.keep hb25
  clear d24_0 d24_1 d24_2 d24_3 o24_w0_0 o24_x00 o24_g0_0
  have b25_0 : w.heap.size < W25.heap.size := lt_of_cell d25_0
  have b25_2 : W8.heap.size < W25.heap.size := lt_of_cell d25_2
  clear b23_0 b23_2
  have r_hx00 := o25_hx00.lt
  go_wp2_with fail
  refine calls_named ?_
  intro V26 hV26
  have B26 : Below w.heap.size w V26 := by rw [hV26]; first | exact B25 | exact B25.alloc B25.size _ | exact (B25.alloc B25.size _).alloc (by have := B25.size; simp; omega) _
  have z26 : W25.heap.size + 0 ≤ V26.heap.size := by rw [hV26]; (first | exact Nat.le_refl _ | simp)
  have d26_0 : V26.cell? ⟨w.heap.size, 0, none⟩ = some (.int .i64 n0_0) := by rw [hV26]; first | exact d25_0 | exact cell_old d25_0 _ | exact cell_old (cell_old d25_0 _) _
  have d26_1 : V26.cell? ⟨w.heap.size, 1, none⟩ = some ((.slice av0_1 l0_1.length cv0_1)) := by rw [hV26]; first | exact d25_1 | exact cell_old d25_1 _ | exact cell_old (cell_old d25_1 _) _
  have d26_2 : V26.cell? ⟨W8.heap.size, 0, none⟩ = some (.int .i64 n0_0) := by rw [hV26]; first | exact d25_2 | exact cell_old d25_2 _ | exact cell_old (cell_old d25_2 _) _
  have d26_3 : V26.cell? ⟨W8.heap.size, 1, none⟩ = some (.slice px00 ix00 qx00) := by rw [hV26]; first | exact d25_3 | exact cell_old d25_3 _ | exact cell_old (cell_old d25_3 _) _
  have o26_w0_0 : OwnI 3 V5.heap.size V26 (.slice pw0_0 iw0_0 qw0_0) (shapOf n0_0 l0_1) := by rw [hV26]; first | exact o25_w0_0 | exact o25_w0_0.alloc _ | exact (o25_w0_0.alloc _).alloc _
  have o26_x00 : OwnI 3 V7.heap.size V26 (.slice px00 ix00 qx00) (ramp (1) (l0_1).length) := by rw [hV26]; first | exact o25_x00 | exact o25_x00.alloc _ | exact (o25_x00.alloc _).alloc _
  have o26_g0_0 : OwnI 3 V9.heap.size V26 (.slice pg0_0 ig0_0 qg0_0) (ramp (1) (shapOf n0_0 l0_1).length) := by rw [hV26]; first | exact o25_g0_0 | exact o25_g0_0.alloc _ | exact (o25_g0_0.alloc _).alloc _
  have o26_hx00 : OwnI 3 V24.heap.size V26 (.slice phx00 ihx00 qhx00) (l0_1) := by rw [hV26]; first | exact o25_hx00 | exact o25_hx00.alloc _ | exact (o25_hx00.alloc _).alloc _
  skip
  clear hV26
  refine (shapI_c _ n0_0 _ l0_1 o26_hx00.ints hlv0_1).mono ?_
  rintro e W27 ⟨ph0_0, ih0_0, qh0_0, rfl, o27_h0_0, hb27⟩
  have B27 : Below w.heap.size w W27 := B26.after hb27 B26.size
  have z27 : V26.heap.size ≤ W27.heap.size := hb27.size
  have d27_0 := keep hb27 d26_0
  have d27_1 := keep hb27 d26_1
  have d27_2 := keep hb27 d26_2
  have d27_3 := keep hb27 d26_3
  have o27_w0_0 := o26_w0_0.keep hb27
  have o27_x00 := o26_x00.keep hb27
  have o27_g0_0 := o26_g0_0.keep hb27
  clear d26_0 d26_1 d26_2 d26_3 o26_w0_0 o26_x00 o26_g0_0
  have b27_0 : w.heap.size < W27.heap.size := lt_of_cell d27_0
  have b27_2 : W8.heap.size < W27.heap.size := lt_of_cell d27_2
  clear b25_0 b25_2
  have r_h0_0 := o27_h0_0.lt
  go_wp2_with fail
  refine calls_named ?_
  intro V28 hV28
  have B28 : Below w.heap.size w V28 := by rw [hV28]; first | exact B27 | exact B27.alloc B27.size _ | exact (B27.alloc B27.size _).alloc (by have := B27.size; simp; omega) _
  have z28 : W27.heap.size + 0 ≤ V28.heap.size := by rw [hV28]; (first | exact Nat.le_refl _ | simp)
  have d28_0 : V28.cell? ⟨w.heap.size, 0, none⟩ = some (.int .i64 n0_0) := by rw [hV28]; first | exact d27_0 | exact cell_old d27_0 _ | exact cell_old (cell_old d27_0 _) _
  have d28_1 : V28.cell? ⟨w.heap.size, 1, none⟩ = some ((.slice av0_1 l0_1.length cv0_1)) := by rw [hV28]; first | exact d27_1 | exact cell_old d27_1 _ | exact cell_old (cell_old d27_1 _) _
  have d28_2 : V28.cell? ⟨W8.heap.size, 0, none⟩ = some (.int .i64 n0_0) := by rw [hV28]; first | exact d27_2 | exact cell_old d27_2 _ | exact cell_old (cell_old d27_2 _) _
  have d28_3 : V28.cell? ⟨W8.heap.size, 1, none⟩ = some (.slice px00 ix00 qx00) := by rw [hV28]; first | exact d27_3 | exact cell_old d27_3 _ | exact cell_old (cell_old d27_3 _) _
  have o28_w0_0 : OwnI 3 V5.heap.size V28 (.slice pw0_0 iw0_0 qw0_0) (shapOf n0_0 l0_1) := by rw [hV28]; first | exact o27_w0_0 | exact o27_w0_0.alloc _ | exact (o27_w0_0.alloc _).alloc _
  have o28_x00 : OwnI 3 V7.heap.size V28 (.slice px00 ix00 qx00) (ramp (1) (l0_1).length) := by rw [hV28]; first | exact o27_x00 | exact o27_x00.alloc _ | exact (o27_x00.alloc _).alloc _
  have o28_g0_0 : OwnI 3 V9.heap.size V28 (.slice pg0_0 ig0_0 qg0_0) (ramp (1) (shapOf n0_0 l0_1).length) := by rw [hV28]; first | exact o27_g0_0 | exact o27_g0_0.alloc _ | exact (o27_g0_0.alloc _).alloc _
  have o28_h0_0 : OwnI 3 V26.heap.size V28 (.slice ph0_0 ih0_0 qh0_0) (shapOf n0_0 l0_1) := by rw [hV28]; first | exact o27_h0_0 | exact o27_h0_0.alloc _ | exact (o27_h0_0.alloc _).alloc _
  skip
  clear hV28
  refine (eqIntS_any _ _ _ _ _ o28_h0_0.ints o28_w0_0.ints).mono ?_
  rintro e W29 ⟨rfl, nq29, hq29⟩
  have hb29 : Below V28.heap.size V28 W29 := by rw [hq29]; exact (Below.refl _ _).drewN' _
  clear hq29
  simp only [decide_true]
  have B29 : Below w.heap.size w W29 := B28.after hb29 B28.size
  have z29 : V28.heap.size ≤ W29.heap.size := hb29.size
  have d29_0 := keep hb29 d28_0
  have d29_1 := keep hb29 d28_1
  have d29_2 := keep hb29 d28_2
  have d29_3 := keep hb29 d28_3
  have o29_w0_0 := o28_w0_0.keep hb29
  have o29_x00 := o28_x00.keep hb29
  have o29_g0_0 := o28_g0_0.keep hb29
  have o29_h0_0 := o28_h0_0.keep hb29
  clear d28_0 d28_1 d28_2 d28_3 o28_w0_0 o28_x00 o28_g0_0 o28_h0_0
  have b29_0 : w.heap.size < W29.heap.size := lt_of_cell d29_0
  have b29_2 : W8.heap.size < W29.heap.size := lt_of_cell d29_2
  clear b27_0 b27_2
  go_wp2_with fail
  refine calls_named ?_
  intro V30 hV30
  have B30 : Below w.heap.size w V30 := by rw [hV30]; first | exact B29 | exact B29.alloc B29.size _ | exact (B29.alloc B29.size _).alloc (by have := B29.size; simp; omega) _
  have z30 : W29.heap.size + 0 ≤ V30.heap.size := by rw [hV30]; (first | exact Nat.le_refl _ | simp)
  have d30_0 : V30.cell? ⟨w.heap.size, 0, none⟩ = some (.int .i64 n0_0) := by rw [hV30]; first | exact d29_0 | exact cell_old d29_0 _ | exact cell_old (cell_old d29_0 _) _
  have d30_1 : V30.cell? ⟨w.heap.size, 1, none⟩ = some ((.slice av0_1 l0_1.length cv0_1)) := by rw [hV30]; first | exact d29_1 | exact cell_old d29_1 _ | exact cell_old (cell_old d29_1 _) _
  have d30_2 : V30.cell? ⟨W8.heap.size, 0, none⟩ = some (.int .i64 n0_0) := by rw [hV30]; first | exact d29_2 | exact cell_old d29_2 _ | exact cell_old (cell_old d29_2 _) _
  have d30_3 : V30.cell? ⟨W8.heap.size, 1, none⟩ = some (.slice px00 ix00 qx00) := by rw [hV30]; first | exact d29_3 | exact cell_old d29_3 _ | exact cell_old (cell_old d29_3 _) _
  have o30_w0_0 : OwnI 3 V5.heap.size V30 (.slice pw0_0 iw0_0 qw0_0) (shapOf n0_0 l0_1) := by rw [hV30]; first | exact o29_w0_0 | exact o29_w0_0.alloc _ | exact (o29_w0_0.alloc _).alloc _
  have o30_x00 : OwnI 3 V7.heap.size V30 (.slice px00 ix00 qx00) (ramp (1) (l0_1).length) := by rw [hV30]; first | exact o29_x00 | exact o29_x00.alloc _ | exact (o29_x00.alloc _).alloc _
  have o30_g0_0 : OwnI 3 V9.heap.size V30 (.slice pg0_0 ig0_0 qg0_0) (ramp (1) (shapOf n0_0 l0_1).length) := by rw [hV30]; first | exact o29_g0_0 | exact o29_g0_0.alloc _ | exact (o29_g0_0.alloc _).alloc _
  have o30_h0_0 : OwnI 3 V26.heap.size V30 (.slice ph0_0 ih0_0 qh0_0) (shapOf n0_0 l0_1) := by rw [hV30]; first | exact o29_h0_0 | exact o29_h0_0.alloc _ | exact (o29_h0_0.alloc _).alloc _
  skip
  clear hV30
  refine (heldIntS_any _ _ _ _ o30_g0_0.ints (by omega) (by omega) (by omega)).mono ?_
  rintro e W31 ⟨rfl, hb31⟩
  have B31 : Below w.heap.size w W31 := B30.after hb31 B30.size
  have z31 : V30.heap.size ≤ W31.heap.size := hb31.size
  have d31_0 := keep hb31 d30_0
  have d31_1 := keep hb31 d30_1
  have d31_2 := keep hb31 d30_2
  have d31_3 := keep hb31 d30_3
  have o31_w0_0 := o30_w0_0.keep hb31
  have o31_x00 := o30_x00.keep hb31
  have o31_g0_0 := o30_g0_0.keep hb31
  have o31_h0_0 := o30_h0_0.keep hb31
  clear d30_0 d30_1 d30_2 d30_3 o30_w0_0 o30_x00 o30_g0_0 o30_h0_0
  have b31_0 : w.heap.size < W31.heap.size := lt_of_cell d31_0
  have b31_2 : W8.heap.size < W31.heap.size := lt_of_cell d31_2
  clear b29_0 b29_2
  go_wp2
  go_ret
  exact ⟨rfl, B31⟩

theorem fnExactShapleyOf_params : Try.f13.params = #[35] := by kernel_rfl
set_option maxRecDepth 100000 in
theorem fnExactShapleyOf_lifted (os : Os) (started : os.Started) (H : Type) (enc : TypeId × Value → H) :
    ReturnsInHanded {} Try.checked os 13 .any (Rows.fnExactShapleyOfSpec.pre6 enc Try.prog Try.f13 Rows.fnExactShapleyOfRow.domain false) (Rows.fnExactShapleyOfSpec.post enc Try.prog Try.f13 false true false false) := by
  refine law_lift os started H enc Try.func13 (by kernel_rfl) rfl (by kernel_rfl) (by kernel_rfl) ?_
    (ChangeSpec.witness6 (enc := enc) (C := Try.checked) false ⟨#[], #[.agg #[.int .i64 0, .slice none 0 0]], []⟩ 8 (by kernel_rfl) (by kernel_rfl) (by kernel_rfl) (by kernel_rfl)) ?_
  · intro ds hds
    rw [fnExactShapleyOf_params] at hds
    match ds, hds with
    | [d0], _ => rfl
  · intro W base args ds p hval hA
    rw [fnExactShapleyOf_params] at hA hval
    obtain ⟨v0, vs0, d0, ds0, p0, q0, hargs, rfl, rfl, h0, r0⟩ := trodAll_cons hA
    obtain ⟨rfl, rfl, rfl⟩ := trodAll_nil r0
    obtain rfl : args = #[v0] := by cases args; simp_all
    obtain ⟨n0, u0, l0, rfl, w0, x0⟩ := rd_fun (hval 0 35 v0 rfl rfl) h0
    exact shap_walk W n0 u0 l0 w0 x0

theorem fnExactShapleyOf_holds : Rows.FnExactShapleyOfSaid :=
  OpenClaim.holds_of_wide 13 Try.f13 rfl rfl rfl rfl rfl rfl rfl ⟨rfl, rfl, rfl, rfl, rfl⟩ rfl rfl rfl rfl rfl (by kernel_rfl) Try.func13 (by kernel_rfl)
    (of_decide_eq_true (by kernel_rfl)) (by unfold Func.isWrapper; first | (rw [if_pos (by decide +kernel)]; kernel_rfl) | (rw [if_neg (by decide +kernel)]; exact ⟨rfl, rfl⟩))
    (fun os started H enc _ => fnExactShapleyOf_lifted os started H enc)
end Go.Proofs.Ytmmaleidaghooaa
