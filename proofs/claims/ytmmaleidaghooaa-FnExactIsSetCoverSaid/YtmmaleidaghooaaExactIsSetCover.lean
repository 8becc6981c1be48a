/- The statement FnExactIsSetCover: for every input the call returns true and each argument reads as it did. No condition. -/
import Derived.Test.YtmmaleidaghooaaRead
import Derived.Test.YtmmaleidaghooaaTo
import Derived.Test.YtmmaleidaghooaaEq
import Derived.Test.YtmmaleidaghooaaMark
import Derived.Deep.RegionHeld3
import Derived.Test.YtmmaleidaghooaaCover
namespace Go.Proofs.Ytmmaleidaghooaa
open Go.ChangeShapes Go.WideShapes Go.ChangeAt Go.RowKit Go.G5
set_option maxHeartbeats 2000000 in
set_option maxRecDepth 100000 in
theorem isSetCover_walk (w : World) (n0_0 : Int) (v0_1 : Value) (l0_1 : List Int) (_ : InR n0_0) (hv0_1 : Ints w v0_1 l0_1) (v1_0 : Value) (l1_0 : List Int) (hv1_0 : Ints w v1_0 l1_0) :
    Calls Try.prog 8 #[.agg #[.int .i64 n0_0, v0_1], v1_0] w fun e w' => e = .returned (.bool true) ∧ Below w.heap.size w w' := by
  obtain ⟨av0_1, cv0_1, rfl⟩ := hv0_1.shape
  obtain ⟨av1_0, cv1_0, rfl⟩ := hv1_0.shape
  by_cases hlv1_0 : l1_0.length ≤ 1048576
  rotate_left
  · go_enter Try.func8, Try.ntmps8
    go_wp2
    go_ret
    exact ⟨rfl, (by repeat (first | exact Below.refl _ _ | (with_reducible refine Below.setCell ?_ (by first | omega | (simp; done) | (simp; omega)) _) | (with_reducible refine Below.alloc ?_ (by first | omega | (simp; done) | (simp; omega)) _) | (with_reducible refine Below.drewN' ?_ _) | (with_reducible refine Below.drew ?_) | (with_reducible assumption) | refine Below.trans ?_ (Below.mono (by assumption) (by first | omega | (simp; done) | (simp; omega)))))⟩
  go_enter Try.func8, Try.ntmps8
  go_wp2_with fail
  refine calls_named ?_
  intro V1 hV1
  have B1 : Below w.heap.size w V1 := by rw [hV1]; exact (by repeat (first | exact Below.refl _ _ | (with_reducible refine Below.setCell ?_ (by first | omega | (simp; done) | (simp; omega)) _) | (with_reducible refine Below.alloc ?_ (by first | omega | (simp; done) | (simp; omega)) _) | (with_reducible refine Below.drewN' ?_ _) | (with_reducible refine Below.drew ?_) | (with_reducible assumption) | refine Below.trans ?_ (Below.mono (by assumption) (by first | omega | (simp; done) | (simp; omega)))))
  have z1 : w.heap.size + 1 ≤ V1.heap.size := by rw [hV1]; (first | simp | omega)
  have d1_0 : V1.cell? ⟨w.heap.size, 0, none⟩ = some (.int .i64 n0_0) := by rw [hV1]; simp [go_sem]
  have d1_1 : V1.cell? ⟨w.heap.size, 1, none⟩ = some ((.slice av0_1 l0_1.length cv0_1)) := by rw [hV1]; simp [go_sem]
  clear hV1
  refine (szFamily_c n0_0 _ l0_1 _ _ (hv0_1.below B1 (Nat.le_refl _)) (by omega) (by omega)).mono ?_
  rintro e W2 ⟨⟨s0, rfl, hs0⟩, hb2⟩
  have B2 : Below w.heap.size w W2 := B1.after hb2 B1.size
  have z2 : V1.heap.size ≤ W2.heap.size := hb2.size
  have d2_0 := keep hb2 d1_0
  have d2_1 := keep hb2 d1_1
  clear d1_0 d1_1
  have b2_0 : w.heap.size < W2.heap.size := lt_of_cell d2_0
  rcases hs0 with hs0 | ⟨g0_0, g0_1, hlv0_1'⟩
  · go_wp2
    go_ret
    exact ⟨rfl, B2⟩
  have hlv0_1 : l0_1.length ≤ 1048576 := by omega
  go_wp2_with fail
  refine calls_named ?_
  intro V3 hV3
  have B3 : Below w.heap.size w V3 := by rw [hV3]; first | exact B2 | exact B2.alloc B2.size _ | exact (B2.alloc B2.size _).alloc (by have := B2.size; simp; omega) _
  have z3 : W2.heap.size + 0 ≤ V3.heap.size := by rw [hV3]; (first | exact Nat.le_refl _ | simp)
  have d3_0 : V3.cell? ⟨w.heap.size, 0, none⟩ = some (.int .i64 n0_0) := by rw [hV3]; first | exact d2_0 | exact cell_old d2_0 _ | exact cell_old (cell_old d2_0 _) _
  have d3_1 : V3.cell? ⟨w.heap.size, 1, none⟩ = some ((.slice av0_1 l0_1.length cv0_1)) := by rw [hV3]; first | exact d2_1 | exact cell_old d2_1 _ | exact cell_old (cell_old d2_1 _) _
  skip
  clear hV3
  refine (toFamily_any n0_0 _ l0_1 _ (hv0_1.below B3 (Nat.le_refl _)) hlv0_1).mono ?_
  rintro e W4 ⟨pwx00, iwx00, qwx00, rfl, o4_wx00, hb4⟩
  have B4 : Below w.heap.size w W4 := B3.after hb4 B3.size
  have z4 : V3.heap.size ≤ W4.heap.size := hb4.size
  have d4_0 := keep hb4 d3_0
  have d4_1 := keep hb4 d3_1
  clear d3_0 d3_1
  have b4_0 : w.heap.size < W4.heap.size := lt_of_cell d4_0
  clear b2_0
  have r_wx00 := o4_wx00.lt
  go_wp2_with fail
  refine calls_named ?_
  intro V5 hV5
  have B5 : Below w.heap.size w V5 := by rw [hV5]; first | exact B4 | exact B4.alloc B4.size _ | exact (B4.alloc B4.size _).alloc (by have := B4.size; simp; omega) _
  have z5 : W4.heap.size + 0 ≤ V5.heap.size := by rw [hV5]; (first | exact Nat.le_refl _ | simp)
  have d5_0 : V5.cell? ⟨w.heap.size, 0, none⟩ = some (.int .i64 n0_0) := by rw [hV5]; first | exact d4_0 | exact cell_old d4_0 _ | exact cell_old (cell_old d4_0 _) _
  have d5_1 : V5.cell? ⟨w.heap.size, 1, none⟩ = some ((.slice av0_1 l0_1.length cv0_1)) := by rw [hV5]; first | exact d4_1 | exact cell_old d4_1 _ | exact cell_old (cell_old d4_1 _) _
  have o5_wx00 : OwnI 3 V3.heap.size V5 (.slice pwx00 iwx00 qwx00) (l0_1) := by rw [hV5]; first | exact o4_wx00 | exact o4_wx00.alloc _ | exact (o4_wx00.alloc _).alloc _
  skip
  clear hV5
  refine (toIntS_any _ l1_0 _ (hv1_0.below B5 (Nat.le_refl _)) hlv1_0).mono ?_
  rintro e W6 ⟨pwx10, iwx10, qwx10, rfl, o6_wx10, hb6⟩
  have B6 : Below w.heap.size w W6 := B5.after hb6 B5.size
  have z6 : V5.heap.size ≤ W6.heap.size := hb6.size
  have d6_0 := keep hb6 d5_0
  have d6_1 := keep hb6 d5_1
  have o6_wx00 := o5_wx00.keep hb6
  clear d5_0 d5_1 o5_wx00
  have b6_0 : w.heap.size < W6.heap.size := lt_of_cell d6_0
  clear b4_0
  have r_wx10 := o6_wx10.lt
  go_wp2_with fail
  refine calls_named ?_
  intro V7 hV7
  have B7 : Below w.heap.size w V7 := by rw [hV7]; first | exact B6 | exact B6.alloc B6.size _ | exact (B6.alloc B6.size _).alloc (by have := B6.size; simp; omega) _
  have z7 : W6.heap.size + 0 ≤ V7.heap.size := by rw [hV7]; (first | exact Nat.le_refl _ | simp)
  have d7_0 : V7.cell? ⟨w.heap.size, 0, none⟩ = some (.int .i64 n0_0) := by rw [hV7]; first | exact d6_0 | exact cell_old d6_0 _ | exact cell_old (cell_old d6_0 _) _
  have d7_1 : V7.cell? ⟨w.heap.size, 1, none⟩ = some ((.slice av0_1 l0_1.length cv0_1)) := by rw [hV7]; first | exact d6_1 | exact cell_old d6_1 _ | exact cell_old (cell_old d6_1 _) _
  have o7_wx00 : OwnI 3 V3.heap.size V7 (.slice pwx00 iwx00 qwx00) (l0_1) := by rw [hV7]; first | exact o6_wx00 | exact o6_wx00.alloc _ | exact (o6_wx00.alloc _).alloc _
  have o7_wx10 : OwnI 3 V5.heap.size V7 (.slice pwx10 iwx10 qwx10) (l1_0) := by rw [hV7]; first | exact o6_wx10 | exact o6_wx10.alloc _ | exact (o6_wx10.alloc _).alloc _
  skip
  clear hV7
  refine (isCoverS_c _ n0_0 _ l0_1 o7_wx00.ints hlv0_1 _ l1_0 o7_wx10.ints hlv1_0).mono ?_
  rintro e W8 ⟨rfl, hb8⟩
  have B8 : Below w.heap.size w W8 := B7.after hb8 B7.size
  have z8 : V7.heap.size ≤ W8.heap.size := hb8.size
  have d8_0 := keep hb8 d7_0
  have d8_1 := keep hb8 d7_1
  clear d7_0 d7_1
  have b8_0 : w.heap.size < W8.heap.size := lt_of_cell d8_0
  clear b6_0
  go_wp2_with fail
  refine calls_named ?_
  intro V9 hV9
  have B9 : Below w.heap.size w V9 := by rw [hV9]; first | exact B8 | exact B8.alloc B8.size _ | exact (B8.alloc B8.size _).alloc (by have := B8.size; simp; omega) _
  have z9 : W8.heap.size + 0 ≤ V9.heap.size := by rw [hV9]; (first | exact Nat.le_refl _ | simp)
  have d9_0 : V9.cell? ⟨w.heap.size, 0, none⟩ = some (.int .i64 n0_0) := by rw [hV9]; first | exact d8_0 | exact cell_old d8_0 _ | exact cell_old (cell_old d8_0 _) _
  have d9_1 : V9.cell? ⟨w.heap.size, 1, none⟩ = some ((.slice av0_1 l0_1.length cv0_1)) := by rw [hV9]; first | exact d8_1 | exact cell_old d8_1 _ | exact cell_old (cell_old d8_1 _) _
  skip
  clear hV9
  refine (toFamily_any n0_0 _ l0_1 _ (hv0_1.below B9 (Nat.le_refl _)) hlv0_1).mono ?_
  rintro e W10 ⟨px00, ix00, qx00, rfl, o10_x00, hb10⟩
  have B10 : Below w.heap.size w W10 := B9.after hb10 B9.size
  have z10 : V9.heap.size ≤ W10.heap.size := hb10.size
  have d10_0 := keep hb10 d9_0
  have d10_1 := keep hb10 d9_1
  clear d9_0 d9_1
  have b10_0 : w.heap.size < W10.heap.size := lt_of_cell d10_0
  clear b8_0
  have r_x00 := o10_x00.lt
  go_wp2_with fail
  refine calls_named ?_
  intro V11 hV11
  have B11 : Below w.heap.size w V11 := by rw [hV11]; first | exact B10 | exact B10.alloc B10.size _ | exact (B10.alloc B10.size _).alloc (by have := B10.size; simp; omega) _
  have z11 : W10.heap.size + 1 ≤ V11.heap.size := by rw [hV11]; (first | exact Nat.le_refl _ | simp)
  have d11_0 : V11.cell? ⟨w.heap.size, 0, none⟩ = some (.int .i64 n0_0) := by rw [hV11]; first | exact d10_0 | exact cell_old d10_0 _ | exact cell_old (cell_old d10_0 _) _
  have d11_1 : V11.cell? ⟨w.heap.size, 1, none⟩ = some ((.slice av0_1 l0_1.length cv0_1)) := by rw [hV11]; first | exact d10_1 | exact cell_old d10_1 _ | exact cell_old (cell_old d10_1 _) _
  have d11_2 : V11.cell? ⟨W10.heap.size, 0, none⟩ = some (.int .i64 n0_0) := by rw [hV11]; first | exact cell_new _ _ _ _ _ rfl | exact cell_old (cell_new _ _ _ _ _ rfl) _ | simp [go_sem]
  have d11_3 : V11.cell? ⟨W10.heap.size, 1, none⟩ = some (.slice px00 ix00 qx00) := by rw [hV11]; first | exact cell_new _ _ _ _ _ rfl | exact cell_old (cell_new _ _ _ _ _ rfl) _ | simp [go_sem]
  have o11_x00 : OwnI 3 V9.heap.size V11 (.slice px00 ix00 qx00) (l0_1) := by rw [hV11]; first | exact o10_x00 | exact o10_x00.alloc _ | exact (o10_x00.alloc _).alloc _
  skip
  clear hV11
  refine (toIntS_any _ l1_0 _ (hv1_0.below B11 (Nat.le_refl _)) hlv1_0).mono ?_
  rintro e W12 ⟨px10, ix10, qx10, rfl, o12_x10, hb12⟩
  have B12 : Below w.heap.size w W12 := B11.after hb12 B11.size
  have z12 : V11.heap.size ≤ W12.heap.size := hb12.size
  have d12_0 := keep hb12 d11_0
  have d12_1 := keep hb12 d11_1
  have d12_2 := keep hb12 d11_2
  have d12_3 := keep hb12 d11_3
  have o12_x00 := o11_x00.keep hb12
  clear d11_0 d11_1 d11_2 d11_3 o11_x00
  have b12_0 : w.heap.size < W12.heap.size := lt_of_cell d12_0
  have b12_2 : W10.heap.size < W12.heap.size := lt_of_cell d12_2
  clear b10_0
  have r_x10 := o12_x10.lt
  go_wp2_with fail
  refine calls_named ?_
  intro V13 hV13
  have B13 : Below w.heap.size w V13 := by rw [hV13]; first | exact B12 | exact B12.alloc B12.size _ | exact (B12.alloc B12.size _).alloc (by have := B12.size; simp; omega) _
  have z13 : W12.heap.size + 0 ≤ V13.heap.size := by rw [hV13]; (first | exact Nat.le_refl _ | simp)
  have d13_0 : V13.cell? ⟨w.heap.size, 0, none⟩ = some (.int .i64 n0_0) := by rw [hV13]; first | exact d12_0 | exact cell_old d12_0 _ | exact cell_old (cell_old d12_0 _) _
  have d13_1 : V13.cell? ⟨w.heap.size, 1, none⟩ = some ((.slice av0_1 l0_1.length cv0_1)) := by rw [hV13]; first | exact d12_1 | exact cell_old d12_1 _ | exact cell_old (cell_old d12_1 _) _
  have d13_2 : V13.cell? ⟨W10.heap.size, 0, none⟩ = some (.int .i64 n0_0) := by rw [hV13]; first | exact d12_2 | exact cell_old d12_2 _ | exact cell_old (cell_old d12_2 _) _
  have d13_3 : V13.cell? ⟨W10.heap.size, 1, none⟩ = some (.slice px00 ix00 qx00) := by rw [hV13]; first | exact d12_3 | exact cell_old d12_3 _ | exact cell_old (cell_old d12_3 _) _
  have o13_x00 : OwnI 3 V9.heap.size V13 (.slice px00 ix00 qx00) (l0_1) := by rw [hV13]; first | exact o12_x00 | exact o12_x00.alloc _ | exact (o12_x00.alloc _).alloc _
  have o13_x10 : OwnI 3 V11.heap.size V13 (.slice px10 ix10 qx10) (l1_0) := by rw [hV13]; first | exact o12_x10 | exact o12_x10.alloc _ | exact (o12_x10.alloc _).alloc _
  skip
  clear hV13
  refine (isCoverI_c _ n0_0 _ l0_1 o13_x00.ints hlv0_1 _ l1_0 o13_x10.ints hlv1_0).mono ?_
  rintro e W14 ⟨rfl, hb14⟩
  have B14 : Below w.heap.size w W14 := B13.after hb14 B13.size
  have z14 : V13.heap.size ≤ W14.heap.size := hb14.size
  have d14_0 := keep hb14 d13_0
  have d14_1 := keep hb14 d13_1
  have d14_2 := keep hb14 d13_2
  have d14_3 := keep hb14 d13_3
  have o14_x00 := o13_x00.keep hb14
  have o14_x10 := o13_x10.keep hb14
  clear d13_0 d13_1 d13_2 d13_3 o13_x00 o13_x10
  have b14_0 : w.heap.size < W14.heap.size := lt_of_cell d14_0
  have b14_2 : W10.heap.size < W14.heap.size := lt_of_cell d14_2
  clear b12_0 b12_2
  go_wp2_with fail
  have y15_0 : w.heap.size < W14.heap.size := lt_of_cell d14_0
  have y15_1 : w.heap.size < W14.heap.size := lt_of_cell d14_1
  have y15_2 : W10.heap.size < W14.heap.size := lt_of_cell d14_2
  have y15_3 : W10.heap.size < W14.heap.size := lt_of_cell d14_3
  go_region_held3 (fun w' => w'.cell? ⟨w.heap.size, 0, none⟩ = some (.int .i64 n0_0) ∧ w'.cell? ⟨w.heap.size, 1, none⟩ = some ((.slice av0_1 l0_1.length cv0_1)) ∧ w'.cell? ⟨W10.heap.size, 0, none⟩ = some (.int .i64 n0_0) ∧ w'.cell? ⟨W10.heap.size, 1, none⟩ = some (.slice px00 ix00 qx00)) (go_keep)
    (first
      | (go_at_call 33; refine (toFamily_any n0_0 _ l0_1 _ (hv0_1.below (B := w.heap.size) (by repeat (first | exact Below.refl _ _ | (with_reducible refine Below.setCell ?_ (by first | omega | (simp; done) | (simp; omega)) _) | (with_reducible refine Below.alloc ?_ (by first | omega | (simp; done) | (simp; omega)) _) | (with_reducible refine Below.drewN' ?_ _) | (with_reducible refine Below.drew ?_) | (with_reducible assumption) | refine Below.trans ?_ (Below.mono (by assumption) (by first | omega | (simp; done) | (simp; omega))))) (Nat.le_refl _)) hlv0_1).mono ?_; rintro e W16 ⟨py16x0, iy16x0, qy16x0, rfl, o16_y16x0, hb16⟩; obtain ⟨hc16, hf16⟩ := bcellN hb16 (W14.heap.size) (by first | omega | (simp; done) | (simp; omega)); have z16 := hb16.size; (try simp at z16))
      | (go_at_call 35; refine (eqFamily_any n0_0 n0_0 _ _ _ _ _ ((o14_x00.drewN 1).below hb16 (by first | omega | (simp; done) | (simp; omega))).ints o16_y16x0.ints).mono ?_; rintro e W17 ⟨rfl, hb17⟩; obtain ⟨hc17, hf17⟩ := bcellN hb17 (W14.heap.size) (by first | omega | (simp; done) | (simp; omega)); have z17 := hb17.size; (try simp at z17)))
  have B17 : Below w.heap.size w W17 := (by repeat (first | exact Below.refl _ _ | (with_reducible refine Below.setCell ?_ (by first | omega | (simp; done) | (simp; omega)) _) | (with_reducible refine Below.alloc ?_ (by first | omega | (simp; done) | (simp; omega)) _) | (with_reducible refine Below.drewN' ?_ _) | (with_reducible refine Below.drew ?_) | (with_reducible assumption) | refine Below.trans ?_ (Below.mono (by assumption) (by first | omega | (simp; done) | (simp; omega)))))
  have hS := (‹W17.cell? ⟨w.heap.size, 0, none⟩ = some (.int .i64 n0_0) ∧ W17.cell? ⟨w.heap.size, 1, none⟩ = some ((.slice av0_1 l0_1.length cv0_1)) ∧ W17.cell? ⟨W10.heap.size, 0, none⟩ = some (.int .i64 n0_0) ∧ W17.cell? ⟨W10.heap.size, 1, none⟩ = some (.slice px00 ix00 qx00)› : W17.cell? ⟨w.heap.size, 0, none⟩ = some (.int .i64 n0_0) ∧ W17.cell? ⟨w.heap.size, 1, none⟩ = some ((.slice av0_1 l0_1.length cv0_1)) ∧ W17.cell? ⟨W10.heap.size, 0, none⟩ = some (.int .i64 n0_0) ∧ W17.cell? ⟨W10.heap.size, 1, none⟩ = some (.slice px00 ix00 qx00))
  obtain ⟨d17_0, d17_1, d17_2, d17_3⟩ := hS
  have o17_x00 : OwnI 3 V9.heap.size W17 (.slice px00 ix00 qx00) (l0_1) := (((o14_x00.drewN 1).below hb16 (by first | omega | (simp; done) | (simp; omega))).below hb17 (by first | omega | (simp; done) | (simp; omega)))
  have o17_x10 : OwnI 3 V11.heap.size W17 (.slice px10 ix10 qx10) (l1_0) := (((o14_x10.drewN 1).below hb16 (by first | omega | (simp; done) | (simp; omega))).below hb17 (by first | omega | (simp; done) | (simp; omega)))
  have z17' : W14.heap.size ≤ W17.heap.size := by omega
  clear d14_0 d14_1 d14_2 d14_3 o14_x00 o14_x10 hc16 hf16 hc17 hf17 y15_0 y15_1 y15_2 y15_3
  have b17_0 : w.heap.size < W17.heap.size := lt_of_cell d17_0
  have b17_2 : W10.heap.size < W17.heap.size := lt_of_cell d17_2
  clear b14_0 b14_2
  go_wp2_with fail
  refine calls_named ?_
  intro V19 hV19
  have B19 : Below w.heap.size w V19 := by rw [hV19]; first | exact B17 | exact B17.alloc B17.size _ | exact (B17.alloc B17.size _).alloc (by have := B17.size; simp; omega) _
  have z19 : W17.heap.size + 0 ≤ V19.heap.size := by rw [hV19]; (first | exact Nat.le_refl _ | simp)
  have d19_0 : V19.cell? ⟨w.heap.size, 0, none⟩ = some (.int .i64 n0_0) := by rw [hV19]; first | exact d17_0 | exact cell_old d17_0 _ | exact cell_old (cell_old d17_0 _) _
  have d19_1 : V19.cell? ⟨w.heap.size, 1, none⟩ = some ((.slice av0_1 l0_1.length cv0_1)) := by rw [hV19]; first | exact d17_1 | exact cell_old d17_1 _ | exact cell_old (cell_old d17_1 _) _
  have d19_2 : V19.cell? ⟨W10.heap.size, 0, none⟩ = some (.int .i64 n0_0) := by rw [hV19]; first | exact d17_2 | exact cell_old d17_2 _ | exact cell_old (cell_old d17_2 _) _
  have d19_3 : V19.cell? ⟨W10.heap.size, 1, none⟩ = some (.slice px00 ix00 qx00) := by rw [hV19]; first | exact d17_3 | exact cell_old d17_3 _ | exact cell_old (cell_old d17_3 _) _
  have o19_x00 : OwnI 3 V9.heap.size V19 (.slice px00 ix00 qx00) (l0_1) := by rw [hV19]; first | exact o17_x00 | exact o17_x00.alloc _ | exact (o17_x00.alloc _).alloc _
  have o19_x10 : OwnI 3 V11.heap.size V19 (.slice px10 ix10 qx10) (l1_0) := by rw [hV19]; first | exact o17_x10 | exact o17_x10.alloc _ | exact (o17_x10.alloc _).alloc _
  skip
  clear hV19
  refine (toIntS_any _ l1_0 _ (hv1_0.below B19 (Nat.le_refl _)) hlv1_0).mono ?_
  rintro e W20 ⟨py1_180, iy1_180, qy1_180, rfl, o20_y1_180, hb20⟩
  have B20 : Below w.heap.size w W20 := B19.after hb20 B19.size
  have z20 : V19.heap.size ≤ W20.heap.size := hb20.size
  have d20_0 := keep hb20 d19_0
  have d20_1 := keep hb20 d19_1
  have d20_2 := keep hb20 d19_2
  have d20_3 := keep hb20 d19_3
  have o20_x00 := o19_x00.keep hb20
  have o20_x10 := o19_x10.keep hb20
  clear d19_0 d19_1 d19_2 d19_3 o19_x00 o19_x10
  have b20_0 : w.heap.size < W20.heap.size := lt_of_cell d20_0
  have b20_2 : W10.heap.size < W20.heap.size := lt_of_cell d20_2
  clear b17_0 b17_2
  have r_y1_180 := o20_y1_180.lt
  go_wp2_with fail
  refine calls_named ?_
  intro V21 hV21
  have B21 : Below w.heap.size w V21 := by rw [hV21]; first | exact B20 | exact B20.alloc B20.size _ | exact (B20.alloc B20.size _).alloc (by have := B20.size; simp; omega) _
  have z21 : W20.heap.size + 0 ≤ V21.heap.size := by rw [hV21]; (first | exact Nat.le_refl _ | simp)
  have d21_0 : V21.cell? ⟨w.heap.size, 0, none⟩ = some (.int .i64 n0_0) := by rw [hV21]; first | exact d20_0 | exact cell_old d20_0 _ | exact cell_old (cell_old d20_0 _) _
  have d21_1 : V21.cell? ⟨w.heap.size, 1, none⟩ = some ((.slice av0_1 l0_1.length cv0_1)) := by rw [hV21]; first | exact d20_1 | exact cell_old d20_1 _ | exact cell_old (cell_old d20_1 _) _
  have d21_2 : V21.cell? ⟨W10.heap.size, 0, none⟩ = some (.int .i64 n0_0) := by rw [hV21]; first | exact d20_2 | exact cell_old d20_2 _ | exact cell_old (cell_old d20_2 _) _
  have d21_3 : V21.cell? ⟨W10.heap.size, 1, none⟩ = some (.slice px00 ix00 qx00) := by rw [hV21]; first | exact d20_3 | exact cell_old d20_3 _ | exact cell_old (cell_old d20_3 _) _
  have o21_x00 : OwnI 3 V9.heap.size V21 (.slice px00 ix00 qx00) (l0_1) := by rw [hV21]; first | exact o20_x00 | exact o20_x00.alloc _ | exact (o20_x00.alloc _).alloc _
  have o21_x10 : OwnI 3 V11.heap.size V21 (.slice px10 ix10 qx10) (l1_0) := by rw [hV21]; first | exact o20_x10 | exact o20_x10.alloc _ | exact (o20_x10.alloc _).alloc _
  have o21_y1_180 : OwnI 3 V19.heap.size V21 (.slice py1_180 iy1_180 qy1_180) (l1_0) := by rw [hV21]; first | exact o20_y1_180 | exact o20_y1_180.alloc _ | exact (o20_y1_180.alloc _).alloc _
  skip
  clear hV21
  refine (eqIntS_any _ _ _ _ _ o21_x10.ints o21_y1_180.ints).mono ?_
  rintro e W22 ⟨rfl, nq22, hq22⟩
  have hb22 : Below V21.heap.size V21 W22 := by rw [hq22]; exact (Below.refl _ _).drewN' _
  clear hq22
  simp only [decide_true]
  have B22 : Below w.heap.size w W22 := B21.after hb22 B21.size
  have z22 : V21.heap.size ≤ W22.heap.size := hb22.size
  have d22_0 := keep hb22 d21_0
  have d22_1 := keep hb22 d21_1
  have d22_2 := keep hb22 d21_2
  have d22_3 := keep hb22 d21_3
  have o22_x00 := o21_x00.keep hb22
  have o22_x10 := o21_x10.keep hb22
  have o22_y1_180 := o21_y1_180.keep hb22
  clear d21_0 d21_1 d21_2 d21_3 o21_x00 o21_x10 o21_y1_180
  have b22_0 : w.heap.size < W22.heap.size := lt_of_cell d22_0
  have b22_2 : W10.heap.size < W22.heap.size := lt_of_cell d22_2
  clear b20_0 b20_2
  go_wp2
  go_ret
  exact ⟨rfl, B22⟩

theorem fnExactIsSetCover_params : Try.f8.params = #[41, 24] := by kernel_rfl
set_option maxRecDepth 100000 in
theorem fnExactIsSetCover_lifted (os : Os) (started : os.Started) (H : Type) (enc : TypeId × Value → H) :
    ReturnsInHanded {} Try.checked os 8 .any (Rows.fnExactIsSetCoverSpec.pre6 enc Try.prog Try.f8 Rows.fnExactIsSetCoverRow.domain false) (Rows.fnExactIsSetCoverSpec.post enc Try.prog Try.f8 false true false false) := by
  refine law_lift os started H enc Try.func8 (by kernel_rfl) rfl (by kernel_rfl) (by kernel_rfl) ?_
    (ChangeSpec.witness6 (enc := enc) (C := Try.checked) false ⟨#[], #[.agg #[.int .i64 0, .slice none 0 0], .slice none 0 0], []⟩ 8 (by kernel_rfl) (by kernel_rfl) (by kernel_rfl) (by kernel_rfl)) ?_
  · intro ds hds
    rw [fnExactIsSetCover_params] at hds
    match ds, hds with
    | [d0, d1], _ => rfl
  · intro W base args ds p hval hA
    rw [fnExactIsSetCover_params] at hA hval
    obtain ⟨v0, vs0, d0, ds0, p0, q0, hargs, rfl, rfl, h0, r0⟩ := trodAll_cons hA
    obtain ⟨v1, vs1, d1, ds1, p1, q1, rfl, rfl, rfl, h1, r1⟩ := trodAll_cons r0
    obtain ⟨rfl, rfl, rfl⟩ := trodAll_nil r1
    obtain rfl : args = #[v0, v1] := by cases args; simp_all
    obtain ⟨n0, u0, l0, rfl, w0, x0⟩ := rd_fam (hval 0 41 v0 rfl rfl) h0
    obtain ⟨l1, w1⟩ := rd_ints (hval 1 24 v1 rfl rfl) h1
    exact isSetCover_walk W n0 u0 l0 w0 x0 _ l1 w1

theorem fnExactIsSetCover_holds : Rows.FnExactIsSetCoverSaid :=
  OpenClaim.holds_of_wide 8 Try.f8 rfl rfl rfl rfl rfl rfl rfl ⟨rfl, rfl, rfl, rfl, rfl⟩ rfl rfl rfl rfl rfl (by kernel_rfl) Try.func8 (by kernel_rfl)
    (of_decide_eq_true (by kernel_rfl)) (by unfold Func.isWrapper; first | (rw [if_pos (by decide +kernel)]; kernel_rfl) | (rw [if_neg (by decide +kernel)]; exact ⟨rfl, rfl⟩))
    (fun os started H enc _ => fnExactIsSetCover_lifted os started H enc)
end Go.Proofs.Ytmmaleidaghooaa
