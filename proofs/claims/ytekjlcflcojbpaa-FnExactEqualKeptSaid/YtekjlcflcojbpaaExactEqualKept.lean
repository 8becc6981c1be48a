/- The statement FnExactEqualKept: for every input the call returns true and each argument reads as it did. No condition. -/
import Derived.Test.YtekjlcflcojbpaaRead
import Derived.Test.YtekjlcflcojbpaaTo
import Derived.Test.YtekjlcflcojbpaaEq
import Derived.Test.YtekjlcflcojbpaaMark
import Derived.Deep.RegionHeld3
namespace Go.Proofs.Ytekjlcflcojbpaa
open Go.ChangeShapes Go.WideShapes Go.ChangeAt Go.RowKit Go.G5
set_option maxHeartbeats 2000000 in
set_option maxRecDepth 100000 in
theorem equalKept_walk (w : World) (n0_0 : Int) (v0_1 : Value) (l0_1 : List Int) (v0_2 : Value) (l0_2 : List Int) (_ : InR n0_0) (hv0_1 : Ints w v0_1 l0_1) (hv0_2 : Ints w v0_2 l0_2) (n1_0 : Int) (v1_1 : Value) (l1_1 : List Int) (v1_2 : Value) (l1_2 : List Int) (_ : InR n1_0) (hv1_1 : Ints w v1_1 l1_1) (hv1_2 : Ints w v1_2 l1_2) :
    Calls Try.prog 7 #[.agg #[.int .i64 n0_0, v0_1, v0_2], .agg #[.int .i64 n1_0, v1_1, v1_2]] w fun e w' => e = .returned (.bool true) ∧ Below w.heap.size w w' := by
  obtain ⟨av0_1, cv0_1, rfl⟩ := hv0_1.shape
  obtain ⟨av0_2, cv0_2, rfl⟩ := hv0_2.shape
  obtain ⟨av1_1, cv1_1, rfl⟩ := hv1_1.shape
  obtain ⟨av1_2, cv1_2, rfl⟩ := hv1_2.shape
  go_enter Try.func7, Try.ntmps7
  go_wp2_with fail
  refine calls_named ?_
  intro V1 hV1
  have B1 : Below w.heap.size w V1 := by rw [hV1]; exact (by repeat (first | exact Below.refl _ _ | (with_reducible refine Below.setCell ?_ (by first | omega | (simp; done) | (simp; omega)) _) | (with_reducible refine Below.alloc ?_ (by first | omega | (simp; done) | (simp; omega)) _) | (with_reducible refine Below.drewN' ?_ _) | (with_reducible refine Below.drew ?_) | (with_reducible assumption) | refine Below.trans ?_ (Below.mono (by assumption) (by first | omega | (simp; done) | (simp; omega)))))
  have z1 : w.heap.size + 2 ≤ V1.heap.size := by rw [hV1]; (first | simp | omega)
  have d1_0 : V1.cell? ⟨w.heap.size, 0, none⟩ = some (.int .i64 n0_0) := by rw [hV1]; simp [go_sem]
  have d1_1 : V1.cell? ⟨w.heap.size, 1, none⟩ = some ((.slice av0_1 l0_1.length cv0_1)) := by rw [hV1]; simp [go_sem]
  have d1_2 : V1.cell? ⟨w.heap.size, 2, none⟩ = some ((.slice av0_2 l0_2.length cv0_2)) := by rw [hV1]; simp [go_sem]
  have d1_3 : V1.cell? ⟨w.heap.size + 1, 0, none⟩ = some (.int .i64 n1_0) := by rw [hV1]; simp [go_sem]
  have d1_4 : V1.cell? ⟨w.heap.size + 1, 1, none⟩ = some ((.slice av1_1 l1_1.length cv1_1)) := by rw [hV1]; simp [go_sem]
  have d1_5 : V1.cell? ⟨w.heap.size + 1, 2, none⟩ = some ((.slice av1_2 l1_2.length cv1_2)) := by rw [hV1]; simp [go_sem]
  clear hV1
  refine (szKept_c n0_0 _ _ l0_1 l0_2 _ _ (hv0_1.below B1 (Nat.le_refl _)) (hv0_2.below B1 (Nat.le_refl _)) (by omega) (by omega)).mono ?_
  rintro e W2 ⟨⟨s0, rfl, hs0⟩, hb2⟩
  have B2 : Below w.heap.size w W2 := B1.after hb2 B1.size
  have z2 : V1.heap.size ≤ W2.heap.size := hb2.size
  have d2_0 := keep hb2 d1_0
  have d2_1 := keep hb2 d1_1
  have d2_2 := keep hb2 d1_2
  have d2_3 := keep hb2 d1_3
  have d2_4 := keep hb2 d1_4
  have d2_5 := keep hb2 d1_5
  clear d1_0 d1_1 d1_2 d1_3 d1_4 d1_5
  have b2_0 : w.heap.size < W2.heap.size := lt_of_cell d2_0
  have b2_3 : w.heap.size + 1 < W2.heap.size := lt_of_cell d2_3
  rcases hs0 with hs0 | ⟨g0_0, g0_1, hlv0_1', hlv0_2'⟩
  · go_wp2
    go_ret
    exact ⟨rfl, B2⟩
  have hlv0_1 : l0_1.length ≤ 1048576 := by omega
  have hlv0_2 : l0_2.length ≤ 1048576 := by omega
  go_wp2_with fail
  refine calls_named ?_
  intro V3 hV3
  have B3 : Below w.heap.size w V3 := by rw [hV3]; first | exact B2 | exact B2.alloc B2.size _ | exact (B2.alloc B2.size _).alloc (by have := B2.size; simp; omega) _
  have z3 : W2.heap.size + 0 ≤ V3.heap.size := by rw [hV3]; (first | exact Nat.le_refl _ | simp)
  have d3_0 : V3.cell? ⟨w.heap.size, 0, none⟩ = some (.int .i64 n0_0) := by rw [hV3]; first | exact d2_0 | exact cell_old d2_0 _ | exact cell_old (cell_old d2_0 _) _
  have d3_1 : V3.cell? ⟨w.heap.size, 1, none⟩ = some ((.slice av0_1 l0_1.length cv0_1)) := by rw [hV3]; first | exact d2_1 | exact cell_old d2_1 _ | exact cell_old (cell_old d2_1 _) _
  have d3_2 : V3.cell? ⟨w.heap.size, 2, none⟩ = some ((.slice av0_2 l0_2.length cv0_2)) := by rw [hV3]; first | exact d2_2 | exact cell_old d2_2 _ | exact cell_old (cell_old d2_2 _) _
  have d3_3 : V3.cell? ⟨w.heap.size + 1, 0, none⟩ = some (.int .i64 n1_0) := by rw [hV3]; first | exact d2_3 | exact cell_old d2_3 _ | exact cell_old (cell_old d2_3 _) _
  have d3_4 : V3.cell? ⟨w.heap.size + 1, 1, none⟩ = some ((.slice av1_1 l1_1.length cv1_1)) := by rw [hV3]; first | exact d2_4 | exact cell_old d2_4 _ | exact cell_old (cell_old d2_4 _) _
  have d3_5 : V3.cell? ⟨w.heap.size + 1, 2, none⟩ = some ((.slice av1_2 l1_2.length cv1_2)) := by rw [hV3]; first | exact d2_5 | exact cell_old d2_5 _ | exact cell_old (cell_old d2_5 _) _
  skip
  clear hV3
  refine (szKept_c n1_0 _ _ l1_1 l1_2 _ _ (hv1_1.below B3 (Nat.le_refl _)) (hv1_2.below B3 (Nat.le_refl _)) (by omega) (by omega)).mono ?_
  rintro e W4 ⟨⟨s1, rfl, hs1⟩, hb4⟩
  have B4 : Below w.heap.size w W4 := B3.after hb4 B3.size
  have z4 : V3.heap.size ≤ W4.heap.size := hb4.size
  have d4_0 := keep hb4 d3_0
  have d4_1 := keep hb4 d3_1
  have d4_2 := keep hb4 d3_2
  have d4_3 := keep hb4 d3_3
  have d4_4 := keep hb4 d3_4
  have d4_5 := keep hb4 d3_5
  clear d3_0 d3_1 d3_2 d3_3 d3_4 d3_5
  have b4_0 : w.heap.size < W4.heap.size := lt_of_cell d4_0
  have b4_3 : w.heap.size + 1 < W4.heap.size := lt_of_cell d4_3
  clear b2_0 b2_3
  rcases hs1 with hs1 | ⟨g1_0, g1_1, hlv1_1', hlv1_2'⟩
  · go_wp2
    go_ret
    exact ⟨rfl, B4⟩
  have hlv1_1 : l1_1.length ≤ 1048576 := by omega
  have hlv1_2 : l1_2.length ≤ 1048576 := by omega
  go_wp2_with fail
  have y5_0 : w.heap.size < W4.heap.size := lt_of_cell d4_0
  have y5_1 : w.heap.size < W4.heap.size := lt_of_cell d4_1
  have y5_2 : w.heap.size < W4.heap.size := lt_of_cell d4_2
  have y5_3 : w.heap.size + 1 < W4.heap.size := lt_of_cell d4_3
  have y5_4 : w.heap.size + 1 < W4.heap.size := lt_of_cell d4_4
  have y5_5 : w.heap.size + 1 < W4.heap.size := lt_of_cell d4_5
  go_region_held3 (fun w' => w'.cell? ⟨w.heap.size, 0, none⟩ = some (.int .i64 n0_0) ∧ w'.cell? ⟨w.heap.size, 1, none⟩ = some ((.slice av0_1 l0_1.length cv0_1)) ∧ w'.cell? ⟨w.heap.size, 2, none⟩ = some ((.slice av0_2 l0_2.length cv0_2)) ∧ w'.cell? ⟨w.heap.size + 1, 0, none⟩ = some (.int .i64 n1_0) ∧ w'.cell? ⟨w.heap.size + 1, 1, none⟩ = some ((.slice av1_1 l1_1.length cv1_1)) ∧ w'.cell? ⟨w.heap.size + 1, 2, none⟩ = some ((.slice av1_2 l1_2.length cv1_2))) (go_keep)
    (first
      | (go_at_call_of 19 (Value.slice av0_1 l0_1.length cv0_1); refine (toKept_any n0_0 _ _ l0_1 l0_2 _ (hv0_1.below (B := w.heap.size) (by repeat (first | exact Below.refl _ _ | (with_reducible refine Below.setCell ?_ (by first | omega | (simp; done) | (simp; omega)) _) | (with_reducible refine Below.alloc ?_ (by first | omega | (simp; done) | (simp; omega)) _) | (with_reducible refine Below.drewN' ?_ _) | (with_reducible refine Below.drew ?_) | (with_reducible assumption) | refine Below.trans ?_ (Below.mono (by assumption) (by first | omega | (simp; done) | (simp; omega))))) (Nat.le_refl _)) (hv0_2.below (B := w.heap.size) (by repeat (first | exact Below.refl _ _ | (with_reducible refine Below.setCell ?_ (by first | omega | (simp; done) | (simp; omega)) _) | (with_reducible refine Below.alloc ?_ (by first | omega | (simp; done) | (simp; omega)) _) | (with_reducible refine Below.drewN' ?_ _) | (with_reducible refine Below.drew ?_) | (with_reducible assumption) | refine Below.trans ?_ (Below.mono (by assumption) (by first | omega | (simp; done) | (simp; omega))))) (Nat.le_refl _)) hlv0_1 hlv0_2).mono ?_; rintro e W6 ⟨pwx00, iwx00, qwx00, pwx01, iwx01, qwx01, rfl, o6_wx00, o6_wx01, hb6⟩; obtain ⟨hc6, hf6⟩ := bcellN hb6 (W4.heap.size) (by first | omega | (simp; done) | (simp; omega)); have z6 := hb6.size; (try simp at z6))
      | (go_at_call_of 19 (Value.slice av1_1 l1_1.length cv1_1); refine (toKept_any n1_0 _ _ l1_1 l1_2 _ (hv1_1.below (B := w.heap.size) (by repeat (first | exact Below.refl _ _ | (with_reducible refine Below.setCell ?_ (by first | omega | (simp; done) | (simp; omega)) _) | (with_reducible refine Below.alloc ?_ (by first | omega | (simp; done) | (simp; omega)) _) | (with_reducible refine Below.drewN' ?_ _) | (with_reducible refine Below.drew ?_) | (with_reducible assumption) | refine Below.trans ?_ (Below.mono (by assumption) (by first | omega | (simp; done) | (simp; omega))))) (Nat.le_refl _)) (hv1_2.below (B := w.heap.size) (by repeat (first | exact Below.refl _ _ | (with_reducible refine Below.setCell ?_ (by first | omega | (simp; done) | (simp; omega)) _) | (with_reducible refine Below.alloc ?_ (by first | omega | (simp; done) | (simp; omega)) _) | (with_reducible refine Below.drewN' ?_ _) | (with_reducible refine Below.drew ?_) | (with_reducible assumption) | refine Below.trans ?_ (Below.mono (by assumption) (by first | omega | (simp; done) | (simp; omega))))) (Nat.le_refl _)) hlv1_1 hlv1_2).mono ?_; rintro e W7 ⟨pwx10, iwx10, qwx10, pwx11, iwx11, qwx11, rfl, o7_wx10, o7_wx11, hb7⟩; obtain ⟨hc7, hf7⟩ := bcellN hb7 (W4.heap.size) (by first | omega | (simp; done) | (simp; omega)); have z7 := hb7.size; (try simp at z7))
      | (go_at_call 18; refine (equalKeptS_c _ n0_0 _ l0_1 (o6_wx00.below hb7 (by first | omega | (simp; done) | (simp; omega))).ints hlv0_1 _ l0_2 (o6_wx01.below hb7 (by first | omega | (simp; done) | (simp; omega))).ints hlv0_2 n1_0 _ l1_1 o7_wx10.ints hlv1_1 _ l1_2 o7_wx11.ints hlv1_2).mono ?_; rintro e W8 ⟨rfl, hb8⟩; obtain ⟨hc8, hf8⟩ := bcellN hb8 (W4.heap.size) (by first | omega | (simp; done) | (simp; omega)); have z8 := hb8.size; (try simp at z8))
    )
  have B8 : Below w.heap.size w W8 := (by repeat (first | exact Below.refl _ _ | (with_reducible refine Below.setCell ?_ (by first | omega | (simp; done) | (simp; omega)) _) | (with_reducible refine Below.alloc ?_ (by first | omega | (simp; done) | (simp; omega)) _) | (with_reducible refine Below.drewN' ?_ _) | (with_reducible refine Below.drew ?_) | (with_reducible assumption) | refine Below.trans ?_ (Below.mono (by assumption) (by first | omega | (simp; done) | (simp; omega)))))
  have hS := (‹W8.cell? ⟨w.heap.size, 0, none⟩ = some (.int .i64 n0_0) ∧ W8.cell? ⟨w.heap.size, 1, none⟩ = some ((.slice av0_1 l0_1.length cv0_1)) ∧ W8.cell? ⟨w.heap.size, 2, none⟩ = some ((.slice av0_2 l0_2.length cv0_2)) ∧ W8.cell? ⟨w.heap.size + 1, 0, none⟩ = some (.int .i64 n1_0) ∧ W8.cell? ⟨w.heap.size + 1, 1, none⟩ = some ((.slice av1_1 l1_1.length cv1_1)) ∧ W8.cell? ⟨w.heap.size + 1, 2, none⟩ = some ((.slice av1_2 l1_2.length cv1_2))› : W8.cell? ⟨w.heap.size, 0, none⟩ = some (.int .i64 n0_0) ∧ W8.cell? ⟨w.heap.size, 1, none⟩ = some ((.slice av0_1 l0_1.length cv0_1)) ∧ W8.cell? ⟨w.heap.size, 2, none⟩ = some ((.slice av0_2 l0_2.length cv0_2)) ∧ W8.cell? ⟨w.heap.size + 1, 0, none⟩ = some (.int .i64 n1_0) ∧ W8.cell? ⟨w.heap.size + 1, 1, none⟩ = some ((.slice av1_1 l1_1.length cv1_1)) ∧ W8.cell? ⟨w.heap.size + 1, 2, none⟩ = some ((.slice av1_2 l1_2.length cv1_2)))
  obtain ⟨e8_0, e8_1, e8_2, e8_3, e8_4, e8_5⟩ := hS
  have d8_0 : W8.cell? ⟨w.heap.size, 0, none⟩ = some (.int .i64 n0_0) := e8_0
  have d8_1 : W8.cell? ⟨w.heap.size, 1, none⟩ = some ((.slice av0_1 l0_1.length cv0_1)) := e8_1
  have d8_2 : W8.cell? ⟨w.heap.size, 2, none⟩ = some ((.slice av0_2 l0_2.length cv0_2)) := e8_2
  have d8_3 : W8.cell? ⟨w.heap.size + 1, 0, none⟩ = some (.int .i64 n1_0) := e8_3
  have d8_4 : W8.cell? ⟨w.heap.size + 1, 1, none⟩ = some ((.slice av1_1 l1_1.length cv1_1)) := e8_4
  have d8_5 : W8.cell? ⟨w.heap.size + 1, 2, none⟩ = some ((.slice av1_2 l1_2.length cv1_2)) := e8_5
  have z8' : W4.heap.size ≤ W8.heap.size := by omega
  clear d4_0 d4_1 d4_2 d4_3 d4_4 d4_5 hc6 hf6 hc7 hf7 hc8 hf8 y5_0 y5_1 y5_2 y5_3 y5_4 y5_5
  have b8_0 : w.heap.size < W8.heap.size := lt_of_cell d8_0
  have b8_3 : w.heap.size + 1 < W8.heap.size := lt_of_cell d8_3
  clear b4_0 b4_3
  go_wp2_with fail
  refine calls_named ?_
  intro V9 hV9
  have B9 : Below w.heap.size w V9 := by rw [hV9]; first | exact B8 | exact B8.alloc B8.size _ | exact (B8.alloc B8.size _).alloc (by have := B8.size; simp; omega) _
  have z9 : W8.heap.size + 0 ≤ V9.heap.size := by rw [hV9]; (first | exact Nat.le_refl _ | simp)
  have d9_0 : V9.cell? ⟨w.heap.size, 0, none⟩ = some (.int .i64 n0_0) := by rw [hV9]; first | exact d8_0 | exact cell_old d8_0 _ | exact cell_old (cell_old d8_0 _) _
  have d9_1 : V9.cell? ⟨w.heap.size, 1, none⟩ = some ((.slice av0_1 l0_1.length cv0_1)) := by rw [hV9]; first | exact d8_1 | exact cell_old d8_1 _ | exact cell_old (cell_old d8_1 _) _
  have d9_2 : V9.cell? ⟨w.heap.size, 2, none⟩ = some ((.slice av0_2 l0_2.length cv0_2)) := by rw [hV9]; first | exact d8_2 | exact cell_old d8_2 _ | exact cell_old (cell_old d8_2 _) _
  have d9_3 : V9.cell? ⟨w.heap.size + 1, 0, none⟩ = some (.int .i64 n1_0) := by rw [hV9]; first | exact d8_3 | exact cell_old d8_3 _ | exact cell_old (cell_old d8_3 _) _
  have d9_4 : V9.cell? ⟨w.heap.size + 1, 1, none⟩ = some ((.slice av1_1 l1_1.length cv1_1)) := by rw [hV9]; first | exact d8_4 | exact cell_old d8_4 _ | exact cell_old (cell_old d8_4 _) _
  have d9_5 : V9.cell? ⟨w.heap.size + 1, 2, none⟩ = some ((.slice av1_2 l1_2.length cv1_2)) := by rw [hV9]; first | exact d8_5 | exact cell_old d8_5 _ | exact cell_old (cell_old d8_5 _) _
  skip
  clear hV9
  refine (toKept_any n0_0 _ _ l0_1 l0_2 _ (hv0_1.below B9 (Nat.le_refl _)) (hv0_2.below B9 (Nat.le_refl _)) hlv0_1 hlv0_2).mono ?_
  rintro e W10 ⟨px00, ix00, qx00, px01, ix01, qx01, rfl, o10_x00, o10_x01, hb10⟩
  have B10 : Below w.heap.size w W10 := B9.after hb10 B9.size
  have z10 : V9.heap.size ≤ W10.heap.size := hb10.size
  have d10_0 := keep hb10 d9_0
  have d10_1 := keep hb10 d9_1
  have d10_2 := keep hb10 d9_2
  have d10_3 := keep hb10 d9_3
  have d10_4 := keep hb10 d9_4
  have d10_5 := keep hb10 d9_5
  clear d9_0 d9_1 d9_2 d9_3 d9_4 d9_5
  have b10_0 : w.heap.size < W10.heap.size := lt_of_cell d10_0
  have b10_3 : w.heap.size + 1 < W10.heap.size := lt_of_cell d10_3
  clear b8_0 b8_3
  have r_x00 := o10_x00.lt
  have r_x01 := o10_x01.lt
  go_wp2_with fail
  refine calls_named ?_
  intro V11 hV11
  have B11 : Below w.heap.size w V11 := by rw [hV11]; first | exact B10 | exact B10.alloc B10.size _ | exact (B10.alloc B10.size _).alloc (by have := B10.size; simp; omega) _
  have z11 : W10.heap.size + 1 ≤ V11.heap.size := by rw [hV11]; (first | exact Nat.le_refl _ | simp)
  have d11_0 : V11.cell? ⟨w.heap.size, 0, none⟩ = some (.int .i64 n0_0) := by rw [hV11]; first | exact d10_0 | exact cell_old d10_0 _ | exact cell_old (cell_old d10_0 _) _
  have d11_1 : V11.cell? ⟨w.heap.size, 1, none⟩ = some ((.slice av0_1 l0_1.length cv0_1)) := by rw [hV11]; first | exact d10_1 | exact cell_old d10_1 _ | exact cell_old (cell_old d10_1 _) _
  have d11_2 : V11.cell? ⟨w.heap.size, 2, none⟩ = some ((.slice av0_2 l0_2.length cv0_2)) := by rw [hV11]; first | exact d10_2 | exact cell_old d10_2 _ | exact cell_old (cell_old d10_2 _) _
  have d11_3 : V11.cell? ⟨w.heap.size + 1, 0, none⟩ = some (.int .i64 n1_0) := by rw [hV11]; first | exact d10_3 | exact cell_old d10_3 _ | exact cell_old (cell_old d10_3 _) _
  have d11_4 : V11.cell? ⟨w.heap.size + 1, 1, none⟩ = some ((.slice av1_1 l1_1.length cv1_1)) := by rw [hV11]; first | exact d10_4 | exact cell_old d10_4 _ | exact cell_old (cell_old d10_4 _) _
  have d11_5 : V11.cell? ⟨w.heap.size + 1, 2, none⟩ = some ((.slice av1_2 l1_2.length cv1_2)) := by rw [hV11]; first | exact d10_5 | exact cell_old d10_5 _ | exact cell_old (cell_old d10_5 _) _
  have d11_6 : V11.cell? ⟨W10.heap.size, 0, none⟩ = some (.int .i64 n0_0) := by rw [hV11]; first | exact cell_new _ _ _ _ _ rfl | exact cell_old (cell_new _ _ _ _ _ rfl) _ | simp [go_sem]
  have d11_7 : V11.cell? ⟨W10.heap.size, 1, none⟩ = some (.slice px00 ix00 qx00) := by rw [hV11]; first | exact cell_new _ _ _ _ _ rfl | exact cell_old (cell_new _ _ _ _ _ rfl) _ | simp [go_sem]
  have d11_8 : V11.cell? ⟨W10.heap.size, 2, none⟩ = some (.slice px01 ix01 qx01) := by rw [hV11]; first | exact cell_new _ _ _ _ _ rfl | exact cell_old (cell_new _ _ _ _ _ rfl) _ | simp [go_sem]
  have o11_x00 : OwnI 3 V9.heap.size V11 (.slice px00 ix00 qx00) (l0_1) := by rw [hV11]; first | exact o10_x00 | exact o10_x00.alloc _ | exact (o10_x00.alloc _).alloc _
  have o11_x01 : OwnI 3 V9.heap.size V11 (.slice px01 ix01 qx01) (l0_2) := by rw [hV11]; first | exact o10_x01 | exact o10_x01.alloc _ | exact (o10_x01.alloc _).alloc _
  skip
  clear hV11
  refine (toKept_any n1_0 _ _ l1_1 l1_2 _ (hv1_1.below B11 (Nat.le_refl _)) (hv1_2.below B11 (Nat.le_refl _)) hlv1_1 hlv1_2).mono ?_
  rintro e W12 ⟨px10, ix10, qx10, px11, ix11, qx11, rfl, o12_x10, o12_x11, hb12⟩
  have B12 : Below w.heap.size w W12 := B11.after hb12 B11.size
  have z12 : V11.heap.size ≤ W12.heap.size := hb12.size
  have d12_0 := keep hb12 d11_0
  have d12_1 := keep hb12 d11_1
  have d12_2 := keep hb12 d11_2
  have d12_3 := keep hb12 d11_3
  have d12_4 := keep hb12 d11_4
  have d12_5 := keep hb12 d11_5
  have d12_6 := keep hb12 d11_6
  have d12_7 := keep hb12 d11_7
  have d12_8 := keep hb12 d11_8
  have o12_x00 := o11_x00.keep hb12
  have o12_x01 := o11_x01.keep hb12
  clear d11_0 d11_1 d11_2 d11_3 d11_4 d11_5 d11_6 d11_7 d11_8 o11_x00 o11_x01
  have b12_0 : w.heap.size < W12.heap.size := lt_of_cell d12_0
  have b12_3 : w.heap.size + 1 < W12.heap.size := lt_of_cell d12_3
  have b12_6 : W10.heap.size < W12.heap.size := lt_of_cell d12_6
  clear b10_0 b10_3
  have r_x10 := o12_x10.lt
  have r_x11 := o12_x11.lt
  go_wp2_with fail
  refine calls_named ?_
  intro V13 hV13
  have B13 : Below w.heap.size w V13 := by rw [hV13]; first | exact B12 | exact B12.alloc B12.size _ | exact (B12.alloc B12.size _).alloc (by have := B12.size; simp; omega) _
  have z13 : W12.heap.size + 1 ≤ V13.heap.size := by rw [hV13]; (first | exact Nat.le_refl _ | simp)
  have d13_0 : V13.cell? ⟨w.heap.size, 0, none⟩ = some (.int .i64 n0_0) := by rw [hV13]; first | exact d12_0 | exact cell_old d12_0 _ | exact cell_old (cell_old d12_0 _) _
  have d13_1 : V13.cell? ⟨w.heap.size, 1, none⟩ = some ((.slice av0_1 l0_1.length cv0_1)) := by rw [hV13]; first | exact d12_1 | exact cell_old d12_1 _ | exact cell_old (cell_old d12_1 _) _
  have d13_2 : V13.cell? ⟨w.heap.size, 2, none⟩ = some ((.slice av0_2 l0_2.length cv0_2)) := by rw [hV13]; first | exact d12_2 | exact cell_old d12_2 _ | exact cell_old (cell_old d12_2 _) _
  have d13_3 : V13.cell? ⟨w.heap.size + 1, 0, none⟩ = some (.int .i64 n1_0) := by rw [hV13]; first | exact d12_3 | exact cell_old d12_3 _ | exact cell_old (cell_old d12_3 _) _
  have d13_4 : V13.cell? ⟨w.heap.size + 1, 1, none⟩ = some ((.slice av1_1 l1_1.length cv1_1)) := by rw [hV13]; first | exact d12_4 | exact cell_old d12_4 _ | exact cell_old (cell_old d12_4 _) _
  have d13_5 : V13.cell? ⟨w.heap.size + 1, 2, none⟩ = some ((.slice av1_2 l1_2.length cv1_2)) := by rw [hV13]; first | exact d12_5 | exact cell_old d12_5 _ | exact cell_old (cell_old d12_5 _) _
  have d13_6 : V13.cell? ⟨W10.heap.size, 0, none⟩ = some (.int .i64 n0_0) := by rw [hV13]; first | exact d12_6 | exact cell_old d12_6 _ | exact cell_old (cell_old d12_6 _) _
  have d13_7 : V13.cell? ⟨W10.heap.size, 1, none⟩ = some (.slice px00 ix00 qx00) := by rw [hV13]; first | exact d12_7 | exact cell_old d12_7 _ | exact cell_old (cell_old d12_7 _) _
  have d13_8 : V13.cell? ⟨W10.heap.size, 2, none⟩ = some (.slice px01 ix01 qx01) := by rw [hV13]; first | exact d12_8 | exact cell_old d12_8 _ | exact cell_old (cell_old d12_8 _) _
  have d13_9 : V13.cell? ⟨W12.heap.size, 0, none⟩ = some (.int .i64 n1_0) := by rw [hV13]; first | exact cell_new _ _ _ _ _ rfl | exact cell_old (cell_new _ _ _ _ _ rfl) _ | simp [go_sem]
  have d13_10 : V13.cell? ⟨W12.heap.size, 1, none⟩ = some (.slice px10 ix10 qx10) := by rw [hV13]; first | exact cell_new _ _ _ _ _ rfl | exact cell_old (cell_new _ _ _ _ _ rfl) _ | simp [go_sem]
  have d13_11 : V13.cell? ⟨W12.heap.size, 2, none⟩ = some (.slice px11 ix11 qx11) := by rw [hV13]; first | exact cell_new _ _ _ _ _ rfl | exact cell_old (cell_new _ _ _ _ _ rfl) _ | simp [go_sem]
  have o13_x00 : OwnI 3 V9.heap.size V13 (.slice px00 ix00 qx00) (l0_1) := by rw [hV13]; first | exact o12_x00 | exact o12_x00.alloc _ | exact (o12_x00.alloc _).alloc _
  have o13_x01 : OwnI 3 V9.heap.size V13 (.slice px01 ix01 qx01) (l0_2) := by rw [hV13]; first | exact o12_x01 | exact o12_x01.alloc _ | exact (o12_x01.alloc _).alloc _
  have o13_x10 : OwnI 3 V11.heap.size V13 (.slice px10 ix10 qx10) (l1_1) := by rw [hV13]; first | exact o12_x10 | exact o12_x10.alloc _ | exact (o12_x10.alloc _).alloc _
  have o13_x11 : OwnI 3 V11.heap.size V13 (.slice px11 ix11 qx11) (l1_2) := by rw [hV13]; first | exact o12_x11 | exact o12_x11.alloc _ | exact (o12_x11.alloc _).alloc _
  skip
  clear hV13
  refine (equalKeptI_c _ n0_0 _ l0_1 o13_x00.ints hlv0_1 _ l0_2 o13_x01.ints hlv0_2 n1_0 _ l1_1 o13_x10.ints hlv1_1 _ l1_2 o13_x11.ints hlv1_2).mono ?_
  rintro e W14 ⟨rfl, hb14⟩
  have B14 : Below w.heap.size w W14 := B13.after hb14 B13.size
  have z14 : V13.heap.size ≤ W14.heap.size := hb14.size
  have d14_0 := keep hb14 d13_0
  have d14_1 := keep hb14 d13_1
  have d14_2 := keep hb14 d13_2
  have d14_3 := keep hb14 d13_3
  have d14_4 := keep hb14 d13_4
  have d14_5 := keep hb14 d13_5
  have d14_6 := keep hb14 d13_6
  have d14_7 := keep hb14 d13_7
  have d14_8 := keep hb14 d13_8
  have d14_9 := keep hb14 d13_9
  have d14_10 := keep hb14 d13_10
  have d14_11 := keep hb14 d13_11
  have o14_x00 := o13_x00.keep hb14
  have o14_x01 := o13_x01.keep hb14
  have o14_x10 := o13_x10.keep hb14
  have o14_x11 := o13_x11.keep hb14
  clear d13_0 d13_1 d13_2 d13_3 d13_4 d13_5 d13_6 d13_7 d13_8 d13_9 d13_10 d13_11 o13_x00 o13_x01 o13_x10 o13_x11
  have b14_0 : w.heap.size < W14.heap.size := lt_of_cell d14_0
  have b14_3 : w.heap.size + 1 < W14.heap.size := lt_of_cell d14_3
  have b14_6 : W10.heap.size < W14.heap.size := lt_of_cell d14_6
  have b14_9 : W12.heap.size < W14.heap.size := lt_of_cell d14_9
  clear b12_0 b12_3 b12_6
  go_wp2_with fail
  have y15_0 : w.heap.size < W14.heap.size := lt_of_cell d14_0
  have y15_1 : w.heap.size < W14.heap.size := lt_of_cell d14_1
  have y15_2 : w.heap.size < W14.heap.size := lt_of_cell d14_2
  have y15_3 : w.heap.size + 1 < W14.heap.size := lt_of_cell d14_3
  have y15_4 : w.heap.size + 1 < W14.heap.size := lt_of_cell d14_4
  have y15_5 : w.heap.size + 1 < W14.heap.size := lt_of_cell d14_5
  have y15_6 : W10.heap.size < W14.heap.size := lt_of_cell d14_6
  have y15_7 : W10.heap.size < W14.heap.size := lt_of_cell d14_7
  have y15_8 : W10.heap.size < W14.heap.size := lt_of_cell d14_8
  have y15_9 : W12.heap.size < W14.heap.size := lt_of_cell d14_9
  have y15_10 : W12.heap.size < W14.heap.size := lt_of_cell d14_10
  have y15_11 : W12.heap.size < W14.heap.size := lt_of_cell d14_11
  go_region_held3 (fun w' => w'.cell? ⟨w.heap.size, 0, none⟩ = some (.int .i64 n0_0) ∧ w'.cell? ⟨w.heap.size, 1, none⟩ = some ((.slice av0_1 l0_1.length cv0_1)) ∧ w'.cell? ⟨w.heap.size, 2, none⟩ = some ((.slice av0_2 l0_2.length cv0_2)) ∧ w'.cell? ⟨w.heap.size + 1, 0, none⟩ = some (.int .i64 n1_0) ∧ w'.cell? ⟨w.heap.size + 1, 1, none⟩ = some ((.slice av1_1 l1_1.length cv1_1)) ∧ w'.cell? ⟨w.heap.size + 1, 2, none⟩ = some ((.slice av1_2 l1_2.length cv1_2)) ∧ w'.cell? ⟨W10.heap.size, 0, none⟩ = some (.int .i64 n0_0) ∧ w'.cell? ⟨W10.heap.size, 1, none⟩ = some (.slice px00 ix00 qx00) ∧ w'.cell? ⟨W10.heap.size, 2, none⟩ = some (.slice px01 ix01 qx01) ∧ w'.cell? ⟨W12.heap.size, 0, none⟩ = some (.int .i64 n1_0) ∧ w'.cell? ⟨W12.heap.size, 1, none⟩ = some (.slice px10 ix10 qx10) ∧ w'.cell? ⟨W12.heap.size, 2, none⟩ = some (.slice px11 ix11 qx11)) (go_keep)
    (first
      | (go_at_call 19; refine (toKept_any n0_0 _ _ l0_1 l0_2 _ (hv0_1.below (B := w.heap.size) (by repeat (first | exact Below.refl _ _ | (with_reducible refine Below.setCell ?_ (by first | omega | (simp; done) | (simp; omega)) _) | (with_reducible refine Below.alloc ?_ (by first | omega | (simp; done) | (simp; omega)) _) | (with_reducible refine Below.drewN' ?_ _) | (with_reducible refine Below.drew ?_) | (with_reducible assumption) | refine Below.trans ?_ (Below.mono (by assumption) (by first | omega | (simp; done) | (simp; omega))))) (Nat.le_refl _)) (hv0_2.below (B := w.heap.size) (by repeat (first | exact Below.refl _ _ | (with_reducible refine Below.setCell ?_ (by first | omega | (simp; done) | (simp; omega)) _) | (with_reducible refine Below.alloc ?_ (by first | omega | (simp; done) | (simp; omega)) _) | (with_reducible refine Below.drewN' ?_ _) | (with_reducible refine Below.drew ?_) | (with_reducible assumption) | refine Below.trans ?_ (Below.mono (by assumption) (by first | omega | (simp; done) | (simp; omega))))) (Nat.le_refl _)) hlv0_1 hlv0_2).mono ?_; rintro e W16 ⟨py16x0, iy16x0, qy16x0, py16x1, iy16x1, qy16x1, rfl, o16_y16x0, o16_y16x1, hb16⟩; obtain ⟨hc16, hf16⟩ := bcellN hb16 (W14.heap.size) (by first | omega | (simp; done) | (simp; omega)); have z16 := hb16.size; (try simp at z16))
      | (go_at_call 21; refine (eqKept_any n0_0 n0_0 _ _ _ _ _ _ _ _ _ ((o14_x00.drewN 1).below hb16 (by first | omega | (simp; done) | (simp; omega))).ints o16_y16x0.ints ((o14_x01.drewN 1).below hb16 (by first | omega | (simp; done) | (simp; omega))).ints o16_y16x1.ints).mono ?_; rintro e W17 ⟨rfl, hb17⟩; obtain ⟨hc17, hf17⟩ := bcellN hb17 (W14.heap.size) (by first | omega | (simp; done) | (simp; omega)); have z17 := hb17.size; (try simp at z17)))
  have B17 : Below w.heap.size w W17 := (by repeat (first | exact Below.refl _ _ | (with_reducible refine Below.setCell ?_ (by first | omega | (simp; done) | (simp; omega)) _) | (with_reducible refine Below.alloc ?_ (by first | omega | (simp; done) | (simp; omega)) _) | (with_reducible refine Below.drewN' ?_ _) | (with_reducible refine Below.drew ?_) | (with_reducible assumption) | refine Below.trans ?_ (Below.mono (by assumption) (by first | omega | (simp; done) | (simp; omega)))))
  have hS := (‹W17.cell? ⟨w.heap.size, 0, none⟩ = some (.int .i64 n0_0) ∧ W17.cell? ⟨w.heap.size, 1, none⟩ = some ((.slice av0_1 l0_1.length cv0_1)) ∧ W17.cell? ⟨w.heap.size, 2, none⟩ = some ((.slice av0_2 l0_2.length cv0_2)) ∧ W17.cell? ⟨w.heap.size + 1, 0, none⟩ = some (.int .i64 n1_0) ∧ W17.cell? ⟨w.heap.size + 1, 1, none⟩ = some ((.slice av1_1 l1_1.length cv1_1)) ∧ W17.cell? ⟨w.heap.size + 1, 2, none⟩ = some ((.slice av1_2 l1_2.length cv1_2)) ∧ W17.cell? ⟨W10.heap.size, 0, none⟩ = some (.int .i64 n0_0) ∧ W17.cell? ⟨W10.heap.size, 1, none⟩ = some (.slice px00 ix00 qx00) ∧ W17.cell? ⟨W10.heap.size, 2, none⟩ = some (.slice px01 ix01 qx01) ∧ W17.cell? ⟨W12.heap.size, 0, none⟩ = some (.int .i64 n1_0) ∧ W17.cell? ⟨W12.heap.size, 1, none⟩ = some (.slice px10 ix10 qx10) ∧ W17.cell? ⟨W12.heap.size, 2, none⟩ = some (.slice px11 ix11 qx11)› : W17.cell? ⟨w.heap.size, 0, none⟩ = some (.int .i64 n0_0) ∧ W17.cell? ⟨w.heap.size, 1, none⟩ = some ((.slice av0_1 l0_1.length cv0_1)) ∧ W17.cell? ⟨w.heap.size, 2, none⟩ = some ((.slice av0_2 l0_2.length cv0_2)) ∧ W17.cell? ⟨w.heap.size + 1, 0, none⟩ = some (.int .i64 n1_0) ∧ W17.cell? ⟨w.heap.size + 1, 1, none⟩ = some ((.slice av1_1 l1_1.length cv1_1)) ∧ W17.cell? ⟨w.heap.size + 1, 2, none⟩ = some ((.slice av1_2 l1_2.length cv1_2)) ∧ W17.cell? ⟨W10.heap.size, 0, none⟩ = some (.int .i64 n0_0) ∧ W17.cell? ⟨W10.heap.size, 1, none⟩ = some (.slice px00 ix00 qx00) ∧ W17.cell? ⟨W10.heap.size, 2, none⟩ = some (.slice px01 ix01 qx01) ∧ W17.cell? ⟨W12.heap.size, 0, none⟩ = some (.int .i64 n1_0) ∧ W17.cell? ⟨W12.heap.size, 1, none⟩ = some (.slice px10 ix10 qx10) ∧ W17.cell? ⟨W12.heap.size, 2, none⟩ = some (.slice px11 ix11 qx11))
  obtain ⟨d17_0, d17_1, d17_2, d17_3, d17_4, d17_5, d17_6, d17_7, d17_8, d17_9, d17_10, d17_11⟩ := hS
  have o17_x00 : OwnI 3 V9.heap.size W17 (.slice px00 ix00 qx00) (l0_1) := (((o14_x00.drewN 1).below hb16 (by first | omega | (simp; done) | (simp; omega))).below hb17 (by first | omega | (simp; done) | (simp; omega)))
  have o17_x01 : OwnI 3 V9.heap.size W17 (.slice px01 ix01 qx01) (l0_2) := (((o14_x01.drewN 1).below hb16 (by first | omega | (simp; done) | (simp; omega))).below hb17 (by first | omega | (simp; done) | (simp; omega)))
  have o17_x10 : OwnI 3 V11.heap.size W17 (.slice px10 ix10 qx10) (l1_1) := (((o14_x10.drewN 1).below hb16 (by first | omega | (simp; done) | (simp; omega))).below hb17 (by first | omega | (simp; done) | (simp; omega)))
  have o17_x11 : OwnI 3 V11.heap.size W17 (.slice px11 ix11 qx11) (l1_2) := (((o14_x11.drewN 1).below hb16 (by first | omega | (simp; done) | (simp; omega))).below hb17 (by first | omega | (simp; done) | (simp; omega)))
  have z17' : W14.heap.size ≤ W17.heap.size := by omega
  clear d14_0 d14_1 d14_2 d14_3 d14_4 d14_5 d14_6 d14_7 d14_8 d14_9 d14_10 d14_11 o14_x00 o14_x01 o14_x10 o14_x11 hc16 hf16 hc17 hf17 y15_0 y15_1 y15_2 y15_3 y15_4 y15_5 y15_6 y15_7 y15_8 y15_9 y15_10 y15_11
  have b17_0 : w.heap.size < W17.heap.size := lt_of_cell d17_0
  have b17_3 : w.heap.size + 1 < W17.heap.size := lt_of_cell d17_3
  have b17_6 : W10.heap.size < W17.heap.size := lt_of_cell d17_6
  have b17_9 : W12.heap.size < W17.heap.size := lt_of_cell d17_9
  clear b14_0 b14_3 b14_6 b14_9
  go_wp2_with fail
  have y18_0 : w.heap.size < W17.heap.size := lt_of_cell d17_0
  have y18_1 : w.heap.size < W17.heap.size := lt_of_cell d17_1
  have y18_2 : w.heap.size < W17.heap.size := lt_of_cell d17_2
  have y18_3 : w.heap.size + 1 < W17.heap.size := lt_of_cell d17_3
  have y18_4 : w.heap.size + 1 < W17.heap.size := lt_of_cell d17_4
  have y18_5 : w.heap.size + 1 < W17.heap.size := lt_of_cell d17_5
  have y18_6 : W10.heap.size < W17.heap.size := lt_of_cell d17_6
  have y18_7 : W10.heap.size < W17.heap.size := lt_of_cell d17_7
  have y18_8 : W10.heap.size < W17.heap.size := lt_of_cell d17_8
  have y18_9 : W12.heap.size < W17.heap.size := lt_of_cell d17_9
  have y18_10 : W12.heap.size < W17.heap.size := lt_of_cell d17_10
  have y18_11 : W12.heap.size < W17.heap.size := lt_of_cell d17_11
  go_region_held3 (fun w' => w'.cell? ⟨w.heap.size, 0, none⟩ = some (.int .i64 n0_0) ∧ w'.cell? ⟨w.heap.size, 1, none⟩ = some ((.slice av0_1 l0_1.length cv0_1)) ∧ w'.cell? ⟨w.heap.size, 2, none⟩ = some ((.slice av0_2 l0_2.length cv0_2)) ∧ w'.cell? ⟨w.heap.size + 1, 0, none⟩ = some (.int .i64 n1_0) ∧ w'.cell? ⟨w.heap.size + 1, 1, none⟩ = some ((.slice av1_1 l1_1.length cv1_1)) ∧ w'.cell? ⟨w.heap.size + 1, 2, none⟩ = some ((.slice av1_2 l1_2.length cv1_2)) ∧ w'.cell? ⟨W10.heap.size, 0, none⟩ = some (.int .i64 n0_0) ∧ w'.cell? ⟨W10.heap.size, 1, none⟩ = some (.slice px00 ix00 qx00) ∧ w'.cell? ⟨W10.heap.size, 2, none⟩ = some (.slice px01 ix01 qx01) ∧ w'.cell? ⟨W12.heap.size, 0, none⟩ = some (.int .i64 n1_0) ∧ w'.cell? ⟨W12.heap.size, 1, none⟩ = some (.slice px10 ix10 qx10) ∧ w'.cell? ⟨W12.heap.size, 2, none⟩ = some (.slice px11 ix11 qx11)) (go_keep)
    (first
      | (go_at_call 19; refine (toKept_any n1_0 _ _ l1_1 l1_2 _ (hv1_1.below (B := w.heap.size) (by repeat (first | exact Below.refl _ _ | (with_reducible refine Below.setCell ?_ (by first | omega | (simp; done) | (simp; omega)) _) | (with_reducible refine Below.alloc ?_ (by first | omega | (simp; done) | (simp; omega)) _) | (with_reducible refine Below.drewN' ?_ _) | (with_reducible refine Below.drew ?_) | (with_reducible assumption) | refine Below.trans ?_ (Below.mono (by assumption) (by first | omega | (simp; done) | (simp; omega))))) (Nat.le_refl _)) (hv1_2.below (B := w.heap.size) (by repeat (first | exact Below.refl _ _ | (with_reducible refine Below.setCell ?_ (by first | omega | (simp; done) | (simp; omega)) _) | (with_reducible refine Below.alloc ?_ (by first | omega | (simp; done) | (simp; omega)) _) | (with_reducible refine Below.drewN' ?_ _) | (with_reducible refine Below.drew ?_) | (with_reducible assumption) | refine Below.trans ?_ (Below.mono (by assumption) (by first | omega | (simp; done) | (simp; omega))))) (Nat.le_refl _)) hlv1_1 hlv1_2).mono ?_; rintro e W19 ⟨py19x0, iy19x0, qy19x0, py19x1, iy19x1, qy19x1, rfl, o19_y19x0, o19_y19x1, hb19⟩; obtain ⟨hc19, hf19⟩ := bcellN hb19 (W17.heap.size) (by first | omega | (simp; done) | (simp; omega)); have z19 := hb19.size; (try simp at z19))
      | (go_at_call 21; refine (eqKept_any n1_0 n1_0 _ _ _ _ _ _ _ _ _ ((o17_x10.drewN 1).below hb19 (by first | omega | (simp; done) | (simp; omega))).ints o19_y19x0.ints ((o17_x11.drewN 1).below hb19 (by first | omega | (simp; done) | (simp; omega))).ints o19_y19x1.ints).mono ?_; rintro e W20 ⟨rfl, hb20⟩; obtain ⟨hc20, hf20⟩ := bcellN hb20 (W17.heap.size) (by first | omega | (simp; done) | (simp; omega)); have z20 := hb20.size; (try simp at z20)))
  have B20 : Below w.heap.size w W20 := (by repeat (first | exact Below.refl _ _ | (with_reducible refine Below.setCell ?_ (by first | omega | (simp; done) | (simp; omega)) _) | (with_reducible refine Below.alloc ?_ (by first | omega | (simp; done) | (simp; omega)) _) | (with_reducible refine Below.drewN' ?_ _) | (with_reducible refine Below.drew ?_) | (with_reducible assumption) | refine Below.trans ?_ (Below.mono (by assumption) (by first | omega | (simp; done) | (simp; omega)))))
  have hS := (‹W20.cell? ⟨w.heap.size, 0, none⟩ = some (.int .i64 n0_0) ∧ W20.cell? ⟨w.heap.size, 1, none⟩ = some ((.slice av0_1 l0_1.length cv0_1)) ∧ W20.cell? ⟨w.heap.size, 2, none⟩ = some ((.slice av0_2 l0_2.length cv0_2)) ∧ W20.cell? ⟨w.heap.size + 1, 0, none⟩ = some (.int .i64 n1_0) ∧ W20.cell? ⟨w.heap.size + 1, 1, none⟩ = some ((.slice av1_1 l1_1.length cv1_1)) ∧ W20.cell? ⟨w.heap.size + 1, 2, none⟩ = some ((.slice av1_2 l1_2.length cv1_2)) ∧ W20.cell? ⟨W10.heap.size, 0, none⟩ = some (.int .i64 n0_0) ∧ W20.cell? ⟨W10.heap.size, 1, none⟩ = some (.slice px00 ix00 qx00) ∧ W20.cell? ⟨W10.heap.size, 2, none⟩ = some (.slice px01 ix01 qx01) ∧ W20.cell? ⟨W12.heap.size, 0, none⟩ = some (.int .i64 n1_0) ∧ W20.cell? ⟨W12.heap.size, 1, none⟩ = some (.slice px10 ix10 qx10) ∧ W20.cell? ⟨W12.heap.size, 2, none⟩ = some (.slice px11 ix11 qx11)› : W20.cell? ⟨w.heap.size, 0, none⟩ = some (.int .i64 n0_0) ∧ W20.cell? ⟨w.heap.size, 1, none⟩ = some ((.slice av0_1 l0_1.length cv0_1)) ∧ W20.cell? ⟨w.heap.size, 2, none⟩ = some ((.slice av0_2 l0_2.length cv0_2)) ∧ W20.cell? ⟨w.heap.size + 1, 0, none⟩ = some (.int .i64 n1_0) ∧ W20.cell? ⟨w.heap.size + 1, 1, none⟩ = some ((.slice av1_1 l1_1.length cv1_1)) ∧ W20.cell? ⟨w.heap.size + 1, 2, none⟩ = some ((.slice av1_2 l1_2.length cv1_2)) ∧ W20.cell? ⟨W10.heap.size, 0, none⟩ = some (.int .i64 n0_0) ∧ W20.cell? ⟨W10.heap.size, 1, none⟩ = some (.slice px00 ix00 qx00) ∧ W20.cell? ⟨W10.heap.size, 2, none⟩ = some (.slice px01 ix01 qx01) ∧ W20.cell? ⟨W12.heap.size, 0, none⟩ = some (.int .i64 n1_0) ∧ W20.cell? ⟨W12.heap.size, 1, none⟩ = some (.slice px10 ix10 qx10) ∧ W20.cell? ⟨W12.heap.size, 2, none⟩ = some (.slice px11 ix11 qx11))
  obtain ⟨d20_0, d20_1, d20_2, d20_3, d20_4, d20_5, d20_6, d20_7, d20_8, d20_9, d20_10, d20_11⟩ := hS
  have o20_x00 : OwnI 3 V9.heap.size W20 (.slice px00 ix00 qx00) (l0_1) := (((o17_x00.drewN 1).below hb19 (by first | omega | (simp; done) | (simp; omega))).below hb20 (by first | omega | (simp; done) | (simp; omega)))
  have o20_x01 : OwnI 3 V9.heap.size W20 (.slice px01 ix01 qx01) (l0_2) := (((o17_x01.drewN 1).below hb19 (by first | omega | (simp; done) | (simp; omega))).below hb20 (by first | omega | (simp; done) | (simp; omega)))
  have o20_x10 : OwnI 3 V11.heap.size W20 (.slice px10 ix10 qx10) (l1_1) := (((o17_x10.drewN 1).below hb19 (by first | omega | (simp; done) | (simp; omega))).below hb20 (by first | omega | (simp; done) | (simp; omega)))
  have o20_x11 : OwnI 3 V11.heap.size W20 (.slice px11 ix11 qx11) (l1_2) := (((o17_x11.drewN 1).below hb19 (by first | omega | (simp; done) | (simp; omega))).below hb20 (by first | omega | (simp; done) | (simp; omega)))
  have z20' : W17.heap.size ≤ W20.heap.size := by omega
  clear d17_0 d17_1 d17_2 d17_3 d17_4 d17_5 d17_6 d17_7 d17_8 d17_9 d17_10 d17_11 o17_x00 o17_x01 o17_x10 o17_x11 hc19 hf19 hc20 hf20 y18_0 y18_1 y18_2 y18_3 y18_4 y18_5 y18_6 y18_7 y18_8 y18_9 y18_10 y18_11
  have b20_0 : w.heap.size < W20.heap.size := lt_of_cell d20_0
  have b20_3 : w.heap.size + 1 < W20.heap.size := lt_of_cell d20_3
  have b20_6 : W10.heap.size < W20.heap.size := lt_of_cell d20_6
  have b20_9 : W12.heap.size < W20.heap.size := lt_of_cell d20_9
  clear b17_0 b17_3 b17_6 b17_9
  go_wp2
  go_ret
  exact ⟨rfl, B20⟩

theorem fnExactEqualKept_params : Try.f7.params = #[31, 31] := by kernel_rfl
set_option maxRecDepth 100000 in
theorem fnExactEqualKept_lifted (os : Os) (started : os.Started) (H : Type) (enc : TypeId × Value → H) :
    ReturnsInHanded {} Try.checked os 7 .any (Rows.fnExactEqualKeptSpec.pre6 enc Try.prog Try.f7 Rows.fnExactEqualKeptRow.domain false) (Rows.fnExactEqualKeptSpec.post enc Try.prog Try.f7 false true false false) := by
  refine law_lift os started H enc Try.func7 (by kernel_rfl) rfl (by kernel_rfl) (by kernel_rfl) ?_
    (ChangeSpec.witness6 (enc := enc) (C := Try.checked) false ⟨#[], #[.agg #[.int .i64 0, .slice none 0 0, .slice none 0 0], .agg #[.int .i64 0, .slice none 0 0, .slice none 0 0]], []⟩ 8 (by kernel_rfl) (by kernel_rfl) (by kernel_rfl) (by kernel_rfl)) ?_
  · intro ds hds
    rw [fnExactEqualKept_params] at hds
    match ds, hds with
    | [d0, d1], _ => rfl
  · intro W base args ds p hval hA
    rw [fnExactEqualKept_params] at hA hval
    obtain ⟨v0, vs0, d0, ds0, p0, q0, hargs, rfl, rfl, h0, r0⟩ := trodAll_cons hA
    obtain ⟨v1, vs1, d1, ds1, p1, q1, rfl, rfl, rfl, h1, r1⟩ := trodAll_cons r0
    obtain ⟨rfl, rfl, rfl⟩ := trodAll_nil r1
    obtain rfl : args = #[v0, v1] := by cases args; simp_all
    obtain ⟨n0, u0, l0, t0, m0, rfl, w0, x0, y0⟩ := rd_kept (hval 0 31 v0 rfl rfl) h0
    obtain ⟨n1, u1, l1, t1, m1, rfl, w1, x1, y1⟩ := rd_kept (hval 1 31 v1 rfl rfl) h1
    exact equalKept_walk W n0 u0 l0 t0 m0 w0 x0 y0 n1 u1 l1 t1 m1 w1 x1 y1

theorem fnExactEqualKept_holds : Rows.FnExactEqualKeptSaid :=
  OpenClaim.holds_of_wide 7 Try.f7 rfl rfl rfl rfl rfl rfl rfl ⟨rfl, rfl, rfl, rfl, rfl⟩ rfl rfl rfl rfl rfl (by kernel_rfl) Try.func7 (by kernel_rfl)
    (of_decide_eq_true (by kernel_rfl)) (by unfold Func.isWrapper; first | (rw [if_pos (by decide +kernel)]; kernel_rfl) | (rw [if_neg (by decide +kernel)]; exact ⟨rfl, rfl⟩))
    (fun os started H enc _ => fnExactEqualKept_lifted os started H enc)
end Go.Proofs.Ytekjlcflcojbpaa
