/- The statement FnExactHasOnlyPositiveMasses: for every input the call returns true and each argument reads as it did. No condition. -/
import Derived.Test.YtmmaleidaghooaaRead
import Derived.Test.YtmmaleidaghooaaTo
import Derived.Test.YtmmaleidaghooaaEq
import Derived.Test.YtmmaleidaghooaaMark
import Derived.Deep.RegionHeld3
import Derived.Test.YtmmaleidaghooaaMass
namespace Go.Proofs.Ytmmaleidaghooaa
open Go.ChangeShapes Go.WideShapes Go.ChangeAt Go.RowKit Go.G5
set_option maxHeartbeats 2000000 in
set_option maxRecDepth 100000 in
theorem onlyPos_walk (w : World) (n0_0 : Int) (v0_1 : Value) (l0_1 : List Int) (_ : InR n0_0) (hv0_1 : Ints w v0_1 l0_1) :
    Calls Try.prog 10 #[.agg #[.int .i64 n0_0, v0_1]] w fun e w' => e = .returned (.bool true) ∧ Below w.heap.size w w' := by
  obtain ⟨av0_1, cv0_1, rfl⟩ := hv0_1.shape
  go_enter Try.func10, Try.ntmps10
  go_wp2_with fail
  refine calls_named ?_
  intro V1 hV1
  have B1 : Below w.heap.size w V1 := by rw [hV1]; exact (by repeat (first | exact Below.refl _ _ | (with_reducible refine Below.setCell ?_ (by first | omega | (simp; done) | (simp; omega)) _) | (with_reducible refine Below.alloc ?_ (by first | omega | (simp; done) | (simp; omega)) _) | (with_reducible refine Below.drewN' ?_ _) | (with_reducible refine Below.drew ?_) | (with_reducible assumption) | refine Below.trans ?_ (Below.mono (by assumption) (by first | omega | (simp; done) | (simp; omega)))))
  have z1 : w.heap.size + 1 ≤ V1.heap.size := by rw [hV1]; (first | simp | omega)
  have d1_0 : V1.cell? ⟨w.heap.size, 0, none⟩ = some (.int .i64 n0_0) := by rw [hV1]; simp [go_sem]
  have d1_1 : V1.cell? ⟨w.heap.size, 1, none⟩ = some ((.slice av0_1 l0_1.length cv0_1)) := by rw [hV1]; simp [go_sem]
  clear hV1
  refine (szFunction_c n0_0 _ l0_1 _ _ (hv0_1.below B1 (Nat.le_refl _)) (by omega) (by omega)).mono ?_
  rintro e W2 ⟨⟨s0, rfl, hs0⟩, hb2⟩
  have B2 : Below w.heap.size w W2 := B1.after hb2 B1.size
  have z2 : V1.heap.size ≤ W2.heap.size := hb2.size
  have d2_0 := keep hb2 d1_0
  have d2_1 := keep hb2 d1_1
  clear d1_0 d1_1
  have b2_0 : w.heap.size < W2.heap.size := lt_of_cell d2_0
  rcases hs0 with hs0 | ⟨g0_0, g0_1, hlv0_1'⟩
  · go_wp2
    go_ret
    exact ⟨rfl, B2⟩
  have hlv0_1 : l0_1.length ≤ 1048576 := by omega
  go_wp2_with fail
  refine calls_named ?_
  intro V3 hV3
  have B3 : Below w.heap.size w V3 := by rw [hV3]; first | exact B2 | exact B2.alloc B2.size _ | exact (B2.alloc B2.size _).alloc (by have := B2.size; simp; omega) _
  have z3 : W2.heap.size + 0 ≤ V3.heap.size := by rw [hV3]; (first | exact Nat.le_refl _ | simp)
  have d3_0 : V3.cell? ⟨w.heap.size, 0, none⟩ = some (.int .i64 n0_0) := by rw [hV3]; first | exact d2_0 | exact cell_old d2_0 _ | exact cell_old (cell_old d2_0 _) _
  have d3_1 : V3.cell? ⟨w.heap.size, 1, none⟩ = some ((.slice av0_1 l0_1.length cv0_1)) := by rw [hV3]; first | exact d2_1 | exact cell_old d2_1 _ | exact cell_old (cell_old d2_1 _) _
  skip
  clear hV3
  refine (toFunction_any n0_0 _ l0_1 _ (hv0_1.below B3 (Nat.le_refl _)) hlv0_1).mono ?_
  rintro e W4 ⟨pwx00, iwx00, qwx00, rfl, o4_wx00, hb4⟩
  have B4 : Below w.heap.size w W4 := B3.after hb4 B3.size
  have z4 : V3.heap.size ≤ W4.heap.size := hb4.size
  have d4_0 := keep hb4 d3_0
  have d4_1 := keep hb4 d3_1
  clear d3_0 d3_1
  have b4_0 : w.heap.size < W4.heap.size := lt_of_cell d4_0
  clear b2_0
  have r_wx00 := o4_wx00.lt
  go_wp2_with fail
  refine calls_named ?_
  intro V5 hV5
  have B5 : Below w.heap.size w V5 := by rw [hV5]; first | exact B4 | exact B4.alloc B4.size _ | exact (B4.alloc B4.size _).alloc (by have := B4.size; simp; omega) _
  have z5 : W4.heap.size + 0 ≤ V5.heap.size := by rw [hV5]; (first | exact Nat.le_refl _ | simp)
  have d5_0 : V5.cell? ⟨w.heap.size, 0, none⟩ = some (.int .i64 n0_0) := by rw [hV5]; first | exact d4_0 | exact cell_old d4_0 _ | exact cell_old (cell_old d4_0 _) _
  have d5_1 : V5.cell? ⟨w.heap.size, 1, none⟩ = some ((.slice av0_1 l0_1.length cv0_1)) := by rw [hV5]; first | exact d4_1 | exact cell_old d4_1 _ | exact cell_old (cell_old d4_1 _) _
  have o5_wx00 : OwnI 3 V3.heap.size V5 (.slice pwx00 iwx00 qwx00) (l0_1) := by rw [hV5]; first | exact o4_wx00 | exact o4_wx00.alloc _ | exact (o4_wx00.alloc _).alloc _
  skip
  clear hV5
  refine (onlyPosS_c _ n0_0 _ l0_1 o5_wx00.ints hlv0_1).mono ?_
  rintro e W6 ⟨rfl, hb6⟩
  have B6 : Below w.heap.size w W6 := B5.after hb6 B5.size
  have z6 : V5.heap.size ≤ W6.heap.size := hb6.size
  have d6_0 := keep hb6 d5_0
  have d6_1 := keep hb6 d5_1
  clear d5_0 d5_1
  have b6_0 : w.heap.size < W6.heap.size := lt_of_cell d6_0
  clear b4_0
  go_wp2_with fail
  refine calls_named ?_
  intro V7 hV7
  have B7 : Below w.heap.size w V7 := by rw [hV7]; first | exact B6 | exact B6.alloc B6.size _ | exact (B6.alloc B6.size _).alloc (by have := B6.size; simp; omega) _
  have z7 : W6.heap.size + 0 ≤ V7.heap.size := by rw [hV7]; (first | exact Nat.le_refl _ | simp)
  have d7_0 : V7.cell? ⟨w.heap.size, 0, none⟩ = some (.int .i64 n0_0) := by rw [hV7]; first | exact d6_0 | exact cell_old d6_0 _ | exact cell_old (cell_old d6_0 _) _
  have d7_1 : V7.cell? ⟨w.heap.size, 1, none⟩ = some ((.slice av0_1 l0_1.length cv0_1)) := by rw [hV7]; first | exact d6_1 | exact cell_old d6_1 _ | exact cell_old (cell_old d6_1 _) _
  skip
  clear hV7
  refine (toFunction_any n0_0 _ l0_1 _ (hv0_1.below B7 (Nat.le_refl _)) hlv0_1).mono ?_
  rintro e W8 ⟨px00, ix00, qx00, rfl, o8_x00, hb8⟩
  have B8 : Below w.heap.size w W8 := B7.after hb8 B7.size
  have z8 : V7.heap.size ≤ W8.heap.size := hb8.size
  have d8_0 := keep hb8 d7_0
  have d8_1 := keep hb8 d7_1
  clear d7_0 d7_1
  have b8_0 : w.heap.size < W8.heap.size := lt_of_cell d8_0
  clear b6_0
  have r_x00 := o8_x00.lt
  go_wp2_with fail
  refine calls_named ?_
  intro V9 hV9
  have B9 : Below w.heap.size w V9 := by rw [hV9]; first | exact B8 | exact B8.alloc B8.size _ | exact (B8.alloc B8.size _).alloc (by have := B8.size; simp; omega) _
  have z9 : W8.heap.size + 1 ≤ V9.heap.size := by rw [hV9]; (first | exact Nat.le_refl _ | simp)
  have d9_0 : V9.cell? ⟨w.heap.size, 0, none⟩ = some (.int .i64 n0_0) := by rw [hV9]; first | exact d8_0 | exact cell_old d8_0 _ | exact cell_old (cell_old d8_0 _) _
  have d9_1 : V9.cell? ⟨w.heap.size, 1, none⟩ = some ((.slice av0_1 l0_1.length cv0_1)) := by rw [hV9]; first | exact d8_1 | exact cell_old d8_1 _ | exact cell_old (cell_old d8_1 _) _
  have d9_2 : V9.cell? ⟨W8.heap.size, 0, none⟩ = some (.int .i64 n0_0) := by rw [hV9]; first | exact cell_new _ _ _ _ _ rfl | exact cell_old (cell_new _ _ _ _ _ rfl) _ | simp [go_sem]
  have d9_3 : V9.cell? ⟨W8.heap.size, 1, none⟩ = some (.slice px00 ix00 qx00) := by rw [hV9]; first | exact cell_new _ _ _ _ _ rfl | exact cell_old (cell_new _ _ _ _ _ rfl) _ | simp [go_sem]
  have o9_x00 : OwnI 3 V7.heap.size V9 (.slice px00 ix00 qx00) (l0_1) := by rw [hV9]; first | exact o8_x00 | exact o8_x00.alloc _ | exact (o8_x00.alloc _).alloc _
  skip
  clear hV9
  refine (onlyPosI_c _ n0_0 _ l0_1 o9_x00.ints hlv0_1).mono ?_
  rintro e W10 ⟨rfl, hb10⟩
  have B10 : Below w.heap.size w W10 := B9.after hb10 B9.size
  have z10 : V9.heap.size ≤ W10.heap.size := hb10.size
  have d10_0 := keep hb10 d9_0
  have d10_1 := keep hb10 d9_1
  have d10_2 := keep hb10 d9_2
  have d10_3 := keep hb10 d9_3
  have o10_x00 := o9_x00.keep hb10
  clear d9_0 d9_1 d9_2 d9_3 o9_x00
  have b10_0 : w.heap.size < W10.heap.size := lt_of_cell d10_0
  have b10_2 : W8.heap.size < W10.heap.size := lt_of_cell d10_2
  clear b8_0
  go_wp2_with fail
  have y11_0 : w.heap.size < W10.heap.size := lt_of_cell d10_0
  have y11_1 : w.heap.size < W10.heap.size := lt_of_cell d10_1
  have y11_2 : W8.heap.size < W10.heap.size := lt_of_cell d10_2
  have y11_3 : W8.heap.size < W10.heap.size := lt_of_cell d10_3
  go_region_held3 (fun w' => w'.cell? ⟨w.heap.size, 0, none⟩ = some (.int .i64 n0_0) ∧ w'.cell? ⟨w.heap.size, 1, none⟩ = some ((.slice av0_1 l0_1.length cv0_1)) ∧ w'.cell? ⟨W8.heap.size, 0, none⟩ = some (.int .i64 n0_0) ∧ w'.cell? ⟨W8.heap.size, 1, none⟩ = some (.slice px00 ix00 qx00)) (go_keep)
    (first
      | (go_at_call 29; refine (toFunction_any n0_0 _ l0_1 _ (hv0_1.below (B := w.heap.size) (by repeat (first | exact Below.refl _ _ | (with_reducible refine Below.setCell ?_ (by first | omega | (simp; done) | (simp; omega)) _) | (with_reducible refine Below.alloc ?_ (by first | omega | (simp; done) | (simp; omega)) _) | (with_reducible refine Below.drewN' ?_ _) | (with_reducible refine Below.drew ?_) | (with_reducible assumption) | refine Below.trans ?_ (Below.mono (by assumption) (by first | omega | (simp; done) | (simp; omega))))) (Nat.le_refl _)) hlv0_1).mono ?_; rintro e W12 ⟨py12x0, iy12x0, qy12x0, rfl, o12_y12x0, hb12⟩; obtain ⟨hc12, hf12⟩ := bcellN hb12 (W10.heap.size) (by first | omega | (simp; done) | (simp; omega)); have z12 := hb12.size; (try simp at z12))
      | (go_at_call 22; refine (eqFunction_any n0_0 n0_0 _ _ _ _ _ ((o10_x00.drewN 1).below hb12 (by first | omega | (simp; done) | (simp; omega))).ints o12_y12x0.ints).mono ?_; rintro e W13 ⟨rfl, hb13⟩; obtain ⟨hc13, hf13⟩ := bcellN hb13 (W10.heap.size) (by first | omega | (simp; done) | (simp; omega)); have z13 := hb13.size; (try simp at z13)))
  have B13 : Below w.heap.size w W13 := (by repeat (first | exact Below.refl _ _ | (with_reducible refine Below.setCell ?_ (by first | omega | (simp; done) | (simp; omega)) _) | (with_reducible refine Below.alloc ?_ (by first | omega | (simp; done) | (simp; omega)) _) | (with_reducible refine Below.drewN' ?_ _) | (with_reducible refine Below.drew ?_) | (with_reducible assumption) | refine Below.trans ?_ (Below.mono (by assumption) (by first | omega | (simp; done) | (simp; omega)))))
  have hS := (‹W13.cell? ⟨w.heap.size, 0, none⟩ = some (.int .i64 n0_0) ∧ W13.cell? ⟨w.heap.size, 1, none⟩ = some ((.slice av0_1 l0_1.length cv0_1)) ∧ W13.cell? ⟨W8.heap.size, 0, none⟩ = some (.int .i64 n0_0) ∧ W13.cell? ⟨W8.heap.size, 1, none⟩ = some (.slice px00 ix00 qx00)› : W13.cell? ⟨w.heap.size, 0, none⟩ = some (.int .i64 n0_0) ∧ W13.cell? ⟨w.heap.size, 1, none⟩ = some ((.slice av0_1 l0_1.length cv0_1)) ∧ W13.cell? ⟨W8.heap.size, 0, none⟩ = some (.int .i64 n0_0) ∧ W13.cell? ⟨W8.heap.size, 1, none⟩ = some (.slice px00 ix00 qx00))
  obtain ⟨d13_0, d13_1, d13_2, d13_3⟩ := hS
  have o13_x00 : OwnI 3 V7.heap.size W13 (.slice px00 ix00 qx00) (l0_1) := (((o10_x00.drewN 1).below hb12 (by first | omega | (simp; done) | (simp; omega))).below hb13 (by first | omega | (simp; done) | (simp; omega)))
  have z13' : W10.heap.size ≤ W13.heap.size := by omega
  clear d10_0 d10_1 d10_2 d10_3 o10_x00 hc12 hf12 hc13 hf13 y11_0 y11_1 y11_2 y11_3
  have b13_0 : w.heap.size < W13.heap.size := lt_of_cell d13_0
  have b13_2 : W8.heap.size < W13.heap.size := lt_of_cell d13_2
  clear b10_0 b10_2
  go_wp2
  go_ret
  exact ⟨rfl, B13⟩

theorem fnExactHasOnlyPositiveMasses_params : Try.f10.params = #[35] := by kernel_rfl
set_option maxRecDepth 100000 in
theorem fnExactHasOnlyPositiveMasses_lifted (os : Os) (started : os.Started) (H : Type) (enc : TypeId × Value → H) :
    ReturnsInHanded {} Try.checked os 10 .any (Rows.fnExactHasOnlyPositiveMassesSpec.pre6 enc Try.prog Try.f10 Rows.fnExactHasOnlyPositiveMassesRow.domain false) (Rows.fnExactHasOnlyPositiveMassesSpec.post enc Try.prog Try.f10 false true false false) := by
  refine law_lift os started H enc Try.func10 (by kernel_rfl) rfl (by kernel_rfl) (by kernel_rfl) ?_
    (ChangeSpec.witness6 (enc := enc) (C := Try.checked) false ⟨#[], #[.agg #[.int .i64 0, .slice none 0 0]], []⟩ 8 (by kernel_rfl) (by kernel_rfl) (by kernel_rfl) (by kernel_rfl)) ?_
  · intro ds hds
    rw [fnExactHasOnlyPositiveMasses_params] at hds
    match ds, hds with
    | [d0], _ => rfl
  · intro W base args ds p hval hA
    rw [fnExactHasOnlyPositiveMasses_params] at hA hval
    obtain ⟨v0, vs0, d0, ds0, p0, q0, hargs, rfl, rfl, h0, r0⟩ := trodAll_cons hA
    obtain ⟨rfl, rfl, rfl⟩ := trodAll_nil r0
    obtain rfl : args = #[v0] := by cases args; simp_all
    obtain ⟨n0, u0, l0, rfl, w0, x0⟩ := rd_fun (hval 0 35 v0 rfl rfl) h0
    exact onlyPos_walk W n0 u0 l0 w0 x0

theorem fnExactHasOnlyPositiveMasses_holds : Rows.FnExactHasOnlyPositiveMassesSaid :=
  OpenClaim.holds_of_wide 10 Try.f10 rfl rfl rfl rfl rfl rfl rfl ⟨rfl, rfl, rfl, rfl, rfl⟩ rfl rfl rfl rfl rfl (by kernel_rfl) Try.func10 (by kernel_rfl)
    (of_decide_eq_true (by kernel_rfl)) (by unfold Func.isWrapper; first | (rw [if_pos (by decide +kernel)]; kernel_rfl) | (rw [if_neg (by decide +kernel)]; exact ⟨rfl, rfl⟩))
    (fun os started H enc _ => fnExactHasOnlyPositiveMasses_lifted os started H enc)
end Go.Proofs.Ytmmaleidaghooaa
