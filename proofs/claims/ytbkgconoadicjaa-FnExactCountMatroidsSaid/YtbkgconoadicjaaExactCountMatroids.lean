/- The statement FnExactCountMatroids: for every input the call returns true and each argument reads as it did. No condition. -/
import Derived.Test.YtbkgconoadicjaaRead
import Derived.Test.YtbkgconoadicjaaGrowMI
namespace Go.Proofs.Ytbkgconoadicjaa
open Go.ChangeShapes Go.WideShapes Go.ChangeAt Go.RowKit Go.G5
set_option maxHeartbeats 400000 in
theorem countdown_walk (w : World) (a : Int) (ha : InR a) :
    Calls Try.prog 4 #[.int .i64 a] w fun e w' => e = .returned (.bool true) ∧ Below w.heap.size w w' := by
  go_enter Try.func4, Try.ntmps4
  go_wp2_with (first
    | (go_at_call 20; refine (cntMS_c _ a ha).mono ?_; rintro e w1 ⟨rfl, hb1⟩)
    | (go_at_call 21; refine (cntMI_c _ a ha).mono ?_; rintro e w2 ⟨rfl, hb2⟩))
  go_ret
  exact ⟨rfl, by first | exact hb1.after hb2 hb1.size | exact hb2.after hb1 hb2.size⟩

theorem fnExactCountMatroids_params : Try.f4.params = #[3] := by kernel_rfl
set_option maxRecDepth 100000 in
theorem fnExactCountMatroids_lifted (os : Os) (started : os.Started) (H : Type) (enc : TypeId × Value → H) :
    ReturnsInHanded {} Try.checked os 4 .any (Rows.fnExactCountMatroidsSpec.pre6 enc Try.prog Try.f4 Rows.fnExactCountMatroidsRow.domain false) (Rows.fnExactCountMatroidsSpec.post enc Try.prog Try.f4 false true false false) := by
  refine law_lift os started H enc Try.func4 (by kernel_rfl) rfl (by kernel_rfl) (by kernel_rfl) ?_
    (ChangeSpec.witness6 (enc := enc) (C := Try.checked) false ⟨#[], #[.int .i64 0], []⟩ 8 (by kernel_rfl) (by kernel_rfl) (by kernel_rfl) (by kernel_rfl)) ?_
  · intro ds hds
    rw [fnExactCountMatroids_params] at hds
    match ds, hds with
    | [d0], _ => rfl
  · intro W base args ds p hval hA
    rw [fnExactCountMatroids_params] at hA hval
    obtain ⟨v0, vs0, d0, ds0, p0, q0, hargs, rfl, rfl, h0, r0⟩ := trodAll_cons hA
    obtain ⟨rfl, rfl, rfl⟩ := trodAll_nil r0
    obtain rfl : args = #[v0] := by cases args; simp_all
    obtain ⟨a0, rfl, w0⟩ := rd_int (hval 0 3 v0 rfl rfl) h0
    exact countdown_walk W a0 w0

theorem fnExactCountMatroids_holds : Rows.FnExactCountMatroidsSaid :=
  OpenClaim.holds_of_wide 4 Try.f4 rfl rfl rfl rfl rfl rfl rfl ⟨rfl, rfl, rfl, rfl, rfl⟩ rfl rfl rfl rfl rfl (by kernel_rfl) Try.func4 (by kernel_rfl)
    (of_decide_eq_true (by kernel_rfl)) (by unfold Func.isWrapper; first | (rw [if_pos (by decide +kernel)]; kernel_rfl) | (rw [if_neg (by decide +kernel)]; exact ⟨rfl, rfl⟩))
    (fun os started H enc _ => fnExactCountMatroids_lifted os started H enc)
end Go.Proofs.Ytbkgconoadicjaa
