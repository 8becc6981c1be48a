/- The statement FnExactSunflowerBound: for every input the call returns true and each argument reads as it did. No condition. -/
import Derived.Test.YtekjlcflcojbpaaRead
import Derived.Test.YtekjlcflcojbpaaNum
namespace Go.Proofs.Ytekjlcflcojbpaa
open Go.ChangeShapes Go.WideShapes Go.ChangeAt Go.RowKit Go.G5
theorem sunflowerBound_walk (w : World) (a : Int) (_ : InR a) (b : Int) (_ : InR b) :
    Calls Try.prog 6 #[.int .i64 a, .int .i64 b] w fun e w' => e = .returned (.bool true) ∧ Below w.heap.size w w' := by
  go_enter Try.func6, Try.ntmps6
  go_wp2_with (first | (go_at_call 15; refine (sunBoundS_any _ _ _).mono ?_; rintro e w' ⟨rfl, rfl⟩) | (go_at_call 16; refine (sunBoundI_any _ _ _).mono ?_; rintro e w' ⟨rfl, rfl⟩))
  go_ret
  exact ⟨rfl, Below.refl _ _⟩

theorem fnExactSunflowerBound_params : Try.f6.params = #[3, 3] := by kernel_rfl
set_option maxRecDepth 100000 in
theorem fnExactSunflowerBound_lifted (os : Os) (started : os.Started) (H : Type) (enc : TypeId × Value → H) :
    ReturnsInHanded {} Try.checked os 6 .any (Rows.fnExactSunflowerBoundSpec.pre6 enc Try.prog Try.f6 Rows.fnExactSunflowerBoundRow.domain false) (Rows.fnExactSunflowerBoundSpec.post enc Try.prog Try.f6 false true false false) := by
  refine law_lift os started H enc Try.func6 (by kernel_rfl) rfl (by kernel_rfl) (by kernel_rfl) ?_
    (ChangeSpec.witness6 (enc := enc) (C := Try.checked) false ⟨#[], #[.int .i64 0, .int .i64 0], []⟩ 8 (by kernel_rfl) (by kernel_rfl) (by kernel_rfl) (by kernel_rfl)) ?_
  · intro ds hds
    rw [fnExactSunflowerBound_params] at hds
    match ds, hds with
    | [d0, d1], _ => rfl
  · intro W base args ds p hval hA
    rw [fnExactSunflowerBound_params] at hA hval
    obtain ⟨v0, vs0, d0, ds0, p0, q0, hargs, rfl, rfl, h0, r0⟩ := trodAll_cons hA
    obtain ⟨v1, vs1, d1, ds1, p1, q1, rfl, rfl, rfl, h1, r1⟩ := trodAll_cons r0
    obtain ⟨rfl, rfl, rfl⟩ := trodAll_nil r1
    obtain rfl : args = #[v0, v1] := by cases args; simp_all
    obtain ⟨a0, rfl, w0⟩ := rd_int (hval 0 3 v0 rfl rfl) h0
    obtain ⟨a1, rfl, w1⟩ := rd_int (hval 1 3 v1 rfl rfl) h1
    exact sunflowerBound_walk W a0 w0 a1 w1

theorem fnExactSunflowerBound_holds : Rows.FnExactSunflowerBoundSaid :=
  OpenClaim.holds_of_wide 6 Try.f6 rfl rfl rfl rfl rfl rfl rfl ⟨rfl, rfl, rfl, rfl, rfl⟩ rfl rfl rfl rfl rfl (by kernel_rfl) Try.func6 (by kernel_rfl)
    (of_decide_eq_true (by kernel_rfl)) (by unfold Func.isWrapper; first | (rw [if_pos (by decide +kernel)]; kernel_rfl) | (rw [if_neg (by decide +kernel)]; exact ⟨rfl, rfl⟩))
    (fun os started H enc _ => fnExactSunflowerBound_lifted os started H enc)
end Go.Proofs.Ytekjlcflcojbpaa
