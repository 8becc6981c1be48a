/- The laws' own marks. -/
import Derived.Test.YtpaoiiiceekkkaaDoorOwnW
import Derived.Deep.Light
namespace Go.Proofs.YtpaoiiiceekkkaaDoor
open Go.RowKit Go.G5

def ramp (k : Int) : Nat → List Int
  | 0 => []
  | n + 1 => k :: ramp (k + 1) n
theorem ramp_len (n : Nat) : ∀ k : Int, (ramp k n).length = n := by
  induction n with
  | zero => intro k; rfl
  | succ n ih => intro k; simp [ramp, ih]
theorem ramp_get (n : Nat) : ∀ (k : Int) (j : Nat) (h : j < (ramp k n).length), (ramp k n)[j] = k + j := by
  induction n with
  | zero => intro k j h; simp [ramp] at h
  | succ n ih =>
    intro k j h
    cases j with
    | zero => simp [ramp]
    | succ j =>
      simp only [ramp, List.getElem_cons_succ]
      rw [ih (k + 1) j (by simpa [ramp] using h)]
      push_cast; omega
theorem ramp_step (k : Int) (l : List Int) (j : Nat) (h : j < l.length) : (ramp k j ++ l.drop j).set j (k + j) = ramp k (j + 1) ++ l.drop (j + 1) := by
  apply List.ext_getElem
  · simp [ramp_len]; omega
  · intro i h1 h2
    simp only [List.length_set, List.length_append, ramp_len, List.length_drop] at h1 h2
    rw [List.getElem_set]
    by_cases hi : j = i
    · subst hi
      rw [if_pos rfl, List.getElem_append_left (by rw [ramp_len]; omega), ramp_get]
    · rw [if_neg hi]
      by_cases hij : i < j
      · rw [List.getElem_append_left (by rw [ramp_len]; omega), List.getElem_append_left (by rw [ramp_len]; omega), ramp_get, ramp_get]
      · rw [List.getElem_append_right (by rw [ramp_len]; omega), List.getElem_append_right (by rw [ramp_len]; omega)]
        simp only [ramp_len, List.getElem_drop]
        congr 1; omega

theorem ramp_inR (k : Int) (n : Nat) (h0 : 0 ≤ k) (h1 : k + n ≤ 9223372036854775807) : ∀ x ∈ ramp k n, InR x := by
  intro x hx
  obtain ⟨j, hj, rfl⟩ := List.getElem_of_mem hx
  rw [ramp_get]
  rw [ramp_len] at hj
  exact ⟨by omega, by omega⟩

end Go.Proofs.YtpaoiiiceekkkaaDoor
