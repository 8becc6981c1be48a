/- Sets of six elements: what is decided. -/
import Derived.Test.YtmfenalnmpndmaaHallP
namespace Go.Proofs.Ytmfenalnmpndmaa
open Go.RowKit Go.G5

theorem hm_tb (y e : Nat) : nbit y e = y.testBit e := by
  unfold nbit
  rw [Nat.testBit_eq_decide_div_mod_eq]
  rcases Nat.mod_two_eq_zero_or_one (y / 2 ^ e) with h | h <;> simp [h]
theorem hm_or (x y e : Nat) : nbit (x ||| y) e = (nbit x e || nbit y e) := by simp only [hm_tb, Nat.testBit_or]
theorem hm_lt (G x e : Nat) (hx : x < 2 ^ G) (h : nbit x e = true) : e < G := by
  rcases Nat.lt_or_ge e G with h1 | h1
  · exact h1
  · rw [hm_tb, Nat.testBit_lt_two_pow (Nat.lt_of_lt_of_le hx (Nat.pow_le_pow_right (by decide) h1))] at h
    cases h
theorem hm_mod : ∀ a, a < 64 → ∀ b, b < 64 → pop (a ||| b) + pop (a &&& b) = pop a + pop b := by decide +kernel
theorem hm_mono : ∀ a, a < 64 → ∀ b, b < 64 → pop a ≤ pop (a ||| b) := by decide +kernel
theorem hm_off : ∀ y, y < 64 → ∀ e, e < 6 → (pop (ndiff y (2 ^ e)) + (if nbit y e then 1 else 0) = pop y ∧ ndiff y (2 ^ e) < 64) := by decide +kernel
theorem hm_nd : ∀ x, x < 64 → ∀ u, u < 64 → ∀ e, e < 6 → ndiff x (u ||| 2 ^ e) = ndiff (ndiff x u) (2 ^ e) := by decide +kernel
theorem hm_ndor : ∀ a, a < 64 → ∀ b, b < 64 → ∀ e, e < 6 → ndiff (a ||| b) (2 ^ e) = ndiff a (2 ^ e) ||| ndiff b (2 ^ e) := by decide +kernel
theorem hm_bit : ∀ x, x < 64 → ∀ u, u < 64 → ∀ e, e < 6 → nbit (ndiff x u) e = (nbit x e && !nbit u e) := by decide +kernel
theorem hm_sub : ∀ a, a < 64 → ∀ b, b < 64 → (∀ e, e < 6 → nbit a e = true → nbit b e = true) → b ||| a = b := by decide +kernel
theorem hm_z : ndiff 0 0 = 0 := by decide
theorem hm_nd0 (x : Nat) : ndiff x 0 = x := by unfold ndiff; simp

end Go.Proofs.Ytmfenalnmpndmaa
