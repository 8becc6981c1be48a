/- Sets as numbers: sizes and bits. -/
import Derived.Test.YtekjlcflcojbpaaNum
import Derived.Laws.BitsAllLaws
namespace Go.Proofs.Ytekjlcflcojbpaa
open Go.RowKit Go.G5

theorem wraps_i64 (n : Int) (h₀ : 0 ≤ n) (h₁ : n < 2 ^ 62) : IntKind.i64.wrap n = n := by rw [IntKind.wrap_i64]; omega
theorem bitsA (a b : Nat) (ha : a < 2 ^ 62) (hb : b < 2 ^ 62) : bits .and .i64 (a : Int) (b : Int) = ((a &&& b : Nat) : Int) := (bits_nat .i64 62 (by decide) wraps_i64 a b ha hb).1
theorem bitsO (a b : Nat) (ha : a < 2 ^ 62) (hb : b < 2 ^ 62) : bits .or .i64 (a : Int) (b : Int) = ((a ||| b : Nat) : Int) := (bits_nat .i64 62 (by decide) wraps_i64 a b ha hb).2
theorem bitsA1 (a : Nat) (ha : a < 2 ^ 62) : bits .and .i64 (a : Int) 1 = ((a % 2 : Nat) : Int) := by
  have := bitsA a 1 ha (by decide)
  rw [Nat.and_one_is_mod] at this
  exact this
/-- what is in a and not in b -/
def ndiff (a b : Nat) : Nat := a - (a &&& b)
theorem bitsN (a b : Nat) (ha : a < 64) (hb : b < 64) : bits .andNot .i64 (a : Int) (b : Int) = ((ndiff a b : Nat) : Int) := by
  have h : ∀ a, a < 64 → ∀ b, b < 64 → bits .andNot .i64 ((a : Nat) : Int) ((b : Nat) : Int) = ((ndiff a b : Nat) : Int) := by decide +kernel
  exact h a ha b hb
theorem and_lt (a b n : Nat) (ha : a < n) : a &&& b < n := Nat.lt_of_le_of_lt Nat.and_le_left ha
theorem or_lt64 (a b : Nat) (ha : a < 64) (hb : b < 64) : a ||| b < 64 := Nat.or_lt_two_pow (n := 6) ha hb
theorem ndiff_lt (a b n : Nat) (ha : a < n) : ndiff a b < n := by unfold ndiff; omega
theorem two_pow (n m : Nat) (h : n ≤ m) : (2 : Int) ^ n ≤ 2 ^ m ∧ 0 < (2 : Int) ^ n := by
  constructor
  · have := Nat.pow_le_pow_right (show 0 < 2 by decide) h
    exact_mod_cast this
  · have := Nat.two_pow_pos n
    exact_mod_cast this

/-- the number of elements of a set -/
def pop (n : Nat) : Nat := (List.range 64).foldl (fun a i => a + (n >>> i) % 2) 0

theorem pop_step (n : Nat) (h : n < 256) : pop n = n % 2 + pop (n / 2) := by
  revert n; decide +kernel
theorem pop_zero : pop 0 = 0 := by decide +kernel
theorem pop_le (n : Nat) (h : n < 256) : pop n ≤ 8 := by
  revert n; decide +kernel

end Go.Proofs.Ytekjlcflcojbpaa
