/- Counting families: the shared walks. -/
import Derived.Test.YthbkghpgnnpmbaaFun
import Derived.Test.YthbkghpgnnpmbaaChoose
namespace Go.Proofs.Ythbkghpgnnpmbaa
open Go.RowKit Go.G5

def nbit (code s : Nat) : Bool := code / 2 ^ s % 2 == 1
theorem nbit_is (code s : Nat) : (ibit (code : Int) s == 1) = nbit code s := by
  unfold ibit nbit
  have h : ((code : Int) / 2 ^ s % 2) = ((code / 2 ^ s % 2 : Nat) : Int) := by push_cast; rfl
  rw [h]
  have : (code / 2 ^ s % 2) < 2 := Nat.mod_lt _ (by decide)
  rcases (show code / 2 ^ s % 2 = 0 ∨ code / 2 ^ s % 2 = 1 by omega) with h1 | h1 <;> rw [h1] <;> rfl
/-- the sets that are the bits of a number -/
def famOf (code : Nat) (k : Nat) : List Int := chosen (nbit code) k
theorem famOf_more (code k m : Nat) (h : code < 2 ^ k) : famOf code (k + m) = famOf code k := by
  induction m with
  | zero => rfl
  | succ m ih =>
    rw [← Nat.add_assoc, famOf, chosen_succ, if_neg, ← famOf, ih]
    have h1 : code < 2 ^ (k + m) := Nat.lt_of_lt_of_le h (Nat.pow_le_pow_right (by decide) (by omega))
    unfold nbit
    rw [Nat.div_eq_of_lt h1]; decide
theorem famOf_same (code k m : Nat) (h : code < 2 ^ k) (h' : code < 2 ^ m) : famOf code k = famOf code m := by
  rcases Nat.le_total k m with hkm | hkm
  · obtain ⟨d, rfl⟩ := Nat.exists_eq_add_of_le hkm
    exact (famOf_more code k d h).symm
  · obtain ⟨d, rfl⟩ := Nat.exists_eq_add_of_le hkm
    exact famOf_more code m d h'
/-- how many codes below k are wanted -/
def cntTo (Q : Nat → Bool) : Nat → Nat
  | 0 => 0
  | k + 1 => if Q k then cntTo Q k + 1 else cntTo Q k
theorem cntTo_le (Q : Nat → Bool) (k : Nat) : cntTo Q k ≤ k := by
  induction k with
  | zero => exact Nat.le_refl _
  | succ k ih => rw [cntTo]; split <;> omega

theorem famOf_bd (code k : Nat) : ∀ x ∈ famOf code k, 0 ≤ x ∧ x < (k : Int) := by
  intro x hx
  unfold famOf chosen at hx
  rw [List.mem_map] at hx
  obtain ⟨s, hs, rfl⟩ := hx
  rw [List.mem_filter, List.mem_range] at hs
  simp only [Int.ofNat_eq_natCast]
  omega
theorem famOf32 (code k : Nat) (h : code < 2 ^ k) (hk : k ≤ 32) : famOf code 32 = famOf code k :=
  famOf_same code 32 k (Nat.lt_of_lt_of_le h (Nat.pow_le_pow_right (by decide) hk)) h
def cntOf (Q : Int → Nat → Bool) (n : Int) : Int := if inB n 0 3 then (cntTo (Q n) (2 ^ 2 ^ n.toNat) : Int) else -1
theorem in03 {n : Int} (h : inB n 0 3 = true) : n = 0 ∨ n = 1 ∨ n = 2 ∨ n = 3 := by have := inB_true.1 h; omega
end Go.Proofs.Ythbkghpgnnpmbaa
