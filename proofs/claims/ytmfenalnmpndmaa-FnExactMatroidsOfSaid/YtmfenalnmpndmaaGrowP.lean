/- Ranks of matroids of few elements: what is computed. -/
import Derived.Test.YtmfenalnmpndmaaRank
namespace Go.Proofs.Ytmfenalnmpndmaa
open Go.RowKit Go.G5

/-- the ranks that go on from values, m more of them -/
def growL (n : Nat) : Nat → List Int → List (List Int)
  | 0, v => if rankB (n : Int) v then [v] else []
  | m + 1, v => (List.range (pop v.length + 1)).flatMap (fun x : Nat => growL n m (v ++ [Int.ofNat x]))
def matL (n : Int) : List (List Int) := if inB n 0 3 then growL n.toNat (2 ^ n.toNat) [] else []
theorem growL_first (n m : Nat) : growL n (m + 1) [] = growL n m [0] := by
  rw [growL]
  have : pop ([] : List Int).length = 0 := pop_zero
  rw [this]
  simp [List.range_succ]
theorem pop_le3 : ∀ k : Nat, k < 8 → pop k ≤ 3 := by decide +kernel
theorem flat_len {α β : Type} (F : α → List β) (b : Nat) (h : ∀ a, (F a).length ≤ b) (l : List α) : (l.flatMap F).length ≤ l.length * b := by
  induction l with
  | nil => simp
  | cons a l ih =>
    rw [List.flatMap_cons, List.length_append, List.length_cons, Nat.succ_mul]
    have := h a
    omega
theorem growL_len (n : Nat) : ∀ (m : Nat) (v : List Int), v.length + m ≤ 8 → (growL n m v).length ≤ 4 ^ m := by
  intro m
  induction m with
  | zero => intro v _; rw [growL]; split <;> simp
  | succ m ih =>
    intro v hv
    rw [growL]
    have hp := pop_le3 v.length (by omega)
    have h1 := flat_len (fun x : Nat => growL n m (v ++ [Int.ofNat x])) (4 ^ m) (fun x => ih _ (by rw [List.length_append, List.length_singleton]; omega)) (List.range (pop v.length + 1))
    rw [List.length_range] at h1
    have h2 : (pop v.length + 1) * 4 ^ m ≤ 4 * 4 ^ m := Nat.mul_le_mul_right _ (by omega)
    rw [Nat.pow_succ]
    omega
end Go.Proofs.Ytmfenalnmpndmaa
