/- Common independent sets and what bounds them: what is computed. -/
import Derived.Test.YtmlpcohailjccaaRank
import Derived.Test.YtmlpcohailjccaaCutP
namespace Go.Proofs.Ytmlpcohailjccaa
open Go.RowKit Go.G5

def comB (n : Int) (l : List Int) (m : Int) (k : List Int) : Bool := (rankB n l && rankB m k) && decide (n = m)
def freeB (l : List Int) (s : Nat) : Bool := decide (l.getD s 0 = (pop s : Int))
/-- the first of the largest common sets below t -/
def lcTo (l k : List Int) : Nat → Nat
  | 0 => 0
  | t + 1 => if decide (pop (lcTo l k t) < pop t) && (freeB l t && freeB k t) then t else lcTo l k t
def sumT (l k : List Int) (t : Nat) : Int := l.getD t 0 + k.getD (l.length - 1 - t) 0
/-- the first set below t with the least sum -/
def spTo (l k : List Int) : Nat → Nat
  | 0 => 0
  | t + 1 => if sumT l k t < sumT l k (spTo l k t) then t else spTo l k t
def lcS (n : Int) (l : List Int) (m : Int) (k : List Int) : Int := if comB n l m k then (lcTo l k l.length : Int) else 0
def cbS (n : Int) (l : List Int) (m : Int) (k : List Int) : Int := if comB n l m k then (spTo l k l.length : Int) else 0
def cbN (n : Int) (l : List Int) (m : Int) (k : List Int) : Int := if comB n l m k then sumT l k (spTo l k l.length) else 0
theorem lcTo_lt (l k : List Int) : ∀ t, 0 < t → lcTo l k t < t := by
  intro t
  induction t with
  | zero => intro h; omega
  | succ t ih =>
    intro _
    rw [lcTo]
    split
    · omega
    · rcases Nat.eq_zero_or_pos t with rfl | h
      · simp [lcTo]
      · have := ih h; omega
theorem spTo_lt (l k : List Int) : ∀ t, 0 < t → spTo l k t < t := by
  intro t
  induction t with
  | zero => intro h; omega
  | succ t ih =>
    intro _
    rw [spTo]
    split
    · omega
    · rcases Nat.eq_zero_or_pos t with rfl | h
      · simp [spTo]
      · have := ih h; omega
theorem lcTo_one (l k : List Int) : lcTo l k 1 = 0 := by
  have := lcTo_lt l k 1 (by omega); omega
theorem spTo_one (l k : List Int) : spTo l k 1 = 0 := by
  have := spTo_lt l k 1 (by omega); omega
theorem com_fun {n m : Int} {l k : List Int} (h : comB n l m k = true) : m = n ∧ ∃ N : Nat, n = N ∧ N ≤ 5 ∧ l.length = 2 ^ N ∧ l.length ≤ 32 ∧ k.length = l.length ∧ (∀ i, (hi : i < l.length) → -1000 ≤ l[i] ∧ l[i] ≤ 1000) ∧ (∀ i, (hi : i < k.length) → -1000 ≤ k[i] ∧ k[i] ≤ 1000) := by
  unfold comB rankB at h
  simp only [Bool.and_eq_true, decide_eq_true_eq] at h
  obtain ⟨⟨⟨h1, _⟩, h2, _⟩, rfl⟩ := h
  obtain ⟨N, rfl, hN5, hl2, hl32, hlb⟩ := fun_nat (poly_fun h1)
  obtain ⟨M, hM, hM5, hk2, hk32, hkb⟩ := fun_nat (poly_fun h2)
  have : N = M := by omega
  subst this
  exact ⟨rfl, N, rfl, hN5, hl2, hl32, by omega, hlb, hkb⟩
end Go.Proofs.Ytmlpcohailjccaa
