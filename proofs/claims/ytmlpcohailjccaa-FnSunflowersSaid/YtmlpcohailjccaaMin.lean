/- Sets that contain no other one; blockers. -/
import Derived.Test.YtmlpcohailjccaaAnti
import Derived.Shelf.Abstract
namespace Go.Proofs.Ytmlpcohailjccaa
open Go.RowKit Go.G5

/-! a function value that is asked of the numbers of a slice -/
/-! minimal sets -/
def subsB (s t : Int) : Bool := t != s && idif t s == 0
def minL (l : List Int) : List Int := l.filter fun s => !(l.any (subsB s))

/-- the two ways to say it agree where no set stands twice -/
theorem allTo_iff {p : Nat → Bool} {n : Nat} : allTo p n = true ↔ ∀ k, k < n → p k = true := by
  constructor
  · intro h k hk
    cases hp : p k with
    | true => rfl
    | false => rw [allTo_false hk hp] at h; cases h
  · exact allTo_of
theorem fineB_is (l : List Int) (hn : l.Pairwise (· < ·)) (hm : ∀ x ∈ l, 0 ≤ x) (i : Nat) (hi : i < l.length) : fineB l i = !(l.any (subsB l[i])) := by
  rw [Bool.eq_iff_iff]
  unfold fineB
  rw [allTo_iff, Bool.not_eq_true', List.any_eq_false]
  have hsub : ∀ t : Int, 0 ≤ t → (idif t l[i] = 0 ↔ iand t l[i] = t) := fun t ht => by
    have h1 := hm _ (List.getElem_mem hi)
    unfold idif iand ndiff
    have := @Nat.and_le_left t.toNat l[i].toNat
    omega
  constructor
  · intro h t ht
    obtain ⟨k, hk, rfl⟩ := List.getElem_of_mem ht
    have hkk := h k hk
    rw [getD_at l k hk, getD_at l i hi] at hkk
    unfold subsB
    simp only [Bool.or_eq_true, beq_iff_eq, bne_iff_ne, ne_eq, Bool.and_eq_true, not_and] at hkk ⊢
    intro hne hid
    rcases hkk with rfl | hkk
    · exact hne rfl
    · exact hkk ((hsub _ (hm _ (List.getElem_mem hk))).1 hid)
  · intro h k hk
    rw [getD_at l k hk, getD_at l i hi]
    have := h _ (List.getElem_mem hk)
    unfold subsB at this
    simp only [Bool.or_eq_true, beq_iff_eq, bne_iff_ne, ne_eq, Bool.and_eq_true, not_and] at this ⊢
    by_cases hki : k = i
    · exact .inl hki
    · right
      intro hid
      refine this (fun e => ?_) ((hsub _ (hm _ (List.getElem_mem hk))).2 hid)
      have hp := List.pairwise_iff_getElem.1 hn
      rcases Nat.lt_or_gt_of_ne hki with h1 | h1
      · have := hp k i hk hi h1; omega
      · have := hp i k hi hk h1; omega
theorem minTo_is (l : List Int) (hn : l.Pairwise (· < ·)) (hm : ∀ x ∈ l, 0 ≤ x) : ∀ k, k ≤ l.length → minTo l k = (l.take k).filter fun s => !(l.any (subsB s)) := by
  intro k
  induction k with
  | zero => intro _; simp [minTo]
  | succ k ih =>
    intro hk
    have hlt : k < l.length := by omega
    rw [minTo, ih (by omega), List.take_succ_eq_append_getElem hlt, List.filter_append, List.filter_cons, List.filter_nil, fineB_is l hn hm k hlt, getD_at l k hlt]
    split <;> simp
theorem minTo_all (l : List Int) (hn : l.Pairwise (· < ·)) (hm : ∀ x ∈ l, 0 ≤ x) : minTo l l.length = minL l := by
  rw [minTo_is l hn hm l.length (Nat.le_refl _), List.take_length]; rfl
end Go.Proofs.Ytmlpcohailjccaa
