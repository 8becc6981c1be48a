/- Numbers that are put into an ascending list. -/
import Derived.Test.YtmlpcohailjccaaSortP
import Derived.Test.YtmlpcohailjccaaClone
namespace Go.Proofs.Ytmlpcohailjccaa
open Go.RowKit Go.G5

def putL (l : List Int) (x : Int) : List Int := gatherL (l ++ [x])
theorem putL_mem (l : List Int) (x y : Int) : y ∈ putL l x ↔ y ∈ l ∨ y = x := by
  unfold putL; rw [gatherL_mem]; simp
theorem putL_asc (l : List Int) (x : Int) : (putL l x).Pairwise (· < ·) := gatherL_asc _
theorem putL_len (l : List Int) (x : Int) : (putL l x).length ≤ l.length + 1 := by
  have := gatherL_len (l ++ [x])
  simpa [putL] using this
theorem putL_gather (A : List Int) (x : Int) : putL (gatherL A) x = gatherL (A ++ [x]) := by
  refine asc_ext _ _ (putL_asc _ _) (gatherL_asc _) ?_
  intro y
  rw [putL_mem, gatherL_mem, gatherL_mem]
  simp
theorem put_have (l : List Int) (x : Int) (h : l.Pairwise (· < ·)) (hx : x ∈ l) : putL l x = l := by
  refine asc_ext _ _ (putL_asc _ _) h ?_
  intro y
  rw [putL_mem]
  constructor
  · rintro (h | h)
    · exact h
    · rw [h]; exact hx
  · exact .inl
theorem put_new (l : List Int) (x : Int) (i : Nat) (h : l.Pairwise (· < ·)) (h1 : ∀ y ∈ l.drop i, x < y) (h2 : ∀ y ∈ l.take i, y < x) : putL l x = (l.take i ++ [x]) ++ l.drop i := by
  refine asc_ext _ _ (putL_asc _ _) ?_ ?_
  · rw [← List.take_append_drop i l, List.pairwise_append] at h
    rw [List.pairwise_append, List.pairwise_append]
    refine ⟨⟨h.1, by simp, ?_⟩, h.2.1, ?_⟩
    · intro a ha b hb
      rw [List.mem_singleton] at hb
      rw [hb]; exact h2 a ha
    · intro a ha b hb
      rw [List.mem_append, List.mem_singleton] at ha
      rcases ha with ha | ha
      · exact h.2.2 a ha b hb
      · rw [ha]; exact h1 b hb
  · intro y
    rw [putL_mem]
    conv => lhs; rw [← List.take_append_drop i l]
    simp only [List.mem_append, List.mem_singleton]
    constructor
    · rintro ((h | h) | h)
      · exact .inl (.inl h)
      · exact .inr h
      · exact .inl (.inr h)
    · rintro ((h | h) | h)
      · exact .inl (.inl h)
      · exact .inr h
      · exact .inl (.inr h)
theorem take_below (l : List Int) (x : Int) (i : Nat) (h : l.Pairwise (· < ·)) (hi : i < l.length) (hx : l[i] < x) : ∀ y ∈ l.take (i + 1), y < x := by
  intro y hy
  rw [List.take_succ_eq_append_getElem hi, List.mem_append, List.mem_singleton] at hy
  rcases hy with hy | hy
  · obtain ⟨j, hj, rfl⟩ := List.getElem_of_mem hy
    rw [List.length_take] at hj
    have := List.pairwise_iff_getElem.1 h j i (by omega) hi (by omega)
    rw [List.getElem_take]
    omega
  · rw [hy]; exact hx
theorem drop_above (l : List Int) (x : Int) (i : Nat) (hi : i < l.length) (h : ∀ y ∈ l.drop (i + 1), x < y) (hx : x < l[i]) : ∀ y ∈ l.drop i, x < y := by
  intro y hy
  rw [List.drop_eq_getElem_cons hi, List.mem_cons] at hy
  rcases hy with hy | hy
  · rw [hy]; exact hx
  · exact h y hy
end Go.Proofs.Ytmlpcohailjccaa
