/- What the law of edits says of the plain lists. -/
import Derived.Test.YthbkghpgnnpmbaaEditQ
import Derived.Test.YthbkghpgnnpmbaaNewKept
import Derived.Test.YthbkghpgnnpmbaaEq
namespace Go.Proofs.Ythbkghpgnnpmbaa
open Go.RowKit Go.G5

theorem edit_facts {g s : Int} {l m : List Int} (h : addOk g l m s = true) :
    isFamB (addN g l m s) (addK g l m s) = true ∧ blkN (addN g l m s) (addK g l m s) = addN g l m s ∧ nkL (addN g l m s) (addK g l m s) = addK g l m s ∧ blkL (addN g l m s) (addK g l m s) = addL g l m s ∧
    keptB (addN g l m s) (addK g l m s) (addL g l m s) = true ∧ remF (addN g l m s) (addK g l m s) (addL g l m s) s = true ∧ remN (addN g l m s) (addK g l m s) (addL g l m s) s = g ∧ remK (addN g l m s) (addK g l m s) (addL g l m s) s = l ∧ remL (addN g l m s) (addK g l m s) (addL g l m s) s = m := by
  obtain ⟨h1, h2, h3, h4⟩ := add_right h
  have hK : addK g l m s = gatherL (l ++ [s]) := by unfold addK; rw [h]; rfl
  have hok := h
  unfold addOk keptB at hok
  simp only [Bool.and_eq_true, decide_eq_true_eq] at hok
  obtain ⟨⟨⟨hf, hm⟩, _⟩, _⟩ := hok
  rw [h3]
  have hkb : keptB g (addK g l m s) (addL g l m s) = true := by unfold keptB; rw [h1, decide_eq_true h2.symm]; rfl
  have hro : remOk g (addK g l m s) (addL g l m s) s = true := by
    unfold remOk
    rw [hkb, Bool.true_and]
    exact has_true.2 (by rw [hK, gatherL_mem]; simp)
  refine ⟨h1, by unfold blkN; rw [h1]; rfl, by unfold nkL; rw [h1]; rfl, h2.symm, hkb, ?_, ?_, ?_, ?_⟩
  · unfold remF; rw [hro, h4, hf]; rfl
  · unfold remN blkN; rw [hro, h4, hf]; rfl
  · unfold remK nkL; rw [hro, h4, hf]; rfl
  · unfold remL; rw [hro, h4]; exact hm
theorem rem_kept {g s : Int} {l m : List Int} (h : remF g l m s = true) : keptB (remN g l m s) (remK g l m s) (remL g l m s) = true := by
  unfold remF at h
  obtain ⟨h1, h2⟩ := Bool.and_eq_true_iff.1 h
  have hN : remN g l m s = g := by unfold remN blkN; rw [h1, h2]; rfl
  have hK : remK g l m s = keepL (remP s) l := by unfold remK nkL; rw [h1, h2]; rfl
  have hL : remL g l m s = blkL g (keepL (remP s) l) := by unfold remL; rw [h1]; rfl
  rw [hN, hK, hL]
  unfold keptB
  rw [h2, decide_eq_true rfl]
  rfl
theorem eqKept_same (n : Int) (v v' u u' : Value) (l m : List Int) (w : World) (hv : Ints w v l) (hv' : Ints w v' l) (hu : Ints w u m) (hu' : Ints w u' m) :
    Calls Try.prog 10 #[.agg #[.int .i64 n, v, u], .agg #[.int .i64 n, v', u']] w fun e w' => e = .returned (.bool true) ∧ Below w.heap.size w w' :=
  (equalKeptS_any n n v v' u u' l l m m w hv hv' hu hu').mono (by rintro e w' ⟨rfl, hb⟩; exact ⟨by simp, hb⟩)
theorem addK_len9 (g s : Int) (l m : List Int) (h : l.length ≤ 8) : (addK g l m s).length ≤ 1048576 := by
  unfold addK
  split
  · have := gatherL_len (l ++ [s]); simp at this; omega
  · simp
theorem addL_lenB (g s : Int) (l m : List Int) (h : m.length ≤ 64) : (addL g l m s).length ≤ 1048576 := by
  unfold addL
  split
  · have h1 := List.length_filter_le (fun x => !((gatherL (addList m s)).any (subsB x))) (gatherL (addList m s))
    have h2 := gatherL_len (addList m s)
    have h3 := addList_len m s
    have h4 : (minL (gatherL (addList m s))).length ≤ (gatherL (addList m s)).length := h1
    omega
  · simp
end Go.Proofs.Ythbkghpgnnpmbaa
