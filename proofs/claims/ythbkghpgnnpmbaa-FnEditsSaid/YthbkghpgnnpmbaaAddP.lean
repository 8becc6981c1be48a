/- Sets that are added to a kept blocker: what is computed. -/
import Derived.Test.YthbkghpgnnpmbaaKept
import Derived.Test.YthbkghpgnnpmbaaElems
import Derived.Test.YthbkghpgnnpmbaaPut
import Derived.Test.YthbkghpgnnpmbaaRem
namespace Go.Proofs.Ythbkghpgnnpmbaa
open Go.RowKit Go.G5

def addOk (g : Int) (l m : List Int) (s : Int) : Bool := (keptB g l m && isSet g.toNat s) && !has l s
def addEl (t e : Int) : Int := ior t (2 ^ e.toNat)
def addOne (s t : Int) : List Int := if iand s t != 0 then [t] else (elL s).map (addEl t)
def addList (m : List Int) (s : Int) : List Int := m.flatMap (addOne s)
def addN (g : Int) (l m : List Int) (s : Int) : Int := if addOk g l m s then g else 0
def addK (g : Int) (l m : List Int) (s : Int) : List Int := if addOk g l m s then gatherL (l ++ [s]) else []
def addL (g : Int) (l m : List Int) (s : Int) : List Int := if addOk g l m s then minL (gatherL (addList m s)) else []
theorem pow2_bd (e : Int) (h : 0 ≤ e ∧ e < 6) : 0 < (2 : Int) ^ e.toNat ∧ (2 : Int) ^ e.toNat < 64 := by
  rcases (show e = 0 ∨ e = 1 ∨ e = 2 ∨ e = 3 ∨ e = 4 ∨ e = 5 by omega) with rfl | rfl | rfl | rfl | rfl | rfl <;> decide
theorem addEl_bd (t e : Int) (ht : 0 ≤ t ∧ t < 64) (he : 0 ≤ e ∧ e < 6) : 0 ≤ addEl t e ∧ addEl t e < 64 := by
  have := pow2_bd e he
  exact ior_bd t _ 6 ht.1 (by omega) (by omega) (by omega)
theorem addOne_bd (s t : Int) (ht : 0 ≤ t ∧ t < 64) : ∀ x ∈ addOne s t, 0 ≤ x ∧ x < 64 := by
  intro x hx
  unfold addOne at hx
  split at hx
  · rw [List.mem_singleton] at hx; rw [hx]; exact ht
  · obtain ⟨e, he, rfl⟩ := List.mem_map.1 hx
    exact addEl_bd t e ht (elL_bd6 s e he)
theorem addOne_len (s t : Int) : (addOne s t).length ≤ 6 := by
  unfold addOne
  split
  · simp
  · rw [List.length_map]; exact elL_len6 s
theorem addList_bd (m : List Int) (s : Int) (hm : ∀ x ∈ m, 0 ≤ x ∧ x < 64) : ∀ x ∈ addList m s, 0 ≤ x ∧ x < 64 := by
  intro x hx
  unfold addList at hx
  obtain ⟨t, ht, hx⟩ := List.mem_flatMap.1 hx
  exact addOne_bd s t (hm t ht) x hx
theorem addList_len (m : List Int) (s : Int) : (addList m s).length ≤ 6 * m.length := by
  unfold addList
  induction m with
  | nil => simp
  | cons t m ih =>
    rw [List.flatMap_cons, List.length_append, List.length_cons]
    have := addOne_len s t
    omega
theorem addList_take (m : List Int) (s : Int) (k : Nat) (h : k < m.length) : addList (m.take (k + 1)) s = addList (m.take k) s ++ addOne s m[k] := by
  unfold addList
  rw [List.take_succ_eq_append_getElem h, List.flatMap_append, List.flatMap_cons, List.flatMap_nil, List.append_nil]
/-- a strictly ascending list of numbers below n has at most n -/
theorem asc_len_aux : ∀ (l : List Int) (lo n : Int), l.Pairwise (· < ·) → (∀ x ∈ l, lo ≤ x ∧ x < n) → lo ≤ n → (l.length : Int) ≤ n - lo := by
  intro l
  induction l with
  | nil => intro lo n _ _ h; simp; omega
  | cons x l ih =>
    intro lo n hp hb hln
    have hx := hb x (by simp)
    rw [List.pairwise_cons] at hp
    have := ih (x + 1) n hp.2 (fun y hy => ⟨by have := hp.1 y hy; omega, (hb y (by simp [hy])).2⟩) (by omega)
    rw [List.length_cons]
    omega
theorem asc_len (l : List Int) (n : Nat) (hp : l.Pairwise (· < ·)) (hb : ∀ x ∈ l, 0 ≤ x ∧ x < (n : Int)) : l.length ≤ n := by
  have := asc_len_aux l 0 n hp hb (by omega)
  omega
theorem gather64 (l : List Int) (h : ∀ x ∈ l, 0 ≤ x ∧ x < 64) : (∀ x ∈ gatherL l, 0 ≤ x ∧ x < 64) ∧ (gatherL l).length ≤ 64 := by
  have h1 : ∀ x ∈ gatherL l, 0 ≤ x ∧ x < 64 := fun x hx => h x ((gatherL_mem l x).1 hx)
  exact ⟨h1, asc_len _ 64 (gatherL_asc l) (fun x hx => h1 x hx)⟩
theorem addL_len (g : Int) (l m : List Int) (s : Int) (_ : m.length ≤ 1048576) : (addL g l m s).length ≤ 64 := by
  unfold addL
  split
  · rename_i h
    unfold addOk at h
    have hk := (Bool.and_eq_true_iff.1 (Bool.and_eq_true_iff.1 h).1).1
    unfold keptB at hk
    have hmm := of_decide_eq_true (Bool.and_eq_true_iff.1 hk).2
    exact Nat.le_trans (minL_len _) (gather64 _ (addList_bd m s (hmm ▸ blkL_bd g l))).2
  · simp
theorem addK_len (g : Int) (l m : List Int) (s : Int) (_ : l.length ≤ 1048576) : (addK g l m s).length ≤ 1048576 := by
  unfold addK
  split
  · rename_i h
    unfold addOk at h
    have hk := (Bool.and_eq_true_iff.1 (Bool.and_eq_true_iff.1 h).1).1
    obtain ⟨h0, h6, hm, ha⟩ := famOk (keptB_fam hk)
    have := pow_le64 h0 h6
    have hl := asc_len l 64 ha (fun x hx => by have := hm x hx; omega)
    have := gatherL_len (l ++ [s]); simp at this; omega
  · simp
theorem keptB_m {g : Int} {l m : List Int} (h : keptB g l m = true) : isFamB g l = true ∧ (∀ x ∈ m, 0 ≤ x ∧ x < 64) ∧ m.length ≤ 64 := by
  unfold keptB at h
  have hmm := of_decide_eq_true (Bool.and_eq_true_iff.1 h).2
  exact ⟨(Bool.and_eq_true_iff.1 h).1, hmm ▸ blkL_bd g l, hmm ▸ blkL_len g l⟩
end Go.Proofs.Ythbkghpgnnpmbaa
