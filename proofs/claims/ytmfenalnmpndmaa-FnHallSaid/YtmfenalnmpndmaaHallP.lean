/- Representatives and Hall's condition: what is computed. -/
import Derived.Test.YtmfenalnmpndmaaInter
import Derived.Test.YtmfenalnmpndmaaElems
import Derived.Test.YtmfenalnmpndmaaFam
namespace Go.Proofs.Ytmfenalnmpndmaa
open Go.RowKit Go.G5

def fewB (g : Int) (l : List Int) : Bool := decide (l.length ≤ 6) && areSetsB g l
/-- the first list of different elements that goes on from list -/
def repG (l : List Int) : Nat → Int → List Int → Option (List Int)
  | 0, _, list => some list
  | n + 1, used, list => (elL (idif (l.getD list.length 0) used)).findSome? fun e => repG l n (ior used (2 ^ e.toNat)) (list ++ [e])
def repOne (l : List Int) (n : Nat) (used : Int) (list : List Int) (e : Int) : Option (List Int) := repG l n (ior used (2 ^ e.toNat)) (list ++ [e])
theorem repG_zero (l : List Int) (used : Int) (list : List Int) : repG l 0 used list = some list := rfl
theorem repG_succ (l : List Int) (n : Nat) (used : Int) (list : List Int) : repG l (n + 1) used list = (elL (idif (l.getD list.length 0) used)).findSome? (repOne l n used list) := rfl
def repR (g : Int) (l : List Int) : Option (List Int) := if fewB g l then repG l l.length 0 [] else none
def repB (g : Int) (l : List Int) : Bool := (repR g l).isSome
def repL (g : Int) (l : List Int) : List Int := (repR g l).getD []
theorem findSome_take {α β : Type} (F : α → Option β) (l : List α) (k : Nat) (h : k < l.length) : (l.take (k + 1)).findSome? F = ((l.take k).findSome? F).or (F l[k]) := by
  rw [List.take_succ_eq_append_getElem h, List.findSome?_append]
  cases hF : F l[k] <;> simp [hF]
theorem findSome_hit {α β : Type} (F : α → Option β) (l : List α) (k : Nat) (h : k < l.length) (x : β) (hn : (l.take k).findSome? F = none) (hx : F l[k] = some x) : l.findSome? F = some x := by
  have e : l = l.take (k + 1) ++ l.drop (k + 1) := (List.take_append_drop _ _).symm
  rw [e, List.findSome?_append, findSome_take F l k h, hn, hx]; rfl
theorem repG_len (l : List Int) : ∀ (n : Nat) (used : Int) (list x : List Int), repG l n used list = some x → x.length = list.length + n := by
  intro n
  induction n with
  | zero => intro used list x h; rw [repG_zero] at h; cases h; rfl
  | succ n ih =>
    intro used list x h
    rw [repG_succ] at h
    obtain ⟨e, _, he⟩ := List.exists_of_findSome?_eq_some h
    have := ih _ _ _ he
    rw [List.length_append, List.length_singleton] at this
    omega
theorem pow2_bd' (e : Int) (h : 0 ≤ e ∧ e < 6) : 0 < (2 : Int) ^ e.toNat ∧ (2 : Int) ^ e.toNat < 64 := by
  rcases (show e = 0 ∨ e = 1 ∨ e = 2 ∨ e = 3 ∨ e = 4 ∨ e = 5 by omega) with rfl | rfl | rfl | rfl | rfl | rfl <;> decide
theorem repL_len (g : Int) (l : List Int) : (repL g l).length ≤ 6 := by
  unfold repL repR
  split
  · rename_i h
    unfold fewB at h
    have hl := of_decide_eq_true (Bool.and_eq_true_iff.1 h).1
    cases hr : repG l l.length 0 [] with
    | none => simp
    | some x => have := repG_len l _ _ _ _ hr; simp at this; simp; omega
  · simp
theorem repL_none {g : Int} {l : List Int} (h : repB g l = false) : repL g l = [] := by
  unfold repB at h
  unfold repL
  cases hr : repR g l with
  | none => rfl
  | some x => rw [hr] at h; simp at h

/-- the elements of the sets that code chooses among the first k -/
def unionTo (l : List Int) (code : Nat) : Nat → Int
  | 0 => 0
  | k + 1 => if nbit code k then ior (unionTo l code k) (l.getD k 0) else unionTo l code k
def lackB (l : List Int) (code : Nat) : Bool := decide (ipop (unionTo l code l.length) < (pop code : Int))
def firstFrom (P : Nat → Bool) : Nat → Nat → Option Nat
  | 0, _ => none
  | n + 1, s => if P s then some s else firstFrom P n (s + 1)
def vioR (g : Int) (l : List Int) : Option Nat := if fewB g l then firstFrom (lackB l) (2 ^ l.length) 0 else none
def vioB (g : Int) (l : List Int) : Bool := (vioR g l).isSome
def vioL (g : Int) (l : List Int) : List Int := match vioR g l with | none => [] | some c => elL (c : Int)
theorem vioL_len (g : Int) (l : List Int) : (vioL g l).length ≤ 6 := by
  unfold vioL
  cases vioR g l with
  | none => simp
  | some c => unfold elL famOf; exact chosen_len _ 6
theorem unionTo_bd (l : List Int) (code : Nat) (h : ∀ x ∈ l, 0 ≤ x ∧ x < 64) : ∀ k, k ≤ l.length → 0 ≤ unionTo l code k ∧ unionTo l code k < 64 := by
  intro k
  induction k with
  | zero => intro _; simp [unionTo]
  | succ k ih =>
    intro hk
    have hi := ih (by omega)
    have hx := h _ (List.getElem_mem (show k < l.length by omega))
    rw [unionTo, getD_at l k (by omega)]
    split
    · exact ior_bd _ _ 6 hi.1 hx.1 hi.2 hx.2
    · exact hi
theorem lack_zero (l : List Int) (h : ∀ x ∈ l, 0 ≤ x ∧ x < 64) : lackB l 0 = false := by
  unfold lackB
  have := unionTo_bd l 0 h l.length (Nat.le_refl _)
  have hp := (ipop_bd (unionTo l 0 l.length) (by omega)).1
  simp [pop_zero]; exact hp
theorem first_one (P : Nat → Bool) (n : Nat) (h : P 0 = false) : firstFrom P (n + 1) 0 = firstFrom P n 1 := by rw [firstFrom, h]; rfl
theorem firstFrom_lt (P : Nat → Bool) : ∀ (n s c : Nat), firstFrom P n s = some c → c < s + n := by
  intro n
  induction n with
  | zero => intro s c h; cases h
  | succ n ih =>
    intro s c h
    rw [firstFrom] at h
    split at h
    · cases h; omega
    · have := ih _ _ h; omega
theorem few_ok {g : Int} {l : List Int} (h : fewB g l = true) : l.length ≤ 6 ∧ 0 ≤ g ∧ g ≤ 6 ∧ (∀ s ∈ l, 0 ≤ s ∧ s < 2 ^ g.toNat) ∧ (∀ s ∈ l, 0 ≤ s ∧ s < 64) := by
  unfold fewB areSetsB at h
  simp only [Bool.and_eq_true, decide_eq_true_eq, List.all_eq_true] at h
  have hg := inB_true.1 h.2.1
  have hp := pow_le64 hg.1 hg.2
  have hm : ∀ s ∈ l, 0 ≤ s ∧ s < 2 ^ g.toNat := fun s hs => isSet_true.1 (h.2.2 s hs)
  exact ⟨h.1, hg.1, hg.2, hm, fun s hs => by have := hm s hs; omega⟩
end Go.Proofs.Ytmfenalnmpndmaa
