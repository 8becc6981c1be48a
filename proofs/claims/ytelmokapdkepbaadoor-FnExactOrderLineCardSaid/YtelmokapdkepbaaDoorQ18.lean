/- Minimum cuts: what is computed. Games. Minimum cuts: the first program. Minimum cuts: the first program's search, and claims of it. Minimum cuts: the second program. Functions made by a closure over two boxes. Functions of masses: the program's own. Functions of masses: the reference's. Functions with the opposite values; supermodular functions: both programs. Vectors below a function. Supermodular and modular functions; bases: both programs. -/
import Derived.Test.YtelmokapdkepbaaDoorQ17
import Derived.Deep.RegionHeld3
import Derived.Shelf.Abstract
section
namespace Go.Proofs.YtelmokapdkepbaaDoor
open Go.RowKit Go.G5

def oppF (l : List Int) (s : Nat) : Int := l.getD (l.length - 1 - s) 0
def oppL (l : List Int) : List Int := madeL (oppF l) l.length
def opN (n : Int) (l : List Int) : Int := if isFunB n l then n else 0
def opL (n : Int) (l : List Int) : List Int := if isFunB n l then oppL l else []
def symB (n : Int) (l : List Int) : Bool := isFunB n l && decide (l = oppL l)
def fitB (n : Int) (l : List Int) : Bool := (subB n l && symB n l) && decide (2 ≤ n)
/-- the first least set from 1 on below k -/
def bestTo (l : List Int) : Nat → Nat
  | 0 => 1
  | k + 1 => if k < 2 then 1 else if l.getD k 0 < l.getD (bestTo l k) 0 then k else bestTo l k
def cutS (n : Int) (l : List Int) : Int := if fitB n l then (bestTo l (l.length - 1) : Int) else 0
def cutN (n : Int) (l : List Int) : Int := if fitB n l then l.getD (bestTo l (l.length - 1)) 0 else 0
theorem bestTo_two (l : List Int) : bestTo l 2 = 1 := rfl
theorem bestTo_succ (l : List Int) (k : Nat) (h : 2 ≤ k) : bestTo l (k + 1) = if l.getD k 0 < l.getD (bestTo l k) 0 then k else bestTo l k := by rw [bestTo, if_neg (by omega)]
theorem bestTo_lt (l : List Int) : ∀ k, 2 ≤ k → 1 ≤ bestTo l k ∧ bestTo l k < k := by
  intro k
  induction k with
  | zero => intro h; omega
  | succ k ih =>
    intro h
    by_cases hk : 2 ≤ k
    · have := ih hk
      rw [bestTo_succ l k hk]
      split <;> omega
    · have : k = 1 := by omega
      subst this
      rw [bestTo_two]; omega
theorem oppL_len (l : List Int) : (oppL l).length = l.length := by unfold oppL madeL; simp
theorem opL_len (n : Int) (l : List Int) (h : l.length ≤ 1048576) : (opL n l).length ≤ 1048576 := by
  unfold opL
  split
  · rw [oppL_len]; exact h
  · simp
theorem oppF_at (l : List Int) (s : Nat) (h : s < l.length) : oppF l s = l[l.length - 1 - s] := by unfold oppF; exact getD_at l _ (by omega)
theorem opp_fun (n : Int) (l : List Int) (h : isFunB n l = true) : isFunB n (oppL l) = true := by
  obtain ⟨h0, h5, hlen, hlb⟩ := funOk h
  unfold isFunB allIn
  rw [oppL_len, inB_true.2 ⟨h0, h5⟩, decide_eq_true hlen]
  simp only [Bool.true_and, List.all_eq_true]
  intro x hx
  unfold oppL madeL at hx
  obtain ⟨s, hs, rfl⟩ := List.mem_map.1 hx
  rw [List.mem_range] at hs
  rw [oppF_at l s hs]
  exact inB_true.2 (hlb _ (by omega))
theorem ndiff_full : ∀ n : Nat, n ≤ 5 → ∀ s : Nat, s < 2 ^ n → ndiff (2 ^ n - 1) s = 2 ^ n - 1 - s := by decide +kernel
end Go.Proofs.YtelmokapdkepbaaDoor
end
section
namespace Go.Proofs.YtelmokapdkepbaaDoor
open Go.RowKit Go.G5

def isLongB (n : Int) (x : List Int) : Bool := decide ((x.length : Int) = n) && allIn x (-5000) 5000

/-- what a set's value has over its weight -/
def slackOf (l x : List Int) (s : Int) : Int := l.getD s.toNat 0 - wt x s

/-! the core -/
def coreOkTo (l x : List Int) : Nat → Bool
  | 0 => true
  | k + 1 => coreOkTo l x k && decide (slackOf l x k ≤ 0)
def inCoreB (n : Int) (l x : List Int) : Bool :=
  isGrB n l && isLongB n x && coreOkTo l x l.length && (slackOf l x (2 ^ n.toNat - 1) == 0)
theorem coreOk_false (l x : List Int) (k : Nat) (h : 0 < slackOf l x k) : ∀ m, k < m → coreOkTo l x m = false := by
  intro m
  induction m with
  | zero => intro h; omega
  | succ m ih =>
    intro hm
    rw [coreOkTo]
    by_cases hkm : k < m
    · rw [ih hkm]; rfl
    · have : m = k := by omega
      subst this
      rw [decide_eq_false (by omega)]; simp

theorem longOk {n : Int} {x : List Int} (h : isLongB n x = true) : (x.length : Int) = n ∧ ∀ k, (hk : k < x.length) → -5000 ≤ x[k] ∧ x[k] ≤ 5000 := by
  unfold isLongB allIn at h
  simp only [Bool.and_eq_true, List.all_eq_true, decide_eq_true_eq] at h
  exact ⟨h.1, fun k hk => inB_true.1 (h.2 _ (List.getElem_mem hk))⟩
theorem grOk {n : Int} {l : List Int} (h : isGrB n l = true) : isFunB n l = true := by
  unfold isGrB at h
  simp only [Bool.and_eq_true] at h
  exact h.1
theorem wt_bd (x : List Int) (s : Int) (hx : ∀ k, (hk : k < x.length) → -5000 ≤ x[k] ∧ x[k] ≤ 5000) (hl : x.length ≤ 6) : -6000000 ≤ wt x s ∧ wt x s ≤ 6000000 := by
  have := wtTo_bd x s (fun k hk => by have := hx k hk; omega) x.length (Nat.le_refl _)
  unfold wt; omega

end Go.Proofs.YtelmokapdkepbaaDoor
end
section
namespace Go.Proofs.YtelmokapdkepbaaDoor
open Go.RowKit Go.G5

end Go.Proofs.YtelmokapdkepbaaDoor
end
section
namespace Go.Proofs.YtelmokapdkepbaaDoor
open Go.RowKit Go.G5

theorem fit_fun {n : Int} {l : List Int} (h : fitB n l = true) : isFunB n l = true ∧ 2 ≤ n := by
  unfold fitB subB at h
  simp only [Bool.and_eq_true, decide_eq_true_eq] at h
  exact ⟨h.1.1.1, h.2⟩
theorem fit_size {n : Int} {l : List Int} (h : fitB n l = true) : 4 ≤ l.length ∧ l.length ≤ 32 ∧ (l.length : Int) = 2 ^ n.toNat ∧ n ≤ 5 ∧ ∀ k, (hk : k < l.length) → -1000 ≤ l[k] ∧ l[k] ≤ 1000 := by
  obtain ⟨h1, h2⟩ := fit_fun h
  obtain ⟨h0, h5, hlen, hlb⟩ := funOk h1
  obtain ⟨m, hm⟩ : ∃ m : Nat, n.toNat = m := ⟨_, rfl⟩
  have hm2 : 2 ≤ m ∧ m ≤ 5 := by omega
  have hp4 : (2 : Nat) ^ 2 ≤ 2 ^ m := Nat.pow_le_pow_right (by decide) hm2.1
  have hp5 : (2 : Nat) ^ m ≤ 2 ^ 5 := Nat.pow_le_pow_right (by decide) hm2.2
  have hln : l.length = 2 ^ m := by rw [hm] at hlen; exact_mod_cast hlen
  exact ⟨by omega, by omega, hlen, h5, hlb⟩

end Go.Proofs.YtelmokapdkepbaaDoor
end
section
namespace Go.Proofs.YtelmokapdkepbaaDoor
open Go.RowKit Go.G5

end Go.Proofs.YtelmokapdkepbaaDoor
end
section
namespace Go.Proofs.YtelmokapdkepbaaDoor
open Go.RowKit Go.G5

end Go.Proofs.YtelmokapdkepbaaDoor
end
section
namespace Go.Proofs.YtelmokapdkepbaaDoor
open Go.RowKit Go.G5

def fomF (m : List Int) (s : Nat) : Int := sumTo m s (s + 1)
def fomOk (n : Int) (m : List Int) : Bool := inB n 0 5 && (m.length == 2 ^ n.toNat) && allIn m (-100000) 100000
def fomV (n : Int) (m : List Int) : List Int := madeL (fomF m) (2 ^ n.toNat)
def fomB (n : Int) (m : List Int) : Bool := fomOk n m && isFunB n (fomV n m)
def fomN (n : Int) (m : List Int) : Int := if fomB n m then n else 0
def fomL (n : Int) (m : List Int) : List Int := if fomB n m then fomV n m else []

theorem fomL_len (n : Int) (m : List Int) : (fomL n m).length ≤ 1048576 := by
  unfold fomL
  split
  · rename_i h
    have h1 : inB n 0 5 = true := by
      unfold fomB fomOk at h
      simp only [Bool.and_eq_true] at h
      exact h.1.1.1
    have h2 := inB_true.1 h1
    have h3 : (2 : Nat) ^ n.toNat ≤ 2 ^ 5 := Nat.pow_le_pow_right (by decide) (by omega)
    unfold fomV madeL
    simp; omega
  · simp

end Go.Proofs.YtelmokapdkepbaaDoor
end
section
namespace Go.Proofs.YtelmokapdkepbaaDoor
open Go.RowKit Go.G5

theorem sumTo_bd2 (m : List Int) (s k : Nat) (hk : k ≤ m.length) (h : ∀ j, (hj : j < m.length) → j < k → -100000 ≤ m[j] ∧ m[j] ≤ 100000) : -100000 * (k : Int) ≤ sumTo m s k ∧ sumTo m s k ≤ 100000 * (k : Int) := by
  induction k with
  | zero => simp [sumTo]
  | succ k ih =>
    have h1 := ih (by omega) (fun j hj hjk => h j hj (by omega))
    have h2 := h k (by omega) (by omega)
    rw [sumTo, List.getD_eq_getElem?_getD, List.getElem?_eq_getElem (show k < m.length by omega), Option.getD_some]
    split <;> omega

end Go.Proofs.YtelmokapdkepbaaDoor
end
section
namespace Go.Proofs.YtelmokapdkepbaaDoor
open Go.RowKit Go.G5

/-- the opposite of a value -/
def negF (l : List Int) (s : Nat) : Int := -(l.getD s 0)
def negL (l : List Int) : List Int := madeL (negF l) l.length
def ngN (n : Int) (l : List Int) : Int := if isFunB n l then n else 0
def ngL (n : Int) (l : List Int) : List Int := if isFunB n l then negL l else []
theorem negL_len (l : List Int) : (negL l).length = l.length := by unfold negL madeL; simp
theorem negF_at (l : List Int) (s : Nat) (h : s < l.length) : negF l s = -l[s] := by unfold negF; rw [getD_at l _ h]
theorem negL_at (l : List Int) (s : Nat) (h : s < l.length) : (negL l)[s]'(by rw [negL_len]; exact h) = -l[s] := by
  unfold negL madeL
  rw [List.getElem_map, List.getElem_range]
  exact negF_at l s h
theorem neg_fun (n : Int) (l : List Int) (h : isFunB n l = true) : isFunB n (negL l) = true := by
  obtain ⟨h0, h5, hlen, hlb⟩ := funOk h
  unfold isFunB allIn
  rw [negL_len, inB_true.2 ⟨h0, h5⟩, decide_eq_true hlen]
  simp only [Bool.true_and, List.all_eq_true]
  intro x hx
  obtain ⟨s, hs, rfl⟩ := List.getElem_of_mem hx
  rw [negL_len] at hs
  rw [negL_at l s hs]
  have := hlb s hs
  exact inB_true.2 ⟨by omega, by omega⟩

end Go.Proofs.YtelmokapdkepbaaDoor
end
section
namespace Go.Proofs.YtelmokapdkepbaaDoor
open Go.RowKit Go.G5

def belOkTo (l x : List Int) : Nat → Bool
  | 0 => true
  | k + 1 => belOkTo l x k && decide (0 ≤ slackOf l x k)
def belB (n : Int) (l x : List Int) : Bool := isGrB n l && isLongB n x && belOkTo l x l.length
theorem belOk_false (l x : List Int) (k : Nat) (h : slackOf l x k < 0) : ∀ m, k < m → belOkTo l x m = false := by
  intro m
  induction m with
  | zero => intro h; omega
  | succ m ih =>
    intro hm
    rw [belOkTo]
    by_cases hkm : k < m
    · rw [ih hkm]; rfl
    · have : m = k := by omega
      subst this
      rw [decide_eq_false (by omega)]; simp
theorem belOk_true (l x : List Int) : ∀ m, belOkTo l x m = true → ∀ k : Nat, k < m → 0 ≤ slackOf l x k := by
  intro m
  induction m with
  | zero => intro _ k hk; omega
  | succ m ih =>
    intro h k hk
    rw [belOkTo] at h
    obtain ⟨h1, h2⟩ := Bool.and_eq_true_iff.1 h
    by_cases hkm : k < m
    · exact ih h1 k hkm
    · have : k = m := by omega
      subst this
      exact of_decide_eq_true h2

end Go.Proofs.YtelmokapdkepbaaDoor
end
section
namespace Go.Proofs.YtelmokapdkepbaaDoor
open Go.RowKit Go.G5

def supB (n : Int) (l : List Int) : Bool := isFunB n l && subB n (negL l)
def modulB (n : Int) (l : List Int) : Bool := subB n l && supB n l
def baseB (n : Int) (l x : List Int) : Bool := belB n l x && (slackOf l x (2 ^ n.toNat - 1) == 0)
end Go.Proofs.YtelmokapdkepbaaDoor
end
