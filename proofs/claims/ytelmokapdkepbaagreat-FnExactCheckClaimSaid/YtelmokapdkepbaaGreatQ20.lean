/- Laminar families. Antichains. Sets that contain no other one; blockers. Sunflowers: what is computed. -/
import Derived.Test.YtelmokapdkepbaaGreatQ19
import Derived.Shelf.Abstract
section
namespace Go.Proofs.YtelmokapdkepbaaGreat
open Go.RowKit Go.G5

def clashI (a b : Int) : Bool := iand a b != 0 && idif a b != 0 && idif b a != 0
def clashS (a b : Int) : Bool := iand a b != 0 && iand a b != a && iand a b != b
def lamI (l : List Int) : Bool := allTo (fun i => allTo (fun j => decide (j ≤ i) || !clashI (l.getD i 0) (l.getD j 0)) l.length) l.length
def lamB (g : Int) (l : List Int) : Bool := isFamB g l && lamI l
def lamS (l : List Int) : Bool := allTo (fun i => allTo (fun k => !clashS (l.getD i 0) (l.getD k 0)) i) l.length
theorem allTo_of {p : Nat → Bool} {n : Nat} (h : ∀ k, k < n → p k = true) : allTo p n = true := by
  induction n with
  | zero => rfl
  | succ n ih => exact allTo_succ (ih fun k hk => h k (by omega)) (h n (by omega))

end Go.Proofs.YtelmokapdkepbaaGreat
end
section
namespace Go.Proofs.YtelmokapdkepbaaGreat
open Go.RowKit Go.G5

theorem index_take {w : World} {a : Option Addr} {c : Nat} {l : List Int} (h : Ints w (.slice a l.length c) l) (P : Program) (T E : TypeId) (hT : P.underlying T = some (.slice E)) {b off : Nat}
    (hix : ∀ (w' : World) (k : Nat), k < l.length → (Instr.indexAt T (.slice a l.length c) (.int .i64 (k : Int))).run P w' = .ok (.pointer (some ⟨b, off + k, none⟩)) w') (k : Nat) (hk : k ≤ l.length) :
    ∀ (w' : World) (q : Nat), q < k → (Instr.indexAt T (.slice a k c) (.int .i64 (q : Int))).run P w' = .ok (.pointer (some ⟨b, off + q, none⟩)) w' := by
  intro w' q hq
  have h0 := hix w' q (by omega)
  have hE : P.elem T = E := by simp [Program.elem, hT]
  obtain ⟨a', c', he, h1, h2, _, h4⟩ := h
  simp only [Value.slice.injEq] at he
  obtain ⟨rfl, _, rfl⟩ := he
  rcases h4 with rfl | ⟨b', off', rfl, _, _⟩
  · simp at hk; omega
  · rw [run_indexAt_slice w' T ⟨b', off', none⟩ l.length c .i64 q (by rw [hE]; exact hT), if_pos ⟨by omega, by omega⟩] at h0
    rw [run_indexAt_slice w' T ⟨b', off', none⟩ k c .i64 q (by rw [hE]; exact hT), if_pos ⟨by omega, by omega⟩]
    exact h0

def apartB (a b : Int) : Bool := idif a b != 0 && idif b a != 0
def antiI (l : List Int) : Bool := allTo (fun i => allTo (fun j => apartB (l.getD i 0) (l.getD j 0)) i) l.length
def antiB (g : Int) (l : List Int) : Bool := isFamB g l && antiI l
def fineB (l : List Int) (i : Nat) : Bool := allTo (fun k => k == i || iand (l.getD k 0) (l.getD i 0) != l.getD k 0) l.length
def minTo (l : List Int) : Nat → List Int
  | 0 => []
  | k + 1 => if fineB l k then minTo l k ++ [l.getD k 0] else minTo l k
def freeS (l : List Int) : Bool := (minTo l l.length).length == l.length
theorem minTo_le (l : List Int) (k : Nat) : (minTo l k).length ≤ k := by
  induction k with
  | zero => exact Nat.le_refl _
  | succ k ih =>
    rw [minTo]
    split
    · rw [List.length_append]; simp only [List.length_cons, List.length_nil]; omega
    · omega

end Go.Proofs.YtelmokapdkepbaaGreat
end
section
namespace Go.Proofs.YtelmokapdkepbaaGreat
open Go.RowKit Go.G5

/-! a function value that is asked of the numbers of a slice -/
/-! minimal sets -/
def subsB (s t : Int) : Bool := t != s && idif t s == 0
def minL (l : List Int) : List Int := l.filter fun s => !(l.any (subsB s))

/-- the two ways to say it agree where no set stands twice -/
theorem allTo_iff {p : Nat → Bool} {n : Nat} : allTo p n = true ↔ ∀ k, k < n → p k = true := by
  constructor
  · intro h k hk
    cases hp : p k with
    | true => rfl
    | false => rw [allTo_false hk hp] at h; cases h
  · exact allTo_of
theorem fineB_is (l : List Int) (hn : l.Pairwise (· < ·)) (hm : ∀ x ∈ l, 0 ≤ x) (i : Nat) (hi : i < l.length) : fineB l i = !(l.any (subsB l[i])) := by
  rw [Bool.eq_iff_iff]
  unfold fineB
  rw [allTo_iff, Bool.not_eq_true', List.any_eq_false]
  have hsub : ∀ t : Int, 0 ≤ t → (idif t l[i] = 0 ↔ iand t l[i] = t) := fun t ht => by
    have h1 := hm _ (List.getElem_mem hi)
    unfold idif iand ndiff
    have := @Nat.and_le_left t.toNat l[i].toNat
    omega
  constructor
  · intro h t ht
    obtain ⟨k, hk, rfl⟩ := List.getElem_of_mem ht
    have hkk := h k hk
    rw [getD_at l k hk, getD_at l i hi] at hkk
    unfold subsB
    simp only [Bool.or_eq_true, beq_iff_eq, bne_iff_ne, ne_eq, Bool.and_eq_true, not_and] at hkk ⊢
    intro hne hid
    rcases hkk with rfl | hkk
    · exact hne rfl
    · exact hkk ((hsub _ (hm _ (List.getElem_mem hk))).1 hid)
  · intro h k hk
    rw [getD_at l k hk, getD_at l i hi]
    have := h _ (List.getElem_mem hk)
    unfold subsB at this
    simp only [Bool.or_eq_true, beq_iff_eq, bne_iff_ne, ne_eq, Bool.and_eq_true, not_and] at this ⊢
    by_cases hki : k = i
    · exact .inl hki
    · right
      intro hid
      refine this (fun e => ?_) ((hsub _ (hm _ (List.getElem_mem hk))).2 hid)
      have hp := List.pairwise_iff_getElem.1 hn
      rcases Nat.lt_or_gt_of_ne hki with h1 | h1
      · have := hp k i hk hi h1; omega
      · have := hp i k hi hk h1; omega
theorem minTo_is (l : List Int) (hn : l.Pairwise (· < ·)) (hm : ∀ x ∈ l, 0 ≤ x) : ∀ k, k ≤ l.length → minTo l k = (l.take k).filter fun s => !(l.any (subsB s)) := by
  intro k
  induction k with
  | zero => intro _; simp [minTo]
  | succ k ih =>
    intro hk
    have hlt : k < l.length := by omega
    rw [minTo, ih (by omega), List.take_succ_eq_append_getElem hlt, List.filter_append, List.filter_cons, List.filter_nil, fineB_is l hn hm k hlt, getD_at l k hlt]
    split <;> simp
theorem minTo_all (l : List Int) (hn : l.Pairwise (· < ·)) (hm : ∀ x ∈ l, 0 ≤ x) : minTo l l.length = minL l := by
  rw [minTo_is l hn hm l.length (Nat.le_refl _), List.take_length]; rfl
end Go.Proofs.YtelmokapdkepbaaGreat
end
section
namespace Go.Proofs.YtelmokapdkepbaaGreat
open Go.RowKit Go.G5

/-- the test of one set of the list in the first program -/
def petal (l : List Int) (s : Int) (i : Nat) : Bool := !(l.getD i 0 == s) && (iand s (l.getD i 0) == iand s (l.getD 0 0)) && (i == 0 || iand s (l.getD i 0) == iand (l.getD 0 0) (l.getD 1 0))
def inFI (l : List Int) (s : Int) : Bool := allTo (petal l s) l.length
def pairS (l : List Int) (i k : Nat) : Bool := iand (l.getD i 0) (l.getD k 0) == iand (l.getD 0 0) (l.getD 1 0)
def sunS (l : List Int) : Bool := allTo (fun i => allTo (pairS l i) i) l.length
def findG (T : List Int → Int → Bool) : List Int → List Int → Int → Option (List Int)
  | sets, l, k => if (l.length : Int) = k then some l else
    match sets with
    | [] => none
    | s :: rest => if T l s then (match findG T rest (l ++ [s]) k with | some x => some x | none => findG T rest l k) else findG T rest l k
theorem findG_done (T : List Int → Int → Bool) (sets l : List Int) (k : Int) (h : (l.length : Int) = k) : findG T sets l k = some l := by unfold findG; rw [if_pos h]
theorem findG_nil (T : List Int → Int → Bool) (l : List Int) (k : Int) (h : (l.length : Int) ≠ k) : findG T [] l k = none := by unfold findG; rw [if_neg h]
theorem findG_cons (T : List Int → Int → Bool) (s : Int) (rest l : List Int) (k : Int) (h : (l.length : Int) ≠ k) :
    findG T (s :: rest) l k = if T l s then (match findG T rest (l ++ [s]) k with | some x => some x | none => findG T rest l k) else findG T rest l k := by
  rw [findG]
  rw [if_neg h]
theorem iand_comm' (a b : Int) : iand a b = iand b a := by unfold iand; rw [Nat.and_comm]
theorem sunS_iff (l : List Int) : sunS l = true ↔ ∀ i, i < l.length → ∀ k, k < i → iand (l.getD i 0) (l.getD k 0) = iand (l.getD 0 0) (l.getD 1 0) := by
  unfold sunS
  rw [allTo_iff]
  constructor
  · intro h i hi k hk
    have := allTo_iff.1 (h i hi) k hk
    unfold pairS at this
    simpa using this
  · intro h i hi
    rw [allTo_iff]
    intro k hk
    unfold pairS
    simpa using h i hi k hk
theorem getD_app (l : List Int) (s : Int) (i : Nat) (h : i < l.length) : (l ++ [s]).getD i 0 = l.getD i 0 := by
  rw [List.getD_eq_getElem?_getD, List.getD_eq_getElem?_getD, List.getElem?_append_left h]
theorem getD_last (l : List Int) (s : Int) : (l ++ [s]).getD l.length 0 = s := by
  rw [List.getD_eq_getElem?_getD, List.getElem?_append_right (Nat.le_refl _)]
  simp
/-- where the list is a sunflower that lacks s, both tests agree -/
theorem flower_test (l : List Int) (s : Int) (hl : sunS l = true) (hs : s ∉ l) : inFI l s = sunS (l ++ [s]) := by
  have hsun := (sunS_iff l).1 hl
  have hne : ∀ i, i < l.length → l.getD i 0 ≠ s := fun i hi e => hs (by rw [← e, getD_at l i hi]; exact List.getElem_mem hi)
  rw [Bool.eq_iff_iff, sunS_iff]
  unfold inFI
  rw [allTo_iff]
  rcases Nat.lt_or_ge l.length 2 with h2 | h2
  · -- at most one set
    constructor
    · intro _ i hi k hk
      rw [List.length_append, List.length_singleton] at hi
      have hi1 : i = 1 ∧ k = 0 ∧ l.length = 1 := by omega
      obtain ⟨rfl, rfl, _⟩ := hi1
      exact iand_comm' _ _
    · intro _ i hi
      have : i = 0 := by omega
      subst this
      unfold petal
      have h0 : (l.getD 0 0 == s) = false := beq_eq_false_iff_ne.2 (hne 0 hi)
      rw [h0]
      simp
  · have e0 : (l ++ [s]).getD 0 0 = l.getD 0 0 := getD_app l s 0 (by omega)
    have e1 : (l ++ [s]).getD 1 0 = l.getD 1 0 := getD_app l s 1 (by omega)
    rw [e0, e1]
    constructor
    · intro h i hi k hk
      rw [List.length_append, List.length_singleton] at hi
      by_cases hil : i < l.length
      · rw [getD_app l s i hil, getD_app l s k (by omega)]
        exact hsun i hil k hk
      · have : i = l.length := by omega
        subst this
        rw [getD_last, getD_app l s k hk]
        have h1 := h 1 (by omega)
        have hk' := h k hk
        unfold petal at h1 hk'
        simp only [Bool.and_eq_true, Bool.or_eq_true, beq_iff_eq, Bool.not_eq_true', beq_eq_false_iff_ne, ne_eq] at h1 hk'
        have a1 := h1.2.resolve_left (by omega)
        rcases hk'.2 with h0 | h0
        · subst h0
          rw [← h1.1.2]; exact a1
        · exact h0
    · intro h i hi
      have hi' := h l.length (by rw [List.length_append, List.length_singleton]; omega) i hi
      have h0' := h l.length (by rw [List.length_append, List.length_singleton]; omega) 0 (by omega)
      rw [getD_last, getD_app l s i hi] at hi'
      rw [getD_last, e0] at h0'
      unfold petal
      simp only [Bool.and_eq_true, Bool.or_eq_true, beq_iff_eq, Bool.not_eq_true', beq_eq_false_iff_ne, ne_eq]
      exact ⟨⟨hne i hi, by rw [hi', h0']⟩, .inr hi'⟩
theorem find_same : ∀ (sets l : List Int) (k : Int), sunS l = true → (∀ s ∈ sets, s ∉ l) → sets.Pairwise (· < ·) → findG (fun l s => sunS (l ++ [s])) sets l k = findG inFI sets l k := by
  intro sets
  induction sets with
  | nil =>
    intro l k _ _ _
    by_cases h : (l.length : Int) = k
    · rw [findG_done _ _ _ _ h, findG_done _ _ _ _ h]
    · rw [findG_nil _ _ _ h, findG_nil _ _ _ h]
  | cons s rest ih =>
    intro l k hl hs hp
    by_cases h : (l.length : Int) = k
    · rw [findG_done _ _ _ _ h, findG_done _ _ _ _ h]
    · rw [findG_cons _ _ _ _ _ h, findG_cons _ _ _ _ _ h]
      rw [List.pairwise_cons] at hp
      have ht := flower_test l s hl (hs s (by simp))
      have hr := ih l k hl (fun x hx => hs x (by simp [hx])) hp.2
      rw [← ht, hr]
      cases hT : inFI l s with
      | false => rfl
      | true =>
        rw [ih (l ++ [s]) k (ht ▸ hT) (fun x hx hm => by
          rw [List.mem_append, List.mem_singleton] at hm
          rcases hm with hm | hm
          · exact hs x (by simp [hx]) hm
          · have := hp.1 x hx; omega) hp.2]
theorem findG_len (T : List Int → Int → Bool) : ∀ (sets l : List Int) (k : Int) (x : List Int), findG T sets l k = some x → (x.length : Int) = k := by
  intro sets
  induction sets with
  | nil =>
    intro l k x h
    by_cases hk : (l.length : Int) = k
    · rw [findG_done _ _ _ _ hk] at h; cases h; exact hk
    · rw [findG_nil _ _ _ hk] at h; cases h
  | cons s rest ih =>
    intro l k x h
    by_cases hk : (l.length : Int) = k
    · rw [findG_done _ _ _ _ hk] at h; cases h; exact hk
    · rw [findG_cons _ _ _ _ _ hk] at h
      split at h
      · split at h
        · rename_i y hy; cases h; exact ih _ _ _ hy
        · exact ih _ _ _ h
      · exact ih _ _ _ h
/-- a strictly ascending list of numbers below n has at most n -/
theorem asc_len_aux' : ∀ (l : List Int) (lo n : Int), l.Pairwise (· < ·) → (∀ x ∈ l, lo ≤ x ∧ x < n) → lo ≤ n → (l.length : Int) ≤ n - lo := by
  intro l
  induction l with
  | nil => intro lo n _ _ h; simp; omega
  | cons x l ih =>
    intro lo n hp hb hln
    have hx := hb x (by simp)
    rw [List.pairwise_cons] at hp
    have := ih (x + 1) n hp.2 (fun y hy => ⟨by have := hp.1 y hy; omega, (hb y (by simp [hy])).2⟩) (by omega)
    rw [List.length_cons]
    omega
theorem asc_len' (l : List Int) (n : Nat) (hp : l.Pairwise (· < ·)) (hb : ∀ x ∈ l, 0 ≤ x ∧ x < (n : Int)) : l.length ≤ n := by
  have := asc_len_aux' l 0 n hp hb (by omega)
  omega
/-- of a family -/
def sunOk (g : Int) (l : List Int) (k : Int) : Bool := isFamB g l && inB k 1 5
def sunR (g : Int) (l : List Int) (k : Int) : Option (List Int) := if sunOk g l k then findG inFI l [] k else none
def sunB (g : Int) (l : List Int) (k : Int) : Bool := (sunR g l k).isSome
def sunL (g : Int) (l : List Int) (k : Int) : List Int := (sunR g l k).getD []
theorem sunR_spec (g : Int) (l : List Int) (k : Int) (h : sunOk g l k = true) : sunR g l k = findG (fun l s => sunS (l ++ [s])) l [] k := by
  unfold sunR
  rw [h]
  unfold sunOk at h
  have hf := (Bool.and_eq_true_iff.1 h).1
  exact (find_same l [] k (by decide) (by simp) (famOk hf).2.2.2).symm
theorem sunL_len (g : Int) (l : List Int) (k : Int) : (sunL g l k).length ≤ 5 := by
  unfold sunL sunR
  split
  · rename_i h
    unfold sunOk at h
    have hk := inB_true.1 (Bool.and_eq_true_iff.1 h).2
    cases hx : findG inFI l [] k with
    | none => simp
    | some x => have := findG_len _ _ _ _ _ hx; simp; omega
  · simp
end Go.Proofs.YtelmokapdkepbaaGreat
end
