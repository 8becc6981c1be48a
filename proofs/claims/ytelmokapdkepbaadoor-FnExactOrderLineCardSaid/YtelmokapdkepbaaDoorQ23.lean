/- Sunflowers: what is computed. Levels of families and their longest chains: what is computed. Longest chains of families: what is computed. -/
import Derived.Test.YtelmokapdkepbaaDoorQ22
section
namespace Go.Proofs.YtelmokapdkepbaaDoor
open Go.RowKit Go.G5

/-- the test of one set of the list in the first program -/
def petal (l : List Int) (s : Int) (i : Nat) : Bool := !(l.getD i 0 == s) && (iand s (l.getD i 0) == iand s (l.getD 0 0)) && (i == 0 || iand s (l.getD i 0) == iand (l.getD 0 0) (l.getD 1 0))
def inFI (l : List Int) (s : Int) : Bool := allTo (petal l s) l.length
def pairS (l : List Int) (i k : Nat) : Bool := iand (l.getD i 0) (l.getD k 0) == iand (l.getD 0 0) (l.getD 1 0)
def sunS (l : List Int) : Bool := allTo (fun i => allTo (pairS l i) i) l.length
def findG (T : List Int → Int → Bool) : List Int → List Int → Int → Option (List Int)
  | sets, l, k => if (l.length : Int) = k then some l else
    match sets with
    | [] => none
    | s :: rest => if T l s then (match findG T rest (l ++ [s]) k with | some x => some x | none => findG T rest l k) else findG T rest l k
theorem findG_done (T : List Int → Int → Bool) (sets l : List Int) (k : Int) (h : (l.length : Int) = k) : findG T sets l k = some l := by unfold findG; rw [if_pos h]
theorem findG_nil (T : List Int → Int → Bool) (l : List Int) (k : Int) (h : (l.length : Int) ≠ k) : findG T [] l k = none := by unfold findG; rw [if_neg h]
theorem findG_cons (T : List Int → Int → Bool) (s : Int) (rest l : List Int) (k : Int) (h : (l.length : Int) ≠ k) :
    findG T (s :: rest) l k = if T l s then (match findG T rest (l ++ [s]) k with | some x => some x | none => findG T rest l k) else findG T rest l k := by
  rw [findG]
  rw [if_neg h]
theorem iand_comm' (a b : Int) : iand a b = iand b a := by unfold iand; rw [Nat.and_comm]
theorem sunS_iff (l : List Int) : sunS l = true ↔ ∀ i, i < l.length → ∀ k, k < i → iand (l.getD i 0) (l.getD k 0) = iand (l.getD 0 0) (l.getD 1 0) := by
  unfold sunS
  rw [allTo_iff]
  constructor
  · intro h i hi k hk
    have := allTo_iff.1 (h i hi) k hk
    unfold pairS at this
    simpa using this
  · intro h i hi
    rw [allTo_iff]
    intro k hk
    unfold pairS
    simpa using h i hi k hk
theorem getD_app (l : List Int) (s : Int) (i : Nat) (h : i < l.length) : (l ++ [s]).getD i 0 = l.getD i 0 := by
  rw [List.getD_eq_getElem?_getD, List.getD_eq_getElem?_getD, List.getElem?_append_left h]
theorem getD_last (l : List Int) (s : Int) : (l ++ [s]).getD l.length 0 = s := by
  rw [List.getD_eq_getElem?_getD, List.getElem?_append_right (Nat.le_refl _)]
  simp
/-- where the list is a sunflower that lacks s, both tests agree -/
theorem flower_test (l : List Int) (s : Int) (hl : sunS l = true) (hs : s ∉ l) : inFI l s = sunS (l ++ [s]) := by
  have hsun := (sunS_iff l).1 hl
  have hne : ∀ i, i < l.length → l.getD i 0 ≠ s := fun i hi e => hs (by rw [← e, getD_at l i hi]; exact List.getElem_mem hi)
  rw [Bool.eq_iff_iff, sunS_iff]
  unfold inFI
  rw [allTo_iff]
  rcases Nat.lt_or_ge l.length 2 with h2 | h2
  · -- at most one set
    constructor
    · intro _ i hi k hk
      rw [List.length_append, List.length_singleton] at hi
      have hi1 : i = 1 ∧ k = 0 ∧ l.length = 1 := by omega
      obtain ⟨rfl, rfl, _⟩ := hi1
      exact iand_comm' _ _
    · intro _ i hi
      have : i = 0 := by omega
      subst this
      unfold petal
      have h0 : (l.getD 0 0 == s) = false := beq_eq_false_iff_ne.2 (hne 0 hi)
      rw [h0]
      simp
  · have e0 : (l ++ [s]).getD 0 0 = l.getD 0 0 := getD_app l s 0 (by omega)
    have e1 : (l ++ [s]).getD 1 0 = l.getD 1 0 := getD_app l s 1 (by omega)
    rw [e0, e1]
    constructor
    · intro h i hi k hk
      rw [List.length_append, List.length_singleton] at hi
      by_cases hil : i < l.length
      · rw [getD_app l s i hil, getD_app l s k (by omega)]
        exact hsun i hil k hk
      · have : i = l.length := by omega
        subst this
        rw [getD_last, getD_app l s k hk]
        have h1 := h 1 (by omega)
        have hk' := h k hk
        unfold petal at h1 hk'
        simp only [Bool.and_eq_true, Bool.or_eq_true, beq_iff_eq, Bool.not_eq_true', beq_eq_false_iff_ne, ne_eq] at h1 hk'
        have a1 := h1.2.resolve_left (by omega)
        rcases hk'.2 with h0 | h0
        · subst h0
          rw [← h1.1.2]; exact a1
        · exact h0
    · intro h i hi
      have hi' := h l.length (by rw [List.length_append, List.length_singleton]; omega) i hi
      have h0' := h l.length (by rw [List.length_append, List.length_singleton]; omega) 0 (by omega)
      rw [getD_last, getD_app l s i hi] at hi'
      rw [getD_last, e0] at h0'
      unfold petal
      simp only [Bool.and_eq_true, Bool.or_eq_true, beq_iff_eq, Bool.not_eq_true', beq_eq_false_iff_ne, ne_eq]
      exact ⟨⟨hne i hi, by rw [hi', h0']⟩, .inr hi'⟩
theorem find_same : ∀ (sets l : List Int) (k : Int), sunS l = true → (∀ s ∈ sets, s ∉ l) → sets.Pairwise (· < ·) → findG (fun l s => sunS (l ++ [s])) sets l k = findG inFI sets l k := by
  intro sets
  induction sets with
  | nil =>
    intro l k _ _ _
    by_cases h : (l.length : Int) = k
    · rw [findG_done _ _ _ _ h, findG_done _ _ _ _ h]
    · rw [findG_nil _ _ _ h, findG_nil _ _ _ h]
  | cons s rest ih =>
    intro l k hl hs hp
    by_cases h : (l.length : Int) = k
    · rw [findG_done _ _ _ _ h, findG_done _ _ _ _ h]
    · rw [findG_cons _ _ _ _ _ h, findG_cons _ _ _ _ _ h]
      rw [List.pairwise_cons] at hp
      have ht := flower_test l s hl (hs s (by simp))
      have hr := ih l k hl (fun x hx => hs x (by simp [hx])) hp.2
      rw [← ht, hr]
      cases hT : inFI l s with
      | false => rfl
      | true =>
        rw [ih (l ++ [s]) k (ht ▸ hT) (fun x hx hm => by
          rw [List.mem_append, List.mem_singleton] at hm
          rcases hm with hm | hm
          · exact hs x (by simp [hx]) hm
          · have := hp.1 x hx; omega) hp.2]
theorem findG_len (T : List Int → Int → Bool) : ∀ (sets l : List Int) (k : Int) (x : List Int), findG T sets l k = some x → (x.length : Int) = k := by
  intro sets
  induction sets with
  | nil =>
    intro l k x h
    by_cases hk : (l.length : Int) = k
    · rw [findG_done _ _ _ _ hk] at h; cases h; exact hk
    · rw [findG_nil _ _ _ hk] at h; cases h
  | cons s rest ih =>
    intro l k x h
    by_cases hk : (l.length : Int) = k
    · rw [findG_done _ _ _ _ hk] at h; cases h; exact hk
    · rw [findG_cons _ _ _ _ _ hk] at h
      split at h
      · split at h
        · rename_i y hy; cases h; exact ih _ _ _ hy
        · exact ih _ _ _ h
      · exact ih _ _ _ h
/-- a strictly ascending list of numbers below n has at most n -/
theorem asc_len_aux' : ∀ (l : List Int) (lo n : Int), l.Pairwise (· < ·) → (∀ x ∈ l, lo ≤ x ∧ x < n) → lo ≤ n → (l.length : Int) ≤ n - lo := by
  intro l
  induction l with
  | nil => intro lo n _ _ h; simp; omega
  | cons x l ih =>
    intro lo n hp hb hln
    have hx := hb x (by simp)
    rw [List.pairwise_cons] at hp
    have := ih (x + 1) n hp.2 (fun y hy => ⟨by have := hp.1 y hy; omega, (hb y (by simp [hy])).2⟩) (by omega)
    rw [List.length_cons]
    omega
theorem asc_len' (l : List Int) (n : Nat) (hp : l.Pairwise (· < ·)) (hb : ∀ x ∈ l, 0 ≤ x ∧ x < (n : Int)) : l.length ≤ n := by
  have := asc_len_aux' l 0 n hp hb (by omega)
  omega
/-- of a family -/
def sunOk (g : Int) (l : List Int) (k : Int) : Bool := isFamB g l && inB k 1 5
def sunR (g : Int) (l : List Int) (k : Int) : Option (List Int) := if sunOk g l k then findG inFI l [] k else none
def sunB (g : Int) (l : List Int) (k : Int) : Bool := (sunR g l k).isSome
def sunL (g : Int) (l : List Int) (k : Int) : List Int := (sunR g l k).getD []
theorem sunR_spec (g : Int) (l : List Int) (k : Int) (h : sunOk g l k = true) : sunR g l k = findG (fun l s => sunS (l ++ [s])) l [] k := by
  unfold sunR
  rw [h]
  unfold sunOk at h
  have hf := (Bool.and_eq_true_iff.1 h).1
  exact (find_same l [] k (by decide) (by simp) (famOk hf).2.2.2).symm
theorem sunL_len (g : Int) (l : List Int) (k : Int) : (sunL g l k).length ≤ 5 := by
  unfold sunL sunR
  split
  · rename_i h
    unfold sunOk at h
    have hk := inB_true.1 (Bool.and_eq_true_iff.1 h).2
    cases hx : findG inFI l [] k with
    | none => simp
    | some x => have := findG_len _ _ _ _ _ hx; simp; omega
  · simp
end Go.Proofs.YtelmokapdkepbaaDoor
end
section
namespace Go.Proofs.YtelmokapdkepbaaDoor
open Go.RowKit Go.G5

def remLv (l : List Int) : List Int := l.filter fun s => !has (minL l) s
def levF : Nat → List Int → List (List Int)
  | 0, _ => []
  | k + 1, l => if l = [] then [] else minL l :: levF k (remLv l)
def levL (l : List Int) : List (List Int) := levF l.length l
def lenOf : Value → Nat
  | .slice _ n _ => n
  | _ => 0
theorem sub_le : ∀ s : Nat, s < 64 → ∀ t : Nat, t < 64 → ndiff t s = 0 → t ≤ s := by decide +kernel
/-- the least set of a family contains no other one -/
theorem minL_first (x : Int) (l : List Int) (ha : (x :: l).Pairwise (· < ·)) (hb : ∀ y ∈ x :: l, 0 ≤ y ∧ y < 64) : x ∈ minL (x :: l) := by
  unfold minL
  rw [List.mem_filter]
  refine ⟨by simp, ?_⟩
  rw [Bool.not_eq_true', List.any_eq_false]
  intro y hy
  have h1 := hb y hy
  have h2 := hb x (by simp)
  unfold subsB
  intro h
  rw [Bool.and_eq_true, bne_iff_ne, beq_iff_eq] at h
  obtain ⟨hne, hs⟩ := h
  unfold idif at hs
  have h3 := sub_le x.toNat (by omega) y.toNat (by omega) (by omega)
  rcases List.mem_cons.1 hy with e | hy
  · exact hne e
  · have := (List.pairwise_cons.1 ha).1 y hy
    omega
theorem remL_lt {l : List Int} (hne : l ≠ []) (ha : l.Pairwise (· < ·)) (hb : ∀ y ∈ l, 0 ≤ y ∧ y < 64) : (remLv l).length < l.length := by
  cases l with
  | nil => exact absurd rfl hne
  | cons x l =>
    unfold remLv
    rw [List.length_filter_lt_length_iff_exists]
    exact ⟨x, by simp, by rw [has_true.2 (minL_first x l ha hb)]; simp⟩
theorem remL_asc {l : List Int} (ha : l.Pairwise (· < ·)) : (remLv l).Pairwise (· < ·) := ha.filter _
theorem remL_mem {l : List Int} {x : Int} (h : x ∈ remLv l) : x ∈ l := (List.mem_filter.1 h).1
theorem levF_succ (k : Nat) (l : List Int) (h : l ≠ []) : levF (k + 1) l = minL l :: levF k (remLv l) := by rw [levF, if_neg h]
theorem levF_nil (k : Nat) : levF k [] = [] := by cases k <;> simp [levF]
theorem levF_len : ∀ (k : Nat) (l : List Int), (levF k l).length ≤ k := by
  intro k
  induction k with
  | zero => intro l; simp [levF]
  | succ k ih =>
    intro l
    rw [levF]
    split
    · simp
    · have := ih (remLv l); rw [List.length_cons]; omega
theorem levF_mem : ∀ (k : Nat) (l : List Int), ∀ m ∈ levF k l, m.length ≤ l.length ∧ ∀ x ∈ m, x ∈ l := by
  intro k
  induction k with
  | zero => intro l m hm; simp [levF] at hm
  | succ k ih =>
    intro l m hm
    rw [levF] at hm
    split at hm
    · simp at hm
    · rcases List.mem_cons.1 hm with e | hm
      · subst e
        exact ⟨minL_len l, fun x hx => minL_mem hx⟩
      · have h := ih _ m hm
        exact ⟨Nat.le_trans h.1 (List.length_filter_le _ _), fun x hx => remL_mem (h.2 x hx)⟩
def levB (g : Int) (l : List Int) : Bool := isFamB g l
def levels (g : Int) (l : List Int) : List (List Int) := if isFamB g l then levL l else []
theorem rest_take (p : Int → Bool) (L : List Int) (k : Nat) (h : k < L.length) : (L.take (k + 1)).filter p = (L.take k).filter p ++ (if p L[k] then [L[k]] else []) := by
  rw [List.take_succ_eq_append_getElem h, List.filter_append]
  congr 1
  cases hp : p L[k] <;> simp [hp]
theorem fam64 {g : Int} {l : List Int} (h : isFamB g l = true) : l.length ≤ 64 := by
  have h1 := famOk h
  have h2 := famOk64 h
  exact asc_len' l 64 h1.2.2.2 (fun x hx => by obtain ⟨k, hk, rfl⟩ := List.getElem_of_mem hx; have := h2.2.2 k hk; omega)
end Go.Proofs.YtelmokapdkepbaaDoor
end
section
namespace Go.Proofs.YtelmokapdkepbaaDoor
open Go.RowKit Go.G5

def fitC (out : List Int) (s : Int) : Bool := out.isEmpty || idif s (out.headD 0) == 0
def stepC : List Int → List Int → List Int
  | [], out => out
  | s :: r, out => if fitC out s then s :: out else stepC r out
def chD (ls : List (List Int)) : Nat → List Int → List Int
  | 0, out => out
  | i + 1, out => chD ls i (stepC (ls.getD i []) out)
def chL (g : Int) (l : List Int) : List Int := chD (levels g l) (levels g l).length []
theorem stepC_len : ∀ (M out : List Int), (stepC M out).length ≤ out.length + 1
  | [], out => by rw [stepC]; omega
  | s :: r, out => by
    rw [stepC]
    split
    · simp
    · exact stepC_len r out
theorem chD_len (ls : List (List Int)) : ∀ (i : Nat) (out : List Int), (chD ls i out).length ≤ out.length + i
  | 0, out => by rw [chD]; omega
  | i + 1, out => by
    rw [chD]
    have h1 := chD_len ls i (stepC (ls.getD i []) out)
    have h2 := stepC_len (ls.getD i []) out
    omega
theorem stepC_mem : ∀ (M out : List Int), ∀ x ∈ stepC M out, x ∈ M ∨ x ∈ out
  | [], out => fun x hx => .inr hx
  | s :: r, out => fun x hx => by
    rw [stepC] at hx
    split at hx
    · rcases List.mem_cons.1 hx with e | h
      · exact .inl (by rw [e]; simp)
      · exact .inr h
    · rcases stepC_mem r out x hx with h | h
      · exact .inl (List.mem_cons_of_mem _ h)
      · exact .inr h
theorem levels_len (g : Int) (l : List Int) : (levels g l).length ≤ 64 := by
  unfold levels
  split
  · rename_i h
    exact Nat.le_trans (levF_len _ _) (fam64 h)
  · simp
theorem levels_mem (g : Int) (l : List Int) : ∀ m ∈ levels g l, m.length ≤ 64 ∧ ∀ x ∈ m, 0 ≤ x ∧ x < 64 := by
  unfold levels
  split
  · rename_i h
    intro m hm
    have h1 := levF_mem _ _ m hm
    refine ⟨Nat.le_trans h1.1 (fam64 h), fun x hx => ?_⟩
    obtain ⟨k, hk, e⟩ := List.getElem_of_mem (h1.2 x hx)
    rw [← e]
    exact (famOk64 h).2.2 k hk
  · intro m hm; simp at hm
theorem chL_len (g : Int) (l : List Int) : (chL g l).length ≤ 64 := by
  have h1 := chD_len (levels g l) (levels g l).length []
  have h2 := levels_len g l
  unfold chL
  simp at h1
  omega
theorem stepC_at (M : List Int) (j : Nat) (h : j < M.length) (out : List Int) : stepC (M.drop j) out = if fitC out M[j] then M[j] :: out else stepC (M.drop (j + 1)) out := by
  rw [List.drop_eq_getElem_cons h, stepC]
theorem stepC_end (M out : List Int) : stepC (M.drop M.length) out = out := by rw [List.drop_length]; rfl
theorem chD_at (ls : List (List Int)) (i : Nat) (h : i < ls.length) (out : List Int) : chD ls (i + 1) out = chD ls i (stepC ls[i] out) := by
  rw [chD, List.getD_eq_getElem?_getD, List.getElem?_eq_getElem h]; rfl
end Go.Proofs.YtelmokapdkepbaaDoor
end
