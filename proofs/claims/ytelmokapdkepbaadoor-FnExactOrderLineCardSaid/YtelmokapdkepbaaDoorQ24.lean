/- Largest antichains: what is computed. Common independent sets and what bounds them: what is computed. Common independent sets: whether two functions are ranks of matroids alike; sets that are free. Vectors. The order of a vector's elements by descending numbers: the plain list. Sums of products. The order of a vector's elements: the second program. The gains along an order: the second program. -/
import Derived.Test.YtelmokapdkepbaaDoorQ23
import Derived.Shelf.Abstract
import Derived.Deep.RegionHeld3
import Derived.Deep.AppendLies
section
namespace Go.Proofs.YtelmokapdkepbaaDoor
open Go.RowKit Go.G5

def acS (T : List Int → Int → Bool) : List Int → List Int → List Int → List Int
  | [], _, b => b
  | s :: r, c, b => if c.length + (r.length + 1) ≤ b.length then b else if T c s then acS T r c (longer b (acS T r (c ++ [s]) (c ++ [s]))) else acS T r c b
def acV (T : List Int → Int → Bool) : List Int → List Int → List Int → List Int
  | [], _, b => b
  | s :: r, c, b => if c.length + (r.length + 1) ≤ b.length then b else if T c s then acV T r c (acV T r (c ++ [s]) (longer b (c ++ [s]))) else acV T r c b
theorem longer_len (a b : List Int) : (longer a b).length = max a.length b.length := by
  unfold longer
  split <;> omega
theorem acS_len (T : List Int → Int → Bool) : ∀ (r c b : List Int), (acS T r c b).length ≤ max b.length (c.length + r.length)
  | [], c, b => by rw [acS]; omega
  | s :: r, c, b => by
    rw [acS, List.length_cons]
    split
    · omega
    · split
      · have h1 := acS_len T r c (longer b (acS T r (c ++ [s]) (c ++ [s])))
        have h2 := acS_len T r (c ++ [s]) (c ++ [s])
        rw [longer_len] at h1
        rw [List.length_append, List.length_singleton] at h2
        omega
      · have h1 := acS_len T r c b
        omega
theorem longer_yes {a b : List Int} (h : a.length < b.length) : longer a b = b := by unfold longer; rw [if_pos h]
theorem longer_no {a b : List Int} (h : b.length ≤ a.length) : longer a b = a := by unfold longer; rw [if_neg (by omega)]
theorem acV_is (T : List Int → Int → Bool) : ∀ (r c b x : List Int), acV T r c (longer b x) = longer b (acS T r c x)
  | [], _, _, _ => rfl
  | s :: r, c, b, x => by
    rw [acV, acS]
    have hl := longer_len b x
    by_cases h1 : c.length + (r.length + 1) ≤ (longer b x).length
    · rw [if_pos h1]
      by_cases h2 : c.length + (r.length + 1) ≤ x.length
      · rw [if_pos h2]
      · have hb : x.length ≤ b.length := by omega
        have h3 := acS_len T (s :: r) c x
        rw [acS, List.length_cons] at h3
        rw [longer_no hb, longer_no (Nat.le_trans h3 (by omega))]
    · rw [if_neg h1, if_neg (show ¬ c.length + (r.length + 1) ≤ x.length by omega)]
      split
      · rw [acV_is T r (c ++ [s]) (longer b x) (c ++ [s]), longer_assoc, acV_is T r c b]
      · exact acV_is T r c b x
theorem acS_mem (S : List Int) (T : List Int → Int → Bool) : ∀ (r c b : List Int), (∀ x ∈ r, x ∈ S) → (∀ x ∈ c, x ∈ S) → (∀ x ∈ b, x ∈ S) → ∀ x ∈ acS T r c b, x ∈ S
  | [], _, _, _, _, h => h
  | s :: r, c, b, h1, h2, h3 => by
    have h4 : ∀ x ∈ r, x ∈ S := fun x hx => h1 x (List.mem_cons_of_mem _ hx)
    have h5 : ∀ x ∈ c ++ [s], x ∈ S := fun x hx => by
      rcases List.mem_append.1 hx with h | h
      · exact h2 x h
      · rw [List.mem_singleton] at h; subst h; exact h1 x (by simp)
    rw [acS]
    split
    · exact h3
    · split
      · refine acS_mem S T r c _ h4 h2 ?_
        have h6 := acS_mem S T r (c ++ [s]) (c ++ [s]) h4 h5 h5
        unfold longer
        split <;> assumption
      · exact acS_mem S T r c b h4 h2 h3
theorem acV_len (T : List Int → Int → Bool) (r c b : List Int) : (acV T r c b).length ≤ max b.length (c.length + r.length) := by
  have h := acV_is T r c b []
  rw [longer_no (show ([] : List Int).length ≤ b.length by simp)] at h
  rw [h, longer_len]
  have h2 := acS_len T r c []
  simp at h2
  omega
/-- what the first program asks of a set that is to join a list -/
def acI (l : List Int) (s : Int) : Bool := allTo (fun j => apartB s (l.getD j 0)) l.length
theorem minTo_full (l : List Int) : ∀ k, (minTo l k).length = k ↔ ∀ i, i < k → fineB l i = true := by
  intro k
  induction k with
  | zero => simp [minTo]
  | succ k ih =>
    have hle := minTo_le l k
    rw [minTo]
    cases hf : fineB l k with
    | true =>
      rw [if_pos rfl, List.length_append, List.length_singleton]
      constructor
      · intro h i hi
        by_cases e : i = k
        · rw [e]; exact hf
        · exact ih.1 (by omega) i (by omega)
      · intro h
        rw [ih.2 (fun i hi => h i (by omega))]
    | false =>
      rw [if_neg (by simp)]
      constructor
      · intro h; omega
      · intro h; have := h k (by omega); rw [hf] at this; cases this
theorem freeS_iff (l : List Int) : freeS l = true ↔ ∀ i, i < l.length → ∀ k, k < l.length → k ≠ i → iand (l.getD k 0) (l.getD i 0) ≠ l.getD k 0 := by
  unfold freeS
  rw [beq_iff_eq, minTo_full]
  unfold fineB
  simp only [allTo_iff, Bool.or_eq_true, beq_iff_eq, bne_iff_ne, ne_eq]
  constructor
  · intro h i hi k hk hne
    rcases h i hi k hk with e | e
    · exact absurd e hne
    · exact e
  · intro h i hi k hk
    by_cases e : k = i
    · exact .inl e
    · exact .inr (h i hi k hk e)
theorem free_nil : freeS [] = true := rfl
theorem getD_appA (l : List Int) (s : Int) (i : Nat) (h : i < l.length) : (l ++ [s]).getD i 0 = l.getD i 0 := by
  rw [List.getD_eq_getElem?_getD, List.getD_eq_getElem?_getD, List.getElem?_append_left h]
theorem getD_lastA (l : List Int) (s : Int) : (l ++ [s]).getD l.length 0 = s := by
  rw [List.getD_eq_getElem?_getD, List.getElem?_append_right (Nat.le_refl _)]; simp
theorem idif_ne {a b : Int} (h0 : 0 ≤ a) : idif a b ≠ 0 ↔ iand a b ≠ a := by
  rw [← idif_sub h0]
  constructor <;> intro h <;> omega
theorem ac_test (l : List Int) (s : Int) (hl : freeS l = true) (hm : ∀ x ∈ l, 0 ≤ x) (hs : 0 ≤ s) : acI l s = freeS (l ++ [s]) := by
  rw [Bool.eq_iff_iff, freeS_iff]
  unfold acI apartB
  simp only [allTo_iff, Bool.and_eq_true, bne_iff_ne]
  have hp : ∀ j, j < l.length → 0 ≤ l.getD j 0 := fun j hj => by
    rw [List.getD_eq_getElem?_getD, List.getElem?_eq_getElem hj]
    exact hm _ (List.getElem_mem hj)
  rw [freeS_iff] at hl
  constructor
  · intro h i hi k hk hne
    rw [List.length_append, List.length_singleton] at hi hk
    by_cases e1 : i = l.length
    · have hk2 : k < l.length := by omega
      rw [e1, getD_lastA, getD_appA l s k hk2]
      exact (idif_ne (hp k hk2)).1 (h k hk2).2
    · have hi2 : i < l.length := by omega
      rw [getD_appA l s i hi2]
      by_cases e2 : k = l.length
      · rw [e2, getD_lastA]
        exact (idif_ne hs).1 (h i hi2).1
      · have hk2 : k < l.length := by omega
        rw [getD_appA l s k hk2]
        exact hl i hi2 k hk2 hne
  · intro h j hj
    have h1 := h l.length (by simp) j (by simp; omega) (by omega)
    have h2 := h j (by simp; omega) l.length (by simp) (by omega)
    rw [getD_lastA, getD_appA l s j hj] at h1 h2
    exact ⟨(idif_ne hs).2 h2, (idif_ne (hp j hj)).2 h1⟩
theorem ac_same : ∀ (r c b : List Int), freeS c = true → (∀ x ∈ c, 0 ≤ x) → (∀ x ∈ r, 0 ≤ x) → acS (fun l s => freeS (l ++ [s])) r c b = acS acI r c b
  | [], _, _, _, _, _ => rfl
  | s :: r, c, b, hc, hcm, hm => by
    have h1 : ∀ x ∈ r, 0 ≤ x := fun x hx => hm x (List.mem_cons_of_mem _ hx)
    have h2 := hm s (by simp)
    have ht := ac_test c s hc hcm h2
    rw [acS, acS, ← ht, ac_same r c b hc hcm h1]
    cases hT : acI c s with
    | false => rfl
    | true =>
      rw [ac_same r (c ++ [s]) (c ++ [s]) (ht ▸ hT) (fun x hx => by
        rcases List.mem_append.1 hx with h | h
        · exact hcm x h
        · rw [List.mem_singleton] at h; omega) h1, ac_same r c _ hc hcm h1]
def laB (g : Int) (l : List Int) : Bool := isFamB g l && decide (l.length ≤ 12)
def laL (g : Int) (l : List Int) : List Int := if laB g l then acS acI l [] [] else []
theorem laL_len (g : Int) (l : List Int) : (laL g l).length ≤ 12 := by
  unfold laL
  split
  · rename_i h
    unfold laB at h
    rw [Bool.and_eq_true, decide_eq_true_eq] at h
    have := acS_len acI l [] []
    simp at this
    omega
  · simp
def laN (g : Int) (l : List Int) : Int := if laB g l then g else 0
theorem laB_no {g : Int} {l : List Int} (h : laB g l = false) : laN g l = 0 ∧ laL g l = [] := by unfold laN laL; rw [h]; exact ⟨rfl, rfl⟩
theorem laB_yes {g : Int} {l : List Int} (h : laB g l = true) : laN g l = g ∧ laL g l = acS acI l [] [] := by unfold laN laL; rw [h]; exact ⟨rfl, rfl⟩
theorem acV_top (l : List Int) : acV acI l [] [] = acS acI l [] [] := by
  have h := acV_is acI l [] [] []
  have e : longer [] [] = ([] : List Int) := rfl
  rw [e] at h
  rw [h]
  unfold longer
  split
  · rfl
  · rename_i hn
    have h0 : (acS acI l [] []).length = 0 := by simpa using hn
    exact (List.eq_nil_of_length_eq_zero h0).symm
end Go.Proofs.YtelmokapdkepbaaDoor
end
section
namespace Go.Proofs.YtelmokapdkepbaaDoor
open Go.RowKit Go.G5

def comB (n : Int) (l : List Int) (m : Int) (k : List Int) : Bool := (rankB n l && rankB m k) && decide (n = m)
def freeB (l : List Int) (s : Nat) : Bool := decide (l.getD s 0 = (pop s : Int))
/-- the first of the largest common sets below t -/
def lcTo (l k : List Int) : Nat → Nat
  | 0 => 0
  | t + 1 => if decide (pop (lcTo l k t) < pop t) && (freeB l t && freeB k t) then t else lcTo l k t
def sumT (l k : List Int) (t : Nat) : Int := l.getD t 0 + k.getD (l.length - 1 - t) 0
/-- the first set below t with the least sum -/
def spTo (l k : List Int) : Nat → Nat
  | 0 => 0
  | t + 1 => if sumT l k t < sumT l k (spTo l k t) then t else spTo l k t
def lcS (n : Int) (l : List Int) (m : Int) (k : List Int) : Int := if comB n l m k then (lcTo l k l.length : Int) else 0
def cbS (n : Int) (l : List Int) (m : Int) (k : List Int) : Int := if comB n l m k then (spTo l k l.length : Int) else 0
def cbN (n : Int) (l : List Int) (m : Int) (k : List Int) : Int := if comB n l m k then sumT l k (spTo l k l.length) else 0
theorem lcTo_lt (l k : List Int) : ∀ t, 0 < t → lcTo l k t < t := by
  intro t
  induction t with
  | zero => intro h; omega
  | succ t ih =>
    intro _
    rw [lcTo]
    split
    · omega
    · rcases Nat.eq_zero_or_pos t with rfl | h
      · simp [lcTo]
      · have := ih h; omega
theorem spTo_lt (l k : List Int) : ∀ t, 0 < t → spTo l k t < t := by
  intro t
  induction t with
  | zero => intro h; omega
  | succ t ih =>
    intro _
    rw [spTo]
    split
    · omega
    · rcases Nat.eq_zero_or_pos t with rfl | h
      · simp [spTo]
      · have := ih h; omega
theorem lcTo_one (l k : List Int) : lcTo l k 1 = 0 := by
  have := lcTo_lt l k 1 (by omega); omega
theorem spTo_one (l k : List Int) : spTo l k 1 = 0 := by
  have := spTo_lt l k 1 (by omega); omega
theorem com_fun {n m : Int} {l k : List Int} (h : comB n l m k = true) : m = n ∧ ∃ N : Nat, n = N ∧ N ≤ 5 ∧ l.length = 2 ^ N ∧ l.length ≤ 32 ∧ k.length = l.length ∧ (∀ i, (hi : i < l.length) → -1000 ≤ l[i] ∧ l[i] ≤ 1000) ∧ (∀ i, (hi : i < k.length) → -1000 ≤ k[i] ∧ k[i] ≤ 1000) := by
  unfold comB rankB at h
  simp only [Bool.and_eq_true, decide_eq_true_eq] at h
  obtain ⟨⟨⟨h1, _⟩, h2, _⟩, rfl⟩ := h
  obtain ⟨N, rfl, hN5, hl2, hl32, hlb⟩ := fun_nat (poly_fun h1)
  obtain ⟨M, hM, hM5, hk2, hk32, hkb⟩ := fun_nat (poly_fun h2)
  have : N = M := by omega
  subst this
  exact ⟨rfl, N, rfl, hN5, hl2, hl32, by omega, hlb, hkb⟩
end Go.Proofs.YtelmokapdkepbaaDoor
end
section
namespace Go.Proofs.YtelmokapdkepbaaDoor
open Go.RowKit Go.G5

theorem beq_dec (a b : Int) : (a == b) = decide (a = b) := by by_cases h : a = b <;> simp [h]
end Go.Proofs.YtelmokapdkepbaaDoor
end
section
namespace Go.Proofs.YtelmokapdkepbaaDoor
open Go.RowKit Go.G5

def vecB (x : List Int) : Bool := decide (x.length ≤ 5) && allIn x (-1000) 1000
def optB (n : Int) (l x : List Int) : Bool := (isGrB n l && subB n l) && (vecB x && decide ((x.length : Int) = n))
end Go.Proofs.YtelmokapdkepbaaDoor
end
section
namespace Go.Proofs.YtelmokapdkepbaaDoor
open Go.RowKit Go.G5

def scanO (x o : List Int) (y : Int) : Nat → Nat
  | 0 => 0
  | k + 1 => if x.getD (o.getD k 0).toNat 0 < y then scanO x o y k else k + 1
def insO (o : List Int) (e : Int) (k : Nat) : List Int := (o.take k ++ [e]) ++ o.drop k
def ordN (x : List Int) : Nat → List Int
  | 0 => []
  | i + 1 => insO (ordN x i) i (scanO x (ordN x i) (x.getD i 0) i)
def restL (i n : Nat) : List Int := (List.range' i (n - i)).map fun (t : Nat) => (t : Int)
theorem scanO_le (x o : List Int) (y : Int) : ∀ k, scanO x o y k ≤ k := by
  intro k
  induction k with
  | zero => exact Nat.le_refl _
  | succ k ih => rw [scanO]; split <;> omega
theorem insO_len (o : List Int) (e : Int) (k : Nat) (hk : k ≤ o.length) : (insO o e k).length = o.length + 1 := by
  unfold insO
  simp
  omega
theorem ordN_len (x : List Int) : ∀ i, (ordN x i).length = i := by
  intro i
  induction i with
  | zero => rfl
  | succ i ih =>
    have h := scanO_le x (ordN x i) (x.getD i 0) i
    rw [ordN, insO_len _ _ _ (by omega), ih]
theorem insO_mem (o : List Int) (e y : Int) (k : Nat) (h : y ∈ insO o e k) : y ∈ o ∨ y = e := by
  unfold insO at h
  rcases List.mem_append.1 h with h | h
  · rcases List.mem_append.1 h with h | h
    · exact .inl (List.mem_of_mem_take h)
    · exact .inr (List.mem_singleton.1 h)
  · exact .inl (List.mem_of_mem_drop h)
theorem ordN_mem (x : List Int) : ∀ i, ∀ e ∈ ordN x i, 0 ≤ e ∧ e < i := by
  intro i
  induction i with
  | zero => intro e h; simp [ordN] at h
  | succ i ih =>
    intro e h
    rcases insO_mem _ _ _ _ h with h | h
    · have := ih e h; omega
    · subst h; omega
theorem restL_len (i n : Nat) : (restL i n).length = n - i := by unfold restL; simp
theorem restL_cons (i n : Nat) (h : i < n) : restL i n = (i : Int) :: restL (i + 1) n := by
  unfold restL
  rw [show n - i = (n - (i + 1)) + 1 by omega, List.range'_succ]
  rfl
theorem restL_mem (i n : Nat) : ∀ e ∈ restL i n, 0 ≤ e ∧ e < n := by
  intro e h
  unfold restL at h
  obtain ⟨t, ht, rfl⟩ := List.mem_map.1 h
  have := List.mem_range'.1 ht
  omega
theorem restL_at (n k : Nat) (h : k < (restL 0 n).length) : (restL 0 n)[k] = (k : Int) := by
  unfold restL
  simp
theorem insO_end (o r : List Int) (e : Int) : insO o e o.length ++ r = o ++ e :: r := by
  unfold insO
  simp
theorem insO_at (o r : List Int) (e : Int) (k : Nat) (hk : k ≤ o.length) : (insO o e k ++ r)[k]? = some e := by
  unfold insO
  have h1 : (o.take k).length = k := by rw [List.length_take]; omega
  rw [List.append_assoc, List.append_assoc, List.getElem?_append_right (by omega), h1]
  simp
theorem insO_before (o r : List Int) (e : Int) (k : Nat) (hk : k + 1 ≤ o.length) : (insO o e (k + 1) ++ r)[k]? = some (o[k]'(by omega)) := by
  unfold insO
  have h1 : (o.take (k + 1)).length = k + 1 := by rw [List.length_take]; omega
  rw [List.append_assoc, List.append_assoc, List.getElem?_append_left (by omega), List.getElem?_take, if_pos (by omega), List.getElem?_eq_getElem (by omega)]
theorem insO_swap (o r : List Int) (e : Int) (k : Nat) (hk : k + 1 ≤ o.length) : ((insO o e (k + 1) ++ r).set (k + 1) (o[k]'(by omega))).set k e = insO o e k ++ r := by
  obtain ⟨p, q, t, rfl, hp⟩ : ∃ p q t, o = p ++ q :: t ∧ p.length = k := ⟨o.take k, o[k]'(by omega), o.drop (k + 1), by rw [List.getElem_cons_drop, List.take_append_drop], by rw [List.length_take]; omega⟩
  subst hp
  have h1 : (p ++ q :: t).take (p.length + 1) = p ++ [q] := by rw [List.take_append]; simp [List.take_of_length_le]
  have h2 : (p ++ q :: t).drop (p.length + 1) = t := by rw [List.drop_append]; simp
  have h3 : (p ++ q :: t).take p.length = p := by simp
  have h4 : (p ++ q :: t).drop p.length = q :: t := by simp
  have h5 : (p ++ q :: t)[p.length]'(by simp) = q := by simp
  unfold insO
  rw [h1, h2, h3, h4, h5]
  simp
theorem ordN_at (x : List Int) (i k : Nat) (hk : k < i) : ∃ e : Nat, e < i ∧ (ordN x i)[k]? = some (e : Int) := by
  have h : k < (ordN x i).length := by rw [ordN_len]; exact hk
  have hm := ordN_mem x i _ (List.getElem_mem h)
  refine ⟨((ordN x i)[k]).toNat, by omega, ?_⟩
  rw [List.getElem?_eq_getElem h, show (((ordN x i)[k].toNat : Nat) : Int) = (ordN x i)[k] by omega]
/-- the row in a round of the insertion sort -/
def datO (x : List Int) (n i : Nat) : List Int := ordN x (min i n) ++ restL (min i n) n
theorem datO_len (x : List Int) (n i : Nat) : (datO x n i).length = n := by
  unfold datO
  rw [List.length_append, ordN_len, restL_len]
  omega
theorem datO_start (x : List Int) (n : Nat) : datO x n 1 = restL 0 n := by
  unfold datO
  cases n with
  | zero => rfl
  | succ n =>
    rw [show min 1 (n + 1) = 1 by omega, restL_cons 0 (n + 1) (by omega)]
    rfl
theorem datO_end (x : List Int) (n i : Nat) (h : n ≤ i) : datO x n i = ordN x n := by
  unfold datO
  rw [Nat.min_eq_right h]
  unfold restL
  simp
theorem datO_in (x : List Int) (n i : Nat) (h : i < n) : datO x n i = insO (ordN x i) i i ++ restL (i + 1) n := by
  unfold datO
  rw [Nat.min_eq_left (Nat.le_of_lt h), restL_cons i n h]
  have := insO_end (ordN x i) (restL (i + 1) n) i
  rw [ordN_len] at this
  exact this.symm
theorem datO_next (x : List Int) (n i : Nat) (h : i < n) : datO x n (i + 1) = insO (ordN x i) i (scanO x (ordN x i) (x.getD i 0) i) ++ restL (i + 1) n := by
  unfold datO
  rw [Nat.min_eq_left (by omega)]
  rfl

end Go.Proofs.YtelmokapdkepbaaDoor
end
section
namespace Go.Proofs.YtelmokapdkepbaaDoor
open Go.RowKit Go.G5

def prodTo (x y : List Int) : Nat → Int
  | 0 => 0
  | k + 1 => prodTo x y k + x.getD k 0 * y.getD k 0
theorem mul_bd (p q : Int) (hp : -1000 ≤ p ∧ p ≤ 1000) (hq : -2000 ≤ q ∧ q ≤ 2000) : -2000000 ≤ p * q ∧ p * q ≤ 2000000 := by
  have h1 : (p * q).natAbs ≤ 1000 * 2000 := by
    rw [Int.natAbs_mul]
    exact Nat.mul_le_mul (by omega) (by omega)
  omega
theorem prodTo_bd (x y : List Int) (hl : y.length = x.length) (hx : ∀ k, (hk : k < x.length) → -1000 ≤ x[k] ∧ x[k] ≤ 1000) (hy : ∀ k, (hk : k < y.length) → -2000 ≤ y[k] ∧ y[k] ≤ 2000) : ∀ k, k ≤ x.length → -2000000 * (k : Int) ≤ prodTo x y k ∧ prodTo x y k ≤ 2000000 * (k : Int) := by
  intro k
  induction k with
  | zero => intro _; simp [prodTo]
  | succ k ih =>
    intro hk
    have h1 := ih (by omega)
    have h2 := mul_bd _ _ (hx k (by omega)) (hy k (by omega))
    rw [prodTo, getD_at x k (by omega), getD_at y k (by omega)]
    push_cast
    omega
end Go.Proofs.YtelmokapdkepbaaDoor
end
section
namespace Go.Proofs.YtelmokapdkepbaaDoor
open Go.RowKit Go.G5

def ordL (x : List Int) : List Int := if vecB x then ordN x x.length else []
end Go.Proofs.YtelmokapdkepbaaDoor
end
section
namespace Go.Proofs.YtelmokapdkepbaaDoor
open Go.RowKit Go.G5

def mxX (l x : List Int) : List Int := cornerL l (ordN x x.length)
def maxN (n : Int) (l x : List Int) : Int := if optB n l x then prodTo x (mxX l x) x.length else 0
def maxL (n : Int) (l x : List Int) : List Int := if optB n l x then mxX l x else []
theorem opt_fun {n : Int} {l x : List Int} (h : optB n l x = true) : x.length ≤ 5 ∧ n = (x.length : Int) ∧ l.length = 2 ^ x.length ∧ l.length ≤ 32 ∧ (∀ k, (hk : k < l.length) → -1000 ≤ l[k] ∧ l[k] ≤ 1000) ∧ (∀ y ∈ x, -1000 ≤ y ∧ y ≤ 1000) := by
  unfold optB vecB at h
  simp only [Bool.and_eq_true, decide_eq_true_eq] at h
  obtain ⟨⟨h1, _⟩, ⟨h2, h3⟩, h4⟩ := h
  obtain ⟨N, rfl, hN5, hl2, hl32, hlb⟩ := fun_nat (grOk h1)
  have : x.length = N := by omega
  unfold allIn at h3
  rw [List.all_eq_true] at h3
  exact ⟨h2, h4.symm, by rw [this]; exact hl2, hl32, hlb, fun y hy => inB_true.1 (h3 y hy)⟩
theorem cornerTo_bd (l o : List Int) (hl : l.length = 2 ^ o.length) (hlb : ∀ k, (hk : k < l.length) → -1000 ≤ l[k] ∧ l[k] ≤ 1000) (ho : ∀ x ∈ o, 0 ≤ x ∧ x < o.length) : ∀ k, k ≤ o.length → ∀ y ∈ cornerTo l o k, -2000 ≤ y ∧ y ≤ 2000 := by
  intro k
  induction k with
  | zero =>
    intro _ y hy
    rw [cornerTo] at hy
    have := List.eq_of_mem_replicate hy
    omega
  | succ k ih =>
    intro hk y hy
    rw [cornerTo] at hy
    rcases List.mem_or_eq_of_mem_set hy with hy | hy
    · exact ih (by omega) y hy
    · have hm := ho _ (List.getElem_mem (show k < o.length by omega))
      have hg : o.getD k 0 = o[k] := by rw [List.getD_eq_getElem?_getD, List.getElem?_eq_getElem (by omega)]; rfl
      have hp := prefS_lt o o.length k ho (by omega)
      rw [hg] at hy
      have hse := setBit_lt (prefS o k) o[k].toNat o.length hp (by omega)
      rw [hy]
      exact gainL_bd l _ _ (by omega) (by omega) hlb
theorem mxX_bd {n : Int} {l x : List Int} (h : optB n l x = true) : (mxX l x).length = x.length ∧ ∀ k, (hk : k < (mxX l x).length) → -2000 ≤ (mxX l x)[k] ∧ (mxX l x)[k] ≤ 2000 := by
  obtain ⟨h5, _, hl, _, hlb, _⟩ := opt_fun h
  have ho := ordN_len x x.length
  refine ⟨?_, fun k hk => cornerTo_bd l _ (by rw [ho]; exact hl) hlb (by rw [ho]; exact ordN_mem x x.length) _ (Nat.le_refl _) _ (List.getElem_mem hk)⟩
  unfold mxX cornerL
  rw [cornerTo_len, ho]

def bestL (n : Int) (l x : List Int) : List Int := if optB n l x then ordN x x.length else []
end Go.Proofs.YtelmokapdkepbaaDoor
end
