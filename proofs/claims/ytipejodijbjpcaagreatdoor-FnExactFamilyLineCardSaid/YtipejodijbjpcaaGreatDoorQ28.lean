/- Sets that are added to a kept blocker: what is computed. Traces of families, shattered sets, growth: what is computed. Binomial numbers and the sum of LYM: what is computed. Colourings of families: what is computed. Largest antichains: what is computed. -/
import Derived.Test.YtipejodijbjpcaaGreatDoorQ27
section
namespace Go.Proofs.YtipejodijbjpcaaGreatDoor
open Go.RowKit Go.G5

def addOk (g : Int) (l m : List Int) (s : Int) : Bool := (keptB g l m && isSet g.toNat s) && !has l s
def addEl (t e : Int) : Int := ior t (2 ^ e.toNat)
def addOne (s t : Int) : List Int := if iand s t != 0 then [t] else (elL s).map (addEl t)
def addList (m : List Int) (s : Int) : List Int := m.flatMap (addOne s)
def addN (g : Int) (l m : List Int) (s : Int) : Int := if addOk g l m s then g else 0
def addK (g : Int) (l m : List Int) (s : Int) : List Int := if addOk g l m s then gatherL (l ++ [s]) else []
def addL (g : Int) (l m : List Int) (s : Int) : List Int := if addOk g l m s then minL (gatherL (addList m s)) else []
theorem pow2_bd (e : Int) (h : 0 ≤ e ∧ e < 6) : 0 < (2 : Int) ^ e.toNat ∧ (2 : Int) ^ e.toNat < 64 := by
  rcases (show e = 0 ∨ e = 1 ∨ e = 2 ∨ e = 3 ∨ e = 4 ∨ e = 5 by omega) with rfl | rfl | rfl | rfl | rfl | rfl <;> decide
theorem addEl_bd (t e : Int) (ht : 0 ≤ t ∧ t < 64) (he : 0 ≤ e ∧ e < 6) : 0 ≤ addEl t e ∧ addEl t e < 64 := by
  have := pow2_bd e he
  exact ior_bd t _ 6 ht.1 (by omega) (by omega) (by omega)
theorem addOne_bd (s t : Int) (ht : 0 ≤ t ∧ t < 64) : ∀ x ∈ addOne s t, 0 ≤ x ∧ x < 64 := by
  intro x hx
  unfold addOne at hx
  split at hx
  · rw [List.mem_singleton] at hx; rw [hx]; exact ht
  · obtain ⟨e, he, rfl⟩ := List.mem_map.1 hx
    exact addEl_bd t e ht (elL_bd6 s e he)
theorem addOne_len (s t : Int) : (addOne s t).length ≤ 6 := by
  unfold addOne
  split
  · simp
  · rw [List.length_map]; exact elL_len6 s
theorem addList_bd (m : List Int) (s : Int) (hm : ∀ x ∈ m, 0 ≤ x ∧ x < 64) : ∀ x ∈ addList m s, 0 ≤ x ∧ x < 64 := by
  intro x hx
  unfold addList at hx
  obtain ⟨t, ht, hx⟩ := List.mem_flatMap.1 hx
  exact addOne_bd s t (hm t ht) x hx
theorem addList_len (m : List Int) (s : Int) : (addList m s).length ≤ 6 * m.length := by
  unfold addList
  induction m with
  | nil => simp
  | cons t m ih =>
    rw [List.flatMap_cons, List.length_append, List.length_cons]
    have := addOne_len s t
    omega
theorem addList_take (m : List Int) (s : Int) (k : Nat) (h : k < m.length) : addList (m.take (k + 1)) s = addList (m.take k) s ++ addOne s m[k] := by
  unfold addList
  rw [List.take_succ_eq_append_getElem h, List.flatMap_append, List.flatMap_cons, List.flatMap_nil, List.append_nil]
/-- a strictly ascending list of numbers below n has at most n -/
theorem asc_len_aux : ∀ (l : List Int) (lo n : Int), l.Pairwise (· < ·) → (∀ x ∈ l, lo ≤ x ∧ x < n) → lo ≤ n → (l.length : Int) ≤ n - lo := by
  intro l
  induction l with
  | nil => intro lo n _ _ h; simp; omega
  | cons x l ih =>
    intro lo n hp hb hln
    have hx := hb x (by simp)
    rw [List.pairwise_cons] at hp
    have := ih (x + 1) n hp.2 (fun y hy => ⟨by have := hp.1 y hy; omega, (hb y (by simp [hy])).2⟩) (by omega)
    rw [List.length_cons]
    omega
theorem asc_len (l : List Int) (n : Nat) (hp : l.Pairwise (· < ·)) (hb : ∀ x ∈ l, 0 ≤ x ∧ x < (n : Int)) : l.length ≤ n := by
  have := asc_len_aux l 0 n hp hb (by omega)
  omega
theorem gather64 (l : List Int) (h : ∀ x ∈ l, 0 ≤ x ∧ x < 64) : (∀ x ∈ gatherL l, 0 ≤ x ∧ x < 64) ∧ (gatherL l).length ≤ 64 := by
  have h1 : ∀ x ∈ gatherL l, 0 ≤ x ∧ x < 64 := fun x hx => h x ((gatherL_mem l x).1 hx)
  exact ⟨h1, asc_len _ 64 (gatherL_asc l) (fun x hx => h1 x hx)⟩
theorem addL_len (g : Int) (l m : List Int) (s : Int) (_ : m.length ≤ 1048576) : (addL g l m s).length ≤ 64 := by
  unfold addL
  split
  · rename_i h
    unfold addOk at h
    have hk := (Bool.and_eq_true_iff.1 (Bool.and_eq_true_iff.1 h).1).1
    unfold keptB at hk
    have hmm := of_decide_eq_true (Bool.and_eq_true_iff.1 hk).2
    exact Nat.le_trans (minL_len _) (gather64 _ (addList_bd m s (hmm ▸ blkL_bd g l))).2
  · simp
theorem addK_len (g : Int) (l m : List Int) (s : Int) (_ : l.length ≤ 1048576) : (addK g l m s).length ≤ 1048576 := by
  unfold addK
  split
  · rename_i h
    unfold addOk at h
    have hk := (Bool.and_eq_true_iff.1 (Bool.and_eq_true_iff.1 h).1).1
    obtain ⟨h0, h6, hm, ha⟩ := famOk (keptB_fam hk)
    have := pow_le64 h0 h6
    have hl := asc_len l 64 ha (fun x hx => by have := hm x hx; omega)
    have := gatherL_len (l ++ [s]); simp at this; omega
  · simp
theorem keptB_m {g : Int} {l m : List Int} (h : keptB g l m = true) : isFamB g l = true ∧ (∀ x ∈ m, 0 ≤ x ∧ x < 64) ∧ m.length ≤ 64 := by
  unfold keptB at h
  have hmm := of_decide_eq_true (Bool.and_eq_true_iff.1 h).2
  exact ⟨(Bool.and_eq_true_iff.1 h).1, hmm ▸ blkL_bd g l, hmm ▸ blkL_len g l⟩
end Go.Proofs.YtipejodijbjpcaaGreatDoor
end
section
namespace Go.Proofs.YtipejodijbjpcaaGreatDoor
open Go.RowKit Go.G5

/-- the numbers of traces -/
def trL (l : List Int) (s : Int) : List Int := gatherL (l.map fun t => iand s t)
def shB (l : List Int) (s : Nat) : Bool := (trL l s).length == 2 ^ pop s
def shaL (g : Int) (l : List Int) : List Int := if isFamB g l then chosen (shB l) (2 ^ g.toNat) else []
def mxTr (b : Int) (l : List Int) : Nat → Int
  | 0 => b
  | k + 1 => max (mxTr b l k) (ipop (l.getD k 0))
def dimN (g : Int) (l : List Int) : Int := if isFamB g l then mxTr (-1) (shaL g l) (shaL g l).length else -2
def groTo (l : List Int) (g : Nat) : Nat → List Int
  | 0 => List.replicate (g + 1) 0
  | s + 1 => (groTo l g s).set (pop s) (max ((groTo l g s).getD (pop s) 0) ((trL l s).length : Int))
def groL (g : Int) (l : List Int) : List Int := if isFamB g l then groTo l g.toNat (2 ^ g.toNat) else []
theorem iand_bd64 (s t : Int) (h0 : 0 ≤ s) (h1 : s < 64) : 0 ≤ iand s t ∧ iand s t < 64 := iand_bd s t 64 h0 h1
theorem trL_len (l : List Int) (s : Int) (h0 : 0 ≤ s) (h1 : s < 64) : (trL l s).length ≤ 64 := by
  refine (gather64 _ ?_).2
  intro x hx
  obtain ⟨t, _, rfl⟩ := List.mem_map.1 hx
  exact iand_bd64 s t h0 h1
theorem mxTr_bd (b : Int) (l : List Int) (h : ∀ x ∈ l, x < 64) (hb : -1 ≤ b ∧ b ≤ 8) : ∀ k, -1 ≤ mxTr b l k ∧ mxTr b l k ≤ 8 := by
  intro k
  induction k with
  | zero => exact hb
  | succ k ih =>
    rw [mxTr]
    have h2 : ipop (l.getD k 0) ≤ 8 := by
      have hx : (l.getD k 0).toNat < 256 := by
        rw [List.getD_eq_getElem?_getD]
        cases hk : l[k]? with
        | none => simp
        | some x =>
          have := h x (List.mem_of_getElem? hk)
          simp; omega
      have := pop_le _ hx
      unfold ipop
      omega
    omega
theorem shaL_mem (g : Int) (l : List Int) : ∀ x ∈ shaL g l, 0 ≤ x ∧ x < 64 := by
  unfold shaL
  split
  · rename_i h
    intro x hx
    obtain ⟨h0, h6, _, _⟩ := famOk h
    have h1 := chosen_mem _ _ x hx
    have h2 : (2 : Nat) ^ g.toNat ≤ 2 ^ 6 := Nat.pow_le_pow_right (by decide) (by omega)
    omega
  · intro x hx; simp at hx
theorem dimN_bd (g : Int) (l : List Int) : -2 ≤ dimN g l ∧ dimN g l ≤ 8 := by
  unfold dimN
  split
  · have := mxTr_bd (-1) (shaL g l) (fun x hx => (shaL_mem g l x hx).2) (by omega) (shaL g l).length
    omega
  · omega
theorem groTo_len (l : List Int) (g : Nat) : ∀ s, (groTo l g s).length = g + 1 := by
  intro s
  induction s with
  | zero => simp [groTo]
  | succ s ih => rw [groTo, List.length_set, ih]
theorem groTo_bd (l : List Int) (g : Nat) : ∀ s, s ≤ 64 → ∀ x ∈ groTo l g s, 0 ≤ x ∧ x ≤ 64 := by
  intro s
  induction s with
  | zero => intro _ x hx; have := List.eq_of_mem_replicate hx; omega
  | succ s ih =>
    intro hs x hx
    have ih := ih (by omega)
    have ht := trL_len l (s : Int) (by omega) (by omega)
    rw [groTo] at hx
    rcases List.mem_or_eq_of_mem_set hx with h | h
    · exact ih x h
    · have h0 : 0 ≤ (groTo l g s).getD (pop s) 0 ∧ (groTo l g s).getD (pop s) 0 ≤ 64 := by
        rw [List.getD_eq_getElem?_getD]
        cases hk : (groTo l g s)[pop s]? with
        | none => simp
        | some y => exact ih y (List.mem_of_getElem? hk)
      omega
theorem pop_g : ∀ g : Nat, g < 7 → ∀ s : Nat, s < 2 ^ g → pop s ≤ g := by decide +kernel
theorem put_trace (l : List Int) (s : Int) (k : Nat) (h : k < l.length) : putL (gatherL ((l.take k).map fun t => iand s t)) (iand s l[k]) = gatherL ((l.take (k + 1)).map fun t => iand s t) := by
  rw [putL_gather, List.take_succ_eq_append_getElem h, List.map_append]; rfl
end Go.Proofs.YtipejodijbjpcaaGreatDoor
end
section
namespace Go.Proofs.YtipejodijbjpcaaGreatDoor
open Go.RowKit Go.G5

def binI (n : Nat) : Nat → Nat
  | 0 => 1
  | i + 1 => binI n i * (n - i) / (i + 1)
def binS (n k : Nat) : Nat → Nat
  | 0 => 1
  | i + 1 => binS n k i * (n - k + (i + 1)) / (i + 1)
theorem bin_same : ∀ n : Nat, n < 7 → ∀ k : Nat, k < 7 → k ≤ n → binS n k k = binI n k := by decide +kernel
theorem bin_pos : ∀ n : Nat, n < 7 → ∀ k : Nat, k < 7 → k ≤ n → 0 < binI n k ∧ binI n k ≤ 20 := by decide +kernel
theorem binS_bd : ∀ n : Nat, n < 7 → ∀ k : Nat, k < 7 → k ≤ n → ∀ i : Nat, i < 7 → i ≤ k → binS n k i ≤ 20 := by decide +kernel
theorem pop_g6 : ∀ g : Nat, g < 7 → ∀ s : Nat, s < 2 ^ g → pop s ≤ g := by decide +kernel
def lyTo (g : Nat) (l : List Int) : Nat → Int
  | 0 => 0
  | k + 1 => lyTo g l k + ((60 / binI g (pop (l.getD k 0).toNat) : Nat) : Int)
def lymN (g : Int) (l : List Int) : Int := if isFamB g l then lyTo g.toNat l l.length else -1
theorem lyTo_bd (g : Nat) (l : List Int) : ∀ k, 0 ≤ lyTo g l k ∧ lyTo g l k ≤ 60 * k := by
  intro k
  induction k with
  | zero => simp [lyTo]
  | succ k ih =>
    rw [lyTo]
    have := Nat.div_le_self 60 (binI g (pop (l.getD k 0).toNat))
    obtain ⟨D, hD⟩ : ∃ D, D = 60 / binI g (pop (l.getD k 0).toNat) := ⟨_, rfl⟩
    rw [← hD] at this ⊢
    omega
theorem lymN_bd (g : Int) (l : List Int) : -1 ≤ lymN g l ∧ lymN g l ≤ 3840 := by
  unfold lymN
  split
  · rename_i h
    have h1 := lyTo_bd g.toNat l l.length
    have h2 := fam_len h
    omega
  · omega
end Go.Proofs.YtipejodijbjpcaaGreatDoor
end
section
namespace Go.Proofs.YtipejodijbjpcaaGreatDoor
open Go.RowKit Go.G5

def imbN (s r : Int) : Int := max (ipop (iand s r) - ipop (idif s r)) (-(ipop (iand s r) - ipop (idif s r)))
theorem imb_nat : ∀ s : Nat, s < 64 → ∀ r : Nat, r < 64 → pop (ndiff s r) + pop (s &&& r) = pop s := by decide +kernel
theorem pop_ndiff8 : ∀ s : Nat, s < 64 → pop s ≤ 6 := by decide +kernel
theorem imb_same {s r : Int} (hs : 0 ≤ s ∧ s < 64) (hr : 0 ≤ r ∧ r < 64) : 2 * ipop (iand s r) - ipop s = ipop (iand s r) - ipop (idif s r) := by
  have h := imb_nat s.toNat (by omega) r.toNat (by omega)
  unfold ipop iand idif
  rw [Int.toNat_natCast, Int.toNat_natCast]
  omega
theorem imb_bd {s r : Int} (hs : 0 ≤ s ∧ s < 64) (hr : 0 ≤ r ∧ r < 64) : -6 ≤ ipop (iand s r) - ipop (idif s r) ∧ ipop (iand s r) - ipop (idif s r) ≤ 6 ∧ 0 ≤ ipop (iand s r) ∧ ipop (iand s r) ≤ 6 ∧ 0 ≤ ipop (idif s r) ∧ ipop (idif s r) ≤ 6 ∧ 0 ≤ ipop s ∧ ipop s ≤ 6 := by
  have h := imb_nat s.toNat (by omega) r.toNat (by omega)
  have h2 := pop_ndiff8 s.toNat (by omega)
  unfold ipop iand idif
  rw [Int.toNat_natCast, Int.toNat_natCast]
  omega
def woTo (l : List Int) (r : Int) : Nat → Int
  | 0 => 0
  | k + 1 => max (woTo l r k) (imbN (l.getD k 0) r)
def woN (l : List Int) (r : Int) : Int := woTo l r l.length
/-- best and least below r + 1 -/
def clTo (l : List Int) : Nat → Int × Int
  | 0 => (0, woN l 0)
  | r + 1 => if woN l ((r + 1 : Nat) : Int) < (clTo l r).2 then (((r + 1 : Nat) : Int), woN l ((r + 1 : Nat) : Int)) else clTo l r
def clR (g : Int) (l : List Int) : Int := if isFamB g l then (clTo l (2 ^ g.toNat - 1)).1 else 0
def clN (g : Int) (l : List Int) : Int := if isFamB g l then (clTo l (2 ^ g.toNat - 1)).2 else 0
theorem woTo_bd (l : List Int) (r : Int) (h : ∀ s ∈ l, 0 ≤ s ∧ s < 64) (hr : 0 ≤ r ∧ r < 64) : ∀ k, 0 ≤ woTo l r k ∧ woTo l r k ≤ 6 := by
  intro k
  induction k with
  | zero => simp [woTo]
  | succ k ih =>
    rw [woTo]
    have h2 : 0 ≤ l.getD k 0 ∧ l.getD k 0 < 64 := by
      rw [List.getD_eq_getElem?_getD]
      cases hk : l[k]? with
      | none => simp
      | some x => exact h x (List.mem_of_getElem? hk)
    have := imb_bd h2 hr
    unfold imbN
    omega
theorem clTo_bd (l : List Int) (h : ∀ s ∈ l, 0 ≤ s ∧ s < 64) : ∀ r, r < 64 → (0 ≤ (clTo l r).1 ∧ (clTo l r).1 ≤ r) ∧ 0 ≤ (clTo l r).2 ∧ (clTo l r).2 ≤ 6 := by
  intro r
  induction r with
  | zero => intro _; rw [clTo]; have := woTo_bd l 0 h (by omega) l.length; unfold woN; simp; omega
  | succ r ih =>
    intro hr
    have ih := ih (by omega)
    rw [clTo]
    split
    · have := woTo_bd l ((r + 1 : Nat) : Int) h (by omega) l.length
      unfold woN
      simp only []
      omega
    · omega
theorem clR_bd (g : Int) (l : List Int) : (0 ≤ clR g l ∧ clR g l < 64) ∧ 0 ≤ clN g l ∧ clN g l ≤ 6 := by
  unfold clR clN
  cases hf : isFamB g l with
  | false => simp
  | true =>
    obtain ⟨h0, h6, _, _⟩ := famOk hf
    have hm := fam_mem hf
    have h2 : (2 : Nat) ^ g.toNat ≤ 2 ^ 6 := Nat.pow_le_pow_right (by decide) (by omega)
    have h3 := Nat.two_pow_pos g.toNat
    have := clTo_bd l hm (2 ^ g.toNat - 1) (by omega)
    rw [if_pos rfl, if_pos rfl]
    omega
end Go.Proofs.YtipejodijbjpcaaGreatDoor
end
section
namespace Go.Proofs.YtipejodijbjpcaaGreatDoor
open Go.RowKit Go.G5

def acS (T : List Int → Int → Bool) : List Int → List Int → List Int → List Int
  | [], _, b => b
  | s :: r, c, b => if c.length + (r.length + 1) ≤ b.length then b else if T c s then acS T r c (longer b (acS T r (c ++ [s]) (c ++ [s]))) else acS T r c b
def acV (T : List Int → Int → Bool) : List Int → List Int → List Int → List Int
  | [], _, b => b
  | s :: r, c, b => if c.length + (r.length + 1) ≤ b.length then b else if T c s then acV T r c (acV T r (c ++ [s]) (longer b (c ++ [s]))) else acV T r c b
theorem longer_len (a b : List Int) : (longer a b).length = max a.length b.length := by
  unfold longer
  split <;> omega
theorem acS_len (T : List Int → Int → Bool) : ∀ (r c b : List Int), (acS T r c b).length ≤ max b.length (c.length + r.length)
  | [], c, b => by rw [acS]; omega
  | s :: r, c, b => by
    rw [acS, List.length_cons]
    split
    · omega
    · split
      · have h1 := acS_len T r c (longer b (acS T r (c ++ [s]) (c ++ [s])))
        have h2 := acS_len T r (c ++ [s]) (c ++ [s])
        rw [longer_len] at h1
        rw [List.length_append, List.length_singleton] at h2
        omega
      · have h1 := acS_len T r c b
        omega
theorem longer_yes {a b : List Int} (h : a.length < b.length) : longer a b = b := by unfold longer; rw [if_pos h]
theorem longer_no {a b : List Int} (h : b.length ≤ a.length) : longer a b = a := by unfold longer; rw [if_neg (by omega)]
theorem acV_is (T : List Int → Int → Bool) : ∀ (r c b x : List Int), acV T r c (longer b x) = longer b (acS T r c x)
  | [], _, _, _ => rfl
  | s :: r, c, b, x => by
    rw [acV, acS]
    have hl := longer_len b x
    by_cases h1 : c.length + (r.length + 1) ≤ (longer b x).length
    · rw [if_pos h1]
      by_cases h2 : c.length + (r.length + 1) ≤ x.length
      · rw [if_pos h2]
      · have hb : x.length ≤ b.length := by omega
        have h3 := acS_len T (s :: r) c x
        rw [acS, List.length_cons] at h3
        rw [longer_no hb, longer_no (Nat.le_trans h3 (by omega))]
    · rw [if_neg h1, if_neg (show ¬ c.length + (r.length + 1) ≤ x.length by omega)]
      split
      · rw [acV_is T r (c ++ [s]) (longer b x) (c ++ [s]), longer_assoc, acV_is T r c b]
      · exact acV_is T r c b x
theorem acS_mem (S : List Int) (T : List Int → Int → Bool) : ∀ (r c b : List Int), (∀ x ∈ r, x ∈ S) → (∀ x ∈ c, x ∈ S) → (∀ x ∈ b, x ∈ S) → ∀ x ∈ acS T r c b, x ∈ S
  | [], _, _, _, _, h => h
  | s :: r, c, b, h1, h2, h3 => by
    have h4 : ∀ x ∈ r, x ∈ S := fun x hx => h1 x (List.mem_cons_of_mem _ hx)
    have h5 : ∀ x ∈ c ++ [s], x ∈ S := fun x hx => by
      rcases List.mem_append.1 hx with h | h
      · exact h2 x h
      · rw [List.mem_singleton] at h; subst h; exact h1 x (by simp)
    rw [acS]
    split
    · exact h3
    · split
      · refine acS_mem S T r c _ h4 h2 ?_
        have h6 := acS_mem S T r (c ++ [s]) (c ++ [s]) h4 h5 h5
        unfold longer
        split <;> assumption
      · exact acS_mem S T r c b h4 h2 h3
theorem acV_len (T : List Int → Int → Bool) (r c b : List Int) : (acV T r c b).length ≤ max b.length (c.length + r.length) := by
  have h := acV_is T r c b []
  rw [longer_no (show ([] : List Int).length ≤ b.length by simp)] at h
  rw [h, longer_len]
  have h2 := acS_len T r c []
  simp at h2
  omega
/-- what the first program asks of a set that is to join a list -/
def acI (l : List Int) (s : Int) : Bool := allTo (fun j => apartB s (l.getD j 0)) l.length
theorem minTo_full (l : List Int) : ∀ k, (minTo l k).length = k ↔ ∀ i, i < k → fineB l i = true := by
  intro k
  induction k with
  | zero => simp [minTo]
  | succ k ih =>
    have hle := minTo_le l k
    rw [minTo]
    cases hf : fineB l k with
    | true =>
      rw [if_pos rfl, List.length_append, List.length_singleton]
      constructor
      · intro h i hi
        by_cases e : i = k
        · rw [e]; exact hf
        · exact ih.1 (by omega) i (by omega)
      · intro h
        rw [ih.2 (fun i hi => h i (by omega))]
    | false =>
      rw [if_neg (by simp)]
      constructor
      · intro h; omega
      · intro h; have := h k (by omega); rw [hf] at this; cases this
theorem freeS_iff (l : List Int) : freeS l = true ↔ ∀ i, i < l.length → ∀ k, k < l.length → k ≠ i → iand (l.getD k 0) (l.getD i 0) ≠ l.getD k 0 := by
  unfold freeS
  rw [beq_iff_eq, minTo_full]
  unfold fineB
  simp only [allTo_iff, Bool.or_eq_true, beq_iff_eq, bne_iff_ne, ne_eq]
  constructor
  · intro h i hi k hk hne
    rcases h i hi k hk with e | e
    · exact absurd e hne
    · exact e
  · intro h i hi k hk
    by_cases e : k = i
    · exact .inl e
    · exact .inr (h i hi k hk e)
theorem free_nil : freeS [] = true := rfl
theorem getD_appA (l : List Int) (s : Int) (i : Nat) (h : i < l.length) : (l ++ [s]).getD i 0 = l.getD i 0 := by
  rw [List.getD_eq_getElem?_getD, List.getD_eq_getElem?_getD, List.getElem?_append_left h]
theorem getD_lastA (l : List Int) (s : Int) : (l ++ [s]).getD l.length 0 = s := by
  rw [List.getD_eq_getElem?_getD, List.getElem?_append_right (Nat.le_refl _)]; simp
theorem idif_ne {a b : Int} (h0 : 0 ≤ a) : idif a b ≠ 0 ↔ iand a b ≠ a := by
  rw [← idif_sub h0]
  constructor <;> intro h <;> omega
theorem ac_test (l : List Int) (s : Int) (hl : freeS l = true) (hm : ∀ x ∈ l, 0 ≤ x) (hs : 0 ≤ s) : acI l s = freeS (l ++ [s]) := by
  rw [Bool.eq_iff_iff, freeS_iff]
  unfold acI apartB
  simp only [allTo_iff, Bool.and_eq_true, bne_iff_ne]
  have hp : ∀ j, j < l.length → 0 ≤ l.getD j 0 := fun j hj => by
    rw [List.getD_eq_getElem?_getD, List.getElem?_eq_getElem hj]
    exact hm _ (List.getElem_mem hj)
  rw [freeS_iff] at hl
  constructor
  · intro h i hi k hk hne
    rw [List.length_append, List.length_singleton] at hi hk
    by_cases e1 : i = l.length
    · have hk2 : k < l.length := by omega
      rw [e1, getD_lastA, getD_appA l s k hk2]
      exact (idif_ne (hp k hk2)).1 (h k hk2).2
    · have hi2 : i < l.length := by omega
      rw [getD_appA l s i hi2]
      by_cases e2 : k = l.length
      · rw [e2, getD_lastA]
        exact (idif_ne hs).1 (h i hi2).1
      · have hk2 : k < l.length := by omega
        rw [getD_appA l s k hk2]
        exact hl i hi2 k hk2 hne
  · intro h j hj
    have h1 := h l.length (by simp) j (by simp; omega) (by omega)
    have h2 := h j (by simp; omega) l.length (by simp) (by omega)
    rw [getD_lastA, getD_appA l s j hj] at h1 h2
    exact ⟨(idif_ne hs).2 h2, (idif_ne (hp j hj)).2 h1⟩
theorem ac_same : ∀ (r c b : List Int), freeS c = true → (∀ x ∈ c, 0 ≤ x) → (∀ x ∈ r, 0 ≤ x) → acS (fun l s => freeS (l ++ [s])) r c b = acS acI r c b
  | [], _, _, _, _, _ => rfl
  | s :: r, c, b, hc, hcm, hm => by
    have h1 : ∀ x ∈ r, 0 ≤ x := fun x hx => hm x (List.mem_cons_of_mem _ hx)
    have h2 := hm s (by simp)
    have ht := ac_test c s hc hcm h2
    rw [acS, acS, ← ht, ac_same r c b hc hcm h1]
    cases hT : acI c s with
    | false => rfl
    | true =>
      rw [ac_same r (c ++ [s]) (c ++ [s]) (ht ▸ hT) (fun x hx => by
        rcases List.mem_append.1 hx with h | h
        · exact hcm x h
        · rw [List.mem_singleton] at h; omega) h1, ac_same r c _ hc hcm h1]
def laB (g : Int) (l : List Int) : Bool := isFamB g l && decide (l.length ≤ 12)
def laL (g : Int) (l : List Int) : List Int := if laB g l then acS acI l [] [] else []
theorem laL_len (g : Int) (l : List Int) : (laL g l).length ≤ 12 := by
  unfold laL
  split
  · rename_i h
    unfold laB at h
    rw [Bool.and_eq_true, decide_eq_true_eq] at h
    have := acS_len acI l [] []
    simp at this
    omega
  · simp
def laN (g : Int) (l : List Int) : Int := if laB g l then g else 0
theorem laB_no {g : Int} {l : List Int} (h : laB g l = false) : laN g l = 0 ∧ laL g l = [] := by unfold laN laL; rw [h]; exact ⟨rfl, rfl⟩
theorem laB_yes {g : Int} {l : List Int} (h : laB g l = true) : laN g l = g ∧ laL g l = acS acI l [] [] := by unfold laN laL; rw [h]; exact ⟨rfl, rfl⟩
theorem acV_top (l : List Int) : acV acI l [] [] = acS acI l [] [] := by
  have h := acV_is acI l [] [] []
  have e : longer [] [] = ([] : List Int) := rfl
  rw [e] at h
  rw [h]
  unfold longer
  split
  · rfl
  · rename_i hn
    have h0 : (acS acI l [] []).length = 0 := by simpa using hn
    exact (List.eq_nil_of_length_eq_zero h0).symm
end Go.Proofs.YtipejodijbjpcaaGreatDoor
end
