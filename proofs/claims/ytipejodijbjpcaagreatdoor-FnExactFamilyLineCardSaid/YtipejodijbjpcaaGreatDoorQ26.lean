/- The smallest transversal: both programs. Greedy covers, in plain words. Greedy covers. Prices. Smallest covers, in plain words. -/
import Derived.Test.YtipejodijbjpcaaGreatDoorQ25
import Derived.StillTailTactics
import Derived.IntWalk
section
namespace Go.Proofs.YtipejodijbjpcaaGreatDoor
open Go.RowKit Go.G5

/-- the first of the smallest sets of a list, from best on -/
def lessL : List Int → Int → Int
  | [], b => b
  | s :: r, b => lessL r (if pop s.toNat < pop b.toNat then s else b)
def tnOk (g : Int) (l : List Int) : Bool := isFamB g l && !((blkL g l).length == 0)
def tnS (g : Int) (l : List Int) : Int := if tnOk g l then lessL (blkL g l) ((blkL g l).getD 0 0) else 0
def tnN (g : Int) (l : List Int) : Int := if tnOk g l then ((pop (tnS g l).toNat : Nat) : Int) else 0
theorem lessL_mem (S : List Int) : ∀ (r : List Int) (b : Int), (∀ x ∈ r, x ∈ S) → b ∈ S → lessL r b ∈ S
  | [], _, _, h => h
  | s :: r, b, h1, h2 => by
    rw [lessL]
    refine lessL_mem S r _ (fun x hx => h1 x (List.mem_cons_of_mem _ hx)) ?_
    split
    · exact h1 s (by simp)
    · exact h2
theorem lessL_at (l : List Int) (j : Nat) (h : j < l.length) (b : Int) : lessL (l.drop j) b = lessL (l.drop (j + 1)) (if pop (l[j]).toNat < pop b.toNat then l[j] else b) := by
  rw [List.drop_eq_getElem_cons h, lessL]
theorem lessL_first (l : List Int) (h : 0 < l.length) : lessL (l.drop 1) l[0] = lessL l l[0] := by
  have := lessL_at l 0 h l[0]
  rw [List.drop_zero] at this
  rw [this]
  simp
theorem tnS_bd (g : Int) (l : List Int) : 0 ≤ tnS g l ∧ tnS g l < 64 := by
  unfold tnS
  split
  · rename_i h
    unfold tnOk at h
    simp only [Bool.and_eq_true, Bool.not_eq_true', beq_eq_false_iff_ne] at h
    have hl : 0 < (blkL g l).length := by have := h.2; omega
    refine blkL_bd g l _ (lessL_mem (blkL g l) _ _ (fun x hx => hx) ?_)
    rw [List.getD_eq_getElem?_getD, List.getElem?_eq_getElem hl]
    simp
  · omega
theorem tnN_bd (g : Int) (l : List Int) : 0 ≤ tnN g l ∧ tnN g l ≤ 8 := by
  unfold tnN
  have h := tnS_bd g l
  split
  · have := pop_le (tnS g l).toNat (by omega)
    omega
  · omega
theorem size_i (x : Int) (w : World) (h0 : 0 ≤ x) (h1 : x < 64) : Calls Tryz.prog 170 #[.int .i64 x] w fun e w' => e = .returned (.int .i64 ((pop x.toNat : Nat) : Int)) ∧ w = w' := by
  obtain ⟨n, rfl⟩ := Int.eq_ofNat_of_zero_le h0
  exact sizeOf_any n w (by omega)
theorem size_s (x : Int) (w : World) (h0 : 0 ≤ x) (h1 : x < 64) : Calls Tryz.prog 173 #[.int .i64 x] w fun e w' => e = .returned (.int .i64 ((pop x.toNat : Nat) : Int)) ∧ w = w' := by
  obtain ⟨n, rfl⟩ := Int.eq_ofNat_of_zero_le h0
  exact l2Size_any n w (by omega)
end Go.Proofs.YtipejodijbjpcaaGreatDoor
end
section
namespace Go.Proofs.YtipejodijbjpcaaGreatDoor
open Go.RowKit Go.G5

def betterF (left : Int) (b s : Int) : Int := if ipop (iand b left) < ipop (iand s left) then s else b
def bestOf (l : List Int) (left : Int) : Int := l.foldl (betterF left) 0
def greedyRun (l : List Int) : Nat → Int → Option (List Int)
  | 0, left => if left = 0 then some [] else none
  | n + 1, left => if left = 0 then some [] else if iand (bestOf l left) left = 0 then none else (greedyRun l n (idif left (bestOf l left))).map (bestOf l left :: ·)
def greedyOf (g : Int) (l : List Int) : Option (List Int) := if isFamB g l then greedyRun l 64 (2 ^ g.toNat - 1) else none
def greedyL (g : Int) (l : List Int) : List Int := (greedyOf g l).getD []
def greedyB (g : Int) (l : List Int) : Bool := (greedyOf g l).isSome

theorem best_mem (left : Int) (l : List Int) : ∀ z, l.foldl (betterF left) z = z ∨ l.foldl (betterF left) z ∈ l := by
  induction l with
  | nil => intro z; exact .inl rfl
  | cons a l ih =>
    intro z
    simp only [List.foldl_cons]
    rcases ih (betterF left z a) with h | h
    · rw [h]; unfold betterF; split
      · right; simp
      · left; rfl
    · right; simp [h]
theorem best_max (left : Int) (l : List Int) : ∀ z, ipop (iand z left) ≤ ipop (iand (l.foldl (betterF left) z) left) ∧ ∀ s ∈ l, ipop (iand s left) ≤ ipop (iand (l.foldl (betterF left) z) left) := by
  induction l with
  | nil => intro z; exact ⟨Int.le_refl _, by simp⟩
  | cons a l ih =>
    intro z
    simp only [List.foldl_cons]
    obtain ⟨h1, h2⟩ := ih (betterF left z a)
    have h3 : ipop (iand z left) ≤ ipop (iand (betterF left z a) left) ∧ ipop (iand a left) ≤ ipop (iand (betterF left z a) left) := by
      unfold betterF; split <;> omega
    refine ⟨by omega, fun s hs => ?_⟩
    rcases List.mem_cons.1 hs with rfl | hs
    · omega
    · exact h2 s hs
theorem best_bd (l : List Int) (left : Int) (h : ∀ s ∈ l, 0 ≤ s ∧ s < 64) : 0 ≤ bestOf l left ∧ bestOf l left < 64 := by
  rcases best_mem left l 0 with h1 | h1
  · unfold bestOf; rw [h1]; omega
  · exact h _ h1

theorem pop_pos : ∀ n, n < 64 → 0 < n → 0 < pop n := by decide +kernel
theorem ipop_zero {a : Int} (h0 : 0 ≤ a) (h1 : a < 64) (h : ipop a ≤ 0) : a = 0 := by
  by_cases hz : a = 0
  · exact hz
  · have := pop_pos a.toNat (by omega) (by omega)
    unfold ipop at h; omega
theorem union_and (c : Nat) (l : List Int) (h : ∀ s ∈ l, s.toNat &&& c = 0) : ∀ z : Int, z.toNat &&& c = 0 → (l.foldl ior z).toNat &&& c = 0 := by
  induction l with
  | nil => intro z hz; exact hz
  | cons a l ih =>
    intro z hz
    simp only [List.foldl_cons]
    refine ih (fun s hs => h s (by simp [hs])) _ ?_
    have ha := h a (by simp)
    unfold ior
    rw [Int.toNat_natCast, Nat.and_or_distrib_right, hz, ha]; rfl
/-- where the sets have all elements, one has an element that is left -/
theorem some_meets (g : Nat) (l : List Int) (cur : Int) (h0 : 0 < cur) (h1 : cur < 2 ^ g) (hu : unionL l = 2 ^ g - 1) : ∃ s ∈ l, iand s cur ≠ 0 := by
  refine Classical.byContradiction fun hno => ?_
  have hall : ∀ s ∈ l, s.toNat &&& cur.toNat = 0 := fun s hs => by
    refine Classical.byContradiction fun hne => hno ⟨s, hs, ?_⟩
    unfold iand; omega
  have hz := union_and cur.toNat l hall 0 (by simp)
  have hu' : (l.foldl ior 0) = 2 ^ g - 1 := hu
  have hpow : ((2 : Int) ^ g - 1).toNat = 2 ^ g - 1 := by
    have : ((2 : Int) ^ g) = ((2 ^ g : Nat) : Int) := by push_cast; rfl
    rw [this]; omega
  rw [hu', hpow, Nat.and_comm, Nat.and_two_pow_sub_one_eq_mod] at hz
  have hlt : cur.toNat < 2 ^ g := by
    have : ((2 : Int) ^ g) = ((2 ^ g : Nat) : Int) := by push_cast; rfl
    omega
  rw [Nat.mod_eq_of_lt hlt] at hz
  omega
theorem best_meets (g : Nat) (l : List Int) (cur : Int) (hl : ∀ s ∈ l, 0 ≤ s ∧ s < 64) (h0 : 0 < cur) (h1 : cur < 2 ^ g) (hu : unionL l = 2 ^ g - 1) : iand (bestOf l cur) cur ≠ 0 := by
  obtain ⟨s, hs, hne⟩ := some_meets g l cur h0 h1 hu
  have hm := (best_max cur l 0).2 s hs
  intro hz
  have hb : ipop (iand (bestOf l cur) cur) = 0 := by rw [hz]; decide
  have hsb := hl s hs
  have hib := iand_bd s cur 64 hsb.1 hsb.2
  exact hne (ipop_zero hib.1 hib.2 (by unfold bestOf at hb; omega))
theorem idif_lt {a b : Int} (h0 : 0 ≤ a) (hne : iand b a ≠ 0) : idif a b < a := by
  unfold iand at hne
  unfold idif ndiff
  have hc : a.toNat &&& b.toNat = b.toNat &&& a.toNat := Nat.and_comm _ _
  have := @Nat.and_le_left a.toNat b.toNat
  omega
/-- enough rounds are enough -/
theorem greedy_fuel (l : List Int) : ∀ (n m : Nat) (cur : Int), 0 ≤ cur → cur ≤ n → n ≤ m → greedyRun l n cur = greedyRun l m cur := by
  intro n
  induction n with
  | zero =>
    intro m cur h0 h1 _
    have : cur = 0 := by omega
    subst this
    cases m <;> simp [greedyRun]
  | succ n ih =>
    intro m cur h0 h1 hm
    obtain ⟨m, rfl⟩ : ∃ k, m = k + 1 := ⟨m - 1, by omega⟩
    simp only [greedyRun]
    split
    · rfl
    · split
      · rfl
      · rename_i hne
        have hlt := idif_lt h0 hne
        have hge : 0 ≤ idif cur (bestOf l cur) := by unfold idif; omega
        rw [ih m _ hge (by omega) (by omega)]
/-- what greed covers the sets have -/
theorem or_ndiff : ∀ a, a < 64 → ∀ b, b < 64 → ndiff a b ||| b = a ||| b := by decide +kernel
theorem union_has (l : List Int) (h : ∀ s ∈ l, 0 ≤ s) : ∀ (z : Int), (∀ s ∈ l, s.toNat ||| (l.foldl ior z).toNat = (l.foldl ior z).toNat) ∧ z.toNat ||| (l.foldl ior z).toNat = (l.foldl ior z).toNat := by
  induction l with
  | nil => intro z; exact ⟨by simp, by simp⟩
  | cons a l ih =>
    intro z
    simp only [List.foldl_cons]
    obtain ⟨h1, h2⟩ := ih (fun s hs => h s (by simp [hs])) (ior z a)
    generalize (l.foldl ior (ior z a)).toNat = U at *
    have hz : (ior z a).toNat = z.toNat ||| a.toNat := by unfold ior; rw [Int.toNat_natCast]
    rw [hz] at h2
    refine ⟨fun s hs => ?_, ?_⟩
    · rcases List.mem_cons.1 hs with rfl | hs
      · calc s.toNat ||| U = s.toNat ||| (z.toNat ||| s.toNat ||| U) := by rw [h2]
          _ = z.toNat ||| s.toNat ||| U := by rw [← Nat.or_assoc, ← Nat.or_assoc, Nat.or_comm s.toNat z.toNat, Nat.or_assoc z.toNat, Nat.or_self]
          _ = U := h2
      · exact h1 s hs
    · calc z.toNat ||| U = z.toNat ||| (z.toNat ||| a.toNat ||| U) := by rw [h2]
        _ = z.toNat ||| a.toNat ||| U := by rw [← Nat.or_assoc, ← Nat.or_assoc, Nat.or_self]
        _ = U := h2
theorem greedy_in (l : List Int) (hl : ∀ s ∈ l, 0 ≤ s ∧ s < 64) : ∀ n (cur : Int) L, 0 ≤ cur → cur < 64 → greedyRun l n cur = some L → cur.toNat ||| (unionL l).toNat = (unionL l).toNat := by
  intro n
  induction n with
  | zero =>
    intro cur L h0 h1 h
    simp only [greedyRun] at h
    split at h
    · rename_i hz; subst hz; simp
    · cases h
  | succ n ih =>
    intro cur L h0 h1 h
    simp only [greedyRun] at h
    split at h
    · rename_i hz; subst hz; simp
    · split at h
      · cases h
      · rename_i hne
        cases hr : greedyRun l n (idif cur (bestOf l cur)) with
        | none => rw [hr] at h; cases h
        | some L' =>
          have hb := best_bd l cur hl
          have hd := idif_bd cur (bestOf l cur) 64 h0 h1
          have hi := ih _ _ hd.1 hd.2 hr
          have hmem : bestOf l cur ∈ l := by
            rcases best_mem cur l 0 with h1 | h1
            · exfalso
              apply hne
              have : bestOf l cur = 0 := h1
              rw [this]; unfold iand; simp
            · exact h1
          have hbU := (union_has l (fun s hs => (hl s hs).1) 0).1 _ hmem
          have ho := or_ndiff cur.toNat (by omega) (bestOf l cur).toNat (by omega)
          have e : (idif cur (bestOf l cur)).toNat = ndiff cur.toNat (bestOf l cur).toNat := by unfold idif; rw [Int.toNat_natCast]
          rw [e] at hi
          have hU : (unionL l).toNat = (l.foldl ior 0).toNat := rfl
          rw [← hU] at hbU
          generalize (unionL l).toNat = U at *
          calc cur.toNat ||| U = cur.toNat ||| ((bestOf l cur).toNat ||| U) := by rw [hbU]
            _ = (cur.toNat ||| (bestOf l cur).toNat) ||| U := by rw [Nat.or_assoc]
            _ = (ndiff cur.toNat (bestOf l cur).toNat ||| (bestOf l cur).toNat) ||| U := by rw [ho]
            _ = ndiff cur.toNat (bestOf l cur).toNat ||| ((bestOf l cur).toNat ||| U) := by rw [Nat.or_assoc]
            _ = U := by rw [hbU, hi]
theorem greedy_none {g : Int} {l : List Int} (hf : isFamB g l = true) (hu : unionL l ≠ 2 ^ g.toNat - 1) : greedyOf g l = none := by
  unfold greedyOf
  rw [if_pos hf]
  obtain ⟨h0, h6, hs, _⟩ := famOk hf
  have hm := fam_mem hf
  have hp := pow_le64 h0 h6
  have hp1 := (two_pow g.toNat 6 (by omega)).2
  cases hr : greedyRun l 64 (2 ^ g.toNat - 1) with
  | none => rfl
  | some L =>
    exfalso
    apply hu
    have h1 := greedy_in l hm 64 _ L (by omega) (by omega) hr
    have h2 := union_bd g.toNat l hs 0 (by omega) (by omega)
    have h3 := @Nat.left_le_or ((2 : Int) ^ g.toNat - 1).toNat (unionL l).toNat
    have h4 : unionL l = l.foldl ior 0 := rfl
    rw [h4] at h1 h3 ⊢
    omega
end Go.Proofs.YtipejodijbjpcaaGreatDoor
end
section
namespace Go.Proofs.YtipejodijbjpcaaGreatDoor
open Go.RowKit Go.G5

theorem idif_sub {a b : Int} (h0 : 0 ≤ a) : a - iand a b = idif a b := by
  have := @Nat.and_le_left a.toNat b.toNat
  unfold iand idif ndiff; omega
theorem iand_comm (a b : Int) : iand a b = iand b a := by unfold iand; rw [Nat.and_comm]

theorem run_len (l : List Int) : ∀ n cur L, greedyRun l n cur = some L → L.length ≤ n := by
  intro n
  induction n with
  | zero =>
    intro cur L h
    simp only [greedyRun] at h
    split at h
    · simp at h; subst h; simp
    · cases h
  | succ n ih =>
    intro cur L h
    simp only [greedyRun] at h
    split at h
    · simp at h; subst h; simp
    · split at h
      · cases h
      · cases hr : greedyRun l n (idif cur (bestOf l cur)) with
        | none => rw [hr] at h; cases h
        | some L' =>
          rw [hr] at h
          simp at h
          subst h
          have := ih _ _ hr
          simp; omega
theorem greedyL_len (g : Int) (l : List Int) : (greedyL g l).length ≤ 1048576 := by
  unfold greedyL
  cases h : greedyOf g l with
  | none => simp
  | some L =>
    unfold greedyOf at h
    split at h
    · have := run_len l 64 _ L h; simp; omega
    · cases h
end Go.Proofs.YtipejodijbjpcaaGreatDoor
end
section
namespace Go.Proofs.YtipejodijbjpcaaGreatDoor
open Go.RowKit Go.G5

/-- the elements of x below the k-th get the price p -/
def prS (o x : List Int) (p : Int) : Nat → List Int
  | 0 => o
  | k + 1 => (prS o x p k).set (x.getD k 0).toNat p
def prTo (g : Nat) (L : List Int) : Nat → List Int × Int
  | 0 => (List.replicate g 0, 2 ^ g - 1)
  | j + 1 => (prS (prTo g L j).1 (elL (iand (L.getD j 0) (prTo g L j).2)) (60 / ipop (iand (L.getD j 0) (prTo g L j).2)) (elL (iand (L.getD j 0) (prTo g L j).2)).length, idif (prTo g L j).2 (L.getD j 0))
def pricesL (g : Int) (l : List Int) : List Int := if greedyB g l then (prTo g.toNat (greedyL g l) (greedyL g l).length).1 else []
theorem prS_len (o x : List Int) (p : Int) (k : Nat) : (prS o x p k).length = o.length := by
  induction k with
  | zero => rfl
  | succ k ih => rw [prS, List.length_set, ih]
theorem prTo_len (g : Nat) (L : List Int) (j : Nat) : (prTo g L j).1.length = g := by
  induction j with
  | zero => simp [prTo]
  | succ j ih => rw [prTo]; simp only; rw [prS_len, ih]
theorem prTo_left (g : Nat) (hg : g ≤ 6) (L : List Int) (j : Nat) : 0 ≤ (prTo g L j).2 ∧ (prTo g L j).2 < 2 ^ g := by
  have hp := two_pow g 6 hg
  induction j with
  | zero => simp only [prTo]; omega
  | succ j ih => rw [prTo]; exact idif_bd _ _ _ ih.1 ih.2
theorem pricesL_len (g : Int) (l : List Int) : (pricesL g l).length ≤ 1048576 := by
  unfold pricesL
  split
  · rename_i h
    rw [prTo_len]
    unfold greedyB greedyOf at h
    split at h
    · rename_i hf
      obtain ⟨h0, h6, _⟩ := famOk hf
      omega
    · simp at h
  · simp
theorem greedyRun_mem (l : List Int) (hl : ∀ s ∈ l, 0 ≤ s ∧ s < 64) : ∀ n cur L, greedyRun l n cur = some L → ∀ s ∈ L, 0 ≤ s ∧ s < 64 := by
  intro n
  induction n with
  | zero =>
    intro cur L h
    simp only [greedyRun] at h
    split at h
    · cases h; simp
    · cases h
  | succ n ih =>
    intro cur L h
    simp only [greedyRun] at h
    split at h
    · cases h; simp
    · split at h
      · cases h
      · cases hr : greedyRun l n (idif cur (bestOf l cur)) with
        | none => rw [hr] at h; cases h
        | some L' =>
          rw [hr] at h
          cases h
          intro s hs
          rcases List.mem_cons.1 hs with rfl | hs
          · exact best_bd l cur hl
          · exact ih _ _ hr s hs
theorem greedyL_mem (g : Int) (l : List Int) : ∀ s ∈ greedyL g l, 0 ≤ s ∧ s < 64 := by
  unfold greedyL greedyOf
  split
  · rename_i hf
    cases hr : greedyRun l 64 (2 ^ g.toNat - 1) with
    | none => simp
    | some L => exact greedyRun_mem l (fam_mem hf) _ _ _ hr
  · simp
theorem greedyB_fam {g : Int} {l : List Int} (h : greedyB g l = true) : isFamB g l = true := by
  unfold greedyB greedyOf at h
  split at h
  · rename_i hf; exact hf
  · simp at h
theorem greedyL_64 (g : Int) (l : List Int) : (greedyL g l).length ≤ 64 := by
  unfold greedyL greedyOf
  split
  · cases hr : greedyRun l 64 (2 ^ g.toNat - 1) with
    | none => simp
    | some L => exact run_len l _ _ _ hr
  · simp
theorem ipop_elem (s : Int) (h : s < 64) (k : Nat) (hk : k < (elL s).length) : 1 ≤ ipop s ∧ ipop s ≤ 8 := by
  have := elL_pop s h
  have := ipop_bd s (by omega)
  omega

theorem isub_is2 {a b : Int} (h0 : 0 ≤ a) : a - iand a b = idif a b := by
  have := @Nat.and_le_left a.toNat b.toNat
  unfold iand idif ndiff; omega

end Go.Proofs.YtipejodijbjpcaaGreatDoor
end
section
namespace Go.Proofs.YtipejodijbjpcaaGreatDoor
open Go.RowKit Go.G5

/-- at most k sets of the list, in its order, that have what is left -/
def covI : List Int → Nat → Int → Option (List Int)
  | [], _, left => if left = 0 then some [] else none
  | _ :: _, 0, left => if left = 0 then some [] else none
  | s :: t, k + 1, left => if left = 0 then some [] else
      match covI t k (idif left s) with
      | some x => some (s :: x)
      | none => covI t (k + 1) left
/-- the same, where a set that adds nothing is passed by -/
def covS : List Int → Nat → Int → Option (List Int)
  | [], _, left => if left = 0 then some [] else none
  | _ :: _, 0, left => if left = 0 then some [] else none
  | s :: t, k + 1, left => if left = 0 then some [] else
      if iand s left = 0 then covS t (k + 1) left else
      match covS t k (idif left s) with
      | some x => some (s :: x)
      | none => covS t (k + 1) left
theorem covI_done (l : List Int) (k : Nat) : covI l k 0 = some [] := by cases l <;> cases k <;> simp [covI]
theorem covS_done (l : List Int) (k : Nat) : covS l k 0 = some [] := by cases l <;> cases k <;> simp [covS]
theorem covI_zero (l : List Int) (left : Int) (h : left ≠ 0) : covI l 0 left = none := by cases l <;> simp [covI, h]
theorem covS_zero (l : List Int) (left : Int) (h : left ≠ 0) : covS l 0 left = none := by cases l <;> simp [covS, h]
theorem covI_nil (k : Nat) (left : Int) (h : left ≠ 0) : covI [] k left = none := by cases k <;> simp [covI, h]
theorem covS_nil (k : Nat) (left : Int) (h : left ≠ 0) : covS [] k left = none := by cases k <;> simp [covS, h]
theorem idif_same {a b : Int} (h0 : 0 ≤ a) (h : iand b a = 0) : idif a b = a := by
  unfold iand at h
  unfold idif ndiff
  have hc : a.toNat &&& b.toNat = b.toNat &&& a.toNat := Nat.and_comm _ _
  omega
theorem idif_ge (a b : Int) : 0 ≤ idif a b := by unfold idif; omega

/-- where k sets are too few, one more found by either way is the same -/
theorem cov_next : ∀ (t : List Int) (k : Nat) (left : Int), 0 ≤ left → covI t k left = none → covI t (k + 1) left = covS t (k + 1) left ∧ covS t k left = none := by
  intro t
  induction t with
  | nil =>
    intro k left h0 h
    by_cases hz : left = 0
    · subst hz; rw [covI_done] at h; cases h
    · exact ⟨by rw [covI_nil _ _ hz, covS_nil _ _ hz], covS_nil _ _ hz⟩
  | cons s t ih =>
    intro k left h0 h
    by_cases hz : left = 0
    · subst hz; rw [covI_done] at h; cases h
    have hd := idif_ge left s
    cases k with
    | zero =>
      have h1 := ih 0 left h0 (covI_zero t left hz)
      refine ⟨?_, covS_zero _ _ hz⟩
      simp only [covI, covS, if_neg hz]
      by_cases ha : iand s left = 0
      · rw [if_pos ha, idif_same h0 ha, covI_zero t left hz]
        exact h1.1
      · rw [if_neg ha]
        have e : covI t 0 (idif left s) = covS t 0 (idif left s) := by
          by_cases hy : idif left s = 0
          · rw [hy, covI_done, covS_done]
          · rw [covI_zero _ _ hy, covS_zero _ _ hy]
        rw [e, h1.1]
    | succ k =>
      simp only [covI, if_neg hz] at h
      cases h2 : covI t k (idif left s) with
      | some x => rw [h2] at h; cases h
      | none =>
        rw [h2] at h
        simp only at h
        have h3 := ih k (idif left s) hd h2
        have h4 := ih (k + 1) left h0 h
        constructor
        · simp only [covI, covS, if_neg hz]
          by_cases ha : iand s left = 0
          · rw [if_pos ha, idif_same h0 ha, h]
            exact h4.1
          · rw [if_neg ha, h3.1, h4.1]
        · simp only [covS, if_neg hz]
          rw [h3.2, h4.2]
          split <;> rfl

/-- the first of the numbers from k on at which something is found -/
def firstK (f : Nat → Option (List Int)) : Nat → Nat → Option (List Int)
  | _, 0 => none
  | k, n + 1 => match f k with
    | some x => some x
    | none => firstK f (k + 1) n
theorem firstK_eq (t : List Int) (left : Int) (h0 : 0 ≤ left) : ∀ n k, covI t k left = covS t k left → firstK (fun k => covI t k left) k n = firstK (fun k => covS t k left) k n := by
  intro n
  induction n with
  | zero => intro k _; rfl
  | succ n ih =>
    intro k h
    simp only [firstK]
    rw [← h]
    cases hk : covI t k left with
    | some x => rfl
    | none => exact ih (k + 1) (cov_next t k left h0 hk).1
theorem first_eq (t : List Int) (left : Int) (h0 : 0 ≤ left) (n : Nat) : firstK (fun k => covI t k left) 0 n = firstK (fun k => covS t k left) 0 n := by
  refine firstK_eq t left h0 n 0 ?_
  by_cases hz : left = 0
  · subst hz; rw [covI_done, covS_done]
  · rw [covI_zero _ _ hz, covS_zero _ _ hz]

/-- all that is left lies in the sets' union -/
def subI (a b : Int) : Prop := a.toNat ||| b.toNat = b.toNat
theorem subI_step {a b u : Int} (ha : 0 ≤ a ∧ a < 64) (hb : 0 ≤ b ∧ b < 64) (h1 : subI (idif a b) u) (h2 : subI b u) : subI a u := by
  unfold subI at *
  have ho := or_ndiff a.toNat (by omega) b.toNat (by omega)
  have e : (idif a b).toNat = ndiff a.toNat b.toNat := by unfold idif; rw [Int.toNat_natCast]
  rw [e] at h1
  generalize u.toNat = U at *
  calc a.toNat ||| U = a.toNat ||| (b.toNat ||| U) := by rw [h2]
    _ = (a.toNat ||| b.toNat) ||| U := by rw [Nat.or_assoc]
    _ = (ndiff a.toNat b.toNat ||| b.toNat) ||| U := by rw [ho]
    _ = ndiff a.toNat b.toNat ||| (b.toNat ||| U) := by rw [Nat.or_assoc]
    _ = U := by rw [h2, h1]
theorem covI_in : ∀ (t : List Int) (k : Nat) (left : Int) (u : Int) (x : List Int), (∀ s ∈ t, (0 ≤ s ∧ s < 64) ∧ subI s u) → 0 ≤ left → left < 64 → covI t k left = some x → subI left u := by
  intro t
  induction t with
  | nil =>
    intro k left u x _ h0 h1 h
    by_cases hz : left = 0
    · subst hz; unfold subI; simp
    · rw [covI_nil _ _ hz] at h; cases h
  | cons s t ih =>
    intro k left u x hu h0 h1 h
    by_cases hz : left = 0
    · subst hz; unfold subI; simp
    cases k with
    | zero => rw [covI_zero _ _ hz] at h; cases h
    | succ k =>
      simp only [covI, if_neg hz] at h
      have hs := hu s (by simp)
      cases h2 : covI t k (idif left s) with
      | some y =>
        have hd := idif_bd left s 64 h0 h1
        exact subI_step ⟨h0, h1⟩ hs.1 (ih k _ u y (fun q hq => hu q (by simp [hq])) hd.1 hd.2 h2) hs.2
      | none =>
        rw [h2] at h
        exact ih (k + 1) left u x (fun q hq => hu q (by simp [hq])) h0 h1 h
theorem sub_union (l : List Int) (h : ∀ s ∈ l, 0 ≤ s ∧ s < 64) : ∀ s ∈ l, (0 ≤ s ∧ s < 64) ∧ subI s (unionL l) :=
  fun s hs => ⟨h s hs, (union_has l (fun s hs => (h s hs).1) 0).1 s hs⟩

theorem covS_len : ∀ (t : List Int) (k : Nat) (left : Int) (x : List Int), covS t k left = some x → x.length ≤ k := by
  intro t
  induction t with
  | nil =>
    intro k left x h
    by_cases hz : left = 0
    · subst hz; rw [covS_done] at h; cases h; simp
    · rw [covS_nil _ _ hz] at h; cases h
  | cons s t ih =>
    intro k left x h
    by_cases hz : left = 0
    · subst hz; rw [covS_done] at h; cases h; simp
    cases k with
    | zero => rw [covS_zero _ _ hz] at h; cases h
    | succ k =>
      simp only [covS, if_neg hz] at h
      split at h
      · exact ih _ _ _ h
      · cases h2 : covS t k (idif left s) with
        | some y =>
          rw [h2] at h
          cases h
          have := ih _ _ _ h2
          simp only [List.length_cons]; omega
        | none =>
          rw [h2] at h
          exact ih _ _ _ h

def smallOf (g : Int) (l : List Int) : Option (List Int) := if isFamB g l then firstK (fun k => covS l k (2 ^ g.toNat - 1)) 0 (g.toNat + 1) else none
def smallL (g : Int) (l : List Int) : List Int := (smallOf g l).getD []
def smallB (g : Int) (l : List Int) : Bool := (smallOf g l).isSome
theorem firstK_len (f : Nat → Option (List Int)) (h : ∀ k x, f k = some x → x.length ≤ k) : ∀ n k x, firstK f k n = some x → x.length ≤ k + n := by
  intro n
  induction n with
  | zero => intro k x hx; cases hx
  | succ n ih =>
    intro k x hx
    simp only [firstK] at hx
    cases hk : f k with
    | some y => rw [hk] at hx; cases hx; have := h k _ hk; omega
    | none => rw [hk] at hx; have := ih (k + 1) x hx; omega
theorem smallL_len (g : Int) (l : List Int) : (smallL g l).length ≤ 1048576 := by
  unfold smallL smallOf
  split
  · rename_i hf
    obtain ⟨h0, h6, _⟩ := famOk hf
    cases hr : firstK (fun k => covS l k (2 ^ g.toNat - 1)) 0 (g.toNat + 1) with
    | none => simp
    | some x =>
      have := firstK_len _ (fun k x => covS_len l k _ x) _ _ x hr
      simp only [Option.getD_some]; omega
  · simp
theorem firstK_none (f : Nat → Option (List Int)) (h : ∀ k, f k = none) : ∀ n k, firstK f k n = none := by
  intro n
  induction n with
  | zero => intro k; rfl
  | succ n ih => intro k; simp only [firstK, h]; exact ih _
theorem small_none {g : Int} {l : List Int} (hf : isFamB g l = true) (hu : unionL l ≠ 2 ^ g.toNat - 1) : smallOf g l = none := by
  unfold smallOf
  rw [if_pos hf]
  obtain ⟨h0, h6, hs, _⟩ := famOk hf
  have hm := fam_mem hf
  have hp := pow_le64 h0 h6
  have hp1 := (two_pow g.toNat 6 (by omega)).2
  rw [← first_eq l _ (by omega)]
  refine firstK_none _ (fun k => ?_) _ _
  cases hr : covI l k (2 ^ g.toNat - 1) with
  | none => rfl
  | some x =>
    exfalso
    apply hu
    have h1 := covI_in l k _ (unionL l) x (sub_union l hm) (by omega) (by omega) hr
    unfold subI at h1
    have h2 := union_bd g.toNat l hs 0 (by omega) (by omega)
    have h3 := @Nat.left_le_or ((2 : Int) ^ g.toNat - 1).toNat (unionL l).toNat
    have h4 : unionL l = l.foldl ior 0 := rfl
    rw [h4] at h1 h3 ⊢
    omega

/-! bits -/
theorem ndiff_bit (a b i : Nat) (ha : a < 64) (hb : b < 64) : (ndiff a b).testBit i = (a.testBit i && !b.testBit i) := by
  by_cases hi : i < 6
  · have h : ∀ a, a < 64 → ∀ b, b < 64 → ∀ i, i < 6 → (ndiff a b).testBit i = (a.testBit i && !b.testBit i) := by decide +kernel
    exact h a ha b hb i hi
  · have hp : (64 : Nat) ≤ 2 ^ i := Nat.pow_le_pow_right (n := 2) (by decide) (show 6 ≤ i by omega)
    have hd := ndiff_lt a b 64 ha
    rw [Nat.testBit_lt_two_pow (by omega), Nat.testBit_lt_two_pow (i := i) (x := a) (by omega)]; rfl
theorem ndiff_or (a b c : Nat) (ha : a < 64) (hb : b < 64) (hc : c < 64) : ndiff a (b ||| c) = ndiff (ndiff a b) c := by
  apply Nat.eq_of_testBit_eq
  intro i
  rw [ndiff_bit _ _ _ ha (or_lt64 b c hb hc), ndiff_bit _ _ _ (ndiff_lt a b 64 ha) hc, ndiff_bit _ _ _ ha hb, Nat.testBit_or]
  cases a.testBit i <;> cases b.testBit i <;> cases c.testBit i <;> rfl
theorem idif_or {a b c : Int} (ha : 0 ≤ a ∧ a < 64) (hb : 0 ≤ b ∧ b < 64) (hc : 0 ≤ c ∧ c < 64) : idif a (ior b c) = idif (idif a b) c := by
  have h := ndiff_or a.toNat b.toNat c.toNat (by omega) (by omega) (by omega)
  have e1 : (ior b c).toNat = b.toNat ||| c.toNat := by unfold ior; rw [Int.toNat_natCast]
  have e2 : (idif a b).toNat = ndiff a.toNat b.toNat := by unfold idif; rw [Int.toNat_natCast]
  unfold idif at h e2 ⊢
  rw [e1, h, e2]
theorem two_pow_nat (g : Nat) : ((2 : Int) ^ g - 1).toNat = 2 ^ g - 1 := by
  have : ((2 : Int) ^ g) = ((2 ^ g : Nat) : Int) := by push_cast; rfl
  rw [this]; omega
theorem idif_full (g : Nat) (u : Int) (h0 : 0 ≤ u) (h1 : u < 2 ^ g) : idif (2 ^ g - 1) u = 2 ^ g - 1 - u := by
  have e : ((2 : Int) ^ g) = ((2 ^ g : Nat) : Int) := by push_cast; rfl
  have h2 : u.toNat < 2 ^ g := by omega
  unfold idif ndiff
  rw [two_pow_nat, Nat.and_comm, Nat.and_two_pow_sub_one_eq_mod, Nat.mod_eq_of_lt h2]
  omega
theorem union_snoc (l : List Int) (s : Int) : unionL (l ++ [s]) = ior (unionL l) s := by unfold unionL; rw [List.foldl_append]; rfl
theorem subI_ior_left (a b : Int) : subI a (ior a b) := by
  unfold subI ior
  rw [Int.toNat_natCast, ← Nat.or_assoc, Nat.or_self]
theorem subI_ior_right (a b : Int) : subI b (ior a b) := by
  unfold subI ior
  rw [Int.toNat_natCast, Nat.or_comm a.toNat b.toNat, ← Nat.or_assoc, Nat.or_self]
theorem subI_trans {a b c : Int} (h1 : subI a b) (h2 : subI b c) : subI a c := by
  unfold subI at *
  rw [← h2, ← Nat.or_assoc, h1]
/-- where all sets left do not do, nothing is found -/
theorem covI_prune (g : Nat) (hg : g ≤ 6) (u : Int) (h0 : 0 ≤ u) (h1 : u < 2 ^ g) (t : List Int) (ht : ∀ s ∈ t, 0 ≤ s ∧ s < 2 ^ g) (k : Nat) (hne : ior u (unionL t) ≠ 2 ^ g - 1) : covI t k (idif (2 ^ g - 1) u) = none := by
  have hp := two_pow g 6 hg
  have hp1 : (2 : Int) ^ g ≤ 64 := by simpa using hp.1
  have hp2 := hp.2
  cases hr : covI t k (idif (2 ^ g - 1) u) with
  | none => rfl
  | some x =>
    exfalso
    apply hne
    have hU := union_bd g t ht 0 (by omega) hp2
    have hU2 : 0 ≤ unionL t ∧ unionL t < 2 ^ g := hU
    have hd := idif_bd (2 ^ g - 1) u 64 (by omega) (by omega)
    have h2 := covI_in t k _ (unionL t) x (sub_union t (fun s hs => by have := ht s hs; omega)) hd.1 hd.2 hr
    have h3 : subI (2 ^ g - 1) (ior u (unionL t)) := subI_step ⟨by omega, by omega⟩ ⟨h0, by omega⟩ (subI_trans h2 (subI_ior_right u _)) (subI_ior_left u _)
    have h4 := ior_bd u (unionL t) g h0 hU2.1 h1 hU2.2
    unfold subI at h3
    have h5 := @Nat.left_le_or ((2 : Int) ^ g - 1).toNat (ior u (unionL t)).toNat
    omega
end Go.Proofs.YtipejodijbjpcaaGreatDoor
end
