/- Greedy covers, in plain words. Greedy covers. Prices. -/
import Derived.Test.YtelmokapdkepbaaDoorQ20
import Derived.StillTailTactics
import Derived.IntWalk
section
namespace Go.Proofs.YtelmokapdkepbaaDoor
open Go.RowKit Go.G5

def betterF (left : Int) (b s : Int) : Int := if ipop (iand b left) < ipop (iand s left) then s else b
def bestOf (l : List Int) (left : Int) : Int := l.foldl (betterF left) 0
def greedyRun (l : List Int) : Nat → Int → Option (List Int)
  | 0, left => if left = 0 then some [] else none
  | n + 1, left => if left = 0 then some [] else if iand (bestOf l left) left = 0 then none else (greedyRun l n (idif left (bestOf l left))).map (bestOf l left :: ·)
def greedyOf (g : Int) (l : List Int) : Option (List Int) := if isFamB g l then greedyRun l 64 (2 ^ g.toNat - 1) else none
def greedyL (g : Int) (l : List Int) : List Int := (greedyOf g l).getD []
def greedyB (g : Int) (l : List Int) : Bool := (greedyOf g l).isSome

theorem best_mem (left : Int) (l : List Int) : ∀ z, l.foldl (betterF left) z = z ∨ l.foldl (betterF left) z ∈ l := by
  induction l with
  | nil => intro z; exact .inl rfl
  | cons a l ih =>
    intro z
    simp only [List.foldl_cons]
    rcases ih (betterF left z a) with h | h
    · rw [h]; unfold betterF; split
      · right; simp
      · left; rfl
    · right; simp [h]
theorem best_max (left : Int) (l : List Int) : ∀ z, ipop (iand z left) ≤ ipop (iand (l.foldl (betterF left) z) left) ∧ ∀ s ∈ l, ipop (iand s left) ≤ ipop (iand (l.foldl (betterF left) z) left) := by
  induction l with
  | nil => intro z; exact ⟨Int.le_refl _, by simp⟩
  | cons a l ih =>
    intro z
    simp only [List.foldl_cons]
    obtain ⟨h1, h2⟩ := ih (betterF left z a)
    have h3 : ipop (iand z left) ≤ ipop (iand (betterF left z a) left) ∧ ipop (iand a left) ≤ ipop (iand (betterF left z a) left) := by
      unfold betterF; split <;> omega
    refine ⟨by omega, fun s hs => ?_⟩
    rcases List.mem_cons.1 hs with rfl | hs
    · omega
    · exact h2 s hs
theorem best_bd (l : List Int) (left : Int) (h : ∀ s ∈ l, 0 ≤ s ∧ s < 64) : 0 ≤ bestOf l left ∧ bestOf l left < 64 := by
  rcases best_mem left l 0 with h1 | h1
  · unfold bestOf; rw [h1]; omega
  · exact h _ h1

theorem pop_pos : ∀ n, n < 64 → 0 < n → 0 < pop n := by decide +kernel
theorem ipop_zero {a : Int} (h0 : 0 ≤ a) (h1 : a < 64) (h : ipop a ≤ 0) : a = 0 := by
  by_cases hz : a = 0
  · exact hz
  · have := pop_pos a.toNat (by omega) (by omega)
    unfold ipop at h; omega
theorem union_and (c : Nat) (l : List Int) (h : ∀ s ∈ l, s.toNat &&& c = 0) : ∀ z : Int, z.toNat &&& c = 0 → (l.foldl ior z).toNat &&& c = 0 := by
  induction l with
  | nil => intro z hz; exact hz
  | cons a l ih =>
    intro z hz
    simp only [List.foldl_cons]
    refine ih (fun s hs => h s (by simp [hs])) _ ?_
    have ha := h a (by simp)
    unfold ior
    rw [Int.toNat_natCast, Nat.and_or_distrib_right, hz, ha]; rfl
/-- where the sets have all elements, one has an element that is left -/
theorem some_meets (g : Nat) (l : List Int) (cur : Int) (h0 : 0 < cur) (h1 : cur < 2 ^ g) (hu : unionL l = 2 ^ g - 1) : ∃ s ∈ l, iand s cur ≠ 0 := by
  refine Classical.byContradiction fun hno => ?_
  have hall : ∀ s ∈ l, s.toNat &&& cur.toNat = 0 := fun s hs => by
    refine Classical.byContradiction fun hne => hno ⟨s, hs, ?_⟩
    unfold iand; omega
  have hz := union_and cur.toNat l hall 0 (by simp)
  have hu' : (l.foldl ior 0) = 2 ^ g - 1 := hu
  have hpow : ((2 : Int) ^ g - 1).toNat = 2 ^ g - 1 := by
    have : ((2 : Int) ^ g) = ((2 ^ g : Nat) : Int) := by push_cast; rfl
    rw [this]; omega
  rw [hu', hpow, Nat.and_comm, Nat.and_two_pow_sub_one_eq_mod] at hz
  have hlt : cur.toNat < 2 ^ g := by
    have : ((2 : Int) ^ g) = ((2 ^ g : Nat) : Int) := by push_cast; rfl
    omega
  rw [Nat.mod_eq_of_lt hlt] at hz
  omega
theorem best_meets (g : Nat) (l : List Int) (cur : Int) (hl : ∀ s ∈ l, 0 ≤ s ∧ s < 64) (h0 : 0 < cur) (h1 : cur < 2 ^ g) (hu : unionL l = 2 ^ g - 1) : iand (bestOf l cur) cur ≠ 0 := by
  obtain ⟨s, hs, hne⟩ := some_meets g l cur h0 h1 hu
  have hm := (best_max cur l 0).2 s hs
  intro hz
  have hb : ipop (iand (bestOf l cur) cur) = 0 := by rw [hz]; decide
  have hsb := hl s hs
  have hib := iand_bd s cur 64 hsb.1 hsb.2
  exact hne (ipop_zero hib.1 hib.2 (by unfold bestOf at hb; omega))
theorem idif_lt {a b : Int} (h0 : 0 ≤ a) (hne : iand b a ≠ 0) : idif a b < a := by
  unfold iand at hne
  unfold idif ndiff
  have hc : a.toNat &&& b.toNat = b.toNat &&& a.toNat := Nat.and_comm _ _
  have := @Nat.and_le_left a.toNat b.toNat
  omega
/-- enough rounds are enough -/
theorem greedy_fuel (l : List Int) : ∀ (n m : Nat) (cur : Int), 0 ≤ cur → cur ≤ n → n ≤ m → greedyRun l n cur = greedyRun l m cur := by
  intro n
  induction n with
  | zero =>
    intro m cur h0 h1 _
    have : cur = 0 := by omega
    subst this
    cases m <;> simp [greedyRun]
  | succ n ih =>
    intro m cur h0 h1 hm
    obtain ⟨m, rfl⟩ : ∃ k, m = k + 1 := ⟨m - 1, by omega⟩
    simp only [greedyRun]
    split
    · rfl
    · split
      · rfl
      · rename_i hne
        have hlt := idif_lt h0 hne
        have hge : 0 ≤ idif cur (bestOf l cur) := by unfold idif; omega
        rw [ih m _ hge (by omega) (by omega)]
/-- what greed covers the sets have -/
theorem or_ndiff : ∀ a, a < 64 → ∀ b, b < 64 → ndiff a b ||| b = a ||| b := by decide +kernel
theorem union_has (l : List Int) (h : ∀ s ∈ l, 0 ≤ s) : ∀ (z : Int), (∀ s ∈ l, s.toNat ||| (l.foldl ior z).toNat = (l.foldl ior z).toNat) ∧ z.toNat ||| (l.foldl ior z).toNat = (l.foldl ior z).toNat := by
  induction l with
  | nil => intro z; exact ⟨by simp, by simp⟩
  | cons a l ih =>
    intro z
    simp only [List.foldl_cons]
    obtain ⟨h1, h2⟩ := ih (fun s hs => h s (by simp [hs])) (ior z a)
    generalize (l.foldl ior (ior z a)).toNat = U at *
    have hz : (ior z a).toNat = z.toNat ||| a.toNat := by unfold ior; rw [Int.toNat_natCast]
    rw [hz] at h2
    refine ⟨fun s hs => ?_, ?_⟩
    · rcases List.mem_cons.1 hs with rfl | hs
      · calc s.toNat ||| U = s.toNat ||| (z.toNat ||| s.toNat ||| U) := by rw [h2]
          _ = z.toNat ||| s.toNat ||| U := by rw [← Nat.or_assoc, ← Nat.or_assoc, Nat.or_comm s.toNat z.toNat, Nat.or_assoc z.toNat, Nat.or_self]
          _ = U := h2
      · exact h1 s hs
    · calc z.toNat ||| U = z.toNat ||| (z.toNat ||| a.toNat ||| U) := by rw [h2]
        _ = z.toNat ||| a.toNat ||| U := by rw [← Nat.or_assoc, ← Nat.or_assoc, Nat.or_self]
        _ = U := h2
theorem greedy_in (l : List Int) (hl : ∀ s ∈ l, 0 ≤ s ∧ s < 64) : ∀ n (cur : Int) L, 0 ≤ cur → cur < 64 → greedyRun l n cur = some L → cur.toNat ||| (unionL l).toNat = (unionL l).toNat := by
  intro n
  induction n with
  | zero =>
    intro cur L h0 h1 h
    simp only [greedyRun] at h
    split at h
    · rename_i hz; subst hz; simp
    · cases h
  | succ n ih =>
    intro cur L h0 h1 h
    simp only [greedyRun] at h
    split at h
    · rename_i hz; subst hz; simp
    · split at h
      · cases h
      · rename_i hne
        cases hr : greedyRun l n (idif cur (bestOf l cur)) with
        | none => rw [hr] at h; cases h
        | some L' =>
          have hb := best_bd l cur hl
          have hd := idif_bd cur (bestOf l cur) 64 h0 h1
          have hi := ih _ _ hd.1 hd.2 hr
          have hmem : bestOf l cur ∈ l := by
            rcases best_mem cur l 0 with h1 | h1
            · exfalso
              apply hne
              have : bestOf l cur = 0 := h1
              rw [this]; unfold iand; simp
            · exact h1
          have hbU := (union_has l (fun s hs => (hl s hs).1) 0).1 _ hmem
          have ho := or_ndiff cur.toNat (by omega) (bestOf l cur).toNat (by omega)
          have e : (idif cur (bestOf l cur)).toNat = ndiff cur.toNat (bestOf l cur).toNat := by unfold idif; rw [Int.toNat_natCast]
          rw [e] at hi
          have hU : (unionL l).toNat = (l.foldl ior 0).toNat := rfl
          rw [← hU] at hbU
          generalize (unionL l).toNat = U at *
          calc cur.toNat ||| U = cur.toNat ||| ((bestOf l cur).toNat ||| U) := by rw [hbU]
            _ = (cur.toNat ||| (bestOf l cur).toNat) ||| U := by rw [Nat.or_assoc]
            _ = (ndiff cur.toNat (bestOf l cur).toNat ||| (bestOf l cur).toNat) ||| U := by rw [ho]
            _ = ndiff cur.toNat (bestOf l cur).toNat ||| ((bestOf l cur).toNat ||| U) := by rw [Nat.or_assoc]
            _ = U := by rw [hbU, hi]
theorem greedy_none {g : Int} {l : List Int} (hf : isFamB g l = true) (hu : unionL l ≠ 2 ^ g.toNat - 1) : greedyOf g l = none := by
  unfold greedyOf
  rw [if_pos hf]
  obtain ⟨h0, h6, hs, _⟩ := famOk hf
  have hm := fam_mem hf
  have hp := pow_le64 h0 h6
  have hp1 := (two_pow g.toNat 6 (by omega)).2
  cases hr : greedyRun l 64 (2 ^ g.toNat - 1) with
  | none => rfl
  | some L =>
    exfalso
    apply hu
    have h1 := greedy_in l hm 64 _ L (by omega) (by omega) hr
    have h2 := union_bd g.toNat l hs 0 (by omega) (by omega)
    have h3 := @Nat.left_le_or ((2 : Int) ^ g.toNat - 1).toNat (unionL l).toNat
    have h4 : unionL l = l.foldl ior 0 := rfl
    rw [h4] at h1 h3 ⊢
    omega
end Go.Proofs.YtelmokapdkepbaaDoor
end
section
namespace Go.Proofs.YtelmokapdkepbaaDoor
open Go.RowKit Go.G5

theorem idif_sub {a b : Int} (h0 : 0 ≤ a) : a - iand a b = idif a b := by
  have := @Nat.and_le_left a.toNat b.toNat
  unfold iand idif ndiff; omega
theorem iand_comm (a b : Int) : iand a b = iand b a := by unfold iand; rw [Nat.and_comm]

theorem run_len (l : List Int) : ∀ n cur L, greedyRun l n cur = some L → L.length ≤ n := by
  intro n
  induction n with
  | zero =>
    intro cur L h
    simp only [greedyRun] at h
    split at h
    · simp at h; subst h; simp
    · cases h
  | succ n ih =>
    intro cur L h
    simp only [greedyRun] at h
    split at h
    · simp at h; subst h; simp
    · split at h
      · cases h
      · cases hr : greedyRun l n (idif cur (bestOf l cur)) with
        | none => rw [hr] at h; cases h
        | some L' =>
          rw [hr] at h
          simp at h
          subst h
          have := ih _ _ hr
          simp; omega
theorem greedyL_len (g : Int) (l : List Int) : (greedyL g l).length ≤ 1048576 := by
  unfold greedyL
  cases h : greedyOf g l with
  | none => simp
  | some L =>
    unfold greedyOf at h
    split at h
    · have := run_len l 64 _ L h; simp; omega
    · cases h
end Go.Proofs.YtelmokapdkepbaaDoor
end
section
namespace Go.Proofs.YtelmokapdkepbaaDoor
open Go.RowKit Go.G5

/-- the elements of x below the k-th get the price p -/
def prS (o x : List Int) (p : Int) : Nat → List Int
  | 0 => o
  | k + 1 => (prS o x p k).set (x.getD k 0).toNat p
def prTo (g : Nat) (L : List Int) : Nat → List Int × Int
  | 0 => (List.replicate g 0, 2 ^ g - 1)
  | j + 1 => (prS (prTo g L j).1 (elL (iand (L.getD j 0) (prTo g L j).2)) (60 / ipop (iand (L.getD j 0) (prTo g L j).2)) (elL (iand (L.getD j 0) (prTo g L j).2)).length, idif (prTo g L j).2 (L.getD j 0))
def pricesL (g : Int) (l : List Int) : List Int := if greedyB g l then (prTo g.toNat (greedyL g l) (greedyL g l).length).1 else []
theorem prS_len (o x : List Int) (p : Int) (k : Nat) : (prS o x p k).length = o.length := by
  induction k with
  | zero => rfl
  | succ k ih => rw [prS, List.length_set, ih]
theorem prTo_len (g : Nat) (L : List Int) (j : Nat) : (prTo g L j).1.length = g := by
  induction j with
  | zero => simp [prTo]
  | succ j ih => rw [prTo]; simp only; rw [prS_len, ih]
theorem prTo_left (g : Nat) (hg : g ≤ 6) (L : List Int) (j : Nat) : 0 ≤ (prTo g L j).2 ∧ (prTo g L j).2 < 2 ^ g := by
  have hp := two_pow g 6 hg
  induction j with
  | zero => simp only [prTo]; omega
  | succ j ih => rw [prTo]; exact idif_bd _ _ _ ih.1 ih.2
theorem pricesL_len (g : Int) (l : List Int) : (pricesL g l).length ≤ 1048576 := by
  unfold pricesL
  split
  · rename_i h
    rw [prTo_len]
    unfold greedyB greedyOf at h
    split at h
    · rename_i hf
      obtain ⟨h0, h6, _⟩ := famOk hf
      omega
    · simp at h
  · simp
theorem greedyRun_mem (l : List Int) (hl : ∀ s ∈ l, 0 ≤ s ∧ s < 64) : ∀ n cur L, greedyRun l n cur = some L → ∀ s ∈ L, 0 ≤ s ∧ s < 64 := by
  intro n
  induction n with
  | zero =>
    intro cur L h
    simp only [greedyRun] at h
    split at h
    · cases h; simp
    · cases h
  | succ n ih =>
    intro cur L h
    simp only [greedyRun] at h
    split at h
    · cases h; simp
    · split at h
      · cases h
      · cases hr : greedyRun l n (idif cur (bestOf l cur)) with
        | none => rw [hr] at h; cases h
        | some L' =>
          rw [hr] at h
          cases h
          intro s hs
          rcases List.mem_cons.1 hs with rfl | hs
          · exact best_bd l cur hl
          · exact ih _ _ hr s hs
theorem greedyL_mem (g : Int) (l : List Int) : ∀ s ∈ greedyL g l, 0 ≤ s ∧ s < 64 := by
  unfold greedyL greedyOf
  split
  · rename_i hf
    cases hr : greedyRun l 64 (2 ^ g.toNat - 1) with
    | none => simp
    | some L => exact greedyRun_mem l (fam_mem hf) _ _ _ hr
  · simp
theorem greedyB_fam {g : Int} {l : List Int} (h : greedyB g l = true) : isFamB g l = true := by
  unfold greedyB greedyOf at h
  split at h
  · rename_i hf; exact hf
  · simp at h
theorem greedyL_64 (g : Int) (l : List Int) : (greedyL g l).length ≤ 64 := by
  unfold greedyL greedyOf
  split
  · cases hr : greedyRun l 64 (2 ^ g.toNat - 1) with
    | none => simp
    | some L => exact run_len l _ _ _ hr
  · simp
theorem ipop_elem (s : Int) (h : s < 64) (k : Nat) (hk : k < (elL s).length) : 1 ≤ ipop s ∧ ipop s ≤ 8 := by
  have := elL_pop s h
  have := ipop_bd s (by omega)
  omega

theorem isub_is2 {a b : Int} (h0 : 0 ≤ a) : a - iand a b = idif a b := by
  have := @Nat.and_le_left a.toNat b.toNat
  unfold iand idif ndiff; omega

end Go.Proofs.YtelmokapdkepbaaDoor
end
