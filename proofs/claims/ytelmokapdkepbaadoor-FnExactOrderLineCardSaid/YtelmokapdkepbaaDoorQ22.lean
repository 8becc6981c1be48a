/- Smallest covers, in plain words. The line of covers: what is computed. -/
import Derived.Test.YtelmokapdkepbaaDoorQ21
section
namespace Go.Proofs.YtelmokapdkepbaaDoor
open Go.RowKit Go.G5

/-- at most k sets of the list, in its order, that have what is left -/
def covI : List Int → Nat → Int → Option (List Int)
  | [], _, left => if left = 0 then some [] else none
  | _ :: _, 0, left => if left = 0 then some [] else none
  | s :: t, k + 1, left => if left = 0 then some [] else
      match covI t k (idif left s) with
      | some x => some (s :: x)
      | none => covI t (k + 1) left
/-- the same, where a set that adds nothing is passed by -/
def covS : List Int → Nat → Int → Option (List Int)
  | [], _, left => if left = 0 then some [] else none
  | _ :: _, 0, left => if left = 0 then some [] else none
  | s :: t, k + 1, left => if left = 0 then some [] else
      if iand s left = 0 then covS t (k + 1) left else
      match covS t k (idif left s) with
      | some x => some (s :: x)
      | none => covS t (k + 1) left
theorem covI_done (l : List Int) (k : Nat) : covI l k 0 = some [] := by cases l <;> cases k <;> simp [covI]
theorem covS_done (l : List Int) (k : Nat) : covS l k 0 = some [] := by cases l <;> cases k <;> simp [covS]
theorem covI_zero (l : List Int) (left : Int) (h : left ≠ 0) : covI l 0 left = none := by cases l <;> simp [covI, h]
theorem covS_zero (l : List Int) (left : Int) (h : left ≠ 0) : covS l 0 left = none := by cases l <;> simp [covS, h]
theorem covI_nil (k : Nat) (left : Int) (h : left ≠ 0) : covI [] k left = none := by cases k <;> simp [covI, h]
theorem covS_nil (k : Nat) (left : Int) (h : left ≠ 0) : covS [] k left = none := by cases k <;> simp [covS, h]
theorem idif_same {a b : Int} (h0 : 0 ≤ a) (h : iand b a = 0) : idif a b = a := by
  unfold iand at h
  unfold idif ndiff
  have hc : a.toNat &&& b.toNat = b.toNat &&& a.toNat := Nat.and_comm _ _
  omega
theorem idif_ge (a b : Int) : 0 ≤ idif a b := by unfold idif; omega

/-- where k sets are too few, one more found by either way is the same -/
theorem cov_next : ∀ (t : List Int) (k : Nat) (left : Int), 0 ≤ left → covI t k left = none → covI t (k + 1) left = covS t (k + 1) left ∧ covS t k left = none := by
  intro t
  induction t with
  | nil =>
    intro k left h0 h
    by_cases hz : left = 0
    · subst hz; rw [covI_done] at h; cases h
    · exact ⟨by rw [covI_nil _ _ hz, covS_nil _ _ hz], covS_nil _ _ hz⟩
  | cons s t ih =>
    intro k left h0 h
    by_cases hz : left = 0
    · subst hz; rw [covI_done] at h; cases h
    have hd := idif_ge left s
    cases k with
    | zero =>
      have h1 := ih 0 left h0 (covI_zero t left hz)
      refine ⟨?_, covS_zero _ _ hz⟩
      simp only [covI, covS, if_neg hz]
      by_cases ha : iand s left = 0
      · rw [if_pos ha, idif_same h0 ha, covI_zero t left hz]
        exact h1.1
      · rw [if_neg ha]
        have e : covI t 0 (idif left s) = covS t 0 (idif left s) := by
          by_cases hy : idif left s = 0
          · rw [hy, covI_done, covS_done]
          · rw [covI_zero _ _ hy, covS_zero _ _ hy]
        rw [e, h1.1]
    | succ k =>
      simp only [covI, if_neg hz] at h
      cases h2 : covI t k (idif left s) with
      | some x => rw [h2] at h; cases h
      | none =>
        rw [h2] at h
        simp only at h
        have h3 := ih k (idif left s) hd h2
        have h4 := ih (k + 1) left h0 h
        constructor
        · simp only [covI, covS, if_neg hz]
          by_cases ha : iand s left = 0
          · rw [if_pos ha, idif_same h0 ha, h]
            exact h4.1
          · rw [if_neg ha, h3.1, h4.1]
        · simp only [covS, if_neg hz]
          rw [h3.2, h4.2]
          split <;> rfl

/-- the first of the numbers from k on at which something is found -/
def firstK (f : Nat → Option (List Int)) : Nat → Nat → Option (List Int)
  | _, 0 => none
  | k, n + 1 => match f k with
    | some x => some x
    | none => firstK f (k + 1) n
theorem firstK_eq (t : List Int) (left : Int) (h0 : 0 ≤ left) : ∀ n k, covI t k left = covS t k left → firstK (fun k => covI t k left) k n = firstK (fun k => covS t k left) k n := by
  intro n
  induction n with
  | zero => intro k _; rfl
  | succ n ih =>
    intro k h
    simp only [firstK]
    rw [← h]
    cases hk : covI t k left with
    | some x => rfl
    | none => exact ih (k + 1) (cov_next t k left h0 hk).1
theorem first_eq (t : List Int) (left : Int) (h0 : 0 ≤ left) (n : Nat) : firstK (fun k => covI t k left) 0 n = firstK (fun k => covS t k left) 0 n := by
  refine firstK_eq t left h0 n 0 ?_
  by_cases hz : left = 0
  · subst hz; rw [covI_done, covS_done]
  · rw [covI_zero _ _ hz, covS_zero _ _ hz]

/-- all that is left lies in the sets' union -/
def subI (a b : Int) : Prop := a.toNat ||| b.toNat = b.toNat
theorem subI_step {a b u : Int} (ha : 0 ≤ a ∧ a < 64) (hb : 0 ≤ b ∧ b < 64) (h1 : subI (idif a b) u) (h2 : subI b u) : subI a u := by
  unfold subI at *
  have ho := or_ndiff a.toNat (by omega) b.toNat (by omega)
  have e : (idif a b).toNat = ndiff a.toNat b.toNat := by unfold idif; rw [Int.toNat_natCast]
  rw [e] at h1
  generalize u.toNat = U at *
  calc a.toNat ||| U = a.toNat ||| (b.toNat ||| U) := by rw [h2]
    _ = (a.toNat ||| b.toNat) ||| U := by rw [Nat.or_assoc]
    _ = (ndiff a.toNat b.toNat ||| b.toNat) ||| U := by rw [ho]
    _ = ndiff a.toNat b.toNat ||| (b.toNat ||| U) := by rw [Nat.or_assoc]
    _ = U := by rw [h2, h1]
theorem covI_in : ∀ (t : List Int) (k : Nat) (left : Int) (u : Int) (x : List Int), (∀ s ∈ t, (0 ≤ s ∧ s < 64) ∧ subI s u) → 0 ≤ left → left < 64 → covI t k left = some x → subI left u := by
  intro t
  induction t with
  | nil =>
    intro k left u x _ h0 h1 h
    by_cases hz : left = 0
    · subst hz; unfold subI; simp
    · rw [covI_nil _ _ hz] at h; cases h
  | cons s t ih =>
    intro k left u x hu h0 h1 h
    by_cases hz : left = 0
    · subst hz; unfold subI; simp
    cases k with
    | zero => rw [covI_zero _ _ hz] at h; cases h
    | succ k =>
      simp only [covI, if_neg hz] at h
      have hs := hu s (by simp)
      cases h2 : covI t k (idif left s) with
      | some y =>
        have hd := idif_bd left s 64 h0 h1
        exact subI_step ⟨h0, h1⟩ hs.1 (ih k _ u y (fun q hq => hu q (by simp [hq])) hd.1 hd.2 h2) hs.2
      | none =>
        rw [h2] at h
        exact ih (k + 1) left u x (fun q hq => hu q (by simp [hq])) h0 h1 h
theorem sub_union (l : List Int) (h : ∀ s ∈ l, 0 ≤ s ∧ s < 64) : ∀ s ∈ l, (0 ≤ s ∧ s < 64) ∧ subI s (unionL l) :=
  fun s hs => ⟨h s hs, (union_has l (fun s hs => (h s hs).1) 0).1 s hs⟩

theorem covS_len : ∀ (t : List Int) (k : Nat) (left : Int) (x : List Int), covS t k left = some x → x.length ≤ k := by
  intro t
  induction t with
  | nil =>
    intro k left x h
    by_cases hz : left = 0
    · subst hz; rw [covS_done] at h; cases h; simp
    · rw [covS_nil _ _ hz] at h; cases h
  | cons s t ih =>
    intro k left x h
    by_cases hz : left = 0
    · subst hz; rw [covS_done] at h; cases h; simp
    cases k with
    | zero => rw [covS_zero _ _ hz] at h; cases h
    | succ k =>
      simp only [covS, if_neg hz] at h
      split at h
      · exact ih _ _ _ h
      · cases h2 : covS t k (idif left s) with
        | some y =>
          rw [h2] at h
          cases h
          have := ih _ _ _ h2
          simp only [List.length_cons]; omega
        | none =>
          rw [h2] at h
          exact ih _ _ _ h

def smallOf (g : Int) (l : List Int) : Option (List Int) := if isFamB g l then firstK (fun k => covS l k (2 ^ g.toNat - 1)) 0 (g.toNat + 1) else none
def smallL (g : Int) (l : List Int) : List Int := (smallOf g l).getD []
def smallB (g : Int) (l : List Int) : Bool := (smallOf g l).isSome
theorem firstK_len (f : Nat → Option (List Int)) (h : ∀ k x, f k = some x → x.length ≤ k) : ∀ n k x, firstK f k n = some x → x.length ≤ k + n := by
  intro n
  induction n with
  | zero => intro k x hx; cases hx
  | succ n ih =>
    intro k x hx
    simp only [firstK] at hx
    cases hk : f k with
    | some y => rw [hk] at hx; cases hx; have := h k _ hk; omega
    | none => rw [hk] at hx; have := ih (k + 1) x hx; omega
theorem smallL_len (g : Int) (l : List Int) : (smallL g l).length ≤ 1048576 := by
  unfold smallL smallOf
  split
  · rename_i hf
    obtain ⟨h0, h6, _⟩ := famOk hf
    cases hr : firstK (fun k => covS l k (2 ^ g.toNat - 1)) 0 (g.toNat + 1) with
    | none => simp
    | some x =>
      have := firstK_len _ (fun k x => covS_len l k _ x) _ _ x hr
      simp only [Option.getD_some]; omega
  · simp
theorem firstK_none (f : Nat → Option (List Int)) (h : ∀ k, f k = none) : ∀ n k, firstK f k n = none := by
  intro n
  induction n with
  | zero => intro k; rfl
  | succ n ih => intro k; simp only [firstK, h]; exact ih _
theorem small_none {g : Int} {l : List Int} (hf : isFamB g l = true) (hu : unionL l ≠ 2 ^ g.toNat - 1) : smallOf g l = none := by
  unfold smallOf
  rw [if_pos hf]
  obtain ⟨h0, h6, hs, _⟩ := famOk hf
  have hm := fam_mem hf
  have hp := pow_le64 h0 h6
  have hp1 := (two_pow g.toNat 6 (by omega)).2
  rw [← first_eq l _ (by omega)]
  refine firstK_none _ (fun k => ?_) _ _
  cases hr : covI l k (2 ^ g.toNat - 1) with
  | none => rfl
  | some x =>
    exfalso
    apply hu
    have h1 := covI_in l k _ (unionL l) x (sub_union l hm) (by omega) (by omega) hr
    unfold subI at h1
    have h2 := union_bd g.toNat l hs 0 (by omega) (by omega)
    have h3 := @Nat.left_le_or ((2 : Int) ^ g.toNat - 1).toNat (unionL l).toNat
    have h4 : unionL l = l.foldl ior 0 := rfl
    rw [h4] at h1 h3 ⊢
    omega

/-! bits -/
theorem ndiff_bit (a b i : Nat) (ha : a < 64) (hb : b < 64) : (ndiff a b).testBit i = (a.testBit i && !b.testBit i) := by
  by_cases hi : i < 6
  · have h : ∀ a, a < 64 → ∀ b, b < 64 → ∀ i, i < 6 → (ndiff a b).testBit i = (a.testBit i && !b.testBit i) := by decide +kernel
    exact h a ha b hb i hi
  · have hp : (64 : Nat) ≤ 2 ^ i := Nat.pow_le_pow_right (n := 2) (by decide) (show 6 ≤ i by omega)
    have hd := ndiff_lt a b 64 ha
    rw [Nat.testBit_lt_two_pow (by omega), Nat.testBit_lt_two_pow (i := i) (x := a) (by omega)]; rfl
theorem ndiff_or (a b c : Nat) (ha : a < 64) (hb : b < 64) (hc : c < 64) : ndiff a (b ||| c) = ndiff (ndiff a b) c := by
  apply Nat.eq_of_testBit_eq
  intro i
  rw [ndiff_bit _ _ _ ha (or_lt64 b c hb hc), ndiff_bit _ _ _ (ndiff_lt a b 64 ha) hc, ndiff_bit _ _ _ ha hb, Nat.testBit_or]
  cases a.testBit i <;> cases b.testBit i <;> cases c.testBit i <;> rfl
theorem idif_or {a b c : Int} (ha : 0 ≤ a ∧ a < 64) (hb : 0 ≤ b ∧ b < 64) (hc : 0 ≤ c ∧ c < 64) : idif a (ior b c) = idif (idif a b) c := by
  have h := ndiff_or a.toNat b.toNat c.toNat (by omega) (by omega) (by omega)
  have e1 : (ior b c).toNat = b.toNat ||| c.toNat := by unfold ior; rw [Int.toNat_natCast]
  have e2 : (idif a b).toNat = ndiff a.toNat b.toNat := by unfold idif; rw [Int.toNat_natCast]
  unfold idif at h e2 ⊢
  rw [e1, h, e2]
theorem two_pow_nat (g : Nat) : ((2 : Int) ^ g - 1).toNat = 2 ^ g - 1 := by
  have : ((2 : Int) ^ g) = ((2 ^ g : Nat) : Int) := by push_cast; rfl
  rw [this]; omega
theorem idif_full (g : Nat) (u : Int) (h0 : 0 ≤ u) (h1 : u < 2 ^ g) : idif (2 ^ g - 1) u = 2 ^ g - 1 - u := by
  have e : ((2 : Int) ^ g) = ((2 ^ g : Nat) : Int) := by push_cast; rfl
  have h2 : u.toNat < 2 ^ g := by omega
  unfold idif ndiff
  rw [two_pow_nat, Nat.and_comm, Nat.and_two_pow_sub_one_eq_mod, Nat.mod_eq_of_lt h2]
  omega
theorem union_snoc (l : List Int) (s : Int) : unionL (l ++ [s]) = ior (unionL l) s := by unfold unionL; rw [List.foldl_append]; rfl
theorem subI_ior_left (a b : Int) : subI a (ior a b) := by
  unfold subI ior
  rw [Int.toNat_natCast, ← Nat.or_assoc, Nat.or_self]
theorem subI_ior_right (a b : Int) : subI b (ior a b) := by
  unfold subI ior
  rw [Int.toNat_natCast, Nat.or_comm a.toNat b.toNat, ← Nat.or_assoc, Nat.or_self]
theorem subI_trans {a b c : Int} (h1 : subI a b) (h2 : subI b c) : subI a c := by
  unfold subI at *
  rw [← h2, ← Nat.or_assoc, h1]
/-- where all sets left do not do, nothing is found -/
theorem covI_prune (g : Nat) (hg : g ≤ 6) (u : Int) (h0 : 0 ≤ u) (h1 : u < 2 ^ g) (t : List Int) (ht : ∀ s ∈ t, 0 ≤ s ∧ s < 2 ^ g) (k : Nat) (hne : ior u (unionL t) ≠ 2 ^ g - 1) : covI t k (idif (2 ^ g - 1) u) = none := by
  have hp := two_pow g 6 hg
  have hp1 : (2 : Int) ^ g ≤ 64 := by simpa using hp.1
  have hp2 := hp.2
  cases hr : covI t k (idif (2 ^ g - 1) u) with
  | none => rfl
  | some x =>
    exfalso
    apply hne
    have hU := union_bd g t ht 0 (by omega) hp2
    have hU2 : 0 ≤ unionL t ∧ unionL t < 2 ^ g := hU
    have hd := idif_bd (2 ^ g - 1) u 64 (by omega) (by omega)
    have h2 := covI_in t k _ (unionL t) x (sub_union t (fun s hs => by have := ht s hs; omega)) hd.1 hd.2 hr
    have h3 : subI (2 ^ g - 1) (ior u (unionL t)) := subI_step ⟨by omega, by omega⟩ ⟨h0, by omega⟩ (subI_trans h2 (subI_ior_right u _)) (subI_ior_left u _)
    have h4 := ior_bd u (unionL t) g h0 hU2.1 h1 hU2.2
    unfold subI at h3
    have h5 := @Nat.left_le_or ((2 : Int) ^ g - 1).toNat (ior u (unionL t)).toNat
    omega
end Go.Proofs.YtelmokapdkepbaaDoor
end
section
namespace Go.Proofs.YtelmokapdkepbaaDoor
open Go.RowKit Go.G5

/-- the parts behind the first ones, each with a space ahead -/
def tailB : List ByteArray → ByteArray
  | [] => ByteArray.empty
  | y :: r => space ++ y ++ tailB r
theorem tailB_data : ∀ r : List ByteArray, (tailB r).data.toList = Lib.joinTail [32] (r.map (·.data.toList))
  | [] => rfl
  | y :: r => by
    rw [tailB, ba_app, ba_app, tailB_data r]
    simp [Lib.joinTail, d1]
theorem join_app (xs ys : List ByteArray) (h : xs ≠ []) : joinB space (xs ++ ys) = joinB space xs ++ tailB ys := by
  cases xs with
  | nil => exact absurd rfl h
  | cons x r =>
    refine ba_ext ?_
    rw [ba_app, tailB_data]
    show Lib.join ((x :: (r ++ ys)).map (·.data.toList)) space.data.toList = Lib.join ((x :: r).map (·.data.toList)) space.data.toList ++ _
    rw [List.map_cons, List.map_cons, Lib.join_cons, Lib.join_cons, List.map_append, joinTail_app, d1]
    simp [List.append_assoc]
def covA (N A : ByteArray) : List ByteArray := [(⟨#[99, 111, 118, 101, 114]⟩ : ByteArray), (⟨#[112, 97, 99, 107, 105, 110, 103]⟩ : ByteArray), N, (⟨#[111, 102]⟩ : ByteArray), A]
def covAT (N A : ByteArray) : ByteArray := (⟨#[99, 111, 118, 101, 114, 32, 112, 97, 99, 107, 105, 110, 103, 32]⟩ : ByteArray) ++ N ++ (⟨#[32, 111, 102, 32]⟩ : ByteArray) ++ A
theorem covA_is (N A : ByteArray) : joinB space (covA N A) = covAT N A := by
  unfold covA covAT
  simp only [joinB_cons2, joinB_one]
  refine ba_ext ?_
  simp [space]
def covB (b : Bool) (N S : ByteArray) : List ByteArray := if b then [(⟨#[116, 114, 97, 110, 115, 118, 101, 114, 115, 97, 108]⟩ : ByteArray), N, (⟨#[98, 121]⟩ : ByteArray), S] else []
def covBT (b : Bool) (X N S : ByteArray) : ByteArray := if b then X ++ (⟨#[32, 116, 114, 97, 110, 115, 118, 101, 114, 115, 97, 108, 32]⟩ : ByteArray) ++ N ++ (⟨#[32, 98, 121, 32]⟩ : ByteArray) ++ S else X
theorem covB_is (b : Bool) (X N S : ByteArray) : X ++ tailB (covB b N S) = covBT b X N S := by
  cases b with
  | false => exact ba_ext (by rw [ba_app]; show X.data.toList ++ [] = X.data.toList; simp)
  | true =>
    refine ba_ext ?_
    simp [covB, covBT, tailB, space]
def covC (b : Bool) (N M P : ByteArray) : List ByteArray := if b then [(⟨#[115, 109, 97, 108, 108, 101, 115, 116]⟩ : ByteArray), N, (⟨#[103, 114, 101, 101, 100, 121]⟩ : ByteArray), M, (⟨#[112, 114, 105, 99, 101, 115]⟩ : ByteArray), P] else []
def covCT (b : Bool) (X N M P : ByteArray) : ByteArray := if b then X ++ (⟨#[32, 115, 109, 97, 108, 108, 101, 115, 116, 32]⟩ : ByteArray) ++ N ++ (⟨#[32, 103, 114, 101, 101, 100, 121, 32]⟩ : ByteArray) ++ M ++ (⟨#[32, 112, 114, 105, 99, 101, 115, 32]⟩ : ByteArray) ++ P else X
theorem covC_is (b : Bool) (X N M P : ByteArray) : X ++ tailB (covC b N M P) = covCT b X N M P := by
  cases b with
  | false => exact ba_ext (by rw [ba_app]; show X.data.toList ++ [] = X.data.toList; simp)
  | true =>
    refine ba_ext ?_
    simp [covC, covCT, tailB, space]
def covL (g : Int) (l : List Int) : List ByteArray := (covA (itoaB ((pkL g l).length : Int)) (famTx g (pkL g l)) ++ covB (tnOk g l) (itoaB (tnN g l)) (setTx g (tnS g l))) ++ covC (smallB g l) (itoaB ((smallL g l).length : Int)) (itoaB ((greedyL g l).length : Int)) (numB (pricesL g l))
def covT (g : Int) (l : List Int) : ByteArray := covCT (smallB g l) (covBT (tnOk g l) (covAT (itoaB ((pkL g l).length : Int)) (famTx g (pkL g l))) (itoaB (tnN g l)) (setTx g (tnS g l))) (itoaB ((smallL g l).length : Int)) (itoaB ((greedyL g l).length : Int)) (numB (pricesL g l))
theorem cov_is (g : Int) (l : List Int) : joinB space (covL g l) = covT g l := by
  unfold covL covT
  rw [join_app _ _ (by simp [covA]), join_app _ _ (by simp [covA]), covA_is, covB_is, covC_is]
def covLn (g : Int) (l : List Int) : ByteArray := if isFamB g l then covT g l else ByteArray.empty
theorem covLn_yes {g : Int} {l : List Int} (h : isFamB g l = true) : covLn g l = covT g l := by unfold covLn; rw [if_pos h]
theorem covLn_no {g : Int} {l : List Int} (h : isFamB g l = false) : covLn g l = ByteArray.empty := by unfold covLn; rw [h]; rfl
theorem pricesL_6 (g : Int) (l : List Int) : (pricesL g l).length ≤ 6 := by
  unfold pricesL
  split
  · rename_i h
    rw [prTo_len]
    unfold greedyB greedyOf at h
    split at h
    · rename_i hf
      obtain ⟨h0, h6, _⟩ := famOk hf
      omega
    · simp at h
  · simp
theorem covAT_size (N A : ByteArray) (hN : N.size ≤ 21) (hA : A.size ≤ 10000) : (covAT N A).size ≤ 10100 := by
  unfold covAT
  simp only [ByteArray.size_append]
  have e1 : (⟨#[99, 111, 118, 101, 114, 32, 112, 97, 99, 107, 105, 110, 103, 32]⟩ : ByteArray).size = 14 := rfl
  have e2 : (⟨#[32, 111, 102, 32]⟩ : ByteArray).size = 4 := rfl
  omega
theorem covBT_size (b : Bool) (X N S : ByteArray) (hX : X.size ≤ 10100) (hN : N.size ≤ 21) (hS : S.size ≤ 132) : (covBT b X N S).size ≤ 10300 := by
  cases b with
  | false => show X.size ≤ _; omega
  | true =>
    unfold covBT
    rw [if_pos rfl]
    simp only [ByteArray.size_append]
    have e1 : (⟨#[32, 116, 114, 97, 110, 115, 118, 101, 114, 115, 97, 108, 32]⟩ : ByteArray).size = 13 := rfl
    have e2 : (⟨#[32, 98, 121, 32]⟩ : ByteArray).size = 4 := rfl
    omega
theorem covCT_size (b : Bool) (X N M P : ByteArray) (hX : X.size ≤ 10300) (hN : N.size ≤ 21) (hM : M.size ≤ 21) (hP : P.size ≤ 200) : (covCT b X N M P).size ≤ 11000 := by
  cases b with
  | false => show X.size ≤ _; omega
  | true =>
    unfold covCT
    rw [if_pos rfl]
    simp only [ByteArray.size_append]
    have e1 : (⟨#[32, 115, 109, 97, 108, 108, 101, 115, 116, 32]⟩ : ByteArray).size = 10 := rfl
    have e2 : (⟨#[32, 103, 114, 101, 101, 100, 121, 32]⟩ : ByteArray).size = 8 := rfl
    have e3 : (⟨#[32, 112, 114, 105, 99, 101, 115, 32]⟩ : ByteArray).size = 8 := rfl
    omega
theorem pkL_64 (g : Int) (l : List Int) : (pkL g l).length ≤ 64 := by
  unfold pkL
  split
  · rename_i hf
    exact packS_len 64 l 0 [] [] (by simpa using fam_len hf) (by simp)
  · simp
theorem covT_size (g : Int) (l : List Int) (h : smallB g l = true → ∀ x ∈ pricesL g l, InR x) : (covT g l).size ≤ 11000 := by
  have h1 := pkL_64 g l
  have h2 := itoaB_size ((pkL g l).length : Int) ⟨by omega, by omega⟩
  have h3 := famTx_size g (pkL g l)
  have h4 := tnN_bd g l
  have h5 := itoaB_size (tnN g l) ⟨by omega, by omega⟩
  have h6 := setTx_size g (tnS g l)
  have h7 := covAT_size _ _ h2 h3
  have h8 := covBT_size (tnOk g l) _ _ _ h7 h5 h6
  unfold covT
  cases hb : smallB g l with
  | false => exact Nat.le_trans h8 (by decide)
  | true =>
    have h9 := smallL_len g l
    have ha := greedyL_64 g l
    have hc := numB_size _ (h hb)
    have hd := pricesL_6 g l
    exact covCT_size _ _ _ _ _ h8 (itoaB_size _ ⟨by omega, by omega⟩) (itoaB_size _ ⟨by omega, by omega⟩) (by omega)
end Go.Proofs.YtelmokapdkepbaaDoor
end
