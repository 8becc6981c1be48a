/- The line of covers: what is computed. Sorted lists without repetition: the plain law. Numbers that are put into an ascending list. Kept blockers: which are right. slices.DeleteFunc with a function that looks through one pointer. Families of sorted sets: the library's contracts. Families of given sets. New kept blockers. Sets that are taken from a kept blocker. -/
import Derived.Test.YtipejodijbjpcaaGreatDoorQ26
import Derived.Lib.SlicesCompact
import Derived.Lib.SliceRun
section
namespace Go.Proofs.YtipejodijbjpcaaGreatDoor
open Go.RowKit Go.G5

/-- the parts behind the first ones, each with a space ahead -/
def tailB : List ByteArray → ByteArray
  | [] => ByteArray.empty
  | y :: r => space ++ y ++ tailB r
theorem tailB_data : ∀ r : List ByteArray, (tailB r).data.toList = Lib.joinTail [32] (r.map (·.data.toList))
  | [] => rfl
  | y :: r => by
    rw [tailB, ba_app, ba_app, tailB_data r]
    simp [Lib.joinTail, d1]
theorem join_app (xs ys : List ByteArray) (h : xs ≠ []) : joinB space (xs ++ ys) = joinB space xs ++ tailB ys := by
  cases xs with
  | nil => exact absurd rfl h
  | cons x r =>
    refine ba_ext ?_
    rw [ba_app, tailB_data]
    show Lib.join ((x :: (r ++ ys)).map (·.data.toList)) space.data.toList = Lib.join ((x :: r).map (·.data.toList)) space.data.toList ++ _
    rw [List.map_cons, List.map_cons, Lib.join_cons, Lib.join_cons, List.map_append, joinTail_app, d1]
    simp [List.append_assoc]
def covA (N A : ByteArray) : List ByteArray := [(⟨#[99, 111, 118, 101, 114]⟩ : ByteArray), (⟨#[112, 97, 99, 107, 105, 110, 103]⟩ : ByteArray), N, (⟨#[111, 102]⟩ : ByteArray), A]
def covAT (N A : ByteArray) : ByteArray := (⟨#[99, 111, 118, 101, 114, 32, 112, 97, 99, 107, 105, 110, 103, 32]⟩ : ByteArray) ++ N ++ (⟨#[32, 111, 102, 32]⟩ : ByteArray) ++ A
theorem covA_is (N A : ByteArray) : joinB space (covA N A) = covAT N A := by
  unfold covA covAT
  simp only [joinB_cons2, joinB_one]
  refine ba_ext ?_
  simp [space]
def covB (b : Bool) (N S : ByteArray) : List ByteArray := if b then [(⟨#[116, 114, 97, 110, 115, 118, 101, 114, 115, 97, 108]⟩ : ByteArray), N, (⟨#[98, 121]⟩ : ByteArray), S] else []
def covBT (b : Bool) (X N S : ByteArray) : ByteArray := if b then X ++ (⟨#[32, 116, 114, 97, 110, 115, 118, 101, 114, 115, 97, 108, 32]⟩ : ByteArray) ++ N ++ (⟨#[32, 98, 121, 32]⟩ : ByteArray) ++ S else X
theorem covB_is (b : Bool) (X N S : ByteArray) : X ++ tailB (covB b N S) = covBT b X N S := by
  cases b with
  | false => exact ba_ext (by rw [ba_app]; show X.data.toList ++ [] = X.data.toList; simp)
  | true =>
    refine ba_ext ?_
    simp [covB, covBT, tailB, space]
def covC (b : Bool) (N M P : ByteArray) : List ByteArray := if b then [(⟨#[115, 109, 97, 108, 108, 101, 115, 116]⟩ : ByteArray), N, (⟨#[103, 114, 101, 101, 100, 121]⟩ : ByteArray), M, (⟨#[112, 114, 105, 99, 101, 115]⟩ : ByteArray), P] else []
def covCT (b : Bool) (X N M P : ByteArray) : ByteArray := if b then X ++ (⟨#[32, 115, 109, 97, 108, 108, 101, 115, 116, 32]⟩ : ByteArray) ++ N ++ (⟨#[32, 103, 114, 101, 101, 100, 121, 32]⟩ : ByteArray) ++ M ++ (⟨#[32, 112, 114, 105, 99, 101, 115, 32]⟩ : ByteArray) ++ P else X
theorem covC_is (b : Bool) (X N M P : ByteArray) : X ++ tailB (covC b N M P) = covCT b X N M P := by
  cases b with
  | false => exact ba_ext (by rw [ba_app]; show X.data.toList ++ [] = X.data.toList; simp)
  | true =>
    refine ba_ext ?_
    simp [covC, covCT, tailB, space]
def covL (g : Int) (l : List Int) : List ByteArray := (covA (itoaB ((pkL g l).length : Int)) (famTx g (pkL g l)) ++ covB (tnOk g l) (itoaB (tnN g l)) (setTx g (tnS g l))) ++ covC (smallB g l) (itoaB ((smallL g l).length : Int)) (itoaB ((greedyL g l).length : Int)) (numB (pricesL g l))
def covT (g : Int) (l : List Int) : ByteArray := covCT (smallB g l) (covBT (tnOk g l) (covAT (itoaB ((pkL g l).length : Int)) (famTx g (pkL g l))) (itoaB (tnN g l)) (setTx g (tnS g l))) (itoaB ((smallL g l).length : Int)) (itoaB ((greedyL g l).length : Int)) (numB (pricesL g l))
theorem cov_is (g : Int) (l : List Int) : joinB space (covL g l) = covT g l := by
  unfold covL covT
  rw [join_app _ _ (by simp [covA]), join_app _ _ (by simp [covA]), covA_is, covB_is, covC_is]
def covLn (g : Int) (l : List Int) : ByteArray := if isFamB g l then covT g l else ByteArray.empty
theorem covLn_yes {g : Int} {l : List Int} (h : isFamB g l = true) : covLn g l = covT g l := by unfold covLn; rw [if_pos h]
theorem covLn_no {g : Int} {l : List Int} (h : isFamB g l = false) : covLn g l = ByteArray.empty := by unfold covLn; rw [h]; rfl
theorem pricesL_6 (g : Int) (l : List Int) : (pricesL g l).length ≤ 6 := by
  unfold pricesL
  split
  · rename_i h
    rw [prTo_len]
    unfold greedyB greedyOf at h
    split at h
    · rename_i hf
      obtain ⟨h0, h6, _⟩ := famOk hf
      omega
    · simp at h
  · simp
theorem covAT_size (N A : ByteArray) (hN : N.size ≤ 21) (hA : A.size ≤ 10000) : (covAT N A).size ≤ 10100 := by
  unfold covAT
  simp only [ByteArray.size_append]
  have e1 : (⟨#[99, 111, 118, 101, 114, 32, 112, 97, 99, 107, 105, 110, 103, 32]⟩ : ByteArray).size = 14 := rfl
  have e2 : (⟨#[32, 111, 102, 32]⟩ : ByteArray).size = 4 := rfl
  omega
theorem covBT_size (b : Bool) (X N S : ByteArray) (hX : X.size ≤ 10100) (hN : N.size ≤ 21) (hS : S.size ≤ 132) : (covBT b X N S).size ≤ 10300 := by
  cases b with
  | false => show X.size ≤ _; omega
  | true =>
    unfold covBT
    rw [if_pos rfl]
    simp only [ByteArray.size_append]
    have e1 : (⟨#[32, 116, 114, 97, 110, 115, 118, 101, 114, 115, 97, 108, 32]⟩ : ByteArray).size = 13 := rfl
    have e2 : (⟨#[32, 98, 121, 32]⟩ : ByteArray).size = 4 := rfl
    omega
theorem covCT_size (b : Bool) (X N M P : ByteArray) (hX : X.size ≤ 10300) (hN : N.size ≤ 21) (hM : M.size ≤ 21) (hP : P.size ≤ 200) : (covCT b X N M P).size ≤ 11000 := by
  cases b with
  | false => show X.size ≤ _; omega
  | true =>
    unfold covCT
    rw [if_pos rfl]
    simp only [ByteArray.size_append]
    have e1 : (⟨#[32, 115, 109, 97, 108, 108, 101, 115, 116, 32]⟩ : ByteArray).size = 10 := rfl
    have e2 : (⟨#[32, 103, 114, 101, 101, 100, 121, 32]⟩ : ByteArray).size = 8 := rfl
    have e3 : (⟨#[32, 112, 114, 105, 99, 101, 115, 32]⟩ : ByteArray).size = 8 := rfl
    omega
theorem pkL_64 (g : Int) (l : List Int) : (pkL g l).length ≤ 64 := by
  unfold pkL
  split
  · rename_i hf
    exact packS_len 64 l 0 [] [] (by simpa using fam_len hf) (by simp)
  · simp
theorem covT_size (g : Int) (l : List Int) (h : smallB g l = true → ∀ x ∈ pricesL g l, InR x) : (covT g l).size ≤ 11000 := by
  have h1 := pkL_64 g l
  have h2 := itoaB_size ((pkL g l).length : Int) ⟨by omega, by omega⟩
  have h3 := famTx_size g (pkL g l)
  have h4 := tnN_bd g l
  have h5 := itoaB_size (tnN g l) ⟨by omega, by omega⟩
  have h6 := setTx_size g (tnS g l)
  have h7 := covAT_size _ _ h2 h3
  have h8 := covBT_size (tnOk g l) _ _ _ h7 h5 h6
  unfold covT
  cases hb : smallB g l with
  | false => exact Nat.le_trans h8 (by decide)
  | true =>
    have h9 := smallL_len g l
    have ha := greedyL_64 g l
    have hc := numB_size _ (h hb)
    have hd := pricesL_6 g l
    exact covCT_size _ _ _ _ _ h8 (itoaB_size _ ⟨by omega, by omega⟩) (itoaB_size _ ⟨by omega, by omega⟩) (by omega)
end Go.Proofs.YtipejodijbjpcaaGreatDoor
end
section
namespace Go.Proofs.YtipejodijbjpcaaGreatDoor
open Go.RowKit Go.G5

/-! the plain law of sort and compact -/
def gatherL (l : List Int) : List Int := Lib.compact (l.mergeSort fun x y => decide (x ≤ y))
theorem compact_asc (d : Array Int) (mono : ∀ i j, i ≤ j → j < d.size → d[i]! ≤ d[j]!) : ∀ m, m ≤ d.size →
    (Lib.compactUpTo d m).Pairwise (· < ·) ∧ (∀ x ∈ Lib.compactUpTo d m, ∃ j, j < m ∧ x = d[j]!) ∧ (∀ j, j < m → d[j]! ∈ Lib.compactUpTo d m) := by
  intro m
  induction m with
  | zero => intro _; simp [Lib.compactUpTo]
  | succ m ih =>
    intro hm
    obtain ⟨h1, h2, h3⟩ := ih (by omega)
    rw [Lib.compactUpTo_succ]
    by_cases hk : Lib.keeps d m = true
    · rw [if_pos hk]
      have hlt : ∀ x ∈ Lib.compactUpTo d m, x < d[m]! := by
        intro x hx
        obtain ⟨j, hj, rfl⟩ := h2 x hx
        have e1 := mono j (m - 1) (by omega) (by omega)
        have e2 := mono (m - 1) m (by omega) (by omega)
        unfold Lib.keeps at hk
        have hk' := of_decide_eq_true hk
        rcases hk' with h0 | hne
        · omega
        · omega
      refine ⟨?_, ?_, ?_⟩
      · rw [List.pairwise_append]
        exact ⟨h1, by simp, fun a ha b hb => by simp only [List.mem_singleton] at hb; rw [hb]; exact hlt a ha⟩
      · intro x hx
        rcases List.mem_append.1 hx with hx | hx
        · obtain ⟨j, hj, e⟩ := h2 x hx
          exact ⟨j, by omega, e⟩
        · simp only [List.mem_singleton] at hx
          exact ⟨m, by omega, hx⟩
      · intro j hj
        by_cases hjm : j < m
        · exact List.mem_append.2 (.inl (h3 j hjm))
        · have : j = m := by omega
          subst this
          exact List.mem_append.2 (.inr (by simp))
    · rw [if_neg hk, List.append_nil]
      refine ⟨h1, fun x hx => ?_, fun j hj => ?_⟩
      · obtain ⟨j, hj, e⟩ := h2 x hx
        exact ⟨j, by omega, e⟩
      · by_cases hjm : j < m
        · exact h3 j hjm
        · have : j = m := by omega
          subst this
          unfold Lib.keeps at hk
          have hk' : ¬ (j = 0 ∨ d[j]! ≠ d[j - 1]!) := fun h => hk (decide_eq_true h)
          have h0 : j ≠ 0 := fun h => hk' (.inl h)
          have he : d[j]! = d[j - 1]! := Classical.byContradiction fun h => hk' (.inr h)
          rw [he]
          exact h3 (j - 1) (by omega)
theorem sort_mono (l : List Int) : ∀ i j, i ≤ j → j < (l.mergeSort fun x y => decide (x ≤ y)).toArray.size → (l.mergeSort fun x y => decide (x ≤ y)).toArray[i]! ≤ (l.mergeSort fun x y => decide (x ≤ y)).toArray[j]! := by
  have hp : (l.mergeSort fun x y => decide (x ≤ y)).Pairwise (fun a b => decide (a ≤ b) = true) :=
    List.pairwise_mergeSort (le := fun x y : Int => decide (x ≤ y)) (fun a b c h1 h2 => decide_eq_true (Int.le_trans (of_decide_eq_true h1) (of_decide_eq_true h2))) (fun a b => by
      rcases Int.le_total a b with h | h
      · show (decide (a ≤ b) || decide (b ≤ a)) = true
        rw [decide_eq_true h]; rfl
      · show (decide (a ≤ b) || decide (b ≤ a)) = true
        rw [decide_eq_true h]; simp) l
  generalize l.mergeSort (fun x y => decide (x ≤ y)) = s at *
  intro i j hij hj
  rw [getElem!_pos s.toArray i (by omega), getElem!_pos s.toArray j hj]
  simp only [List.getElem_toArray]
  rcases Nat.lt_or_ge i j with h | h
  · exact of_decide_eq_true (List.pairwise_iff_getElem.1 hp i j (by simpa using (show i < s.toArray.size by omega)) (by simpa using hj) h)
  · have : i = j := by omega
    subst this
    exact Int.le_refl _
theorem gatherL_asc (l : List Int) : (gatherL l).Pairwise (· < ·) := by
  have := (compact_asc _ (sort_mono l) _ (Nat.le_refl _)).1
  simpa [gatherL, Lib.compact] using this
theorem gatherL_mem (l : List Int) (x : Int) : x ∈ gatherL l ↔ x ∈ l := by
  have h := compact_asc _ (sort_mono l) _ (Nat.le_refl _)
  have hm : ∀ y, y ∈ (l.mergeSort fun x y => decide (x ≤ y)) ↔ y ∈ l := fun y => List.mem_mergeSort
  have e : gatherL l = Lib.compactUpTo (l.mergeSort fun x y => decide (x ≤ y)).toArray (l.mergeSort fun x y => decide (x ≤ y)).toArray.size := by simp [gatherL, Lib.compact]
  rw [e, ← hm]
  generalize l.mergeSort (fun x y => decide (x ≤ y)) = s at *
  constructor
  · intro hx
    obtain ⟨j, hj, rfl⟩ := h.2.1 x hx
    rw [getElem!_pos s.toArray j hj]
    simp
  · intro hx
    obtain ⟨j, hj, rfl⟩ := List.getElem_of_mem hx
    have := h.2.2 j (by simpa using hj)
    rw [getElem!_pos s.toArray j (by simpa using hj)] at this
    simpa using this
/-- strictly ascending lists of the same numbers are the same -/
theorem asc_ext : ∀ (a b : List Int), a.Pairwise (· < ·) → b.Pairwise (· < ·) → (∀ x, x ∈ a ↔ x ∈ b) → a = b := by
  intro a
  induction a with
  | nil =>
    intro b _ _ h
    cases b with
    | nil => rfl
    | cons y b => have := (h y).2 (by simp); simp at this
  | cons x a ih =>
    intro b ha hb h
    cases b with
    | nil => have := (h x).1 (by simp); simp at this
    | cons y b =>
      obtain ⟨ha1, ha2⟩ := List.pairwise_cons.1 ha
      obtain ⟨hb1, hb2⟩ := List.pairwise_cons.1 hb
      have hxy : x = y := by
        have h1 := (h x).1 (by simp)
        have h2 := (h y).2 (by simp)
        rcases List.mem_cons.1 h1 with h1 | h1
        · exact h1
        · rcases List.mem_cons.1 h2 with h2 | h2
          · exact h2.symm
          · have := hb1 x h1; have := ha1 y h2; omega
      subst hxy
      rw [ih b ha2 hb2 fun z => ?_]
      constructor
      · intro hz
        rcases List.mem_cons.1 ((h z).1 (List.mem_cons.2 (.inr hz))) with e | e
        · subst e; have := ha1 z hz; omega
        · exact e
      · intro hz
        rcases List.mem_cons.1 ((h z).2 (List.mem_cons.2 (.inr hz))) with e | e
        · subst e; have := hb1 z hz; omega
        · exact e
theorem gatherL_id (l : List Int) (h : l.Pairwise (· < ·)) : gatherL l = l := asc_ext _ _ (gatherL_asc l) h (gatherL_mem l)
theorem compact_len (d : Array Int) (m : Nat) : (Lib.compactUpTo d m).length ≤ m := by
  unfold Lib.compactUpTo
  rw [List.length_map]
  have := List.length_filter_le (Lib.keeps d) (List.range m)
  simpa using this
theorem gatherL_len (l : List Int) : (gatherL l).length ≤ l.length := by
  have := compact_len (l.mergeSort fun x y => decide (x ≤ y)).toArray (l.mergeSort fun x y => decide (x ≤ y)).length
  unfold gatherL Lib.compact
  simpa using this

/-! the library's functions in these words -/
end Go.Proofs.YtipejodijbjpcaaGreatDoor
end
section
namespace Go.Proofs.YtipejodijbjpcaaGreatDoor
open Go.RowKit Go.G5

def putL (l : List Int) (x : Int) : List Int := gatherL (l ++ [x])
theorem putL_mem (l : List Int) (x y : Int) : y ∈ putL l x ↔ y ∈ l ∨ y = x := by
  unfold putL; rw [gatherL_mem]; simp
theorem putL_asc (l : List Int) (x : Int) : (putL l x).Pairwise (· < ·) := gatherL_asc _
theorem putL_len (l : List Int) (x : Int) : (putL l x).length ≤ l.length + 1 := by
  have := gatherL_len (l ++ [x])
  simpa [putL] using this
theorem putL_gather (A : List Int) (x : Int) : putL (gatherL A) x = gatherL (A ++ [x]) := by
  refine asc_ext _ _ (putL_asc _ _) (gatherL_asc _) ?_
  intro y
  rw [putL_mem, gatherL_mem, gatherL_mem]
  simp
theorem put_have (l : List Int) (x : Int) (h : l.Pairwise (· < ·)) (hx : x ∈ l) : putL l x = l := by
  refine asc_ext _ _ (putL_asc _ _) h ?_
  intro y
  rw [putL_mem]
  constructor
  · rintro (h | h)
    · exact h
    · rw [h]; exact hx
  · exact .inl
theorem put_new (l : List Int) (x : Int) (i : Nat) (h : l.Pairwise (· < ·)) (h1 : ∀ y ∈ l.drop i, x < y) (h2 : ∀ y ∈ l.take i, y < x) : putL l x = (l.take i ++ [x]) ++ l.drop i := by
  refine asc_ext _ _ (putL_asc _ _) ?_ ?_
  · rw [← List.take_append_drop i l, List.pairwise_append] at h
    rw [List.pairwise_append, List.pairwise_append]
    refine ⟨⟨h.1, by simp, ?_⟩, h.2.1, ?_⟩
    · intro a ha b hb
      rw [List.mem_singleton] at hb
      rw [hb]; exact h2 a ha
    · intro a ha b hb
      rw [List.mem_append, List.mem_singleton] at ha
      rcases ha with ha | ha
      · exact h.2.2 a ha b hb
      · rw [ha]; exact h1 b hb
  · intro y
    rw [putL_mem]
    conv => lhs; rw [← List.take_append_drop i l]
    simp only [List.mem_append, List.mem_singleton]
    constructor
    · rintro ((h | h) | h)
      · exact .inl (.inl h)
      · exact .inr h
      · exact .inl (.inr h)
    · rintro ((h | h) | h)
      · exact .inl (.inl h)
      · exact .inr h
      · exact .inl (.inr h)
theorem take_below (l : List Int) (x : Int) (i : Nat) (h : l.Pairwise (· < ·)) (hi : i < l.length) (hx : l[i] < x) : ∀ y ∈ l.take (i + 1), y < x := by
  intro y hy
  rw [List.take_succ_eq_append_getElem hi, List.mem_append, List.mem_singleton] at hy
  rcases hy with hy | hy
  · obtain ⟨j, hj, rfl⟩ := List.getElem_of_mem hy
    rw [List.length_take] at hj
    have := List.pairwise_iff_getElem.1 h j i (by omega) hi (by omega)
    rw [List.getElem_take]
    omega
  · rw [hy]; exact hx
theorem drop_above (l : List Int) (x : Int) (i : Nat) (hi : i < l.length) (h : ∀ y ∈ l.drop (i + 1), x < y) (hx : x < l[i]) : ∀ y ∈ l.drop i, x < y := by
  intro y hy
  rw [List.drop_eq_getElem_cons hi, List.mem_cons] at hy
  rcases hy with hy | hy
  · rw [hy]; exact hx
  · exact h y hy
end Go.Proofs.YtipejodijbjpcaaGreatDoor
end
section
namespace Go.Proofs.YtipejodijbjpcaaGreatDoor
open Go.RowKit Go.G5

def keptB (g : Int) (l m : List Int) : Bool := isFamB g l && decide (blkL g l = m)

end Go.Proofs.YtipejodijbjpcaaGreatDoor
end
section
namespace Go.Proofs.YtipejodijbjpcaaGreatDoor
open Go.RowKit Go.G5

def keepL (P : Int → Bool) (l : List Int) : List Int := l.filter fun x => !P x
theorem keepL_none (P : Int → Bool) (l : List Int) (h : l.any P = false) : keepL P l = l := by
  unfold keepL
  rw [List.filter_eq_self]
  intro a ha
  have := List.any_eq_false.1 h a ha
  simpa using this
theorem keepL_len (P : Int → Bool) (l : List Int) : (keepL P l).length ≤ l.length := List.length_filter_le _ _
theorem keepL_snoc (P : Int → Bool) (l : List Int) (b : Nat) (hb : b < l.length) : keepL P (l.take (b + 1)) = keepL P (l.take b) ++ (if P l[b] then [] else [l[b]]) := by
  unfold keepL
  rw [List.take_succ_eq_append_getElem hb, List.filter_append]
  cases h : P l[b] <;> simp [h]
theorem del_start (P : Int → Bool) (l : List Int) (k : Nat) (hk : k < l.length) (h : (l.take k).any P = false) (hP : P l[k] = true) : l.take k = keepL P (l.take (k + 1)) := by
  rw [keepL_snoc P l k hk, keepL_none P _ h, hP]; simp
theorem del_keep (P : Int → Bool) (l m : List Int) (a b : Nat) (hab : a < b) (hb : b < l.length) (hm : m.length = l.length) (h1 : m.take a = keepL P (l.take b)) (h2 : m.drop b = l.drop b) (hP : P l[b] = false) :
    (m.set a l[b]).take (a + 1) = keepL P (l.take (b + 1)) ∧ (m.set a l[b]).drop (b + 1) = l.drop (b + 1) := by
  constructor
  · rw [keepL_snoc P l b hb, hP, ← h1, List.take_succ_eq_append_getElem (by rw [List.length_set]; omega), List.take_set_of_le (Nat.le_refl a), List.getElem_set_self]
    simp
  · rw [List.drop_set_of_lt (by omega), Nat.add_comm b 1, Nat.add_comm 1 b, ← List.drop_drop, ← List.drop_drop, h2]
theorem del_skip (P : Int → Bool) (l m : List Int) (a b : Nat) (hb : b < l.length) (h1 : m.take a = keepL P (l.take b)) (h2 : m.drop b = l.drop b) (hP : P l[b] = true) :
    m.take a = keepL P (l.take (b + 1)) ∧ m.drop (b + 1) = l.drop (b + 1) := by
  constructor
  · rw [keepL_snoc P l b hb, hP, h1]; simp
  · rw [← List.drop_drop, ← List.drop_drop, h2]
theorem del_at (l m : List Int) (b : Nat) (hb : b < l.length) (hm : m.length = l.length) (h2 : m.drop b = l.drop b) : m[b]'(by omega) = l[b] := by
  have h := congrArg (fun z => z[0]?) h2
  simp only [List.getElem?_drop, Nat.add_zero] at h
  rw [List.getElem?_eq_getElem (by omega), List.getElem?_eq_getElem hb] at h
  exact Option.some.inj h

theorem OwnW.cleared {E : TypeId} {B : Nat} {g cap n : Nat} {m : List Int} (k : Nat) (hk : k ≤ m.length) : ∀ (vs : List Value) (o : Nat) (w : World), k ≤ o → OwnW E B w (.slice (some ⟨g, 0, none⟩) n cap) m → n = m.length →
    OwnW E B (w.setCells g o vs) (.slice (some ⟨g, 0, none⟩) k cap) (m.take k) ∧ w.grownBy (w.setCells g o vs) (some g) := by
  have base : ∀ (w : World), OwnW E B w (.slice (some ⟨g, 0, none⟩) k cap) (m.take k) → ∀ (vs : List Value) (o : Nat), k ≤ o → OwnW E B (w.setCells g o vs) (.slice (some ⟨g, 0, none⟩) k cap) (m.take k) ∧ w.grownBy (w.setCells g o vs) (some g) := by
    intro w h vs
    induction vs generalizing w with
    | nil => intro o _; exact ⟨h, ⟨rfl, rfl, rfl, Nat.le_refl _, fun _ _ _ => rfl⟩⟩
    | cons v r ih =>
      intro o ho
      have hlen : (m.take k).length = k := by simp; omega
      have h1 : OwnW E B (w.setCell ⟨g, o, none⟩ v) (.slice (some ⟨g, 0, none⟩) k cap) (m.take k) := by
        refine ⟨h.1, ?_⟩
        right
        rcases h.2 with ⟨e, _⟩ | ⟨g', cap', cur, e, hB, hg, hlc, hcc, hm, ht⟩
        · simp at e
        · simp only [Value.slice.injEq, Option.some.injEq, Addr.mk.injEq, and_true] at e
          obtain ⟨rfl, _, rfl⟩ := e
          refine ⟨g, cap, cur.setIfInBounds o v, by rw [hlen], hB, ?_, hlc, by simpa using hcc, hm, ?_⟩
          · simp [World.setCell, Array.getElem?_modify, hg]
          · rw [Array.toList_setIfInBounds, List.take_set_of_le (by omega), ht]
      obtain ⟨q1, q2⟩ := ih _ h1 (o + 1) (by omega)
      exact ⟨q1, ⟨q2.os, q2.tape, q2.output, by show w.heap.size ≤ ((w.setCell ⟨g, o, none⟩ v).setCells g (o + 1) r).heap.size; simpa using q2.size, fun b hb hne => by
        have := q2.block b (by simpa using hb) hne
        show ((w.setCell ⟨g, o, none⟩ v).setCells g (o + 1) r).heap[b]? = _
        rw [this]; exact Below.heap_setCell w _ _ b (by intro e; exact hne (by rw [e]))⟩⟩
  intro vs o w ho h hn
  refine base w ⟨fun x hx => h.1 x (List.mem_of_mem_take hx), ?_⟩ vs o ho
  right
  have hlen : (m.take k).length = k := by simp; omega
  rcases h.2 with ⟨e, _⟩ | ⟨g', cap', cur, e, hB, hg, hlc, hcc, hm, ht⟩
  · simp at e
  · simp only [Value.slice.injEq, Option.some.injEq, Addr.mk.injEq, and_true] at e
    obtain ⟨rfl, _, rfl⟩ := e
    refine ⟨g, cap, cur, by rw [hlen], hB, hg, by omega, hcc, hm, ?_⟩
    rw [hlen]
    have := congrArg (List.take k) ht
    rw [List.take_take, Nat.min_eq_left hk, ← List.map_take] at this
    exact this

set_option maxHeartbeats 1000000 in
theorem indexFunc2_any (l : List Int) (v : Value) (w : World) (hv : Ints w v l) (c : FuncId) (he : ∀ args w, (callFunc c args).run Tryz.prog w = .ok (.enter c args) w) (g : Nat) (P : Int → Bool)
    (hw : ∀ (t : Int) W', t ∈ l → Below w.heap.size w W' → Calls Tryz.prog c #[.int .i64 t, .pointer (some ⟨g, 0, none⟩)] W' fun e w2 => e = .returned (.bool (P t)) ∧ Below W'.heap.size W' w2) :
    Calls Tryz.prog 309 #[v, .func (.func c) #[] #[.pointer (some ⟨g, 0, none⟩)]] w fun e w' => ((e = .returned (.int .i64 (-1)) ∧ l.any P = false) ∨ ∃ k : Nat, ∃ hk : k < l.length, e = .returned (.int .i64 k) ∧ (l.take k).any P = false ∧ P l[k] = true) ∧ Below w.heap.size w w' := by
  obtain ⟨a, b, off, cp, rfl, hlen, hix, hc, hb⟩ := hv.view Tryz.prog 22 3 Tryz.underlying22 intElem
  have HW := Lib.hid hw
  clear hw
  go_enter Tryz.func309, Tryz.ntmps309
  go_wp2_with fail
  go_loopw [8] (fun i wr => ∃ k : Nat, k ≤ l.length ∧ i = .int .i64 k ∧ (l.take k).any P = false ∧ Below w.heap.size w wr) (fun i _ => l.length - (intOf i).toNat)
  case atStart => exact ⟨0, Nat.zero_le _, rfl, by simp, Below.refl _ _⟩
  case round =>
    obtain ⟨k, hk, rfl, hall, B⟩ := hrel
    have H := Lib.hid hall
    clear hall
    by_cases hlt : k < l.length
    · have hck := cells_below hc hb B (Nat.le_refl _) k hlt
      have hcl := HW.out l[k] wr (List.getElem_mem hlt) B
      have htk : (l.take (k + 1)).any P = ((l.take k).any P || P l[k]) := by rw [List.take_succ_eq_append_getElem hlt, List.any_append]; simp
      have HTK := Lib.hid htk
      clear htk
      cases hP : P l[k] with
      | true =>
        have HH := Lib.hid hP
        rw [hP] at hcl
        clear hP
        go_wp2_with (go_at_fn c; refine hcl.mono ?_; rintro e w2 ⟨rfl, hb2⟩)
        go_ret
        exact ⟨.inr ⟨k, hlt, rfl, H.out, HH.out⟩, B.after hb2 B.size⟩
      | false =>
        have HP := Lib.hid hP
        rw [hP] at hcl
        clear hP
        go_wp2_with (go_at_fn c; refine hcl.mono ?_; rintro e w2 ⟨rfl, hb2⟩)
        go_roundw
        case rel => exact ⟨k + 1, by omega, by go_num, by rw [HTK.out, H.out, HP.out]; rfl, B.after hb2 B.size⟩
        case measure => simp [intOf]; omega
    · have hh : l.any P = false := by have := H.out; rw [List.take_of_length_le (by omega)] at this; exact this
      have HH := Lib.hid hh
      clear hh
      go_wp2
      go_ret
      exact ⟨.inl ⟨rfl, HH.out⟩, B⟩

end Go.Proofs.YtipejodijbjpcaaGreatDoor
end
section
namespace Go.Proofs.YtipejodijbjpcaaGreatDoor
open Go.RowKit Go.G5

theorem sort_any (B : Nat) (v : Value) (l : List Int) (w : World) (h : OwnI 3 B w v l) (hl : l.length ≤ 1048576) :
    Calls Tryz.prog 263 #[v] w fun e w' => e = .returned (.tuple #[]) ∧ OwnI 3 B w' v (l.mergeSort fun x y => decide (x ≤ y)) ∧ w.grownBy w' v.ownBlock := by
  have hr : ∀ x ∈ (l.mergeSort fun x y => decide (x ≤ y)), InR x := fun x hx => h.2 x (List.mem_mergeSort.1 hx)
  rcases h.cases with ⟨rfl, rfl⟩ | ⟨g, cap, rfl, hB, hg⟩
  · refine (sh_slices_Sort_int_none none 0 w).mono ?_
    rintro e w' ⟨he, rfl⟩
    exact ⟨he, by simpa using h, World.grownBy.refl _ _⟩
  · refine (sh_slices_Sort_int g 0 cap l w (h.holds rfl) hg (by omega)).mono ?_
    rintro e w' ⟨he, n, os, rfl⟩
    have := h.put (l.mergeSort fun x y => decide (x ≤ y)) (List.length_mergeSort _) hr n os
    exact ⟨he, this.1, this.2⟩
theorem compact_any (B : Nat) (v : Value) (l : List Int) (w : World) (h : OwnI 3 B w v l) (hl : l.length ≤ 1048576) :
    Calls Tryz.prog 265 #[v] w fun e w' => ∃ ad i c, e = .returned (.slice ad i c) ∧ OwnI 3 B w' (.slice ad i c) (Lib.compact l) ∧ w.grownBy w' v.ownBlock := by
  rcases h.cases with ⟨rfl, rfl⟩ | ⟨g, cap, rfl, hB, hg⟩
  · refine (sh_slices_Compact_int_empty none 0 w).mono ?_
    rintro e w' ⟨he, rfl⟩
    exact ⟨none, 0, 0, he, h, World.grownBy.refl _ _⟩
  · have hcap := h.ints.capLe
    have hcl : (Lib.compact l).length ≤ l.length := compact_len l.toArray l.length
    refine (sh_slices_Compact_int g 0 cap l w (h.holds rfl) (by omega) hcap.2.1).mono ?_
    rintro e w' ⟨he, q, rfl⟩
    have hmem : ∀ x ∈ Lib.compact l ++ List.replicate (l.length - (Lib.compact l).length) 0, InR x := by
      intro x hx
      rcases List.mem_append.1 hx with hx | hx
      · unfold Lib.compact Lib.compactUpTo at hx
        obtain ⟨j, hj, rfl⟩ := List.mem_map.1 hx
        have hj' := List.mem_range.1 (List.mem_filter.1 hj).1
        rw [getElem!_pos l.toArray j (by simpa using hj')]
        exact h.2 _ (by simp)
      · have := List.eq_of_mem_replicate hx; subst this; exact ⟨by omega, by omega⟩
    have hp := h.put (Lib.compact l ++ List.replicate (l.length - (Lib.compact l).length) 0) (by simp; omega) hmem q #[]
    rw [Go.Sort.grow_empty] at hp
    have hc := hp.1
    have hcut := OwnI.cut (n := l.length) hc (Lib.compact l).length (by simp)
    rw [List.take_left] at hcut
    exact ⟨_, _, _, he, hcut, hp.2⟩
theorem clip_any (B : Nat) (v : Value) (l : List Int) (w : World) (h : OwnI 3 B w v l) (hl : l.length ≤ 1048576) :
    Calls Tryz.prog 264 #[v] w fun e w' => ∃ ad i c, e = .returned (.slice ad i c) ∧ OwnW 3 B w' (.slice ad i c) l ∧ w = w' := by
  have hW := h.toW
  rcases h.cases with ⟨rfl, rfl⟩ | ⟨g, cap, rfl, hB, hg⟩
  · go_enter Tryz.func264, Tryz.ntmps264
    go_wp2
    go_ret
    exact ⟨none, 0, 0, rfl, hW, rfl⟩
  · have hcap := h.ints.capLe
    have hc2 := hcap.2.1
    have hc3 := hcap.2.2
    unfold maxLen at hc3
    clear hcap
    go_enter Tryz.func264, Tryz.ntmps264
    go_wp2
    go_ret
    refine ⟨some ⟨g, 0, none⟩, l.length, l.length, ?_, ?_, rfl⟩
    · rfl
    · refine ⟨hW.1, ?_⟩
      rcases hW.2 with ⟨e, _⟩ | ⟨g', cap', cur, e, hB', hgg, hlc, hcc, hm, ht⟩
      · simp at e
      · simp only [Value.slice.injEq, Option.some.injEq, Addr.mk.injEq, and_true] at e
        obtain ⟨rfl, _, rfl⟩ := e
        exact .inr ⟨g, l.length, cur, rfl, hB', hgg, Nat.le_refl _, by omega, by omega, ht⟩
end Go.Proofs.YtipejodijbjpcaaGreatDoor
end
section
namespace Go.Proofs.YtipejodijbjpcaaGreatDoor
open Go.RowKit Go.G5

set_option maxHeartbeats 1000000 in
set_option maxRecDepth 100000 in
theorem gather_any (n : Int) (v : Value) (l : List Int) (w : World) (hv : Ints w v l) (hl : l.length ≤ 1048576) :
    Calls Tryz.prog 153 #[.int .i64 n, v] w fun e w' => ∃ ad i c, e = .returned (.agg #[.int .i64 n, .slice ad i c]) ∧ OwnW 3 w.heap.size w' (.slice ad i c) (gatherL l) ∧ Below w.heap.size w w' := by
  obtain ⟨a, c, rfl⟩ := hv.shape
  have hml : (l.mergeSort fun x y => decide (x ≤ y)).length ≤ 1048576 := by rw [List.length_mergeSort]; exact hl
  have hgl := gatherL_len l
  go_enter Tryz.func153, Tryz.ntmps153
  go_wp2_with fail
  refine (clone_any _ l _ (hv.alloc _) hl).mono ?_
  rintro e w1 ⟨p1, i1, q1, rfl, o1, hb1⟩
  have K0 := Blk.new w 27 #[.int .i64 0, .slice none 0 0]
  have K1 := K0.keep hb1
  have B1 : Below w.heap.size w w1 := (bl1 _ _).after hb1 (by simp)
  have o1' := o1.mono (B' := w.heap.size + 1) (by simp)
  have r1 := o1'.lt
  clear K0 o1 hb1
  go_wp2_with fail
  refine (sort_any _ _ l _ o1' hl).mono ?_
  rintro e w2 ⟨rfl, o2, hg2⟩
  have K2 := K1.grow hg2 (by intro hk; have := (r1 _ hk).1; omega)
  have B2 := B1.grown hg2 B1.size (fun k hk => by have := (r1 k hk).1; omega)
  clear hg2 K1 o1'
  go_wp2_with fail
  refine (compact_any _ _ _ _ o2 hml).mono ?_
  rintro e w3 ⟨p3, i3, q3, rfl, o3, hg3⟩
  have K3 := K2.grow hg3 (by intro hk; have := (r1 _ hk).1; omega)
  have B3 := B2.grown hg3 B2.size (fun k hk => by have := (r1 k hk).1; omega)
  clear hg3 K2 o2
  go_wp2_with fail
  refine (clip_any _ _ _ _ o3 (by have e : Lib.compact (l.mergeSort fun x y => decide (x ≤ y)) = gatherL l := rfl; rw [e]; omega)).mono ?_
  rintro e w4 ⟨p4, i4, q4, rfl, o4, rfl⟩
  have G3 := K3.cell
  have F3 := K3.frozen
  have z3 := K3.lt
  go_wp2
  refine post_named ?_
  intro Wf hWf
  have Kf : Blk Wf w.heap.size 27 #[.int .i64 n, .slice p4 i4 q4] := by
    rw [hWf]
    have := (K3.set 0 (.int .i64 n)).set 1 (.slice p4 i4 q4)
    simpa using this
  have Bf : Below w.heap.size w Wf := by rw [hWf]; exact Below.setCell (Below.setCell B3 (by first | omega | (simp; done) | (simp; omega)) _) (by first | omega | (simp; done) | (simp; omega)) _
  have of : OwnW 3 w.heap.size Wf (.slice p4 i4 q4) (gatherL l) := by rw [hWf]; exact ((o4.setBelow (by first | omega | (simp; done) | (simp; omega)) _).setBelow (by first | omega | (simp; done) | (simp; omega)) _).mono (by first | omega | (simp; done) | (simp; omega))
  have Gf := Kf.cell
  clear hWf G3 F3
  exact bodyPost_ret (v := .agg #[.int .i64 n, .slice p4 i4 q4]) (by simp [results, Tryz.results153, go_sem, Gf]) rfl ⟨_, _, _, rfl, of, Bf⟩
end Go.Proofs.YtipejodijbjpcaaGreatDoor
end
section
namespace Go.Proofs.YtipejodijbjpcaaGreatDoor
open Go.RowKit Go.G5

def nkL (g : Int) (l : List Int) : List Int := if isFamB g l then l else []
theorem nkL_len (g : Int) (l : List Int) (h : l.length ≤ 1048576) : (nkL g l).length ≤ 1048576 := by
  unfold nkL; split
  · exact h
  · simp

end Go.Proofs.YtipejodijbjpcaaGreatDoor
end
section
namespace Go.Proofs.YtipejodijbjpcaaGreatDoor
open Go.RowKit Go.G5

def remOk (g : Int) (l m : List Int) (s : Int) : Bool := keptB g l m && has l s
def remP (s x : Int) : Bool := x == s
def remN (g : Int) (l m : List Int) (s : Int) : Int := if remOk g l m s then blkN g (keepL (remP s) l) else 0
def remK (g : Int) (l m : List Int) (s : Int) : List Int := if remOk g l m s then nkL g (keepL (remP s) l) else []
def remL (g : Int) (l m : List Int) (s : Int) : List Int := if remOk g l m s then blkL g (keepL (remP s) l) else []
def remF (g : Int) (l m : List Int) (s : Int) : Bool := remOk g l m s && isFamB g (keepL (remP s) l)
theorem remK_len (g : Int) (l m : List Int) (s : Int) (h : l.length ≤ 1048576) : (remK g l m s).length ≤ 1048576 := by
  unfold remK; split
  · exact nkL_len g _ (Nat.le_trans (keepL_len _ _) h)
  · simp
theorem remL_len (g : Int) (l m : List Int) (s : Int) : (remL g l m s).length ≤ 64 := by
  unfold remL; split
  · exact blkL_len g _
  · simp
theorem keptB_fam {g : Int} {l m : List Int} (h : keptB g l m = true) : isFamB g l = true := by unfold keptB at h; exact (Bool.and_eq_true_iff.1 h).1
end Go.Proofs.YtipejodijbjpcaaGreatDoor
end
