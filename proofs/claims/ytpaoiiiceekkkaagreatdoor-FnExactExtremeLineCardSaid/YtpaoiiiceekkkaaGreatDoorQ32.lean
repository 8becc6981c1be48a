/- The line of covers: what is computed. The line of extremes: what is computed. Common independent sets and what bounds them: what is computed. Common independent sets: whether two functions are ranks of matroids alike; sets that are free. Vectors. -/
import Derived.Test.YtpaoiiiceekkkaaGreatDoorQ31
section
namespace Go.Proofs.YtpaoiiiceekkkaaGreatDoor
open Go.RowKit Go.G5

/-- the parts behind the first ones, each with a space ahead -/
def tailB : List ByteArray → ByteArray
  | [] => ByteArray.empty
  | y :: r => space ++ y ++ tailB r
theorem tailB_data : ∀ r : List ByteArray, (tailB r).data.toList = Lib.joinTail [32] (r.map (·.data.toList))
  | [] => rfl
  | y :: r => by
    rw [tailB, ba_app, ba_app, tailB_data r]
    simp [Lib.joinTail, d1]
theorem join_app (xs ys : List ByteArray) (h : xs ≠ []) : joinB space (xs ++ ys) = joinB space xs ++ tailB ys := by
  cases xs with
  | nil => exact absurd rfl h
  | cons x r =>
    refine ba_ext ?_
    rw [ba_app, tailB_data]
    show Lib.join ((x :: (r ++ ys)).map (·.data.toList)) space.data.toList = Lib.join ((x :: r).map (·.data.toList)) space.data.toList ++ _
    rw [List.map_cons, List.map_cons, Lib.join_cons, Lib.join_cons, List.map_append, joinTail_app, d1]
    simp [List.append_assoc]
def covA (N A : ByteArray) : List ByteArray := [(⟨#[99, 111, 118, 101, 114]⟩ : ByteArray), (⟨#[112, 97, 99, 107, 105, 110, 103]⟩ : ByteArray), N, (⟨#[111, 102]⟩ : ByteArray), A]
def covAT (N A : ByteArray) : ByteArray := (⟨#[99, 111, 118, 101, 114, 32, 112, 97, 99, 107, 105, 110, 103, 32]⟩ : ByteArray) ++ N ++ (⟨#[32, 111, 102, 32]⟩ : ByteArray) ++ A
theorem covA_is (N A : ByteArray) : joinB space (covA N A) = covAT N A := by
  unfold covA covAT
  simp only [joinB_cons2, joinB_one]
  refine ba_ext ?_
  simp [space]
def covB (b : Bool) (N S : ByteArray) : List ByteArray := if b then [(⟨#[116, 114, 97, 110, 115, 118, 101, 114, 115, 97, 108]⟩ : ByteArray), N, (⟨#[98, 121]⟩ : ByteArray), S] else []
def covBT (b : Bool) (X N S : ByteArray) : ByteArray := if b then X ++ (⟨#[32, 116, 114, 97, 110, 115, 118, 101, 114, 115, 97, 108, 32]⟩ : ByteArray) ++ N ++ (⟨#[32, 98, 121, 32]⟩ : ByteArray) ++ S else X
theorem covB_is (b : Bool) (X N S : ByteArray) : X ++ tailB (covB b N S) = covBT b X N S := by
  cases b with
  | false => exact ba_ext (by rw [ba_app]; show X.data.toList ++ [] = X.data.toList; simp)
  | true =>
    refine ba_ext ?_
    simp [covB, covBT, tailB, space]
def covC (b : Bool) (N M P : ByteArray) : List ByteArray := if b then [(⟨#[115, 109, 97, 108, 108, 101, 115, 116]⟩ : ByteArray), N, (⟨#[103, 114, 101, 101, 100, 121]⟩ : ByteArray), M, (⟨#[112, 114, 105, 99, 101, 115]⟩ : ByteArray), P] else []
def covCT (b : Bool) (X N M P : ByteArray) : ByteArray := if b then X ++ (⟨#[32, 115, 109, 97, 108, 108, 101, 115, 116, 32]⟩ : ByteArray) ++ N ++ (⟨#[32, 103, 114, 101, 101, 100, 121, 32]⟩ : ByteArray) ++ M ++ (⟨#[32, 112, 114, 105, 99, 101, 115, 32]⟩ : ByteArray) ++ P else X
theorem covC_is (b : Bool) (X N M P : ByteArray) : X ++ tailB (covC b N M P) = covCT b X N M P := by
  cases b with
  | false => exact ba_ext (by rw [ba_app]; show X.data.toList ++ [] = X.data.toList; simp)
  | true =>
    refine ba_ext ?_
    simp [covC, covCT, tailB, space]
def covL (g : Int) (l : List Int) : List ByteArray := (covA (itoaB ((pkL g l).length : Int)) (famTx g (pkL g l)) ++ covB (tnOk g l) (itoaB (tnN g l)) (setTx g (tnS g l))) ++ covC (smallB g l) (itoaB ((smallL g l).length : Int)) (itoaB ((greedyL g l).length : Int)) (numB (pricesL g l))
def covT (g : Int) (l : List Int) : ByteArray := covCT (smallB g l) (covBT (tnOk g l) (covAT (itoaB ((pkL g l).length : Int)) (famTx g (pkL g l))) (itoaB (tnN g l)) (setTx g (tnS g l))) (itoaB ((smallL g l).length : Int)) (itoaB ((greedyL g l).length : Int)) (numB (pricesL g l))
theorem cov_is (g : Int) (l : List Int) : joinB space (covL g l) = covT g l := by
  unfold covL covT
  rw [join_app _ _ (by simp [covA]), join_app _ _ (by simp [covA]), covA_is, covB_is, covC_is]
def covLn (g : Int) (l : List Int) : ByteArray := if isFamB g l then covT g l else ByteArray.empty
theorem covLn_yes {g : Int} {l : List Int} (h : isFamB g l = true) : covLn g l = covT g l := by unfold covLn; rw [if_pos h]
theorem covLn_no {g : Int} {l : List Int} (h : isFamB g l = false) : covLn g l = ByteArray.empty := by unfold covLn; rw [h]; rfl
theorem pricesL_6 (g : Int) (l : List Int) : (pricesL g l).length ≤ 6 := by
  unfold pricesL
  split
  · rename_i h
    rw [prTo_len]
    unfold greedyB greedyOf at h
    split at h
    · rename_i hf
      obtain ⟨h0, h6, _⟩ := famOk hf
      omega
    · simp at h
  · simp
theorem covAT_size (N A : ByteArray) (hN : N.size ≤ 21) (hA : A.size ≤ 10000) : (covAT N A).size ≤ 10100 := by
  unfold covAT
  simp only [ByteArray.size_append]
  have e1 : (⟨#[99, 111, 118, 101, 114, 32, 112, 97, 99, 107, 105, 110, 103, 32]⟩ : ByteArray).size = 14 := rfl
  have e2 : (⟨#[32, 111, 102, 32]⟩ : ByteArray).size = 4 := rfl
  omega
theorem covBT_size (b : Bool) (X N S : ByteArray) (hX : X.size ≤ 10100) (hN : N.size ≤ 21) (hS : S.size ≤ 132) : (covBT b X N S).size ≤ 10300 := by
  cases b with
  | false => show X.size ≤ _; omega
  | true =>
    unfold covBT
    rw [if_pos rfl]
    simp only [ByteArray.size_append]
    have e1 : (⟨#[32, 116, 114, 97, 110, 115, 118, 101, 114, 115, 97, 108, 32]⟩ : ByteArray).size = 13 := rfl
    have e2 : (⟨#[32, 98, 121, 32]⟩ : ByteArray).size = 4 := rfl
    omega
theorem covCT_size (b : Bool) (X N M P : ByteArray) (hX : X.size ≤ 10300) (hN : N.size ≤ 21) (hM : M.size ≤ 21) (hP : P.size ≤ 200) : (covCT b X N M P).size ≤ 11000 := by
  cases b with
  | false => show X.size ≤ _; omega
  | true =>
    unfold covCT
    rw [if_pos rfl]
    simp only [ByteArray.size_append]
    have e1 : (⟨#[32, 115, 109, 97, 108, 108, 101, 115, 116, 32]⟩ : ByteArray).size = 10 := rfl
    have e2 : (⟨#[32, 103, 114, 101, 101, 100, 121, 32]⟩ : ByteArray).size = 8 := rfl
    have e3 : (⟨#[32, 112, 114, 105, 99, 101, 115, 32]⟩ : ByteArray).size = 8 := rfl
    omega
theorem pkL_64 (g : Int) (l : List Int) : (pkL g l).length ≤ 64 := by
  unfold pkL
  split
  · rename_i hf
    exact packS_len 64 l 0 [] [] (by simpa using fam_len hf) (by simp)
  · simp
theorem covT_size (g : Int) (l : List Int) (h : smallB g l = true → ∀ x ∈ pricesL g l, InR x) : (covT g l).size ≤ 11000 := by
  have h1 := pkL_64 g l
  have h2 := itoaB_size ((pkL g l).length : Int) ⟨by omega, by omega⟩
  have h3 := famTx_size g (pkL g l)
  have h4 := tnN_bd g l
  have h5 := itoaB_size (tnN g l) ⟨by omega, by omega⟩
  have h6 := setTx_size g (tnS g l)
  have h7 := covAT_size _ _ h2 h3
  have h8 := covBT_size (tnOk g l) _ _ _ h7 h5 h6
  unfold covT
  cases hb : smallB g l with
  | false => exact Nat.le_trans h8 (by decide)
  | true =>
    have h9 := smallL_len g l
    have ha := greedyL_64 g l
    have hc := numB_size _ (h hb)
    have hd := pricesL_6 g l
    exact covCT_size _ _ _ _ _ h8 (itoaB_size _ ⟨by omega, by omega⟩) (itoaB_size _ ⟨by omega, by omega⟩) (by omega)
end Go.Proofs.YtpaoiiiceekkkaaGreatDoor
end
section
namespace Go.Proofs.YtpaoiiiceekkkaaGreatDoor
open Go.RowKit Go.G5

theorem dvL_len (n : Int) (l : List Int) : (dvL n l).length ≤ 5 := by
  unfold dvL rvL
  split
  · rename_i h
    unfold duB at h
    rw [Bool.and_eq_true] at h
    obtain ⟨N, rfl, hN, _⟩ := fun_nat (grOk h.1)
    split
    · rw [rvTo_len]; unfold lowL; simp; omega
    · simp
  · simp
def dgN (n : Int) (l : List Int) : Int := l.getD (dgTo l n.toNat n.toNat) 0
theorem cut_bd (n : Int) (l : List Int) : -1000 ≤ cutN n l ∧ cutN n l ≤ 1000 := by
  cases h : fitB n l with
  | false => unfold cutN; rw [h, if_neg (by simp)]; omega
  | true =>
    unfold cutN
    rw [h, if_pos rfl]
    unfold fitB subB at h
    simp only [Bool.and_eq_true] at h
    obtain ⟨N, _, _, _, _, hb⟩ := fun_nat h.1.1.1
    exact bd_at hb _
def xlA (M F X S D : ByteArray) : List ByteArray := [(⟨#[101, 120, 116, 114, 101, 109, 101]⟩ : ByteArray), (⟨#[109, 105, 110, 105, 109, 117, 109]⟩ : ByteArray), M, (⟨#[115, 101, 116, 115]⟩ : ByteArray), F, (⟨#[109, 97, 120, 105, 109, 117, 109]⟩ : ByteArray), X, (⟨#[115, 101, 116]⟩ : ByteArray), S, (⟨#[100, 111, 117, 98, 108, 101]⟩ : ByteArray), D]
def xlAT (M F X S D : ByteArray) : ByteArray := (⟨#[101, 120, 116, 114, 101, 109, 101, 32, 109, 105, 110, 105, 109, 117, 109, 32]⟩ : ByteArray) ++ M ++ (⟨#[32, 115, 101, 116, 115, 32]⟩ : ByteArray) ++ F ++ (⟨#[32, 109, 97, 120, 105, 109, 117, 109, 32]⟩ : ByteArray) ++ X ++ (⟨#[32, 115, 101, 116, 32]⟩ : ByteArray) ++ S ++ (⟨#[32, 100, 111, 117, 98, 108, 101, 32]⟩ : ByteArray) ++ D
theorem xlA_is (M F X S D : ByteArray) : joinB space (xlA M F X S D) = xlAT M F X S D := by
  unfold xlA xlAT
  simp only [joinB_cons2, joinB_one]
  refine ba_ext ?_
  simp [space]
theorem xlAT_size (M F X S D : ByteArray) (h1 : M.size ≤ 21) (h2 : F.size ≤ 10000) (h3 : X.size ≤ 21) (h4 : S.size ≤ 132) (h5 : D.size ≤ 21) : (xlAT M F X S D).size ≤ 10300 := by
  unfold xlAT
  simp only [ByteArray.size_append]
  have e0 : (⟨#[101, 120, 116, 114, 101, 109, 101, 32, 109, 105, 110, 105, 109, 117, 109, 32]⟩ : ByteArray).size = 16 := rfl
  have e1 : (⟨#[32, 115, 101, 116, 115, 32]⟩ : ByteArray).size = 6 := rfl
  have e2 : (⟨#[32, 109, 97, 120, 105, 109, 117, 109, 32]⟩ : ByteArray).size = 9 := rfl
  have e3 : (⟨#[32, 115, 101, 116, 32]⟩ : ByteArray).size = 5 := rfl
  have e4 : (⟨#[32, 100, 111, 117, 98, 108, 101, 32]⟩ : ByteArray).size = 8 := rfl
  omega
def xlB (b : Bool) (N : ByteArray) : List ByteArray := if b then [(⟨#[100, 117, 97, 108]⟩ : ByteArray), N] else []
def xlBT (b : Bool) (X N : ByteArray) : ByteArray := if b then X ++ (⟨#[32, 100, 117, 97, 108, 32]⟩ : ByteArray) ++ N else X
def xlC (b : Bool) (N S : ByteArray) : List ByteArray := if b then [(⟨#[99, 117, 116]⟩ : ByteArray), N, (⟨#[111, 102]⟩ : ByteArray), S] else []
def xlCT (b : Bool) (X N S : ByteArray) : ByteArray := if b then X ++ (⟨#[32, 99, 117, 116, 32]⟩ : ByteArray) ++ N ++ (⟨#[32, 111, 102, 32]⟩ : ByteArray) ++ S else X
theorem xlB_is (b : Bool) (X N : ByteArray) : X ++ tailB (xlB b N) = xlBT b X N := by
  cases b with
  | false => exact ba_ext (by rw [ba_app]; show X.data.toList ++ [] = X.data.toList; simp)
  | true =>
    refine ba_ext ?_
    simp [xlB, xlBT, tailB, space]
theorem xlC_is (b : Bool) (X N S : ByteArray) : X ++ tailB (xlC b N S) = xlCT b X N S := by
  cases b with
  | false => exact ba_ext (by rw [ba_app]; show X.data.toList ++ [] = X.data.toList; simp)
  | true =>
    refine ba_ext ?_
    simp [xlC, xlCT, tailB, space]
theorem xlBT_size (b : Bool) (X N : ByteArray) (k : Nat) (hX : X.size ≤ k) (hN : N.size ≤ 200) : (xlBT b X N).size ≤ k + 220 := by
  cases b with
  | false => show X.size ≤ _; omega
  | true =>
    unfold xlBT
    rw [if_pos rfl]
    simp only [ByteArray.size_append]
    have e1 : (⟨#[32, 100, 117, 97, 108, 32]⟩ : ByteArray).size = 6 := rfl
    omega
theorem xlCT_size (b : Bool) (X N S : ByteArray) (k : Nat) (hX : X.size ≤ k) (hN : N.size ≤ 21) (hS : S.size ≤ 132) : (xlCT b X N S).size ≤ k + 180 := by
  cases b with
  | false => show X.size ≤ _; omega
  | true =>
    unfold xlCT
    rw [if_pos rfl]
    simp only [ByteArray.size_append]
    have e1 : (⟨#[32, 99, 117, 116, 32]⟩ : ByteArray).size = 5 := rfl
    have e2 : (⟨#[32, 111, 102, 32]⟩ : ByteArray).size = 4 := rfl
    omega
def xlL (n : Int) (l : List Int) : List ByteArray := (xlA (itoaB (lstN l)) (famTx n (mzL n l)) (itoaB (mxN n l)) (setTx n (mxS n l)) (itoaB (dgN n l)) ++ xlB (dvB n l) (numB (dvL n l))) ++ xlC (fitB n l) (itoaB (cutN n l)) (setTx n (cutS n l))
def xlT (n : Int) (l : List Int) : ByteArray := xlCT (fitB n l) (xlBT (dvB n l) (xlAT (itoaB (lstN l)) (famTx n (mzL n l)) (itoaB (mxN n l)) (setTx n (mxS n l)) (itoaB (dgN n l))) (numB (dvL n l))) (itoaB (cutN n l)) (setTx n (cutS n l))
theorem xl_is (n : Int) (l : List Int) : joinB space (xlL n l) = xlT n l := by
  unfold xlL xlT
  rw [join_app _ _ (by simp [xlA]), join_app _ _ (by simp [xlA]), xlA_is, xlB_is, xlC_is]
def xlLn (n : Int) (l : List Int) : ByteArray := if isFunB n l then xlT n l else ByteArray.empty
theorem xlLn_yes {n : Int} {l : List Int} (h : isFunB n l = true) : xlLn n l = xlT n l := by unfold xlLn; rw [if_pos h]
theorem xlLn_no {n : Int} {l : List Int} (h : isFunB n l = false) : xlLn n l = ByteArray.empty := by unfold xlLn; rw [h]; rfl
theorem lst_bd {n : Int} {l : List Int} (h : isFunB n l = true) : -1000 ≤ lstN l ∧ lstN l ≤ 1000 := by
  obtain ⟨N, _, _, h2, _, hb⟩ := fun_nat h
  have hp := Nat.two_pow_pos N
  obtain ⟨i, _, hi⟩ := lst_at l (by omega) l.length (Nat.le_refl _)
  unfold lstN
  rw [← hi]
  exact bd_at hb _
theorem mxN_bd {n : Int} {l : List Int} (h : isFunB n l = true) : -1000 ≤ mxN n l ∧ mxN n l ≤ 1000 := by
  obtain ⟨N, _, _, _, _, hb⟩ := fun_nat h
  unfold mxN
  rw [if_pos h]
  exact bd_at hb _
theorem dgN_bd {n : Int} {l : List Int} (h : isFunB n l = true) : -1000 ≤ dgN n l ∧ dgN n l ≤ 1000 := by
  obtain ⟨N, _, _, _, _, hb⟩ := fun_nat h
  exact bd_at hb _
theorem xlT_size {n : Int} {l : List Int} (h : isFunB n l = true) (hd : ∀ x ∈ dvL n l, InR x) : (xlT n l).size ≤ 10700 := by
  have h1 := lst_bd h
  have h2 := mxN_bd h
  have h3 := dgN_bd h
  have h4 := cut_bd n l
  have h5 := dvL_len n l
  have h6 := numB_size _ hd
  exact xlCT_size _ _ _ _ 10520 (xlBT_size _ _ _ 10300 (xlAT_size _ _ _ _ _ (itoaB_size _ ⟨by omega, by omega⟩) (famTx_size _ _) (itoaB_size _ ⟨by omega, by omega⟩) (setTx_size _ _) (itoaB_size _ ⟨by omega, by omega⟩)) (by omega)) (itoaB_size _ ⟨by omega, by omega⟩) (setTx_size _ _)
end Go.Proofs.YtpaoiiiceekkkaaGreatDoor
end
section
namespace Go.Proofs.YtpaoiiiceekkkaaGreatDoor
open Go.RowKit Go.G5

def comB (n : Int) (l : List Int) (m : Int) (k : List Int) : Bool := (rankB n l && rankB m k) && decide (n = m)
def freeB (l : List Int) (s : Nat) : Bool := decide (l.getD s 0 = (pop s : Int))
/-- the first of the largest common sets below t -/
def lcTo (l k : List Int) : Nat → Nat
  | 0 => 0
  | t + 1 => if decide (pop (lcTo l k t) < pop t) && (freeB l t && freeB k t) then t else lcTo l k t
def sumT (l k : List Int) (t : Nat) : Int := l.getD t 0 + k.getD (l.length - 1 - t) 0
/-- the first set below t with the least sum -/
def spTo (l k : List Int) : Nat → Nat
  | 0 => 0
  | t + 1 => if sumT l k t < sumT l k (spTo l k t) then t else spTo l k t
def lcS (n : Int) (l : List Int) (m : Int) (k : List Int) : Int := if comB n l m k then (lcTo l k l.length : Int) else 0
def cbS (n : Int) (l : List Int) (m : Int) (k : List Int) : Int := if comB n l m k then (spTo l k l.length : Int) else 0
def cbN (n : Int) (l : List Int) (m : Int) (k : List Int) : Int := if comB n l m k then sumT l k (spTo l k l.length) else 0
theorem lcTo_lt (l k : List Int) : ∀ t, 0 < t → lcTo l k t < t := by
  intro t
  induction t with
  | zero => intro h; omega
  | succ t ih =>
    intro _
    rw [lcTo]
    split
    · omega
    · rcases Nat.eq_zero_or_pos t with rfl | h
      · simp [lcTo]
      · have := ih h; omega
theorem spTo_lt (l k : List Int) : ∀ t, 0 < t → spTo l k t < t := by
  intro t
  induction t with
  | zero => intro h; omega
  | succ t ih =>
    intro _
    rw [spTo]
    split
    · omega
    · rcases Nat.eq_zero_or_pos t with rfl | h
      · simp [spTo]
      · have := ih h; omega
theorem lcTo_one (l k : List Int) : lcTo l k 1 = 0 := by
  have := lcTo_lt l k 1 (by omega); omega
theorem spTo_one (l k : List Int) : spTo l k 1 = 0 := by
  have := spTo_lt l k 1 (by omega); omega
theorem com_fun {n m : Int} {l k : List Int} (h : comB n l m k = true) : m = n ∧ ∃ N : Nat, n = N ∧ N ≤ 5 ∧ l.length = 2 ^ N ∧ l.length ≤ 32 ∧ k.length = l.length ∧ (∀ i, (hi : i < l.length) → -1000 ≤ l[i] ∧ l[i] ≤ 1000) ∧ (∀ i, (hi : i < k.length) → -1000 ≤ k[i] ∧ k[i] ≤ 1000) := by
  unfold comB rankB at h
  simp only [Bool.and_eq_true, decide_eq_true_eq] at h
  obtain ⟨⟨⟨h1, _⟩, h2, _⟩, rfl⟩ := h
  obtain ⟨N, rfl, hN5, hl2, hl32, hlb⟩ := fun_nat (poly_fun h1)
  obtain ⟨M, hM, hM5, hk2, hk32, hkb⟩ := fun_nat (poly_fun h2)
  have : N = M := by omega
  subst this
  exact ⟨rfl, N, rfl, hN5, hl2, hl32, by omega, hlb, hkb⟩
end Go.Proofs.YtpaoiiiceekkkaaGreatDoor
end
section
namespace Go.Proofs.YtpaoiiiceekkkaaGreatDoor
open Go.RowKit Go.G5

theorem beq_dec (a b : Int) : (a == b) = decide (a = b) := by by_cases h : a = b <;> simp [h]
set_option maxHeartbeats 1000000 in
set_option maxRecDepth 100000 in
theorem areMatI_any (w : World) (n : Int) (v : Value) (l : List Int) (hv : Ints w v l) (hl : l.length ≤ 1048576) (m : Int) (u : Value) (k : List Int) (hu : Ints w u k) (hk : k.length ≤ 1048576) :
    Calls Tryz.prog 156 #[.agg #[.int .i64 n, v], .agg #[.int .i64 m, u]] w fun e w' => e = .returned (.bool (comB n l m k)) ∧ Below w.heap.size w w' := by
  obtain ⟨a, c, rfl⟩ := hv.shape
  obtain ⟨b, d, rfl⟩ := hu.shape
  go_enter Tryz.func156, Tryz.ntmps156
  go_wp2_with fail
  refine calls_named ?_
  intro V hV
  have B : Below w.heap.size w V := by rw [hV]; exact bl2 _ _ _
  have K1 : Blk V w.heap.size 27 #[.int .i64 n, .slice a l.length c] := by rw [hV]; exact (Blk.new _ _ _).alloc _
  have K2 : Blk V (w.heap.size + 1) 27 #[.int .i64 m, .slice b k.length d] := by rw [hV]; have := Blk.new (w.alloc (.cells #[.int .i64 n, .slice a l.length c] 27)) 27 #[.int .i64 m, .slice b k.length d]; simpa using this
  clear hV
  refine (rankI_any n l _ V (hv.below B (Nat.le_refl _)) hl).mono ?_
  rintro e w1 ⟨rfl, b1⟩
  have K1 := K1.keep b1
  have K2 := K2.keep b1
  have B := B.after b1 B.size
  have z2 := K2.lt
  cases h1 : rankB n l with
  | false =>
    have hx : comB n l m k = false := by unfold comB; rw [h1]; rfl
    have HX := Lib.hid hx
    clear hx h1
    have G1 := K1.cell
    have G2 := K2.cell
    go_wp2
    go_ret
    exact ⟨ret_bool HX.out.symm, B⟩
  | true =>
    have H1 := Lib.hid h1
    clear h1
    have G2 := K2.cell
    go_wp2_with fail
    clear G2
    refine (rankI_any m k _ w1 (hu.below B (Nat.le_refl _)) hk).mono ?_
    rintro e w2 ⟨rfl, b2⟩
    have K1 := K1.keep b2
    have K2 := K2.keep b2
    have B := B.after b2 B.size
    have hx : comB n l m k = (rankB m k && decide (n = m)) := by unfold comB; rw [H1.out]; rfl
    have HX := Lib.hid hx
    clear hx
    have G1 := K1.cell
    have G2 := K2.cell
    have z2 := K2.lt
    cases h2 : rankB m k with
    | false =>
      have H2 := Lib.hid h2
      clear h2
      go_wp2
      go_ret
      exact ⟨ret_bool (by rw [HX.out, H2.out]; rfl), B⟩
    | true =>
      have H2 := Lib.hid h2
      clear h2
      go_wp2
      go_ret
      exact ⟨ret_bool (by rw [HX.out, H2.out, Bool.true_and]; exact beq_dec n m), B⟩
set_option maxHeartbeats 1000000 in
set_option maxRecDepth 100000 in
theorem areMatS_any (w : World) (n : Int) (v : Value) (l : List Int) (hv : Ints w v l) (hl : l.length ≤ 1048576) (m : Int) (u : Value) (k : List Int) (hu : Ints w u k) (hk : k.length ≤ 1048576) :
    Calls Tryz.prog 147 #[.agg #[.int .i64 n, v], .agg #[.int .i64 m, u]] w fun e w' => e = .returned (.bool (comB n l m k)) ∧ Below w.heap.size w w' := by
  obtain ⟨a, c, rfl⟩ := hv.shape
  obtain ⟨b, d, rfl⟩ := hu.shape
  go_enter Tryz.func147, Tryz.ntmps147
  go_wp2_with fail
  refine calls_named ?_
  intro V hV
  have B : Below w.heap.size w V := by rw [hV]; exact bl2 _ _ _
  have K1 : Blk V w.heap.size 27 #[.int .i64 n, .slice a l.length c] := by rw [hV]; exact (Blk.new _ _ _).alloc _
  have K2 : Blk V (w.heap.size + 1) 27 #[.int .i64 m, .slice b k.length d] := by rw [hV]; have := Blk.new (w.alloc (.cells #[.int .i64 n, .slice a l.length c] 27)) 27 #[.int .i64 m, .slice b k.length d]; simpa using this
  clear hV
  refine (rankS_any n l _ V (hv.below B (Nat.le_refl _)) hl).mono ?_
  rintro e w1 ⟨rfl, b1⟩
  have K1 := K1.keep b1
  have K2 := K2.keep b1
  have B := B.after b1 B.size
  have z2 := K2.lt
  cases h1 : rankB n l with
  | false =>
    have hx : comB n l m k = false := by unfold comB; rw [h1]; rfl
    have HX := Lib.hid hx
    clear hx h1
    have G1 := K1.cell
    have G2 := K2.cell
    go_wp2
    go_ret
    exact ⟨ret_bool HX.out.symm, B⟩
  | true =>
    have H1 := Lib.hid h1
    clear h1
    have G2 := K2.cell
    go_wp2_with fail
    clear G2
    refine (rankS_any m k _ w1 (hu.below B (Nat.le_refl _)) hk).mono ?_
    rintro e w2 ⟨rfl, b2⟩
    have K1 := K1.keep b2
    have K2 := K2.keep b2
    have B := B.after b2 B.size
    have hx : comB n l m k = (rankB m k && decide (n = m)) := by unfold comB; rw [H1.out]; rfl
    have HX := Lib.hid hx
    clear hx
    have G1 := K1.cell
    have G2 := K2.cell
    have z2 := K2.lt
    cases h2 : rankB m k with
    | false =>
      have H2 := Lib.hid h2
      clear h2
      go_wp2
      go_ret
      exact ⟨ret_bool (by rw [HX.out, H2.out]; rfl), B⟩
    | true =>
      have H2 := Lib.hid h2
      clear h2
      go_wp2
      go_ret
      exact ⟨ret_bool (by rw [HX.out, H2.out, Bool.true_and]; exact beq_dec n m), B⟩
set_option maxHeartbeats 1000000 in
set_option maxRecDepth 100000 in
theorem isFree_any (w : World) (n : Int) (v : Value) (l : List Int) (hv : Ints w v l) (s : Nat) (hs : s < l.length) (hs2 : s < 64) :
    Calls Tryz.prog 159 #[.agg #[.int .i64 n, v], .int .i64 s] w fun e w' => e = .returned (.bool (freeB l s)) ∧ Below w.heap.size w w' := by
  have hv0 := hv
  obtain ⟨a, b, off, c, rfl, hlen, hix, hc, hb⟩ := hv.view Tryz.prog 22 3 Tryz.underlying22 intElem
  obtain ⟨V, hV⟩ : ∃ V, V = w.alloc (.cells #[.int .i64 n, .slice a l.length c] 27) := ⟨_, rfl⟩
  have B : Below w.heap.size w V := by rw [hV]; exact bl1 _ _
  have K1 : Blk V w.heap.size 27 #[.int .i64 n, .slice a l.length c] := by rw [hV]; exact Blk.new _ _ _
  have ck := cells_below hc hb B (Nat.le_refl _) s hs
  have ik := fun W => hix W s hs
  have hg : l.getD s 0 = l[s] := getD_at l s hs
  have hfr : freeB l s = decide (l[s] = (pop s : Int)) := by unfold freeB; rw [hg]
  obtain ⟨x, hx⟩ : ∃ x, x = l[s] := ⟨_, rfl⟩
  rw [← hx] at ck hfr
  have HFR := Lib.hid hfr
  have HS := Lib.hid (fun W => sizeOf_any s W (by omega))
  have e1 : ∀ y : Ext V, y.w.cell? ⟨w.heap.size, 1, none⟩ = some (.slice a l.length c) := fun y => y.cell (K1.cell 1)
  have e2 : ∀ y : Ext V, y.w.cell? ⟨b, off + s, none⟩ = some (.int .i64 x) := fun y => y.cell ck
  clear hc hix hb hg hfr hx ck
  go_enter Tryz.func159, Tryz.ntmps159
  go_wp2_with fail
  rw [← hV]
  clear hV
  refine wp_region_ext _ (by kernel_rfl) (by kernel_rfl) ?_
  repeat (first | go_big_quiet_skip | (go_big_quiet_want; go_big_quiet_op; first | go_big_quiet_on | (apply Exists.intro; refine ⟨fun _ => ?_, ?_⟩; (go_at_call 188; exact ext_same (HS.out _)); go_big_quiet_on)))
  refine wpQuiet_nil ?_
  rintro w3 ⟨⟨w3, hb3⟩, rfl⟩
  try dsimp only
  go_wp2
  go_ret
  exact ⟨ret_bool (by rw [HFR.out]; exact beq_dec _ _), B.after hb3 B.size⟩
set_option maxHeartbeats 1000000 in
set_option maxRecDepth 100000 in
theorem freeClosure (w : World) (g1 g2 : Nat) (n m : Int) (v u : Value) (l k : List Int) (hv : Ints w v l) (hu : Ints w u k) (hlk : k.length = l.length) (hl : l.length ≤ 32) (s : Nat) (hs : s < l.length) (K1 : Blk w g1 27 #[.int .i64 n, v]) (K2 : Blk w g2 27 #[.int .i64 m, u]) :
    Calls Tryz.prog 158 #[.int .i64 s, .pointer (some ⟨g1, 0, none⟩), .pointer (some ⟨g2, 0, none⟩)] w fun e w' => e = .returned (.bool (freeB l s && freeB k s)) ∧ Below w.heap.size w w' := by
  obtain ⟨a, c, rfl⟩ := hv.shape
  obtain ⟨b, d, rfl⟩ := hu.shape
  have G1 := K1.cell
  have z1 := K1.lt
  go_enter Tryz.func158, Tryz.ntmps158
  go_wp2_with fail
  clear G1
  refine (isFree_any w n _ l hv s hs (by omega)).mono ?_
  rintro e w1 ⟨rfl, b1⟩
  have K2 := K2.keep b1
  have hu1 := hu.keep b1
  have HKL := Lib.hid hlk
  clear hlk
  cases h1 : freeB l s with
  | false =>
    have hx : (freeB l s && freeB k s) = false := by rw [h1]; rfl
    have HX := Lib.hid hx
    clear hx h1
    go_wp2
    go_ret
    exact ⟨ret_bool (by first | exact HX.out.symm | simp), b1⟩
  | true =>
    have hx : (freeB l s && freeB k s) = freeB k s := by rw [h1]; rfl
    have HX := Lib.hid hx
    clear hx h1
    have G2 := K2.cell
    go_wp2_with fail
    clear G2
    refine (isFree_any w1 m _ k hu1 s (by rw [HKL.out]; exact hs) (by omega)).mono ?_
    rintro e w2 ⟨rfl, b2⟩
    go_wp2
    go_ret
    exact ⟨ret_bool (by first | exact HX.out.symm | simp), b1.after b2 b1.size⟩
theorem freeClosure_enters : ∀ args w, (callFunc 158 args).run Tryz.prog w = .ok (.enter 158 args) w := enters_of Tryz.func158 (by kernel_rfl) rfl
end Go.Proofs.YtpaoiiiceekkkaaGreatDoor
end
section
namespace Go.Proofs.YtpaoiiiceekkkaaGreatDoor
open Go.RowKit Go.G5

def vecB (x : List Int) : Bool := decide (x.length ≤ 5) && allIn x (-1000) 1000
set_option maxHeartbeats 400000 in
theorem isVector_any (x : List Int) (v : Value) (w : World) (hv : Ints w v x) :
    Calls Tryz.prog 302 #[v] w fun e w' => e = .returned (.bool (vecB x)) ∧ w = w' := by
  have hv0 := hv
  obtain ⟨a, c, rfl⟩ := hv.shape
  by_cases h5 : x.length ≤ 5
  · have h5i : (x.length : Int) ≤ 5 := by omega
    have hx : vecB x = allIn x (-1000) 1000 := by unfold vecB; rw [decide_eq_true h5, Bool.true_and]
    have HX := Lib.hid hx
    have HAW := Lib.hid (areWithin_any x _ (-1000) 1000 w hv0)
    clear hx
    go_enter Tryz.func302, Tryz.ntmps302
    go_wp2_with fail
    refine HAW.out.mono ?_
    rintro e w1 ⟨rfl, rfl⟩
    go_wp2
    go_ret
    exact ⟨ret_bool HX.out.symm, rfl⟩
  · have h5i : ¬ (x.length : Int) ≤ 5 := by omega
    have hx : vecB x = false := by unfold vecB; rw [decide_eq_false h5]; rfl
    have HX := Lib.hid hx
    clear hx
    go_enter Tryz.func302, Tryz.ntmps302
    go_wp2
    go_ret
    exact ⟨ret_bool HX.out.symm, rfl⟩
def optB (n : Int) (l x : List Int) : Bool := (isGrB n l && subB n l) && (vecB x && decide ((x.length : Int) = n))
set_option maxHeartbeats 400000 in
theorem isVectorFor_any (n : Int) (v : Value) (l : List Int) (w : World) (hv : Ints w v l) (u : Value) (x : List Int) (hu : Ints w u x) :
    Calls Tryz.prog 278 #[.agg #[.int .i64 n, v], u] w fun e w' => e = .returned (.bool (vecB x && decide ((x.length : Int) = n))) ∧ Below w.heap.size w w' := by
  obtain ⟨a, c, rfl⟩ := hv.shape
  obtain ⟨V, hV⟩ : ∃ V, V = w.alloc (.cells #[.int .i64 n, .slice a l.length c] 27) := ⟨_, rfl⟩
  have B : Below w.heap.size w V := by rw [hV]; exact bl1 _ _
  have K : Blk V w.heap.size 27 #[.int .i64 n, .slice a l.length c] := by rw [hV]; exact Blk.new _ _ _
  have HV := Lib.hid (isVector_any x u V (hu.below B (Nat.le_refl _)))
  obtain ⟨b, d, rfl⟩ := hu.shape
  have G := K.cell
  cases h : vecB x with
  | false =>
    rw [h] at HV
    go_enter Tryz.func278, Tryz.ntmps278
    go_wp2_with fail
    rw [← hV]
    clear hV
    refine HV.out.mono ?_
    rintro e w1 ⟨rfl, rfl⟩
    go_wp2
    go_ret
    exact ⟨ret_bool (by simp), B⟩
  | true =>
    rw [h] at HV
    go_enter Tryz.func278, Tryz.ntmps278
    go_wp2_with fail
    rw [← hV]
    clear hV
    refine HV.out.mono ?_
    rintro e w1 ⟨rfl, rfl⟩
    go_wp2
    go_ret
    exact ⟨ret_bool (by rw [Bool.true_and]; exact beq_dec _ _), B⟩

set_option maxHeartbeats 1000000 in
theorem canOptI_any (w : World) (n : Int) (v : Value) (l : List Int) (hv : Ints w v l) (hl : l.length ≤ 1048576) (u : Value) (x : List Int) (hu : Ints w u x) :
    Calls Tryz.prog 254 #[.agg #[.int .i64 n, v], u] w fun e w' => e = .returned (.bool (optB n l x)) ∧ Below w.heap.size w w' := by
  obtain ⟨a, c, rfl⟩ := hv.shape
  obtain ⟨b, d, rfl⟩ := hu.shape
  obtain ⟨V, hV⟩ : ∃ V, V = w.alloc (.cells #[.int .i64 n, .slice a l.length c] 27) := ⟨_, rfl⟩
  have B : Below w.heap.size w V := by rw [hV]; exact bl1 _ _
  have K : Blk V w.heap.size 27 #[.int .i64 n, .slice a l.length c] := by rw [hV]; exact Blk.new _ _ _
  go_enter Tryz.func254, Tryz.ntmps254
  go_wp2_with fail
  rw [← hV]
  clear hV
  refine (isGrI_any n l _ V (hv.below B (Nat.le_refl _))).mono ?_
  rintro e w1 ⟨rfl, b1⟩
  have K := K.keep b1
  have B := B.after b1 B.size
  have G := K.cell
  have z := K.lt
  cases hg : isGrB n l with
  | false =>
    have hx : optB n l x = false := by unfold optB; rw [hg]; rfl
    have HX := Lib.hid hx
    clear hx hg
    go_wp2
    go_ret
    exact ⟨ret_bool HX.out.symm, B⟩
  | true =>
  have HG := Lib.hid hg
  clear hg
  go_wp2_with fail
  clear G z
  refine (isSubI_any n l _ w1 (hv.below B (Nat.le_refl _)) hl).mono ?_
  rintro e w2 ⟨rfl, b2⟩
  have K := K.keep b2
  have B := B.after b2 B.size
  have G := K.cell
  have z := K.lt
  cases hs : subB n l with
  | false =>
    have hx : optB n l x = false := by unfold optB; rw [hs]; simp
    have HX := Lib.hid hx
    clear hx hs
    go_wp2
    go_ret
    exact ⟨ret_bool HX.out.symm, B⟩
  | true =>
  have hx : optB n l x = (vecB x && decide ((x.length : Int) = n)) := by unfold optB; rw [HG.out, hs]; rfl
  have HX := Lib.hid hx
  clear hx hs
  go_wp2_with fail
  clear z
  refine (isVectorFor_any n _ l w2 (hv.below B (Nat.le_refl _)) _ x (hu.below B (Nat.le_refl _))).mono ?_
  rintro e w3 ⟨rfl, b3⟩
  go_wp2
  go_ret
  exact ⟨ret_bool HX.out.symm, B.after b3 B.size⟩
end Go.Proofs.YtpaoiiiceekkkaaGreatDoor
end
