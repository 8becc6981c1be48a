/- Claims as texts, in the second program's words: what is computed. -/
import Derived.Test.YtpaoiiiceekkkaaDoorFmtC
namespace Go.Proofs.YtpaoiiiceekkkaaDoor
open Go.RowKit Go.G5

theorem joinB_cons2 (sep x y : ByteArray) (r : List ByteArray) : joinB sep (x :: y :: r) = x ++ sep ++ joinB sep (y :: r) := by
  refine ba_ext ?_
  rw [ba_app, ba_app]
  show Lib.join ((x :: y :: r).map (·.data.toList)) sep.data.toList = x.data.toList ++ sep.data.toList ++ Lib.join ((y :: r).map (·.data.toList)) sep.data.toList
  rw [List.map_cons, List.map_cons, Lib.join_cons, Lib.join_cons]
  simp [Lib.joinTail, List.append_assoc]
def listS : ByteArray := ⟨#[32, 108, 105, 115, 116, 32]⟩
def ofS : ByteArray := ⟨#[32, 111, 102, 32]⟩
def forS : ByteArray := ⟨#[32, 102, 111, 114, 32]⟩
def andS : ByteArray := ⟨#[32, 97, 110, 100, 32]⟩
def setS : ByteArray := ⟨#[32, 115, 101, 116, 32]⟩
def headTx (k q : Int) (l : List Int) : ByteArray := claimWord k ++ space ++ itoaB (lim q) ++ listS ++ listTx l
theorem d1 : space.data.toList = [32] := rfl
theorem d2 : ofW.data.toList = [111, 102] := rfl
theorem d3 : forW.data.toList = [102, 111, 114] := rfl
theorem d4 : andW.data.toList = [97, 110, 100] := rfl
theorem d5 : setW.data.toList = [115, 101, 116] := rfl
theorem d6 : listW.data.toList = [108, 105, 115, 116] := rfl
theorem d7 : listS.data.toList = [32, 108, 105, 115, 116, 32] := rfl
theorem d8 : ofS.data.toList = [32, 111, 102, 32] := rfl
theorem d9 : forS.data.toList = [32, 102, 111, 114, 32] := rfl
theorem d10 : andS.data.toList = [32, 97, 110, 100, 32] := rfl
theorem d11 : setS.data.toList = [32, 115, 101, 116, 32] := rfl
theorem join_of (k q : Int) (l : List Int) (F : ByteArray) : joinB space (headL k q l ++ [ofW, F]) = headTx k q l ++ ofS ++ F := by
  unfold headL headTx
  simp only [List.cons_append, List.nil_append, joinB_cons2, joinB_one]
  refine ba_ext ?_
  simp [d1, d2, d6, d7, d8]
theorem join_for (k q : Int) (l : List Int) (F G : ByteArray) : joinB space (headL k q l ++ [ofW, F, forW, G]) = headTx k q l ++ ofS ++ F ++ forS ++ G := by
  unfold headL headTx
  simp only [List.cons_append, List.nil_append, joinB_cons2, joinB_one]
  refine ba_ext ?_
  simp [d1, d2, d3, d6, d7, d8, d9]
theorem join_set (k q : Int) (l : List Int) (S F : ByteArray) : joinB space (headL k q l ++ [setW, S, ofW, F]) = headTx k q l ++ setS ++ S ++ ofS ++ F := by
  unfold headL headTx
  simp only [List.cons_append, List.nil_append, joinB_cons2, joinB_one]
  refine ba_ext ?_
  simp [d1, d2, d5, d6, d7, d8, d11]
theorem join_and (k q : Int) (l : List Int) (S F G : ByteArray) : joinB space (headL k q l ++ [setW, S, ofW, F, andW, G]) = headTx k q l ++ setS ++ S ++ ofS ++ F ++ andS ++ G := by
  unfold headL headTx
  simp only [List.cons_append, List.nil_append, joinB_cons2, joinB_one]
  refine ba_ext ?_
  simp [d1, d2, d4, d5, d6, d7, d8, d10, d11]
theorem word_ne (k : Int) (h : 1 ≤ k ∧ k ≤ 7) : claimWord k ≠ ByteArray.empty := by
  have : (claimWord k).size ≠ 0 := by
    rcases (show k = 1 ∨ k = 2 ∨ k = 3 ∨ k = 4 ∨ k = 5 ∨ k = 6 ∨ k = 7 by omega) with rfl | rfl | rfl | rfl | rfl | rfl | rfl <;> decide
  intro e
  exact this (ba_emp.2 e)
theorem word_emp (k : Int) (h : ¬ (1 ≤ k ∧ k ≤ 7)) : claimWord k = ByteArray.empty := by
  unfold claimWord
  rw [if_neg (by omega), if_neg (by omega), if_neg (by omega), if_neg (by omega), if_neg (by omega), if_neg (by omega), if_neg (by omega)]; rfl
theorem emp_ne (b : ByteArray) (h : b.size ≠ 0) : ¬ ByteArray.empty = b := fun e => h (by rw [← e]; rfl)
theorem head_mem (k q : Int) (l : List Int) (r : List ByteArray) : ByteArray.empty ∈ headL k q l ++ r ↔ (ByteArray.empty = claimWord k ∨ ByteArray.empty ∈ r) := by
  have a2 : ¬ ByteArray.empty = itoaB (lim q) := fun e => itoaB_ne _ e.symm
  have a3 : ¬ ByteArray.empty = listW := emp_ne _ (by decide)
  have a4 : ¬ ByteArray.empty = listTx l := fun e => listTx_ne _ e.symm
  simp [headL, a2, a3, a4]
theorem claimTx_is (k n1 : Int) (l1 : List Int) (n2 : Int) (l2 : List Int) (n3 : Int) (l3 : List Int) (q st : Int) (l4 : List Int) (hk : 1 ≤ k ∧ k ≤ 7) (r : List ByteArray) (hr : partsL k (setTx n1 st) (funTx n1 l1) (funTx n2 l2) (famTx n3 l3) = r) :
    claimTx k n1 l1 n2 l2 n3 l3 q st l4 = if Lib.containsS r ByteArray.empty = true then ByteArray.empty else joinB space (headL k q l4 ++ r) := by
  have hps : claimPs k n1 l1 n2 l2 n3 l3 q st l4 = headL k q l4 ++ r := by unfold claimPs; rw [hr]
  unfold claimTx
  rw [hps]
  have hw : ¬ ByteArray.empty = claimWord k := fun e => word_ne k hk e.symm
  by_cases hm : Lib.containsS r ByteArray.empty = true
  · rw [if_pos hm, if_pos ((Lib.containsS_iff _ _).2 ((head_mem k q l4 r).2 (.inr ((Lib.containsS_iff _ _).1 hm))))]
  · rw [if_neg hm, if_neg (fun h => ((head_mem k q l4 r).1 ((Lib.containsS_iff _ _).1 h)).elim hw (fun h => hm ((Lib.containsS_iff _ _).2 h)))]
theorem of_ne : ¬ ByteArray.empty = ofW := emp_ne _ (by decide)
theorem for_ne : ¬ ByteArray.empty = forW := emp_ne _ (by decide)
theorem and_ne : ¬ ByteArray.empty = andW := emp_ne _ (by decide)
theorem set_ne : ¬ ByteArray.empty = setW := emp_ne _ (by decide)
end Go.Proofs.YtpaoiiiceekkkaaDoor
