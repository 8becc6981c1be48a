/- Lists of claims as texts: both programs. Claims: the laws' own copies, sizes and equalities. The parts of a claim's text: the first program. Claims as texts: the first program. Claims as texts, in the second program's words: what is computed. -/
import Derived.Test.YtelmokapdkepbaaDoorQ12
import Derived.Lib.MinMax
import Derived.Deep.DeepCutAuto
section
namespace Go.Proofs.YtelmokapdkepbaaDoor
open Go.RowKit Go.G5

def clip (x : Int) : Int := max (-9999) (min 9999 x)
theorem clip_bd (x : Int) : -9999 ≤ clip x ∧ clip x ≤ 9999 := by unfold clip; omega
theorem clip_inR (x : Int) : InR (clip x) := by have := clip_bd x; exact ⟨by omega, by omega⟩
def listTx (l : List Int) : ByteArray := if (l.length = 0 ∨ 40 < l.length) then noneB else joinB comma ((l.map clip).map itoaB)
theorem listTx_size (l : List Int) : (listTx l).size ≤ 880 := by
  unfold listTx
  split
  · show 4 ≤ 880; omega
  · rename_i h
    have h1 := commas_size (l.map clip) (fun x hx => by
      obtain ⟨y, _, rfl⟩ := List.mem_map.1 hx
      exact clip_inR y)
    rw [List.length_map] at h1
    omega
theorem listTx_ne (l : List Int) : listTx l ≠ ByteArray.empty := by
  unfold listTx
  split
  · intro e
    exact absurd (congrArg ByteArray.size e) (by decide)
  · rename_i h
    rw [Ne, commas_emp, List.map_eq_nil_iff]
    intro e
    subst e
    exact h (.inl rfl)
end Go.Proofs.YtelmokapdkepbaaDoor
end
section
namespace Go.Proofs.YtelmokapdkepbaaDoor
open Go.RowKit Go.G5

/-- a claim's value -/
@[reducible] def clV (k n1 : Int) (v1 : Value) (n2 : Int) (v2 : Value) (n3 : Int) (v3 : Value) (q st : Int) (v4 : Value) : Value :=
  .agg #[.int .i64 k, .int .i64 n1, v1, .int .i64 n2, v2, .int .i64 n3, v3, .int .i64 q, .int .i64 st, v4]
@[reducible] def clC (k n1 : Int) (v1 : Value) (n2 : Int) (v2 : Value) (n3 : Int) (v3 : Value) (q st : Int) (v4 : Value) : Array Value :=
  #[.int .i64 k, .int .i64 n1, v1, .int .i64 n2, v2, .int .i64 n3, v3, .int .i64 q, .int .i64 st, v4]

end Go.Proofs.YtelmokapdkepbaaDoor
end
section
namespace Go.Proofs.YtelmokapdkepbaaDoor
open Go.RowKit Go.G5

def setW : ByteArray := ⟨#[115, 101, 116]⟩
def ofW : ByteArray := ⟨#[111, 102]⟩
def forW : ByteArray := ⟨#[102, 111, 114]⟩
def andW : ByteArray := ⟨#[97, 110, 100]⟩
def partsL (k : Int) (S F G A : ByteArray) : List ByteArray :=
  if k = 1 ∨ k = 5 then [setW, S, ofW, F] else if k = 2 then [ofW, F] else if k = 3 then [ofW, F, forW, G] else if k = 4 then [setW, S, ofW, F, andW, G] else [ofW, A]

end Go.Proofs.YtelmokapdkepbaaDoor
end
section
namespace Go.Proofs.YtelmokapdkepbaaDoor
open Go.RowKit Go.G5

def listW : ByteArray := ⟨#[108, 105, 115, 116]⟩
def space : ByteArray := ⟨#[32]⟩
def lim (q : Int) : Int := max (-99999) (min 99999 q)
theorem lim_inR (q : Int) : InR (lim q) := by unfold lim; exact ⟨by omega, by omega⟩
def headL (k q : Int) (l : List Int) : List ByteArray := [claimWord k, itoaB (lim q), listW, listTx l]
def claimPs (k n1 : Int) (l1 : List Int) (n2 : Int) (l2 : List Int) (n3 : Int) (l3 : List Int) (q st : Int) (l4 : List Int) : List ByteArray :=
  headL k q l4 ++ partsL k (setTx n1 st) (funTx n1 l1) (funTx n2 l2) (famTx n3 l3)
def claimTx (k n1 : Int) (l1 : List Int) (n2 : Int) (l2 : List Int) (n3 : Int) (l3 : List Int) (q st : Int) (l4 : List Int) : ByteArray :=
  if Lib.containsS (claimPs k n1 l1 n2 l2 n3 l3 q st l4) ByteArray.empty = true then ByteArray.empty else joinB space (claimPs k n1 l1 n2 l2 n3 l3 q st l4)
theorem claimWord_size (k : Int) : (claimWord k).size ≤ 9 := by
  unfold claimWord
  repeat (split; (show _ ≤ 9; decide))
  decide
theorem partsL_size (k : Int) (S F G A : ByteArray) (hS : S.size ≤ 10000) (hF : F.size ≤ 10000) (hG : G.size ≤ 10000) (hA : A.size ≤ 10000) : (∀ x ∈ partsL k S F G A, x.size ≤ 10000) ∧ (partsL k S F G A).length ≤ 6 := by
  have w1 : setW.size ≤ 10000 := by decide
  have w2 : ofW.size ≤ 10000 := by decide
  have w3 : forW.size ≤ 10000 := by decide
  have w4 : andW.size ≤ 10000 := by decide
  unfold partsL
  split
  · simp_all
  · split
    · simp_all
    · split
      · simp_all
      · split <;> simp_all
theorem claimPs_size (k n1 : Int) (l1 : List Int) (n2 : Int) (l2 : List Int) (n3 : Int) (l3 : List Int) (q st : Int) (l4 : List Int) : (∀ x ∈ claimPs k n1 l1 n2 l2 n3 l3 q st l4, x.size ≤ 10000) ∧ (claimPs k n1 l1 n2 l2 n3 l3 q st l4).length ≤ 10 := by
  have hp := partsL_size k (setTx n1 st) (funTx n1 l1) (funTx n2 l2) (famTx n3 l3) (by have := setTx_size n1 st; omega) (by have := funTx_size n1 l1; omega) (by have := funTx_size n2 l2; omega) (famTx_size n3 l3)
  have a1 := claimWord_size k
  have a2 := itoaB_size (lim q) (lim_inR q)
  have a3 : listW.size ≤ 10000 := by decide
  have a4 := listTx_size l4
  unfold claimPs
  refine ⟨fun x hx => ?_, ?_⟩
  · rcases List.mem_append.1 hx with h | h
    · unfold headL at h
      simp only [List.mem_cons, List.not_mem_nil, or_false] at h
      rcases h with rfl | rfl | rfl | rfl
      · omega
      · omega
      · omega
      · omega
    · exact hp.1 x h
  · rw [List.length_append]
    have := hp.2
    show 4 + _ ≤ 10
    omega
theorem partsL_pos (k : Int) (S F G A : ByteArray) : 0 < (partsL k S F G A).length := by
  unfold partsL
  split
  · simp
  · split
    · simp
    · split
      · simp
      · split <;> simp
theorem OwnS.head {E : TypeId} {B : Nat} {w : World} {v : Value} {xs : List ByteArray} (h : OwnS E B w v xs) (hne : 0 < xs.length) : ∃ g n c, v = .slice (some ⟨g, 0, none⟩) n c := by
  rcases h.at with ⟨a, c, _, rfl⟩ | ⟨g, c, rfl, _⟩
  · simp at hne
  · exact ⟨g, _, c, rfl⟩
end Go.Proofs.YtelmokapdkepbaaDoor
end
section
namespace Go.Proofs.YtelmokapdkepbaaDoor
open Go.RowKit Go.G5

theorem joinB_cons2 (sep x y : ByteArray) (r : List ByteArray) : joinB sep (x :: y :: r) = x ++ sep ++ joinB sep (y :: r) := by
  refine ba_ext ?_
  rw [ba_app, ba_app]
  show Lib.join ((x :: y :: r).map (·.data.toList)) sep.data.toList = x.data.toList ++ sep.data.toList ++ Lib.join ((y :: r).map (·.data.toList)) sep.data.toList
  rw [List.map_cons, List.map_cons, Lib.join_cons, Lib.join_cons]
  simp [Lib.joinTail, List.append_assoc]
def listS : ByteArray := ⟨#[32, 108, 105, 115, 116, 32]⟩
def ofS : ByteArray := ⟨#[32, 111, 102, 32]⟩
def forS : ByteArray := ⟨#[32, 102, 111, 114, 32]⟩
def andS : ByteArray := ⟨#[32, 97, 110, 100, 32]⟩
def setS : ByteArray := ⟨#[32, 115, 101, 116, 32]⟩
def headTx (k q : Int) (l : List Int) : ByteArray := claimWord k ++ space ++ itoaB (lim q) ++ listS ++ listTx l
theorem d1 : space.data.toList = [32] := rfl
theorem d2 : ofW.data.toList = [111, 102] := rfl
theorem d3 : forW.data.toList = [102, 111, 114] := rfl
theorem d4 : andW.data.toList = [97, 110, 100] := rfl
theorem d5 : setW.data.toList = [115, 101, 116] := rfl
theorem d6 : listW.data.toList = [108, 105, 115, 116] := rfl
theorem d7 : listS.data.toList = [32, 108, 105, 115, 116, 32] := rfl
theorem d8 : ofS.data.toList = [32, 111, 102, 32] := rfl
theorem d9 : forS.data.toList = [32, 102, 111, 114, 32] := rfl
theorem d10 : andS.data.toList = [32, 97, 110, 100, 32] := rfl
theorem d11 : setS.data.toList = [32, 115, 101, 116, 32] := rfl
theorem join_of (k q : Int) (l : List Int) (F : ByteArray) : joinB space (headL k q l ++ [ofW, F]) = headTx k q l ++ ofS ++ F := by
  unfold headL headTx
  simp only [List.cons_append, List.nil_append, joinB_cons2, joinB_one]
  refine ba_ext ?_
  simp [d1, d2, d6, d7, d8]
theorem join_for (k q : Int) (l : List Int) (F G : ByteArray) : joinB space (headL k q l ++ [ofW, F, forW, G]) = headTx k q l ++ ofS ++ F ++ forS ++ G := by
  unfold headL headTx
  simp only [List.cons_append, List.nil_append, joinB_cons2, joinB_one]
  refine ba_ext ?_
  simp [d1, d2, d3, d6, d7, d8, d9]
theorem join_set (k q : Int) (l : List Int) (S F : ByteArray) : joinB space (headL k q l ++ [setW, S, ofW, F]) = headTx k q l ++ setS ++ S ++ ofS ++ F := by
  unfold headL headTx
  simp only [List.cons_append, List.nil_append, joinB_cons2, joinB_one]
  refine ba_ext ?_
  simp [d1, d2, d5, d6, d7, d8, d11]
theorem join_and (k q : Int) (l : List Int) (S F G : ByteArray) : joinB space (headL k q l ++ [setW, S, ofW, F, andW, G]) = headTx k q l ++ setS ++ S ++ ofS ++ F ++ andS ++ G := by
  unfold headL headTx
  simp only [List.cons_append, List.nil_append, joinB_cons2, joinB_one]
  refine ba_ext ?_
  simp [d1, d2, d4, d5, d6, d7, d8, d10, d11]
theorem word_ne (k : Int) (h : 1 ≤ k ∧ k ≤ 7) : claimWord k ≠ ByteArray.empty := by
  have : (claimWord k).size ≠ 0 := by
    rcases (show k = 1 ∨ k = 2 ∨ k = 3 ∨ k = 4 ∨ k = 5 ∨ k = 6 ∨ k = 7 by omega) with rfl | rfl | rfl | rfl | rfl | rfl | rfl <;> decide
  intro e
  exact this (ba_emp.2 e)
theorem word_emp (k : Int) (h : ¬ (1 ≤ k ∧ k ≤ 7)) : claimWord k = ByteArray.empty := by
  unfold claimWord
  rw [if_neg (by omega), if_neg (by omega), if_neg (by omega), if_neg (by omega), if_neg (by omega), if_neg (by omega), if_neg (by omega)]; rfl
theorem emp_ne (b : ByteArray) (h : b.size ≠ 0) : ¬ ByteArray.empty = b := fun e => h (by rw [← e]; rfl)
theorem head_mem (k q : Int) (l : List Int) (r : List ByteArray) : ByteArray.empty ∈ headL k q l ++ r ↔ (ByteArray.empty = claimWord k ∨ ByteArray.empty ∈ r) := by
  have a2 : ¬ ByteArray.empty = itoaB (lim q) := fun e => itoaB_ne _ e.symm
  have a3 : ¬ ByteArray.empty = listW := emp_ne _ (by decide)
  have a4 : ¬ ByteArray.empty = listTx l := fun e => listTx_ne _ e.symm
  simp [headL, a2, a3, a4]
theorem claimTx_is (k n1 : Int) (l1 : List Int) (n2 : Int) (l2 : List Int) (n3 : Int) (l3 : List Int) (q st : Int) (l4 : List Int) (hk : 1 ≤ k ∧ k ≤ 7) (r : List ByteArray) (hr : partsL k (setTx n1 st) (funTx n1 l1) (funTx n2 l2) (famTx n3 l3) = r) :
    claimTx k n1 l1 n2 l2 n3 l3 q st l4 = if Lib.containsS r ByteArray.empty = true then ByteArray.empty else joinB space (headL k q l4 ++ r) := by
  have hps : claimPs k n1 l1 n2 l2 n3 l3 q st l4 = headL k q l4 ++ r := by unfold claimPs; rw [hr]
  unfold claimTx
  rw [hps]
  have hw : ¬ ByteArray.empty = claimWord k := fun e => word_ne k hk e.symm
  by_cases hm : Lib.containsS r ByteArray.empty = true
  · rw [if_pos hm, if_pos ((Lib.containsS_iff _ _).2 ((head_mem k q l4 r).2 (.inr ((Lib.containsS_iff _ _).1 hm))))]
  · rw [if_neg hm, if_neg (fun h => ((head_mem k q l4 r).1 ((Lib.containsS_iff _ _).1 h)).elim hw (fun h => hm ((Lib.containsS_iff _ _).2 h)))]
theorem of_ne : ¬ ByteArray.empty = ofW := emp_ne _ (by decide)
theorem for_ne : ¬ ByteArray.empty = forW := emp_ne _ (by decide)
theorem and_ne : ¬ ByteArray.empty = andW := emp_ne _ (by decide)
theorem set_ne : ¬ ByteArray.empty = setW := emp_ne _ (by decide)
end Go.Proofs.YtelmokapdkepbaaDoor
end
