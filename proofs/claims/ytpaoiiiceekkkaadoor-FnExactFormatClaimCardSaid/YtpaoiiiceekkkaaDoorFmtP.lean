/- The parts of a claim's text: the first program. -/
import Derived.Test.YtpaoiiiceekkkaaDoorFmtF
import Derived.Test.YtpaoiiiceekkkaaDoorFmtB
import Derived.Test.YtpaoiiiceekkkaaDoorFmtL
import Derived.Test.YtpaoiiiceekkkaaDoorClaim
namespace Go.Proofs.YtpaoiiiceekkkaaDoor
open Go.RowKit Go.G5

def setW : ByteArray := ⟨#[115, 101, 116]⟩
def ofW : ByteArray := ⟨#[111, 102]⟩
def forW : ByteArray := ⟨#[102, 111, 114]⟩
def andW : ByteArray := ⟨#[97, 110, 100]⟩
def partsL (k : Int) (S F G A : ByteArray) : List ByteArray :=
  if k = 1 ∨ k = 5 then [setW, S, ofW, F] else if k = 2 then [ofW, F] else if k = 3 then [ofW, F, forW, G] else if k = 4 then [setW, S, ofW, F, andW, G] else [ofW, A]

set_option maxHeartbeats 2000000 in
set_option maxRecDepth 100000 in
theorem claimParts_any (k n1 : Int) (v1 : Value) (l1 : List Int) (n2 : Int) (v2 : Value) (l2 : List Int) (n3 : Int) (v3 : Value) (l3 : List Int) (q st : Int) (v4 : Value) (w : World)
    (h1 : Ints w v1 l1) (h2 : Ints w v2 l2) (h3 : Ints w v3 l3) (hp : Pow w) :
    Calls Tryd.prog 38 #[clV k n1 v1 n2 v2 n3 v3 q st v4] w fun e w' => ∃ ad i cp, e = .returned (.slice ad i cp) ∧ OwnS 9 w.heap.size w' (.slice ad i cp) (partsL k (setTx n1 st) (funTx n1 l1) (funTx n2 l2) (famTx n3 l3)) ∧ Below w.heap.size w w' := by
  have K0 := Blk.new w 34 (clC k n1 v1 n2 v2 n3 v3 q st v4)
  have hp0 := hp.keep (bl1 w (.cells (clC k n1 v1 n2 v2 n3 v3 q st v4) 34))
  have hs := fmtSetI_any n1 st _ hp0
  obtain ⟨S, hS⟩ : ∃ S, S = setTx n1 st := ⟨_, rfl⟩
  obtain ⟨F, hF⟩ : ∃ F, F = funTx n1 l1 := ⟨_, rfl⟩
  obtain ⟨G, hG⟩ : ∃ G, G = funTx n2 l2 := ⟨_, rfl⟩
  obtain ⟨A, hA⟩ : ∃ A, A = famTx n3 l3 := ⟨_, rfl⟩
  rw [← hS] at hs
  rw [← hS, ← hF, ← hG, ← hA]
  have HS := Lib.hid hs
  have HF := Lib.hid hF
  have HG := Lib.hid hG
  have HA := Lib.hid hA
  clear hs hS hF hG hA
  go_enter Tryd.func38, Tryd.ntmps38
  go_wp2_with fail
  refine HS.out.mono ?_
  rintro e w1 ⟨rfl, b1⟩
  have B1 : Below w.heap.size w w1 := (bl1 _ _).after b1 (by simp)
  have K1 := K0.keep b1
  clear K0 b1 HS
  have G1 := K1.cell
  have c0 := G1 0
  have c1 := G1 1
  have c2 := G1 2
  have c3 := G1 3
  have c4 := G1 4
  simp only [clC, List.getElem?_toArray, List.getElem?_cons_zero, List.getElem?_cons_succ] at c0 c1 c2 c3 c4
  have q1 : ∀ y : Ext w1, y.w.cell? ⟨w.heap.size, 1, none⟩ = some (.int .i64 n1) := fun y => y.cell c1
  have q2 : ∀ y : Ext w1, y.w.cell? ⟨w.heap.size, 2, none⟩ = some v1 := fun y => y.cell c2
  have q3 : ∀ y : Ext w1, y.w.cell? ⟨w.heap.size, 3, none⟩ = some (.int .i64 n2) := fun y => y.cell c3
  have q4 : ∀ y : Ext w1, y.w.cell? ⟨w.heap.size, 4, none⟩ = some v2 := fun y => y.cell c4
  have hp1 := hp.keep B1
  have QF := fun y : Ext w1 => fmtFunI_any n1 l1 v1 y.w ((h1.below B1 (Nat.le_refl _)).keep y.b) (hp1.keep y.b)
  rw [← HF.out] at QF
  have QF := Lib.hid QF
  have QG := fun y : Ext w1 => fmtFunI_any n2 l2 v2 y.w ((h2.below B1 (Nat.le_refl _)).keep y.b) (hp1.keep y.b)
  rw [← HG.out] at QG
  have QG := Lib.hid QG
  clear c0 c1 c2 c3 c4 G1 hp0
  go_wp2_with fail
  refine wp_region_ext _ (by kernel_rfl) (by kernel_rfl) ?_
  repeat (first | go_big_quiet_skip | (go_big_quiet_want; go_big_quiet_op; first | go_big_quiet_on | (apply Exists.intro; refine ⟨fun _ => ?_, ?_⟩; (first | (go_at_call 58; with_reducible exact ext_call (QF.out _)) | (go_at_call 58; with_reducible exact ext_call (QG.out _))); go_big_quiet_on)))
  refine wpQuiet_nil ?_
  rintro w2 ⟨⟨w2, b2⟩, rfl⟩
  try dsimp only
  have B2 := B1.after b2 B1.size
  have K2 := K1.keep b2
  have h32 := h3.below B2 (Nat.le_refl _)
  have hp2 := hp.keep B2
  clear QF QG q1 q2 q3 q4 K1 b2 B1 hp1 h1 h2 h3
  have G2 := K2.cell
  by_cases k1 : k = 1
  · subst k1
    have HP := Lib.hid (show partsL 1 S F G A = [setW, S, ofW, F] from rfl)
    go_wp2
    go_ret
    exact ⟨_, _, _, rfl, by rw [HP.out]; exact (OwnS.lit w2 _ _ rfl (by simp only [List.length_cons, List.length_nil]; unfold maxLen; omega) (Nat.le_refl _)).mono B2.size, B2.alloc B2.size _⟩
  · by_cases k5 : k = 5
    · subst k5
      have HP := Lib.hid (show partsL 5 S F G A = [setW, S, ofW, F] from rfl)
      go_wp2
      go_ret
      exact ⟨_, _, _, rfl, by rw [HP.out]; exact (OwnS.lit w2 _ _ rfl (by simp only [List.length_cons, List.length_nil]; unfold maxLen; omega) (Nat.le_refl _)).mono B2.size, B2.alloc B2.size _⟩
    · by_cases k2 : k = 2
      · subst k2
        have HP := Lib.hid (show partsL 2 S F G A = [ofW, F] from rfl)
        go_wp2
        go_ret
        exact ⟨_, _, _, rfl, by rw [HP.out]; exact (OwnS.lit w2 _ _ rfl (by simp only [List.length_cons, List.length_nil]; unfold maxLen; omega) (Nat.le_refl _)).mono B2.size, B2.alloc B2.size _⟩
      · by_cases k3 : k = 3
        · subst k3
          have HP := Lib.hid (show partsL 3 S F G A = [ofW, F, forW, G] from rfl)
          go_wp2
          go_ret
          exact ⟨_, _, _, rfl, by rw [HP.out]; exact (OwnS.lit w2 _ _ rfl (by simp only [List.length_cons, List.length_nil]; unfold maxLen; omega) (Nat.le_refl _)).mono B2.size, B2.alloc B2.size _⟩
        · by_cases k4 : k = 4
          · subst k4
            have HP := Lib.hid (show partsL 4 S F G A = [setW, S, ofW, F, andW, G] from rfl)
            go_wp2
            go_ret
            exact ⟨_, _, _, rfl, by rw [HP.out]; exact (OwnS.lit w2 _ _ rfl (by simp only [List.length_cons, List.length_nil]; unfold maxLen; omega) (Nat.le_refl _)).mono B2.size, B2.alloc B2.size _⟩
          · have hx : partsL k S F G A = [ofW, A] := by
              unfold partsL
              rw [if_neg (by omega), if_neg k2, if_neg k3, if_neg k4]
            have e1 : (k == 1) = false := by simpa using k1
            have e5 : (k == 5) = false := by simpa using k5
            have e2 : (k == 2) = false := by simpa using k2
            have e3 : (k == 3) = false := by simpa using k3
            have e4 : (k == 4) = false := by simpa using k4
            have hj := fmtFamI_any n3 l3 v3 w2 h32 hp2
            rw [← HA.out] at hj
            have HP := Lib.hid hx
            have HJ := Lib.hid hj
            clear hx hj k1 k2 k3 k4 k5
            go_wp2_with fail
            refine HJ.out.mono ?_
            rintro e w3 ⟨rfl, b3⟩
            have B3 := B2.after b3 B2.size
            go_wp2
            go_ret
            exact ⟨_, _, _, rfl, by rw [HP.out]; exact (OwnS.lit w3 [ofW, A] 2 rfl (by unfold maxLen; omega) (Nat.le_refl _)).mono B3.size, B3.alloc B3.size _⟩
end Go.Proofs.YtpaoiiiceekkkaaDoor
