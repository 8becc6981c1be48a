/- The line of covers: the first program. -/
import Derived.Test.YtpaoiiiceekkkaaDoorQ36
section
namespace Go.Proofs.YtpaoiiiceekkkaaDoor
open Go.RowKit Go.G5

theorem cell_newN {w : World} {cs : Array Value} {T : TypeId} {n i : Nat} {u : Value} (hn : w.heap.size = n) (h : cs[i]? = some u) : (w.alloc (.cells cs T)).cell? ⟨n, i, none⟩ = some u := by
  subst hn
  exact cell_new w cs T i u h
set_option maxHeartbeats 4000000 in
set_option maxRecDepth 100000 in
theorem covLineI_c (w : World) (g : Int) (v : Value) (l : List Int) (hv : Ints w v l) (hl : l.length ≤ 1048576) (hp : Pow w) :
    Calls Tryd.prog 21 #[.agg #[.int .i64 g, v]] w fun e w' => e = .returned (.string (covLn g l)) ∧ Below w.heap.size w w' := by
  have hv0 := hv
  obtain ⟨a, c, rfl⟩ := hv.shape
  have K0 := Blk.new w 32 #[.int .i64 g, .slice a l.length c]
  cases hf : isFamB g l with
  | false =>
    have HX := Lib.hid (covLn_no hf)
    have HF := Lib.hid hf
    clear hf
    go_enter Tryd.func21, Tryd.ntmps21
    go_wp2_with fail
    refine (isFamI_any g l _ _ (hv0.alloc _)).mono ?_
    rintro e w1 ⟨rfl, b1⟩
    rw [HF.out]
    go_wp2
    go_ret
    exact ⟨ret_str HX.out.symm, (bl1 _ _).after b1 (by simp)⟩
  | true =>
    obtain ⟨TT, hTT⟩ : ∃ T, T = covLn g l := ⟨_, rfl⟩
    have hx : joinB spaceB (covL g l) = TT := by rw [hTT, covLn_yes hf]; exact cov_is g l
    unfold covL at hx
    have hpl := pkL_64 g l
    have hpr := pricesL_6 g l
    have htb := tnN_bd g l
    obtain ⟨bT, hbT⟩ : ∃ b, b = tnOk g l := ⟨_, rfl⟩
    obtain ⟨bS, hbS⟩ : ∃ b, b = smallB g l := ⟨_, rfl⟩
    rw [← hbT, ← hbS] at hx
    have hsz : (bS = true → ∀ x ∈ pricesL g l, InR x) → TT.size ≤ 11000 := fun h => by rw [hTT, covLn_yes hf]; exact covT_size g l (by rw [← hbS]; exact h)
    have hsl := smallL_len g l
    have hgl := greedyL_64 g l
    have htn := fun (W : World) (h : Ints W (.slice a l.length c) l) => tnI_any W g _ l h hl
    have hsm := fun (W : World) (h : Ints W (.slice a l.length c) l) => smallestI_c W g _ l h hl
    simp only [← hbT] at htn
    simp only [← hbS] at hsm
    have HTT := Lib.hid hTT
    have HX := Lib.hid hx
    have HSZ := Lib.hid hsz
    have HF := Lib.hid hf
    have HTN := Lib.hid htn
    have HSM := Lib.hid hsm
    clear hx hf htn hsm hTT hsz hbT hbS
    go_enter Tryd.func21, Tryd.ntmps21
    go_wp2_with fail
    refine (isFamI_any g l _ _ (hv0.alloc _)).mono ?_
    rintro e w1 ⟨rfl, b1⟩
    rw [HF.out]
    have B : Below w.heap.size w w1 := (bl1 _ _).after b1 (by simp)
    have K := K0.keep b1
    clear K0 b1
    have G := K.cell
    go_wp2_with fail
    refine (packNumI_any _ g _ l (hv0.below B (Nat.le_refl _))).mono ?_
    rintro e w2 ⟨p2, i2, q2, rfl, hP, b2⟩
    have hi2 : i2 = (pkL g l).length := hP.capLe.1
    subst hi2
    have B1 := B.after b2 B.size
    have K1 := K.keep b2
    clear B K G b2
    obtain ⟨bo, hbo⟩ : ∃ bo, bo = w2.heap.size := ⟨_, rfl⟩
    have zb : w.heap.size < bo := by rw [hbo]; exact K1.lt
    have zc : w2.heap.size ≤ bo := by omega
    have L3 : Line bo (w2.alloc (.cells #[.slice none 0 0] 63)) [] := by rw [hbo]; exact Line.new w2
    have K2 : Blk w2 w.heap.size 32 #[.int .i64 g, .slice a l.length c] := K1
    have B3 := B1.alloc B1.size (.cells #[.slice none 0 0] 63)
    have C3 : Below bo w2 (w2.alloc (.cells #[.slice none 0 0] 63)) := by rw [hbo]; exact bl1 w2 _
    have HE1 := Lib.hid (show (w2.alloc (.cells #[.slice none 0 0] 63)).heap.size = bo + 1 by rw [hbo]; simp)
    go_wp2_with fail
    rw [← hbo]
    clear hbo K1
    have zl11 := L3.lt
    refine (lineAdd_any bo [] [(⟨#[99, 111, 118, 101, 114]⟩ : ByteArray)] (bo + 1) 1 1 _ (L3.keep (bl1 _ _)) rfl (cells_one (cell_newN HE1.out rfl)) (by simp only [List.length_cons, List.length_nil]; omega)).mono ?_
    rintro e w11 ⟨rfl, L11, b11⟩
    have B11 := (B3.alloc B3.size _).after b11 (by omega)
    have C11 := (C3.alloc (Nat.le_of_lt zl11) _).after b11 (Nat.le_refl _)
    clear B3 C3 L3
    obtain ⟨X11, hX11⟩ : ∃ X, X = [] ++ [(⟨#[99, 111, 118, 101, 114]⟩ : ByteArray)] := ⟨_, rfl⟩
    rw [← hX11] at L11
    have hN11 : X11.length ≤ 1 := by rw [hX11, List.length_append]; first | (simp only [List.length_cons, List.length_nil]; omega) | (have := yes_len _ _; omega) | (simp [yes]; omega)
    go_wp2_with fail
    refine (lineNum_any bo X11 (⟨#[112, 97, 99, 107, 105, 110, 103]⟩ : ByteArray) (((pkL g l).length : Int)) ⟨by omega, by omega⟩ _ L11 (hp.keep B11) (by omega)).mono ?_
    rintro e w12 ⟨rfl, L12, b12⟩
    have B12 := B11.after b12 (by omega)
    have C12 := C11.after b12 (Nat.le_refl _)
    clear B11 C11 L11
    obtain ⟨X12, hX12⟩ : ∃ X, X = X11 ++ [(⟨#[112, 97, 99, 107, 105, 110, 103]⟩ : ByteArray), itoaB (((pkL g l).length : Int))] := ⟨_, rfl⟩
    rw [← hX12] at L12
    have hN12 : X12.length ≤ 3 := by rw [hX12, List.length_append]; first | (simp only [List.length_cons, List.length_nil]; omega) | (have := yes_len _ _; omega) | (simp [yes]; omega)
    have G := (blk_under K2 C12 zb).cell
    go_wp2_with fail
    clear G
    refine (fmtFamI_any g (pkL g l) _ _ (hP.below C12 zc) (hp.keep B12)).mono ?_
    rintro e w13 ⟨rfl, b13⟩
    have B13 := B12.after b13 B12.size
    have C13 := C12.after b13 (Nat.le_of_lt L12.lt)
    have L13 := L12.keep b13
    clear B12 C12 L12 b13
    go_wp2_with fail
    have zl14 := L13.lt
    refine (lineAdd_any bo X12 [(⟨#[111, 102]⟩ : ByteArray), famTx g (pkL g l)] w13.heap.size 2 2 _ (L13.keep (bl1 _ _)) rfl (cells_two (cell_new _ _ _ _ _ rfl) (cell_new _ _ _ _ _ rfl)) (by simp only [List.length_cons, List.length_nil]; omega)).mono ?_
    rintro e w14 ⟨rfl, L14, b14⟩
    have B14 := (B13.alloc B13.size _).after b14 (by omega)
    have C14 := (C13.alloc (Nat.le_of_lt zl14) _).after b14 (Nat.le_refl _)
    clear B13 C13 L13
    obtain ⟨X14, hX14⟩ : ∃ X, X = X12 ++ [(⟨#[111, 102]⟩ : ByteArray), famTx g (pkL g l)] := ⟨_, rfl⟩
    rw [← hX14] at L14
    have hN14 : X14.length ≤ 5 := by rw [hX14, List.length_append]; first | (simp only [List.length_cons, List.length_nil]; omega) | (have := yes_len _ _; omega) | (simp [yes]; omega)
    have G := (blk_under K2 C14 zb).cell
    go_wp2_with fail
    clear G
    refine (HTN.out _ (hv0.below B14 (Nat.le_refl _))).mono ?_
    rintro e w15 ⟨rfl, b15⟩
    have B15 := B14.after b15 B14.size
    have C15 := C14.after b15 (Nat.le_of_lt L14.lt)
    have L15 := L14.keep b15
    clear B14 C14 L14 b15
    cases bT with
    | false =>
      have G := (blk_under K2 C15 zb).cell
      go_wp2_with fail
      clear G
      refine (HSM.out _ (hv0.below B15 (Nat.le_refl _))).mono ?_
      rintro e w56 ⟨pS, iS, qS, rfl, oS, b56⟩
      have B56 := B15.after b56 B15.size
      have C56 := C15.after b56 (Nat.le_of_lt L15.lt)
      have L56 := L15.keep b56
      clear B15 C15 L15 b56
      have hiS : iS = (smallL g l).length := oS.ints.capLe.1
      subst hiS
      cases bS with
      | false =>
        have hT : joinB spaceB X14 = TT := by rw [hX14, hX12, hX11]; exact HX.out
        have hz := HSZ.out (fun h => by cases h)
        rw [← hT] at hz
        have HT := Lib.hid hT
        clear hT hX11 hX12 hX14
        obtain ⟨lv, KL, oL⟩ := L56
        have G := KL.cell
        go_wp2_with fail
        clear G
        refine (lineText_any (bo + 1) lv X14 _ oL (by omega) (by omega)).mono ?_
        rintro e wz ⟨rfl, bz⟩
        go_wp2
        go_ret
        exact ⟨ret_str (HT.out.trans HTT.out), B56.after bz B56.size⟩
      | true =>
        have G := (blk_under K2 C56 zb).cell
        go_wp2_with fail
        clear G
        refine (greedyI_c _ g _ l (hv0.below B56 (Nat.le_refl _)) hl).mono ?_
        rintro e w97 ⟨pG, iG, qG, rfl, oG, b97⟩
        have B97 := B56.after b97 B56.size
        have C97 := C56.after b97 (Nat.le_of_lt L56.lt)
        have L97 := L56.keep b97
        clear B56 C56 L56 b97
        have hiG : iG = (greedyL g l).length := oG.ints.capLe.1
        subst hiG
        have G := (blk_under K2 C97 zb).cell
        go_wp2_with fail
        clear G
        refine (pricesI_c _ g _ l (hv0.below B97 (Nat.le_refl _)) hl).mono ?_
        rintro e w98 ⟨pR, iR, qR, rfl, oR, b98⟩
        have B98 := B97.after b98 B97.size
        have C98 := C97.after b98 (Nat.le_of_lt L97.lt)
        have hzL := L97.lt
        have hrl := oR.lt
        have hrI := oR.ints.inR
        have L98 : LineU bo (.slice pR iR qR) w98 X14 := L97.far b98 (fun k hk => (hrl k hk).1)
        have hu98 : ∀ k, (Value.slice pR iR qR).ownBlock = some k → bo < k ∧ k < w98.heap.size := fun k hk => ⟨by have := (hrl k hk).1; omega, (hrl k hk).2⟩
        have hR98 := oR.ints
        clear B97 C97 L97 b98 oR hrl
        go_wp2_with fail
        have HU := Lib.hid hu98
        clear hu98
        refine (lineNum_u bo (.slice pR iR qR) X14 (⟨#[115, 109, 97, 108, 108, 101, 115, 116]⟩ : ByteArray) (((smallL g l).length : Int)) ⟨by omega, by omega⟩ _ L98 HU.out (hp.keep B98) (by omega)).mono ?_
        rintro e w99 ⟨rfl, L99, b99, k99⟩
        have B99 := B98.after b99 (by omega)
        have C99 := C98.after b99 (Nat.le_refl _)
        clear B98 C98 L98
        obtain ⟨X99, hX99⟩ : ∃ X, X = X14 ++ [(⟨#[115, 109, 97, 108, 108, 101, 115, 116]⟩ : ByteArray), itoaB (((smallL g l).length : Int))] := ⟨_, rfl⟩
        rw [← hX99] at L99
        have hN99 : X99.length ≤ 7 := by rw [hX99, List.length_append]; first | (simp only [List.length_cons, List.length_nil]; omega) | (have := yes_len _ _; omega) | (simp [yes]; omega)
        have hs99 : w98.heap.size ≤ w99.heap.size := b99.size
        have hu99 : ∀ k, (Value.slice pR iR qR).ownBlock = some k → bo < k ∧ k < w99.heap.size := fun k hk => ⟨(HU.out k hk).1, Nat.lt_of_lt_of_le (HU.out k hk).2 hs99⟩
        have hR99 := ints_stay hR98 hs99 k99
        clear hR98 k99 HU
        go_wp2_with fail
        have HU := Lib.hid hu99
        clear hu99
        refine (lineNum_u bo (.slice pR iR qR) X99 (⟨#[103, 114, 101, 101, 100, 121]⟩ : ByteArray) (((greedyL g l).length : Int)) ⟨by omega, by omega⟩ _ L99 HU.out (hp.keep B99) (by omega)).mono ?_
        rintro e w100 ⟨rfl, L100, b100, k100⟩
        have B100 := B99.after b100 (by omega)
        have C100 := C99.after b100 (Nat.le_refl _)
        clear B99 C99 L99
        obtain ⟨X100, hX100⟩ : ∃ X, X = X99 ++ [(⟨#[103, 114, 101, 101, 100, 121]⟩ : ByteArray), itoaB (((greedyL g l).length : Int))] := ⟨_, rfl⟩
        rw [← hX100] at L100
        have hN100 : X100.length ≤ 9 := by rw [hX100, List.length_append]; first | (simp only [List.length_cons, List.length_nil]; omega) | (have := yes_len _ _; omega) | (simp [yes]; omega)
        have hs100 : w99.heap.size ≤ w100.heap.size := b100.size
        have hu100 : ∀ k, (Value.slice pR iR qR).ownBlock = some k → bo < k ∧ k < w100.heap.size := fun k hk => ⟨(HU.out k hk).1, Nat.lt_of_lt_of_le (HU.out k hk).2 hs100⟩
        have hR100 := ints_stay hR99 hs100 k100
        clear hR99 k100 HU
        go_wp2_with fail
        have LL := L100.line
        refine (lineList_any bo X100 (⟨#[112, 114, 105, 99, 101, 115]⟩ : ByteArray) _ (pricesL g l) _ hR100 (by omega) LL (hp.keep B100) (by omega)).mono ?_
        rintro e w101 ⟨rfl, L101, b101⟩
        have B101 := B100.after b101 (by omega)
        have C101 := C100.after b101 (Nat.le_refl _)
        clear B100 C100 LL
        obtain ⟨X101, hX101⟩ : ∃ X, X = X100 ++ [(⟨#[112, 114, 105, 99, 101, 115]⟩ : ByteArray), numB (pricesL g l)] := ⟨_, rfl⟩
        rw [← hX101] at L101
        have hN101 : X101.length ≤ 11 := by rw [hX101, List.length_append]; first | (simp only [List.length_cons, List.length_nil]; omega) | (have := yes_len _ _; omega) | (simp [yes]; omega)
        have hsz := HSZ.out (fun _ => hrI)
        have hT : joinB spaceB X101 = TT := by rw [hX101, hX100, hX99, hX14, hX12, hX11]; exact HX.out
        have hz := hsz
        rw [← hT] at hz
        have HT := Lib.hid hT
        clear hT hX11 hX12 hX14 hX99 hX100 hX101
        obtain ⟨lv, KL, oL⟩ := L101
        have G := KL.cell
        go_wp2_with fail
        clear G
        refine (lineText_any (bo + 1) lv X101 _ oL (by omega) (by omega)).mono ?_
        rintro e wz ⟨rfl, bz⟩
        go_wp2
        go_ret
        exact ⟨ret_str (HT.out.trans HTT.out), B101.after bz B101.size⟩
    | true =>
      go_wp2_with fail
      refine (lineNum_any bo X14 (⟨#[116, 114, 97, 110, 115, 118, 101, 114, 115, 97, 108]⟩ : ByteArray) (tnN g l) ⟨by omega, by omega⟩ _ L15 (hp.keep B15) (by omega)).mono ?_
      rintro e w56 ⟨rfl, L56, b56⟩
      have B56 := B15.after b56 (by omega)
      have C56 := C15.after b56 (Nat.le_refl _)
      clear B15 C15 L15
      obtain ⟨X56, hX56⟩ : ∃ X, X = X14 ++ [(⟨#[116, 114, 97, 110, 115, 118, 101, 114, 115, 97, 108]⟩ : ByteArray), itoaB (tnN g l)] := ⟨_, rfl⟩
      rw [← hX56] at L56
      have hN56 : X56.length ≤ 7 := by rw [hX56, List.length_append]; first | (simp only [List.length_cons, List.length_nil]; omega) | (have := yes_len _ _; omega) | (simp [yes]; omega)
      have G := (blk_under K2 C56 zb).cell
      go_wp2_with fail
      clear G
      refine (fmtSetI_any g (tnS g l) _ (hp.keep B56)).mono ?_
      rintro e w57 ⟨rfl, b57⟩
      have B57 := B56.after b57 B56.size
      have C57 := C56.after b57 (Nat.le_of_lt L56.lt)
      have L57 := L56.keep b57
      clear B56 C56 L56 b57
      go_wp2_with fail
      have zl58 := L57.lt
      refine (lineAdd_any bo X56 [(⟨#[98, 121]⟩ : ByteArray), setTx g (tnS g l)] w57.heap.size 2 2 _ (L57.keep (bl1 _ _)) rfl (cells_two (cell_new _ _ _ _ _ rfl) (cell_new _ _ _ _ _ rfl)) (by simp only [List.length_cons, List.length_nil]; omega)).mono ?_
      rintro e w58 ⟨rfl, L58, b58⟩
      have B58 := (B57.alloc B57.size _).after b58 (by omega)
      have C58 := (C57.alloc (Nat.le_of_lt zl58) _).after b58 (Nat.le_refl _)
      clear B57 C57 L57
      obtain ⟨X58, hX58⟩ : ∃ X, X = X56 ++ [(⟨#[98, 121]⟩ : ByteArray), setTx g (tnS g l)] := ⟨_, rfl⟩
      rw [← hX58] at L58
      have hN58 : X58.length ≤ 9 := by rw [hX58, List.length_append]; first | (simp only [List.length_cons, List.length_nil]; omega) | (have := yes_len _ _; omega) | (simp [yes]; omega)
      have G := (blk_under K2 C58 zb).cell
      go_wp2_with fail
      clear G
      refine (HSM.out _ (hv0.below B58 (Nat.le_refl _))).mono ?_
      rintro e w59 ⟨pS, iS, qS, rfl, oS, b59⟩
      have B59 := B58.after b59 B58.size
      have C59 := C58.after b59 (Nat.le_of_lt L58.lt)
      have L59 := L58.keep b59
      clear B58 C58 L58 b59
      have hiS : iS = (smallL g l).length := oS.ints.capLe.1
      subst hiS
      cases bS with
      | false =>
        have hT : joinB spaceB X58 = TT := by rw [hX58, hX56, hX14, hX12, hX11]; exact HX.out
        have hz := HSZ.out (fun h => by cases h)
        rw [← hT] at hz
        have HT := Lib.hid hT
        clear hT hX11 hX12 hX14 hX56 hX58
        obtain ⟨lv, KL, oL⟩ := L59
        have G := KL.cell
        go_wp2_with fail
        clear G
        refine (lineText_any (bo + 1) lv X58 _ oL (by omega) (by omega)).mono ?_
        rintro e wz ⟨rfl, bz⟩
        go_wp2
        go_ret
        exact ⟨ret_str (HT.out.trans HTT.out), B59.after bz B59.size⟩
      | true =>
        have G := (blk_under K2 C59 zb).cell
        go_wp2_with fail
        clear G
        refine (greedyI_c _ g _ l (hv0.below B59 (Nat.le_refl _)) hl).mono ?_
        rintro e w100 ⟨pG, iG, qG, rfl, oG, b100⟩
        have B100 := B59.after b100 B59.size
        have C100 := C59.after b100 (Nat.le_of_lt L59.lt)
        have L100 := L59.keep b100
        clear B59 C59 L59 b100
        have hiG : iG = (greedyL g l).length := oG.ints.capLe.1
        subst hiG
        have G := (blk_under K2 C100 zb).cell
        go_wp2_with fail
        clear G
        refine (pricesI_c _ g _ l (hv0.below B100 (Nat.le_refl _)) hl).mono ?_
        rintro e w101 ⟨pR, iR, qR, rfl, oR, b101⟩
        have B101 := B100.after b101 B100.size
        have C101 := C100.after b101 (Nat.le_of_lt L100.lt)
        have hzL := L100.lt
        have hrl := oR.lt
        have hrI := oR.ints.inR
        have L101 : LineU bo (.slice pR iR qR) w101 X58 := L100.far b101 (fun k hk => (hrl k hk).1)
        have hu101 : ∀ k, (Value.slice pR iR qR).ownBlock = some k → bo < k ∧ k < w101.heap.size := fun k hk => ⟨by have := (hrl k hk).1; omega, (hrl k hk).2⟩
        have hR101 := oR.ints
        clear B100 C100 L100 b101 oR hrl
        go_wp2_with fail
        have HU := Lib.hid hu101
        clear hu101
        refine (lineNum_u bo (.slice pR iR qR) X58 (⟨#[115, 109, 97, 108, 108, 101, 115, 116]⟩ : ByteArray) (((smallL g l).length : Int)) ⟨by omega, by omega⟩ _ L101 HU.out (hp.keep B101) (by omega)).mono ?_
        rintro e w102 ⟨rfl, L102, b102, k102⟩
        have B102 := B101.after b102 (by omega)
        have C102 := C101.after b102 (Nat.le_refl _)
        clear B101 C101 L101
        obtain ⟨X102, hX102⟩ : ∃ X, X = X58 ++ [(⟨#[115, 109, 97, 108, 108, 101, 115, 116]⟩ : ByteArray), itoaB (((smallL g l).length : Int))] := ⟨_, rfl⟩
        rw [← hX102] at L102
        have hN102 : X102.length ≤ 11 := by rw [hX102, List.length_append]; first | (simp only [List.length_cons, List.length_nil]; omega) | (have := yes_len _ _; omega) | (simp [yes]; omega)
        have hs102 : w101.heap.size ≤ w102.heap.size := b102.size
        have hu102 : ∀ k, (Value.slice pR iR qR).ownBlock = some k → bo < k ∧ k < w102.heap.size := fun k hk => ⟨(HU.out k hk).1, Nat.lt_of_lt_of_le (HU.out k hk).2 hs102⟩
        have hR102 := ints_stay hR101 hs102 k102
        clear hR101 k102 HU
        go_wp2_with fail
        have HU := Lib.hid hu102
        clear hu102
        refine (lineNum_u bo (.slice pR iR qR) X102 (⟨#[103, 114, 101, 101, 100, 121]⟩ : ByteArray) (((greedyL g l).length : Int)) ⟨by omega, by omega⟩ _ L102 HU.out (hp.keep B102) (by omega)).mono ?_
        rintro e w103 ⟨rfl, L103, b103, k103⟩
        have B103 := B102.after b103 (by omega)
        have C103 := C102.after b103 (Nat.le_refl _)
        clear B102 C102 L102
        obtain ⟨X103, hX103⟩ : ∃ X, X = X102 ++ [(⟨#[103, 114, 101, 101, 100, 121]⟩ : ByteArray), itoaB (((greedyL g l).length : Int))] := ⟨_, rfl⟩
        rw [← hX103] at L103
        have hN103 : X103.length ≤ 13 := by rw [hX103, List.length_append]; first | (simp only [List.length_cons, List.length_nil]; omega) | (have := yes_len _ _; omega) | (simp [yes]; omega)
        have hs103 : w102.heap.size ≤ w103.heap.size := b103.size
        have hu103 : ∀ k, (Value.slice pR iR qR).ownBlock = some k → bo < k ∧ k < w103.heap.size := fun k hk => ⟨(HU.out k hk).1, Nat.lt_of_lt_of_le (HU.out k hk).2 hs103⟩
        have hR103 := ints_stay hR102 hs103 k103
        clear hR102 k103 HU
        go_wp2_with fail
        have LL := L103.line
        refine (lineList_any bo X103 (⟨#[112, 114, 105, 99, 101, 115]⟩ : ByteArray) _ (pricesL g l) _ hR103 (by omega) LL (hp.keep B103) (by omega)).mono ?_
        rintro e w104 ⟨rfl, L104, b104⟩
        have B104 := B103.after b104 (by omega)
        have C104 := C103.after b104 (Nat.le_refl _)
        clear B103 C103 LL
        obtain ⟨X104, hX104⟩ : ∃ X, X = X103 ++ [(⟨#[112, 114, 105, 99, 101, 115]⟩ : ByteArray), numB (pricesL g l)] := ⟨_, rfl⟩
        rw [← hX104] at L104
        have hN104 : X104.length ≤ 15 := by rw [hX104, List.length_append]; first | (simp only [List.length_cons, List.length_nil]; omega) | (have := yes_len _ _; omega) | (simp [yes]; omega)
        have hsz := HSZ.out (fun _ => hrI)
        have hT : joinB spaceB X104 = TT := by rw [hX104, hX103, hX102, hX58, hX56, hX14, hX12, hX11]; exact HX.out
        have hz := hsz
        rw [← hT] at hz
        have HT := Lib.hid hT
        clear hT hX11 hX12 hX14 hX56 hX58 hX102 hX103 hX104
        obtain ⟨lv, KL, oL⟩ := L104
        have G := KL.cell
        go_wp2_with fail
        clear G
        refine (lineText_any (bo + 1) lv X104 _ oL (by omega) (by omega)).mono ?_
        rintro e wz ⟨rfl, bz⟩
        go_wp2
        go_ret
        exact ⟨ret_str (HT.out.trans HTT.out), B104.after bz B104.size⟩
end Go.Proofs.YtpaoiiiceekkkaaDoor
end
