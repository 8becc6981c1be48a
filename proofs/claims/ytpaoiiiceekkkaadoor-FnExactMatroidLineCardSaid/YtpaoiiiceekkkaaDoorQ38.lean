/- The line of a matroid: the first program. -/
import Derived.Test.YtpaoiiiceekkkaaDoorQ37
import Derived.Deep.RegionHeld3
section
namespace Go.Proofs.YtpaoiiiceekkkaaDoor
open Go.RowKit Go.G5

theorem cells_five {w : World} {b : Nat} {x0 x1 x2 x3 x4 : ByteArray} (h0 : w.cell? ⟨b, 0, none⟩ = some (.string x0)) (h1 : w.cell? ⟨b, 1, none⟩ = some (.string x1)) (h2 : w.cell? ⟨b, 2, none⟩ = some (.string x2)) (h3 : w.cell? ⟨b, 3, none⟩ = some (.string x3)) (h4 : w.cell? ⟨b, 4, none⟩ = some (.string x4)) :
    ∀ (j : Nat) z, [x0, x1, x2, x3, x4][j]? = some z → w.cell? ⟨b, 0 + j, none⟩ = some (.string z) := by
  intro j z hz
  match j, hz with
  | 0, hz => cases hz; exact h0
  | 1, hz => cases hz; exact h1
  | 2, hz => cases hz; exact h2
  | 3, hz => cases hz; exact h3
  | 4, hz => cases hz; exact h4
set_option maxHeartbeats 4000000 in
set_option maxRecDepth 100000 in
theorem mlLineI_c (w : World) (n : Int) (v : Value) (l : List Int) (hv : Ints w v l) (hl : l.length ≤ 1048576) (hp : Pow w) :
    Calls Tryd.prog 24 #[.agg #[.int .i64 n, v]] w fun e w' => e = .returned (.string (mlLn n l)) ∧ Below w.heap.size w w' := by
  have hv0 := hv
  obtain ⟨a, c, rfl⟩ := hv.shape
  have K0 := Blk.new w 31 #[.int .i64 n, .slice a l.length c]
  cases hf : rankB n l with
  | false =>
    have HX := Lib.hid (mlLn_no hf)
    have HF := Lib.hid hf
    clear hf
    go_enter Tryd.func24, Tryd.ntmps24
    go_wp2_with fail
    refine (rankI_any n l _ _ (hv0.alloc _) hl).mono ?_
    rintro e w1 ⟨rfl, b1⟩
    rw [HF.out]
    go_wp2
    go_ret
    exact ⟨ret_str HX.out.symm, (bl1 _ _).after b1 (by simp)⟩
  | true =>
    obtain ⟨TT, hTT⟩ : ∃ T, T = mlLn n l := ⟨_, rfl⟩
    have hsz : TT.size ≤ 30180 := by rw [hTT, mlLn_yes hf]; exact mlT_size n l
    have hx : joinB spaceB (mlL n l) = TT := by rw [hTT, mlLn_yes hf]; exact ml_is n l
    unfold mlL at hx
    have hcb := cvN_bd n l
    have hpb := pvN_bd n l
    obtain ⟨bC, hbC⟩ : ∃ b, b = cvB n l := ⟨_, rfl⟩
    obtain ⟨bP, hbP⟩ : ∃ b, b = pvB n l := ⟨_, rfl⟩
    rw [← hbC, ← hbP] at hx
    have hcv := fun (W : World) (h : Ints W (.slice a l.length c) l) => cvI_any W n _ l h hl
    have hpk := fun (W : World) (h : Ints W (.slice a l.length c) l) => pkI_any W n _ l h hl
    simp only [← hbC] at hcv
    simp only [← hbP] at hpk
    obtain ⟨M, hM⟩ : ∃ M, M = matN n l := ⟨_, rfl⟩
    have hbs := fun (W : World) (h : Ints W (.slice a l.length c) l) => basI_c W n _ l h hl
    have hcr := fun (W : World) (h : Ints W (.slice a l.length c) l) => cirI_c W n _ l h hl
    simp only [← hM] at hbs hcr
    rw [← hM] at hx
    have HBS := Lib.hid hbs
    have HCR := Lib.hid hcr
    have HTT := Lib.hid hTT
    have HX := Lib.hid hx
    have HF := Lib.hid hf
    have HCV := Lib.hid hcv
    have HPK := Lib.hid hpk
    clear hx hf hcv hpk hTT hbC hbP hbs hcr hM
    go_enter Tryd.func24, Tryd.ntmps24
    go_wp2_with fail
    refine (rankI_any n l _ _ (hv0.alloc _) hl).mono ?_
    rintro e w1 ⟨rfl, b1⟩
    rw [HF.out]
    have B1 : Below w.heap.size w w1 := (bl1 _ _).after b1 (by simp)
    have K1 := K0.keep b1
    clear K0 b1
    have G := K1.cell
    go_wp2_with fail
    refine (HBS.out _ (hv0.below B1 (Nat.le_refl _))).mono ?_
    rintro e w2 ⟨pB, iB, qB, rfl, oB, b2⟩
    have hiB : iB = (basL n l).length := oB.ints.capLe.1
    subst hiB
    have B2 := B1.after b2 B1.size
    have K2 := K1.keep b2
    clear G B1 K1 b2
    have KB := Blk.new w2 32 #[.int .i64 M, .slice pB (basL n l).length qB]
    have hB := oB.ints.alloc (.cells #[.int .i64 M, .slice pB (basL n l).length qB] 32)
    have B2' := B2.alloc B2.size (.cells #[.int .i64 M, .slice pB (basL n l).length qB] 32)
    have K2' := K2.alloc (.cells #[.int .i64 M, .slice pB (basL n l).length qB] 32)
    have G := K2'.cell
    go_wp2_with fail
    refine (HCR.out _ (hv0.below B2' (Nat.le_refl _))).mono ?_
    rintro e w3 ⟨pC, iC, qC, rfl, oC, b3⟩
    have hiC : iC = (cirL n l).length := oC.ints.capLe.1
    subst hiC
    have B3 := B2'.after b3 B2'.size
    have K3 := K2'.keep b3
    have KB := KB.keep b3
    have hB := hB.keep b3
    clear G B2 B2' K2 K2' b3
    have KC := Blk.new w3 32 #[.int .i64 M, .slice pC (cirL n l).length qC]
    have hC := oC.ints.alloc (.cells #[.int .i64 M, .slice pC (cirL n l).length qC] 32)
    have B3' := B3.alloc B3.size (.cells #[.int .i64 M, .slice pC (cirL n l).length qC] 32)
    have K3' := K3.alloc (.cells #[.int .i64 M, .slice pC (cirL n l).length qC] 32)
    have KB := KB.alloc (.cells #[.int .i64 M, .slice pC (cirL n l).length qC] 32)
    have hB := hB.alloc (.cells #[.int .i64 M, .slice pC (cirL n l).length qC] 32)
    have G := K3'.cell
    go_wp2_with fail
    refine (flaI_c _ n _ l (hv0.below B3' (Nat.le_refl _)) hl).mono ?_
    rintro e w4 ⟨pF, iF, qF, rfl, oF, b4⟩
    have hiF : iF = (flaL n l).length := oF.ints.capLe.1
    subst hiF
    have B4 := B3'.after b4 B3'.size
    have K2 := K3'.keep b4
    have KB := KB.keep b4
    have KC := KC.keep b4
    have hB := hB.keep b4
    have hC := hC.keep b4
    have hFl := oF.ints
    clear G B3 B3' K3 K3' b4
    obtain ⟨gB, hgB⟩ : ∃ g, g = w2.heap.size := ⟨_, rfl⟩
    obtain ⟨gC, hgC⟩ : ∃ g, g = w3.heap.size := ⟨_, rfl⟩
    obtain ⟨bo, hbo⟩ : ∃ bo, bo = w4.heap.size := ⟨_, rfl⟩
    rw [← hgB] at KB
    rw [← hgC] at KC
    have zb : w.heap.size < bo := by rw [hbo]; exact K2.lt
    have zB : gB < bo := by rw [hbo]; exact KB.lt
    have zC : gC < bo := by rw [hbo]; exact KC.lt
    have zc : w4.heap.size ≤ bo := by omega
    have L5 : Line bo (w4.alloc (.cells #[.slice none 0 0] 63)) [] := by rw [hbo]; exact Line.new w4
    have B5 := B4.alloc B4.size (.cells #[.slice none 0 0] 63)
    have C5 : Below bo w4 (w4.alloc (.cells #[.slice none 0 0] 63)) := by rw [hbo]; exact bl1 w4 _
    go_wp2_with fail
    rw [← hbo, ← hgB, ← hgC]
    clear hbo hgB hgC
    obtain ⟨V, hV⟩ : ∃ V, V = w4.alloc (.cells #[.slice none 0 0] 63) := ⟨_, rfl⟩
    rw [← hV] at L5 B5 C5 ⊢
    clear hV
    have KBV := blk_under KB C5 zB
    have KCV := blk_under KC C5 zC
    have hBV := (hB.below C5 zc).drewN 1
    have hCV := (hC.below C5 zc).drewN 1
    have hpV := (hp.keep B5).keep ((Below.refl V.heap.size V).drewN' 1)
    have LV := L5.keep ((Below.refl V.heap.size V).drewN' 1)
    have zbV := L5.lt
    have zBV := KBV.lt
    have zCV := KCV.lt
    have bV : Below V.heap.size V (V.drewN 1) := (Below.refl V.heap.size V).drewN' 1
    have GB := KBV.cell
    have GC := KCV.cell
    have HF1 := Lib.hid (fmtFamI_any M (basL n l) _ _ hBV hpV)
    have HF2 := Lib.hid (fun (W : World) (h : Below (V.drewN 1).heap.size (V.drewN 1) W) => fmtFamI_any M (cirL n l) _ W (hCV.keep h) (hpV.keep h))
    have HAD := Lib.hid (fun (W : World) (h : Below (V.drewN 1).heap.size (V.drewN 1) W) => lineAdd_any bo [] [(⟨#[109, 97, 116, 114, 111, 105, 100]⟩ : ByteArray), (⟨#[98, 97, 115, 101, 115]⟩ : ByteArray), famTx M (basL n l), (⟨#[99, 105, 114, 99, 117, 105, 116, 115]⟩ : ByteArray), famTx M (cirL n l)] W.heap.size 5 5 _ ((LV.keep h).keep (bl1 W (.cells #[.string (⟨#[109, 97, 116, 114, 111, 105, 100]⟩ : ByteArray), .string (⟨#[98, 97, 115, 101, 115]⟩ : ByteArray), .string (famTx M (basL n l)), .string (⟨#[99, 105, 114, 99, 117, 105, 116, 115]⟩ : ByteArray), .string (famTx M (cirL n l))] 9))) rfl (cells_five (cell_new _ _ _ _ _ rfl) (cell_new _ _ _ _ _ rfl) (cell_new _ _ _ _ _ rfl) (cell_new _ _ _ _ _ rfl) (cell_new _ _ _ _ _ rfl)) (by simp))
    obtain ⟨F1, hF1⟩ : ∃ F, F = famTx M (basL n l) := ⟨_, rfl⟩
    obtain ⟨F2, hF2⟩ : ∃ F, F = famTx M (cirL n l) := ⟨_, rfl⟩
    simp only [← hF1, ← hF2] at HF1 HF2 HAD
    have HFS := Lib.hid (And.intro hF1 hF2)
    clear hF1 hF2
    have hx2 := HX.out
    rw [← HFS.out.1, ← HFS.out.2] at hx2
    have HX := Lib.hid hx2
    clear hx2
    go_region_held3 (fun w' => (∀ i, w'.cell? ⟨gB, i, none⟩ = (#[.int .i64 M, .slice pB (basL n l).length qB] : Array Value)[i]?) ∧ (∀ i, w'.cell? ⟨gC, i, none⟩ = (#[.int .i64 M, .slice pC (cirL n l).length qC] : Array Value)[i]?)) (go_keep)
      (first
        | (go_at_call_of 80 (Value.slice pB (basL n l).length qB); refine HF1.out.mono ?_; rintro e wa ⟨rfl, ba⟩; obtain ⟨hca, hfa⟩ := bcellN ba V.heap.size (by first | omega | (simp; done) | (simp; omega)); have za := ba.size; (try simp at za))
        | (go_at_call_of 80 (Value.slice pC (cirL n l).length qC); refine (HF2.out wa ba).mono ?_; rintro e wb ⟨rfl, bb⟩; have bb := ba.after bb ba.size; have hab := fun o => (((KBV.drewN 1).keep bb).alloc o).cell; have hac := fun o => (((KCV.drewN 1).keep bb).alloc o).cell; obtain ⟨hcb', hfb⟩ := bcellN bb V.heap.size (by first | omega | (simp; done) | (simp; omega)); have zb' := bb.size; (try simp at zb'))
        | (go_at_call 57; refine (HAD.out wb bb).mono ?_; rintro e wc ⟨rfl, L6, b6⟩; obtain ⟨hcc, hfc⟩ := bcellN b6 bo (Nat.le_refl _)))
    have Bw := (B5.after bV B5.size).after bb B5.size
    have Cw := (C5.after bV (Nat.le_of_lt zbV)).after bb (Nat.le_of_lt zbV)
    have zl := (LV.keep bb).lt
    have B6 := (Bw.alloc Bw.size _).after b6 (by omega)
    have C6 := (Cw.alloc (Nat.le_of_lt zl) _).after b6 (Nat.le_refl _)
    clear Bw Cw B5 C5 bV bb b6 hBV hCV hpV LV L5 KBV KCV GB GC hca hfa hcb' hfb hab hac hcc hfc HF1 HF2 HAD ba
    obtain ⟨X6, hX6⟩ : ∃ X, X = [] ++ [(⟨#[109, 97, 116, 114, 111, 105, 100]⟩ : ByteArray), (⟨#[98, 97, 115, 101, 115]⟩ : ByteArray), F1, (⟨#[99, 105, 114, 99, 117, 105, 116, 115]⟩ : ByteArray), F2] := ⟨_, rfl⟩
    rw [← hX6] at L6
    have hN6 : X6.length ≤ 5 := by rw [hX6]; simp
    have G := (blk_under K2 C6 zb).cell
    go_wp2_with fail
    clear G
    refine (fmtFamI_any n (flaL n l) _ _ (hFl.below C6 zc) (hp.keep B6)).mono ?_
    rintro e w11 ⟨rfl, b11⟩
    have B11 := B6.after b11 B6.size
    have C11 := C6.after b11 (Nat.le_of_lt L6.lt)
    have L11 := L6.keep b11
    clear B6 C6 L6 b11
    go_wp2_with fail
    have zl12 := L11.lt
    refine (lineAdd_any bo X6 [(⟨#[102, 108, 97, 116, 115]⟩ : ByteArray), famTx n (flaL n l)] w11.heap.size 2 2 _ (L11.keep (bl1 _ _)) rfl (cells_two (cell_new _ _ _ _ _ rfl) (cell_new _ _ _ _ _ rfl)) (by simp only [List.length_cons, List.length_nil]; omega)).mono ?_
    rintro e w12 ⟨rfl, L12, b12⟩
    have B12 := (B11.alloc B11.size _).after b12 (by omega)
    have C12 := (C11.alloc (Nat.le_of_lt zl12) _).after b12 (Nat.le_refl _)
    clear B11 C11 L11
    obtain ⟨X12, hX12⟩ : ∃ X, X = X6 ++ [(⟨#[102, 108, 97, 116, 115]⟩ : ByteArray), famTx n (flaL n l)] := ⟨_, rfl⟩
    rw [← hX12] at L12
    have hN12 : X12.length ≤ 7 := by rw [hX12, List.length_append]; first | (simp only [List.length_cons, List.length_nil]; omega) | (have := yes_len _ _; omega) | (simp [yes]; omega)
    have G := (blk_under K2 C12 zb).cell
    go_wp2_with fail
    clear G
    refine (HCV.out _ (hv0.below B12 (Nat.le_refl _))).mono ?_
    rintro e w13 ⟨rfl, b13⟩
    have B13 := B12.after b13 B12.size
    have C13 := C12.after b13 (Nat.le_of_lt L12.lt)
    have L13 := L12.keep b13
    clear B12 C12 L12 b13
    cases bC with
    | false =>
      have G := (blk_under K2 C13 zb).cell
      go_wp2_with fail
      clear G
      refine (HPK.out _ (hv0.below B13 (Nat.le_refl _))).mono ?_
      rintro e w54 ⟨rfl, b54⟩
      have B54 := B13.after b54 B13.size
      have C54 := C13.after b54 (Nat.le_of_lt L13.lt)
      have L54 := L13.keep b54
      clear B13 C13 L13 b54
      cases bP with
      | false =>
        have hT : joinB spaceB X12 = TT := by rw [hX12, hX6]; exact HX.out
        have hz := hsz
        rw [← hT] at hz
        have HT := Lib.hid hT
        clear hT hX6 hX12
        obtain ⟨lv, KL, oL⟩ := L54
        have G := KL.cell
        go_wp2_with fail
        clear G
        refine (lineText_any (bo + 1) lv X12 _ oL (by omega) (by omega)).mono ?_
        rintro e wz ⟨rfl, bz⟩
        go_wp2
        go_ret
        exact ⟨ret_str (HT.out.trans HTT.out), B54.after bz B54.size⟩
      | true =>
        go_wp2_with fail
        refine (lineNum_any bo X12 (⟨#[112, 97, 99, 107, 115]⟩ : ByteArray) (pvN n l) ⟨by omega, by omega⟩ _ L54 (hp.keep B54) (by omega)).mono ?_
        rintro e w95 ⟨rfl, L95, b95⟩
        have B95 := B54.after b95 (by omega)
        have C95 := C54.after b95 (Nat.le_refl _)
        clear B54 C54 L54
        obtain ⟨X95, hX95⟩ : ∃ X, X = X12 ++ [(⟨#[112, 97, 99, 107, 115]⟩ : ByteArray), itoaB (pvN n l)] := ⟨_, rfl⟩
        rw [← hX95] at L95
        have hN95 : X95.length ≤ 9 := by rw [hX95, List.length_append]; first | (simp only [List.length_cons, List.length_nil]; omega) | (have := yes_len _ _; omega) | (simp [yes]; omega)
        have hT : joinB spaceB X95 = TT := by rw [hX95, hX12, hX6]; exact HX.out
        have hz := hsz
        rw [← hT] at hz
        have HT := Lib.hid hT
        clear hT hX6 hX12 hX95
        obtain ⟨lv, KL, oL⟩ := L95
        have G := KL.cell
        go_wp2_with fail
        clear G
        refine (lineText_any (bo + 1) lv X95 _ oL (by omega) (by omega)).mono ?_
        rintro e wz ⟨rfl, bz⟩
        go_wp2
        go_ret
        exact ⟨ret_str (HT.out.trans HTT.out), B95.after bz B95.size⟩
    | true =>
      go_wp2_with fail
      refine (lineNum_any bo X12 (⟨#[99, 111, 118, 101, 114, 115]⟩ : ByteArray) (cvN n l) ⟨by omega, by omega⟩ _ L13 (hp.keep B13) (by omega)).mono ?_
      rintro e w54 ⟨rfl, L54, b54⟩
      have B54 := B13.after b54 (by omega)
      have C54 := C13.after b54 (Nat.le_refl _)
      clear B13 C13 L13
      obtain ⟨X54, hX54⟩ : ∃ X, X = X12 ++ [(⟨#[99, 111, 118, 101, 114, 115]⟩ : ByteArray), itoaB (cvN n l)] := ⟨_, rfl⟩
      rw [← hX54] at L54
      have hN54 : X54.length ≤ 9 := by rw [hX54, List.length_append]; first | (simp only [List.length_cons, List.length_nil]; omega) | (have := yes_len _ _; omega) | (simp [yes]; omega)
      have G := (blk_under K2 C54 zb).cell
      go_wp2_with fail
      clear G
      refine (HPK.out _ (hv0.below B54 (Nat.le_refl _))).mono ?_
      rintro e w55 ⟨rfl, b55⟩
      have B55 := B54.after b55 B54.size
      have C55 := C54.after b55 (Nat.le_of_lt L54.lt)
      have L55 := L54.keep b55
      clear B54 C54 L54 b55
      cases bP with
      | false =>
        have hT : joinB spaceB X54 = TT := by rw [hX54, hX12, hX6]; exact HX.out
        have hz := hsz
        rw [← hT] at hz
        have HT := Lib.hid hT
        clear hT hX6 hX12 hX54
        obtain ⟨lv, KL, oL⟩ := L55
        have G := KL.cell
        go_wp2_with fail
        clear G
        refine (lineText_any (bo + 1) lv X54 _ oL (by omega) (by omega)).mono ?_
        rintro e wz ⟨rfl, bz⟩
        go_wp2
        go_ret
        exact ⟨ret_str (HT.out.trans HTT.out), B55.after bz B55.size⟩
      | true =>
        go_wp2_with fail
        refine (lineNum_any bo X54 (⟨#[112, 97, 99, 107, 115]⟩ : ByteArray) (pvN n l) ⟨by omega, by omega⟩ _ L55 (hp.keep B55) (by omega)).mono ?_
        rintro e w96 ⟨rfl, L96, b96⟩
        have B96 := B55.after b96 (by omega)
        have C96 := C55.after b96 (Nat.le_refl _)
        clear B55 C55 L55
        obtain ⟨X96, hX96⟩ : ∃ X, X = X54 ++ [(⟨#[112, 97, 99, 107, 115]⟩ : ByteArray), itoaB (pvN n l)] := ⟨_, rfl⟩
        rw [← hX96] at L96
        have hN96 : X96.length ≤ 11 := by rw [hX96, List.length_append]; first | (simp only [List.length_cons, List.length_nil]; omega) | (have := yes_len _ _; omega) | (simp [yes]; omega)
        have hT : joinB spaceB X96 = TT := by rw [hX96, hX54, hX12, hX6]; exact HX.out
        have hz := hsz
        rw [← hT] at hz
        have HT := Lib.hid hT
        clear hT hX6 hX12 hX54 hX96
        obtain ⟨lv, KL, oL⟩ := L96
        have G := KL.cell
        go_wp2_with fail
        clear G
        refine (lineText_any (bo + 1) lv X96 _ oL (by omega) (by omega)).mono ?_
        rintro e wz ⟨rfl, bz⟩
        go_wp2
        go_ret
        exact ⟨ret_str (HT.out.trans HTT.out), B96.after bz B96.size⟩
end Go.Proofs.YtpaoiiiceekkkaaDoor
end
