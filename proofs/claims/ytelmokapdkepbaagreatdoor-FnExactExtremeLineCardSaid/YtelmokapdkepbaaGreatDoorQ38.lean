/- The line of extremes: the first program. -/
import Derived.Test.YtelmokapdkepbaaGreatDoorQ37
section
namespace Go.Proofs.YtelmokapdkepbaaGreatDoor
open Go.RowKit Go.G5

theorem cell_newN {w : World} {cs : Array Value} {T : TypeId} {n i : Nat} {u : Value} (hn : w.heap.size = n) (h : cs[i]? = some u) : (w.alloc (.cells cs T)).cell? ⟨n, i, none⟩ = some u := by
  subst hn
  exact cell_new w cs T i u h
set_option maxHeartbeats 4000000 in
set_option maxRecDepth 100000 in
theorem xlLineI_c (w : World) (n : Int) (v : Value) (l : List Int) (hv : Ints w v l) (hl : l.length ≤ 1048576) (hp : Pow w) :
    Calls Tryz.prog 8 #[.agg #[.int .i64 n, v]] w fun e w' => e = .returned (.string (xlLn n l)) ∧ Below w.heap.size w w' := by
  have hv0 := hv
  obtain ⟨a, c, rfl⟩ := hv.shape
  have K0 := Blk.new w 27 #[.int .i64 n, .slice a l.length c]
  cases hf : isFunB n l with
  | false =>
    have HX := Lib.hid (xlLn_no hf)
    have HF := Lib.hid hf
    clear hf
    go_enter Tryz.func8, Tryz.ntmps8
    go_wp2_with fail
    refine (isFunI_any n l _ _ (hv0.alloc _)).mono ?_
    rintro e w1 ⟨rfl, b1⟩
    rw [HF.out]
    go_wp2
    go_ret
    exact ⟨ret_str HX.out.symm, (bl1 _ _).after b1 (by simp)⟩
  | true =>
    obtain ⟨TT, hTT⟩ : ∃ T, T = xlLn n l := ⟨_, rfl⟩
    have hsz : (∀ x ∈ dvL n l, InR x) → TT.size ≤ 10700 := by rw [hTT, xlLn_yes hf]; exact xlT_size hf
    have hx : joinB spaceB (xlL n l) = TT := by rw [hTT, xlLn_yes hf]; exact xl_is n l
    unfold xlL xlA at hx
    have hlb := lst_bd hf
    have hmb := mxN_bd hf
    have hdb := dgN_bd hf
    have hcb := cut_bd n l
    have hdl := dvL_len n l
    have hpos : 0 < l.length := by
      obtain ⟨N, _, _, h2, _⟩ := fun_nat hf
      have := Nat.two_pow_pos N
      omega
    have hmn : minN n l = lstN l := by unfold minN; rw [hf]; rfl
    have hdg : dgS n l = (dgTo l n.toNat n.toNat : Int) := by unfold dgS; rw [hf]; rfl
    have hdlt : dgTo l n.toNat n.toNat < l.length := by
      obtain ⟨N, rfl, h5, h2, _⟩ := fun_nat hf
      rw [Int.toNat_natCast, h2]
      exact dgTo_lt l N h5 N (Nat.le_refl _)
    have hdn : dgN n l = l.getD (dgTo l n.toNat n.toNat) 0 := rfl
    have hval : ∀ (W : World), Ints W (.slice a l.length c) l → Calls Tryz.prog 37 #[.agg #[.int .i64 n, .slice a l.length c], .int .i64 (dgTo l n.toNat n.toNat : Int)] W fun e w' => e = .returned (.int .i64 (dgN n l)) ∧ Below W.heap.size W w' := by
      intro W hW
      obtain ⟨N, hn, -⟩ := fun_nat hf
      subst hn
      exact valueI_any W N _ l hW hf _ hdlt
    have hmi := fun (W : World) (h : Ints W (.slice a l.length c) l) => minimumI_any W n _ l h
    have hmz := fun (W : World) (h : Ints W (.slice a l.length c) l) => minimizersI_any W n _ l h
    have hmx := fun (W : World) (h : Ints W (.slice a l.length c) l) => mxI_c W n _ l h
    have hdo := fun (W : World) (h : Ints W (.slice a l.length c) l) => dgI_c W n _ l h
    have hdu := fun (W : World) (h : Ints W (.slice a l.length c) l) => dualI_any W n _ l h hl
    have hcu := fun (W : World) (h : Ints W (.slice a l.length c) l) => minCutI_c W n _ l h hl
    simp only [hf, hmn] at hmi
    simp only [hf] at hmz hmx
    simp only [hf, hdg] at hdo
    obtain ⟨bD, hbD⟩ : ∃ b, b = dvB n l := ⟨_, rfl⟩
    obtain ⟨bC, hbC⟩ : ∃ b, b = fitB n l := ⟨_, rfl⟩
    rw [← hbD, ← hbC] at hx
    simp only [← hbD] at hdu
    simp only [← hbC] at hcu
    obtain ⟨d, hd⟩ : ∃ d, d = dgTo l n.toNat n.toNat := ⟨_, rfl⟩
    simp only [← hd] at hdo hval
    obtain ⟨N1, hN1⟩ : ∃ N, N = lstN l := ⟨_, rfl⟩
    obtain ⟨N2, hN2⟩ : ∃ N, N = mxN n l := ⟨_, rfl⟩
    obtain ⟨N3, hN3⟩ : ∃ N, N = dgN n l := ⟨_, rfl⟩
    obtain ⟨N4, hN4⟩ : ∃ N, N = cutN n l := ⟨_, rfl⟩
    obtain ⟨S2, hS2⟩ : ∃ N, N = mxS n l := ⟨_, rfl⟩
    obtain ⟨S4, hS4⟩ : ∃ N, N = cutS n l := ⟨_, rfl⟩
    obtain ⟨Z, hZ⟩ : ∃ N, N = mzL n l := ⟨_, rfl⟩
    obtain ⟨D, hD⟩ : ∃ N, N = dvL n l := ⟨_, rfl⟩
    rw [← hN1, ← hN2, ← hN3, ← hN4, ← hS2, ← hS4, ← hZ, ← hD] at hx
    simp only [← hN1] at hmi
    simp only [← hZ] at hmz
    simp only [← hN2, ← hS2] at hmx
    simp only [← hN3] at hval
    simp only [← hD] at hdu
    simp only [← hN4, ← hS4] at hcu
    rw [← hN1] at hlb
    rw [← hN2] at hmb
    rw [← hN3] at hdb
    rw [← hN4] at hcb
    rw [← hD] at hdl hsz
    have HTT := Lib.hid hTT
    have HX := Lib.hid hx
    have HSZ := Lib.hid hsz
    have HF := Lib.hid hf
    have HVAL := Lib.hid hval
    have HMI := Lib.hid hmi
    have HMZ := Lib.hid hmz
    have HMX := Lib.hid hmx
    have HDO := Lib.hid hdo
    have HDU := Lib.hid hdu
    have HCU := Lib.hid hcu
    clear hx hf hTT hsz hval hmi hmz hmx hdo hdu hcu hbD hbC hd hN1 hN2 hN3 hN4 hS2 hS4 hZ hD hmn hdg hdn hdlt hpos
    go_enter Tryz.func8, Tryz.ntmps8
    go_wp2_with fail
    refine (isFunI_any n l _ _ (hv0.alloc _)).mono ?_
    rintro e w1 ⟨rfl, b1⟩
    rw [HF.out]
    have B1 : Below w.heap.size w w1 := (bl1 _ _).after b1 (by simp)
    have K1 := K0.keep b1
    clear K0 b1
    have G := K1.cell
    have z := K1.lt
    go_wp2_with fail
    refine (HMI.out _ (hv0.below B1 (Nat.le_refl _))).mono ?_
    rintro e w2 ⟨rfl, b2⟩
    have B2 := B1.after b2 B1.size
    have K2 := K1.keep b2
    clear B1 K1 G z b2
    have G := K2.cell
    have z := K2.lt
    go_wp2_with fail
    refine (HMZ.out _ (hv0.below B2 (Nat.le_refl _))).mono ?_
    rintro e w3 ⟨pZ, iZ, qZ, rfl, oZ, b3⟩
    have hiZ : iZ = Z.length := oZ.ints.capLe.1
    subst hiZ
    have hZ3 := oZ.ints
    have B3 := B2.after b3 B2.size
    have K3 := K2.keep b3
    clear B2 K2 G z b3 oZ
    have G := K3.cell
    have z := K3.lt
    go_wp2_with fail
    refine (HMX.out _ (hv0.below B3 (Nat.le_refl _))).mono ?_
    rintro e w4 ⟨rfl, b4⟩
    have hZ4 := hZ3.keep b4
    have B4 := B3.after b4 B3.size
    have K4 := K3.keep b4
    clear B3 K3 G z b4 hZ3
    have G := K4.cell
    have z := K4.lt
    go_wp2_with fail
    refine (HDO.out _ (hv0.below B4 (Nat.le_refl _))).mono ?_
    rintro e w5 ⟨rfl, b5⟩
    have hZ := hZ4.keep b5
    have B5 := B4.after b5 B4.size
    have K2 := K4.keep b5
    clear B4 K4 G z b5 hZ4
    obtain ⟨bo, hbo⟩ : ∃ bo, bo = w5.heap.size := ⟨_, rfl⟩
    have zb : w.heap.size < bo := by rw [hbo]; exact K2.lt
    have zc : w5.heap.size ≤ bo := by omega
    have L3 : Line bo (w5.alloc (.cells #[.slice none 0 0] 53)) [] := by rw [hbo]; exact Line.new w5
    have B3 := B5.alloc B5.size (.cells #[.slice none 0 0] 53)
    have C3 : Below bo w5 (w5.alloc (.cells #[.slice none 0 0] 53)) := by rw [hbo]; exact bl1 w5 _
    have HE1 := Lib.hid (show (w5.alloc (.cells #[.slice none 0 0] 53)).heap.size = bo + 1 by rw [hbo]; simp)
    go_wp2_with fail
    rw [← hbo]
    clear hbo B5
    have zl11 := L3.lt
    refine (lineAdd_any bo [] [(⟨#[101, 120, 116, 114, 101, 109, 101]⟩ : ByteArray)] (bo + 1) 1 1 _ (L3.keep (bl1 _ _)) rfl (cells_one (cell_newN HE1.out rfl)) (by simp only [List.length_cons, List.length_nil]; omega)).mono ?_
    rintro e w11 ⟨rfl, L11, b11⟩
    have B11 := (B3.alloc B3.size _).after b11 (by omega)
    have C11 := (C3.alloc (Nat.le_of_lt zl11) _).after b11 (Nat.le_refl _)
    clear B3 C3 L3
    obtain ⟨X11, hX11⟩ : ∃ X, X = [] ++ [(⟨#[101, 120, 116, 114, 101, 109, 101]⟩ : ByteArray)] := ⟨_, rfl⟩
    rw [← hX11] at L11
    have hN11 : X11.length ≤ 1 := by rw [hX11, List.length_append]; first | (simp only [List.length_cons, List.length_nil]; omega) | (have := yes_len _ _; omega) | (simp [yes]; omega)
    go_wp2_with fail
    refine (lineNum_any bo X11 (⟨#[109, 105, 110, 105, 109, 117, 109]⟩ : ByteArray) (N1) ⟨by omega, by omega⟩ _ L11 (hp.keep B11) (by omega)).mono ?_
    rintro e w12 ⟨rfl, L12, b12⟩
    have B12 := B11.after b12 (by omega)
    have C12 := C11.after b12 (Nat.le_refl _)
    clear B11 C11 L11
    obtain ⟨X12, hX12⟩ : ∃ X, X = X11 ++ [(⟨#[109, 105, 110, 105, 109, 117, 109]⟩ : ByteArray), itoaB (N1)] := ⟨_, rfl⟩
    rw [← hX12] at L12
    have hN12 : X12.length ≤ 3 := by rw [hX12, List.length_append]; first | (simp only [List.length_cons, List.length_nil]; omega) | (have := yes_len _ _; omega) | (simp [yes]; omega)
    go_wp2_with fail
    refine (fmtFamI_any n Z _ _ (hZ.below C12 zc) (hp.keep B12)).mono ?_
    rintro e w13 ⟨rfl, b13⟩
    have B13 := B12.after b13 B12.size
    have C13 := C12.after b13 (Nat.le_of_lt L12.lt)
    have L13 := L12.keep b13
    clear B12 C12 L12 b13
    go_wp2_with fail
    have zl14 := L13.lt
    refine (lineAdd_any bo X12 [(⟨#[115, 101, 116, 115]⟩ : ByteArray), famTx n Z] w13.heap.size 2 2 _ (L13.keep (bl1 _ _)) rfl (cells_two (cell_new _ _ _ _ _ rfl) (cell_new _ _ _ _ _ rfl)) (by simp only [List.length_cons, List.length_nil]; omega)).mono ?_
    rintro e w14 ⟨rfl, L14, b14⟩
    have B14 := (B13.alloc B13.size _).after b14 (by omega)
    have C14 := (C13.alloc (Nat.le_of_lt zl14) _).after b14 (Nat.le_refl _)
    clear B13 C13 L13
    obtain ⟨X14, hX14⟩ : ∃ X, X = X12 ++ [(⟨#[115, 101, 116, 115]⟩ : ByteArray), famTx n Z] := ⟨_, rfl⟩
    rw [← hX14] at L14
    have hN14 : X14.length ≤ 5 := by rw [hX14, List.length_append]; first | (simp only [List.length_cons, List.length_nil]; omega) | (have := yes_len _ _; omega) | (simp [yes]; omega)
    go_wp2_with fail
    refine (lineNum_any bo X14 (⟨#[109, 97, 120, 105, 109, 117, 109]⟩ : ByteArray) (N2) ⟨by omega, by omega⟩ _ L14 (hp.keep B14) (by omega)).mono ?_
    rintro e w15 ⟨rfl, L15, b15⟩
    have B15 := B14.after b15 (by omega)
    have C15 := C14.after b15 (Nat.le_refl _)
    clear B14 C14 L14
    obtain ⟨X15, hX15⟩ : ∃ X, X = X14 ++ [(⟨#[109, 97, 120, 105, 109, 117, 109]⟩ : ByteArray), itoaB (N2)] := ⟨_, rfl⟩
    rw [← hX15] at L15
    have hN15 : X15.length ≤ 7 := by rw [hX15, List.length_append]; first | (simp only [List.length_cons, List.length_nil]; omega) | (have := yes_len _ _; omega) | (simp [yes]; omega)
    go_wp2_with fail
    refine (fmtSetI_any n S2 _ (hp.keep B15)).mono ?_
    rintro e w16 ⟨rfl, b16⟩
    have B16 := B15.after b16 B15.size
    have C16 := C15.after b16 (Nat.le_of_lt L15.lt)
    have L16 := L15.keep b16
    clear B15 C15 L15 b16
    go_wp2_with fail
    have zl17 := L16.lt
    refine (lineAdd_any bo X15 [(⟨#[115, 101, 116]⟩ : ByteArray), setTx n S2] w16.heap.size 2 2 _ (L16.keep (bl1 _ _)) rfl (cells_two (cell_new _ _ _ _ _ rfl) (cell_new _ _ _ _ _ rfl)) (by simp only [List.length_cons, List.length_nil]; omega)).mono ?_
    rintro e w17 ⟨rfl, L17, b17⟩
    have B17 := (B16.alloc B16.size _).after b17 (by omega)
    have C17 := (C16.alloc (Nat.le_of_lt zl17) _).after b17 (Nat.le_refl _)
    clear B16 C16 L16
    obtain ⟨X17, hX17⟩ : ∃ X, X = X15 ++ [(⟨#[115, 101, 116]⟩ : ByteArray), setTx n S2] := ⟨_, rfl⟩
    rw [← hX17] at L17
    have hN17 : X17.length ≤ 9 := by rw [hX17, List.length_append]; first | (simp only [List.length_cons, List.length_nil]; omega) | (have := yes_len _ _; omega) | (simp [yes]; omega)
    have G := (blk_under K2 C17 zb).cell
    go_wp2_with fail
    clear G
    refine (HVAL.out _ (hv0.below B17 (Nat.le_refl _))).mono ?_
    rintro e w18 ⟨rfl, b18⟩
    have B18 := B17.after b18 B17.size
    have C18 := C17.after b18 (Nat.le_of_lt L17.lt)
    have L18 := L17.keep b18
    clear B17 C17 L17 b18
    go_wp2_with fail
    refine (lineNum_any bo X17 (⟨#[100, 111, 117, 98, 108, 101]⟩ : ByteArray) (N3) ⟨by omega, by omega⟩ _ L18 (hp.keep B18) (by omega)).mono ?_
    rintro e w19 ⟨rfl, L19, b19⟩
    have B19 := B18.after b19 (by omega)
    have C19 := C18.after b19 (Nat.le_refl _)
    clear B18 C18 L18
    obtain ⟨X19, hX19⟩ : ∃ X, X = X17 ++ [(⟨#[100, 111, 117, 98, 108, 101]⟩ : ByteArray), itoaB (N3)] := ⟨_, rfl⟩
    rw [← hX19] at L19
    have hN19 : X19.length ≤ 11 := by rw [hX19, List.length_append]; first | (simp only [List.length_cons, List.length_nil]; omega) | (have := yes_len _ _; omega) | (simp [yes]; omega)
    have G := (blk_under K2 C19 zb).cell
    go_wp2_with fail
    clear G
    refine (HDU.out _ (hv0.below B19 (Nat.le_refl _))).mono ?_
    rintro e w20 ⟨pD, iD, qD, rfl, oD, b20⟩
    have B20 := B19.after b20 B19.size
    have C20 := C19.after b20 (Nat.le_of_lt L19.lt)
    have L20 := L19.keep b20
    clear B19 C19 L19 b20
    have hiD : iD = D.length := oD.ints.capLe.1
    subst hiD
    have hzz := HSZ.out oD.ints.inR
    have hDI := oD.ints
    clear oD
    cases bD with
    | false =>
      clear hDI
      have G := (blk_under K2 C20 zb).cell
      go_wp2_with fail
      clear G
      refine (HCU.out _ (hv0.below B20 (Nat.le_refl _))).mono ?_
      rintro e w61 ⟨rfl, b61⟩
      have B61 := B20.after b61 B20.size
      have C61 := C20.after b61 (Nat.le_of_lt L20.lt)
      have L61 := L20.keep b61
      clear B20 C20 L20 b61
      cases bC with
      | false =>
        have hT : joinB spaceB X19 = TT := by rw [hX19, hX17, hX15, hX14, hX12, hX11]; exact HX.out
        have hz := hzz
        rw [← hT] at hz
        have HT := Lib.hid hT
        clear hT hX11 hX12 hX14 hX15 hX17 hX19
        obtain ⟨lv, KL, oL⟩ := L61
        have G := KL.cell
        go_wp2_with fail
        clear G
        refine (lineText_any (bo + 1) lv X19 _ oL (by omega) (by omega)).mono ?_
        rintro e wz ⟨rfl, bz⟩
        go_wp2
        go_ret
        exact ⟨ret_str (HT.out.trans HTT.out), B61.after bz B61.size⟩
      | true =>
        go_wp2_with fail
        refine (lineNum_any bo X19 (⟨#[99, 117, 116]⟩ : ByteArray) (N4) ⟨by omega, by omega⟩ _ L61 (hp.keep B61) (by omega)).mono ?_
        rintro e w102 ⟨rfl, L102, b102⟩
        have B102 := B61.after b102 (by omega)
        have C102 := C61.after b102 (Nat.le_refl _)
        clear B61 C61 L61
        obtain ⟨X102, hX102⟩ : ∃ X, X = X19 ++ [(⟨#[99, 117, 116]⟩ : ByteArray), itoaB (N4)] := ⟨_, rfl⟩
        rw [← hX102] at L102
        have hN102 : X102.length ≤ 13 := by rw [hX102, List.length_append]; first | (simp only [List.length_cons, List.length_nil]; omega) | (have := yes_len _ _; omega) | (simp [yes]; omega)
        go_wp2_with fail
        refine (fmtSetI_any n S4 _ (hp.keep B102)).mono ?_
        rintro e w103 ⟨rfl, b103⟩
        have B103 := B102.after b103 B102.size
        have C103 := C102.after b103 (Nat.le_of_lt L102.lt)
        have L103 := L102.keep b103
        clear B102 C102 L102 b103
        go_wp2_with fail
        have zl104 := L103.lt
        refine (lineAdd_any bo X102 [(⟨#[111, 102]⟩ : ByteArray), setTx n S4] w103.heap.size 2 2 _ (L103.keep (bl1 _ _)) rfl (cells_two (cell_new _ _ _ _ _ rfl) (cell_new _ _ _ _ _ rfl)) (by simp only [List.length_cons, List.length_nil]; omega)).mono ?_
        rintro e w104 ⟨rfl, L104, b104⟩
        have B104 := (B103.alloc B103.size _).after b104 (by omega)
        have C104 := (C103.alloc (Nat.le_of_lt zl104) _).after b104 (Nat.le_refl _)
        clear B103 C103 L103
        obtain ⟨X104, hX104⟩ : ∃ X, X = X102 ++ [(⟨#[111, 102]⟩ : ByteArray), setTx n S4] := ⟨_, rfl⟩
        rw [← hX104] at L104
        have hN104 : X104.length ≤ 15 := by rw [hX104, List.length_append]; first | (simp only [List.length_cons, List.length_nil]; omega) | (have := yes_len _ _; omega) | (simp [yes]; omega)
        have hT : joinB spaceB X104 = TT := by rw [hX104, hX102, hX19, hX17, hX15, hX14, hX12, hX11]; exact HX.out
        have hz := hzz
        rw [← hT] at hz
        have HT := Lib.hid hT
        clear hT hX11 hX12 hX14 hX15 hX17 hX19 hX102 hX104
        obtain ⟨lv, KL, oL⟩ := L104
        have G := KL.cell
        go_wp2_with fail
        clear G
        refine (lineText_any (bo + 1) lv X104 _ oL (by omega) (by omega)).mono ?_
        rintro e wz ⟨rfl, bz⟩
        go_wp2
        go_ret
        exact ⟨ret_str (HT.out.trans HTT.out), B104.after bz B104.size⟩
    | true =>
      go_wp2_with fail
      refine (lineList_any bo X19 (⟨#[100, 117, 97, 108]⟩ : ByteArray) _ (D) _ hDI (by omega) L20 (hp.keep B20) (by omega)).mono ?_
      rintro e w61 ⟨rfl, L61, b61⟩
      have B61 := B20.after b61 (by omega)
      have C61 := C20.after b61 (Nat.le_refl _)
      clear B20 C20 L20
      obtain ⟨X61, hX61⟩ : ∃ X, X = X19 ++ [(⟨#[100, 117, 97, 108]⟩ : ByteArray), numB (D)] := ⟨_, rfl⟩
      rw [← hX61] at L61
      have hN61 : X61.length ≤ 13 := by rw [hX61, List.length_append]; first | (simp only [List.length_cons, List.length_nil]; omega) | (have := yes_len _ _; omega) | (simp [yes]; omega)
      clear hDI
      have G := (blk_under K2 C61 zb).cell
      go_wp2_with fail
      clear G
      refine (HCU.out _ (hv0.below B61 (Nat.le_refl _))).mono ?_
      rintro e w62 ⟨rfl, b62⟩
      have B62 := B61.after b62 B61.size
      have C62 := C61.after b62 (Nat.le_of_lt L61.lt)
      have L62 := L61.keep b62
      clear B61 C61 L61 b62
      cases bC with
      | false =>
        have hT : joinB spaceB X61 = TT := by rw [hX61, hX19, hX17, hX15, hX14, hX12, hX11]; exact HX.out
        have hz := hzz
        rw [← hT] at hz
        have HT := Lib.hid hT
        clear hT hX11 hX12 hX14 hX15 hX17 hX19 hX61
        obtain ⟨lv, KL, oL⟩ := L62
        have G := KL.cell
        go_wp2_with fail
        clear G
        refine (lineText_any (bo + 1) lv X61 _ oL (by omega) (by omega)).mono ?_
        rintro e wz ⟨rfl, bz⟩
        go_wp2
        go_ret
        exact ⟨ret_str (HT.out.trans HTT.out), B62.after bz B62.size⟩
      | true =>
        go_wp2_with fail
        refine (lineNum_any bo X61 (⟨#[99, 117, 116]⟩ : ByteArray) (N4) ⟨by omega, by omega⟩ _ L62 (hp.keep B62) (by omega)).mono ?_
        rintro e w103 ⟨rfl, L103, b103⟩
        have B103 := B62.after b103 (by omega)
        have C103 := C62.after b103 (Nat.le_refl _)
        clear B62 C62 L62
        obtain ⟨X103, hX103⟩ : ∃ X, X = X61 ++ [(⟨#[99, 117, 116]⟩ : ByteArray), itoaB (N4)] := ⟨_, rfl⟩
        rw [← hX103] at L103
        have hN103 : X103.length ≤ 15 := by rw [hX103, List.length_append]; first | (simp only [List.length_cons, List.length_nil]; omega) | (have := yes_len _ _; omega) | (simp [yes]; omega)
        go_wp2_with fail
        refine (fmtSetI_any n S4 _ (hp.keep B103)).mono ?_
        rintro e w104 ⟨rfl, b104⟩
        have B104 := B103.after b104 B103.size
        have C104 := C103.after b104 (Nat.le_of_lt L103.lt)
        have L104 := L103.keep b104
        clear B103 C103 L103 b104
        go_wp2_with fail
        have zl105 := L104.lt
        refine (lineAdd_any bo X103 [(⟨#[111, 102]⟩ : ByteArray), setTx n S4] w104.heap.size 2 2 _ (L104.keep (bl1 _ _)) rfl (cells_two (cell_new _ _ _ _ _ rfl) (cell_new _ _ _ _ _ rfl)) (by simp only [List.length_cons, List.length_nil]; omega)).mono ?_
        rintro e w105 ⟨rfl, L105, b105⟩
        have B105 := (B104.alloc B104.size _).after b105 (by omega)
        have C105 := (C104.alloc (Nat.le_of_lt zl105) _).after b105 (Nat.le_refl _)
        clear B104 C104 L104
        obtain ⟨X105, hX105⟩ : ∃ X, X = X103 ++ [(⟨#[111, 102]⟩ : ByteArray), setTx n S4] := ⟨_, rfl⟩
        rw [← hX105] at L105
        have hN105 : X105.length ≤ 17 := by rw [hX105, List.length_append]; first | (simp only [List.length_cons, List.length_nil]; omega) | (have := yes_len _ _; omega) | (simp [yes]; omega)
        have hT : joinB spaceB X105 = TT := by rw [hX105, hX103, hX61, hX19, hX17, hX15, hX14, hX12, hX11]; exact HX.out
        have hz := hzz
        rw [← hT] at hz
        have HT := Lib.hid hT
        clear hT hX11 hX12 hX14 hX15 hX17 hX19 hX61 hX103 hX105
        obtain ⟨lv, KL, oL⟩ := L105
        have G := KL.cell
        go_wp2_with fail
        clear G
        refine (lineText_any (bo + 1) lv X105 _ oL (by omega) (by omega)).mono ?_
        rintro e wz ⟨rfl, bz⟩
        go_wp2
        go_ret
        exact ⟨ret_str (HT.out.trans HTT.out), B105.after bz B105.size⟩
end Go.Proofs.YtelmokapdkepbaaGreatDoor
end
