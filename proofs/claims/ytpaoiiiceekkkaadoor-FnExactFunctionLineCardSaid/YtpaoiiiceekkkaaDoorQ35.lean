/- The line of a function: the first program. -/
import Derived.Test.YtpaoiiiceekkkaaDoorQ34
section
namespace Go.Proofs.YtpaoiiiceekkkaaDoor
open Go.RowKit Go.G5

set_option maxHeartbeats 4000000 in
set_option maxRecDepth 100000 in
theorem fnLineI_c (w : World) (n : Int) (v : Value) (l : List Int) (hv : Ints w v l) (hl : l.length ≤ 1048576) (hp : Pow w) :
    Calls Tryd.prog 16 #[.agg #[.int .i64 n, v]] w fun e w' => e = .returned (.string (funLn n l)) ∧ Below w.heap.size w w' := by
  have hv0 := hv
  obtain ⟨a, c, rfl⟩ := hv.shape
  have K0 := Blk.new w 31 #[.int .i64 n, .slice a l.length c]
  cases hf : isFunB n l with
  | false =>
    have hx : funLn n l = ByteArray.empty := by unfold funLn; rw [hf]; rfl
    have HX := Lib.hid hx
    have HF := Lib.hid hf
    clear hx hf
    go_enter Tryd.func16, Tryd.ntmps16
    go_wp2_with fail
    refine (isFunI_any n l _ _ (hv0.alloc _)).mono ?_
    rintro e w1 ⟨rfl, b1⟩
    rw [HF.out]
    go_wp2
    go_ret
    exact ⟨ret_str HX.out.symm, (bl1 _ _).after b1 (by simp)⟩
  | true =>
    have hx := funLn_join hf
    have HX := Lib.hid hx
    have hlm := massesOf_few hf
    have hls := shapOf_few hf
    have hgb := gapN_bd n l
    have HF := Lib.hid hf
    clear hx hf
    go_enter Tryd.func16, Tryd.ntmps16
    go_wp2_with fail
    refine (isFunI_any n l _ _ (hv0.alloc _)).mono ?_
    rintro e w1 ⟨rfl, b1⟩
    rw [HF.out]
    have B : Below w.heap.size w w1 := (bl1 _ _).after b1 (by simp)
    have K := K0.keep b1
    clear K0 b1
    have G := K.cell
    go_wp2_with fail
    refine (gapI_any _ n _ l (hv0.below B (Nat.le_refl _))).mono ?_
    rintro e w2 ⟨rfl, b2⟩
    have B1 := B.after b2 B.size
    have K1 := K.keep b2
    clear B K G b2
    obtain ⟨bo, hbo⟩ : ∃ bo, bo = w2.heap.size := ⟨_, rfl⟩
    have zb : w.heap.size < bo := by rw [hbo]; exact K1.lt
    have L1 : Line bo (w2.alloc (.cells #[.slice none 0 0] 63)) [] := by rw [hbo]; exact Line.new w2
    have K2 := K1.alloc (.cells #[.slice none 0 0] 63)
    have B2 := B1.alloc B1.size (.cells #[.slice none 0 0] 63)
    have G1 := K2.cell
    go_wp2_with fail
    rw [← hbo]
    clear hbo
    clear G1
    refine (fmtFunI_any n l _ _ (hv0.below B2 (Nat.le_refl _)) (hp.keep B2)).mono ?_
    rintro e w3 ⟨rfl, b3⟩
    have B3 := B2.after b3 B2.size
    have K3 := K2.keep b3
    have L3 := L1.keep b3
    clear B2 K2 L1
    clear b3
    go_wp2_with fail
    refine (lineAdd_any bo [] [(⟨#[102, 117, 110, 99, 116, 105, 111, 110]⟩ : ByteArray), funTx n l] w3.heap.size 2 2 _ (L3.keep (bl1 _ _)) rfl (cells_two (cell_new _ _ _ _ _ rfl) (cell_new _ _ _ _ _ rfl)) (by simp)).mono ?_
    rintro e w4 ⟨rfl, L4, b4⟩
    have B4 := (B3.alloc B3.size _).after b4 (by omega)
    have K4 := blk_under (K3.alloc _) b4 (by omega)
    clear B3 K3 L3 b4
    obtain ⟨X4, hX4⟩ : ∃ X, X = [] ++ [(⟨#[102, 117, 110, 99, 116, 105, 111, 110]⟩ : ByteArray), funTx n l] := ⟨_, rfl⟩
    rw [← hX4] at L4
    have hN4 : X4.length ≤ 2 := by rw [hX4]; simp only [List.length_append, List.length_cons, List.length_nil]; omega
    go_wp2_with fail
    refine (lineNum_any bo X4 (⟨#[103, 97, 112]⟩ : ByteArray) (gapN n l) ⟨by omega, by omega⟩ _ L4 (hp.keep B4) (by omega)).mono ?_
    rintro e w5 ⟨rfl, L5, b5⟩
    have B5 := B4.after b5 (by omega)
    have K5 := blk_under K4 b5 (by omega)
    clear B4 K4 L4 b5
    obtain ⟨X5, hX5⟩ : ∃ X, X = X4 ++ [(⟨#[103, 97, 112]⟩ : ByteArray), itoaB (gapN n l)] := ⟨_, rfl⟩
    rw [← hX5] at L5
    have hN5 : X5.length ≤ 4 := by rw [hX5]; simp only [List.length_append, List.length_cons, List.length_nil]; omega
    have G := K5.cell
    go_wp2_with fail
    clear G
    refine (massesI_c _ n _ l (hv0.below B5 (Nat.le_refl _)) hl).mono ?_
    rintro e w6 ⟨pM, iM, qM, rfl, oM, b6⟩
    have B6 := B5.after b6 B5.size
    have K6 := K5.keep b6
    have L6 := L5.keep b6
    clear B5 K5 L5
    clear b6
    have rM := oM.ints.inR
    go_wp2_with fail
    refine (lineList_any bo X5 (⟨#[109, 97, 115, 115, 101, 115]⟩ : ByteArray) _ (massesOf n l) _ oM.ints (by omega) L6 (hp.keep B6) (by omega)).mono ?_
    rintro e w7 ⟨rfl, L7, b7⟩
    have B7 := B6.after b7 (by omega)
    have K7 := blk_under K6 b7 (by omega)
    clear B6 K6 L6 b7
    clear oM
    obtain ⟨X7, hX7⟩ : ∃ X, X = X5 ++ [(⟨#[109, 97, 115, 115, 101, 115]⟩ : ByteArray), numB (massesOf n l)] := ⟨_, rfl⟩
    rw [← hX7] at L7
    have hN7 : X7.length ≤ 6 := by rw [hX7]; simp only [List.length_append, List.length_cons, List.length_nil]; omega
    have G := K7.cell
    go_wp2_with fail
    clear G
    refine (shapI_c _ n _ l (hv0.below B7 (Nat.le_refl _)) hl).mono ?_
    rintro e w8 ⟨pS, iS, qS, rfl, oS, b8⟩
    have B8 := B7.after b8 B7.size
    have K8 := K7.keep b8
    have L8 := L7.keep b8
    clear B7 K7 L7
    clear b8
    have rS := oS.ints.inR
    go_wp2_with fail
    refine (lineList_any bo X7 (⟨#[115, 104, 97, 112, 108, 101, 121]⟩ : ByteArray) _ (shapOf n l) _ oS.ints (by omega) L8 (hp.keep B8) (by omega)).mono ?_
    rintro e w9 ⟨rfl, L9, b9⟩
    have B9 := B8.after b9 (by omega)
    have K9 := blk_under K8 b9 (by omega)
    clear B8 K8 L8 b9
    clear oS
    obtain ⟨X9, hX9⟩ : ∃ X, X = X7 ++ [(⟨#[115, 104, 97, 112, 108, 101, 121]⟩ : ByteArray), numB (shapOf n l)] := ⟨_, rfl⟩
    rw [← hX9] at L9
    have hN9 : X9.length ≤ 8 := by rw [hX9]; simp only [List.length_append, List.length_cons, List.length_nil]; omega
    have G := K9.cell
    go_wp2_with fail
    clear G
    refine (isSubI_any n l _ _ (hv0.below B9 (Nat.le_refl _)) hl).mono ?_
    rintro e w10 ⟨rfl, b10⟩
    have B10 := B9.after b10 B9.size
    have K10 := K9.keep b10
    have L10 := L9.keep b10
    clear B9 K9 L9
    clear b10
    go_wp2_with fail
    refine (lineWord_any bo X9 (⟨#[115, 117, 98, 109, 111, 100, 117, 108, 97, 114]⟩ : ByteArray) (subB n l) _ L10 (by omega)).mono ?_
    rintro e w11 ⟨rfl, L11, b11⟩
    have B11 := B10.after b11 (by omega)
    have K11 := blk_under K10 b11 (by omega)
    clear B10 K10 L10 b11
    obtain ⟨X11, hX11⟩ : ∃ X, X = X9 ++ yes (subB n l) (⟨#[115, 117, 98, 109, 111, 100, 117, 108, 97, 114]⟩ : ByteArray) := ⟨_, rfl⟩
    rw [← hX11] at L11
    have hN11 : X11.length ≤ 9 := by rw [hX11]; rw [List.length_append]; have := yes_len (subB n l) (⟨#[115, 117, 98, 109, 111, 100, 117, 108, 97, 114]⟩ : ByteArray); omega
    have G := K11.cell
    go_wp2_with fail
    clear G
    refine (supI_any n l _ _ (hv0.below B11 (Nat.le_refl _)) hl).mono ?_
    rintro e w12 ⟨rfl, b12⟩
    have B12 := B11.after b12 B11.size
    have K12 := K11.keep b12
    have L12 := L11.keep b12
    clear B11 K11 L11
    clear b12
    go_wp2_with fail
    refine (lineWord_any bo X11 (⟨#[115, 117, 112, 101, 114, 109, 111, 100, 117, 108, 97, 114]⟩ : ByteArray) (supB n l) _ L12 (by omega)).mono ?_
    rintro e w13 ⟨rfl, L13, b13⟩
    have B13 := B12.after b13 (by omega)
    have K13 := blk_under K12 b13 (by omega)
    clear B12 K12 L12 b13
    obtain ⟨X13, hX13⟩ : ∃ X, X = X11 ++ yes (supB n l) (⟨#[115, 117, 112, 101, 114, 109, 111, 100, 117, 108, 97, 114]⟩ : ByteArray) := ⟨_, rfl⟩
    rw [← hX13] at L13
    have hN13 : X13.length ≤ 10 := by rw [hX13]; rw [List.length_append]; have := yes_len (supB n l) (⟨#[115, 117, 112, 101, 114, 109, 111, 100, 117, 108, 97, 114]⟩ : ByteArray); omega
    have G := K13.cell
    go_wp2_with fail
    clear G
    refine (incI_any n l _ _ (hv0.below B13 (Nat.le_refl _))).mono ?_
    rintro e w14 ⟨rfl, b14⟩
    have B14 := B13.after b14 B13.size
    have K14 := K13.keep b14
    have L14 := L13.keep b14
    clear B13 K13 L13
    clear b14
    go_wp2_with fail
    refine (lineWord_any bo X13 (⟨#[105, 110, 99, 114, 101, 97, 115, 105, 110, 103]⟩ : ByteArray) (incB n l) _ L14 (by omega)).mono ?_
    rintro e w15 ⟨rfl, L15, b15⟩
    have B15 := B14.after b15 (by omega)
    have K15 := blk_under K14 b15 (by omega)
    clear B14 K14 L14 b15
    obtain ⟨X15, hX15⟩ : ∃ X, X = X13 ++ yes (incB n l) (⟨#[105, 110, 99, 114, 101, 97, 115, 105, 110, 103]⟩ : ByteArray) := ⟨_, rfl⟩
    rw [← hX15] at L15
    have hN15 : X15.length ≤ 11 := by rw [hX15]; rw [List.length_append]; have := yes_len (incB n l) (⟨#[105, 110, 99, 114, 101, 97, 115, 105, 110, 103]⟩ : ByteArray); omega
    have G := K15.cell
    go_wp2_with fail
    clear G
    refine (isGrI_any n l _ _ (hv0.below B15 (Nat.le_refl _))).mono ?_
    rintro e w16 ⟨rfl, b16⟩
    have B16 := B15.after b16 B15.size
    have K16 := K15.keep b16
    have L16 := L15.keep b16
    clear B15 K15 L15
    clear b16
    go_wp2_with fail
    refine (lineWord_any bo X15 (⟨#[103, 114, 111, 117, 110, 100, 101, 100]⟩ : ByteArray) (isGrB n l) _ L16 (by omega)).mono ?_
    rintro e w17 ⟨rfl, L17, b17⟩
    have B17 := B16.after b17 (by omega)
    have K17 := blk_under K16 b17 (by omega)
    clear B16 K16 L16 b17
    obtain ⟨X17, hX17⟩ : ∃ X, X = X15 ++ yes (isGrB n l) (⟨#[103, 114, 111, 117, 110, 100, 101, 100]⟩ : ByteArray) := ⟨_, rfl⟩
    rw [← hX17] at L17
    have hN17 : X17.length ≤ 12 := by rw [hX17]; rw [List.length_append]; have := yes_len (isGrB n l) (⟨#[103, 114, 111, 117, 110, 100, 101, 100]⟩ : ByteArray); omega
    have G := K17.cell
    go_wp2_with fail
    clear G
    refine (symI_any n l _ _ (hv0.below B17 (Nat.le_refl _)) hl).mono ?_
    rintro e w18 ⟨rfl, b18⟩
    have B18 := B17.after b18 B17.size
    have K18 := K17.keep b18
    have L18 := L17.keep b18
    clear B17 K17 L17
    clear b18
    go_wp2_with fail
    refine (lineWord_any bo X17 (⟨#[115, 121, 109, 109, 101, 116, 114, 105, 99]⟩ : ByteArray) (symB n l) _ L18 (by omega)).mono ?_
    rintro e w19 ⟨rfl, L19, b19⟩
    have B19 := B18.after b19 (by omega)
    have K19 := blk_under K18 b19 (by omega)
    clear B18 K18 L18 b19
    obtain ⟨X19, hX19⟩ : ∃ X, X = X17 ++ yes (symB n l) (⟨#[115, 121, 109, 109, 101, 116, 114, 105, 99]⟩ : ByteArray) := ⟨_, rfl⟩
    rw [← hX19] at L19
    have hN19 : X19.length ≤ 13 := by rw [hX19]; rw [List.length_append]; have := yes_len (symB n l) (⟨#[115, 121, 109, 109, 101, 116, 114, 105, 99]⟩ : ByteArray); omega
    have G := K19.cell
    go_wp2_with fail
    clear G
    refine (polyI_any n l _ _ (hv0.below B19 (Nat.le_refl _)) hl).mono ?_
    rintro e w20 ⟨rfl, b20⟩
    have B20 := B19.after b20 B19.size
    have K20 := K19.keep b20
    have L20 := L19.keep b20
    clear B19 K19 L19
    clear b20
    go_wp2_with fail
    refine (lineWord_any bo X19 (⟨#[112, 111, 108, 121, 109, 97, 116, 114, 111, 105, 100]⟩ : ByteArray) (polyB n l) _ L20 (by omega)).mono ?_
    rintro e w21 ⟨rfl, L21, b21⟩
    have B21 := B20.after b21 (by omega)
    have K21 := blk_under K20 b21 (by omega)
    clear B20 K20 L20 b21
    obtain ⟨X21, hX21⟩ : ∃ X, X = X19 ++ yes (polyB n l) (⟨#[112, 111, 108, 121, 109, 97, 116, 114, 111, 105, 100]⟩ : ByteArray) := ⟨_, rfl⟩
    rw [← hX21] at L21
    have hN21 : X21.length ≤ 14 := by rw [hX21]; rw [List.length_append]; have := yes_len (polyB n l) (⟨#[112, 111, 108, 121, 109, 97, 116, 114, 111, 105, 100]⟩ : ByteArray); omega
    have G := K21.cell
    go_wp2_with fail
    clear G
    refine (rankI_any n l _ _ (hv0.below B21 (Nat.le_refl _)) hl).mono ?_
    rintro e w22 ⟨rfl, b22⟩
    have B22 := B21.after b22 B21.size
    have K22 := K21.keep b22
    have L22 := L21.keep b22
    clear B21 K21 L21
    clear b22
    go_wp2_with fail
    refine (lineWord_any bo X21 (⟨#[109, 97, 116, 114, 111, 105, 100]⟩ : ByteArray) (rankB n l) _ L22 (by omega)).mono ?_
    rintro e w23 ⟨rfl, L23, b23⟩
    have B23 := B22.after b23 (by omega)
    have K23 := blk_under K22 b23 (by omega)
    clear B22 K22 L22 b23
    obtain ⟨X23, hX23⟩ : ∃ X, X = X21 ++ yes (rankB n l) (⟨#[109, 97, 116, 114, 111, 105, 100]⟩ : ByteArray) := ⟨_, rfl⟩
    rw [← hX23] at L23
    have hN23 : X23.length ≤ 15 := by rw [hX23]; rw [List.length_append]; have := yes_len (rankB n l) (⟨#[109, 97, 116, 114, 111, 105, 100]⟩ : ByteArray); omega
    have hT : joinB spaceB X23 = funLn n l := by rw [HX.out, hX23, hX21, hX19, hX17, hX15, hX13, hX11, hX9, hX7, hX5, hX4]; rfl
    have hz := funLn_size n l rM rS
    rw [← hT] at hz
    have HT := Lib.hid hT
    clear hT hX4 hX5 hX7 hX9 hX11 hX13 hX15 hX17 hX19 hX21 hX23
    obtain ⟨lv, KL, oL⟩ := L23
    have G := KL.cell
    have zL := KL.lt
    go_wp2_with fail
    clear G
    refine (lineText_any (bo + 1) lv X23 _ oL (by omega) (by omega)).mono ?_
    rintro e wz ⟨rfl, bz⟩
    go_wp2
    go_ret
    exact ⟨ret_str HT.out, B23.after bz B23.size⟩
end Go.Proofs.YtpaoiiiceekkkaaDoor
end
