/- The line of orders: the first program. -/
import Derived.Test.YtelmokapdkepbaaDoorQ35
section
namespace Go.Proofs.YtelmokapdkepbaaDoor
open Go.RowKit Go.G5

theorem cell_newO {w : World} {cs : Array Value} {T : TypeId} {n i : Nat} {u : Value} (hn : w.heap.size = n) (h : cs[i]? = some u) : (w.alloc (.cells cs T)).cell? ⟨n, i, none⟩ = some u := by
  subst hn
  exact cell_new w cs T i u h
set_option maxHeartbeats 4000000 in
set_option maxRecDepth 100000 in
theorem olLineI_c (w : World) (g : Int) (v : Value) (l : List Int) (hv : Ints w v l) (hl : l.length ≤ 1048576) (hp : Pow w) :
    Calls Tryd.prog 7 #[.agg #[.int .i64 g, v]] w fun e w' => e = .returned (.string (olLn g l)) ∧ Below w.heap.size w w' := by
  have hv0 := hv
  obtain ⟨a, c, rfl⟩ := hv.shape
  have K0 := Blk.new w 27 #[.int .i64 g, .slice a l.length c]
  cases hf : isFamB g l with
  | false =>
    have HX := Lib.hid (olLn_no hf)
    have HF := Lib.hid hf
    clear hf
    go_enter Tryd.func7, Tryd.ntmps7
    go_wp2_with fail
    refine (isFamI_any g l _ _ (hv0.alloc _)).mono ?_
    rintro e w1 ⟨rfl, b1⟩
    rw [HF.out]
    go_wp2
    go_ret
    exact ⟨ret_str HX.out.symm, (bl1 _ _).after b1 (by simp)⟩
  | true =>
    obtain ⟨TT, hTT⟩ : ∃ T, T = olLn g l := ⟨_, rfl⟩
    have hx : joinB spaceB (olL g l) = TT := by rw [hTT, olLn_yes hf]; exact ol_is g l
    have hsz : TT.size ≤ 10700 := by rw [hTT, olLn_yes hf]; exact olT_size g l
    unfold olL olA at hx
    have hcl := chL_len g l
    have hll := levels_len g l
    have hil := (ivL_facts g l).1
    have hla : laB g l = true → laN g l = g := fun h => (laB_yes h).1
    have hlc := fun (W : World) (h : Ints W (.slice a l.length c) l) => chainI_c W g _ l h
    have hlv := fun (W : World) (h : Ints W (.slice a l.length c) l) => levI_c W g _ l h
    have hac := fun (W : World) (h : Ints W (.slice a l.length c) l) => acmaxI_c W g _ l h
    have hiv := fun (W : World) (h : Ints W (.slice a l.length c) l) => ivI_c W g _ l h
    have hsu := fun (W : World) (h : Ints W (.slice a l.length c) l) => findSunI_c W g _ l h hl 3 ⟨by omega, by omega⟩
    have hke := fun (W : World) (v : Value) (h : Ints W v (sunL g l 3)) => kernelI_any (sunL g l 3) v W h
    obtain ⟨bA, hbA⟩ : ∃ b, b = laB g l := ⟨_, rfl⟩
    obtain ⟨bI, hbI⟩ : ∃ b, b = ivB g l := ⟨_, rfl⟩
    obtain ⟨bS, hbS⟩ : ∃ b, b = sunB g l 3 := ⟨_, rfl⟩
    rw [← hbA] at hla
    rw [← hbA, ← hbI, ← hbS] at hx
    simp only [hf] at hlc hlv
    simp only [← hbA] at hac
    simp only [← hbI] at hiv
    simp only [← hbS] at hsu
    obtain ⟨N0, hN0⟩ : ∃ N, N = laN g l := ⟨_, rfl⟩
    simp only [← hN0] at hac hla
    obtain ⟨K3, hK3⟩ : ∃ N, N = kerN (sunL g l 3) := ⟨_, rfl⟩
    simp only [← hK3] at hke hx
    have HTT := Lib.hid hTT
    have HX := Lib.hid hx
    have HSZ := Lib.hid hsz
    have HF := Lib.hid hf
    have HLA := Lib.hid hla
    have HLC := Lib.hid hlc
    have HLV := Lib.hid hlv
    have HAC := Lib.hid hac
    have HIV := Lib.hid hiv
    have HSU := Lib.hid hsu
    have HKE := Lib.hid hke
    clear hx hf hTT hsz hla hlc hlv hac hiv hsu hke hbA hbI hbS hN0 hK3
    go_enter Tryd.func7, Tryd.ntmps7
    go_wp2_with fail
    refine (isFamI_any g l _ _ (hv0.alloc _)).mono ?_
    rintro e w0 ⟨rfl, b1⟩
    rw [HF.out]
    have B : Below w.heap.size w w0 := (bl1 _ _).after b1 (by simp)
    have K := K0.keep b1
    clear K0 b1
    have G := K.cell
    go_wp2_with fail
    refine (HLC.out _ (hv0.below B (Nat.le_refl _))).mono ?_
    rintro e w1 ⟨pC, iC, qC, rfl, oC, b2⟩
    have hiC : iC = (chL g l).length := oC.ints.capLe.1
    subst hiC
    have Ba := B.after b2 B.size
    have Ka := K.keep b2
    clear B K G b2 oC
    have G := Ka.cell
    go_wp2_with fail
    refine (HLV.out _ (hv0.below Ba (Nat.le_refl _))).mono ?_
    rintro e w2 ⟨pL, qL, rfl, oL, b2⟩
    have B1 := Ba.after b2 Ba.size
    have K1 := Ka.keep b2
    clear Ba Ka G b2 oL
    obtain ⟨bo, hbo⟩ : ∃ bo, bo = w2.heap.size := ⟨_, rfl⟩
    have zb : w.heap.size < bo := by rw [hbo]; exact K1.lt
    have zc : w2.heap.size ≤ bo := by omega
    have L3 : Line bo (w2.alloc (.cells #[.slice none 0 0] 48)) [] := by rw [hbo]; exact Line.new w2
    have K2 : Blk w2 w.heap.size 27 #[.int .i64 g, .slice a l.length c] := K1
    have B3 := B1.alloc B1.size (.cells #[.slice none 0 0] 48)
    have C3 : Below bo w2 (w2.alloc (.cells #[.slice none 0 0] 48)) := by rw [hbo]; exact bl1 w2 _
    have HE1 := Lib.hid (show (w2.alloc (.cells #[.slice none 0 0] 48)).heap.size = bo + 1 by rw [hbo]; simp)
    go_wp2_with fail
    rw [← hbo]
    clear hbo K1
    have zl11 := L3.lt
    refine (lineAdd_any bo [] [(⟨#[111, 114, 100, 101, 114]⟩ : ByteArray)] (bo + 1) 1 1 _ (L3.keep (bl1 _ _)) rfl (cells_one (cell_newO HE1.out rfl)) (by simp only [List.length_cons, List.length_nil]; omega)).mono ?_
    rintro e w11 ⟨rfl, L11, b11⟩
    have B11 := (B3.alloc B3.size _).after b11 (by omega)
    have C11 := (C3.alloc (Nat.le_of_lt zl11) _).after b11 (Nat.le_refl _)
    clear B3 C3 L3
    obtain ⟨X11, hX11⟩ : ∃ X, X = [] ++ [(⟨#[111, 114, 100, 101, 114]⟩ : ByteArray)] := ⟨_, rfl⟩
    rw [← hX11] at L11
    have hN11 : X11.length ≤ 1 := by rw [hX11, List.length_append]; first | (simp only [List.length_cons, List.length_nil]; omega) | (have := yes_len _ _; omega) | (simp [yes]; omega)
    go_wp2_with fail
    refine (lineNum_any bo X11 (⟨#[99, 104, 97, 105, 110]⟩ : ByteArray) (((chL g l).length : Int)) ⟨by omega, by omega⟩ _ L11 (hp.keep B11) (by omega)).mono ?_
    rintro e w12 ⟨rfl, L12, b12⟩
    have B12 := B11.after b12 (by omega)
    have C12 := C11.after b12 (Nat.le_refl _)
    clear B11 C11 L11
    obtain ⟨X12, hX12⟩ : ∃ X, X = X11 ++ [(⟨#[99, 104, 97, 105, 110]⟩ : ByteArray), itoaB (((chL g l).length : Int))] := ⟨_, rfl⟩
    rw [← hX12] at L12
    have hN12 : X12.length ≤ 3 := by rw [hX12, List.length_append]; first | (simp only [List.length_cons, List.length_nil]; omega) | (have := yes_len _ _; omega) | (simp [yes]; omega)
    go_wp2_with fail
    refine (lineNum_any bo X12 (⟨#[108, 101, 118, 101, 108, 115]⟩ : ByteArray) (((levels g l).length : Int)) ⟨by omega, by omega⟩ _ L12 (hp.keep B12) (by omega)).mono ?_
    rintro e w13 ⟨rfl, L13, b13⟩
    have B13 := B12.after b13 (by omega)
    have C13 := C12.after b13 (Nat.le_refl _)
    clear B12 C12 L12
    obtain ⟨X13, hX13⟩ : ∃ X, X = X12 ++ [(⟨#[108, 101, 118, 101, 108, 115]⟩ : ByteArray), itoaB (((levels g l).length : Int))] := ⟨_, rfl⟩
    rw [← hX13] at L13
    have hN13 : X13.length ≤ 5 := by rw [hX13, List.length_append]; first | (simp only [List.length_cons, List.length_nil]; omega) | (have := yes_len _ _; omega) | (simp [yes]; omega)
    have G := (blk_under K2 C13 zb).cell
    go_wp2_with fail
    clear G
    refine (HAC.out _ (hv0.below B13 (Nat.le_refl _))).mono ?_
    rintro e w14 ⟨pA, iA, qA, rfl, hA, b14⟩
    have B14 := B13.after b14 B13.size
    have C14 := C13.after b14 (Nat.le_of_lt L13.lt)
    have L14 := L13.keep b14
    clear B13 C13 L13 b14
    have hiA : iA = (laL g l).length := hA.capLe.1
    subst hiA
    cases bA with
    | false =>
      have G := (blk_under K2 C14 zb).cell
      have zf := (blk_under K2 C14 zb).lt
      go_wp2_with fail
      clear G zf
      refine calls_named ?_
      intro w55 hV
      have B55 : Below w.heap.size w w55 := by rw [hV]; exact B14.alloc B14.size _
      have zz55 := Nat.le_of_lt L14.lt
      have C55 : Below bo w2 w55 := by rw [hV]; exact C14.alloc zz55 _
      have L55 : Line bo w55 X13 := by rw [hV]; exact L14.keep (bl1 _ _)
      have ha55 : Ints w55 (.slice pA (laL g l).length qA) (laL g l) := by rw [hV]; exact hA.alloc _
      clear hV B14 C14 L14 hA
      refine (HIV.out _ (hv0.below B55 (Nat.le_refl _))).mono ?_
      rintro e w56 ⟨pI, iI, qI, rfl, oI, b56⟩
      have B56 := B55.after b56 B55.size
      have C56 := C55.after b56 (Nat.le_of_lt L55.lt)
      have L56 := L55.keep b56
      clear B55 C55 L55 b56
      have hiI : iI = (ivL g l).length := oI.ints.capLe.1
      subst hiI
      cases bI with
      | false =>
        have G := (blk_under K2 C56 zb).cell
        go_wp2_with fail
        clear G
        refine (HSU.out _ (hv0.below B56 (Nat.le_refl _))).mono ?_
        rintro e w97 ⟨pS, iS, qS, rfl, oS, b97⟩
        have B97 := B56.after b97 B56.size
        have C97 := C56.after b97 (Nat.le_of_lt L56.lt)
        have L97 := L56.keep b97
        clear B56 C56 L56 b97
        cases bS with
        | false =>
          have hT : joinB spaceB X13 = TT := by rw [hX13, hX12, hX11]; exact HX.out
          have hz := HSZ.out
          rw [← hT] at hz
          have HT := Lib.hid hT
          clear hT hX11 hX12 hX13
          obtain ⟨lv, KL, oL⟩ := L97
          have G := KL.cell
          go_wp2_with fail
          clear G
          refine (lineText_any (bo + 1) lv X13 _ oL (by omega) (by omega)).mono ?_
          rintro e wz ⟨rfl, bz⟩
          go_wp2
          go_ret
          exact ⟨ret_str (HT.out.trans HTT.out), B97.after bz B97.size⟩
        | true =>
          go_wp2_with fail
          refine (HKE.out _ _ oS.ints).mono ?_
          rintro e w138 ⟨rfl, b138⟩
          have B138 := B97.after b138 B97.size
          have C138 := C97.after b138 (Nat.le_of_lt L97.lt)
          have L138 := L97.keep b138
          clear B97 C97 L97 b138
          have G := (blk_under K2 C138 zb).cell
          go_wp2_with fail
          clear G
          refine (fmtSetI_any g K3 _ (hp.keep B138)).mono ?_
          rintro e w139 ⟨rfl, b139⟩
          have B139 := B138.after b139 B138.size
          have C139 := C138.after b139 (Nat.le_of_lt L138.lt)
          have L139 := L138.keep b139
          clear B138 C138 L138 b139
          go_wp2_with fail
          have zl140 := L139.lt
          refine (lineAdd_any bo X13 [(⟨#[115, 117, 110, 102, 108, 111, 119, 101, 114]⟩ : ByteArray), setTx g K3] w139.heap.size 2 2 _ (L139.keep (bl1 _ _)) rfl (cells_two (cell_new _ _ _ _ _ rfl) (cell_new _ _ _ _ _ rfl)) (by simp only [List.length_cons, List.length_nil]; omega)).mono ?_
          rintro e w140 ⟨rfl, L140, b140⟩
          have B140 := (B139.alloc B139.size _).after b140 (by omega)
          have C140 := (C139.alloc (Nat.le_of_lt zl140) _).after b140 (Nat.le_refl _)
          clear B139 C139 L139
          obtain ⟨X140, hX140⟩ : ∃ X, X = X13 ++ [(⟨#[115, 117, 110, 102, 108, 111, 119, 101, 114]⟩ : ByteArray), setTx g K3] := ⟨_, rfl⟩
          rw [← hX140] at L140
          have hN140 : X140.length ≤ 7 := by rw [hX140, List.length_append]; first | (simp only [List.length_cons, List.length_nil]; omega) | (have := yes_len _ _; omega) | (simp [yes]; omega)
          have hT : joinB spaceB X140 = TT := by rw [hX140, hX13, hX12, hX11]; exact HX.out
          have hz := HSZ.out
          rw [← hT] at hz
          have HT := Lib.hid hT
          clear hT hX11 hX12 hX13 hX140
          obtain ⟨lv, KL, oL⟩ := L140
          have G := KL.cell
          go_wp2_with fail
          clear G
          refine (lineText_any (bo + 1) lv X140 _ oL (by omega) (by omega)).mono ?_
          rintro e wz ⟨rfl, bz⟩
          go_wp2
          go_ret
          exact ⟨ret_str (HT.out.trans HTT.out), B140.after bz B140.size⟩
      | true =>
        go_wp2_with fail
        refine (lineList_any bo X13 (⟨#[105, 110, 116, 101, 114, 118, 97, 108, 115]⟩ : ByteArray) _ (ivL g l) _ oI.ints (by omega) L56 (hp.keep B56) (by omega)).mono ?_
        rintro e w97 ⟨rfl, L97, b97⟩
        have B97 := B56.after b97 (by omega)
        have C97 := C56.after b97 (Nat.le_refl _)
        clear B56 C56 L56
        obtain ⟨X97, hX97⟩ : ∃ X, X = X13 ++ [(⟨#[105, 110, 116, 101, 114, 118, 97, 108, 115]⟩ : ByteArray), numB (ivL g l)] := ⟨_, rfl⟩
        rw [← hX97] at L97
        have hN97 : X97.length ≤ 7 := by rw [hX97, List.length_append]; first | (simp only [List.length_cons, List.length_nil]; omega) | (have := yes_len _ _; omega) | (simp [yes]; omega)
        have G := (blk_under K2 C97 zb).cell
        go_wp2_with fail
        clear G
        refine (HSU.out _ (hv0.below B97 (Nat.le_refl _))).mono ?_
        rintro e w98 ⟨pS, iS, qS, rfl, oS, b98⟩
        have B98 := B97.after b98 B97.size
        have C98 := C97.after b98 (Nat.le_of_lt L97.lt)
        have L98 := L97.keep b98
        clear B97 C97 L97 b98
        cases bS with
        | false =>
          have hT : joinB spaceB X97 = TT := by rw [hX97, hX13, hX12, hX11]; exact HX.out
          have hz := HSZ.out
          rw [← hT] at hz
          have HT := Lib.hid hT
          clear hT hX11 hX12 hX13 hX97
          obtain ⟨lv, KL, oL⟩ := L98
          have G := KL.cell
          go_wp2_with fail
          clear G
          refine (lineText_any (bo + 1) lv X97 _ oL (by omega) (by omega)).mono ?_
          rintro e wz ⟨rfl, bz⟩
          go_wp2
          go_ret
          exact ⟨ret_str (HT.out.trans HTT.out), B98.after bz B98.size⟩
        | true =>
          go_wp2_with fail
          refine (HKE.out _ _ oS.ints).mono ?_
          rintro e w139 ⟨rfl, b139⟩
          have B139 := B98.after b139 B98.size
          have C139 := C98.after b139 (Nat.le_of_lt L98.lt)
          have L139 := L98.keep b139
          clear B98 C98 L98 b139
          have G := (blk_under K2 C139 zb).cell
          go_wp2_with fail
          clear G
          refine (fmtSetI_any g K3 _ (hp.keep B139)).mono ?_
          rintro e w140 ⟨rfl, b140⟩
          have B140 := B139.after b140 B139.size
          have C140 := C139.after b140 (Nat.le_of_lt L139.lt)
          have L140 := L139.keep b140
          clear B139 C139 L139 b140
          go_wp2_with fail
          have zl141 := L140.lt
          refine (lineAdd_any bo X97 [(⟨#[115, 117, 110, 102, 108, 111, 119, 101, 114]⟩ : ByteArray), setTx g K3] w140.heap.size 2 2 _ (L140.keep (bl1 _ _)) rfl (cells_two (cell_new _ _ _ _ _ rfl) (cell_new _ _ _ _ _ rfl)) (by simp only [List.length_cons, List.length_nil]; omega)).mono ?_
          rintro e w141 ⟨rfl, L141, b141⟩
          have B141 := (B140.alloc B140.size _).after b141 (by omega)
          have C141 := (C140.alloc (Nat.le_of_lt zl141) _).after b141 (Nat.le_refl _)
          clear B140 C140 L140
          obtain ⟨X141, hX141⟩ : ∃ X, X = X97 ++ [(⟨#[115, 117, 110, 102, 108, 111, 119, 101, 114]⟩ : ByteArray), setTx g K3] := ⟨_, rfl⟩
          rw [← hX141] at L141
          have hN141 : X141.length ≤ 9 := by rw [hX141, List.length_append]; first | (simp only [List.length_cons, List.length_nil]; omega) | (have := yes_len _ _; omega) | (simp [yes]; omega)
          have hT : joinB spaceB X141 = TT := by rw [hX141, hX97, hX13, hX12, hX11]; exact HX.out
          have hz := HSZ.out
          rw [← hT] at hz
          have HT := Lib.hid hT
          clear hT hX11 hX12 hX13 hX97 hX141
          obtain ⟨lv, KL, oL⟩ := L141
          have G := KL.cell
          go_wp2_with fail
          clear G
          refine (lineText_any (bo + 1) lv X141 _ oL (by omega) (by omega)).mono ?_
          rintro e wz ⟨rfl, bz⟩
          go_wp2
          go_ret
          exact ⟨ret_str (HT.out.trans HTT.out), B141.after bz B141.size⟩
    | true =>
      have hn0 := (HLA.out rfl).symm
      subst hn0
      go_wp2_with fail
      refine calls_named ?_
      intro w55 hV
      have B55 : Below w.heap.size w w55 := by rw [hV]; exact B14.alloc B14.size _
      have zz55 := Nat.le_of_lt L14.lt
      have C55 : Below bo w2 w55 := by rw [hV]; exact C14.alloc zz55 _
      have L55 : Line bo w55 X13 := by rw [hV]; exact L14.keep (bl1 _ _)
      have ha55 : Ints w55 (.slice pA (laL g l).length qA) (laL g l) := by rw [hV]; exact hA.alloc _
      clear hV B14 C14 L14 hA
      refine (fmtFamI_any g (laL g l) _ _ ha55 (hp.keep B55)).mono ?_
      rintro e w56 ⟨rfl, b56⟩
      have B56 := B55.after b56 B55.size
      have C56 := C55.after b56 (Nat.le_of_lt L55.lt)
      have L56 := L55.keep b56
      clear B55 C55 L55 b56
      go_wp2_with fail
      have zl57 := L56.lt
      refine (lineAdd_any bo X13 [(⟨#[97, 110, 116, 105, 99, 104, 97, 105, 110]⟩ : ByteArray), famTx g (laL g l)] w56.heap.size 2 2 _ (L56.keep (bl1 _ _)) rfl (cells_two (cell_new _ _ _ _ _ rfl) (cell_new _ _ _ _ _ rfl)) (by simp only [List.length_cons, List.length_nil]; omega)).mono ?_
      rintro e w57 ⟨rfl, L57, b57⟩
      have B57 := (B56.alloc B56.size _).after b57 (by omega)
      have C57 := (C56.alloc (Nat.le_of_lt zl57) _).after b57 (Nat.le_refl _)
      clear B56 C56 L56
      obtain ⟨X57, hX57⟩ : ∃ X, X = X13 ++ [(⟨#[97, 110, 116, 105, 99, 104, 97, 105, 110]⟩ : ByteArray), famTx g (laL g l)] := ⟨_, rfl⟩
      rw [← hX57] at L57
      have hN57 : X57.length ≤ 7 := by rw [hX57, List.length_append]; first | (simp only [List.length_cons, List.length_nil]; omega) | (have := yes_len _ _; omega) | (simp [yes]; omega)
      have G := (blk_under K2 C57 zb).cell
      go_wp2_with fail
      clear G
      refine (HIV.out _ (hv0.below B57 (Nat.le_refl _))).mono ?_
      rintro e w58 ⟨pI, iI, qI, rfl, oI, b58⟩
      have B58 := B57.after b58 B57.size
      have C58 := C57.after b58 (Nat.le_of_lt L57.lt)
      have L58 := L57.keep b58
      clear B57 C57 L57 b58
      have hiI : iI = (ivL g l).length := oI.ints.capLe.1
      subst hiI
      cases bI with
      | false =>
        have G := (blk_under K2 C58 zb).cell
        go_wp2_with fail
        clear G
        refine (HSU.out _ (hv0.below B58 (Nat.le_refl _))).mono ?_
        rintro e w99 ⟨pS, iS, qS, rfl, oS, b99⟩
        have B99 := B58.after b99 B58.size
        have C99 := C58.after b99 (Nat.le_of_lt L58.lt)
        have L99 := L58.keep b99
        clear B58 C58 L58 b99
        cases bS with
        | false =>
          have hT : joinB spaceB X57 = TT := by rw [hX57, hX13, hX12, hX11]; exact HX.out
          have hz := HSZ.out
          rw [← hT] at hz
          have HT := Lib.hid hT
          clear hT hX11 hX12 hX13 hX57
          obtain ⟨lv, KL, oL⟩ := L99
          have G := KL.cell
          go_wp2_with fail
          clear G
          refine (lineText_any (bo + 1) lv X57 _ oL (by omega) (by omega)).mono ?_
          rintro e wz ⟨rfl, bz⟩
          go_wp2
          go_ret
          exact ⟨ret_str (HT.out.trans HTT.out), B99.after bz B99.size⟩
        | true =>
          go_wp2_with fail
          refine (HKE.out _ _ oS.ints).mono ?_
          rintro e w140 ⟨rfl, b140⟩
          have B140 := B99.after b140 B99.size
          have C140 := C99.after b140 (Nat.le_of_lt L99.lt)
          have L140 := L99.keep b140
          clear B99 C99 L99 b140
          have G := (blk_under K2 C140 zb).cell
          go_wp2_with fail
          clear G
          refine (fmtSetI_any g K3 _ (hp.keep B140)).mono ?_
          rintro e w141 ⟨rfl, b141⟩
          have B141 := B140.after b141 B140.size
          have C141 := C140.after b141 (Nat.le_of_lt L140.lt)
          have L141 := L140.keep b141
          clear B140 C140 L140 b141
          go_wp2_with fail
          have zl142 := L141.lt
          refine (lineAdd_any bo X57 [(⟨#[115, 117, 110, 102, 108, 111, 119, 101, 114]⟩ : ByteArray), setTx g K3] w141.heap.size 2 2 _ (L141.keep (bl1 _ _)) rfl (cells_two (cell_new _ _ _ _ _ rfl) (cell_new _ _ _ _ _ rfl)) (by simp only [List.length_cons, List.length_nil]; omega)).mono ?_
          rintro e w142 ⟨rfl, L142, b142⟩
          have B142 := (B141.alloc B141.size _).after b142 (by omega)
          have C142 := (C141.alloc (Nat.le_of_lt zl142) _).after b142 (Nat.le_refl _)
          clear B141 C141 L141
          obtain ⟨X142, hX142⟩ : ∃ X, X = X57 ++ [(⟨#[115, 117, 110, 102, 108, 111, 119, 101, 114]⟩ : ByteArray), setTx g K3] := ⟨_, rfl⟩
          rw [← hX142] at L142
          have hN142 : X142.length ≤ 9 := by rw [hX142, List.length_append]; first | (simp only [List.length_cons, List.length_nil]; omega) | (have := yes_len _ _; omega) | (simp [yes]; omega)
          have hT : joinB spaceB X142 = TT := by rw [hX142, hX57, hX13, hX12, hX11]; exact HX.out
          have hz := HSZ.out
          rw [← hT] at hz
          have HT := Lib.hid hT
          clear hT hX11 hX12 hX13 hX57 hX142
          obtain ⟨lv, KL, oL⟩ := L142
          have G := KL.cell
          go_wp2_with fail
          clear G
          refine (lineText_any (bo + 1) lv X142 _ oL (by omega) (by omega)).mono ?_
          rintro e wz ⟨rfl, bz⟩
          go_wp2
          go_ret
          exact ⟨ret_str (HT.out.trans HTT.out), B142.after bz B142.size⟩
      | true =>
        go_wp2_with fail
        refine (lineList_any bo X57 (⟨#[105, 110, 116, 101, 114, 118, 97, 108, 115]⟩ : ByteArray) _ (ivL g l) _ oI.ints (by omega) L58 (hp.keep B58) (by omega)).mono ?_
        rintro e w99 ⟨rfl, L99, b99⟩
        have B99 := B58.after b99 (by omega)
        have C99 := C58.after b99 (Nat.le_refl _)
        clear B58 C58 L58
        obtain ⟨X99, hX99⟩ : ∃ X, X = X57 ++ [(⟨#[105, 110, 116, 101, 114, 118, 97, 108, 115]⟩ : ByteArray), numB (ivL g l)] := ⟨_, rfl⟩
        rw [← hX99] at L99
        have hN99 : X99.length ≤ 9 := by rw [hX99, List.length_append]; first | (simp only [List.length_cons, List.length_nil]; omega) | (have := yes_len _ _; omega) | (simp [yes]; omega)
        have G := (blk_under K2 C99 zb).cell
        go_wp2_with fail
        clear G
        refine (HSU.out _ (hv0.below B99 (Nat.le_refl _))).mono ?_
        rintro e w100 ⟨pS, iS, qS, rfl, oS, b100⟩
        have B100 := B99.after b100 B99.size
        have C100 := C99.after b100 (Nat.le_of_lt L99.lt)
        have L100 := L99.keep b100
        clear B99 C99 L99 b100
        cases bS with
        | false =>
          have hT : joinB spaceB X99 = TT := by rw [hX99, hX57, hX13, hX12, hX11]; exact HX.out
          have hz := HSZ.out
          rw [← hT] at hz
          have HT := Lib.hid hT
          clear hT hX11 hX12 hX13 hX57 hX99
          obtain ⟨lv, KL, oL⟩ := L100
          have G := KL.cell
          go_wp2_with fail
          clear G
          refine (lineText_any (bo + 1) lv X99 _ oL (by omega) (by omega)).mono ?_
          rintro e wz ⟨rfl, bz⟩
          go_wp2
          go_ret
          exact ⟨ret_str (HT.out.trans HTT.out), B100.after bz B100.size⟩
        | true =>
          go_wp2_with fail
          refine (HKE.out _ _ oS.ints).mono ?_
          rintro e w141 ⟨rfl, b141⟩
          have B141 := B100.after b141 B100.size
          have C141 := C100.after b141 (Nat.le_of_lt L100.lt)
          have L141 := L100.keep b141
          clear B100 C100 L100 b141
          have G := (blk_under K2 C141 zb).cell
          go_wp2_with fail
          clear G
          refine (fmtSetI_any g K3 _ (hp.keep B141)).mono ?_
          rintro e w142 ⟨rfl, b142⟩
          have B142 := B141.after b142 B141.size
          have C142 := C141.after b142 (Nat.le_of_lt L141.lt)
          have L142 := L141.keep b142
          clear B141 C141 L141 b142
          go_wp2_with fail
          have zl143 := L142.lt
          refine (lineAdd_any bo X99 [(⟨#[115, 117, 110, 102, 108, 111, 119, 101, 114]⟩ : ByteArray), setTx g K3] w142.heap.size 2 2 _ (L142.keep (bl1 _ _)) rfl (cells_two (cell_new _ _ _ _ _ rfl) (cell_new _ _ _ _ _ rfl)) (by simp only [List.length_cons, List.length_nil]; omega)).mono ?_
          rintro e w143 ⟨rfl, L143, b143⟩
          have B143 := (B142.alloc B142.size _).after b143 (by omega)
          have C143 := (C142.alloc (Nat.le_of_lt zl143) _).after b143 (Nat.le_refl _)
          clear B142 C142 L142
          obtain ⟨X143, hX143⟩ : ∃ X, X = X99 ++ [(⟨#[115, 117, 110, 102, 108, 111, 119, 101, 114]⟩ : ByteArray), setTx g K3] := ⟨_, rfl⟩
          rw [← hX143] at L143
          have hN143 : X143.length ≤ 11 := by rw [hX143, List.length_append]; first | (simp only [List.length_cons, List.length_nil]; omega) | (have := yes_len _ _; omega) | (simp [yes]; omega)
          have hT : joinB spaceB X143 = TT := by rw [hX143, hX99, hX57, hX13, hX12, hX11]; exact HX.out
          have hz := HSZ.out
          rw [← hT] at hz
          have HT := Lib.hid hT
          clear hT hX11 hX12 hX13 hX57 hX99 hX143
          obtain ⟨lv, KL, oL⟩ := L143
          have G := KL.cell
          go_wp2_with fail
          clear G
          refine (lineText_any (bo + 1) lv X143 _ oL (by omega) (by omega)).mono ?_
          rintro e wz ⟨rfl, bz⟩
          go_wp2
          go_ret
          exact ⟨ret_str (HT.out.trans HTT.out), B143.after bz B143.size⟩
end Go.Proofs.YtelmokapdkepbaaDoor
end
