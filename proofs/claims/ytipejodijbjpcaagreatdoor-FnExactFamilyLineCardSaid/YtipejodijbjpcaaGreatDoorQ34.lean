/- The line of a family: the first program. The greatest excess: the second program. Powers of elements. Powers of elements: the reference's. -/
import Derived.Test.YtipejodijbjpcaaGreatDoorQ33
import Derived.Deep.RegionHeld3
import Derived.Lib.MinMax
import Derived.StillTailTactics
import Derived.IntWalk
section
namespace Go.Proofs.YtipejodijbjpcaaGreatDoor
open Go.RowKit Go.G5

theorem cells_ofM (w : World) (ys : List ByteArray) (t : TypeId) : ∀ (j : Nat) z, ys[j]? = some z → (w.alloc (.cells (ys.map Value.string).toArray t)).cell? ⟨w.heap.size, 0 + j, none⟩ = some (.string z) := by
  intro j z hz
  refine cell_new w _ t (0 + j) _ ?_
  simp [hz]
set_option maxHeartbeats 4000000 in
set_option maxRecDepth 100000 in
theorem fmLineI_c (w : World) (g : Int) (v : Value) (l : List Int) (hv : Ints w v l) (hl : l.length ≤ 1048576) (hp : Pow w) :
    Calls Tryz.prog 9 #[.agg #[.int .i64 g, v]] w fun e w' => e = .returned (.string (fmLn g l)) ∧ Below w.heap.size w w' := by
  have hv0 := hv
  obtain ⟨a, c, rfl⟩ := hv.shape
  have K0 := Blk.new w 27 #[.int .i64 g, .slice a l.length c]
  cases hf : isFamB g l with
  | false =>
    have HX := Lib.hid (fmLn_no hf)
    have HF := Lib.hid hf
    clear hf
    go_enter Tryz.func9, Tryz.ntmps9
    go_wp2_with fail
    refine (isFamI_any g l _ _ (hv0.alloc _)).mono ?_
    rintro e w1 ⟨rfl, b1⟩
    rw [HF.out]
    go_wp2
    go_ret
    exact ⟨ret_str HX.out.symm, (bl1 _ _).after b1 (by simp)⟩
  | true =>
    obtain ⟨TT, hTT⟩ : ∃ T, T = fmLn g l := ⟨_, rfl⟩
    have hsz : TT.size ≤ 20700 := by rw [hTT, fmLn_yes hf]; exact fmT_size g l
    have hx : joinB spaceB (fmL g l) = TT := by rw [hTT, fmLn_yes hf]; exact fm_is g l
    unfold fmL fmTail fmHead at hx
    have hdb := dimN_bd g l
    have hgl := (groL_few g l).1
    have hyb := lymN_bd g l
    have hcb := clB_bd g l
    obtain ⟨N, hN⟩ : ∃ N : Nat, g = (N : Int) := Int.eq_ofNat_of_zero_le (famOk hf).1
    have hgr : ∀ (W : World), Ints W (.slice a l.length c) l → Calls Tryz.prog 96 #[.agg #[.int .i64 g, .slice a l.length c]] W fun e w' => ∃ ad i c, e = .returned (.slice ad i c) ∧ Ints w' (.slice ad i c) (groL g l) ∧ Below W.heap.size W w' := by
      intro W h
      subst hN
      exact growthI_any W N _ l h hf
    have hbk := fun (W : World) (h : Ints W (.slice a l.length c) l) => blockerI_c W g _ l h hl
    have hco := fun (W : World) (h : Ints W (.slice a l.length c) l) => coloringI_any g l _ W h hf
    have hdi := fun (W : World) (h : Ints W (.slice a l.length c) l) => dimI_any W g _ l h hf
    have hly := fun (W : World) (h : Ints W (.slice a l.length c) l) => lymI_any g l _ W h hf
    have hcf := fun (W : World) (h : Ints W (.slice a l.length c) l) => crossFreeI_any g l _ W h hf
    have hbf := fun (W : World) (h : Ints W (.slice a l.length c) l) => isBasisI_any W g _ l h hf
    simp only [hf] at hbk
    obtain ⟨M, hM⟩ : ∃ M, M = blkN g l := ⟨_, rfl⟩
    simp only [← hM] at hbk hx
    obtain ⟨L, hL⟩ : ∃ M, M = blkL g l := ⟨_, rfl⟩
    simp only [← hL] at hbk hx
    have HBK := Lib.hid hbk
    have HCO := Lib.hid hco
    have HDI := Lib.hid hdi
    have HLY := Lib.hid hly
    have HCF := Lib.hid hcf
    have HBF := Lib.hid hbf
    have HGR := Lib.hid hgr
    have HTT := Lib.hid hTT
    have HX := Lib.hid hx
    have HF := Lib.hid hf
    clear hx hf hbk hco hdi hly hcf hbf hgr hTT hM hL hN
    go_enter Tryz.func9, Tryz.ntmps9
    go_wp2_with fail
    refine (isFamI_any g l _ _ (hv0.alloc _)).mono ?_
    rintro e w1 ⟨rfl, b1⟩
    rw [HF.out]
    have B1 : Below w.heap.size w w1 := (bl1 _ _).after b1 (by simp)
    have K1 := K0.keep b1
    clear K0 b1
    have G := K1.cell
    go_wp2_with fail
    refine (HBK.out _ (hv0.below B1 (Nat.le_refl _))).mono ?_
    rintro e w2 ⟨pB, iB, qB, rfl, oB, b2⟩
    have hiB : iB = L.length := oB.ints.capLe.1
    subst hiB
    have B2 := B1.after b2 B1.size
    have K2 := K1.keep b2
    clear G B1 K1 b2
    have KB := Blk.new w2 27 #[.int .i64 M, .slice pB L.length qB]
    have hB := oB.ints.alloc (.cells #[.int .i64 M, .slice pB L.length qB] 27)
    have B2' := B2.alloc B2.size (.cells #[.int .i64 M, .slice pB L.length qB] 27)
    have K2' := K2.alloc (.cells #[.int .i64 M, .slice pB L.length qB] 27)
    have G := K2'.cell
    go_wp2_with fail
    refine (HCO.out _ (hv0.below B2' (Nat.le_refl _))).mono ?_
    rintro e w4 ⟨rfl, b4⟩
    have B4 := B2'.after b4 B2'.size
    have K2x := K2'.keep b4
    have KB := KB.keep b4
    have hB := hB.keep b4
    clear G B2 B2' K2 K2' b4
    have K2 := K2x
    clear K2x
    have hA := hv0.below B4 (Nat.le_refl _)
    obtain ⟨gB, hgB⟩ : ∃ g, g = w2.heap.size := ⟨_, rfl⟩
    obtain ⟨bo, hbo⟩ : ∃ bo, bo = w4.heap.size := ⟨_, rfl⟩
    rw [← hgB] at KB
    have zb : w.heap.size < bo := by rw [hbo]; exact K2.lt
    have zB : gB < bo := by rw [hbo]; exact KB.lt
    have zc : w4.heap.size ≤ bo := by omega
    have L5 : Line bo (w4.alloc (.cells #[.slice none 0 0] 95)) [] := by rw [hbo]; exact Line.new w4
    have B5 := B4.alloc B4.size (.cells #[.slice none 0 0] 95)
    have C5 : Below bo w4 (w4.alloc (.cells #[.slice none 0 0] 95)) := by rw [hbo]; exact bl1 w4 _
    go_wp2_with fail
    rw [← hbo, ← hgB]
    clear hbo hgB
    obtain ⟨V, hV⟩ : ∃ V, V = w4.alloc (.cells #[.slice none 0 0] 95) := ⟨_, rfl⟩
    rw [← hV] at L5 B5 C5 ⊢
    clear hV
    have KBV := blk_under KB C5 zB
    have KCV := blk_under K2 C5 zb
    have hBV := (hB.below C5 zc).drewN 1
    have hCV := (hA.below C5 zc).drewN 1
    have hpV := (hp.keep B5).keep ((Below.refl V.heap.size V).drewN' 1)
    have LV := L5.keep ((Below.refl V.heap.size V).drewN' 1)
    have zbV := L5.lt
    have zBV := KBV.lt
    have zCV := KCV.lt
    have bV : Below V.heap.size V (V.drewN 1) := (Below.refl V.heap.size V).drewN' 1
    have GB := KBV.cell
    have GC := KCV.cell
    have HF1 := Lib.hid (fmtFamI_any g l _ _ hCV hpV)
    have HF2 := Lib.hid (fun (W : World) (h : Below (V.drewN 1).heap.size (V.drewN 1) W) => fmtFamI_any M L _ W (hBV.keep h) (hpV.keep h))
    have HAD := Lib.hid (fun (W : World) (h : Below (V.drewN 1).heap.size (V.drewN 1) W) => lineAdd_any bo [] [(⟨#[102, 97, 109, 105, 108, 121]⟩ : ByteArray), famTx g l, (⟨#[98, 108, 111, 99, 107, 101, 114]⟩ : ByteArray), famTx M L] W.heap.size 4 4 _ ((LV.keep h).keep (bl1 W (.cells #[.string (⟨#[102, 97, 109, 105, 108, 121]⟩ : ByteArray), .string (famTx g l), .string (⟨#[98, 108, 111, 99, 107, 101, 114]⟩ : ByteArray), .string (famTx M L)] 9))) rfl (cells_ofM W [(⟨#[102, 97, 109, 105, 108, 121]⟩ : ByteArray), famTx g l, (⟨#[98, 108, 111, 99, 107, 101, 114]⟩ : ByteArray), famTx M L] _) (by simp))
    obtain ⟨F1, hF1⟩ : ∃ F, F = famTx g l := ⟨_, rfl⟩
    obtain ⟨F2, hF2⟩ : ∃ F, F = famTx M L := ⟨_, rfl⟩
    simp only [← hF1] at HF1
    simp only [← hF2] at HF2
    simp only [← hF1, ← hF2] at HAD
    have hx2 := HX.out
    rw [← hF1, ← hF2] at hx2
    have HX := Lib.hid hx2
    clear hx2 hF1 hF2
    go_region_held3 (fun w' => (∀ i, w'.cell? ⟨w.heap.size, i, none⟩ = (#[.int .i64 g, .slice a l.length c] : Array Value)[i]?) ∧ (∀ i, w'.cell? ⟨gB, i, none⟩ = (#[.int .i64 M, .slice pB L.length qB] : Array Value)[i]?)) (go_keep)
      (first
        | (go_at_call_of 31 (Value.slice a l.length c); refine HF1.out.mono ?_; rintro e wa ⟨rfl, ba⟩; obtain ⟨hca, hfa⟩ := bcellN ba V.heap.size (by first | omega | (simp; done) | (simp; omega)); have za := ba.size; (try simp at za))
        | (go_at_call_of 31 (Value.slice pB L.length qB); refine (HF2.out wa ba).mono ?_; rintro e wb ⟨rfl, bb⟩; have bb := ba.after bb ba.size; have hab := fun o => (((KBV.drewN 1).keep bb).alloc o).cell; have hac := fun o => (((KCV.drewN 1).keep bb).alloc o).cell; obtain ⟨hcb', hfb⟩ := bcellN bb V.heap.size (by first | omega | (simp; done) | (simp; omega)); have zb' := bb.size; (try simp at zb'))
        | (go_at_call 92; refine (HAD.out wb bb).mono ?_; rintro e wc ⟨rfl, L6, b6⟩; obtain ⟨hcc, hfc⟩ := bcellN b6 bo (Nat.le_refl _)))
    have Bw := (B5.after bV B5.size).after bb B5.size
    have Cw := (C5.after bV (Nat.le_of_lt zbV)).after bb (Nat.le_of_lt zbV)
    have zl := (LV.keep bb).lt
    have B6 := (Bw.alloc Bw.size _).after b6 (by omega)
    have C6 := (Cw.alloc (Nat.le_of_lt zl) _).after b6 (Nat.le_refl _)
    clear Bw Cw B5 C5 bV bb b6 hBV hCV hpV LV L5 KBV KCV GB GC hca hfa hcb' hfb hab hac hcc hfc HF1 HF2 HAD ba
    obtain ⟨X6, hX6⟩ : ∃ X, X = [] ++ [(⟨#[102, 97, 109, 105, 108, 121]⟩ : ByteArray), F1, (⟨#[98, 108, 111, 99, 107, 101, 114]⟩ : ByteArray), F2] := ⟨_, rfl⟩
    rw [← hX6] at L6
    have hN6 : X6.length ≤ 4 := by rw [hX6]; simp
    have G := (blk_under K2 C6 zb).cell
    go_wp2_with fail
    clear G
    refine (HDI.out _ (hv0.below B6 (Nat.le_refl _))).mono ?_
    rintro e w11 ⟨rfl, b11⟩
    have B11 := B6.after b11 B6.size
    have C11 := C6.after b11 (Nat.le_of_lt L6.lt)
    have L11 := L6.keep b11
    clear B6 C6 L6 b11
    go_wp2_with fail
    refine (lineNum_any bo X6 (⟨#[100, 105, 109, 101, 110, 115, 105, 111, 110]⟩ : ByteArray) (dimN g l) ⟨by omega, by omega⟩ _ L11 (hp.keep B11) (by omega)).mono ?_
    rintro e w12 ⟨rfl, L12, b12⟩
    have B12 := B11.after b12 (by omega)
    have C12 := C11.after b12 (Nat.le_refl _)
    clear B11 C11 L11
    obtain ⟨X12, hX12⟩ : ∃ X, X = X6 ++ [(⟨#[100, 105, 109, 101, 110, 115, 105, 111, 110]⟩ : ByteArray), itoaB (dimN g l)] := ⟨_, rfl⟩
    rw [← hX12] at L12
    have hN12 : X12.length ≤ 6 := by rw [hX12, List.length_append]; first | (simp only [List.length_cons, List.length_nil]; omega) | (have := yes_len _ _; omega) | (simp [yes]; omega)
    have G := (blk_under K2 C12 zb).cell
    go_wp2_with fail
    clear G
    refine (HGR.out _ (hv0.below B12 (Nat.le_refl _))).mono ?_
    rintro e w13 ⟨pG, iG, qG, rfl, oG, b13⟩
    have B13 := B12.after b13 B12.size
    have C13 := C12.after b13 (Nat.le_of_lt L12.lt)
    have L13 := L12.keep b13
    clear B12 C12 L12 b13
    have hiG : iG = (groL g l).length := oG.capLe.1
    subst hiG
    go_wp2_with fail
    refine (lineList_any bo X12 (⟨#[103, 114, 111, 119, 116, 104]⟩ : ByteArray) _ (groL g l) _ oG (by omega) L13 (hp.keep B13) (by omega)).mono ?_
    rintro e w14 ⟨rfl, L14, b14⟩
    have B14 := B13.after b14 (by omega)
    have C14 := C13.after b14 (Nat.le_refl _)
    clear B13 C13 L13
    obtain ⟨X14, hX14⟩ : ∃ X, X = X12 ++ [(⟨#[103, 114, 111, 119, 116, 104]⟩ : ByteArray), numB (groL g l)] := ⟨_, rfl⟩
    rw [← hX14] at L14
    have hN14 : X14.length ≤ 8 := by rw [hX14, List.length_append]; first | (simp only [List.length_cons, List.length_nil]; omega) | (have := yes_len _ _; omega) | (simp [yes]; omega)
    have G := (blk_under K2 C14 zb).cell
    go_wp2_with fail
    clear G
    refine (HLY.out _ (hv0.below B14 (Nat.le_refl _))).mono ?_
    rintro e w15 ⟨rfl, b15⟩
    have B15 := B14.after b15 B14.size
    have C15 := C14.after b15 (Nat.le_of_lt L14.lt)
    have L15 := L14.keep b15
    clear B14 C14 L14 b15
    go_wp2_with fail
    refine (lineNum_any bo X14 (⟨#[108, 121, 109]⟩ : ByteArray) (lymN g l) ⟨by omega, by omega⟩ _ L15 (hp.keep B15) (by omega)).mono ?_
    rintro e w16 ⟨rfl, L16, b16⟩
    have B16 := B15.after b16 (by omega)
    have C16 := C15.after b16 (Nat.le_refl _)
    clear B15 C15 L15
    obtain ⟨X16, hX16⟩ : ∃ X, X = X14 ++ [(⟨#[108, 121, 109]⟩ : ByteArray), itoaB (lymN g l)] := ⟨_, rfl⟩
    rw [← hX16] at L16
    have hN16 : X16.length ≤ 10 := by rw [hX16, List.length_append]; first | (simp only [List.length_cons, List.length_nil]; omega) | (have := yes_len _ _; omega) | (simp [yes]; omega)
    go_wp2_with fail
    refine (lineNum_any bo X16 (⟨#[100, 105, 115, 99, 114, 101, 112, 97, 110, 99, 121]⟩ : ByteArray) (clN g l) ⟨by omega, by omega⟩ _ L16 (hp.keep B16) (by omega)).mono ?_
    rintro e w17 ⟨rfl, L17, b17⟩
    have B17 := B16.after b17 (by omega)
    have C17 := C16.after b17 (Nat.le_refl _)
    clear B16 C16 L16
    obtain ⟨X17, hX17⟩ : ∃ X, X = X16 ++ [(⟨#[100, 105, 115, 99, 114, 101, 112, 97, 110, 99, 121]⟩ : ByteArray), itoaB (clN g l)] := ⟨_, rfl⟩
    rw [← hX17] at L17
    have hN17 : X17.length ≤ 12 := by rw [hX17, List.length_append]; first | (simp only [List.length_cons, List.length_nil]; omega) | (have := yes_len _ _; omega) | (simp [yes]; omega)
    have G := (blk_under K2 C17 zb).cell
    go_wp2_with fail
    clear G
    refine (fmtSetI_any g (clR g l) _ (hp.keep B17)).mono ?_
    rintro e w18 ⟨rfl, b18⟩
    have B18 := B17.after b18 B17.size
    have C18 := C17.after b18 (Nat.le_of_lt L17.lt)
    have L18 := L17.keep b18
    clear B17 C17 L17 b18
    go_wp2_with fail
    have zl19 := L18.lt
    refine (lineAdd_any bo X17 [(⟨#[98, 121]⟩ : ByteArray), setTx g (clR g l)] w18.heap.size 2 2 _ (L18.keep (bl1 _ _)) rfl (cells_two (cell_new _ _ _ _ _ rfl) (cell_new _ _ _ _ _ rfl)) (by simp only [List.length_cons, List.length_nil]; omega)).mono ?_
    rintro e w19 ⟨rfl, L19, b19⟩
    have B19 := (B18.alloc B18.size _).after b19 (by omega)
    have C19 := (C18.alloc (Nat.le_of_lt zl19) _).after b19 (Nat.le_refl _)
    clear B18 C18 L18
    obtain ⟨X19, hX19⟩ : ∃ X, X = X17 ++ [(⟨#[98, 121]⟩ : ByteArray), setTx g (clR g l)] := ⟨_, rfl⟩
    rw [← hX19] at L19
    have hN19 : X19.length ≤ 14 := by rw [hX19, List.length_append]; first | (simp only [List.length_cons, List.length_nil]; omega) | (have := yes_len _ _; omega) | (simp [yes]; omega)
    have G := (blk_under K2 C19 zb).cell
    go_wp2_with fail
    clear G
    refine (isLaminar_any g l _ _ (hv0.below B19 (Nat.le_refl _))).mono ?_
    rintro e w20 ⟨rfl, b20⟩
    have B20 := B19.after b20 B19.size
    have C20 := C19.after b20 (Nat.le_of_lt L19.lt)
    have L20 := L19.keep b20
    clear B19 C19 L19 b20
    go_wp2_with fail
    refine (lineWord_any bo X19 (⟨#[108, 97, 109, 105, 110, 97, 114]⟩ : ByteArray) (lamB g l) _ L20 (by omega)).mono ?_
    rintro e w21 ⟨rfl, L21, b21⟩
    have B21 := B20.after b21 (by omega)
    have C21 := C20.after b21 (Nat.le_refl _)
    clear B20 C20 L20
    obtain ⟨X21, hX21⟩ : ∃ X, X = X19 ++ yes (lamB g l) (⟨#[108, 97, 109, 105, 110, 97, 114]⟩ : ByteArray) := ⟨_, rfl⟩
    rw [← hX21] at L21
    have hN21 : X21.length ≤ 15 := by rw [hX21, List.length_append]; have := yes_len (lamB g l) (⟨#[108, 97, 109, 105, 110, 97, 114]⟩ : ByteArray); omega
    have G := (blk_under K2 C21 zb).cell
    go_wp2_with fail
    clear G
    refine (HCF.out _ (hv0.below B21 (Nat.le_refl _))).mono ?_
    rintro e w22 ⟨rfl, b22⟩
    have B22 := B21.after b22 B21.size
    have C22 := C21.after b22 (Nat.le_of_lt L21.lt)
    have L22 := L21.keep b22
    clear B21 C21 L21 b22
    go_wp2_with fail
    refine (lineWord_any bo X21 (⟨#[99, 114, 111, 115, 115, 102, 114, 101, 101]⟩ : ByteArray) (crossB g l) _ L22 (by omega)).mono ?_
    rintro e w23 ⟨rfl, L23, b23⟩
    have B23 := B22.after b23 (by omega)
    have C23 := C22.after b23 (Nat.le_refl _)
    clear B22 C22 L22
    obtain ⟨X23, hX23⟩ : ∃ X, X = X21 ++ yes (crossB g l) (⟨#[99, 114, 111, 115, 115, 102, 114, 101, 101]⟩ : ByteArray) := ⟨_, rfl⟩
    rw [← hX23] at L23
    have hN23 : X23.length ≤ 16 := by rw [hX23, List.length_append]; have := yes_len (crossB g l) (⟨#[99, 114, 111, 115, 115, 102, 114, 101, 101]⟩ : ByteArray); omega
    have G := (blk_under K2 C23 zb).cell
    go_wp2_with fail
    clear G
    refine (isInter_any g l _ _ (hv0.below B23 (Nat.le_refl _))).mono ?_
    rintro e w24 ⟨rfl, b24⟩
    have B24 := B23.after b24 B23.size
    have C24 := C23.after b24 (Nat.le_of_lt L23.lt)
    have L24 := L23.keep b24
    clear B23 C23 L23 b24
    go_wp2_with fail
    refine (lineWord_any bo X23 (⟨#[105, 110, 116, 101, 114, 115, 101, 99, 116, 105, 110, 103]⟩ : ByteArray) (interB g l) _ L24 (by omega)).mono ?_
    rintro e w25 ⟨rfl, L25, b25⟩
    have B25 := B24.after b25 (by omega)
    have C25 := C24.after b25 (Nat.le_refl _)
    clear B24 C24 L24
    obtain ⟨X25, hX25⟩ : ∃ X, X = X23 ++ yes (interB g l) (⟨#[105, 110, 116, 101, 114, 115, 101, 99, 116, 105, 110, 103]⟩ : ByteArray) := ⟨_, rfl⟩
    rw [← hX25] at L25
    have hN25 : X25.length ≤ 17 := by rw [hX25, List.length_append]; have := yes_len (interB g l) (⟨#[105, 110, 116, 101, 114, 115, 101, 99, 116, 105, 110, 103]⟩ : ByteArray); omega
    have G := (blk_under K2 C25 zb).cell
    go_wp2_with fail
    clear G
    refine (isAnti_any g l _ _ (hv0.below B25 (Nat.le_refl _))).mono ?_
    rintro e w26 ⟨rfl, b26⟩
    have B26 := B25.after b26 B25.size
    have C26 := C25.after b26 (Nat.le_of_lt L25.lt)
    have L26 := L25.keep b26
    clear B25 C25 L25 b26
    go_wp2_with fail
    refine (lineWord_any bo X25 (⟨#[97, 110, 116, 105, 99, 104, 97, 105, 110]⟩ : ByteArray) (antiB g l) _ L26 (by omega)).mono ?_
    rintro e w27 ⟨rfl, L27, b27⟩
    have B27 := B26.after b27 (by omega)
    have C27 := C26.after b27 (Nat.le_refl _)
    clear B26 C26 L26
    obtain ⟨X27, hX27⟩ : ∃ X, X = X25 ++ yes (antiB g l) (⟨#[97, 110, 116, 105, 99, 104, 97, 105, 110]⟩ : ByteArray) := ⟨_, rfl⟩
    rw [← hX27] at L27
    have hN27 : X27.length ≤ 18 := by rw [hX27, List.length_append]; have := yes_len (antiB g l) (⟨#[97, 110, 116, 105, 99, 104, 97, 105, 110]⟩ : ByteArray); omega
    have G := (blk_under K2 C27 zb).cell
    go_wp2_with fail
    clear G
    refine (isDownI_any g l _ _ (hv0.below B27 (Nat.le_refl _)) hl).mono ?_
    rintro e w28 ⟨rfl, b28⟩
    have B28 := B27.after b28 B27.size
    have C28 := C27.after b28 (Nat.le_of_lt L27.lt)
    have L28 := L27.keep b28
    clear B27 C27 L27 b28
    go_wp2_with fail
    refine (lineWord_any bo X27 (⟨#[100, 111, 119, 110]⟩ : ByteArray) (downB g l) _ L28 (by omega)).mono ?_
    rintro e w29 ⟨rfl, L29, b29⟩
    have B29 := B28.after b29 (by omega)
    have C29 := C28.after b29 (Nat.le_refl _)
    clear B28 C28 L28
    obtain ⟨X29, hX29⟩ : ∃ X, X = X27 ++ yes (downB g l) (⟨#[100, 111, 119, 110]⟩ : ByteArray) := ⟨_, rfl⟩
    rw [← hX29] at L29
    have hN29 : X29.length ≤ 19 := by rw [hX29, List.length_append]; have := yes_len (downB g l) (⟨#[100, 111, 119, 110]⟩ : ByteArray); omega
    have G := (blk_under K2 C29 zb).cell
    go_wp2_with fail
    clear G
    refine (HBF.out _ (hv0.below B29 (Nat.le_refl _))).mono ?_
    rintro e w30 ⟨rfl, b30⟩
    have B30 := B29.after b30 B29.size
    have C30 := C29.after b30 (Nat.le_of_lt L29.lt)
    have L30 := L29.keep b30
    clear B29 C29 L29 b30
    go_wp2_with fail
    refine (lineWord_any bo X29 (⟨#[98, 97, 115, 101, 115]⟩ : ByteArray) (bfB g l) _ L30 (by omega)).mono ?_
    rintro e w31 ⟨rfl, L31, b31⟩
    have B31 := B30.after b31 (by omega)
    have C31 := C30.after b31 (Nat.le_refl _)
    clear B30 C30 L30
    obtain ⟨X31, hX31⟩ : ∃ X, X = X29 ++ yes (bfB g l) (⟨#[98, 97, 115, 101, 115]⟩ : ByteArray) := ⟨_, rfl⟩
    rw [← hX31] at L31
    have hN31 : X31.length ≤ 20 := by rw [hX31, List.length_append]; have := yes_len (bfB g l) (⟨#[98, 97, 115, 101, 115]⟩ : ByteArray); omega
    have hT : joinB spaceB X31 = TT := by rw [hX31, hX29, hX27, hX25, hX23, hX21, hX19, hX17, hX16, hX14, hX12, hX6]; exact HX.out
    have hz := hsz
    rw [← hT] at hz
    have HT := Lib.hid hT
    clear hT hX6 hX12 hX14 hX16 hX17 hX19 hX21 hX23 hX25 hX27 hX29 hX31
    obtain ⟨lv, KL, oL⟩ := L31
    have G := KL.cell
    go_wp2_with fail
    clear G
    refine (lineText_any (bo + 1) lv X31 _ oL (by omega) (by omega)).mono ?_
    rintro e wz ⟨rfl, bz⟩
    go_wp2
    go_ret
    exact ⟨ret_str (HT.out.trans HTT.out), B31.after bz B31.size⟩
end Go.Proofs.YtipejodijbjpcaaGreatDoor
end
section
namespace Go.Proofs.YtipejodijbjpcaaGreatDoor
open Go.RowKit Go.G5


end Go.Proofs.YtipejodijbjpcaaGreatDoor
end
section
namespace Go.Proofs.YtipejodijbjpcaaGreatDoor
open Go.RowKit Go.G5

theorem cornerL_bd (l o : List Int) (hl : l.length = 2 ^ o.length) (hlb : ∀ k, (hk : k < l.length) → -1000 ≤ l[k] ∧ l[k] ≤ 1000) (ho : ∀ x ∈ o, 0 ≤ x ∧ x < o.length) :
    ∀ x ∈ cornerL l o, -2000 ≤ x ∧ x ≤ 2000 := by
  have h : ∀ k, k ≤ o.length → ∀ x ∈ cornerTo l o k, -2000 ≤ x ∧ x ≤ 2000 := by
    intro k
    induction k with
    | zero =>
      intro _ x hx
      have := List.eq_of_mem_replicate hx
      omega
    | succ k ih =>
      intro hk x hx
      rw [cornerTo] at hx
      rcases List.mem_or_eq_of_mem_set hx with hx | hx
      · exact ih (by omega) x hx
      · rw [hx]
        have hlt : k < o.length := by omega
        have hm := ho _ (List.getElem_mem hlt)
        have hp := prefS_lt o o.length k ho (by omega)
        rw [List.getD_eq_getElem?_getD, List.getElem?_eq_getElem hlt, Option.getD_some]
        refine gainL_bd l _ _ (by omega) ?_ hlb
        rw [hl]
        exact setBit_lt _ _ _ hp (by omega)
  exact h o.length (Nat.le_refl _)
theorem getD_bd (l : List Int) (h : ∀ x ∈ l, -2000 ≤ x ∧ x ≤ 2000) (e : Nat) : -2000 ≤ l.getD e 0 ∧ l.getD e 0 ≤ 2000 := by
  rw [List.getD_eq_getElem?_getD]
  by_cases he : e < l.length
  · rw [List.getElem?_eq_getElem he]; exact h _ (List.getElem_mem he)
  · rw [List.getElem?_eq_none (by omega)]; decide
theorem tot_bd (l : List Int) (os : List (List Int)) (n : Nat) (hl : l.length = 2 ^ n) (hlb : ∀ k, (hk : k < l.length) → -1000 ≤ l[k] ∧ l[k] ≤ 1000) (hos : ∀ o ∈ os, o.length = n ∧ ∀ x ∈ o, 0 ≤ x ∧ x < n) (e j : Nat) (hj : j ≤ os.length) :
    -2000 * (j : Int) ≤ tot l os e j ∧ tot l os e j ≤ 2000 * (j : Int) := by
  induction j with
  | zero => simp [tot]
  | succ j ih =>
    have h1 := ih (by omega)
    have ho := hos _ (List.getElem_mem (show j < os.length by omega))
    have hb := getD_bd _ (cornerL_bd l os[j] (by rw [ho.1]; exact hl) hlb (by rw [ho.1]; exact ho.2)) e
    rw [tot, show os.getD j [] = os[j] by rw [List.getD_eq_getElem?_getD, List.getElem?_eq_getElem (show j < os.length by omega)]; rfl]
    omega

end Go.Proofs.YtipejodijbjpcaaGreatDoor
end
section
namespace Go.Proofs.YtipejodijbjpcaaGreatDoor
open Go.RowKit Go.G5

theorem pop_room : ∀ n : Nat, n ≤ 5 → ∀ s : Nat, s < 2 ^ n → ∀ e : Nat, e < n → ibit (s : Int) e ≠ 1 → pop s + 1 ≤ n := by decide +kernel
theorem fact24 (k : Nat) (h : k ≤ 4) : fact k ≤ 24 := by have := fact_mono k 4 h; have e : fact 4 = 24 := by decide
                                                         omega
theorem mul_bdS {a b A B : Int} (ha : 0 ≤ a) (hA : a ≤ A) (hb : -B ≤ b) (hB : b ≤ B) (hB0 : 0 ≤ B) : -(A * B) ≤ a * b ∧ a * b ≤ A * B := by
  have h1 : a * b ≤ a * B := Int.mul_le_mul_of_nonneg_left hB ha
  have h2 : a * B ≤ A * B := Int.mul_le_mul_of_nonneg_right hA hB0
  have h3 : a * (-B) ≤ a * b := Int.mul_le_mul_of_nonneg_left hb ha
  rw [Int.mul_neg] at h3
  omega
/-- one set's part -/
def spPart (l : List Int) (n e s : Nat) : Int := (fact (pop s) : Int) * (fact (n - 1 - pop s) : Int) * (l.getD (setBit s e) 0 - l.getD s 0)
theorem shTo_bd (l : List Int) (n e : Nat) (hn : n ≤ 5) (he : e < n) (hl : l.length = 2 ^ n) (hlb : ∀ k, (hk : k < l.length) → -1000 ≤ l[k] ∧ l[k] ≤ 1000) (s : Nat) (hs : s ≤ 2 ^ n) : -1152000 * (s : Int) ≤ shTo l n e s ∧ shTo l n e s ≤ 1152000 * (s : Int) := by
  induction s with
  | zero => simp [shTo]
  | succ s ih =>
    have h1 := ih (by omega)
    rw [shTo]
    by_cases hb : ibit (s : Int) e = 1
    · rw [if_pos hb]; omega
    · rw [if_neg hb]
      have hr := pop_room n hn s (by omega) e he hb
      have f1 := fact24 (pop s) (by omega)
      have f2 := fact24 (n - 1 - pop s) (by omega)
      have hg := gainL_bd l s e (by omega) (by rw [hl]; exact setBit_lt _ _ _ (by omega) he) hlb
      unfold gainL at hg
      have m1 := mul_bdS (a := (fact (pop s) : Int)) (b := (fact (n - 1 - pop s) : Int)) (A := 24) (B := 24) (by omega) (by omega) (by omega) (by omega) (by omega)
      have m0 : 0 ≤ (fact (pop s) : Int) * (fact (n - 1 - pop s) : Int) := Int.mul_nonneg (by omega) (by omega)
      have m2 := mul_bdS (a := (fact (pop s) : Int) * (fact (n - 1 - pop s) : Int)) (b := l.getD (setBit s e) 0 - l.getD s 0) (A := 576) (B := 2000) m0 (by omega) (by omega) (by omega) (by omega)
      omega

end Go.Proofs.YtipejodijbjpcaaGreatDoor
end
