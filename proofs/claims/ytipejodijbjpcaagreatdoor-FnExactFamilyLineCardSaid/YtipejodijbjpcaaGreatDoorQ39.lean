/- The line of a family: the second program. -/
import Derived.Test.YtipejodijbjpcaaGreatDoorQ38
import Derived.Deep.DeepCutAuto
section
namespace Go.Proofs.YtipejodijbjpcaaGreatDoor
open Go.RowKit Go.G5

set_option maxHeartbeats 8000000 in
set_option maxRecDepth 100000 in
theorem fmLineS_c (w : World) (g : Int) (v : Value) (l : List Int) (hv : Ints w v l) (hl : l.length ≤ 1048576) :
    Calls Tryz.prog 7 #[.agg #[.int .i64 g, v]] w fun e w' => e = .returned (.string (fmLn g l)) ∧ Below w.heap.size w w' := by
  have hv0 := hv
  obtain ⟨a, c, rfl⟩ := hv.shape
  have K0 := Blk.new w 27 #[.int .i64 g, .slice a l.length c]
  cases hf : isFamB g l with
  | false =>
    have HX := Lib.hid (fmLn_no hf)
    have HF := Lib.hid hf
    clear hf
    go_enter Tryz.func7, Tryz.ntmps7
    go_wp2_with fail
    refine (isFamS_any g l _ _ (hv0.alloc _)).mono ?_
    rintro e w1 ⟨rfl, b1⟩
    rw [HF.out]
    go_wp2
    go_ret
    exact ⟨ret_str HX.out.symm, (bl1 _ _).after b1 (by simp)⟩
  | true =>
    have hdb := dimN_bd g l
    have hgl := (groL_few g l).1
    have hyb := lymN_bd g l
    have hcb := clB_bd g l
    have hx : fmLn g l = fmT g l := fmLn_yes hf
    unfold fmT fmTailT fmHeadT at hx
    obtain ⟨N, hN⟩ : ∃ N : Nat, g = (N : Int) := Int.eq_ofNat_of_zero_le (famOk hf).1
    have hgr : ∀ (W : World), Ints W (.slice a l.length c) l → Calls Tryz.prog 78 #[.agg #[.int .i64 g, .slice a l.length c]] W fun e w' => ∃ ad i c, e = .returned (.slice ad i c) ∧ Ints w' (.slice ad i c) (groL g l) ∧ Below W.heap.size W w' := by
      intro W h
      subst hN
      exact growthS_any W N _ l h hf
    have hbf : ∀ (W : World), Ints W (.slice a l.length c) l → Calls Tryz.prog 88 #[.agg #[.int .i64 g, .slice a l.length c]] W fun e w' => e = .returned (.bool (bfB g l)) ∧ Below W.heap.size W w' := by
      intro W h
      subst hN
      exact isBasisS_any W N _ l h hf
    have hbk := fun (W : World) (h : Ints W (.slice a l.length c) l) => blockerS_c W g _ l h hl
    have hco := fun (W : World) (h : Ints W (.slice a l.length c) l) => bestColS_any g l _ W h hf
    have hdi := fun (W : World) (h : Ints W (.slice a l.length c) l) => dimS_any W g _ l h hf
    have hly := fun (W : World) (h : Ints W (.slice a l.length c) l) => lymS_any g l _ W h hf
    simp only [hf] at hbk
    obtain ⟨M, hM⟩ : ∃ M, M = blkN g l := ⟨_, rfl⟩
    obtain ⟨L, hL⟩ : ∃ M, M = blkL g l := ⟨_, rfl⟩
    simp only [← hM, ← hL] at hbk hx
    have s1 := famTx_size g l
    have s2 := famTx_size M L
    have s3 := itoaB_size (dimN g l) ⟨by omega, by omega⟩
    have s4 := groNum_size g l
    have s5 := itoaB_size (lymN g l) ⟨by omega, by omega⟩
    have s6 := itoaB_size (clN g l) ⟨by omega, by omega⟩
    have s7 := setTx_size g (clR g l)
    have q1 := fun (W : World) (h : Ints W (.slice a l.length c) l) => fmtFamS_any g l _ W h
    have q2 := fun (W : World) (v : Value) (h : Ints W v L) => fmtFamS_any M L v W h
    have q3 := fun (W : World) => fmtS_any (dimN g l) ⟨by omega, by omega⟩ W
    have q4 := fun (W : World) (v : Value) (h : Ints W v (groL g l)) => numS_any (groL g l) v W h (by omega)
    have q5 := fun (W : World) => fmtS_any (lymN g l) ⟨by omega, by omega⟩ W
    have q6 := fun (W : World) => fmtS_any (clN g l) ⟨by omega, by omega⟩ W
    have q7 := fun (W : World) => fmtSetS_any g (clR g l) W
    obtain ⟨F1, hF1⟩ : ∃ F, F = famTx g l := ⟨_, rfl⟩
    obtain ⟨F2, hF2⟩ : ∃ F, F = famTx M L := ⟨_, rfl⟩
    obtain ⟨F3, hF3⟩ : ∃ F, F = itoaB (dimN g l) := ⟨_, rfl⟩
    obtain ⟨F4, hF4⟩ : ∃ F, F = numB (groL g l) := ⟨_, rfl⟩
    obtain ⟨F5, hF5⟩ : ∃ F, F = itoaB (lymN g l) := ⟨_, rfl⟩
    obtain ⟨F6, hF6⟩ : ∃ F, F = itoaB (clN g l) := ⟨_, rfl⟩
    obtain ⟨F7, hF7⟩ : ∃ F, F = setTx g (clR g l) := ⟨_, rfl⟩
    simp only [← hF1] at q1 s1
    simp only [← hF2] at q2 s2
    simp only [← hF3] at q3 s3
    simp only [← hF4] at q4 s4
    simp only [← hF5] at q5 s5
    simp only [← hF6] at q6 s6
    simp only [← hF7] at q7 s7
    rw [← hF1, ← hF2, ← hF3, ← hF4, ← hF5, ← hF6, ← hF7] at hx
    have HQ1 := Lib.hid q1
    have HQ2 := Lib.hid q2
    have HQ3 := Lib.hid q3
    have HQ4 := Lib.hid q4
    have HQ5 := Lib.hid q5
    have HQ6 := Lib.hid q6
    have HQ7 := Lib.hid q7
    have HBK := Lib.hid hbk
    have HCO := Lib.hid hco
    have HDI := Lib.hid hdi
    have HLY := Lib.hid hly
    have HBF := Lib.hid hbf
    have HGR := Lib.hid hgr
    have HX := Lib.hid hx
    have HF := Lib.hid hf
    clear hx hf hbk hco hdi hly hbf hgr hM hL hN hF1 hF2 hF3 hF4 hF5 hF6 hF7 q1 q2 q3 q4 q5 q6 q7
    go_enter Tryz.func7, Tryz.ntmps7
    go_wp2_with fail
    refine (isFamS_any g l _ _ (hv0.alloc _)).mono ?_
    rintro e w1 ⟨rfl, b1⟩
    rw [HF.out]
    have B1 : Below w.heap.size w w1 := (bl1 _ _).after b1 (by simp)
    have K1 := K0.keep b1
    clear K0 b1
    have G := K1.cell
    go_wp2_with fail
    refine (HBK.out _ (hv0.below B1 (Nat.le_refl _))).mono ?_
    rintro e w2 ⟨pB, iB, qB, rfl, oB, b2⟩
    have hiB : iB = L.length := oB.ints.capLe.1
    subst hiB
    have B2 := B1.after b2 B1.size
    have K2 := K1.keep b2
    clear G B1 K1 b2
    have KB := Blk.new w2 27 #[.int .i64 M, .slice pB L.length qB]
    have hB := oB.ints.alloc (.cells #[.int .i64 M, .slice pB L.length qB] 27)
    have B3 := B2.alloc B2.size (.cells #[.int .i64 M, .slice pB L.length qB] 27)
    have K3 := K2.alloc (.cells #[.int .i64 M, .slice pB L.length qB] 27)
    have hA := hv0.below B3 (Nat.le_refl _)
    clear oB B2 K2
    go_upto_region 4 with fail
    obtain ⟨w3, hw3⟩ : ∃ W, W = w2.alloc (.cells #[.int .i64 M, .slice pB L.length qB] 27) := ⟨_, rfl⟩
    rw [← hw3] at KB hB B3 K3 hA ⊢
    clear hw3
    go_cut [5] (fun v wx => ∃ X, v = .string X ∧ X = fmOne F1 F2 F3 F4 F5 ∧ Below w3.heap.size w3 wx)
    case rest =>
      obtain ⟨X, rfl, hX, b4⟩ := hcut
      have hXs : X.size ≤ 20400 := by rw [hX]; exact fmOne_size F1 F2 F3 F4 F5 s1 s2 s3 s4 s5
      have hXX := HX.out
      rw [← hX] at hXX
      have HX := Lib.hid hXX
      have B4 := B3.after b4 B3.size
      have K4 := K3.keep b4
      clear hX hXX b4 B3 K3 KB hB hA HQ1 HQ2 HQ3 HQ4 HQ5 HBK HDI HLY HGR s1 s2 s3 s4 s5
      have G := K4.cell
      go_wp2_with fail
      refine (HCO.out _ (hv0.below B4 (Nat.le_refl _))).mono ?_
      rintro e w5 ⟨rfl, b5⟩
      have B5 := B4.after b5 B4.size
      have K5 := K4.keep b5
      clear B4 K4 G b5
      have g0 := K5.cell 0
      simp only [List.getElem?_toArray, List.getElem?_cons_zero] at g0
      have q0 : ∀ y : Ext w5, y.w.cell? ⟨w.heap.size, 0, none⟩ = some (.int .i64 g) := fun y => y.cell g0
      have R6 := Lib.hid (fun y : Ext w5 => HQ6.out y.w)
      have R7 := Lib.hid (fun y : Ext w5 => HQ7.out y.w)
      clear g0
      go_wp2_with fail
      refine wp_region_ext _ (by kernel_rfl) (by kernel_rfl) ?_
      repeat (first | go_big_quiet_skip | (go_big_quiet_want; go_big_quiet_op; first | go_big_quiet_on | (apply Exists.intro; refine ⟨fun _ => ?_, ?_⟩; (first | (go_at_call 75; with_reducible exact ext_call (R6.out _)) | (go_at_call 81; with_reducible exact ext_call (R7.out _))); go_big_quiet_on)))
      refine wpQuiet_nil ?_
      rintro w6 ⟨⟨w6, b6⟩, rfl⟩
      try dsimp only
      have B6 := B5.after b6 B5.size
      have K6 := K5.keep b6
      have hv2 := hv0.below B6 (Nat.le_refl _)
      have eby : (⟨#[32, 98, 121, 32]⟩ : ByteArray).size = 4 := rfl
      have z0 : (X ++ F6 ++ (⟨#[32, 98, 121, 32]⟩ : ByteArray) ++ F7).size ≤ 20600 := by simp only [ByteArray.size_append]; omega
      have G := K6.cell
      have g0 := G 0
      have g1 := G 1
      simp only [List.getElem?_toArray, List.getElem?_cons_zero, List.getElem?_cons_succ] at g0 g1
      have q0 : ∀ y : Ext w6, y.w.cell? ⟨w.heap.size, 0, none⟩ = some (.int .i64 g) := fun y => y.cell g0
      have q1 : ∀ y : Ext w6, y.w.cell? ⟨w.heap.size, 1, none⟩ = some (.slice a l.length c) := fun y => y.cell g1
      clear R6 R7 HQ6 HQ7 B5 K5 b6 g0 g1 G
      obtain ⟨Y, hY⟩ : ∃ Y, Y = X ++ F6 ++ (⟨#[32, 98, 121, 32]⟩ : ByteArray) ++ F7 := ⟨_, rfl⟩
      rw [← hY] at z0
      have hXX := HX.out
      rw [← hY] at hXX
      have HX := Lib.hid hXX
      clear hXX
      have Q0 := fun y : Ext w6 => lamS_any g l _ y.w (hv2.keep y.b) HF.out
      have Q1 := fun y : Ext w6 => crossFreeS_any g l _ y.w (hv2.keep y.b) HF.out
      have Q2 := fun y : Ext w6 => interS_any g l _ y.w (hv2.keep y.b) HF.out
      have Q3 := fun y : Ext w6 => antiS_any g l _ y.w (hv2.keep y.b) HF.out
      have Q4 := fun y : Ext w6 => isDownS_any g l _ y.w (hv2.keep y.b) hl
      have Q5 := fun y : Ext w6 => HBF.out y.w (hv2.keep y.b)
      obtain ⟨b10, hb10⟩ : ∃ b, b = lamB g l := ⟨_, rfl⟩
      rw [← hb10] at Q0
      obtain ⟨b11, hb11⟩ : ∃ b, b = crossB g l := ⟨_, rfl⟩
      rw [← hb11] at Q1
      obtain ⟨b12, hb12⟩ : ∃ b, b = interB g l := ⟨_, rfl⟩
      rw [← hb12] at Q2
      obtain ⟨b13, hb13⟩ : ∃ b, b = antiB g l := ⟨_, rfl⟩
      rw [← hb13] at Q3
      obtain ⟨b14, hb14⟩ : ∃ b, b = downB g l := ⟨_, rfl⟩
      rw [← hb14] at Q4
      obtain ⟨b15, hb15⟩ : ∃ b, b = bfB g l := ⟨_, rfl⟩
      rw [← hb15] at Q5
      have HBS := Lib.hid (And.intro hb10 (And.intro hb11 (And.intro hb12 (And.intro hb13 (And.intro hb14 hb15)))))
      have Q0 := Lib.hid Q0
      have Q1 := Lib.hid Q1
      have Q2 := Lib.hid Q2
      have Q3 := Lib.hid Q3
      have Q4 := Lib.hid Q4
      have Q5 := Lib.hid Q5
      obtain ⟨t0, ht0⟩ : ∃ t, t = yesT b10 (⟨#[32, 108, 97, 109, 105, 110, 97, 114]⟩ : ByteArray) := ⟨_, rfl⟩
      have Y0 := fun y : Ext w6 => yesS_any b10 (⟨#[32, 108, 97, 109, 105, 110, 97, 114]⟩ : ByteArray) y.w
      rw [← ht0] at Y0
      have Y0 := Lib.hid Y0
      have z1 : t0.size ≤ 14 := by rw [ht0]; exact Nat.le_trans (yesT_size _ _) (by decide)
      obtain ⟨t1, ht1⟩ : ∃ t, t = yesT b11 (⟨#[32, 99, 114, 111, 115, 115, 102, 114, 101, 101]⟩ : ByteArray) := ⟨_, rfl⟩
      have Y1 := fun y : Ext w6 => yesS_any b11 (⟨#[32, 99, 114, 111, 115, 115, 102, 114, 101, 101]⟩ : ByteArray) y.w
      rw [← ht1] at Y1
      have Y1 := Lib.hid Y1
      have z2 : t1.size ≤ 14 := by rw [ht1]; exact Nat.le_trans (yesT_size _ _) (by decide)
      obtain ⟨t2, ht2⟩ : ∃ t, t = yesT b12 (⟨#[32, 105, 110, 116, 101, 114, 115, 101, 99, 116, 105, 110, 103]⟩ : ByteArray) := ⟨_, rfl⟩
      have Y2 := fun y : Ext w6 => yesS_any b12 (⟨#[32, 105, 110, 116, 101, 114, 115, 101, 99, 116, 105, 110, 103]⟩ : ByteArray) y.w
      rw [← ht2] at Y2
      have Y2 := Lib.hid Y2
      have z3 : t2.size ≤ 14 := by rw [ht2]; exact Nat.le_trans (yesT_size _ _) (by decide)
      obtain ⟨t3, ht3⟩ : ∃ t, t = yesT b13 (⟨#[32, 97, 110, 116, 105, 99, 104, 97, 105, 110]⟩ : ByteArray) := ⟨_, rfl⟩
      have Y3 := fun y : Ext w6 => yesS_any b13 (⟨#[32, 97, 110, 116, 105, 99, 104, 97, 105, 110]⟩ : ByteArray) y.w
      rw [← ht3] at Y3
      have Y3 := Lib.hid Y3
      have z4 : t3.size ≤ 14 := by rw [ht3]; exact Nat.le_trans (yesT_size _ _) (by decide)
      obtain ⟨t4, ht4⟩ : ∃ t, t = yesT b14 (⟨#[32, 100, 111, 119, 110]⟩ : ByteArray) := ⟨_, rfl⟩
      have Y4 := fun y : Ext w6 => yesS_any b14 (⟨#[32, 100, 111, 119, 110]⟩ : ByteArray) y.w
      rw [← ht4] at Y4
      have Y4 := Lib.hid Y4
      have z5 : t4.size ≤ 14 := by rw [ht4]; exact Nat.le_trans (yesT_size _ _) (by decide)
      obtain ⟨t5, ht5⟩ : ∃ t, t = yesT b15 (⟨#[32, 98, 97, 115, 101, 115]⟩ : ByteArray) := ⟨_, rfl⟩
      have Y5 := fun y : Ext w6 => yesS_any b15 (⟨#[32, 98, 97, 115, 101, 115]⟩ : ByteArray) y.w
      rw [← ht5] at Y5
      have Y5 := Lib.hid Y5
      have z6 : t5.size ≤ 14 := by rw [ht5]; exact Nat.le_trans (yesT_size _ _) (by decide)
      have HTS := Lib.hid (And.intro ht0 (And.intro ht1 (And.intro ht2 (And.intro ht3 (And.intro ht4 ht5)))))
      clear hb10 hb11 hb12 hb13 hb14 hb15 ht0 ht1 ht2 ht3 ht4 ht5 hv2 K6 hgl hdb hyb hcb HCO HBF
      have s0 : (Y ++ t0).size ≤ 20614 := by simp only [ByteArray.size_append]; omega
      have s1 : (Y ++ t0 ++ t1).size ≤ 20628 := by simp only [ByteArray.size_append]; omega
      have s2 : (Y ++ t0 ++ t1 ++ t2).size ≤ 20642 := by simp only [ByteArray.size_append]; omega
      have s3 : (Y ++ t0 ++ t1 ++ t2 ++ t3).size ≤ 20656 := by simp only [ByteArray.size_append]; omega
      have s4 : (Y ++ t0 ++ t1 ++ t2 ++ t3 ++ t4).size ≤ 20670 := by simp only [ByteArray.size_append]; omega
      have s5 : (Y ++ t0 ++ t1 ++ t2 ++ t3 ++ t4 ++ t5).size ≤ 20684 := by simp only [ByteArray.size_append]; omega
      have HY := Lib.hid hY
      rw [← hY]
      clear hY
      go_wp2_with fail
      refine wp_region_ext _ (by kernel_rfl) (by kernel_rfl) ?_
      repeat (first | go_big_quiet_skip | (go_big_quiet_want; go_big_quiet_op; first | go_big_quiet_on | (apply Exists.intro; refine ⟨fun _ => ?_, ?_⟩; (first | (go_at_call 83; with_reducible exact ext_call (Q0.out _)) | (go_at_call 84; with_reducible exact ext_call (Q1.out _)) | (go_at_call 85; with_reducible exact ext_call (Q2.out _)) | (go_at_call 86; with_reducible exact ext_call (Q3.out _)) | (go_at_call 87; with_reducible exact ext_call (Q4.out _)) | (go_at_call 88; with_reducible exact ext_call (Q5.out _)) | (go_at_call 82; first | (with_reducible exact ext_same (Y0.out _)) | (with_reducible exact ext_same (Y1.out _)) | (with_reducible exact ext_same (Y2.out _)) | (with_reducible exact ext_same (Y3.out _)) | (with_reducible exact ext_same (Y4.out _)) | (with_reducible exact ext_same (Y5.out _)))); go_big_quiet_on)))
      refine wpQuiet_nil ?_
      rintro w7 ⟨⟨w7, b7⟩, rfl⟩
      try dsimp only
      go_wp2_with fail
      go_ret
      refine ⟨ret_str ?_, B6.after b7 B6.size⟩
      obtain ⟨h0, h1, h2, h3, h4, h5⟩ := HBS.out
      obtain ⟨k0, k1, k2, k3, k4, k5⟩ := HTS.out
      rw [HX.out, ← h0, ← h1, ← h2, ← h3, ← h4, ← h5, k0, k1, k2, k3, k4, k5]
    case first =>
      have a0 := K3.cell 0
      have a1 := K3.cell 1
      have a2 := KB.cell 0
      have a3 := KB.cell 1
      simp only [List.getElem?_toArray, List.getElem?_cons_zero, List.getElem?_cons_succ] at a0 a1 a2 a3
      have q0 : ∀ y : Ext w3, y.w.cell? ⟨w.heap.size, 0, none⟩ = some (.int .i64 g) := fun y => y.cell a0
      have q1 : ∀ y : Ext w3, y.w.cell? ⟨w.heap.size, 1, none⟩ = some (.slice a l.length c) := fun y => y.cell a1
      have q2 : ∀ y : Ext w3, y.w.cell? ⟨w2.heap.size, 0, none⟩ = some (.int .i64 M) := fun y => y.cell a2
      have q3 : ∀ y : Ext w3, y.w.cell? ⟨w2.heap.size, 1, none⟩ = some (.slice pB L.length qB) := fun y => y.cell a3
      clear a0 a1 a2 a3 HCO HBF HQ6 HQ7
      have e0 : (⟨#[102, 97, 109, 105, 108, 121, 32]⟩ : ByteArray).size = 7 := rfl
      have e1 : (⟨#[32, 98, 108, 111, 99, 107, 101, 114, 32]⟩ : ByteArray).size = 9 := rfl
      have e2 : (⟨#[32, 100, 105, 109, 101, 110, 115, 105, 111, 110, 32]⟩ : ByteArray).size = 11 := rfl
      have e3 : (⟨#[32, 103, 114, 111, 119, 116, 104, 32]⟩ : ByteArray).size = 8 := rfl
      have e4 : (⟨#[32, 108, 121, 109, 32]⟩ : ByteArray).size = 5 := rfl
      have e5 : (⟨#[32, 100, 105, 115, 99, 114, 101, 112, 97, 110, 99, 121, 32]⟩ : ByteArray).size = 13 := rfl
      refine wp_region_mix (C := fun w' => ∃ x : Ext w3, w' = x.w) (by kernel_rfl) (by kernel_rfl) (by kernel_rfl) ⟨⟨w3.drew, (Below.refl _ _).drew⟩, rfl⟩ ?_
      have bd : Below w3.heap.size w3 w3.drew := (Below.refl _ _).drew
      repeat (refine wpMix_tame (by rfl) ?_; (first | go_big_quiet_skip | (go_big_quiet_want; go_big_quiet_op; go_big_quiet_on)); refine wpQuiet_nil ?_)
      refine wpMix_call 74 _ _ rfl (enters_of Tryz.func74 (by kernel_rfl) rfl) (by kernel_rfl) ?_; intro KK hKK; go_simp
      refine (HQ1.out _ (hA.keep bd)).mono ?_
      rintro e x0 ⟨rfl, y0⟩
      have y0 := bd.after y0 bd.size
      refine ⟨_, rfl, ?_⟩
      go_simp
      refine hKK _ _ ⟨⟨x0, y0⟩, rfl⟩ ?_
      clear hKK KK
      repeat (refine wpMix_tame (by rfl) ?_; (first | go_big_quiet_skip | (go_big_quiet_want; go_big_quiet_op; go_big_quiet_on)); refine wpQuiet_nil ?_)
      refine wpMix_call 74 _ _ rfl (enters_of Tryz.func74 (by kernel_rfl) rfl) (by kernel_rfl) ?_; intro KK hKK; go_simp
      refine (HQ2.out _ _ (hB.keep y0)).mono ?_
      rintro e x1 ⟨rfl, y1⟩
      have y1 := y0.after y1 y0.size
      refine ⟨_, rfl, ?_⟩
      go_simp
      refine hKK _ _ ⟨⟨x1, y1⟩, rfl⟩ ?_
      clear hKK KK
      repeat (refine wpMix_tame (by rfl) ?_; (first | go_big_quiet_skip | (go_big_quiet_want; go_big_quiet_op; go_big_quiet_on)); refine wpQuiet_nil ?_)
      refine wpMix_call 76 _ _ rfl (enters_of Tryz.func76 (by kernel_rfl) rfl) (by kernel_rfl) ?_; intro KK hKK; go_simp
      refine (HDI.out _ (hA.keep y1)).mono ?_
      rintro e x2 ⟨rfl, y2⟩
      have y2 := y1.after y2 y1.size
      refine ⟨_, rfl, ?_⟩
      go_simp
      refine hKK _ _ ⟨⟨x2, y2⟩, rfl⟩ ?_
      clear hKK KK
      repeat (refine wpMix_tame (by rfl) ?_; (first | go_big_quiet_skip | (go_big_quiet_want; go_big_quiet_op; go_big_quiet_on)); refine wpQuiet_nil ?_)
      refine wpMix_call 75 _ _ rfl (enters_of Tryz.func75 (by kernel_rfl) rfl) (by kernel_rfl) ?_; intro KK hKK; go_simp
      refine (HQ3.out _).mono ?_
      rintro e x3 ⟨rfl, y3⟩
      have y3 := y2.after y3 y2.size
      refine ⟨_, rfl, ?_⟩
      go_simp
      refine hKK _ _ ⟨⟨x3, y3⟩, rfl⟩ ?_
      clear hKK KK
      repeat (refine wpMix_tame (by rfl) ?_; (first | go_big_quiet_skip | (go_big_quiet_want; go_big_quiet_op; go_big_quiet_on)); refine wpQuiet_nil ?_)
      refine wpMix_call 78 _ _ rfl (enters_of Tryz.func78 (by kernel_rfl) rfl) (by kernel_rfl) ?_; intro KK hKK; go_simp
      refine (HGR.out _ (hA.keep y3)).mono ?_
      rintro e x4 ⟨p1, i1, r1, rfl, o1, y4⟩
      have y4 := y3.after y4 y3.size
      refine ⟨_, rfl, ?_⟩
      go_simp
      refine hKK _ _ ⟨⟨x4, y4⟩, rfl⟩ ?_
      clear hKK KK
      repeat (refine wpMix_tame (by rfl) ?_; (first | go_big_quiet_skip | (go_big_quiet_want; go_big_quiet_op; go_big_quiet_on)); refine wpQuiet_nil ?_)
      refine wpMix_call 77 _ _ rfl (enters_of Tryz.func77 (by kernel_rfl) rfl) (by kernel_rfl) ?_; intro KK hKK; go_simp
      refine (HQ4.out _ _ o1).mono ?_
      rintro e x5 ⟨rfl, y5⟩
      have y5 := y4.after y5 y4.size
      refine ⟨_, rfl, ?_⟩
      go_simp
      refine hKK _ _ ⟨⟨x5, y5⟩, rfl⟩ ?_
      clear hKK KK
      repeat (refine wpMix_tame (by rfl) ?_; (first | go_big_quiet_skip | (go_big_quiet_want; go_big_quiet_op; go_big_quiet_on)); refine wpQuiet_nil ?_)
      refine wpMix_call 79 _ _ rfl (enters_of Tryz.func79 (by kernel_rfl) rfl) (by kernel_rfl) ?_; intro KK hKK; go_simp
      refine (HLY.out _ (hA.keep y5)).mono ?_
      rintro e x6 ⟨rfl, y6⟩
      have y6 := y5.after y6 y5.size
      refine ⟨_, rfl, ?_⟩
      go_simp
      refine hKK _ _ ⟨⟨x6, y6⟩, rfl⟩ ?_
      clear hKK KK
      repeat (refine wpMix_tame (by rfl) ?_; (first | go_big_quiet_skip | (go_big_quiet_want; go_big_quiet_op; go_big_quiet_on)); refine wpQuiet_nil ?_)
      refine wpMix_call 75 _ _ rfl (enters_of Tryz.func75 (by kernel_rfl) rfl) (by kernel_rfl) ?_; intro KK hKK; go_simp
      refine (HQ5.out _).mono ?_
      rintro e x7 ⟨rfl, y7⟩
      have y7 := y6.after y7 y6.size
      refine ⟨_, rfl, ?_⟩
      go_simp
      refine hKK _ _ ⟨⟨x7, y7⟩, rfl⟩ ?_
      clear hKK KK
      repeat (refine wpMix_tame (by rfl) ?_; (first | go_big_quiet_skip | (go_big_quiet_want; go_big_quiet_op; go_big_quiet_on)); refine wpQuiet_nil ?_)
      refine wpMix_nil ?_
      go_wp2_with fail
      go_meet
      exact ⟨_, rfl, rfl, y7⟩
end Go.Proofs.YtipejodijbjpcaaGreatDoor
end
