/- The line of two matroids: the first program. -/
import Derived.Test.YtpaoiiiceekkkaaGreatDoorQ36
import Derived.Deep.RegionHeld3
section
namespace Go.Proofs.YtpaoiiiceekkkaaGreatDoor
open Go.RowKit Go.G5

set_option maxHeartbeats 4000000 in
set_option maxRecDepth 100000 in
theorem plLineI_c (w : World) (n : Int) (v : Value) (l : List Int) (hv : Ints w v l) (hl : l.length ≤ 1048576) (m : Int) (u : Value) (k : List Int) (hu : Ints w u k) (hk : k.length ≤ 1048576) (hp : Pow w) :
    Calls Tryz.prog 10 #[.agg #[.int .i64 n, v], .agg #[.int .i64 m, u]] w fun e w' => e = .returned (.string (plLn n l m k)) ∧ Below w.heap.size w w' := by
  have hv0 := hv
  have hu0 := hu
  obtain ⟨a, c, rfl⟩ := hv.shape
  obtain ⟨a', c', rfl⟩ := hu.shape
  have hc1 := fun (W : World) (h1 : Ints W (.slice a l.length c) l) (h2 : Ints W (.slice a' k.length c') k) => largestCommonI_c W n _ l h1 hl m _ k h2 hk
  have hc2 := fun (W : World) (h1 : Ints W (.slice a l.length c) l) (h2 : Ints W (.slice a' k.length c') k) => commonBoundI_c W n _ l h1 hl m _ k h2 hk
  have hc3 := fun (W : World) (h1 : Ints W (.slice a l.length c) l) (h2 : Ints W (.slice a' k.length c') k) => unionI_c W n _ l h1 hl m _ k h2 hk
  have hc4 := fun (W : World) (h1 : Ints W (.slice a l.length c) l) (h2 : Ints W (.slice a' k.length c') k) => cbI_c W n _ l h1 hl m _ k h2 hk
  have B0 : Below w.heap.size w ((w.alloc (.cells #[.int .i64 n, .slice a l.length c] 27)).alloc (.cells #[.int .i64 m, .slice a' k.length c'] 27)) := bl2 _ _ _
  have K1 := (Blk.new w 27 #[.int .i64 n, .slice a l.length c]).alloc (.cells #[.int .i64 m, .slice a' k.length c'] 27)
  have K2 : Blk ((w.alloc (.cells #[.int .i64 n, .slice a l.length c] 27)).alloc (.cells #[.int .i64 m, .slice a' k.length c'] 27)) (w.heap.size + 1) 27 #[.int .i64 m, .slice a' k.length c'] := by
    have := Blk.new (w.alloc (.cells #[.int .i64 n, .slice a l.length c] 27)) 27 #[.int .i64 m, .slice a' k.length c']
    simpa using this
  cases hf : comB n l m k with
  | false =>
    have HX := Lib.hid (plLn_no hf)
    have hc1 := hc1 _ (hv0.below B0 (Nat.le_refl _)) (hu0.below B0 (Nat.le_refl _))
    rw [hf] at hc1
    have HC1 := Lib.hid hc1
    clear hf hc1 hc2 hc3 hc4 K1 K2
    go_enter Tryz.func10, Tryz.ntmps10
    go_wp2_with fail
    refine HC1.out.mono ?_
    rintro e w1 ⟨rfl, b1⟩
    go_wp2
    go_ret
    exact ⟨ret_str HX.out.symm, B0.after b1 B0.size⟩
  | true =>
    have hbd := cbN_bd n l m k
    obtain ⟨TT, hTT⟩ : ∃ T, T = plLn n l m k := ⟨_, rfl⟩
    have hsz : TT.size ≤ 10600 := by rw [hTT, plLn_yes hf]; exact plT_size n l m k
    have hx : joinB spaceB (plL n l m k) = TT := by rw [hTT, plLn_yes hf]; exact pl_is n l m k
    unfold plL plP at hx
    simp only [hf] at hc1 hc2 hc3 hc4
    obtain ⟨S1, hS1⟩ : ∃ S, S = lcS n l m k := ⟨_, rfl⟩
    obtain ⟨S2, hS2⟩ : ∃ S, S = cbS n l m k := ⟨_, rfl⟩
    obtain ⟨S3, hS3⟩ : ∃ S, S = luS n l m k := ⟨_, rfl⟩
    obtain ⟨N1, hN1⟩ : ∃ S, S = cbN n l m k := ⟨_, rfl⟩
    obtain ⟨M, hM⟩ : ∃ S, S = cbaN n l m k := ⟨_, rfl⟩
    obtain ⟨L, hL⟩ : ∃ S, S = cbaL n l m k := ⟨_, rfl⟩
    simp only [← hS1] at hc1
    simp only [← hS2, ← hN1] at hc2
    simp only [← hS3] at hc3
    simp only [← hM, ← hL] at hc4
    rw [← hS1, ← hS2, ← hS3, ← hN1, ← hM, ← hL] at hx
    rw [← hN1] at hbd
    have HC1 := Lib.hid hc1
    have HC2 := Lib.hid hc2
    have HC3 := Lib.hid hc3
    have HC4 := Lib.hid hc4
    have HX := Lib.hid hx
    have HTT := Lib.hid hTT
    clear hc1 hc2 hc3 hc4 hx hTT hf hS1 hS2 hS3 hN1 hM hL
    go_enter Tryz.func10, Tryz.ntmps10
    go_wp2_with fail
    refine (HC1.out _ (hv0.below B0 (Nat.le_refl _)) (hu0.below B0 (Nat.le_refl _))).mono ?_
    rintro e w1 ⟨rfl, b1⟩
    have B1 := B0.after b1 B0.size
    have K1 := K1.keep b1
    have K2 := K2.keep b1
    clear B0 b1
    have G1 := K1.cell
    have G2 := K2.cell
    have z1 := K1.lt
    have z2 := K2.lt
    go_wp2_with fail
    refine (HC2.out _ (hv0.below B1 (Nat.le_refl _)) (hu0.below B1 (Nat.le_refl _))).mono ?_
    rintro e w2 ⟨rfl, b2⟩
    have B2 := B1.after b2 B1.size
    have K1 := K1.keep b2
    have K2 := K2.keep b2
    clear B1 b2 G1 G2 z1 z2
    have G1 := K1.cell
    have G2 := K2.cell
    have z1 := K1.lt
    have z2 := K2.lt
    go_wp2_with fail
    refine (HC3.out _ (hv0.below B2 (Nat.le_refl _)) (hu0.below B2 (Nat.le_refl _))).mono ?_
    rintro e w3 ⟨rfl, b3⟩
    have B3 := B2.after b3 B2.size
    have K1 := K1.keep b3
    have K2 := K2.keep b3
    clear B2 b3 G1 G2 z1 z2
    have G1 := K1.cell
    have G2 := K2.cell
    have z1 := K1.lt
    have z2 := K2.lt
    go_wp2_with fail
    refine (HC4.out _ (hv0.below B3 (Nat.le_refl _)) (hu0.below B3 (Nat.le_refl _))).mono ?_
    rintro e w4 ⟨pB, iB, qB, rfl, oB, b4⟩
    have hiB : iB = L.length := oB.ints.capLe.1
    subst hiB
    have B4 := B3.after b4 B3.size
    have K1 := K1.keep b4
    clear B3 b4 G1 G2 z1 z2 K2
    have KB := Blk.new w4 37 #[.int .i64 M, .slice pB L.length qB]
    have hB := oB.ints.alloc (.cells #[.int .i64 M, .slice pB L.length qB] 37)
    have B4' := B4.alloc B4.size (.cells #[.int .i64 M, .slice pB L.length qB] 37)
    have K1' := K1.alloc (.cells #[.int .i64 M, .slice pB L.length qB] 37)
    have G1 := K1'.cell
    have z1 := K1'.lt
    go_wp2_with fail
    refine calls_named ?_
    intro V hV
    obtain ⟨W5, hW5⟩ : ∃ W, W = w4.alloc (.cells #[.int .i64 M, .slice pB L.length qB] 37) := ⟨_, rfl⟩
    obtain ⟨bo, hbo⟩ : ∃ bo, bo = W5.heap.size := ⟨_, rfl⟩
    obtain ⟨gB, hgB⟩ : ∃ g, g = w4.heap.size := ⟨_, rfl⟩
    have hbo2 : bo = w4.heap.size + 1 := by rw [hbo, hW5]; simp
    rw [← hW5] at hV KB hB B4' K1'
    have L5 : Line bo V [] := by rw [hV, hbo]; exact Line.new _
    have B5 : Below w.heap.size w V := by rw [hV]; exact B4'.alloc B4'.size _
    have C5 : Below bo W5 V := by rw [hV, hbo]; exact bl1 W5 _
    rw [← hgB] at KB
    have zb : w.heap.size < bo := by rw [hbo]; exact K1'.lt
    have zB : gB < bo := by rw [hbo]; exact KB.lt
    have zc : W5.heap.size ≤ bo := by omega
    have K2 := K1'
    simp only [← hbo2]
    simp only [← hgB]
    clear hV hW5 hbo hbo2 hgB G1 z1 K1 K1' B4 B4'
    refine (fmtSetI_any n S1 _ (hp.keep B5)).mono ?_
    rintro e w11 ⟨rfl, b11⟩
    have B11 := B5.after b11 B5.size
    have C11 := C5.after b11 (Nat.le_of_lt L5.lt)
    have L11 := L5.keep b11
    clear B5 C5 L5 b11
    go_wp2_with fail
    have zl12 := L11.lt
    refine (lineAdd_any bo [] [(⟨#[112, 97, 105, 114]⟩ : ByteArray), (⟨#[99, 111, 109, 109, 111, 110]⟩ : ByteArray), setTx n S1] w11.heap.size 3 3 _ (L11.keep (bl1 _ _)) rfl (cells_of _ [(⟨#[112, 97, 105, 114]⟩ : ByteArray), (⟨#[99, 111, 109, 109, 111, 110]⟩ : ByteArray), setTx n S1] _) (by simp only [List.length_cons, List.length_nil]; omega)).mono ?_
    rintro e w12 ⟨rfl, L12, b12⟩
    have B12 := (B11.alloc B11.size _).after b12 (by omega)
    have C12 := (C11.alloc (Nat.le_of_lt zl12) _).after b12 (Nat.le_refl _)
    clear B11 C11 L11
    obtain ⟨X12, hX12⟩ : ∃ X, X = [] ++ [(⟨#[112, 97, 105, 114]⟩ : ByteArray), (⟨#[99, 111, 109, 109, 111, 110]⟩ : ByteArray), setTx n S1] := ⟨_, rfl⟩
    rw [← hX12] at L12
    have hN12 : X12.length ≤ 3 := by rw [hX12, List.length_append]; first | (simp only [List.length_cons, List.length_nil]; omega) | (have := yes_len _ _; omega) | (simp [yes]; omega)
    go_wp2_with fail
    refine (lineNum_any bo X12 (⟨#[98, 111, 117, 110, 100]⟩ : ByteArray) (N1) ⟨by omega, by omega⟩ _ L12 (hp.keep B12) (by omega)).mono ?_
    rintro e w13 ⟨rfl, L13, b13⟩
    have B13 := B12.after b13 (by omega)
    have C13 := C12.after b13 (Nat.le_refl _)
    clear B12 C12 L12
    obtain ⟨X13, hX13⟩ : ∃ X, X = X12 ++ [(⟨#[98, 111, 117, 110, 100]⟩ : ByteArray), itoaB (N1)] := ⟨_, rfl⟩
    rw [← hX13] at L13
    have hN13 : X13.length ≤ 5 := by rw [hX13, List.length_append]; first | (simp only [List.length_cons, List.length_nil]; omega) | (have := yes_len _ _; omega) | (simp [yes]; omega)
    have KBV := blk_under KB C13 zB
    have hBV := (hB.below C13 zc).drewN 1
    have bV : Below w13.heap.size w13 (w13.drewN 1) := (Below.refl w13.heap.size w13).drewN' 1
    have hpV := (hp.keep B13).keep bV
    have LV := L13.keep bV
    have zbV := L13.lt
    have zBV := KBV.lt
    have GB := KBV.cell
    have HF1 := Lib.hid (fun (W : World) (h : Below (w13.drewN 1).heap.size (w13.drewN 1) W) => fmtSetI_any n S2 W (hpV.keep h))
    have HF2 := Lib.hid (fun (W : World) (h : Below (w13.drewN 1).heap.size (w13.drewN 1) W) => fmtSetI_any n S3 W (hpV.keep h))
    have HF3 := Lib.hid (fun (W : World) (h : Below (w13.drewN 1).heap.size (w13.drewN 1) W) => fmtFamI_any M L _ W (hBV.keep h) (hpV.keep h))
    have HAD := Lib.hid (fun (W : World) (h : Below (w13.drewN 1).heap.size (w13.drewN 1) W) => lineAdd_any bo X13 [(⟨#[97, 116]⟩ : ByteArray), setTx n S2, (⟨#[117, 110, 105, 111, 110]⟩ : ByteArray), setTx n S3, (⟨#[98, 97, 115, 101, 115]⟩ : ByteArray), famTx M L] W.heap.size 6 6 _ ((LV.keep h).keep (bl1 W (.cells #[.string (⟨#[97, 116]⟩ : ByteArray), .string (setTx n S2), .string (⟨#[117, 110, 105, 111, 110]⟩ : ByteArray), .string (setTx n S3), .string (⟨#[98, 97, 115, 101, 115]⟩ : ByteArray), .string (famTx M L)] 9))) rfl (cells_of W [(⟨#[97, 116]⟩ : ByteArray), setTx n S2, (⟨#[117, 110, 105, 111, 110]⟩ : ByteArray), setTx n S3, (⟨#[98, 97, 115, 101, 115]⟩ : ByteArray), famTx M L] _) (by simp only [List.length_cons, List.length_nil]; omega))
    obtain ⟨F1, hF1⟩ : ∃ F, F = setTx n S2 := ⟨_, rfl⟩
    obtain ⟨F2, hF2⟩ : ∃ F, F = setTx n S3 := ⟨_, rfl⟩
    obtain ⟨F3, hF3⟩ : ∃ F, F = famTx M L := ⟨_, rfl⟩
    simp only [← hF1] at HF1
    simp only [← hF2] at HF2
    simp only [← hF3] at HF3
    simp only [← hF1, ← hF2, ← hF3] at HAD
    have hx2 := HX.out
    rw [← hF1, ← hF2, ← hF3] at hx2
    have HX := Lib.hid hx2
    clear hx2 hF1 hF2 hF3
    go_wp2_with fail
    go_region_held3 (fun w' => (∀ i, w'.cell? ⟨gB, i, none⟩ = (#[.int .i64 M, .slice pB L.length qB] : Array Value)[i]?)) (go_keep)
      (first
        | (go_at_call_of 58 (Value.int .i64 S2); refine (HF1.out _ (Below.refl _ _)).mono ?_; rintro e wa ⟨rfl, ba⟩; obtain ⟨hca, hfa⟩ := bcellN ba w13.heap.size (by first | omega | (simp; done) | (simp; omega)); have za := ba.size; (try simp at za))
        | (go_at_call_of 58 (Value.int .i64 S3); refine (HF2.out wa ba).mono ?_; rintro e wb ⟨rfl, bb⟩; have bb := ba.after bb ba.size; obtain ⟨hcb, hfb⟩ := bcellN bb w13.heap.size (by first | omega | (simp; done) | (simp; omega)); have zb' := bb.size; (try simp at zb'))
        | (go_at_call 39; refine (HF3.out wb bb).mono ?_; rintro e wd ⟨rfl, bd⟩; have bd := bb.after bd bb.size; have hab := fun o => (((KBV.drewN 1).keep bd).alloc o).cell; obtain ⟨hcd, hfd⟩ := bcellN bd w13.heap.size (by first | omega | (simp; done) | (simp; omega)); have zd := bd.size; (try simp at zd))
        | (go_at_call 57; refine (HAD.out wd bd).mono ?_; rintro e wc ⟨rfl, L6, b6⟩; obtain ⟨hcc, hfc⟩ := bcellN b6 bo (Nat.le_refl _)))
    have Bw := (B13.after bV B13.size).after bd (B13.after bV B13.size).size
    have Cw := (C13.after bV (Nat.le_of_lt zbV)).after bd (Nat.le_of_lt zbV)
    have zl := (LV.keep bd).lt
    have B6 := (Bw.alloc Bw.size _).after b6 (by omega)
    have C6 := (Cw.alloc (Nat.le_of_lt zl) _).after b6 (Nat.le_refl _)
    clear Bw Cw B13 C13 bV bb bd b6 hBV hpV LV L13 KBV GB hca hfa hcb hfb hcd hfd hab hcc hfc HF1 HF2 HF3 HAD ba
    obtain ⟨X6, hX6⟩ : ∃ X, X = X13 ++ [(⟨#[97, 116]⟩ : ByteArray), F1, (⟨#[117, 110, 105, 111, 110]⟩ : ByteArray), F2, (⟨#[98, 97, 115, 101, 115]⟩ : ByteArray), F3] := ⟨_, rfl⟩
    rw [← hX6] at L6
    have hN6 : X6.length ≤ 11 := by rw [hX6, List.length_append]; simp only [List.length_cons, List.length_nil]; omega
    have hT : joinB spaceB X6 = TT := by rw [hX6, hX13, hX12]; exact HX.out
    have hz := hsz
    rw [← hT] at hz
    have HT := Lib.hid hT
    clear hT hX12 hX13 hX6
    obtain ⟨lv, KL, oL⟩ := L6
    have G := KL.cell
    go_wp2_with fail
    clear G
    refine (lineText_any (bo + 1) lv X6 _ oL (by omega) (by omega)).mono ?_
    rintro e wz ⟨rfl, bz⟩
    go_wp2
    go_ret
    exact ⟨ret_str (HT.out.trans HTT.out), B6.after bz B6.size⟩
end Go.Proofs.YtpaoiiiceekkkaaGreatDoor
end
