/- The statement FnPrices: for every input the call returns true and each argument reads as it did. No condition. -/
import Derived.Test.YtbkgconoadicjaaRead
import Derived.Test.YtbkgconoadicjaaLawH
import Derived.Test.YtbkgconoadicjaaPriceL
import Derived.Test.YtbkgconoadicjaaDrawI
import Derived.Test.YtbkgconoadicjaaSmallI
import Derived.Test.YtbkgconoadicjaaSmallS
import Derived.Test.YtbkgconoadicjaaPrice
import Derived.Test.YtbkgconoadicjaaCover
import Derived.Test.YtbkgconoadicjaaMark
namespace Go.Proofs.Ytbkgconoadicjaa
open Go.ChangeShapes Go.WideShapes Go.ChangeAt Go.RowKit Go.G5
set_option maxHeartbeats 8000000 in
set_option maxRecDepth 100000 in
theorem prices_walk (w : World) (v : Value) (l : List Nat) (hv : Byts w v l) :
    Calls Try.prog 12 #[v] w fun e w' => e = .returned (.bool true) ∧ Below w.heap.size w w' := by
  have hv0 := hv
  obtain ⟨av, cv, rfl, _⟩ := hv
  go_enter Try.func12, Try.ntmps12
  go_wp2_with fail
  refine (big_any w _ l hv0).mono ?_
  rintro e w0 ⟨rfl, rfl⟩
  cases hbig : decide ((1048576 : Int) < l.length) with
  | true =>
    go_wp2
    go_ret
    exact ⟨rfl, Below.refl _ _⟩
  | false =>
  clear hbig
  go_wp2_with fail
  refine (drawPrices_any w _ l hv0).mono ?_
  rintro e w1 ⟨n, ad, i, cp, L, rfl, hn, o1, hL, b1⟩
  have y1 := b1.size
  go_wp2_with fail
  refine calls_named ?_
  intro V hV
  have K : Blk V w1.heap.size 29 #[.int .i64 n, .slice ad i cp] := by
    rw [hV]
    first
      | exact Blk.new _ _ _
      | (have := ((Blk.new w1 29 #[.int .i64 0, .slice none 0 0]).set 0 (.int .i64 n)).set 1 (.slice ad i cp); simpa using this)
  have g2 : w1.grownBy V (some w1.heap.size) := by
    rw [hV]
    first
      | exact gr_below _ (bl1 _ _)
      | exact grow_set (grow_set (gr_below _ (bl1 _ _)) 0 _) 1 _
  have hf := (o1.grow g2 (fun q hq e => by have := Option.some.inj hq; have := (o1.lt _ e).2; omega)).ints
  have B := b1.grown g2 b1.size (fun q hq => by have := Option.some.inj hq; omega)
  clear hV g2 o1 b1 y1
  have hL2 : L.length ≤ 1048576 := by omega
  obtain ⟨ai, ci, hsh⟩ := hf.shape
  simp only [Value.slice.injEq] at hsh
  obtain ⟨rfl, rfl, rfl⟩ := hsh
  have PF := price_facts n L
  have hgl64 := greedyL_64 n L
  have HPS := Lib.hid (fun h => price_sums n L h)
  have HPF := Lib.hid PF
  have hsame := PF.same
  clear PF
  refine (greedyI_c V n _ L hf hL2).mono ?_
  rintro e W1 ⟨p0, i0, q0, rfl, oo, hb⟩
  replace K := K.keep hb
  replace hf := hf.below hb (Nat.le_refl _)
  replace B := B.after hb B.size
  have oG := oo.ints
  clear hb
  have G := K.cell
  have Z := K.lt
  go_wp2_with fail
  clear G Z
  refine (greedyS_c W1 n _ L hf hL2).mono ?_
  rintro e W3 ⟨p1, i1, q1, rfl, oo, hb⟩
  replace K := K.keep hb
  replace hf := hf.below hb (Nat.le_refl _)
  replace B := B.after hb B.size
  replace oG := oG.keep hb
  have oH := oo.ints
  clear hb
  have G := K.cell
  have Z := K.lt
  go_wp2_with fail
  clear G Z
  refine (pricesI_c W3 n _ L hf hL2).mono ?_
  rintro e W5 ⟨p2, i2, q2, rfl, oo, hb⟩
  replace K := K.keep hb
  replace hf := hf.below hb (Nat.le_refl _)
  replace B := B.after hb B.size
  replace oG := oG.keep hb
  replace oH := oH.keep hb
  have oP := oo.ints
  clear hb
  have G := K.cell
  have Z := K.lt
  go_wp2_with fail
  clear G Z
  refine (pricesS_c W5 n _ L hf hL2).mono ?_
  rintro e W7 ⟨p3, i3, q3, rfl, oo, hb⟩
  replace K := K.keep hb
  replace hf := hf.below hb (Nat.le_refl _)
  replace B := B.after hb B.size
  replace oG := oG.keep hb
  replace oH := oH.keep hb
  replace oP := oP.keep hb
  have oQ := oo.ints
  clear hb
  have G := K.cell
  have Z := K.lt
  go_wp2_with fail
  clear G Z
  refine (smallestI_c W7 n _ L hf hL2).mono ?_
  rintro e W9 ⟨p4, i4, q4, rfl, oo, hb⟩
  rw [hsame]
  replace K := K.keep hb
  replace hf := hf.below hb (Nat.le_refl _)
  replace B := B.after hb B.size
  replace oG := oG.keep hb
  replace oH := oH.keep hb
  replace oP := oP.keep hb
  replace oQ := oQ.keep hb
  have oL := oo.ints
  clear hb
  have G := K.cell
  have Z := K.lt
  go_wp2_with fail
  clear G Z
  refine (smallestS_c W9 n _ L hf hL2).mono ?_
  rintro e W11 ⟨p5, i5, q5, rfl, oo, hb⟩
  rw [hsame]
  replace K := K.keep hb
  replace hf := hf.below hb (Nat.le_refl _)
  replace B := B.after hb B.size
  replace oG := oG.keep hb
  replace oH := oH.keep hb
  replace oP := oP.keep hb
  replace oQ := oQ.keep hb
  replace oL := oL.keep hb
  have oM := oo.ints
  clear hb
  have G := K.cell
  have Z := K.lt
  go_wp2_with fail
  clear G Z
  refine (largestI_c W11 n _ L hf hL2).mono ?_
  rintro e W13 ⟨rfl, hb⟩
  replace K := K.keep hb
  replace hf := hf.below hb (Nat.le_refl _)
  replace B := B.after hb B.size
  replace oG := oG.keep hb
  replace oH := oH.keep hb
  replace oP := oP.keep hb
  replace oQ := oQ.keep hb
  replace oL := oL.keep hb
  replace oM := oM.keep hb
  clear hb
  obtain ⟨GL, hGL⟩ : ∃ x, x = greedyL n L := ⟨_, rfl⟩
  obtain ⟨PL, hPL⟩ : ∃ x, x = pricesL n L := ⟨_, rfl⟩
  obtain ⟨SL, hSL⟩ : ∃ x, x = smallL n L := ⟨_, rfl⟩
  obtain ⟨N, hN⟩ : ∃ x, x = largestOf n L := ⟨_, rfl⟩
  rw [← hGL] at oG oH hgl64
  rw [← hPL] at oP oQ
  rw [← hSL] at oL oM
  rw [← hN]
  have HLS := Lib.hid (fun W (h : Ints W (.slice ad L.length cp) L) => largestS_c W n _ L h hL2)
  rw [← hN] at HLS
  have HQQ := Lib.hid (And.intro hGL (And.intro hPL (And.intro hSL hN)))
  clear hGL hPL hSL hN
  obtain ⟨a0, c0, hsh⟩ := oG.shape
  simp only [Value.slice.injEq] at hsh
  obtain ⟨rfl, rfl, rfl⟩ := hsh
  obtain ⟨a1, c1, hsh⟩ := oH.shape
  simp only [Value.slice.injEq] at hsh
  obtain ⟨rfl, rfl, rfl⟩ := hsh
  obtain ⟨a2, c2, hsh⟩ := oP.shape
  simp only [Value.slice.injEq] at hsh
  obtain ⟨rfl, rfl, rfl⟩ := hsh
  obtain ⟨a3, c3, hsh⟩ := oQ.shape
  simp only [Value.slice.injEq] at hsh
  obtain ⟨rfl, rfl, rfl⟩ := hsh
  obtain ⟨a4, c4, hsh⟩ := oL.shape
  simp only [Value.slice.injEq] at hsh
  obtain ⟨rfl, rfl, rfl⟩ := hsh
  obtain ⟨a5, c5, hsh⟩ := oM.shape
  simp only [Value.slice.injEq] at hsh
  obtain ⟨rfl, rfl, rfl⟩ := hsh
  cases hg : greedyB n L with
  | false =>
    clear hsame
    have G := K.cell
    have Z := K.lt
    go_wp2_with fail
    clear G Z
    refine (sameInts_true _ _ GL _ oG oH).mono ?_
    rintro e X1 ⟨rfl, hb⟩
    replace K := K.keep hb
    replace hf := hf.below hb (Nat.le_refl _)
    replace B := B.after hb B.size
    replace oG := oG.keep hb
    replace oH := oH.keep hb
    replace oP := oP.keep hb
    replace oQ := oQ.keep hb
    replace oL := oL.keep hb
    replace oM := oM.keep hb
    clear hb
    have G := K.cell
    have Z := K.lt
    go_wp2_with fail
    clear G Z
    refine (sameInts_true _ _ PL _ oP oQ).mono ?_
    rintro e X2 ⟨rfl, hb⟩
    replace K := K.keep hb
    replace hf := hf.below hb (Nat.le_refl _)
    replace B := B.after hb B.size
    replace oG := oG.keep hb
    replace oH := oH.keep hb
    replace oP := oP.keep hb
    replace oQ := oQ.keep hb
    replace oL := oL.keep hb
    replace oM := oM.keep hb
    clear hb
    have G := K.cell
    have Z := K.lt
    go_wp2_with fail
    clear G Z
    refine (sameInts_true _ _ SL _ oL oM).mono ?_
    rintro e X3 ⟨rfl, hb⟩
    replace K := K.keep hb
    replace hf := hf.below hb (Nat.le_refl _)
    replace B := B.after hb B.size
    replace oG := oG.keep hb
    replace oH := oH.keep hb
    replace oP := oP.keep hb
    replace oQ := oQ.keep hb
    replace oL := oL.keep hb
    replace oM := oM.keep hb
    clear hb
    have G := K.cell
    have Z := K.lt
    go_wp2_with fail
    clear G Z
    refine (HLS.out _ hf).mono ?_
    rintro e X4 ⟨rfl, hb⟩
    replace K := K.keep hb
    replace hf := hf.below hb (Nat.le_refl _)
    replace B := B.after hb B.size
    replace oG := oG.keep hb
    replace oH := oH.keep hb
    replace oP := oP.keep hb
    replace oQ := oQ.keep hb
    replace oL := oL.keep hb
    replace oM := oM.keep hb
    clear hb
    have G := K.cell
    have Z := K.lt
    go_wp2_with fail
    clear G Z
    refine (drawCover_any _ _ l (hv0.below B (Nat.le_refl _))).mono ?_
    rintro e Y1 ⟨m, am, im, cm, M, ax, ix, cx, X, rfl, hm, om, hM, ox, hX, bm⟩
    have BY := B.after bm B.size
    go_wp2_with fail
    refine calls_named ?_
    intro V2 hV2
    have K : Blk V2 Y1.heap.size 29 #[.int .i64 m, .slice am im cm] := by
      rw [hV2]
      first
        | exact Blk.new _ _ _
        | (have := ((Blk.new Y1 29 #[.int .i64 0, .slice none 0 0]).set 0 (.int .i64 m)).set 1 (.slice am im cm); simpa using this)
    have g2 : Y1.grownBy V2 (some Y1.heap.size) := by
      rw [hV2]
      first
        | exact gr_below _ (bl1 _ _)
        | exact grow_set (grow_set (gr_below _ (bl1 _ _)) 0 _) 1 _
    have hA := (om.grow g2 (fun q hq e => by have := Option.some.inj hq; have := (om.lt _ e).2; omega)).ints
    have hC := (ox.grow g2 (fun q hq e => by have := Option.some.inj hq; have := (ox.lt _ e).2; omega)).ints
    have B := BY.grown g2 BY.size (fun q hq => by have := Option.some.inj hq; have := BY.size; omega)
    clear hV2 g2 om ox bm BY
    refine (drawHarm_any V2 _ l (hv0.below B (Nat.le_refl _))).mono ?_
    rintro e Y2 ⟨x, rfl, hxr, bx⟩
    replace K := K.keep bx
    replace hA := hA.keep bx
    replace hC := hC.keep bx
    replace B := B.after bx B.size
    clear bx
    obtain ⟨am', cm', hsh⟩ := hA.shape
    simp only [Value.slice.injEq] at hsh
    obtain ⟨rfl, rfl, rfl⟩ := hsh
    obtain ⟨ax', cx', hsh⟩ := hC.shape
    simp only [Value.slice.injEq] at hsh
    obtain ⟨rfl, rfl, rfl⟩ := hsh
    have HCI := Lib.hid (fun (W : World) (h1 : Ints W (.slice am M.length cm) M) (h2 : Ints W (.slice ax X.length cx) X) => isCoverI_c W m _ M h1 (by omega) _ X h2 hX)
    have HCS := Lib.hid (fun (W : World) (h1 : Ints W (.slice am M.length cm) M) (h2 : Ints W (.slice ax X.length cx) X) => isCoverS_c W m _ M h1 (by omega) _ X h2 hX)
    have HHI := Lib.hid (fun (W : World) => harmI_any x W)
    have HHS := Lib.hid (fun (W : World) => harmS_any x W)
    have e0 : ∀ y : Ext Y2, y.w.cell? ⟨Y1.heap.size, 0, none⟩ = some (.int .i64 m) := fun y => y.cell (K.cell 0)
    have e1 : ∀ y : Ext Y2, y.w.cell? ⟨Y1.heap.size, 1, none⟩ = some (.slice am M.length cm) := fun y => y.cell (K.cell 1)
    go_wp2_with fail
    refine wp_region_ext _ (by kernel_rfl) (by kernel_rfl) ?_
    repeat (first | go_big_quiet_skip | (go_big_quiet_want; go_big_quiet_op; first | go_big_quiet_on | (apply Exists.intro; refine ⟨fun _ => ?_, ?_⟩; (first | (go_at_call 64; exact ext_call (HCI.out _ (Ext.ints _ hA) (Ext.ints _ hC))) | (go_at_call 70; exact ext_call (HCS.out _ (Ext.ints _ hA) (Ext.ints _ hC))) | (go_at_call 66; exact ext_same (HHI.out _)) | (go_at_call 71; exact ext_same (HHS.out _))); go_big_quiet_on)))
    refine wpQuiet_nil ?_
    rintro w3 ⟨⟨w3, hb3⟩, rfl⟩
    try dsimp only
    go_wp2
    go_ret
    exact ⟨rfl, B.after hb3 B.size⟩
  | true =>
    have PS := HPS.out hg
    obtain ⟨hGL, hPL, hSL, hN⟩ := HQQ.out
    have hcg := HPF.out.greedy hg
    have hcs := HPF.out.small hg
    have hle := HPF.out.less hg
    have hgf := greedyB_fam hg
    obtain ⟨fn0, fn6, fms, _⟩ := famOk hgf
    obtain ⟨n, rfl⟩ := Int.eq_ofNat_of_zero_le fn0
    have fn6 : n ≤ 6 := by omega
    rw [Int.toNat_natCast] at fms
    obtain ⟨ps1, ps2, ps3, ps4, ps5, ps6, ps7⟩ := PS
    rw [← hGL, ← hSL] at hle
    rw [← hGL, ← hPL] at ps1
    rw [← hPL] at ps2 ps5 ps6 ps7
    rw [← hGL, ← hSL, ← hN] at ps3
    rw [← hN] at ps4
    rw [← hGL] at hcg
    rw [← hSL] at hcs
    rw [Int.toNat_natCast] at ps7
    have hharm : harmOf N = harm N.toNat := by unfold harmOf; rw [inB_true.2 ps4]; rfl
    have hhb := harm_bd N.toNat
    obtain ⟨H, hH⟩ : ∃ H, H = harm N.toNat := ⟨_, rfl⟩
    rw [← hH] at ps3 hharm hhb
    have hHb : 0 ≤ H ∧ H ≤ 360 := by omega
    have hprod0 : 0 ≤ H * (SL.length : Int) := Int.mul_nonneg hHb.1 (by omega)
    have hprod1 : H * (SL.length : Int) ≤ 360 * 64 := Int.mul_le_mul hHb.2 (by omega) (by omega) (by omega)
    obtain ⟨Pr, hPr⟩ : ∃ q, q = H * (SL.length : Int) := ⟨_, rfl⟩
    rw [← hPr] at hprod0 hprod1 ps3
    have hwrap : wrap64 (H * (SL.length : Int)) = Pr := by unfold wrap64; rw [← hPr]; omega
    clear hPr hH
    have HTOT := Lib.hid (fun (W : World) (h : Ints W (.slice p3 PL.length q3) PL) => total_any PL _ W h ps5 ps6 (by omega))
    have HCG := Lib.hid (fun (W : World) (h1 : Ints W (.slice ad L.length cp) L) (h2 : Ints W (.slice p1 GL.length q1) GL) => isCoverI_c W n _ L h1 hL2 _ GL h2 (by omega))
    have HCS2 := Lib.hid (fun (W : World) (h1 : Ints W (.slice ad L.length cp) L) (h2 : Ints W (.slice p5 SL.length q5) SL) => isCoverI_c W n _ L h1 hL2 _ SL h2 (by omega))
    rw [hcg] at HCG
    rw [hcs] at HCS2
    rw [ps1] at HTOT
    have PS7 := Lib.hid ps7
    clear hcg hcs hg hgf hsame fn0 hGL hPL hSL hN ps7
    have G := K.cell
    have Z := K.lt
    go_wp2_with fail
    clear G Z
    refine (sameInts_true _ _ GL _ oG oH).mono ?_
    rintro e X1 ⟨rfl, hb⟩
    replace K := K.keep hb
    replace hf := hf.below hb (Nat.le_refl _)
    replace B := B.after hb B.size
    replace oG := oG.keep hb
    replace oH := oH.keep hb
    replace oP := oP.keep hb
    replace oQ := oQ.keep hb
    replace oL := oL.keep hb
    replace oM := oM.keep hb
    clear hb
    have G := K.cell
    have Z := K.lt
    go_wp2_with fail
    clear G Z
    refine (sameInts_true _ _ PL _ oP oQ).mono ?_
    rintro e X2 ⟨rfl, hb⟩
    replace K := K.keep hb
    replace hf := hf.below hb (Nat.le_refl _)
    replace B := B.after hb B.size
    replace oG := oG.keep hb
    replace oH := oH.keep hb
    replace oP := oP.keep hb
    replace oQ := oQ.keep hb
    replace oL := oL.keep hb
    replace oM := oM.keep hb
    clear hb
    have G := K.cell
    have Z := K.lt
    go_wp2_with fail
    clear G Z
    refine (sameInts_true _ _ SL _ oL oM).mono ?_
    rintro e X3 ⟨rfl, hb⟩
    replace K := K.keep hb
    replace hf := hf.below hb (Nat.le_refl _)
    replace B := B.after hb B.size
    replace oG := oG.keep hb
    replace oH := oH.keep hb
    replace oP := oP.keep hb
    replace oQ := oQ.keep hb
    replace oL := oL.keep hb
    replace oM := oM.keep hb
    clear hb
    have G := K.cell
    have Z := K.lt
    go_wp2_with fail
    clear G Z
    refine (HLS.out _ hf).mono ?_
    rintro e X4 ⟨rfl, hb⟩
    replace K := K.keep hb
    replace hf := hf.below hb (Nat.le_refl _)
    replace B := B.after hb B.size
    replace oG := oG.keep hb
    replace oH := oH.keep hb
    replace oP := oP.keep hb
    replace oQ := oQ.keep hb
    replace oL := oL.keep hb
    replace oM := oM.keep hb
    clear hb
    have G := K.cell
    have Z := K.lt
    go_wp2_with fail
    clear G Z
    refine (HCG.out _ hf oH).mono ?_
    rintro e X5 ⟨rfl, hb⟩
    replace K := K.keep hb
    replace hf := hf.below hb (Nat.le_refl _)
    replace B := B.after hb B.size
    replace oG := oG.keep hb
    replace oH := oH.keep hb
    replace oP := oP.keep hb
    replace oQ := oQ.keep hb
    replace oL := oL.keep hb
    replace oM := oM.keep hb
    clear hb
    have G := K.cell
    have Z := K.lt
    go_wp2_with fail
    clear G Z
    refine (HCS2.out _ hf oM).mono ?_
    rintro e X6 ⟨rfl, hb⟩
    replace K := K.keep hb
    replace hf := hf.below hb (Nat.le_refl _)
    replace B := B.after hb B.size
    replace oG := oG.keep hb
    replace oH := oH.keep hb
    replace oP := oP.keep hb
    replace oQ := oQ.keep hb
    replace oL := oL.keep hb
    replace oM := oM.keep hb
    clear hb
    have hle2 : decide (GL.length < SL.length) = false := decide_eq_false (by omega)
    have hgt : decide (Pr < 60 * (GL.length : Int)) = false := decide_eq_false (by omega)
    have G := K.cell
    have Z := K.lt
    go_wp2_with fail
    refine (HTOT.out _ oQ).mono ?_
    rintro e Xt ⟨rfl, rfl⟩
    go_wp2_with fail
    refine (harmI_any N _).mono ?_
    rintro e Xh ⟨rfl, rfl⟩
    rw [hharm]
    go_wp2_with fail
    clear G Z
    clear HPS HPF HLS HTOT HCG HCS2 hprod0 hprod1 hHb hharm hhb hgt hle2 hle ps3 ps1 hwrap
    go_loopw [17] (fun j wr => ∃ k : Nat, k ≤ L.length ∧ j = .int .i64 k ∧ Below X6.heap.size X6 wr) (fun j _ => L.length - (intOf j).toNat)
    case atStart => exact ⟨0, Nat.zero_le _, rfl, Below.refl _ _⟩
    case round =>
      obtain ⟨k, hk, rfl, bW⟩ := hrel
      obtain ⟨wo, rfl⟩ : ∃ wo : World, wo = wr := ⟨_, rfl⟩
      replace K := K.keep bW
      replace hf := hf.keep bW
      replace oQ := oQ.keep bW
      replace B := B.after bW B.size
      have G := K.cell
      have Z := K.lt
      by_cases hlt : k < L.length
      · have hlt2 : (k : Int) < (L.length : Int) := by omega
        obtain ⟨af, bf, off, cf, hsh, hlen, hix, hc, hbf⟩ := hf.view Try.prog 22 3 Try.underlying22 intElem
        simp only [Value.slice.injEq] at hsh
        obtain ⟨rfl, _, rfl⟩ := hsh
        have ck := hc k hlt
        have ik := fun W => hix W k hlt
        have hs := fms _ (List.getElem_mem hlt)
        have hpay := ps2 _ (List.getElem_mem hlt)
        obtain ⟨s, hse⟩ : ∃ s, s = L[k] := ⟨_, rfl⟩
        rw [← hse] at ck hs hpay
        have HPAY := Lib.hid hpay
        have HEL := Lib.hid (fun (W : World) => elementsOfS_any n fn6 s W hs.1 hs.2)
        have p6 := two_pow n 6 fn6
        have hs64 : s < 64 := by omega
        have hlen6 := elL_pop s hs64
        have hbd := elL_bd s n fn6 (by have : ((2 : Int) ^ n) = ((2 ^ n : Nat) : Int) := by { push_cast; rfl }; omega)
        have HBD := Lib.hid hbd
        have HL6 := Lib.hid hlen6
        have h6 := elL_len6 s
        have hpt := payTo_bd PL (elL s) ps5 ps6
        have HPT := Lib.hid hpt
        obtain ⟨E, hE⟩ : ∃ E, E = elL s := ⟨_, rfl⟩
        rw [← hE] at h6
        have HE := Lib.hid hE
        clear hE
        clear hpay hix hc hbf hse hbd hlen6 hpt
        have bd := (Below.refl wo.heap.size wo).drew
        go_wp2_with fail
        go_region_law
          (go_simp; go_at_call 67; refine (HEL.out _).mono ?_; rintro e w5 ⟨p5', i5', q5', rfl, o5, b5⟩)
        all_goals
          have b5 := bd.after b5 (Nat.le_refl _)
          have b6 : Below X6.heap.size X6 w5 := bW.after b5 bW.size
          rw [← HE.out] at o5
          obtain ⟨pe, qe, hsh⟩ := o5.shape
          simp only [Value.slice.injEq] at hsh
          obtain ⟨rfl, rfl, rfl⟩ := hsh
          have oQ5 := oQ.keep b5
          obtain ⟨aq, bq, offq, cq, hsh, hlenq, hixq, hcq, _⟩ := oQ5.view Try.prog 22 3 Try.underlying22 intElem
          simp only [Value.slice.injEq] at hsh
          obtain ⟨rfl, _, rfl⟩ := hsh
          obtain ⟨ae, be, offe, ce, hsh, hlene, hixe, hce, _⟩ := o5.ints.view Try.prog 22 3 Try.underlying22 intElem
          simp only [Value.slice.injEq] at hsh
          obtain ⟨rfl, _, rfl⟩ := hsh
          have HCQ := Lib.hid hcq
          have HIQ := Lib.hid hixq
          have HCE := Lib.hid hce
          have HIE := Lib.hid hixe
          clear hcq hixq hce hixe ck ik G
          go_wp2_with fail
          go_loop [19, 20] (fun sm j => ∃ t : Nat, t ≤ E.length ∧ j = .int .i64 t ∧ sm = .int .i64 (payTo PL E t)) (fun _ j => E.length - (intOf j).toNat)
          case atStart => exact ⟨0, Nat.zero_le _, rfl, rfl⟩
          case round =>
            obtain ⟨t, ht, rfl, rfl⟩ := hrel
            have hb1 := HPT.out t (by rw [← HE.out]; exact ht)
            rw [← HE.out] at hb1
            by_cases htl : t < E.length
            · have htl2 : (t : Int) < (E.length : Int) := by omega
              have hsucc := payTo_succ PL E t htl
              have cy := HCE.out t htl
              have iy := fun W => HIE.out W t htl
              have hyb := HBD.out E[t] (by rw [← HE.out]; exact List.getElem_mem htl)
              obtain ⟨y, hy⟩ : ∃ y, y = E[t] := ⟨_, rfl⟩
              rw [← hy] at cy hyb hsucc
              obtain ⟨Y, rfl⟩ := Int.eq_ofNat_of_zero_le hyb.1
              have hYl : Y < PL.length := by rw [PS7.out]; omega
              have cz := HCQ.out Y hYl
              have iz := fun W => HIQ.out W Y hYl
              rw [Int.toNat_natCast, getD_at PL Y hYl] at hsucc
              have h5 := ps5 Y
              have h60 := ps6 Y
              rw [getD_at PL Y hYl] at h5 h60
              obtain ⟨z, hz⟩ : ∃ z, z = PL[Y] := ⟨_, rfl⟩
              obtain ⟨S, hS⟩ : ∃ S, S = payTo PL E t := ⟨_, rfl⟩
              rw [← hz] at cz h5 h60 hsucc
              rw [← hS] at hsucc hb1 ⊢
              have HSU := Lib.hid hsucc
              clear hz hS hsucc hy
              go_wp2
              go_round
              case rel => exact ⟨t + 1, by omega, by go_num, by rw [HSU.out]⟩
              case measure => simp [intOf]; omega
            · have htl2 : ¬ (t : Int) < (E.length : Int) := by omega
              have hte : payTo PL E t = wtE PL s.toNat := by
                rw [show t = E.length by omega, HE.out]; exact payTo_all PL s
              have hEl : (E.length : Int) = (pop s.toNat : Int) := by rw [HE.out]; exact HL6.out
              have hh : harmOf (E.length : Int) = harm (pop s.toNat) := by
                unfold harmOf
                rw [inB_true.2 ⟨by omega, by omega⟩, hEl]
                simp
              have hpay := HPAY.out
              rw [hte]
              obtain ⟨S, hS⟩ : ∃ S, S = wtE PL s.toNat := ⟨_, rfl⟩
              obtain ⟨HH, hHH⟩ : ∃ S, S = harm (pop s.toNat) := ⟨_, rfl⟩
              rw [← hHH] at hh hpay
              rw [← hS] at hpay ⊢
              have hgt : ¬ HH < S := by omega
              have HHH := Lib.hid hh
              clear hte hEl hh hpay hS hHH
              go_wp2_with fail
              refine (harmI_any _ _).mono ?_
              rintro e w6 ⟨rfl, rfl⟩
              rw [HHH.out]
              go_wp2
              go_roundw
              case rel =>
                refine ⟨k + 1, hlt, ?_, ?_⟩
                · go_num
                · exact b6
              case measure => simp [intOf]; omega
      · have hlt2 : ¬ (k : Int) < (L.length : Int) := by omega
        clear G Z
        have G := K.cell
        have Z := K.lt
        go_wp2_with fail
        clear G Z
        refine (drawCover_any _ _ l (hv0.below B (Nat.le_refl _))).mono ?_
        rintro e Y1 ⟨m, am, im, cm, M, ax, ix, cx, X, rfl, hm, om, hM, ox, hX, bm⟩
        have BY := B.after bm B.size
        go_wp2_with fail
        refine calls_named ?_
        intro V2 hV2
        have K : Blk V2 Y1.heap.size 29 #[.int .i64 m, .slice am im cm] := by
          rw [hV2]
          first
            | exact Blk.new _ _ _
            | (have := ((Blk.new Y1 29 #[.int .i64 0, .slice none 0 0]).set 0 (.int .i64 m)).set 1 (.slice am im cm); simpa using this)
        have g2 : Y1.grownBy V2 (some Y1.heap.size) := by
          rw [hV2]
          first
            | exact gr_below _ (bl1 _ _)
            | exact grow_set (grow_set (gr_below _ (bl1 _ _)) 0 _) 1 _
        have hA := (om.grow g2 (fun q hq e => by have := Option.some.inj hq; have := (om.lt _ e).2; omega)).ints
        have hC := (ox.grow g2 (fun q hq e => by have := Option.some.inj hq; have := (ox.lt _ e).2; omega)).ints
        have B := BY.grown g2 BY.size (fun q hq => by have := Option.some.inj hq; have := BY.size; omega)
        clear hV2 g2 om ox bm BY
        refine (drawHarm_any V2 _ l (hv0.below B (Nat.le_refl _))).mono ?_
        rintro e Y2 ⟨x, rfl, hxr, bx⟩
        replace K := K.keep bx
        replace hA := hA.keep bx
        replace hC := hC.keep bx
        replace B := B.after bx B.size
        clear bx
        obtain ⟨am', cm', hsh⟩ := hA.shape
        simp only [Value.slice.injEq] at hsh
        obtain ⟨rfl, rfl, rfl⟩ := hsh
        obtain ⟨ax', cx', hsh⟩ := hC.shape
        simp only [Value.slice.injEq] at hsh
        obtain ⟨rfl, rfl, rfl⟩ := hsh
        have HCI := Lib.hid (fun (W : World) (h1 : Ints W (.slice am M.length cm) M) (h2 : Ints W (.slice ax X.length cx) X) => isCoverI_c W m _ M h1 (by omega) _ X h2 hX)
        have HCS := Lib.hid (fun (W : World) (h1 : Ints W (.slice am M.length cm) M) (h2 : Ints W (.slice ax X.length cx) X) => isCoverS_c W m _ M h1 (by omega) _ X h2 hX)
        have HHI := Lib.hid (fun (W : World) => harmI_any x W)
        have HHS := Lib.hid (fun (W : World) => harmS_any x W)
        have e0 : ∀ y : Ext Y2, y.w.cell? ⟨Y1.heap.size, 0, none⟩ = some (.int .i64 m) := fun y => y.cell (K.cell 0)
        have e1 : ∀ y : Ext Y2, y.w.cell? ⟨Y1.heap.size, 1, none⟩ = some (.slice am M.length cm) := fun y => y.cell (K.cell 1)
        go_wp2_with fail
        refine wp_region_ext _ (by kernel_rfl) (by kernel_rfl) ?_
        repeat (first | go_big_quiet_skip | (go_big_quiet_want; go_big_quiet_op; first | go_big_quiet_on | (apply Exists.intro; refine ⟨fun _ => ?_, ?_⟩; (first | (go_at_call 64; exact ext_call (HCI.out _ (Ext.ints _ hA) (Ext.ints _ hC))) | (go_at_call 70; exact ext_call (HCS.out _ (Ext.ints _ hA) (Ext.ints _ hC))) | (go_at_call 66; exact ext_same (HHI.out _)) | (go_at_call 71; exact ext_same (HHS.out _))); go_big_quiet_on)))
        refine wpQuiet_nil ?_
        rintro w3 ⟨⟨w3, hb3⟩, rfl⟩
        try dsimp only
        go_wp2
        go_ret
        exact ⟨rfl, B.after hb3 B.size⟩

theorem fnPrices_params : Try.f12.params = #[70] := by kernel_rfl
set_option maxRecDepth 100000 in
theorem fnPrices_lifted (os : Os) (started : os.Started) (H : Type) (enc : TypeId × Value → H) :
    ReturnsInHanded {} Try.checked os 12 .any (Rows.fnPricesSpec.pre6 enc Try.prog Try.f12 Rows.fnPricesRow.domain false) (Rows.fnPricesSpec.post enc Try.prog Try.f12 false true false false) := by
  refine law_lift os started H enc Try.func12 (by kernel_rfl) rfl (by kernel_rfl) (by kernel_rfl) ?_
    (ChangeSpec.witness6 (enc := enc) (C := Try.checked) false ⟨#[], #[.slice none 0 0], []⟩ 8 (by kernel_rfl) (by kernel_rfl) (by kernel_rfl) (by kernel_rfl)) ?_
  · intro ds hds
    rw [fnPrices_params] at hds
    match ds, hds with
    | [d0], _ => rfl
  · intro W base args ds p hval hA
    rw [fnPrices_params] at hA hval
    obtain ⟨v0, vs0, d0, ds0, p0, q0, hargs, rfl, rfl, h0, r0⟩ := trodAll_cons hA
    obtain ⟨rfl, rfl, rfl⟩ := trodAll_nil r0
    obtain rfl : args = #[v0] := by cases args; simp_all
    obtain ⟨l0, w0⟩ := rd_bytes (hval 0 70 v0 rfl rfl) h0
    exact prices_walk W _ l0 w0

theorem fnPrices_holds : Rows.FnPricesSaid :=
  OpenClaim.holds_of_wide 12 Try.f12 rfl rfl rfl rfl rfl rfl rfl ⟨rfl, rfl, rfl, rfl, rfl⟩ rfl rfl rfl rfl rfl (by kernel_rfl) Try.func12 (by kernel_rfl)
    (of_decide_eq_true (by kernel_rfl)) (by unfold Func.isWrapper; first | (rw [if_pos (by decide +kernel)]; kernel_rfl) | (rw [if_neg (by decide +kernel)]; exact ⟨rfl, rfl⟩))
    (fun os started H enc _ => fnPrices_lifted os started H enc)
end Go.Proofs.Ytbkgconoadicjaa
