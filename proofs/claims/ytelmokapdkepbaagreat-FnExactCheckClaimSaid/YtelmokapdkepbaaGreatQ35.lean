/- The check of claims: minima and cuts: the second program. -/
import Derived.Test.YtelmokapdkepbaaGreatQ34
section
namespace Go.Proofs.YtelmokapdkepbaaGreat
open Go.RowKit Go.G5

set_option maxHeartbeats 4000000 in
set_option maxRecDepth 100000 in
theorem chkS1_any (w : World) (n1 : Int) (v1 : Value) (l1 : List Int) (h1 : Ints w v1 l1) (n2 : Int) (v2 : Value) (l2 : List Int) (h2 : Ints w v2 l2) (n3 : Int) (v3 : Value) (l3 : List Int) (h3 : Ints w v3 l3) (q st : Int) (v4 : Value) (l4 : List Int) (h4 : Ints w v4 l4) :
    Calls Tryz.prog 5 #[clV 1 n1 v1 n2 v2 n3 v3 q st v4] w fun e w' => e = .returned (.bool (chkMin n1 l1 q st l4)) ∧ Below w.heap.size w w' := by
  obtain ⟨a1, c1, rfl⟩ := h1.shape
  obtain ⟨a2, c2, rfl⟩ := h2.shape
  obtain ⟨a3, c3, rfl⟩ := h3.shape
  obtain ⟨a4, c4, rfl⟩ := h4.shape
  have K0 := Blk.new w 34 (clC 1 n1 (.slice a1 l1.length c1) n2 (.slice a2 l2.length c2) n3 (.slice a3 l3.length c3) q st (.slice a4 l4.length c4))
  obtain ⟨V0, hV0⟩ : ∃ V, V = (w.alloc (.cells (clC 1 n1 (.slice a1 l1.length c1) n2 (.slice a2 l2.length c2) n3 (.slice a3 l3.length c3) q st (.slice a4 l4.length c4)) 34)).alloc (.cells #[.int .i64 n1, .slice a1 l1.length c1] 31) := ⟨_, rfl⟩
  have B0 : Below w.heap.size w V0 := by rw [hV0]; exact bl2 _ _ _
  have K0' : Blk V0 w.heap.size 34 (clC 1 n1 (.slice a1 l1.length c1) n2 (.slice a2 l2.length c2) n3 (.slice a3 l3.length c3) q st (.slice a4 l4.length c4)) := by rw [hV0]; exact K0.alloc _
  have KF : Blk V0 (w.heap.size + 1) 31 #[.int .i64 n1, .slice a1 l1.length c1] := by
    rw [hV0]
    have := Blk.new (w.alloc (.cells (clC 1 n1 (.slice a1 l1.length c1) n2 (.slice a2 l2.length c2) n3 (.slice a3 l3.length c3) q st (.slice a4 l4.length c4)) 34)) 31 #[.int .i64 n1, .slice a1 l1.length c1]
    simpa using this
  have HV0 := Lib.hid hV0
  have g1 := h1.below B0 (Nat.le_refl _)
  have g2 := h2.below B0 (Nat.le_refl _)
  have g3 := h3.below B0 (Nat.le_refl _)
  have g4 := h4.below B0 (Nat.le_refl _)
  clear hV0 K0
  have G0 := K0'.cell
  have F0 := KF.cell
  have e7 : ∀ z : Ext V0, z.w.cell? ⟨w.heap.size, 7, none⟩ = some (.int .i64 q) := fun z => z.cell (G0 7)
  have e8 : ∀ z : Ext V0, z.w.cell? ⟨w.heap.size, 8, none⟩ = some (.int .i64 st) := fun z => z.cell (G0 8)
  have e9 : ∀ z : Ext V0, z.w.cell? ⟨w.heap.size, 9, none⟩ = some (.slice a4 l4.length c4) := fun z => z.cell (G0 9)
  have f0 : ∀ z : Ext V0, z.w.cell? ⟨w.heap.size + 1, 0, none⟩ = some (.int .i64 n1) := fun z => z.cell (F0 0)
  have f1 : ∀ z : Ext V0, z.w.cell? ⟨w.heap.size + 1, 1, none⟩ = some (.slice a1 l1.length c1) := fun z => z.cell (F0 1)
  clear G0 F0
  have QD := fun z : Ext V0 => dualVS_any z.w n1 _ l1 (z.ints g1) _ l4 (z.ints g4)
  have Q5 := fun z : Ext V0 => l5InS_any z.w n1 _ l1 (z.ints g1) st
  cases hd : dualV n1 l1 l4 with
  | false =>
    have hx : chkMin n1 l1 q st l4 = false := by unfold chkMin; rw [hd]; rfl
    simp only [hd] at QD
    have QD := Lib.hid QD
    have HX := Lib.hid hx
    clear hx hd Q5
    go_enter Tryz.func5, Tryz.ntmps5
    go_wp2_with fail
    rw [HV0.out.symm]
    refine wp_region_ext _ (by kernel_rfl) (by kernel_rfl) ?_
    repeat (first | go_big_quiet_skip | (go_big_quiet_want; go_big_quiet_op; first | go_big_quiet_on | (apply Exists.intro; refine ⟨fun _ => ?_, ?_⟩; (go_at_call 12; exact ext_call (QD.out _)); go_big_quiet_on)))
    refine wpQuiet_nil ?_
    rintro w3 ⟨⟨w3, hb3⟩, rfl⟩
    try dsimp only
    go_wp2
    go_ret
    exact ⟨ret_bool HX.out.symm, B0.after hb3 B0.size⟩
  | true =>
    simp only [hd] at QD
    obtain ⟨hf, hlg⟩ := bel_parts (dual_bel hd)
    obtain ⟨N, rfl, hN, hll, hq2, hbd⟩ := fun_nat hf
    obtain ⟨hxn, hxb⟩ := longOk hlg
    simp only [hf, Int.toNat_natCast, Bool.true_and] at Q5
    have hdat : isSet N st = true → ∃ (b p : Nat) (y : Int), l1.getD st.toNat 0 = y ∧ V0.cell? ⟨b, p, none⟩ = some (.int .i64 y) ∧ ∀ W, (Instr.indexAt 22 (.slice a1 l1.length c1) (.int .i64 st)).run Tryz.prog W = .ok (.pointer (some ⟨b, p, none⟩)) W := fun hs => by
      obtain ⟨s, rfl, hs2⟩ := set_nat hs
      have hsl : s < l1.length := by omega
      obtain ⟨_, b, off, _, hve, _, hix, hc, hb⟩ := g1.view Tryz.prog 22 3 Tryz.underlying22 intElem
      injection hve with x1 _ x3
      subst x1 x3
      exact ⟨b, off + s, l1[s], by rw [Int.toNat_natCast, getD_at l1 s hsl], hc s hsl, fun W => hix W s hsl⟩
    have hx : chkMin (N : Int) l1 q st l4 = (isSet N st && (l1.getD st.toNat 0 == q && wt l4 (2 ^ N - 1) == q)) := by unfold chkMin; rw [hd, Int.toNat_natCast]; rfl
    have hp := two_pow N 5 hN
    have hp1 := hp.1
    have hp2 := hp.2
    simp at hp1
    have QF := Lib.hid (fun z : Ext V0 => l2Full_any N z.w (by omega))
    have hwt := fun z : Ext V0 => l3Weigh_any l4 (.slice a4 l4.length c4) (2 ^ N - 1) z.w (z.ints g4) (by omega) (by omega) (fun k hk => by have := hxb k hk; omega) (by omega)
    obtain ⟨Wt, hWt⟩ : ∃ P, P = wt l4 (2 ^ N - 1) := ⟨_, rfl⟩
    rw [← hWt] at hx
    simp only [← hWt] at hwt
    have QW := Lib.hid hwt
    have QD := Lib.hid QD
    have HDAT := Lib.hid hdat
    clear hwt hWt hp hd hf hlg hll hq2 hbd hxn hxb hdat
    cases hs : isSet N st with
    | false =>
      simp only [hs] at Q5
      rw [hs] at hx
      have HX := Lib.hid hx
      have Q5 := Lib.hid Q5
      clear hx hs
      go_enter Tryz.func5, Tryz.ntmps5
      go_wp2_with fail
      rw [HV0.out.symm]
      refine wp_region_ext _ (by kernel_rfl) (by kernel_rfl) ?_
      repeat (first | go_big_quiet_skip | (go_big_quiet_want; go_big_quiet_op; first | go_big_quiet_on | (apply Exists.intro; refine ⟨fun _ => ?_, ?_⟩; (first | (go_at_call 12; exact ext_call (QD.out _)) | (go_at_call 13; exact ext_call (Q5.out _)) | (go_at_call 15; exact ext_same (QF.out _)) | (go_at_call 14; exact ext_same (QW.out _))); go_big_quiet_on)))
      refine wpQuiet_nil ?_
      rintro w3 ⟨⟨w3, hb3⟩, rfl⟩
      try dsimp only
      go_wp2
      go_ret
      exact ⟨ret_bool HX.out.symm, B0.after hb3 B0.size⟩
    | true =>
      simp only [hs] at Q5
      obtain ⟨b, p, y, hy, hcs, hixs⟩ := HDAT.out hs
      rw [hs, Bool.true_and, hy] at hx
      have ey : ∀ z : Ext V0, z.w.cell? ⟨b, p, none⟩ = some (.int .i64 y) := fun z => z.cell hcs
      have Q5 := Lib.hid Q5
      clear hs hy hcs
      cases hyq : y == q with
      | false =>
        rw [hyq] at hx
        have HX := Lib.hid hx
        clear hx
        go_enter Tryz.func5, Tryz.ntmps5
        go_wp2_with fail
        rw [HV0.out.symm]
        refine wp_region_ext _ (by kernel_rfl) (by kernel_rfl) ?_
        repeat (first | go_big_quiet_skip | (go_big_quiet_want; go_big_quiet_op; first | go_big_quiet_on | (apply Exists.intro; refine ⟨fun _ => ?_, ?_⟩; (first | (go_at_call 12; exact ext_call (QD.out _)) | (go_at_call 13; exact ext_call (Q5.out _)) | (go_at_call 15; exact ext_same (QF.out _)) | (go_at_call 14; exact ext_same (QW.out _))); go_big_quiet_on)))
        refine wpQuiet_nil ?_
        rintro w3 ⟨⟨w3, hb3⟩, rfl⟩
        try dsimp only
        go_wp2
        go_ret
        exact ⟨ret_bool HX.out.symm, B0.after hb3 B0.size⟩
      | true =>
        rw [hyq] at hx
        have HX := Lib.hid hx
        clear hx
        go_enter Tryz.func5, Tryz.ntmps5
        go_wp2_with fail
        rw [HV0.out.symm]
        refine wp_region_ext _ (by kernel_rfl) (by kernel_rfl) ?_
        repeat (first | go_big_quiet_skip | (go_big_quiet_want; go_big_quiet_op; first | go_big_quiet_on | (apply Exists.intro; refine ⟨fun _ => ?_, ?_⟩; (first | (go_at_call 12; exact ext_call (QD.out _)) | (go_at_call 13; exact ext_call (Q5.out _)) | (go_at_call 15; exact ext_same (QF.out _)) | (go_at_call 14; exact ext_same (QW.out _))); go_big_quiet_on)))
        refine wpQuiet_nil ?_
        rintro w3 ⟨⟨w3, hb3⟩, rfl⟩
        try dsimp only
        go_wp2
        go_ret
        exact ⟨ret_bool HX.out.symm, B0.after hb3 B0.size⟩

set_option maxHeartbeats 4000000 in
set_option maxRecDepth 100000 in
theorem chkS5_any (w : World) (n1 : Int) (v1 : Value) (l1 : List Int) (h1 : Ints w v1 l1) (n2 : Int) (v2 : Value) (l2 : List Int) (h2 : Ints w v2 l2) (n3 : Int) (v3 : Value) (l3 : List Int) (h3 : Ints w v3 l3) (q st : Int) (v4 : Value) (l4 : List Int) (h4 : Ints w v4 l4) (hl : l1.length ≤ 1048576) :
    Calls Tryz.prog 5 #[clV 5 n1 v1 n2 v2 n3 v3 q st v4] w fun e w' => e = .returned (.bool (chkCut n1 l1 q st)) ∧ Below w.heap.size w w' := by
  obtain ⟨a1, c1, rfl⟩ := h1.shape
  obtain ⟨a2, c2, rfl⟩ := h2.shape
  obtain ⟨a3, c3, rfl⟩ := h3.shape
  obtain ⟨a4, c4, rfl⟩ := h4.shape
  have K0 := Blk.new w 34 (clC 5 n1 (.slice a1 l1.length c1) n2 (.slice a2 l2.length c2) n3 (.slice a3 l3.length c3) q st (.slice a4 l4.length c4))
  obtain ⟨V0, hV0⟩ : ∃ V, V = (w.alloc (.cells (clC 5 n1 (.slice a1 l1.length c1) n2 (.slice a2 l2.length c2) n3 (.slice a3 l3.length c3) q st (.slice a4 l4.length c4)) 34)).alloc (.cells #[.int .i64 n1, .slice a1 l1.length c1] 31) := ⟨_, rfl⟩
  have B0 : Below w.heap.size w V0 := by rw [hV0]; exact bl2 _ _ _
  have K0' : Blk V0 w.heap.size 34 (clC 5 n1 (.slice a1 l1.length c1) n2 (.slice a2 l2.length c2) n3 (.slice a3 l3.length c3) q st (.slice a4 l4.length c4)) := by rw [hV0]; exact K0.alloc _
  have KF : Blk V0 (w.heap.size + 1) 31 #[.int .i64 n1, .slice a1 l1.length c1] := by
    rw [hV0]
    have := Blk.new (w.alloc (.cells (clC 5 n1 (.slice a1 l1.length c1) n2 (.slice a2 l2.length c2) n3 (.slice a3 l3.length c3) q st (.slice a4 l4.length c4)) 34)) 31 #[.int .i64 n1, .slice a1 l1.length c1]
    simpa using this
  have HV0 := Lib.hid hV0
  have g1 := h1.below B0 (Nat.le_refl _)
  have g2 := h2.below B0 (Nat.le_refl _)
  have g3 := h3.below B0 (Nat.le_refl _)
  have g4 := h4.below B0 (Nat.le_refl _)
  clear hV0 K0
  have hmc : ∀ V, V = V0 → Calls Tryz.prog 26 #[.agg #[.int .i64 n1, .slice a1 l1.length c1]] V fun e w' => e = .returned (.tuple #[.int .i64 (cutN n1 l1), .int .i64 (cutS n1 l1), .bool (fitB n1 l1)]) ∧ Below V.heap.size V w' := fun V h => by rw [h]; exact minCutS_c V0 n1 _ l1 g1 hl
  obtain ⟨CN, hCN⟩ : ∃ c, c = cutN n1 l1 := ⟨_, rfl⟩
  obtain ⟨CS, hCS⟩ : ∃ c, c = cutS n1 l1 := ⟨_, rfl⟩
  simp only [← hCN, ← hCS] at hmc
  cases hf : fitB n1 l1 with
  | false =>
    have hx : chkCut n1 l1 q st = false := by unfold chkCut; rw [hf]; rfl
    simp only [hf] at hmc
    have HX := Lib.hid hx
    have HMC := Lib.hid hmc
    clear hx hmc hf hCN hCS
    go_enter Tryz.func5, Tryz.ntmps5
    go_wp2_with fail
    refine (HMC.out _ HV0.out.symm).mono ?_
    rintro e w1 ⟨rfl, b1⟩
    rw [HV0.out.symm] at b1
    have B1 := B0.after b1 B0.size
    have G := (K0'.keep b1).cell
    have F := (KF.keep b1).cell
    go_wp2_with fail
    have e7 : ∀ z : Ext w1, z.w.cell? ⟨w.heap.size, 7, none⟩ = some (.int .i64 q) := fun z => z.cell (G 7)
    have e8 : ∀ z : Ext w1, z.w.cell? ⟨w.heap.size, 8, none⟩ = some (.int .i64 st) := fun z => z.cell (G 8)
    have f0 : ∀ z : Ext w1, z.w.cell? ⟨w.heap.size + 1, 0, none⟩ = some (.int .i64 n1) := fun z => z.cell (F 0)
    have f1 : ∀ z : Ext w1, z.w.cell? ⟨w.heap.size + 1, 1, none⟩ = some (.slice a1 l1.length c1) := fun z => z.cell (F 1)
    clear G F
    refine wp_region_ext _ (by kernel_rfl) (by kernel_rfl) ?_
    repeat (first | go_big_quiet_skip | (go_big_quiet_want; go_big_quiet_op; first | go_big_quiet_on | (apply Exists.intro; refine ⟨fun _ => ?_, ?_⟩; (fail); go_big_quiet_on)))
    refine wpQuiet_nil ?_
    rintro w3 ⟨⟨w3, hb3⟩, rfl⟩
    try dsimp only
    go_wp2
    go_ret
    exact ⟨ret_bool HX.out.symm, B1.after hb3 B1.size⟩
  | true =>
    simp only [hf] at hmc
    have hx : chkCut n1 l1 q st = ((CN == q) && ((decide (0 < st) && decide (st < 2 ^ n1.toNat - 1)) && l1.getD st.toNat 0 == q)) := by unfold chkCut; rw [hf, hCN]; rfl
    have hfn : isFunB n1 l1 = true := by
      have h := hf
      unfold fitB subB at h
      simp only [Bool.and_eq_true] at h
      exact h.1.1.1
    obtain ⟨N, rfl, hN, hll, hq2, hbd⟩ := fun_nat hfn
    rw [Int.toNat_natCast] at hx
    have hp := two_pow N 5 hN
    have hp1 := hp.1
    have hp2 := hp.2
    simp at hp1
    have hwf : IntKind.i64.wrap (2 ^ N - 1 - 1) = 2 ^ N - 1 - 1 := by rw [IntKind.wrap_i64]; omega
    have hin : inB st 1 (2 ^ N - 1 - 1) = (decide (0 < st) && decide (st < 2 ^ N - 1)) := by
      unfold inB
      rw [Bool.eq_iff_iff, Bool.and_eq_true, Bool.and_eq_true, decide_eq_true_eq, decide_eq_true_eq, decide_eq_true_eq, decide_eq_true_eq]
      omega
    have hli := fun W => l1In_any st 1 (2 ^ N - 1 - 1) W
    simp only [hin] at hli
    have hdat : (0 < st ∧ st < 2 ^ N - 1) → ∃ (b p : Nat) (y : Int), l1.getD st.toNat 0 = y ∧ w.cell? ⟨b, p, none⟩ = some (.int .i64 y) ∧ ∀ W, (Instr.indexAt 22 (.slice a1 l1.length c1) (.int .i64 st)).run Tryz.prog W = .ok (.pointer (some ⟨b, p, none⟩)) W := by
      rintro ⟨u1, u2⟩
      obtain ⟨s, rfl⟩ := Int.eq_ofNat_of_zero_le (show 0 ≤ st by omega)
      have e : ((2 : Int) ^ N) = ((2 ^ N : Nat) : Int) := by simp
      have hsl : s < l1.length := by omega
      obtain ⟨_, b, off, _, hve, _, hix, hc, hb⟩ := h1.view Tryz.prog 22 3 Tryz.underlying22 intElem
      injection hve with x1 _ x3
      subst x1 x3
      exact ⟨b, off + s, l1[s], by rw [Int.toNat_natCast, getD_at l1 s hsl], hc s hsl, fun W => hix W s hsl⟩
    have HDAT := Lib.hid hdat
    have HMC := Lib.hid hmc
    have QFF := Lib.hid (fun W => l2Full_any N W (by omega))
    obtain ⟨bI, hbI⟩ : ∃ b, b = (decide (0 < st) && decide (st < 2 ^ N - 1)) := ⟨_, rfl⟩
    simp only [← hbI] at hli
    rw [← hbI] at hx
    have HLI := Lib.hid hli
    have HBI := Lib.hid hbI
    clear hmc hf hCN hCS hfn hll hbd hp hdat hq2 hin hli hbI
    cases hq : CN == q with
    | false =>
      rw [hq] at hx
      have HX := Lib.hid hx
      clear hx
      go_enter Tryz.func5, Tryz.ntmps5
      go_wp2_with fail
      refine (HMC.out _ HV0.out.symm).mono ?_
      rintro e w1 ⟨rfl, b1⟩
      rw [HV0.out.symm] at b1
      have B1 := B0.after b1 B0.size
      have G := (K0'.keep b1).cell
      have F := (KF.keep b1).cell
      go_wp2_with fail
      have e7 : ∀ z : Ext w1, z.w.cell? ⟨w.heap.size, 7, none⟩ = some (.int .i64 q) := fun z => z.cell (G 7)
      have e8 : ∀ z : Ext w1, z.w.cell? ⟨w.heap.size, 8, none⟩ = some (.int .i64 st) := fun z => z.cell (G 8)
      have f0 : ∀ z : Ext w1, z.w.cell? ⟨w.heap.size + 1, 0, none⟩ = some (.int .i64 (N : Int)) := fun z => z.cell (F 0)
      have f1 : ∀ z : Ext w1, z.w.cell? ⟨w.heap.size + 1, 1, none⟩ = some (.slice a1 l1.length c1) := fun z => z.cell (F 1)
      clear G F
      have QF := Lib.hid (fun z : Ext w1 => QFF.out z.w)
      have QI := Lib.hid (fun z : Ext w1 => HLI.out z.w)
      refine wp_region_ext _ (by kernel_rfl) (by kernel_rfl) ?_
      repeat (first | go_big_quiet_skip | (go_big_quiet_want; go_big_quiet_op; first | go_big_quiet_on | (apply Exists.intro; refine ⟨fun _ => ?_, ?_⟩; (first | (go_at_call 15; exact ext_same (QF.out _)) | (go_at_call 17; exact ext_same (QI.out _))); go_big_quiet_on)))
      refine wpQuiet_nil ?_
      rintro w3 ⟨⟨w3, hb3⟩, rfl⟩
      try dsimp only
      go_wp2
      go_ret
      exact ⟨ret_bool HX.out.symm, B1.after hb3 B1.size⟩
    | true =>
      rw [hq, Bool.true_and] at hx
      have hqc : CN = q := by simpa using hq
      cases bI with
      | false =>
        have HX := Lib.hid hx
        clear hx hqc
        go_enter Tryz.func5, Tryz.ntmps5
        go_wp2_with fail
        refine (HMC.out _ HV0.out.symm).mono ?_
        rintro e w1 ⟨rfl, b1⟩
        rw [HV0.out.symm] at b1
        have B1 := B0.after b1 B0.size
        have G := (K0'.keep b1).cell
        have F := (KF.keep b1).cell
        go_wp2_with fail
        have e7 : ∀ z : Ext w1, z.w.cell? ⟨w.heap.size, 7, none⟩ = some (.int .i64 q) := fun z => z.cell (G 7)
        have e8 : ∀ z : Ext w1, z.w.cell? ⟨w.heap.size, 8, none⟩ = some (.int .i64 st) := fun z => z.cell (G 8)
        have f0 : ∀ z : Ext w1, z.w.cell? ⟨w.heap.size + 1, 0, none⟩ = some (.int .i64 (N : Int)) := fun z => z.cell (F 0)
        have f1 : ∀ z : Ext w1, z.w.cell? ⟨w.heap.size + 1, 1, none⟩ = some (.slice a1 l1.length c1) := fun z => z.cell (F 1)
        clear G F
        have QF := Lib.hid (fun z : Ext w1 => QFF.out z.w)
        have QI := Lib.hid (fun z : Ext w1 => HLI.out z.w)
        refine wp_region_ext _ (by kernel_rfl) (by kernel_rfl) ?_
        repeat (first | go_big_quiet_skip | (go_big_quiet_want; go_big_quiet_op; first | go_big_quiet_on | (apply Exists.intro; refine ⟨fun _ => ?_, ?_⟩; (first | (go_at_call 15; exact ext_same (QF.out _)) | (go_at_call 17; exact ext_same (QI.out _))); go_big_quiet_on)))
        refine wpQuiet_nil ?_
        rintro w3 ⟨⟨w3, hb3⟩, rfl⟩
        try dsimp only
        go_wp2
        go_ret
        exact ⟨ret_bool HX.out.symm, B1.after hb3 B1.size⟩
      | true =>
        obtain ⟨b, p, y, hy, hcs, hixs⟩ := HDAT.out (by have := HBI.out.symm; simpa using this)
        have hx2 : chkCut (N : Int) l1 q st = (y == CN) := by rw [hx, hy, hqc]; rfl
        have HX := Lib.hid hx2
        clear hx hx2 hqc hy
        go_enter Tryz.func5, Tryz.ntmps5
        go_wp2_with fail
        refine (HMC.out _ HV0.out.symm).mono ?_
        rintro e w1 ⟨rfl, b1⟩
        rw [HV0.out.symm] at b1
        have B1 := B0.after b1 B0.size
        have G := (K0'.keep b1).cell
        have F := (KF.keep b1).cell
        go_wp2_with fail
        have e7 : ∀ z : Ext w1, z.w.cell? ⟨w.heap.size, 7, none⟩ = some (.int .i64 q) := fun z => z.cell (G 7)
        have e8 : ∀ z : Ext w1, z.w.cell? ⟨w.heap.size, 8, none⟩ = some (.int .i64 st) := fun z => z.cell (G 8)
        have f0 : ∀ z : Ext w1, z.w.cell? ⟨w.heap.size + 1, 0, none⟩ = some (.int .i64 (N : Int)) := fun z => z.cell (F 0)
        have f1 : ∀ z : Ext w1, z.w.cell? ⟨w.heap.size + 1, 1, none⟩ = some (.slice a1 l1.length c1) := fun z => z.cell (F 1)
        clear G F
        have hcw := keep B1 hcs
        have ey : ∀ z : Ext w1, z.w.cell? ⟨b, p, none⟩ = some (.int .i64 y) := fun z => z.cell hcw
        have QF := Lib.hid (fun z : Ext w1 => QFF.out z.w)
        have QI := Lib.hid (fun z : Ext w1 => HLI.out z.w)
        refine wp_region_ext _ (by kernel_rfl) (by kernel_rfl) ?_
        repeat (first | go_big_quiet_skip | (go_big_quiet_want; go_big_quiet_op; first | go_big_quiet_on | (apply Exists.intro; refine ⟨fun _ => ?_, ?_⟩; (first | (go_at_call 15; exact ext_same (QF.out _)) | (go_at_call 17; exact ext_same (QI.out _))); go_big_quiet_on)))
        refine wpQuiet_nil ?_
        rintro w3 ⟨⟨w3, hb3⟩, rfl⟩
        try dsimp only
        go_wp2
        go_ret
        exact ⟨ret_bool HX.out.symm, B1.after hb3 B1.size⟩
end Go.Proofs.YtelmokapdkepbaaGreat
end
