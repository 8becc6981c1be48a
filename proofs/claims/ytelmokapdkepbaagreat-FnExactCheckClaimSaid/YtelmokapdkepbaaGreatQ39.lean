/- The check of claims: common sets: the second program. The check of claims: the second program. The check of claims in the form that the printed law wants. -/
import Derived.Test.YtelmokapdkepbaaGreatQ38
section
namespace Go.Proofs.YtelmokapdkepbaaGreat
open Go.RowKit Go.G5

theorem rank_fun {n : Int} {l : List Int} (h : rankB n l = true) : isFunB n l = true := by
  unfold rankB polyB incB at h
  simp only [Bool.and_eq_true] at h
  exact h.1.1.2.1
set_option maxHeartbeats 4000000 in
set_option maxRecDepth 100000 in
theorem chkS4_any (w : World) (n1 : Int) (v1 : Value) (l1 : List Int) (h1 : Ints w v1 l1) (n2 : Int) (v2 : Value) (l2 : List Int) (h2 : Ints w v2 l2) (n3 : Int) (v3 : Value) (l3 : List Int) (h3 : Ints w v3 l3) (q st : Int) (v4 : Value) (l4 : List Int) (h4 : Ints w v4 l4) (hl1 : l1.length ≤ 1048576) (hl2 : l2.length ≤ 1048576) :
    Calls Tryz.prog 5 #[clV 4 n1 v1 n2 v2 n3 v3 q st v4] w fun e w' => e = .returned (.bool (chkCom n1 l1 n2 l2 q st l4)) ∧ Below w.heap.size w w' := by
  obtain ⟨a1, c1, rfl⟩ := h1.shape
  obtain ⟨a2, c2, rfl⟩ := h2.shape
  obtain ⟨a3, c3, rfl⟩ := h3.shape
  obtain ⟨a4, c4, rfl⟩ := h4.shape
  have K0 := Blk.new w 34 (clC 4 n1 (.slice a1 l1.length c1) n2 (.slice a2 l2.length c2) n3 (.slice a3 l3.length c3) q st (.slice a4 l4.length c4))
  obtain ⟨V0, hV0⟩ : ∃ V, V = (w.alloc (.cells (clC 4 n1 (.slice a1 l1.length c1) n2 (.slice a2 l2.length c2) n3 (.slice a3 l3.length c3) q st (.slice a4 l4.length c4)) 34)).alloc (.cells #[.int .i64 n1, .slice a1 l1.length c1] 31) := ⟨_, rfl⟩
  have B0 : Below w.heap.size w V0 := by rw [hV0]; exact bl2 _ _ _
  have K0' : Blk V0 w.heap.size 34 (clC 4 n1 (.slice a1 l1.length c1) n2 (.slice a2 l2.length c2) n3 (.slice a3 l3.length c3) q st (.slice a4 l4.length c4)) := by rw [hV0]; exact K0.alloc _
  have KF : Blk V0 (w.heap.size + 1) 31 #[.int .i64 n1, .slice a1 l1.length c1] := by
    rw [hV0]
    have := Blk.new (w.alloc (.cells (clC 4 n1 (.slice a1 l1.length c1) n2 (.slice a2 l2.length c2) n3 (.slice a3 l3.length c3) q st (.slice a4 l4.length c4)) 34)) 31 #[.int .i64 n1, .slice a1 l1.length c1]
    simpa using this
  have HV0 := Lib.hid hV0
  have g1 := h1.below B0 (Nat.le_refl _)
  have g2 := h2.below B0 (Nat.le_refl _)
  have g3 := h3.below B0 (Nat.le_refl _)
  have g4 := h4.below B0 (Nat.le_refl _)
  clear hV0 K0
  obtain ⟨V1, hV1⟩ : ∃ V, V = V0.alloc (.cells #[.int .i64 n2, .slice a2 l2.length c2] 31) := ⟨_, rfl⟩
  have B0' : Below w.heap.size w V1 := by rw [hV1]; exact B0.alloc B0.size _
  have K0'' : Blk V1 w.heap.size 34 (clC 4 n1 (.slice a1 l1.length c1) n2 (.slice a2 l2.length c2) n3 (.slice a3 l3.length c3) q st (.slice a4 l4.length c4)) := by rw [hV1]; exact K0'.alloc _
  have KF' : Blk V1 (w.heap.size + 1) 31 #[.int .i64 n1, .slice a1 l1.length c1] := by rw [hV1]; exact KF.alloc _
  have hz0 : V0.heap.size = w.heap.size + 1 + 1 := by rw [HV0.out]; simp
  have KG : Blk V1 (w.heap.size + 1 + 1) 31 #[.int .i64 n2, .slice a2 l2.length c2] := by rw [hV1, ← hz0]; exact Blk.new _ _ _
  clear hz0
  have HV1 := Lib.hid hV1
  have ham : ∀ V, V = V1 → Calls Tryz.prog 22 #[.agg #[.int .i64 n1, .slice a1 l1.length c1], .agg #[.int .i64 n2, .slice a2 l2.length c2]] V fun e w' => e = .returned (.bool (comB n1 l1 n2 l2)) ∧ Below V.heap.size V w' := fun V h => by rw [h]; exact areMatS_any V1 n1 _ l1 (h1.below B0' (Nat.le_refl _)) hl1 n2 _ l2 (h2.below B0' (Nat.le_refl _)) hl2
  have HAM := Lib.hid ham
  have G00 := K0'.cell
  have F00 := KF.cell
  clear ham hV1 g1 g2 g3 g4
  cases hc : comB n1 l1 n2 l2 with
  | false =>
    have hx : chkCom n1 l1 n2 l2 q st l4 = false := by unfold chkCom; rw [hc]; rfl
    rw [hc] at HAM
    have HX := Lib.hid hx
    clear hx hc
    go_enter Tryz.func5, Tryz.ntmps5
    go_wp2_with fail
    rw [HV0.out.symm]
    refine (HAM.out _ HV1.out.symm).mono ?_
    rintro e w1 ⟨rfl, b1⟩
    rw [HV1.out.symm] at b1
    have B1 := B0'.after b1 B0'.size
    have K1 := K0''.keep b1
    have KF1 := KF'.keep b1
    have KG1 := KG.keep b1
    have G := K1.cell
    have F := KF1.cell
    have Gg := KG1.cell
    clear G00 F00
    go_wp2
    go_ret
    exact ⟨ret_bool HX.out.symm, B1⟩
  | true =>
    rw [hc] at HAM
    obtain ⟨rfl, N, rfl, hN, hlN, hl32, hmN, hbd1, hbd2⟩ := com_fun hc
    have hrk : rankB (N : Int) l1 = true ∧ rankB (N : Int) l2 = true := by
      have h := hc
      unfold comB at h
      simp only [Bool.and_eq_true] at h
      exact h.1
    have hf1 := rank_fun hrk.1
    have hf2 := rank_fun hrk.2
    have hx : chkCom (N : Int) l1 (N : Int) l2 q st l4 = ((q == (l4.length : Int) && isSet N st) && (decide (0 ≤ idxL (N : Int) l4 0) && comT (N : Int) l1 l2 q st (idxL (N : Int) l4 0))) := by unfold chkCom; rw [hc, Int.toNat_natCast]; rfl
    have h5 := fun W (h : Ints W (.slice a1 l1.length c1) l1) => l5InS_any W (N : Int) _ l1 h st
    simp only [hf1, Int.toNat_natCast, Bool.true_and] at h5
    cases hs : isSet N st with
    | false =>
      rw [hs, Bool.and_false, Bool.false_and] at hx
      simp only [hs] at h5
      have HX := Lib.hid hx
      have H5 := Lib.hid h5
      clear hx hc hlN hl32 hmN hbd1 hbd2 hrk hf1 hf2 h5 hs
      go_enter Tryz.func5, Tryz.ntmps5
      go_wp2_with fail
      rw [HV0.out.symm]
      refine (HAM.out _ HV1.out.symm).mono ?_
      rintro e w1 ⟨rfl, b1⟩
      rw [HV1.out.symm] at b1
      have B1 := B0'.after b1 B0'.size
      have K1 := K0''.keep b1
      have KF1 := KF'.keep b1
      have KG1 := KG.keep b1
      have G := K1.cell
      have F := KF1.cell
      have Gg := KG1.cell
      clear G00 F00
      go_wp2_with fail
      refine (H5.out w1 (h1.below B1 (Nat.le_refl _))).mono ?_
      rintro e w2 ⟨rfl, b2⟩
      go_wp2
      go_ret
      exact ⟨ret_bool HX.out.symm, B1.after b2 B1.size⟩
    | true =>
      rw [hs, Bool.and_true] at hx
      simp only [hs] at h5
      obtain ⟨sn, rfl, hsn⟩ := set_nat hs
      have hok := idx_ok N (by omega) l4 0 (Nat.two_pow_pos N)
      have hid := fun W (h : Ints W (.slice a4 l4.length c4) l4) => idxS_any (N : Int) ⟨by omega, by omega⟩ l4 _ W h
      obtain ⟨T, hT⟩ : ∃ T, T = idxL (N : Int) l4 0 := ⟨_, rfl⟩
      rw [← hT] at hx hok
      simp only [← hT] at hid
      have hsl1 : sn < l1.length := by omega
      have hpn := Nat.two_pow_pos N
      have hcast : ((2 ^ N - 1 : Nat) : Int) = (2 : Int) ^ N - 1 := by rw [Int.ofNat_sub hpn]; simp
      have h32 : (2 : Nat) ^ N ≤ 2 ^ 5 := Nat.pow_le_pow_right (by decide) hN
      obtain ⟨cm, hcm⟩ : ∃ cm, cm = 2 ^ N - 1 - sn := ⟨_, rfl⟩
      have hcl : cm < l2.length := by omega
      have e1 : ((2 : Int) ^ N - 1 - (sn : Int)) = (cm : Int) := by rw [← hcast, hcm]; omega
      have hws : IntKind.i64.wrap ((2 : Int) ^ N - 1 - (sn : Int)) = (2 : Int) ^ N - 1 - (sn : Int) := by rw [IntKind.wrap_i64, e1]; omega
      have hfin : ∀ s : Nat, T = (s : Int) → chkCom (N : Int) l1 (N : Int) l2 q (sn : Int) l4 = (((freeB l1 s && freeB l2 s) && ipop (s : Int) == q) && l1.getD sn 0 + l2.getD cm 0 == q) := fun s h => by
        have hps : ipop (s : Int) = (l4.length : Int) := by
          rcases hok with h' | ⟨s', hs', _, hs3⟩
          · omega
          · have e : s' = s := by omega
            rw [e, pop_zero] at hs3
            unfold ipop
            rw [Int.toNat_natCast]
            omega
        have hq1 : (q == (l4.length : Int)) = (ipop (s : Int) == q) := by rw [hps, Bool.eq_iff_iff, beq_iff_eq, beq_iff_eq]; exact eq_comm
        rw [hx, h, hq1]
        unfold comT
        rw [Int.toNat_natCast, Int.toNat_natCast, Int.toNat_natCast, e1, Int.toNat_natCast, decide_eq_true (show (0 : Int) ≤ (s : Int) by omega), Bool.true_and]
        cases (ipop (s : Int) == q) <;> cases (freeB l1 s) <;> cases (freeB l2 s) <;> rfl
      rw [getD_at l1 sn hsl1, getD_at l2 cm hcl] at hfin
      have hneg : T = -1 → chkCom (N : Int) l1 (N : Int) l2 q (sn : Int) l4 = false := fun h => by rw [hx, h]; simp
      have hcom := fun (W : World) (s : Nat) (u1 : s < 2 ^ N) (u2 : Ints W (.slice a1 l1.length c1) l1) (u3 : Ints W (.slice a2 l2.length c2) l2) => isCommonS_yes W N _ l1 u2 hl1 _ l2 u3 hl2 hc hf1 hf2 s u1
      obtain ⟨_, b1', off1, _, hve, _, hix1, hc1, hb1⟩ := h1.view Tryz.prog 22 3 Tryz.underlying22 intElem
      injection hve with x1 _ x3
      subst x1 x3
      obtain ⟨_, b2', off2, _, hve, _, hix2, hc2, hb2⟩ := h2.view Tryz.prog 22 3 Tryz.underlying22 intElem
      injection hve with x1 _ x3
      subst x1 x3
      have d1 := hc1 sn hsl1
      have i1 := fun W => hix1 W sn hsl1
      have d2 := hc2 cm hcl
      have i2 : ∀ W, (Instr.indexAt 22 (.slice a2 l2.length c2) (.int .i64 ((2 : Int) ^ N - 1 - (sn : Int)))).run Tryz.prog W = .ok (.pointer (some ⟨b2', off2 + cm, none⟩)) W := fun W => by rw [e1]; exact hix2 W cm hcl
      have g1 := hbd1 sn hsl1
      have g2 := hbd2 cm hcl
      obtain ⟨y1, hy1⟩ : ∃ y, y = l1[sn] := ⟨_, rfl⟩
      obtain ⟨y2, hy2⟩ : ∃ y, y = l2[cm] := ⟨_, rfl⟩
      rw [← hy1] at d1 g1 hfin
      rw [← hy2] at d2 g2 hfin
      have hwy : IntKind.i64.wrap (y1 + y2) = y1 + y2 := by rw [IntKind.wrap_i64]; omega
      have H5 := Lib.hid h5
      have HOK := Lib.hid hok
      have HID := Lib.hid hid
      have HFIN := Lib.hid hfin
      have HNEG := Lib.hid hneg
      have HCOM := Lib.hid hcom
      have QFF := Lib.hid (fun W => l2Full_any N W (by omega))
      clear hx hc hlN hl32 hmN hbd1 hbd2 hrk hf1 hf2 h5 hs hok hid hfin hneg hcom hc1 hc2 hix1 hix2 hT hy1 hy2 hsl1 hcl hpn hcast hcm h32 e1 hsn
      go_enter Tryz.func5, Tryz.ntmps5
      go_wp2_with fail
      rw [HV0.out.symm]
      refine (HAM.out _ HV1.out.symm).mono ?_
      rintro e w1 ⟨rfl, b1⟩
      rw [HV1.out.symm] at b1
      have B1 := B0'.after b1 B0'.size
      have K1 := K0''.keep b1
      have KF1 := KF'.keep b1
      have KG1 := KG.keep b1
      have G := K1.cell
      have F := KF1.cell
      have Gg := KG1.cell
      clear G00 F00
      go_wp2_with fail
      refine (H5.out w1 (h1.below B1 (Nat.le_refl _))).mono ?_
      rintro e w2 ⟨rfl, b2⟩
      have B2 := B1.after b2 B1.size
      have K2 := K1.keep b2
      have KF2 := KF1.keep b2
      have KG2 := KG1.keep b2
      have h4w := h4.below B2 (Nat.le_refl _)
      have h1w := h1.below B2 (Nat.le_refl _)
      have h2w := h2.below B2 (Nat.le_refl _)
      have d1w := keep B2 d1
      have d2w := keep B2 d2
      clear G F Gg K1 KF1 KG1 B1 b2 d1 d2
      have G := K2.cell
      have F := KF2.cell
      have Gg := KG2.cell
      go_wp2_with (go_at_call 23; refine (HID.out _ h4w).mono ?_; rintro e w' ⟨rfl, rfl⟩)
      have e7 : ∀ z : Ext w2, z.w.cell? ⟨w.heap.size, 7, none⟩ = some (.int .i64 q) := fun z => z.cell (G 7)
      have e8 : ∀ z : Ext w2, z.w.cell? ⟨w.heap.size, 8, none⟩ = some (.int .i64 (sn : Int)) := fun z => z.cell (G 8)
      have f0 : ∀ z : Ext w2, z.w.cell? ⟨w.heap.size + 1, 0, none⟩ = some (.int .i64 (N : Int)) := fun z => z.cell (F 0)
      have f1 : ∀ z : Ext w2, z.w.cell? ⟨w.heap.size + 1, 1, none⟩ = some (.slice a1 l1.length c1) := fun z => z.cell (F 1)
      have j0 : ∀ z : Ext w2, z.w.cell? ⟨w.heap.size + 1 + 1, 0, none⟩ = some (.int .i64 (N : Int)) := fun z => z.cell (Gg 0)
      have j1 : ∀ z : Ext w2, z.w.cell? ⟨w.heap.size + 1 + 1, 1, none⟩ = some (.slice a2 l2.length c2) := fun z => z.cell (Gg 1)
      have z1 : ∀ z : Ext w2, z.w.cell? ⟨b1', off1 + sn, none⟩ = some (.int .i64 y1) := fun z => z.cell d1w
      have z2 : ∀ z : Ext w2, z.w.cell? ⟨b2', off2 + cm, none⟩ = some (.int .i64 y2) := fun z => z.cell d2w
      have QF := Lib.hid (fun z : Ext w2 => QFF.out z.w)
      clear G F Gg d1w d2w
      rcases HOK.out with hT | ⟨s, hT, hs2, _⟩
      · have HX := Lib.hid (HNEG.out hT)
        have ht : decide (0 ≤ T) = false := by rw [decide_eq_false_iff_not]; omega
        clear hT
        refine wp_region_ext _ (by kernel_rfl) (by kernel_rfl) ?_
        repeat (first | go_big_quiet_skip | (go_big_quiet_want; go_big_quiet_op; first | go_big_quiet_on | (apply Exists.intro; refine ⟨fun _ => ?_, ?_⟩; (fail); go_big_quiet_on)))
        refine wpQuiet_nil ?_
        rintro w4 ⟨⟨w4, hb4⟩, rfl⟩
        try dsimp only
        go_wp2
        go_ret
        exact ⟨ret_bool HX.out.symm, B2.after hb4 B2.size⟩
      · subst hT
        have hx := HFIN.out s rfl
        have ht : decide ((0 : Int) ≤ (s : Int)) = true := by rw [decide_eq_true_eq]; omega
        have h5 : (2 : Nat) ^ N ≤ 2 ^ 5 := Nat.pow_le_pow_right (by decide) hN
        have QC := fun z : Ext w2 => HCOM.out z.w s hs2 (z.ints h1w) (z.ints h2w)
        have QS := Lib.hid (fun z : Ext w2 => l2Size_i (s : Int) z.w (by omega) (by omega))
        obtain ⟨bC, hbC⟩ : ∃ b, b = (freeB l1 s && freeB l2 s) := ⟨_, rfl⟩
        simp only [← hbC] at QC
        rw [← hbC] at hx
        have QC := Lib.hid QC
        clear h5 hs2 hbC
        cases bC with
        | false =>
          have HX := Lib.hid hx
          clear hx
          refine wp_region_ext _ (by kernel_rfl) (by kernel_rfl) ?_
          repeat (first | go_big_quiet_skip | (go_big_quiet_want; go_big_quiet_op; first | go_big_quiet_on | (apply Exists.intro; refine ⟨fun _ => ?_, ?_⟩; (first | (go_at_call 24; exact ext_call (QC.out _)) | (go_at_call 25; exact ext_same (QS.out _)) | (go_at_call 15; exact ext_same (QF.out _))); go_big_quiet_on)))
          refine wpQuiet_nil ?_
          rintro w4 ⟨⟨w4, hb4⟩, rfl⟩
          try dsimp only
          go_wp2
          go_ret
          exact ⟨ret_bool HX.out.symm, B2.after hb4 B2.size⟩
        | true =>
          cases hq : ipop (s : Int) == q with
          | false =>
            rw [hq] at hx
            have HX := Lib.hid hx
            clear hx
            refine wp_region_ext _ (by kernel_rfl) (by kernel_rfl) ?_
            repeat (first | go_big_quiet_skip | (go_big_quiet_want; go_big_quiet_op; first | go_big_quiet_on | (apply Exists.intro; refine ⟨fun _ => ?_, ?_⟩; (first | (go_at_call 24; exact ext_call (QC.out _)) | (go_at_call 25; exact ext_same (QS.out _)) | (go_at_call 15; exact ext_same (QF.out _))); go_big_quiet_on)))
            refine wpQuiet_nil ?_
            rintro w4 ⟨⟨w4, hb4⟩, rfl⟩
            try dsimp only
            go_wp2
            go_ret
            exact ⟨ret_bool HX.out.symm, B2.after hb4 B2.size⟩
          | true =>
            rw [hq, Bool.true_and, Bool.true_and] at hx
            have HX := Lib.hid hx
            clear hx
            refine wp_region_ext _ (by kernel_rfl) (by kernel_rfl) ?_
            repeat (first | go_big_quiet_skip | (go_big_quiet_want; go_big_quiet_op; first | go_big_quiet_on | (apply Exists.intro; refine ⟨fun _ => ?_, ?_⟩; (first | (go_at_call 24; exact ext_call (QC.out _)) | (go_at_call 25; exact ext_same (QS.out _)) | (go_at_call 15; exact ext_same (QF.out _))); go_big_quiet_on)))
            refine wpQuiet_nil ?_
            rintro w4 ⟨⟨w4, hb4⟩, rfl⟩
            try dsimp only
            go_wp2
            go_ret
            exact ⟨ret_bool HX.out.symm, B2.after hb4 B2.size⟩
end Go.Proofs.YtelmokapdkepbaaGreat
end
section
namespace Go.Proofs.YtelmokapdkepbaaGreat
open Go.RowKit Go.G5

set_option maxHeartbeats 2000000 in
set_option maxRecDepth 100000 in
theorem checkClaimS_c (w : World) (k n1 : Int) (v1 : Value) (l1 : List Int) (h1 : Ints w v1 l1) (n2 : Int) (v2 : Value) (l2 : List Int) (h2 : Ints w v2 l2) (n3 : Int) (v3 : Value) (l3 : List Int) (h3 : Ints w v3 l3) (q st : Int) (v4 : Value) (l4 : List Int) (h4 : Ints w v4 l4) (hl1 : l1.length ≤ 1048576) (hl2 : l2.length ≤ 1048576) :
    Calls Tryz.prog 5 #[clV k n1 v1 n2 v2 n3 v3 q st v4] w fun e w' => e = .returned (.bool (chkB k n1 l1 n2 l2 n3 l3 q st l4)) ∧ Below w.heap.size w w' := by
  by_cases hk1 : k = 1
  · subst hk1
    exact chkS1_any w n1 v1 l1 h1 n2 v2 l2 h2 n3 v3 l3 h3 q st v4 l4 h4
  by_cases hk2 : k = 2
  · subst hk2
    exact chkS2_any w n1 v1 l1 h1 n2 v2 l2 h2 n3 v3 l3 h3 q st v4 l4 h4
  by_cases hk3 : k = 3
  · subst hk3
    exact chkS3_any w n1 v1 l1 h1 n2 v2 l2 h2 n3 v3 l3 h3 q st v4 l4 h4 hl1 hl2
  by_cases hk4 : k = 4
  · subst hk4
    exact chkS4_any w n1 v1 l1 h1 n2 v2 l2 h2 n3 v3 l3 h3 q st v4 l4 h4 hl1 hl2
  by_cases hk5 : k = 5
  · subst hk5
    exact chkS5_any w n1 v1 l1 h1 n2 v2 l2 h2 n3 v3 l3 h3 q st v4 l4 h4 hl1
  by_cases hk6 : k = 6
  · subst hk6
    exact chkS6_any w n1 v1 l1 h1 n2 v2 l2 h2 n3 v3 l3 h3 q st v4 l4 h4
  by_cases hk7 : k = 7
  · subst hk7
    exact chkS7_any w n1 v1 l1 h1 n2 v2 l2 h2 n3 v3 l3 h3 q st v4 l4 h4
  have hx : chkB k n1 l1 n2 l2 n3 l3 q st l4 = false := by unfold chkB; rw [if_neg hk1, if_neg hk2, if_neg hk3, if_neg hk4, if_neg hk5, if_neg hk6, if_neg hk7]
  have HX := Lib.hid hx
  obtain ⟨a1, c1, rfl⟩ := h1.shape
  obtain ⟨a2, c2, rfl⟩ := h2.shape
  obtain ⟨a3, c3, rfl⟩ := h3.shape
  obtain ⟨a4, c4, rfl⟩ := h4.shape
  have s1 : (k == 1) = false := by simpa using hk1
  have s2 : (k == 2) = false := by simpa using hk2
  have s3 : (k == 3) = false := by simpa using hk3
  have s4 : (k == 4) = false := by simpa using hk4
  have s5 : (k == 5) = false := by simpa using hk5
  have s6 : (k == 6) = false := by simpa using hk6
  have s7 : (k == 7) = false := by simpa using hk7
  clear hx hk1 hk2 hk3 hk4 hk5 hk6 hk7
  go_enter Tryz.func5, Tryz.ntmps5
  go_wp2
  go_ret
  exact ⟨ret_bool HX.out.symm, bl2 _ _ _⟩
end Go.Proofs.YtelmokapdkepbaaGreat
end
section
namespace Go.Proofs.YtelmokapdkepbaaGreat
open Go.RowKit Go.G5
theorem chkClaimI_c (w : World) (k n1 : Int) (v1 : Value) (l1 : List Int) (h1 : Ints w v1 l1) (e1 : l1.length ≤ 1048576) (n2 : Int) (v2 : Value) (l2 : List Int) (h2 : Ints w v2 l2) (e2 : l2.length ≤ 1048576) (n3 : Int) (v3 : Value) (l3 : List Int) (h3 : Ints w v3 l3) (e3 : l3.length ≤ 1048576) (q st : Int) (v4 : Value) (l4 : List Int) (h4 : Ints w v4 l4) (_ : l4.length ≤ 1048576) :
    Calls Tryz.prog 7 #[clV k n1 v1 n2 v2 n3 v3 q st v4] w fun e w' => e = .returned (.bool (chkB k n1 l1 n2 l2 n3 l3 q st l4)) ∧ Below w.heap.size w w' :=
  checkClaimI_c w k n1 v1 l1 h1 n2 v2 l2 h2 n3 v3 l3 h3 q st v4 l4 h4 e1 e2 e3
theorem chkClaimS_c (w : World) (k n1 : Int) (v1 : Value) (l1 : List Int) (h1 : Ints w v1 l1) (e1 : l1.length ≤ 1048576) (n2 : Int) (v2 : Value) (l2 : List Int) (h2 : Ints w v2 l2) (e2 : l2.length ≤ 1048576) (n3 : Int) (v3 : Value) (l3 : List Int) (h3 : Ints w v3 l3) (_e3 : l3.length ≤ 1048576) (q st : Int) (v4 : Value) (l4 : List Int) (h4 : Ints w v4 l4) (_ : l4.length ≤ 1048576) :
    Calls Tryz.prog 5 #[clV k n1 v1 n2 v2 n3 v3 q st v4] w fun e w' => e = .returned (.bool (chkB k n1 l1 n2 l2 n3 l3 q st l4)) ∧ Below w.heap.size w w' :=
  checkClaimS_c w k n1 v1 l1 h1 n2 v2 l2 h2 n3 v3 l3 h3 q st v4 l4 h4 e1 e2
end Go.Proofs.YtelmokapdkepbaaGreat
end
