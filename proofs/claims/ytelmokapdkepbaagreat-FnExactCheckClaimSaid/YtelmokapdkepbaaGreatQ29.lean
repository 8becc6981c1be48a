/- The checks of claims: cuts, sunflowers, violations: the first program. -/
import Derived.Test.YtelmokapdkepbaaGreatQ28
section
namespace Go.Proofs.YtelmokapdkepbaaGreat
open Go.RowKit Go.G5

set_option maxHeartbeats 1000000 in
set_option maxRecDepth 100000 in
theorem chkCutI_any (w : World) (k n1 : Int) (v1 : Value) (l1 : List Int) (h1 : Ints w v1 l1) (n2 : Int) (v2 : Value) (l2 : List Int) (h2 : Ints w v2 l2) (n3 : Int) (v3 : Value) (l3 : List Int) (h3 : Ints w v3 l3) (q st : Int) (v4 : Value) (l4 : List Int) (h4 : Ints w v4 l4) (hl : l1.length ≤ 1048576) :
    Calls Tryz.prog 39 #[clV k n1 v1 n2 v2 n3 v3 q st v4] w fun e w' => e = .returned (.bool (chkCut n1 l1 q st)) ∧ Below w.heap.size w w' := by
  obtain ⟨a1, c1, rfl⟩ := h1.shape
  obtain ⟨a2, c2, rfl⟩ := h2.shape
  obtain ⟨a3, c3, rfl⟩ := h3.shape
  obtain ⟨a4, c4, rfl⟩ := h4.shape
  have K0 := Blk.new w 34 (clC k n1 (.slice a1 l1.length c1) n2 (.slice a2 l2.length c2) n3 (.slice a3 l3.length c3) q st (.slice a4 l4.length c4))
  have hmc := minCutI_c (w.alloc (.cells (clC k n1 (.slice a1 l1.length c1) n2 (.slice a2 l2.length c2) n3 (.slice a3 l3.length c3) q st (.slice a4 l4.length c4)) 34)) n1 _ l1 (h1.alloc _) hl
  obtain ⟨CN, hCN⟩ : ∃ c, c = cutN n1 l1 := ⟨_, rfl⟩
  obtain ⟨CS, hCS⟩ : ∃ c, c = cutS n1 l1 := ⟨_, rfl⟩
  rw [← hCN, ← hCS] at hmc
  cases hf : fitB n1 l1 with
  | false =>
    have hx : chkCut n1 l1 q st = false := by unfold chkCut; rw [hf]; rfl
    rw [hf] at hmc
    have HX := Lib.hid hx
    have HMC := Lib.hid hmc
    clear hx hmc hf hCN hCS
    go_enter Tryz.func39, Tryz.ntmps39
    go_wp2_with fail
    refine HMC.out.mono ?_
    rintro e w1 ⟨rfl, b1⟩
    have B1 : Below w.heap.size w w1 := (bl1 _ _).after b1 (by simp)
    have G := (K0.keep b1).cell
    go_wp2_with fail
    refine wp_region_ext _ (by kernel_rfl) (by kernel_rfl) ?_
    repeat (first | go_big_quiet_skip | (go_big_quiet_want; go_big_quiet_op; first | go_big_quiet_on | (apply Exists.intro; refine ⟨fun _ => ?_, ?_⟩; (fail); go_big_quiet_on)))
    refine wpQuiet_nil ?_
    rintro w3 ⟨⟨w3, hb3⟩, rfl⟩
    try dsimp only
    go_wp2
    go_ret
    exact ⟨ret_bool HX.out.symm, B1.after hb3 B1.size⟩
  | true =>
    rw [hf] at hmc
    have hx : chkCut n1 l1 q st = ((CN == q) && ((decide (0 < st) && decide (st < 2 ^ n1.toNat - 1)) && l1.getD st.toNat 0 == q)) := by unfold chkCut; rw [hf, hCN]; rfl
    have hfn : isFunB n1 l1 = true := by
      have h := hf
      unfold fitB subB at h
      simp only [Bool.and_eq_true] at h
      exact h.1.1.1
    obtain ⟨N, rfl, hN, hll, _, hbd⟩ := fun_nat hfn
    rw [Int.toNat_natCast] at hx
    have hp := two_pow N 5 hN
    have hp1 := hp.1
    have hp2 := hp.2
    simp at hp1
    have hal := fun (W : World) (h : Ints W (.slice a1 l1.length c1) l1) => allOf_any (N : Int) _ l1 W h (by omega) (by omega)
    simp only [Int.toNat_natCast] at hal
    have HMC := Lib.hid hmc
    have HAL := Lib.hid hal
    have hdat : (0 < st ∧ st < 2 ^ N - 1) → ∃ (b p : Nat) (y : Int), l1.getD st.toNat 0 = y ∧ w.cell? ⟨b, p, none⟩ = some (.int .i64 y) ∧ ∀ W, (Instr.indexAt 22 (.slice a1 l1.length c1) (.int .i64 st)).run Tryz.prog W = .ok (.pointer (some ⟨b, p, none⟩)) W := by
      rintro ⟨g1, g2⟩
      obtain ⟨s, rfl⟩ := Int.eq_ofNat_of_zero_le (show 0 ≤ st by omega)
      have e : ((2 : Int) ^ N) = ((2 ^ N : Nat) : Int) := by simp
      have hsl : s < l1.length := by omega
      obtain ⟨_, b, off, _, hve, _, hix, hc, hb⟩ := h1.view Tryz.prog 22 3 Tryz.underlying22 intElem
      injection hve with x1 _ x3
      subst x1 x3
      exact ⟨b, off + s, l1[s], by rw [Int.toNat_natCast, getD_at l1 s hsl], hc s hsl, fun W => hix W s hsl⟩
    have HDAT := Lib.hid hdat
    clear hmc hal hf hCN hCS hfn hll hbd hp hdat
    go_enter Tryz.func39, Tryz.ntmps39
    go_wp2_with fail
    refine HMC.out.mono ?_
    rintro e w1 ⟨rfl, b1⟩
    have B1 : Below w.heap.size w w1 := (bl1 _ _).after b1 (by simp)
    have G := (K0.keep b1).cell
    have h1w := h1.below B1 (Nat.le_refl _)
    go_wp2_with fail
    have e1 : ∀ z : Ext w1, z.w.cell? ⟨w.heap.size, 1, none⟩ = some (.int .i64 (N : Int)) := fun z => z.cell (G 1)
    have e2 : ∀ z : Ext w1, z.w.cell? ⟨w.heap.size, 2, none⟩ = some (.slice a1 l1.length c1) := fun z => z.cell (G 2)
    have e7 : ∀ z : Ext w1, z.w.cell? ⟨w.heap.size, 7, none⟩ = some (.int .i64 q) := fun z => z.cell (G 7)
    have e8 : ∀ z : Ext w1, z.w.cell? ⟨w.heap.size, 8, none⟩ = some (.int .i64 st) := fun z => z.cell (G 8)
    have QA := Lib.hid (fun z : Ext w1 => HAL.out z.w (z.ints h1w))
    have G7 := G 7
    have G8 := G 8
    have G2 := G 2
    cases hq : CN == q with
    | false =>
      rw [hq] at hx
      have HX := Lib.hid hx
      have hqn : (CN != q) = true := by rw [bne, hq]; rfl
      clear hx G hq
      refine wp_region_ext _ (by kernel_rfl) (by kernel_rfl) ?_
      repeat (first | go_big_quiet_skip | (go_big_quiet_want; go_big_quiet_op; first | go_big_quiet_on | (apply Exists.intro; refine ⟨fun _ => ?_, ?_⟩; (go_at_call 61; exact ext_call (QA.out _)); go_big_quiet_on)))
      refine wpQuiet_nil ?_
      rintro w3 ⟨⟨w3, hb3⟩, rfl⟩
      try dsimp only
      go_wp2
      go_ret
      exact ⟨ret_bool HX.out.symm, B1.after hb3 B1.size⟩
    | true =>
      rw [hq, Bool.true_and] at hx
      have hqn : (CN != q) = false := by rw [bne, hq]; rfl
      clear G hq
      by_cases h0 : 0 < st
      · have t0 : decide (st ≤ 0) = false := by rw [decide_eq_false_iff_not]; omega
        by_cases hm : st < 2 ^ N - 1
        · have t1 : decide (2 ^ N - 1 ≤ st) = false := by rw [decide_eq_false_iff_not]; omega
          obtain ⟨b, p, y, hy, hcs, hixs⟩ := HDAT.out ⟨h0, hm⟩
          rw [decide_eq_true h0, decide_eq_true hm, hy] at hx
          have hcw : w1.cell? ⟨b, p, none⟩ = some (.int .i64 y) := keep B1 hcs
          have HX := Lib.hid hx
          have HB := Lib.hid (And.intro h0 hm)
          clear hx h0 hm hcs hy
          refine wp_region_ext _ (by kernel_rfl) (by kernel_rfl) ?_
          repeat (first | go_big_quiet_skip | (go_big_quiet_want; go_big_quiet_op; first | go_big_quiet_on | (apply Exists.intro; refine ⟨fun _ => ?_, ?_⟩; (go_at_call 61; exact ext_call (QA.out _)); go_big_quiet_on)))
          refine wpQuiet_nil ?_
          rintro w3 ⟨⟨w3, hb3⟩, rfl⟩
          try dsimp only
          have G7' := keep hb3 G7
          have G8' := keep hb3 G8
          have G2' := keep hb3 G2
          have hcw' := keep hb3 hcw
          clear G7 G8 G2 hcw e1 e2 e7 e8
          go_wp2_with fail
          go_quiet (fail)
          go_wp2
          go_ret
          exact ⟨ret_bool HX.out.symm, (B1.after hb3 B1.size).drewN' _⟩
        · have t1 : decide (2 ^ N - 1 ≤ st) = true := by rw [decide_eq_true_eq]; omega
          rw [decide_eq_false hm, Bool.and_false, Bool.false_and] at hx
          have HX := Lib.hid hx
          clear hx h0 hm
          refine wp_region_ext _ (by kernel_rfl) (by kernel_rfl) ?_
          repeat (first | go_big_quiet_skip | (go_big_quiet_want; go_big_quiet_op; first | go_big_quiet_on | (apply Exists.intro; refine ⟨fun _ => ?_, ?_⟩; (go_at_call 61; exact ext_call (QA.out _)); go_big_quiet_on)))
          refine wpQuiet_nil ?_
          rintro w3 ⟨⟨w3, hb3⟩, rfl⟩
          try dsimp only
          go_wp2
          go_ret
          exact ⟨ret_bool HX.out.symm, B1.after hb3 B1.size⟩
      · have t0 : decide (st ≤ 0) = true := by rw [decide_eq_true_eq]; omega
        rw [decide_eq_false h0, Bool.false_and, Bool.false_and] at hx
        have HX := Lib.hid hx
        clear hx h0
        refine wp_region_ext _ (by kernel_rfl) (by kernel_rfl) ?_
        repeat (first | go_big_quiet_skip | (go_big_quiet_want; go_big_quiet_op; first | go_big_quiet_on | (apply Exists.intro; refine ⟨fun _ => ?_, ?_⟩; (go_at_call 61; exact ext_call (QA.out _)); go_big_quiet_on)))
        refine wpQuiet_nil ?_
        rintro w3 ⟨⟨w3, hb3⟩, rfl⟩
        try dsimp only
        go_wp2
        go_ret
        exact ⟨ret_bool HX.out.symm, B1.after hb3 B1.size⟩

set_option maxHeartbeats 1000000 in
set_option maxRecDepth 100000 in
theorem chkSunI_any (w : World) (k n1 : Int) (v1 : Value) (l1 : List Int) (h1 : Ints w v1 l1) (n2 : Int) (v2 : Value) (l2 : List Int) (h2 : Ints w v2 l2) (n3 : Int) (v3 : Value) (l3 : List Int) (h3 : Ints w v3 l3) (q st : Int) (v4 : Value) (l4 : List Int) (h4 : Ints w v4 l4) (hl : l3.length ≤ 1048576) :
    Calls Tryz.prog 40 #[clV k n1 v1 n2 v2 n3 v3 q st v4] w fun e w' => e = .returned (.bool (chkSun n3 l3 q l4)) ∧ Below w.heap.size w w' := by
  obtain ⟨a1, c1, rfl⟩ := h1.shape
  obtain ⟨a2, c2, rfl⟩ := h2.shape
  obtain ⟨a3, c3, rfl⟩ := h3.shape
  obtain ⟨a4, c4, rfl⟩ := h4.shape
  have K0 := Blk.new w 34 (clC k n1 (.slice a1 l1.length c1) n2 (.slice a2 l2.length c2) n3 (.slice a3 l3.length c3) q st (.slice a4 l4.length c4))
  have hfm := isFamI_any n3 l3 _ (w.alloc (.cells (clC k n1 (.slice a1 l1.length c1) n2 (.slice a2 l2.length c2) n3 (.slice a3 l3.length c3) q st (.slice a4 l4.length c4)) 34)) (h3.alloc _)
  cases hf : isFamB n3 l3 with
  | false =>
    have hx : chkSun n3 l3 q l4 = false := by unfold chkSun; rw [hf]; rfl
    rw [hf] at hfm
    have HX := Lib.hid hx
    have HFM := Lib.hid hfm
    clear hx hfm hf
    go_enter Tryz.func40, Tryz.ntmps40
    go_wp2_with fail
    refine HFM.out.mono ?_
    rintro e w1 ⟨rfl, b1⟩
    go_wp2
    go_ret
    exact ⟨ret_bool HX.out.symm, (bl1 _ _).after b1 (by simp)⟩
  | true =>
    rw [hf] at hfm
    have hx : chkSun n3 l3 q l4 = ((decide (1 ≤ l4.length) && q == (l4.length : Int)) && (l4.all (has l3) && isSunB l4)) := by unfold chkSun; rw [hf]; rfl
    have hasc := (famOk hf).2.2.2
    have HFM := Lib.hid hfm
    have HASC := Lib.hid hasc
    clear hfm hf hasc
    by_cases hlen : 1 ≤ l4.length
    · have hl1 : ¬ (l4.length : Int) < 1 := by omega
      rw [decide_eq_true hlen, Bool.true_and] at hx
      cases hq : q == (l4.length : Int) with
      | false =>
        have hqn : (q != (l4.length : Int)) = true := by rw [bne, hq]; rfl
        rw [hq, Bool.false_and] at hx
        have HX := Lib.hid hx
        clear hx hq
        go_enter Tryz.func40, Tryz.ntmps40
        go_wp2_with fail
        refine HFM.out.mono ?_
        rintro e w1 ⟨rfl, b1⟩
        have G := (K0.keep b1).cell
        go_wp2
        go_ret
        exact ⟨ret_bool HX.out.symm, (bl1 _ _).after b1 (by simp)⟩
      | true =>
        have hqn : (q != (l4.length : Int)) = false := by rw [bne, hq]; rfl
        rw [hq, Bool.true_and] at hx
        obtain ⟨_, b, off, _, hve, _, hix, hc, hb⟩ := h4.view Tryz.prog 22 3 Tryz.underlying22 intElem
        injection hve with x1 _ x3
        subst x1 x3
        have HX := Lib.hid hx
        have HC := Lib.hid hc
        have HIX := Lib.hid hix
        clear hx hq hc hix
        go_enter Tryz.func40, Tryz.ntmps40
        go_wp2_with fail
        refine HFM.out.mono ?_
        rintro e w1 ⟨rfl, b1⟩
        have B1 : Below w.heap.size w w1 := (bl1 _ _).after b1 (by simp)
        have K1 := K0.keep b1
        have G := K1.cell
        go_wp2_with fail
        clear G K0 b1
        go_loopw [26] (fun iv wr => ∃ j : Nat, j ≤ l4.length ∧ iv = .int .i64 j ∧ (l4.take j).all (has l3) = true ∧ Below w1.heap.size w1 wr) (fun iv _ => l4.length - (intOf iv).toNat)
        case atStart => exact ⟨0, Nat.zero_le _, rfl, rfl, Below.refl _ _⟩
        case round =>
          obtain ⟨j, hj, rfl, hall, Bw⟩ := hrel
          have HALL := Lib.hid hall
          clear hall
          have B4 := B1.after Bw B1.size
          have K4 := K1.keep Bw
          have G := K4.cell
          by_cases hlt : j < l4.length
          · have hlt2 : (j : Int) < (l4.length : Int) := by omega
            have ck := cells_below HC.out hb B4 (Nat.le_refl _) j hlt
            have ik := fun W => HIX.out W j hlt
            have hss := hasSet_any n3 l3 _ l4[j] wr (h3.below B4 (Nat.le_refl _)) HASC.out hl
            have htk := all_take_succ (has l3) l4 j hlt
            have hfa := all_false_k (has l3) l4 j hlt
            obtain ⟨s, hs⟩ : ∃ s, s = l4[j] := ⟨_, rfl⟩
            rw [← hs] at ck hss htk hfa
            obtain ⟨z, hz⟩ : ∃ z, z = has l3 s := ⟨_, rfl⟩
            rw [← hz] at hss htk hfa
            have HSS := Lib.hid hss
            have HTK := Lib.hid htk
            have HFA := Lib.hid hfa
            clear hs hz hss htk hfa
            cases z with
            | false =>
              have hx := HX.out.trans (by rw [HFA.out rfl]; rfl : (l4.all (has l3) && isSunB l4) = false)
              have HX2 := Lib.hid hx
              clear hx
              go_wp2_with fail
              refine HSS.out.mono ?_
              rintro e w5 ⟨rfl, b5⟩
              go_wp2
              go_ret
              exact ⟨ret_bool HX2.out.symm, B4.after b5 B4.size⟩
            | true =>
              have ha2 : (l4.take (j + 1)).all (has l3) = true := by rw [HTK.out, HALL.out]; rfl
              have HA2 := Lib.hid ha2
              clear ha2
              go_wp2_with fail
              refine HSS.out.mono ?_
              rintro e w5 ⟨rfl, b5⟩
              go_wp2
              go_roundw
              case rel => exact ⟨j + 1, by omega, by go_num, HA2.out, Bw.after b5 Bw.size⟩
              case measure => simp [intOf]; omega
          · have hlt2 : ¬ (j : Int) < (l4.length : Int) := by omega
            have hx : chkSun n3 l3 q l4 = isSunB l4 := by rw [HX.out, ← all_of_take _ l4 j (by omega), HALL.out, Bool.true_and]
            have HX2 := Lib.hid hx
            have hsn := isSunI_any l4 _ wr (h4.below B4 (Nat.le_refl _))
            have HSN := Lib.hid hsn
            clear hx hsn
            go_wp2_with fail
            refine HSN.out.mono ?_
            rintro e w5 ⟨rfl, b5⟩
            go_wp2
            go_ret
            exact ⟨ret_bool HX2.out.symm, B4.after b5 B4.size⟩
    · have hl1 : (l4.length : Int) < 1 := by omega
      rw [decide_eq_false hlen, Bool.false_and, Bool.false_and] at hx
      have HX := Lib.hid hx
      clear hx hlen
      go_enter Tryz.func40, Tryz.ntmps40
      go_wp2_with fail
      refine HFM.out.mono ?_
      rintro e w1 ⟨rfl, b1⟩
      have G := (K0.keep b1).cell
      go_wp2
      go_ret
      exact ⟨ret_bool HX.out.symm, (bl1 _ _).after b1 (by simp)⟩
end Go.Proofs.YtelmokapdkepbaaGreat
end
