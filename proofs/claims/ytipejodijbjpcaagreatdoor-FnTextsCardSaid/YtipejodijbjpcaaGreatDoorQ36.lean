/- The checks of claims: cuts, sunflowers, violations: the first program. The checks of claims: violations, bases: the first program. The checks of claims: bases, common sets: the first program. -/
import Derived.Test.YtipejodijbjpcaaGreatDoorQ35
section
namespace Go.Proofs.YtipejodijbjpcaaGreatDoor
open Go.RowKit Go.G5

set_option maxHeartbeats 1000000 in
set_option maxRecDepth 100000 in
theorem chkCutI_any (w : World) (k n1 : Int) (v1 : Value) (l1 : List Int) (h1 : Ints w v1 l1) (n2 : Int) (v2 : Value) (l2 : List Int) (h2 : Ints w v2 l2) (n3 : Int) (v3 : Value) (l3 : List Int) (h3 : Ints w v3 l3) (q st : Int) (v4 : Value) (l4 : List Int) (h4 : Ints w v4 l4) (hl : l1.length ≤ 1048576) :
    Calls Tryz.prog 140 #[clV k n1 v1 n2 v2 n3 v3 q st v4] w fun e w' => e = .returned (.bool (chkCut n1 l1 q st)) ∧ Below w.heap.size w w' := by
  obtain ⟨a1, c1, rfl⟩ := h1.shape
  obtain ⟨a2, c2, rfl⟩ := h2.shape
  obtain ⟨a3, c3, rfl⟩ := h3.shape
  obtain ⟨a4, c4, rfl⟩ := h4.shape
  have K0 := Blk.new w 49 (clC k n1 (.slice a1 l1.length c1) n2 (.slice a2 l2.length c2) n3 (.slice a3 l3.length c3) q st (.slice a4 l4.length c4))
  have hmc := minCutI_c (w.alloc (.cells (clC k n1 (.slice a1 l1.length c1) n2 (.slice a2 l2.length c2) n3 (.slice a3 l3.length c3) q st (.slice a4 l4.length c4)) 49)) n1 _ l1 (h1.alloc _) hl
  obtain ⟨CN, hCN⟩ : ∃ c, c = cutN n1 l1 := ⟨_, rfl⟩
  obtain ⟨CS, hCS⟩ : ∃ c, c = cutS n1 l1 := ⟨_, rfl⟩
  rw [← hCN, ← hCS] at hmc
  cases hf : fitB n1 l1 with
  | false =>
    have hx : chkCut n1 l1 q st = false := by unfold chkCut; rw [hf]; rfl
    rw [hf] at hmc
    have HX := Lib.hid hx
    have HMC := Lib.hid hmc
    clear hx hmc hf hCN hCS
    go_enter Tryz.func140, Tryz.ntmps140
    go_wp2_with fail
    refine HMC.out.mono ?_
    rintro e w1 ⟨rfl, b1⟩
    have B1 : Below w.heap.size w w1 := (bl1 _ _).after b1 (by simp)
    have G := (K0.keep b1).cell
    go_wp2_with fail
    refine wp_region_ext _ (by kernel_rfl) (by kernel_rfl) ?_
    repeat (first | go_big_quiet_skip | (go_big_quiet_want; go_big_quiet_op; first | go_big_quiet_on | (apply Exists.intro; refine ⟨fun _ => ?_, ?_⟩; (fail); go_big_quiet_on)))
    refine wpQuiet_nil ?_
    rintro w3 ⟨⟨w3, hb3⟩, rfl⟩
    try dsimp only
    go_wp2
    go_ret
    exact ⟨ret_bool HX.out.symm, B1.after hb3 B1.size⟩
  | true =>
    rw [hf] at hmc
    have hx : chkCut n1 l1 q st = ((CN == q) && ((decide (0 < st) && decide (st < 2 ^ n1.toNat - 1)) && l1.getD st.toNat 0 == q)) := by unfold chkCut; rw [hf, hCN]; rfl
    have hfn : isFunB n1 l1 = true := by
      have h := hf
      unfold fitB subB at h
      simp only [Bool.and_eq_true] at h
      exact h.1.1.1
    obtain ⟨N, rfl, hN, hll, _, hbd⟩ := fun_nat hfn
    rw [Int.toNat_natCast] at hx
    have hp := two_pow N 5 hN
    have hp1 := hp.1
    have hp2 := hp.2
    simp at hp1
    have hal := fun (W : World) (h : Ints W (.slice a1 l1.length c1) l1) => allOf_any (N : Int) _ l1 W h (by omega) (by omega)
    simp only [Int.toNat_natCast] at hal
    have HMC := Lib.hid hmc
    have HAL := Lib.hid hal
    have hdat : (0 < st ∧ st < 2 ^ N - 1) → ∃ (b p : Nat) (y : Int), l1.getD st.toNat 0 = y ∧ w.cell? ⟨b, p, none⟩ = some (.int .i64 y) ∧ ∀ W, (Instr.indexAt 22 (.slice a1 l1.length c1) (.int .i64 st)).run Tryz.prog W = .ok (.pointer (some ⟨b, p, none⟩)) W := by
      rintro ⟨g1, g2⟩
      obtain ⟨s, rfl⟩ := Int.eq_ofNat_of_zero_le (show 0 ≤ st by omega)
      have e : ((2 : Int) ^ N) = ((2 ^ N : Nat) : Int) := by simp
      have hsl : s < l1.length := by omega
      obtain ⟨_, b, off, _, hve, _, hix, hc, hb⟩ := h1.view Tryz.prog 22 3 Tryz.underlying22 intElem
      injection hve with x1 _ x3
      subst x1 x3
      exact ⟨b, off + s, l1[s], by rw [Int.toNat_natCast, getD_at l1 s hsl], hc s hsl, fun W => hix W s hsl⟩
    have HDAT := Lib.hid hdat
    clear hmc hal hf hCN hCS hfn hll hbd hp hdat
    go_enter Tryz.func140, Tryz.ntmps140
    go_wp2_with fail
    refine HMC.out.mono ?_
    rintro e w1 ⟨rfl, b1⟩
    have B1 : Below w.heap.size w w1 := (bl1 _ _).after b1 (by simp)
    have G := (K0.keep b1).cell
    have h1w := h1.below B1 (Nat.le_refl _)
    go_wp2_with fail
    have e1 : ∀ z : Ext w1, z.w.cell? ⟨w.heap.size, 1, none⟩ = some (.int .i64 (N : Int)) := fun z => z.cell (G 1)
    have e2 : ∀ z : Ext w1, z.w.cell? ⟨w.heap.size, 2, none⟩ = some (.slice a1 l1.length c1) := fun z => z.cell (G 2)
    have e7 : ∀ z : Ext w1, z.w.cell? ⟨w.heap.size, 7, none⟩ = some (.int .i64 q) := fun z => z.cell (G 7)
    have e8 : ∀ z : Ext w1, z.w.cell? ⟨w.heap.size, 8, none⟩ = some (.int .i64 st) := fun z => z.cell (G 8)
    have QA := Lib.hid (fun z : Ext w1 => HAL.out z.w (z.ints h1w))
    have G7 := G 7
    have G8 := G 8
    have G2 := G 2
    cases hq : CN == q with
    | false =>
      rw [hq] at hx
      have HX := Lib.hid hx
      have hqn : (CN != q) = true := by rw [bne, hq]; rfl
      clear hx G hq
      refine wp_region_ext _ (by kernel_rfl) (by kernel_rfl) ?_
      repeat (first | go_big_quiet_skip | (go_big_quiet_want; go_big_quiet_op; first | go_big_quiet_on | (apply Exists.intro; refine ⟨fun _ => ?_, ?_⟩; (go_at_call 127; exact ext_call (QA.out _)); go_big_quiet_on)))
      refine wpQuiet_nil ?_
      rintro w3 ⟨⟨w3, hb3⟩, rfl⟩
      try dsimp only
      go_wp2
      go_ret
      exact ⟨ret_bool HX.out.symm, B1.after hb3 B1.size⟩
    | true =>
      rw [hq, Bool.true_and] at hx
      have hqn : (CN != q) = false := by rw [bne, hq]; rfl
      clear G hq
      by_cases h0 : 0 < st
      · have t0 : decide (st ≤ 0) = false := by rw [decide_eq_false_iff_not]; omega
        by_cases hm : st < 2 ^ N - 1
        · have t1 : decide (2 ^ N - 1 ≤ st) = false := by rw [decide_eq_false_iff_not]; omega
          obtain ⟨b, p, y, hy, hcs, hixs⟩ := HDAT.out ⟨h0, hm⟩
          rw [decide_eq_true h0, decide_eq_true hm, hy] at hx
          have hcw : w1.cell? ⟨b, p, none⟩ = some (.int .i64 y) := keep B1 hcs
          have HX := Lib.hid hx
          have HB := Lib.hid (And.intro h0 hm)
          clear hx h0 hm hcs hy
          refine wp_region_ext _ (by kernel_rfl) (by kernel_rfl) ?_
          repeat (first | go_big_quiet_skip | (go_big_quiet_want; go_big_quiet_op; first | go_big_quiet_on | (apply Exists.intro; refine ⟨fun _ => ?_, ?_⟩; (go_at_call 127; exact ext_call (QA.out _)); go_big_quiet_on)))
          refine wpQuiet_nil ?_
          rintro w3 ⟨⟨w3, hb3⟩, rfl⟩
          try dsimp only
          have G7' := keep hb3 G7
          have G8' := keep hb3 G8
          have G2' := keep hb3 G2
          have hcw' := keep hb3 hcw
          clear G7 G8 G2 hcw e1 e2 e7 e8
          go_wp2_with fail
          go_quiet (fail)
          go_wp2
          go_ret
          exact ⟨ret_bool HX.out.symm, (B1.after hb3 B1.size).drewN' _⟩
        · have t1 : decide (2 ^ N - 1 ≤ st) = true := by rw [decide_eq_true_eq]; omega
          rw [decide_eq_false hm, Bool.and_false, Bool.false_and] at hx
          have HX := Lib.hid hx
          clear hx h0 hm
          refine wp_region_ext _ (by kernel_rfl) (by kernel_rfl) ?_
          repeat (first | go_big_quiet_skip | (go_big_quiet_want; go_big_quiet_op; first | go_big_quiet_on | (apply Exists.intro; refine ⟨fun _ => ?_, ?_⟩; (go_at_call 127; exact ext_call (QA.out _)); go_big_quiet_on)))
          refine wpQuiet_nil ?_
          rintro w3 ⟨⟨w3, hb3⟩, rfl⟩
          try dsimp only
          go_wp2
          go_ret
          exact ⟨ret_bool HX.out.symm, B1.after hb3 B1.size⟩
      · have t0 : decide (st ≤ 0) = true := by rw [decide_eq_true_eq]; omega
        rw [decide_eq_false h0, Bool.false_and, Bool.false_and] at hx
        have HX := Lib.hid hx
        clear hx h0
        refine wp_region_ext _ (by kernel_rfl) (by kernel_rfl) ?_
        repeat (first | go_big_quiet_skip | (go_big_quiet_want; go_big_quiet_op; first | go_big_quiet_on | (apply Exists.intro; refine ⟨fun _ => ?_, ?_⟩; (go_at_call 127; exact ext_call (QA.out _)); go_big_quiet_on)))
        refine wpQuiet_nil ?_
        rintro w3 ⟨⟨w3, hb3⟩, rfl⟩
        try dsimp only
        go_wp2
        go_ret
        exact ⟨ret_bool HX.out.symm, B1.after hb3 B1.size⟩

set_option maxHeartbeats 1000000 in
set_option maxRecDepth 100000 in
theorem chkSunI_any (w : World) (k n1 : Int) (v1 : Value) (l1 : List Int) (h1 : Ints w v1 l1) (n2 : Int) (v2 : Value) (l2 : List Int) (h2 : Ints w v2 l2) (n3 : Int) (v3 : Value) (l3 : List Int) (h3 : Ints w v3 l3) (q st : Int) (v4 : Value) (l4 : List Int) (h4 : Ints w v4 l4) (hl : l3.length ≤ 1048576) :
    Calls Tryz.prog 141 #[clV k n1 v1 n2 v2 n3 v3 q st v4] w fun e w' => e = .returned (.bool (chkSun n3 l3 q l4)) ∧ Below w.heap.size w w' := by
  obtain ⟨a1, c1, rfl⟩ := h1.shape
  obtain ⟨a2, c2, rfl⟩ := h2.shape
  obtain ⟨a3, c3, rfl⟩ := h3.shape
  obtain ⟨a4, c4, rfl⟩ := h4.shape
  have K0 := Blk.new w 49 (clC k n1 (.slice a1 l1.length c1) n2 (.slice a2 l2.length c2) n3 (.slice a3 l3.length c3) q st (.slice a4 l4.length c4))
  have hfm := isFamI_any n3 l3 _ (w.alloc (.cells (clC k n1 (.slice a1 l1.length c1) n2 (.slice a2 l2.length c2) n3 (.slice a3 l3.length c3) q st (.slice a4 l4.length c4)) 49)) (h3.alloc _)
  cases hf : isFamB n3 l3 with
  | false =>
    have hx : chkSun n3 l3 q l4 = false := by unfold chkSun; rw [hf]; rfl
    rw [hf] at hfm
    have HX := Lib.hid hx
    have HFM := Lib.hid hfm
    clear hx hfm hf
    go_enter Tryz.func141, Tryz.ntmps141
    go_wp2_with fail
    refine HFM.out.mono ?_
    rintro e w1 ⟨rfl, b1⟩
    go_wp2
    go_ret
    exact ⟨ret_bool HX.out.symm, (bl1 _ _).after b1 (by simp)⟩
  | true =>
    rw [hf] at hfm
    have hx : chkSun n3 l3 q l4 = ((decide (1 ≤ l4.length) && q == (l4.length : Int)) && (l4.all (has l3) && isSunB l4)) := by unfold chkSun; rw [hf]; rfl
    have hasc := (famOk hf).2.2.2
    have HFM := Lib.hid hfm
    have HASC := Lib.hid hasc
    clear hfm hf hasc
    by_cases hlen : 1 ≤ l4.length
    · have hl1 : ¬ (l4.length : Int) < 1 := by omega
      rw [decide_eq_true hlen, Bool.true_and] at hx
      cases hq : q == (l4.length : Int) with
      | false =>
        have hqn : (q != (l4.length : Int)) = true := by rw [bne, hq]; rfl
        rw [hq, Bool.false_and] at hx
        have HX := Lib.hid hx
        clear hx hq
        go_enter Tryz.func141, Tryz.ntmps141
        go_wp2_with fail
        refine HFM.out.mono ?_
        rintro e w1 ⟨rfl, b1⟩
        have G := (K0.keep b1).cell
        go_wp2
        go_ret
        exact ⟨ret_bool HX.out.symm, (bl1 _ _).after b1 (by simp)⟩
      | true =>
        have hqn : (q != (l4.length : Int)) = false := by rw [bne, hq]; rfl
        rw [hq, Bool.true_and] at hx
        obtain ⟨_, b, off, _, hve, _, hix, hc, hb⟩ := h4.view Tryz.prog 22 3 Tryz.underlying22 intElem
        injection hve with x1 _ x3
        subst x1 x3
        have HX := Lib.hid hx
        have HC := Lib.hid hc
        have HIX := Lib.hid hix
        clear hx hq hc hix
        go_enter Tryz.func141, Tryz.ntmps141
        go_wp2_with fail
        refine HFM.out.mono ?_
        rintro e w1 ⟨rfl, b1⟩
        have B1 : Below w.heap.size w w1 := (bl1 _ _).after b1 (by simp)
        have K1 := K0.keep b1
        have G := K1.cell
        go_wp2_with fail
        clear G K0 b1
        go_loopw [26] (fun iv wr => ∃ j : Nat, j ≤ l4.length ∧ iv = .int .i64 j ∧ (l4.take j).all (has l3) = true ∧ Below w1.heap.size w1 wr) (fun iv _ => l4.length - (intOf iv).toNat)
        case atStart => exact ⟨0, Nat.zero_le _, rfl, rfl, Below.refl _ _⟩
        case round =>
          obtain ⟨j, hj, rfl, hall, Bw⟩ := hrel
          have HALL := Lib.hid hall
          clear hall
          have B4 := B1.after Bw B1.size
          have K4 := K1.keep Bw
          have G := K4.cell
          by_cases hlt : j < l4.length
          · have hlt2 : (j : Int) < (l4.length : Int) := by omega
            have ck := cells_below HC.out hb B4 (Nat.le_refl _) j hlt
            have ik := fun W => HIX.out W j hlt
            have hss := hasSet_any n3 l3 _ l4[j] wr (h3.below B4 (Nat.le_refl _)) HASC.out hl
            have htk := all_take_succ (has l3) l4 j hlt
            have hfa := all_false_k (has l3) l4 j hlt
            obtain ⟨s, hs⟩ : ∃ s, s = l4[j] := ⟨_, rfl⟩
            rw [← hs] at ck hss htk hfa
            obtain ⟨z, hz⟩ : ∃ z, z = has l3 s := ⟨_, rfl⟩
            rw [← hz] at hss htk hfa
            have HSS := Lib.hid hss
            have HTK := Lib.hid htk
            have HFA := Lib.hid hfa
            clear hs hz hss htk hfa
            cases z with
            | false =>
              have hx := HX.out.trans (by rw [HFA.out rfl]; rfl : (l4.all (has l3) && isSunB l4) = false)
              have HX2 := Lib.hid hx
              clear hx
              go_wp2_with fail
              refine HSS.out.mono ?_
              rintro e w5 ⟨rfl, b5⟩
              go_wp2
              go_ret
              exact ⟨ret_bool HX2.out.symm, B4.after b5 B4.size⟩
            | true =>
              have ha2 : (l4.take (j + 1)).all (has l3) = true := by rw [HTK.out, HALL.out]; rfl
              have HA2 := Lib.hid ha2
              clear ha2
              go_wp2_with fail
              refine HSS.out.mono ?_
              rintro e w5 ⟨rfl, b5⟩
              go_wp2
              go_roundw
              case rel => exact ⟨j + 1, by omega, by go_num, HA2.out, Bw.after b5 Bw.size⟩
              case measure => simp [intOf]; omega
          · have hlt2 : ¬ (j : Int) < (l4.length : Int) := by omega
            have hx : chkSun n3 l3 q l4 = isSunB l4 := by rw [HX.out, ← all_of_take _ l4 j (by omega), HALL.out, Bool.true_and]
            have HX2 := Lib.hid hx
            have hsn := isSunI_any l4 _ wr (h4.below B4 (Nat.le_refl _))
            have HSN := Lib.hid hsn
            clear hx hsn
            go_wp2_with fail
            refine HSN.out.mono ?_
            rintro e w5 ⟨rfl, b5⟩
            go_wp2
            go_ret
            exact ⟨ret_bool HX2.out.symm, B4.after b5 B4.size⟩
    · have hl1 : (l4.length : Int) < 1 := by omega
      rw [decide_eq_false hlen, Bool.false_and, Bool.false_and] at hx
      have HX := Lib.hid hx
      clear hx hlen
      go_enter Tryz.func141, Tryz.ntmps141
      go_wp2_with fail
      refine HFM.out.mono ?_
      rintro e w1 ⟨rfl, b1⟩
      have G := (K0.keep b1).cell
      go_wp2
      go_ret
      exact ⟨ret_bool HX.out.symm, (bl1 _ _).after b1 (by simp)⟩
end Go.Proofs.YtipejodijbjpcaaGreatDoor
end
section
namespace Go.Proofs.YtipejodijbjpcaaGreatDoor
open Go.RowKit Go.G5

theorem zero_cells {P : Program} {w : World} {a : Option Addr} {c : Nat} {l : List Int} (h : Ints w (.slice a l.length c) l) (T E : TypeId) (hT : P.underlying T = some (.slice E)) (hE : IntElem P E) (h3 : l.length = 3) :
    ∃ b off, w.cell? ⟨b, off, none⟩ = some (.int .i64 (l.getD 0 0)) ∧ w.cell? ⟨b, off + 1, none⟩ = some (.int .i64 (l.getD 1 0)) ∧ w.cell? ⟨b, off + 2, none⟩ = some (.int .i64 (l.getD 2 0)) ∧
      (∀ W, (Instr.indexAt T (.slice a l.length c) (.int .i64 0)).run P W = .ok (.pointer (some ⟨b, off, none⟩)) W) ∧ (∀ W, (Instr.indexAt T (.slice a l.length c) (.int .i64 1)).run P W = .ok (.pointer (some ⟨b, off + 1, none⟩)) W) ∧
      (∀ W, (Instr.indexAt T (.slice a l.length c) (.int .i64 2)).run P W = .ok (.pointer (some ⟨b, off + 2, none⟩)) W) := by
  obtain ⟨_, b, off, _, hve, _, hix, hc, hb⟩ := h.view P T E hT hE
  injection hve with x1 _ x3
  subst x1 x3
  have g : ∀ k, (hk : k < l.length) → l[k] = l.getD k 0 := fun k hk => by rw [getD_at l k hk]
  have c0 := hc 0 (by omega)
  have c1 := hc 1 (by omega)
  have c2 := hc 2 (by omega)
  rw [g] at c0 c1 c2
  exact ⟨b, off, c0, c1, c2, fun W => by have := hix W 0 (by omega); simpa using this, fun W => by have := hix W 1 (by omega); simpa using this, fun W => by have := hix W 2 (by omega); simpa using this⟩
theorem el_nat {N : Nat} {e : Int} (h : isElB (N : Int) e = true) : ∃ i : Nat, e = (i : Int) ∧ i < N := by
  unfold isElB at h
  simp only [Bool.and_eq_true, decide_eq_true_eq] at h
  obtain ⟨i, rfl⟩ := Int.eq_ofNat_of_zero_le h.1
  exact ⟨i, rfl, by omega⟩
set_option maxHeartbeats 2000000 in
set_option maxRecDepth 100000 in
theorem chkVioI_any (w : World) (k n1 : Int) (v1 : Value) (l1 : List Int) (h1 : Ints w v1 l1) (n2 : Int) (v2 : Value) (l2 : List Int) (h2 : Ints w v2 l2) (n3 : Int) (v3 : Value) (l3 : List Int) (h3 : Ints w v3 l3) (q st : Int) (v4 : Value) (l4 : List Int) (h4 : Ints w v4 l4) :
    Calls Tryz.prog 137 #[clV k n1 v1 n2 v2 n3 v3 q st v4] w fun e w' => e = .returned (.bool (chkVio n1 l1 l4)) ∧ Below w.heap.size w w' := by
  obtain ⟨a1, c1, rfl⟩ := h1.shape
  obtain ⟨a2, c2, rfl⟩ := h2.shape
  obtain ⟨a3, c3, rfl⟩ := h3.shape
  obtain ⟨a4, c4, rfl⟩ := h4.shape
  have K0 := Blk.new w 49 (clC k n1 (.slice a1 l1.length c1) n2 (.slice a2 l2.length c2) n3 (.slice a3 l3.length c3) q st (.slice a4 l4.length c4))
  obtain ⟨V0, hV0⟩ : ∃ V, V = (w.alloc (.cells (clC k n1 (.slice a1 l1.length c1) n2 (.slice a2 l2.length c2) n3 (.slice a3 l3.length c3) q st (.slice a4 l4.length c4)) 49)).alloc (.cells #[.int .i64 n1, .slice a1 l1.length c1] 32) := ⟨_, rfl⟩
  have B0 : Below w.heap.size w V0 := by rw [hV0]; exact bl2 _ _ _
  have K0' : Blk V0 w.heap.size 49 (clC k n1 (.slice a1 l1.length c1) n2 (.slice a2 l2.length c2) n3 (.slice a3 l3.length c3) q st (.slice a4 l4.length c4)) := by rw [hV0]; exact K0.alloc _
  have KF : Blk V0 (w.heap.size + 1) 32 #[.int .i64 n1, .slice a1 l1.length c1] := by
    rw [hV0]
    have := Blk.new (w.alloc (.cells (clC k n1 (.slice a1 l1.length c1) n2 (.slice a2 l2.length c2) n3 (.slice a3 l3.length c3) q st (.slice a4 l4.length c4)) 49)) 32 #[.int .i64 n1, .slice a1 l1.length c1]
    simpa using this
  have hfn := isFunI_any n1 l1 _ V0 (h1.below B0 (Nat.le_refl _))
  have HV0 := Lib.hid hV0
  have hfn2 : ∀ V, V = V0 → Calls Tryz.prog 111 #[.agg #[.int .i64 n1, .slice a1 l1.length c1]] V fun e w' => e = .returned (.bool (isFunB n1 l1)) ∧ Below V.heap.size V w' := fun V h => by rw [h]; exact hfn
  have HFN := Lib.hid hfn2
  clear hfn hfn2 hV0 K0
  cases hf : isFunB n1 l1 with
  | false =>
    have hx : chkVio n1 l1 l4 = false := by unfold chkVio; rw [hf]; rfl
    rw [hf] at HFN
    have HX := Lib.hid hx
    clear hx hf
    go_enter Tryz.func137, Tryz.ntmps137
    go_wp2_with fail
    refine (HFN.out _ HV0.out.symm).mono ?_
    rintro e w1 ⟨rfl, b1⟩
    have hsz : w.heap.size ≤ (w.alloc (.cells (clC k n1 (.slice a1 l1.length c1) n2 (.slice a2 l2.length c2) n3 (.slice a3 l3.length c3) q st (.slice a4 l4.length c4)) 49)).heap.size + 1 := by simp
    go_wp2
    go_ret
    exact ⟨ret_bool HX.out.symm, (bl2 _ _ _).after b1 (bl2 _ _ _).size⟩
  | true =>
    rw [hf] at HFN
    obtain ⟨N, rfl, hN, hll, _, hbd⟩ := fun_nat hf
    by_cases h3l : l4.length = 3
    · have hx : chkVio (N : Int) l1 l4 = (vioS (N : Int) (l4.getD 0 0) (l4.getD 1 0) (l4.getD 2 0) && vioT l1 (l4.getD 0 0) (l4.getD 1 0) (l4.getD 2 0)) := by unfold chkVio; rw [hf, decide_eq_true h3l]; rfl
      have ht3 : ((l4.length : Int) != 3) = false := by rw [h3l]; rfl
      obtain ⟨b, off, d0, d1, d2, i0, i1, i2⟩ := zero_cells h4 22 3 Tryz.underlying22 intElem h3l
      obtain ⟨s, hs⟩ : ∃ s, s = l4.getD 0 0 := ⟨_, rfl⟩
      obtain ⟨i, hi⟩ : ∃ s, s = l4.getD 1 0 := ⟨_, rfl⟩
      obtain ⟨j, hj⟩ : ∃ s, s = l4.getD 2 0 := ⟨_, rfl⟩
      rw [← hs] at hx d0
      rw [← hi] at hx d1
      rw [← hj] at hx d2
      have hso := fun W => isSetOf_any N s W (by omega)
      have hei := fun W => isElem_any (N : Int) i W
      have hek := fun W => isElem_any (N : Int) j W
      have hex := fun (si ii ji : Nat) (g1 : si < 2 ^ N) (g2 : ii < N) (g3 : ji < N) (W : World) (h : Ints W (.slice a1 l1.length c1) l1) => excess_any N hN l1 _ W h hll hbd si ii ji g1 g2 g3
      have hbs : vioS (N : Int) s i j = (((isSet N s && isElB (N : Int) i) && isElB (N : Int) j) && i != j) := by unfold vioS; rw [Int.toNat_natCast]
      obtain ⟨bI, hbI⟩ : ∃ b, b = isElB (N : Int) i := ⟨_, rfl⟩
      obtain ⟨bK, hbK⟩ : ∃ b, b = isElB (N : Int) j := ⟨_, rfl⟩
      have hei : ∀ W, Calls Tryz.prog 248 #[.int .i64 (N : Int), .int .i64 i] W fun e' w' => e' = .returned (.bool bI) ∧ W = w' := fun W => by rw [hbI]; exact hei W
      have hek : ∀ W, Calls Tryz.prog 248 #[.int .i64 (N : Int), .int .i64 j] W fun e' w' => e' = .returned (.bool bK) ∧ W = w' := fun W => by rw [hbK]; exact hek W
      rw [← hbI, ← hbK] at hbs
      have HEI := Lib.hid hei
      have HEK := Lib.hid hek
      have HEX := Lib.hid hex
      have HBI := Lib.hid hbI
      have HBK := Lib.hid hbK
      clear hei hek hex hbI hbK h3l hs hi hj hll hbd hf
      cases bS : isSet N s with
      | false =>
        rw [bS] at hso hbs
        have HSO := Lib.hid hso
        have hx2 : chkVio (N : Int) l1 l4 = false := by rw [hx, hbs]; rfl
        have HX := Lib.hid hx2
        clear hx hx2 hbs hso bS
        go_enter Tryz.func137, Tryz.ntmps137
        go_wp2_with fail
        refine (HFN.out _ HV0.out.symm).mono ?_
        rintro e w1 ⟨rfl, b1⟩
        rw [HV0.out.symm] at b1
        have B1 := B0.after b1 B0.size
        have G := (K0'.keep b1).cell
        have F := (KF.keep b1).cell
        have d0 := keep B1 d0
        have d1 := keep B1 d1
        have d2 := keep B1 d2
        go_wp2_with fail
        go_quiet (fail)
        go_wp2_with (first | (go_at_call 229; refine (HSO.out _).mono ?_; rintro e w' ⟨rfl, rfl⟩) | (go_at_call 248; first | (with_reducible refine (HEI.out _).mono ?_; rintro e w' ⟨rfl, rfl⟩) | (with_reducible refine (HEK.out _).mono ?_; rintro e w' ⟨rfl, rfl⟩)))
        go_ret
        exact ⟨ret_bool HX.out.symm, B1.drewN' _⟩
      | true =>
        rw [bS] at hso hbs
        have HSO := Lib.hid hso
        clear hso
        cases bI with
        | false =>
          have hx2 : chkVio (N : Int) l1 l4 = false := by rw [hx, hbs]; rfl
          have HX := Lib.hid hx2
          clear hx hx2 hbs bS
          go_enter Tryz.func137, Tryz.ntmps137
          go_wp2_with fail
          refine (HFN.out _ HV0.out.symm).mono ?_
          rintro e w1 ⟨rfl, b1⟩
          rw [HV0.out.symm] at b1
          have B1 := B0.after b1 B0.size
          have G := (K0'.keep b1).cell
          have F := (KF.keep b1).cell
          have d0 := keep B1 d0
          have d1 := keep B1 d1
          have d2 := keep B1 d2
          go_wp2_with fail
          go_quiet (fail)
          go_wp2_with (first | (go_at_call 229; refine (HSO.out _).mono ?_; rintro e w' ⟨rfl, rfl⟩) | (go_at_call 248; first | (with_reducible refine (HEI.out _).mono ?_; rintro e w' ⟨rfl, rfl⟩) | (with_reducible refine (HEK.out _).mono ?_; rintro e w' ⟨rfl, rfl⟩)))
          go_ret
          exact ⟨ret_bool HX.out.symm, B1.drewN' _⟩
        | true =>
          cases bK with
          | false =>
            have hx2 : chkVio (N : Int) l1 l4 = false := by rw [hx, hbs]; rfl
            have HX := Lib.hid hx2
            clear hx hx2 hbs bS
            go_enter Tryz.func137, Tryz.ntmps137
            go_wp2_with fail
            refine (HFN.out _ HV0.out.symm).mono ?_
            rintro e w1 ⟨rfl, b1⟩
            rw [HV0.out.symm] at b1
            have B1 := B0.after b1 B0.size
            have G := (K0'.keep b1).cell
            have F := (KF.keep b1).cell
            have d0 := keep B1 d0
            have d1 := keep B1 d1
            have d2 := keep B1 d2
            go_wp2_with fail
            go_quiet (fail)
            go_wp2_with (first | (go_at_call 229; refine (HSO.out _).mono ?_; rintro e w' ⟨rfl, rfl⟩) | (go_at_call 248; first | (with_reducible refine (HEI.out _).mono ?_; rintro e w' ⟨rfl, rfl⟩) | (with_reducible refine (HEK.out _).mono ?_; rintro e w' ⟨rfl, rfl⟩)))
            go_ret
            exact ⟨ret_bool HX.out.symm, B1.drewN' _⟩
          | true =>
            cases hij : i == j with
            | true =>
              have hx2 : chkVio (N : Int) l1 l4 = false := by rw [hx, hbs, bne, hij]; rfl
              have HX := Lib.hid hx2
              clear hx hx2 hbs bS
              go_enter Tryz.func137, Tryz.ntmps137
              go_wp2_with fail
              refine (HFN.out _ HV0.out.symm).mono ?_
              rintro e w1 ⟨rfl, b1⟩
              rw [HV0.out.symm] at b1
              have B1 := B0.after b1 B0.size
              have G := (K0'.keep b1).cell
              have F := (KF.keep b1).cell
              have d0 := keep B1 d0
              have d1 := keep B1 d1
              have d2 := keep B1 d2
              go_wp2_with fail
              go_quiet (fail)
              go_wp2_with (first | (go_at_call 229; refine (HSO.out _).mono ?_; rintro e w' ⟨rfl, rfl⟩) | (go_at_call 248; first | (with_reducible refine (HEI.out _).mono ?_; rintro e w' ⟨rfl, rfl⟩) | (with_reducible refine (HEK.out _).mono ?_; rintro e w' ⟨rfl, rfl⟩)))
              go_ret
              exact ⟨ret_bool HX.out.symm, B1.drewN' _⟩
            | false =>
              have hx2 : chkVio (N : Int) l1 l4 = vioT l1 s i j := by rw [hx, hbs, bne, hij]; rfl
              obtain ⟨si, rfl, hsi⟩ := set_nat bS
              obtain ⟨ii, rfl, hii⟩ := el_nat HBI.out.symm
              obtain ⟨ji, rfl, hji⟩ := el_nat HBK.out.symm
              have hxx := HEX.out si ii ji hsi hii hji
              have hv : vioT l1 (si : Int) (ii : Int) (ji : Int) = ((!nbit si ii && !nbit si ji) && badB l1 (si, ii, ji)) := by unfold vioT; simp only [Int.toNat_natCast]
              have hbad : badB l1 (si, ii, ji) = decide (0 < exL l1 si ii ji) := rfl
              obtain ⟨E, hE⟩ : ∃ E, E = exL l1 si ii ji := ⟨_, rfl⟩
              simp only [← hE] at hxx
              rw [← hE] at hbad
              have h32 : (2 : Nat) ^ N ≤ 2 ^ 5 := Nat.pow_le_pow_right (by decide) hN
              have hb1 := bit_is (si : Int) ii (by omega) (by omega)
              have hb2 := bit_is (si : Int) ji (by omega) (by omega)
              have hz1 := ibit_zero si ii
              have hz2 := ibit_zero si ji
              obtain ⟨z1, hz1e⟩ : ∃ y, y = ibit (si : Int) ii := ⟨_, rfl⟩
              obtain ⟨z2, hz2e⟩ : ∃ y, y = ibit (si : Int) ji := ⟨_, rfl⟩
              rw [← hz1e] at hb1 hz1
              rw [← hz2e] at hb2 hz2
              rw [hv, hbad, ← hz1, ← hz2] at hx2
              have HX := Lib.hid hx2
              have HXX := Lib.hid hxx
              have hi6 : ii < 6 := by omega
              have hj6 : ji < 6 := by omega
              have hs32 : si < 32 := by omega
              have HP := Lib.hid h1
              clear hx hx2 hbs bS hv hbad hxx hz1 hz2 hz1e hz2e hE hsi hii hji h32
              go_enter Tryz.func137, Tryz.ntmps137
              go_wp2_with fail
              refine (HFN.out _ HV0.out.symm).mono ?_
              rintro e w1 ⟨rfl, b1⟩
              rw [HV0.out.symm] at b1
              have B1 := B0.after b1 B0.size
              have G := (K0'.keep b1).cell
              have F := (KF.keep b1).cell
              have d0 := keep B1 d0
              have d1 := keep B1 d1
              have d2 := keep B1 d2
              go_wp2_with fail
              go_quiet (fail)
              cases hzz : z1 == 0 with
              | false =>
                rw [hzz] at HX
                go_wp2_with (first | (go_at_call 229; refine (HSO.out _).mono ?_; rintro e w' ⟨rfl, rfl⟩) | (go_at_call 248; first | (with_reducible refine (HEI.out _).mono ?_; rintro e w' ⟨rfl, rfl⟩) | (with_reducible refine (HEK.out _).mono ?_; rintro e w' ⟨rfl, rfl⟩)))
                go_ret
                exact ⟨ret_bool HX.out.symm, B1.drewN' _⟩
              | true =>
                rw [hzz] at HX
                cases hz2 : z2 == 0 with
                | false =>
                  rw [hz2] at HX
                  go_wp2_with (first | (go_at_call 229; refine (HSO.out _).mono ?_; rintro e w' ⟨rfl, rfl⟩) | (go_at_call 248; first | (with_reducible refine (HEI.out _).mono ?_; rintro e w' ⟨rfl, rfl⟩) | (with_reducible refine (HEK.out _).mono ?_; rintro e w' ⟨rfl, rfl⟩)))
                  go_ret
                  exact ⟨ret_bool HX.out.symm, B1.drewN' _⟩
                | true =>
                  rw [hz2] at HX
                  go_wp2_with (first | (go_at_call 229; refine (HSO.out _).mono ?_; rintro e w' ⟨rfl, rfl⟩) | (go_at_call 248; first | (with_reducible refine (HEI.out _).mono ?_; rintro e w' ⟨rfl, rfl⟩) | (with_reducible refine (HEK.out _).mono ?_; rintro e w' ⟨rfl, rfl⟩)))
                  refine (HXX.out _ ((HP.out.below B1 (Nat.le_refl _)).drewN _)).mono ?_
                  rintro e w5 ⟨rfl, b5⟩
                  go_wp2
                  go_ret
                  exact ⟨ret_bool HX.out.symm, (B1.drewN' _).after b5 (B1.drewN' _).size⟩
    · have hx : chkVio (N : Int) l1 l4 = false := by unfold chkVio; rw [decide_eq_false h3l, Bool.and_false, Bool.false_and]
      have ht3 : ((l4.length : Int) != 3) = true := by simp; omega
      have HX := Lib.hid hx
      clear hx h3l hll hbd hf
      go_enter Tryz.func137, Tryz.ntmps137
      go_wp2_with fail
      refine (HFN.out _ HV0.out.symm).mono ?_
      rintro e w1 ⟨rfl, b1⟩
      rw [HV0.out.symm] at b1
      have B1 := B0.after b1 B0.size
      have G := (K0'.keep b1).cell
      go_wp2
      go_ret
      exact ⟨ret_bool HX.out.symm, B1⟩
end Go.Proofs.YtipejodijbjpcaaGreatDoor
end
section
namespace Go.Proofs.YtipejodijbjpcaaGreatDoor
open Go.RowKit Go.G5

theorem sgl_bd {N : Nat} {l : List Int} (h : isFunB (N : Int) l = true) : ∀ k, (hk : k < (sglL (N : Int) l).length) → -1000 ≤ (sglL (N : Int) l)[k] ∧ (sglL (N : Int) l)[k] ≤ 1000 := by
  obtain ⟨N', hN', _, _, _, hbd⟩ := fun_nat h
  have hm : ∀ y ∈ sglL (N : Int) l, -1000 ≤ y ∧ y ≤ 1000 := by
    intro y hy
    unfold sglL at hy
    obtain ⟨e, _, rfl⟩ := List.mem_map.1 hy
    rw [List.getD_eq_getElem?_getD]
    cases he : l[2 ^ e]? with
    | none => simp
    | some y =>
      obtain ⟨hlt, rfl⟩ := List.getElem?_eq_some_iff.1 he
      exact hbd _ hlt
  exact fun k hk => hm _ (List.getElem_mem hk)
set_option maxHeartbeats 1000000 in
set_option maxRecDepth 100000 in
theorem chkBaseI_any (w : World) (k n1 : Int) (v1 : Value) (l1 : List Int) (h1 : Ints w v1 l1) (n2 : Int) (v2 : Value) (l2 : List Int) (h2 : Ints w v2 l2) (n3 : Int) (v3 : Value) (l3 : List Int) (h3 : Ints w v3 l3) (q st : Int) (v4 : Value) (l4 : List Int) (h4 : Ints w v4 l4) (hl1 : l1.length ≤ 1048576) (hl2 : l2.length ≤ 1048576) :
    Calls Tryz.prog 138 #[clV k n1 v1 n2 v2 n3 v3 q st v4] w fun e w' => e = .returned (.bool (chkBase n1 l1 n2 l2 q l4)) ∧ Below w.heap.size w w' := by
  obtain ⟨a1, c1, rfl⟩ := h1.shape
  obtain ⟨a2, c2, rfl⟩ := h2.shape
  obtain ⟨a3, c3, rfl⟩ := h3.shape
  obtain ⟨a4, c4, rfl⟩ := h4.shape
  have K0 := Blk.new w 49 (clC k n1 (.slice a1 l1.length c1) n2 (.slice a2 l2.length c2) n3 (.slice a3 l3.length c3) q st (.slice a4 l4.length c4))
  have hgr := isGrI_any n2 l2 _ (w.alloc (.cells (clC k n1 (.slice a1 l1.length c1) n2 (.slice a2 l2.length c2) n3 (.slice a3 l3.length c3) q st (.slice a4 l4.length c4)) 49)) (h2.alloc _)
  cases hg : isGrB n2 l2 with
  | false =>
    have hx : chkBase n1 l1 n2 l2 q l4 = false := by unfold chkBase; rw [hg]; rfl
    rw [hg] at hgr
    have HX := Lib.hid hx
    have HGR := Lib.hid hgr
    clear hx hgr hg
    go_enter Tryz.func138, Tryz.ntmps138
    go_wp2_with fail
    refine HGR.out.mono ?_
    rintro e w1 ⟨rfl, b1⟩
    go_wp2
    go_ret
    exact ⟨ret_bool HX.out.symm, (bl1 _ _).after b1 (by simp)⟩
  | true =>
    rw [hg] at hgr
    have hfn : isFunB n2 l2 = true := by
      have h := hg
      unfold isGrB at h
      rw [Bool.and_eq_true] at h
      exact h.1
    have hmo := fun W (h : Ints W (.slice a2 l2.length c2) l2) => modulI_any n2 l2 _ W h hl2
    cases hm : modulB n2 l2 with
    | false =>
      have hx : chkBase n1 l1 n2 l2 q l4 = false := by unfold chkBase; rw [hg, hm]; rfl
      simp only [hm] at hmo
      have HX := Lib.hid hx
      have HGR := Lib.hid hgr
      have HMO := Lib.hid hmo
      clear hx hgr hg hmo hm hfn
      go_enter Tryz.func138, Tryz.ntmps138
      go_wp2_with fail
      refine HGR.out.mono ?_
      rintro e w1 ⟨rfl, b1⟩
      have B1 : Below w.heap.size w w1 := (bl1 _ _).after b1 (by simp)
      have G := (K0.keep b1).cell
      go_wp2_with fail
      refine (HMO.out w1 (h2.below B1 (Nat.le_refl _))).mono ?_
      rintro e w2 ⟨rfl, b2⟩
      go_wp2
      go_ret
      exact ⟨ret_bool HX.out.symm, B1.after b2 B1.size⟩
    | true =>
      simp only [hm] at hmo
      cases hn : n2 == n1 with
      | false =>
        have hx : chkBase n1 l1 n2 l2 q l4 = false := by unfold chkBase; rw [hg, hm, hn]; rfl
        have hnn : (n2 != n1) = true := by rw [bne, hn]; rfl
        have HX := Lib.hid hx
        have HGR := Lib.hid hgr
        have HMO := Lib.hid hmo
        clear hx hgr hg hmo hm hfn hn
        go_enter Tryz.func138, Tryz.ntmps138
        go_wp2_with fail
        refine HGR.out.mono ?_
        rintro e w1 ⟨rfl, b1⟩
        have B1 : Below w.heap.size w w1 := (bl1 _ _).after b1 (by simp)
        have G := (K0.keep b1).cell
        go_wp2_with fail
        refine (HMO.out w1 (h2.below B1 (Nat.le_refl _))).mono ?_
        rintro e w2 ⟨rfl, b2⟩
        have G2 := ((K0.keep b1).keep b2).cell
        clear G
        go_wp2
        go_ret
        exact ⟨ret_bool HX.out.symm, B1.after b2 B1.size⟩
      | true =>
        have hn12 : n2 = n1 := by simpa using hn
        subst hn12
        have hx : chkBase n2 l1 n2 l2 q l4 = (bestB n2 l1 (sglL n2 l2) l4 && q == prodTo (sglL n2 l2) l4 (sglL n2 l2).length) := by unfold chkBase; rw [hg, hm, hn]; rfl
        obtain ⟨N, rfl, hN, hq1, hq2, hq3⟩ := fun_nat hfn
        have hnn : ((N : Int) != (N : Int)) = false := by simp
        have hsg := fun W (h : Ints W (.slice a2 l2.length c2) l2) => singleI_any W N _ l2 h hfn
        have hsl := sglL_len N l2
        have hsb := sgl_bd hfn
        obtain ⟨X, hX⟩ : ∃ X, X = sglL (N : Int) l2 := ⟨_, rfl⟩
        rw [← hX] at hx hsl hsb
        simp only [← hX] at hsg
        obtain ⟨bb, hbb⟩ : ∃ b, b = bestB (N : Int) l1 X l4 := ⟨_, rfl⟩
        have hbe := fun W (u : Value) (h : Ints W (.slice a1 l1.length c1) l1) (hu : Ints W u X) (h' : Ints W (.slice a4 l4.length c4) l4) => bestI_any W (N : Int) _ l1 h hl1 u X hu _ l4 h'
        simp only [← hbb] at hbe
        rw [← hbb] at hx
        have hpr : bb = true → ∀ W (u : Value), Ints W u X → Ints W (.slice a4 l4.length c4) l4 → Calls Tryz.prog 252 #[u, .slice a4 l4.length c4] W fun e w' => e = .returned (.int .i64 (prodTo X l4 X.length)) ∧ Below W.heap.size W w' := fun hb W u hu h' => by
          rw [hbb] at hb
          have hbl : belB (N : Int) l1 l4 = true := by
            unfold bestB at hb
            simp only [Bool.and_eq_true] at hb
            exact base_bel hb.1.2
          obtain ⟨hyn, hyb⟩ := longOk (bel_parts hbl).2
          exact product_any5 X l4 u _ W hu h' (by omega) (by omega) hsb hyb
        obtain ⟨P, hP⟩ : ∃ P, P = prodTo X l4 X.length := ⟨_, rfl⟩
        rw [← hP] at hx
        simp only [← hP] at hpr
        have HX := Lib.hid hx
        have HGR := Lib.hid hgr
        have HMO := Lib.hid hmo
        have HSG := Lib.hid hsg
        have HBE := Lib.hid hbe
        have HPR := Lib.hid hpr
        clear hx hgr hg hmo hm hfn hn hsg hbe hpr hP hbb hX hsl hsb hq1 hq2 hq3
        go_enter Tryz.func138, Tryz.ntmps138
        go_wp2_with fail
        refine HGR.out.mono ?_
        rintro e w1 ⟨rfl, b1⟩
        have B1 : Below w.heap.size w w1 := (bl1 _ _).after b1 (by simp)
        have K1 := K0.keep b1
        have G := K1.cell
        go_wp2_with fail
        refine (HMO.out w1 (h2.below B1 (Nat.le_refl _))).mono ?_
        rintro e w2 ⟨rfl, b2⟩
        have B2 := B1.after b2 B1.size
        have K2 := K1.keep b2
        clear G K0 b1 B1 K1 b2
        have G := K2.cell
        go_wp2_with fail
        refine (HSG.out w2 (h2.below B2 (Nat.le_refl _))).mono ?_
        rintro e w3 ⟨ps, is, qs, rfl, os, b3⟩
        have his : is = X.length := os.ints.capLe.1
        subst his
        have B3 := B2.after b3 B2.size
        have K3 := K2.keep b3
        clear G K2 B2 b3
        have G := K3.cell
        have hX3 := os.ints
        have h13 := h1.below B3 (Nat.le_refl _)
        have h43 := h4.below B3 (Nat.le_refl _)
        have QB := Lib.hid (fun z : Ext w3 => HBE.out z.w _ (z.ints h13) (z.ints hX3) (z.ints h43))
        have QP := Lib.hid (fun (hb : bb = true) (z : Ext w3) => HPR.out hb z.w _ (z.ints hX3) (z.ints h43))
        have e1 : ∀ z : Ext w3, z.w.cell? ⟨w.heap.size, 1, none⟩ = some (.int .i64 (N : Int)) := fun z => z.cell (G 1)
        have e2 : ∀ z : Ext w3, z.w.cell? ⟨w.heap.size, 2, none⟩ = some (.slice a1 l1.length c1) := fun z => z.cell (G 2)
        have e7 : ∀ z : Ext w3, z.w.cell? ⟨w.heap.size, 7, none⟩ = some (.int .i64 q) := fun z => z.cell (G 7)
        have e9 : ∀ z : Ext w3, z.w.cell? ⟨w.heap.size, 9, none⟩ = some (.slice a4 l4.length c4) := fun z => z.cell (G 9)
        go_wp2_with fail
        clear G os
        cases bb with
        | false =>
          refine wp_region_ext _ (by kernel_rfl) (by kernel_rfl) ?_
          repeat (first | go_big_quiet_skip | (go_big_quiet_want; go_big_quiet_op; first | go_big_quiet_on | (apply Exists.intro; refine ⟨fun _ => ?_, ?_⟩; (first | (go_at_call 251; exact ext_call (QB.out _)) | (go_at_call 252; exact ext_call (QP.out rfl _))); go_big_quiet_on)))
          refine wpQuiet_nil ?_
          rintro w4 ⟨⟨w4, hb4⟩, rfl⟩
          try dsimp only
          go_wp2
          go_ret
          exact ⟨ret_bool HX.out.symm, B3.after hb4 B3.size⟩
        | true =>
          refine wp_region_ext _ (by kernel_rfl) (by kernel_rfl) ?_
          repeat (first | go_big_quiet_skip | (go_big_quiet_want; go_big_quiet_op; first | go_big_quiet_on | (apply Exists.intro; refine ⟨fun _ => ?_, ?_⟩; (first | (go_at_call 251; exact ext_call (QB.out _)) | (go_at_call 252; exact ext_call (QP.out rfl _))); go_big_quiet_on)))
          refine wpQuiet_nil ?_
          rintro w4 ⟨⟨w4, hb4⟩, rfl⟩
          try dsimp only
          go_wp2
          go_ret
          exact ⟨ret_bool HX.out.symm, B3.after hb4 B3.size⟩
end Go.Proofs.YtipejodijbjpcaaGreatDoor
end
