/- The check of claims: sunflowers and the condition of Hall: the second program. -/
import Derived.Test.YtelmokapdkepbaaGreatQ35
section
namespace Go.Proofs.YtelmokapdkepbaaGreat
open Go.RowKit Go.G5

set_option maxHeartbeats 4000000 in
set_option maxRecDepth 100000 in
theorem chkS6_any (w : World) (n1 : Int) (v1 : Value) (l1 : List Int) (h1 : Ints w v1 l1) (n2 : Int) (v2 : Value) (l2 : List Int) (h2 : Ints w v2 l2) (n3 : Int) (v3 : Value) (l3 : List Int) (h3 : Ints w v3 l3) (q st : Int) (v4 : Value) (l4 : List Int) (h4 : Ints w v4 l4) :
    Calls Tryz.prog 5 #[clV 6 n1 v1 n2 v2 n3 v3 q st v4] w fun e w' => e = .returned (.bool (chkSun n3 l3 q l4)) ∧ Below w.heap.size w w' := by
  obtain ⟨a1, c1, rfl⟩ := h1.shape
  obtain ⟨a2, c2, rfl⟩ := h2.shape
  obtain ⟨a3, c3, rfl⟩ := h3.shape
  obtain ⟨a4, c4, rfl⟩ := h4.shape
  have K0 := Blk.new w 34 (clC 6 n1 (.slice a1 l1.length c1) n2 (.slice a2 l2.length c2) n3 (.slice a3 l3.length c3) q st (.slice a4 l4.length c4))
  obtain ⟨V0, hV0⟩ : ∃ V, V = (w.alloc (.cells (clC 6 n1 (.slice a1 l1.length c1) n2 (.slice a2 l2.length c2) n3 (.slice a3 l3.length c3) q st (.slice a4 l4.length c4)) 34)).alloc (.cells #[.int .i64 n1, .slice a1 l1.length c1] 31) := ⟨_, rfl⟩
  have B0 : Below w.heap.size w V0 := by rw [hV0]; exact bl2 _ _ _
  have K0' : Blk V0 w.heap.size 34 (clC 6 n1 (.slice a1 l1.length c1) n2 (.slice a2 l2.length c2) n3 (.slice a3 l3.length c3) q st (.slice a4 l4.length c4)) := by rw [hV0]; exact K0.alloc _
  have KF : Blk V0 (w.heap.size + 1) 31 #[.int .i64 n1, .slice a1 l1.length c1] := by
    rw [hV0]
    have := Blk.new (w.alloc (.cells (clC 6 n1 (.slice a1 l1.length c1) n2 (.slice a2 l2.length c2) n3 (.slice a3 l3.length c3) q st (.slice a4 l4.length c4)) 34)) 31 #[.int .i64 n1, .slice a1 l1.length c1]
    simpa using this
  have HV0 := Lib.hid hV0
  have g1 := h1.below B0 (Nat.le_refl _)
  have g2 := h2.below B0 (Nat.le_refl _)
  have g3 := h3.below B0 (Nat.le_refl _)
  have g4 := h4.below B0 (Nat.le_refl _)
  clear hV0 K0
  have hx : chkSun n3 l3 q l4 = (l4.all (has l3) && (((isFamB n3 l3 && isSunB l4) && (l4.length : Int) == q) && decide (1 ≤ q))) := by
    unfold chkSun
    have hq1 : (q == (l4.length : Int)) = ((l4.length : Int) == q) := by rw [Bool.eq_iff_iff, beq_iff_eq, beq_iff_eq]; exact eq_comm
    rw [hq1]
    cases hq : (l4.length : Int) == q with
    | false => simp
    | true =>
      have hqe : (l4.length : Int) = q := by simpa using hq
      have hd : decide (1 ≤ l4.length) = decide (1 ≤ q) := by rw [Bool.eq_iff_iff, decide_eq_true_eq, decide_eq_true_eq]; omega
      rw [hd]
      cases isFamB n3 l3 <;> cases decide (1 ≤ q) <;> cases l4.all (has l3) <;> cases isSunB l4 <;> rfl
  obtain ⟨_, b, off, _, hve, _, hix, hc, hb⟩ := h4.view Tryz.prog 22 3 Tryz.underlying22 intElem
  injection hve with x1 _ x3
  subst x1 x3
  have HX := Lib.hid hx
  have HC := Lib.hid hc
  have HIX := Lib.hid hix
  clear hx hc hix
  go_enter Tryz.func5, Tryz.ntmps5
  go_wp2_with fail
  rw [HV0.out.symm]
  go_loopw [14] (fun iv wr => ∃ j : Nat, j ≤ l4.length ∧ iv = .int .i64 j ∧ (l4.take j).all (has l3) = true ∧ Below V0.heap.size V0 wr) (fun iv _ => l4.length - (intOf iv).toNat)
  case atStart => exact ⟨0, Nat.zero_le _, rfl, rfl, Below.refl _ _⟩
  case round =>
    obtain ⟨j, hj, rfl, hall, Bw⟩ := hrel
    have HALL := Lib.hid hall
    clear hall
    have B4 := B0.after Bw B0.size
    have K4 := K0'.keep Bw
    have G := K4.cell
    have h4w := h4.below B4 (Nat.le_refl _)
    have h3w := h3.below B4 (Nat.le_refl _)
    by_cases hlt : j < l4.length
    · have hlt2 : (j : Int) < (l4.length : Int) := by omega
      have ck := cells_below HC.out hb B4 (Nat.le_refl _) j hlt
      have ik := fun W => HIX.out W j hlt
      have htk := all_take_succ (has l3) l4 j hlt
      have hfa := all_false_k (has l3) l4 j hlt
      obtain ⟨s, hs⟩ : ∃ s, s = l4[j] := ⟨_, rfl⟩
      rw [← hs] at ck htk hfa
      have hss := fun z : Ext wr => l10Has_any l3 _ s z.w (z.ints h3w)
      obtain ⟨z, hz⟩ : ∃ z, z = has l3 s := ⟨_, rfl⟩
      simp only [← hz] at hss
      rw [← hz] at htk hfa
      have QH := Lib.hid hss
      have HTK := Lib.hid htk
      have HFA := Lib.hid hfa
      have e6 : ∀ z : Ext wr, z.w.cell? ⟨w.heap.size, 6, none⟩ = some (.slice a3 l3.length c3) := fun z => z.cell (G 6)
      have e9 : ∀ z : Ext wr, z.w.cell? ⟨w.heap.size, 9, none⟩ = some (.slice a4 l4.length c4) := fun z => z.cell (G 9)
      have ey : ∀ z : Ext wr, z.w.cell? ⟨b, off + j, none⟩ = some (.int .i64 s) := fun z => z.cell ck
      clear hs hz hss htk hfa ck
      cases z with
      | false =>
        have hx := HX.out.trans (by rw [HFA.out rfl]; rfl : (l4.all (has l3) && (((isFamB n3 l3 && isSunB l4) && (l4.length : Int) == q) && decide (1 ≤ q))) = false)
        have HX2 := Lib.hid hx
        clear hx
        go_wp2_with fail
        clear G
        refine wp_region_ext _ (by kernel_rfl) (by kernel_rfl) ?_
        repeat (first | go_big_quiet_skip | (go_big_quiet_want; go_big_quiet_op; first | go_big_quiet_on | (apply Exists.intro; refine ⟨fun _ => ?_, ?_⟩; (go_at_call 27; exact ext_same (QH.out _)); go_big_quiet_on)))
        refine wpQuiet_nil ?_
        rintro w5 ⟨⟨w5, b5⟩, rfl⟩
        try dsimp only
        go_wp2
        go_ret
        exact ⟨ret_bool HX2.out.symm, B4.after b5 B4.size⟩
      | true =>
        have ha2 : (l4.take (j + 1)).all (has l3) = true := by rw [HTK.out, HALL.out]; rfl
        have HA2 := Lib.hid ha2
        clear ha2
        go_wp2_with fail
        clear G
        refine wp_region_ext _ (by kernel_rfl) (by kernel_rfl) ?_
        repeat (first | go_big_quiet_skip | (go_big_quiet_want; go_big_quiet_op; first | go_big_quiet_on | (apply Exists.intro; refine ⟨fun _ => ?_, ?_⟩; (go_at_call 27; exact ext_same (QH.out _)); go_big_quiet_on)))
        refine wpQuiet_nil ?_
        rintro w5 ⟨⟨w5, b5⟩, rfl⟩
        try dsimp only
        go_wp2
        go_roundw
        case rel => exact ⟨j + 1, by omega, by go_num, HA2.out, Bw.after b5 Bw.size⟩
        case measure => simp [intOf]; omega
    · have hlt2 : ¬ (j : Int) < (l4.length : Int) := by omega
      have hx : chkSun n3 l3 q l4 = (((isFamB n3 l3 && isSunB l4) && (l4.length : Int) == q) && decide (1 ≤ q)) := by rw [HX.out, ← all_of_take _ l4 j (by omega), HALL.out, Bool.true_and]
      have hfm := isFamS_any n3 l3 _ wr h3w
      obtain ⟨bF, hbF⟩ : ∃ b, b = isFamB n3 l3 := ⟨_, rfl⟩
      obtain ⟨bS, hbS⟩ : ∃ b, b = isSunB l4 := ⟨_, rfl⟩
      have hsn : ∀ W, Ints W (.slice a4 l4.length c4) l4 → Calls Tryz.prog 29 #[.slice a4 l4.length c4] W fun e w' => e = .returned (.bool bS) ∧ Below W.heap.size W w' := fun W h => by rw [hbS]; exact isSunS_any l4 _ W h
      rw [← hbF] at hfm
      rw [← hbF, ← hbS] at hx
      have HX2 := Lib.hid hx
      have HFM := Lib.hid hfm
      have HSN := Lib.hid hsn
      clear hx hfm hsn hbF hbS
      go_wp2_with fail
      refine HFM.out.mono ?_
      rintro e w5 ⟨rfl, b5⟩
      have B5 := B4.after b5 B4.size
      have G5 := (K4.keep b5).cell
      clear G
      cases bF with
      | false =>
        go_wp2
        go_ret
        exact ⟨ret_bool HX2.out.symm, B5⟩
      | true =>
        go_wp2_with fail
        refine (HSN.out w5 (h4.below B5 (Nat.le_refl _))).mono ?_
        rintro e w6 ⟨rfl, b6⟩
        have B6 := B5.after b6 B5.size
        have G6 := ((K4.keep b5).keep b6).cell
        clear G5
        cases bS with
        | false =>
          go_wp2
          go_ret
          exact ⟨ret_bool HX2.out.symm, B6⟩
        | true =>
          cases hq : (l4.length : Int) == q with
          | false =>
            rw [hq] at HX2
            go_wp2
            go_ret
            exact ⟨ret_bool HX2.out.symm, B6⟩
          | true =>
            rw [hq] at HX2
            go_wp2
            go_ret
            exact ⟨ret_bool HX2.out.symm, B6⟩

set_option maxHeartbeats 4000000 in
set_option maxRecDepth 100000 in
theorem chkS7_any (w : World) (n1 : Int) (v1 : Value) (l1 : List Int) (h1 : Ints w v1 l1) (n2 : Int) (v2 : Value) (l2 : List Int) (h2 : Ints w v2 l2) (n3 : Int) (v3 : Value) (l3 : List Int) (h3 : Ints w v3 l3) (q st : Int) (v4 : Value) (l4 : List Int) (h4 : Ints w v4 l4) :
    Calls Tryz.prog 5 #[clV 7 n1 v1 n2 v2 n3 v3 q st v4] w fun e w' => e = .returned (.bool (chkHall n3 l3 q l4)) ∧ Below w.heap.size w w' := by
  obtain ⟨a1, c1, rfl⟩ := h1.shape
  obtain ⟨a2, c2, rfl⟩ := h2.shape
  obtain ⟨a3, c3, rfl⟩ := h3.shape
  obtain ⟨a4, c4, rfl⟩ := h4.shape
  have K0 := Blk.new w 34 (clC 7 n1 (.slice a1 l1.length c1) n2 (.slice a2 l2.length c2) n3 (.slice a3 l3.length c3) q st (.slice a4 l4.length c4))
  obtain ⟨V0, hV0⟩ : ∃ V, V = (w.alloc (.cells (clC 7 n1 (.slice a1 l1.length c1) n2 (.slice a2 l2.length c2) n3 (.slice a3 l3.length c3) q st (.slice a4 l4.length c4)) 34)).alloc (.cells #[.int .i64 n1, .slice a1 l1.length c1] 31) := ⟨_, rfl⟩
  have B0 : Below w.heap.size w V0 := by rw [hV0]; exact bl2 _ _ _
  have K0' : Blk V0 w.heap.size 34 (clC 7 n1 (.slice a1 l1.length c1) n2 (.slice a2 l2.length c2) n3 (.slice a3 l3.length c3) q st (.slice a4 l4.length c4)) := by rw [hV0]; exact K0.alloc _
  have KF : Blk V0 (w.heap.size + 1) 31 #[.int .i64 n1, .slice a1 l1.length c1] := by
    rw [hV0]
    have := Blk.new (w.alloc (.cells (clC 7 n1 (.slice a1 l1.length c1) n2 (.slice a2 l2.length c2) n3 (.slice a3 l3.length c3) q st (.slice a4 l4.length c4)) 34)) 31 #[.int .i64 n1, .slice a1 l1.length c1]
    simpa using this
  have HV0 := Lib.hid hV0
  have g1 := h1.below B0 (Nat.le_refl _)
  have g2 := h2.below B0 (Nat.le_refl _)
  have g3 := h3.below B0 (Nat.le_refl _)
  have g4 := h4.below B0 (Nat.le_refl _)
  clear hV0 K0
  have hfn2 : ∀ V, V = V0 → Calls Tryz.prog 28 #[.agg #[.int .i64 n3, .slice a3 l3.length c3]] V fun e w' => e = .returned (.bool (isFamB n3 l3)) ∧ Below V.heap.size V w' := fun V h => by rw [h]; exact isFamS_any n3 l3 _ V0 g3
  have HFM := Lib.hid hfn2
  clear hfn2
  cases hf : isFamB n3 l3 with
  | false =>
    have hx : chkHall n3 l3 q l4 = false := by unfold chkHall; rw [hf]; rfl
    rw [hf] at HFM
    have HX := Lib.hid hx
    clear hx hf
    go_enter Tryz.func5, Tryz.ntmps5
    go_wp2_with fail
    refine (HFM.out _ HV0.out.symm).mono ?_
    rintro e w1 ⟨rfl, b1⟩
    rw [HV0.out.symm] at b1
    have B1 := B0.after b1 B0.size
    have K1 := K0'.keep b1
    have G := K1.cell
    go_wp2
    go_ret
    exact ⟨ret_bool HX.out.symm, B1⟩
  | true =>
    rw [hf] at HFM
    have hm := fam_mem hf
    by_cases hq1 : q = 1
    · have hx : chkHall n3 l3 q l4 = isRepB n3 l3 l4 := by unfold chkHall; rw [hf, if_pos hq1]; rfl
      have t1 : (q == 1) = true := by rw [hq1]; rfl
      have hrp := fun W (u3 : Ints W (.slice a3 l3.length c3) l3) (u4 : Ints W (.slice a4 l4.length c4) l4) => isRepS_any W n3 _ _ l3 l4 u3 u4
      have HX := Lib.hid hx
      have HRP := Lib.hid hrp
      clear hx hf hm hq1 hrp
      go_enter Tryz.func5, Tryz.ntmps5
      go_wp2_with fail
      refine (HFM.out _ HV0.out.symm).mono ?_
      rintro e w1 ⟨rfl, b1⟩
      rw [HV0.out.symm] at b1
      have B1 := B0.after b1 B0.size
      have K1 := K0'.keep b1
      have G := K1.cell
      go_wp2_with fail
      refine (HRP.out w1 (h3.below B1 (Nat.le_refl _)) (h4.below B1 (Nat.le_refl _))).mono ?_
      rintro e w2 ⟨rfl, b2⟩
      go_wp2
      go_ret
      exact ⟨ret_bool HX.out.symm, B1.after b2 B1.size⟩
    · have t1 : (q == 1) = false := by simpa using hq1
      have hx : chkHall n3 l3 q l4 = ((q == 0 && decide (l3.length ≤ 6)) && hallT l3 l4) := by unfold chkHall; rw [hf, if_neg hq1]; rfl
      by_cases h6 : l3.length ≤ 6
      · have t6 : ¬ (6 : Int) < (l3.length : Int) := by omega
        rw [decide_eq_true h6, Bool.and_true] at hx
        have hok := idx_ok l3.length h6 l4 0 (Nat.two_pow_pos _)
        have hid := fun W (h : Ints W (.slice a4 l4.length c4) l4) => idxS_any (l3.length : Int) ⟨by omega, by omega⟩ l4 _ W h
        obtain ⟨T, hT⟩ : ∃ T, T = idxL (l3.length : Int) l4 0 := ⟨_, rfl⟩
        rw [← hT] at hok
        simp only [← hT] at hid
        have hxT : chkHall n3 l3 q l4 = (q == 0 && (decide (0 < T) && decide (ipop (unionTo l3 T.toNat l3.length) < ipop T))) := by rw [hx, hT]; rfl
        have HID := Lib.hid hid
        have h64 : (2 : Nat) ^ l3.length ≤ 2 ^ 6 := Nat.pow_le_pow_right (by decide) h6
        have hun := fun (W : World) (u : Nat) (hu : u < 64) (g : Ints W (.slice a3 l3.length c3) l3) => l28Union_any l3 _ W g hm h6 u hu
        have HUN := Lib.hid hun
        have HOK := Lib.hid hok
        have HM := Lib.hid hm
        clear hx hf hq1 hid hT hun hok hm
        cases hq0 : q == 0 with
        | false =>
          rw [hq0] at hxT
          have HX := Lib.hid hxT
          clear hxT h64
          go_enter Tryz.func5, Tryz.ntmps5
          go_wp2_with fail
          refine (HFM.out _ HV0.out.symm).mono ?_
          rintro e w1 ⟨rfl, b1⟩
          rw [HV0.out.symm] at b1
          have B1 := B0.after b1 B0.size
          have K1 := K0'.keep b1
          have G := K1.cell
          have h4w := h4.below B1 (Nat.le_refl _)
          go_wp2_with (go_at_call 23; refine (HID.out _ h4w).mono ?_; rintro e w' ⟨rfl, rfl⟩)
          go_ret
          exact ⟨ret_bool HX.out.symm, B1⟩
        | true =>
          rw [hq0, Bool.true_and] at hxT
          by_cases hT0 : 0 < T
          · obtain ⟨u, rfl, hu2⟩ : ∃ u : Nat, T = (u : Int) ∧ u < 64 := by
              rcases HOK.out with h | ⟨s, hs, hs2, _⟩
              · omega
              · exact ⟨s, hs, by omega⟩
            have hun2 : 0 ≤ unionTo l3 u l3.length ∧ unionTo l3 u l3.length < 64 := unionTo_bd l3 u HM.out l3.length (Nat.le_refl _)
            have huw := fun W g => HUN.out W u hu2 g
            obtain ⟨U, hU⟩ : ∃ U, U = unionTo l3 u l3.length := ⟨_, rfl⟩
            rw [← hU] at hun2
            simp only [← hU] at huw
            rw [decide_eq_true hT0, Bool.true_and, Int.toNat_natCast, ← hU] at hxT
            have HX := Lib.hid hxT
            have HUW := Lib.hid huw
            have HS1 := Lib.hid (fun W => l2Size_i U W hun2.1 (by omega))
            have HS2 := Lib.hid (fun W => l2Size_i (u : Int) W (by omega) (by omega))
            have hpu : (0 : Int) < (u : Int) := hT0
            have hpu2 : 0 < u := by omega
            clear hxT huw hU h64 hun2
            go_enter Tryz.func5, Tryz.ntmps5
            go_wp2_with fail
            refine (HFM.out _ HV0.out.symm).mono ?_
            rintro e w1 ⟨rfl, b1⟩
            rw [HV0.out.symm] at b1
            have B1 := B0.after b1 B0.size
            have K1 := K0'.keep b1
            have G := K1.cell
            have h4w := h4.below B1 (Nat.le_refl _)
            have h3w := h3.below B1 (Nat.le_refl _)
            go_wp2_with (first | (go_at_call 23; refine (HID.out _ h4w).mono ?_; rintro e w' ⟨rfl, rfl⟩) | (go_at_call 31; refine (HUW.out _ h3w).mono ?_; rintro e w' ⟨rfl, rfl⟩) | (go_at_call 25; first | (with_reducible refine (HS1.out _).mono ?_; rintro e w' ⟨rfl, rfl⟩) | (with_reducible refine (HS2.out _).mono ?_; rintro e w' ⟨rfl, rfl⟩)))
            go_ret
            exact ⟨ret_bool HX.out.symm, B1⟩
          · rw [decide_eq_false hT0, Bool.false_and] at hxT
            have HX := Lib.hid hxT
            clear hxT h64
            go_enter Tryz.func5, Tryz.ntmps5
            go_wp2_with fail
            refine (HFM.out _ HV0.out.symm).mono ?_
            rintro e w1 ⟨rfl, b1⟩
            rw [HV0.out.symm] at b1
            have B1 := B0.after b1 B0.size
            have K1 := K0'.keep b1
            have G := K1.cell
            have h4w := h4.below B1 (Nat.le_refl _)
            go_wp2_with (go_at_call 23; refine (HID.out _ h4w).mono ?_; rintro e w' ⟨rfl, rfl⟩)
            go_ret
            exact ⟨ret_bool HX.out.symm, B1⟩
      · have t6 : (6 : Int) < (l3.length : Int) := by omega
        rw [decide_eq_false h6, Bool.and_false, Bool.false_and] at hx
        have HX := Lib.hid hx
        clear hx hf hm hq1 h6
        go_enter Tryz.func5, Tryz.ntmps5
        go_wp2_with fail
        refine (HFM.out _ HV0.out.symm).mono ?_
        rintro e w1 ⟨rfl, b1⟩
        rw [HV0.out.symm] at b1
        have B1 := B0.after b1 B0.size
        have K1 := K0'.keep b1
        have G := K1.cell
        go_wp2
        go_ret
        exact ⟨ret_bool HX.out.symm, B1⟩
end Go.Proofs.YtelmokapdkepbaaGreat
end
