/- The checks of claims: the condition of Hall, and the check of a claim: the first program. -/
import Derived.Test.YtelmokapdkepbaaGreatQ31
section
namespace Go.Proofs.YtelmokapdkepbaaGreat
open Go.RowKit Go.G5

theorem fam_few {g : Int} {l : List Int} (h : isFamB g l = true) : ∃ N : Nat, g = (N : Int) ∧ N ≤ 6 := by
  obtain ⟨h0, h6, _, _⟩ := famOk h
  obtain ⟨N, rfl⟩ := Int.eq_ofNat_of_zero_le h0
  exact ⟨N, rfl, by omega⟩
set_option maxHeartbeats 2000000 in
set_option maxRecDepth 100000 in
theorem chkHallI_any (w : World) (k n1 : Int) (v1 : Value) (l1 : List Int) (h1 : Ints w v1 l1) (n2 : Int) (v2 : Value) (l2 : List Int) (h2 : Ints w v2 l2) (n3 : Int) (v3 : Value) (l3 : List Int) (h3 : Ints w v3 l3) (q st : Int) (v4 : Value) (l4 : List Int) (h4 : Ints w v4 l4) :
    Calls Tryz.prog 41 #[clV k n1 v1 n2 v2 n3 v3 q st v4] w fun e w' => e = .returned (.bool (chkHall n3 l3 q l4)) ∧ Below w.heap.size w w' := by
  obtain ⟨a1, c1, rfl⟩ := h1.shape
  obtain ⟨a2, c2, rfl⟩ := h2.shape
  obtain ⟨a3, c3, rfl⟩ := h3.shape
  obtain ⟨a4, c4, rfl⟩ := h4.shape
  have K0 := Blk.new w 34 (clC k n1 (.slice a1 l1.length c1) n2 (.slice a2 l2.length c2) n3 (.slice a3 l3.length c3) q st (.slice a4 l4.length c4))
  obtain ⟨V0, hV0⟩ : ∃ V, V = (w.alloc (.cells (clC k n1 (.slice a1 l1.length c1) n2 (.slice a2 l2.length c2) n3 (.slice a3 l3.length c3) q st (.slice a4 l4.length c4)) 34)).alloc (.cells #[.int .i64 n3, .slice a3 l3.length c3] 32) := ⟨_, rfl⟩
  have B0 : Below w.heap.size w V0 := by rw [hV0]; exact bl2 _ _ _
  have K0' : Blk V0 w.heap.size 34 (clC k n1 (.slice a1 l1.length c1) n2 (.slice a2 l2.length c2) n3 (.slice a3 l3.length c3) q st (.slice a4 l4.length c4)) := by rw [hV0]; exact K0.alloc _
  have KF : Blk V0 (w.heap.size + 1) 32 #[.int .i64 n3, .slice a3 l3.length c3] := by
    rw [hV0]
    have := Blk.new (w.alloc (.cells (clC k n1 (.slice a1 l1.length c1) n2 (.slice a2 l2.length c2) n3 (.slice a3 l3.length c3) q st (.slice a4 l4.length c4)) 34)) 32 #[.int .i64 n3, .slice a3 l3.length c3]
    simpa using this
  have hfn := isFamI_any n3 l3 _ V0 (h3.below B0 (Nat.le_refl _))
  have HV0 := Lib.hid hV0
  have hfn2 : ∀ V, V = V0 → Calls Tryz.prog 73 #[.agg #[.int .i64 n3, .slice a3 l3.length c3]] V fun e w' => e = .returned (.bool (isFamB n3 l3)) ∧ Below V.heap.size V w' := fun V h => by rw [h]; exact hfn
  have HFM := Lib.hid hfn2
  clear hfn hfn2 hV0 K0
  cases hf : isFamB n3 l3 with
  | false =>
    have hx : chkHall n3 l3 q l4 = false := by unfold chkHall; rw [hf]; rfl
    rw [hf] at HFM
    have HX := Lib.hid hx
    clear hx hf
    go_enter Tryz.func41, Tryz.ntmps41
    go_wp2_with fail
    refine (HFM.out _ HV0.out.symm).mono ?_
    rintro e w1 ⟨rfl, b1⟩
    rw [HV0.out.symm] at b1
    have B1 := B0.after b1 B0.size
    have K1 := K0'.keep b1
    have G := K1.cell
    have KF1 := KF.keep b1
    have F := KF1.cell
    go_wp2
    go_ret
    exact ⟨ret_bool HX.out.symm, B1⟩
  | true =>
    rw [hf] at HFM
    have hm := fam_mem hf
    by_cases hq1 : q = 1
    · have hx : chkHall n3 l3 q l4 = isRepB n3 l3 l4 := by unfold chkHall; rw [hf, if_pos hq1]; rfl
      have t1 : (q == 1) = true := by rw [hq1]; rfl
      have hrp := fun W (g3 : Ints W (.slice a3 l3.length c3) l3) (g4 : Ints W (.slice a4 l4.length c4) l4) => isRepI_any W n3 _ _ l3 l4 g3 g4
      have HX := Lib.hid hx
      have HRP := Lib.hid hrp
      clear hx hf hm hq1 hrp
      go_enter Tryz.func41, Tryz.ntmps41
      go_wp2_with fail
      refine (HFM.out _ HV0.out.symm).mono ?_
      rintro e w1 ⟨rfl, b1⟩
      rw [HV0.out.symm] at b1
      have B1 := B0.after b1 B0.size
      have K1 := K0'.keep b1
      have G := K1.cell
      have KF1 := KF.keep b1
      have F := KF1.cell
      have h3w := h3.below B1 (Nat.le_refl _)
      have h4w := h4.below B1 (Nat.le_refl _)
      go_wp2_with (go_at_call 76; refine (HRP.out _ h3w h4w).mono ?_; rintro e w' ⟨rfl, rfl⟩)
      go_ret
      exact ⟨ret_bool HX.out.symm, B1⟩
    · have t1 : (q == 1) = false := by simpa using hq1
      have hx : chkHall n3 l3 q l4 = ((q == 0 && decide (l3.length ≤ 6)) && hallT l3 l4) := by unfold chkHall; rw [hf, if_neg hq1]; rfl
      cases hq0 : q == 0 with
      | false =>
        have t0 : (q != 0) = true := by rw [bne, hq0]; rfl
        rw [hq0] at hx
        have HX := Lib.hid hx
        clear hx hf hm hq1 hq0
        go_enter Tryz.func41, Tryz.ntmps41
        go_wp2_with fail
        refine (HFM.out _ HV0.out.symm).mono ?_
        rintro e w1 ⟨rfl, b1⟩
        rw [HV0.out.symm] at b1
        have B1 := B0.after b1 B0.size
        have K1 := K0'.keep b1
        have G := K1.cell
        have KF1 := KF.keep b1
        have F := KF1.cell
        go_wp2
        go_ret
        exact ⟨ret_bool HX.out.symm, B1⟩
      | true =>
        have t0 : (q != 0) = false := by rw [bne, hq0]; rfl
        rw [hq0, Bool.true_and] at hx
        by_cases h6 : l3.length ≤ 6
        · have t6 : ¬ (6 : Int) < (l3.length : Int) := by omega
          rw [decide_eq_true h6, Bool.true_and] at hx
          have hok := idx_ok l3.length h6 l4 0 (Nat.two_pow_pos _)
          obtain ⟨T, hT⟩ : ∃ T, T = idxL (l3.length : Int) l4 0 := ⟨_, rfl⟩
          rw [← hT] at hok
          have hxT : chkHall n3 l3 q l4 = (decide (0 < T) && decide (ipop (unionTo l3 T.toNat l3.length) < ipop T)) := by rw [hx, hT]; rfl
          have hneg : T = -1 → chkHall n3 l3 q l4 = false := fun h => by rw [hxT, h]; rfl
          by_cases hl1 : 1 ≤ l4.length
          · have tl : ¬ (l4.length : Int) < 1 := by omega
            have hst : idxL (l3.length : Int) (l4.drop 0) 0 = T := by rw [List.drop_zero]; exact hT.symm
            have h64 : (2 : Nat) ^ l3.length ≤ 2 ^ 6 := Nat.pow_le_pow_right (by decide) h6
            have hfin : ∀ u : Nat, T = (u : Int) → u < 64 → chkHall n3 l3 q l4 = decide (0 < (pop u : Int) - ipop (unionTo l3 u l3.length)) := fun u h hu => by
              rw [hxT, h, Int.toNat_natCast]
              have hp : ipop (u : Int) = (pop u : Int) := by unfold ipop; rw [Int.toNat_natCast]
              have hpos : 0 < u := by
                rcases hok with h' | ⟨s, hs, _, hs3⟩
                · omega
                · have e : s = u := by omega
                  rw [e, pop_zero] at hs3
                  by_cases h0 : u = 0
                  · rw [h0, pop_zero] at hs3; omega
                  · omega
              rw [decide_eq_true (show (0 : Int) < (u : Int) by omega), Bool.true_and, hp]
              rw [Bool.eq_iff_iff, decide_eq_true_eq, decide_eq_true_eq]
              omega
            have hlk := fun (W : World) (u : Nat) (hu : u < 64) (g : Ints W (.slice a3 l3.length c3) l3) => lackOf_any l3 _ W g hm h6 u hu
            obtain ⟨_, b4', off4, _, hve, _, hix4, hc4, hb4⟩ := h4.view Tryz.prog 22 3 Tryz.underlying22 intElem
            injection hve with x1 _ x3
            subst x1 x3
            have HNEG := Lib.hid hneg
            have HFIN := Lib.hid hfin
            have HLK := Lib.hid hlk
            have HC4 := Lib.hid hc4
            have HIX4 := Lib.hid hix4
            have HST := Lib.hid hst
            clear hx hf hm hq1 hq0 hok hT hxT hneg hst h64 hfin hlk hc4 hix4
            go_enter Tryz.func41, Tryz.ntmps41
            go_wp2_with fail
            refine (HFM.out _ HV0.out.symm).mono ?_
            rintro e w1 ⟨rfl, b1⟩
            rw [HV0.out.symm] at b1
            have B1 := B0.after b1 B0.size
            have K1 := K0'.keep b1
            have G := K1.cell
            have KF1 := KF.keep b1
            have F := KF1.cell
            go_wp2_with fail
            go_loop [4, 40] (fun uv iv => ∃ (j u : Nat), j ≤ l4.length ∧ iv = .int .i64 j ∧ uv = .int .i64 (u : Int) ∧ u < 64 ∧ idxL (l3.length : Int) (l4.drop j) u = T) (fun _ iv => l4.length - (intOf iv).toNat)
            case atStart => exact ⟨0, 0, Nat.zero_le _, rfl, rfl, by omega, HST.out⟩
            case round =>
              obtain ⟨j, u, hj, rfl, rfl, hu, hid⟩ := hrel
              by_cases hlt : j < l4.length
              · have hlt2 : (j : Int) < (l4.length : Int) := by omega
                have ck : w1.cell? ⟨b4', off4 + j, none⟩ = some (.int .i64 l4[j]) := cells_below HC4.out hb4 B1 (Nat.le_refl _) j hlt
                have ik := fun W => HIX4.out W j hlt
                have hat := idx_at (l3.length : Int) l4 j hlt u
                rw [hid] at hat
                have hu64 : u < 64 := hu
                obtain ⟨x, hx⟩ : ∃ x, x = l4[j] := ⟨_, rfl⟩
                rw [← hx] at ck hat
                clear hx
                obtain ⟨el, hel⟩ : ∃ b, b = isElB (l3.length : Int) x := ⟨_, rfl⟩
                have hei : ∀ W, Calls Tryz.prog 63 #[.int .i64 (l3.length : Int), .int .i64 x] W fun e' w' => e' = .returned (.bool el) ∧ W = w' := fun W => by rw [hel]; exact isElem_any (l3.length : Int) x W
                have HEI := Lib.hid hei
                have hib : idxB (l3.length : Int) u x = (el && !nbit u x.toNat) := by unfold idxB; rw [hel]
                clear hei hid
                cases el with
                | false =>
                  have hT : T = -1 := by rw [hat, hib]; rfl
                  have HT := Lib.hid hT
                  clear hT hat hib hel
                  go_wp2_with (go_at_call 63; refine (HEI.out _).mono ?_; rintro e w' ⟨rfl, rfl⟩)
                  go_ret
                  exact ⟨ret_bool (HNEG.out HT.out).symm, B1⟩
                | true =>
                  obtain ⟨e, rfl, heN⟩ := el_nat hel.symm
                  have he6 : e < 6 := by omega
                  rw [Int.toNat_natCast] at hat hib
                  have hbu := bit_is (u : Int) e (by omega) (by omega)
                  have hnu := nbit_is u e
                  have hset := setBit_is u e (by omega) he6
                  have hp := pow2_bd' (e : Int) (by omega)
                  rw [Int.toNat_natCast] at hp
                  have hp1 := hp.1
                  have hp2 := hp.2
                  have hs64 := setBit_64 u hu64 e he6
                  obtain ⟨z, hz⟩ : ∃ y, y = ibit (u : Int) e := ⟨_, rfl⟩
                  rw [← hz] at hbu hnu
                  clear hz hp heN hel
                  cases h2 : nbit u e with
                  | true =>
                    have t2 : (z == 1) = true := by rw [hnu, h2]
                    have hT : T = -1 := by rw [hat, hib, h2]; rfl
                    have HT := Lib.hid hT
                    clear hT hat hib h2 hnu
                    go_wp2_with (go_at_call 63; refine (HEI.out _).mono ?_; rintro e w' ⟨rfl, rfl⟩)
                    go_ret
                    exact ⟨ret_bool (HNEG.out HT.out).symm, B1⟩
                  | false =>
                    have t2 : (z == 1) = false := by rw [hnu, h2]
                    have hT : idxL (l3.length : Int) (l4.drop (j + 1)) (setBit u e) = T := by rw [hat, hib, h2]; rfl
                    obtain ⟨u2, hu2⟩ : ∃ q, q = setBit u e := ⟨_, rfl⟩
                    rw [← hu2] at hset hs64 hT
                    have HT := Lib.hid hT
                    clear hT hat hib h2 hnu hu2
                    go_wp2_with (go_at_call 63; refine (HEI.out _).mono ?_; rintro e w' ⟨rfl, rfl⟩)
                    go_round
                    case rel => exact ⟨j + 1, u2, by omega, by go_num, rfl, hs64, HT.out⟩
                    case measure => simp [intOf]; omega
              · have hlt2 : ¬ (j : Int) < (l4.length : Int) := by omega
                have hjl : j = l4.length := by omega
                rw [hjl, List.drop_length] at hid
                have hTu : T = (u : Int) := hid.symm
                have hx := HFIN.out u hTu hu
                have hlo := HLK.out w1 u hu (h3.below B1 (Nat.le_refl _))
                obtain ⟨D, hD⟩ : ∃ D, D = (pop u : Int) - ipop (unionTo l3 u l3.length) := ⟨_, rfl⟩
                rw [← hD] at hx hlo
                have HX := Lib.hid hx
                have HLO := Lib.hid hlo
                clear hid hTu hx hlo hD hjl
                go_wp2_with (go_at_call 77; refine HLO.out.mono ?_; rintro e w' ⟨rfl, rfl⟩)
                go_ret
                exact ⟨ret_bool HX.out.symm, B1⟩
          · have tl : (l4.length : Int) < 1 := by omega
            have hnil : l4 = [] := List.eq_nil_of_length_eq_zero (by omega)
            have hx2 : chkHall n3 l3 q l4 = false := by rw [hxT, hT, hnil]; rfl
            have HX := Lib.hid hx2
            clear hx hf hm hq1 hq0 hok hT hxT hneg hnil hx2 hl1
            go_enter Tryz.func41, Tryz.ntmps41
            go_wp2_with fail
            refine (HFM.out _ HV0.out.symm).mono ?_
            rintro e w1 ⟨rfl, b1⟩
            rw [HV0.out.symm] at b1
            have B1 := B0.after b1 B0.size
            have K1 := K0'.keep b1
            have G := K1.cell
            have KF1 := KF.keep b1
            have F := KF1.cell
            go_wp2
            go_ret
            exact ⟨ret_bool HX.out.symm, B1⟩
        · have t6 : (6 : Int) < (l3.length : Int) := by omega
          rw [decide_eq_false h6, Bool.false_and] at hx
          have HX := Lib.hid hx
          clear hx hf hm hq1 hq0 h6
          go_enter Tryz.func41, Tryz.ntmps41
          go_wp2_with fail
          refine (HFM.out _ HV0.out.symm).mono ?_
          rintro e w1 ⟨rfl, b1⟩
          rw [HV0.out.symm] at b1
          have B1 := B0.after b1 B0.size
          have K1 := K0'.keep b1
          have G := K1.cell
          have KF1 := KF.keep b1
          have F := KF1.cell
          go_wp2
          go_ret
          exact ⟨ret_bool HX.out.symm, B1⟩

set_option maxHeartbeats 2000000 in
set_option maxRecDepth 100000 in
theorem checkClaimI_c (w : World) (k n1 : Int) (v1 : Value) (l1 : List Int) (h1 : Ints w v1 l1) (n2 : Int) (v2 : Value) (l2 : List Int) (h2 : Ints w v2 l2) (n3 : Int) (v3 : Value) (l3 : List Int) (h3 : Ints w v3 l3) (q st : Int) (v4 : Value) (l4 : List Int) (h4 : Ints w v4 l4) (hl1 : l1.length ≤ 1048576) (hl2 : l2.length ≤ 1048576) (hl3 : l3.length ≤ 1048576) :
    Calls Tryz.prog 7 #[clV k n1 v1 n2 v2 n3 v3 q st v4] w fun e w' => e = .returned (.bool (chkB k n1 l1 n2 l2 n3 l3 q st l4)) ∧ Below w.heap.size w w' := by
  obtain ⟨a1, c1, rfl⟩ := h1.shape
  obtain ⟨a2, c2, rfl⟩ := h2.shape
  obtain ⟨a3, c3, rfl⟩ := h3.shape
  obtain ⟨a4, c4, rfl⟩ := h4.shape
  have K0 := Blk.new w 34 (clC k n1 (.slice a1 l1.length c1) n2 (.slice a2 l2.length c2) n3 (.slice a3 l3.length c3) q st (.slice a4 l4.length c4))
  have g1 := h1.alloc (.cells (clC k n1 (.slice a1 l1.length c1) n2 (.slice a2 l2.length c2) n3 (.slice a3 l3.length c3) q st (.slice a4 l4.length c4)) 34)
  have g2 := h2.alloc (.cells (clC k n1 (.slice a1 l1.length c1) n2 (.slice a2 l2.length c2) n3 (.slice a3 l3.length c3) q st (.slice a4 l4.length c4)) 34)
  have g3 := h3.alloc (.cells (clC k n1 (.slice a1 l1.length c1) n2 (.slice a2 l2.length c2) n3 (.slice a3 l3.length c3) q st (.slice a4 l4.length c4)) 34)
  have g4 := h4.alloc (.cells (clC k n1 (.slice a1 l1.length c1) n2 (.slice a2 l2.length c2) n3 (.slice a3 l3.length c3) q st (.slice a4 l4.length c4)) 34)
  have m1 := chkMinI_any _ k n1 _ l1 g1 n2 _ l2 g2 n3 _ l3 g3 q st _ l4 g4
  have m2 := chkVioI_any _ k n1 _ l1 g1 n2 _ l2 g2 n3 _ l3 g3 q st _ l4 g4
  have m3 := chkBaseI_any _ k n1 _ l1 g1 n2 _ l2 g2 n3 _ l3 g3 q st _ l4 g4 hl1 hl2
  have m4 := chkComI_any _ k n1 _ l1 g1 n2 _ l2 g2 n3 _ l3 g3 q st _ l4 g4 hl1 hl2
  have m5 := chkCutI_any _ k n1 _ l1 g1 n2 _ l2 g2 n3 _ l3 g3 q st _ l4 g4 hl1
  have m6 := chkSunI_any _ k n1 _ l1 g1 n2 _ l2 g2 n3 _ l3 g3 q st _ l4 g4 hl3
  have m7 := chkHallI_any _ k n1 _ l1 g1 n2 _ l2 g2 n3 _ l3 g3 q st _ l4 g4
  have M1 := Lib.hid m1
  have M2 := Lib.hid m2
  have M3 := Lib.hid m3
  have M4 := Lib.hid m4
  have M5 := Lib.hid m5
  have M6 := Lib.hid m6
  have M7 := Lib.hid m7
  clear m1 m2 m3 m4 m5 m6 m7
  by_cases hk1 : k = 1
  · subst hk1
    have HX := Lib.hid (show chkB 1 n1 l1 n2 l2 n3 l3 q st l4 = chkMin n1 l1 q st l4 from rfl)
    go_enter Tryz.func7, Tryz.ntmps7
    go_wp2_with fail
    refine M1.out.mono ?_
    rintro e w1 ⟨rfl, b1⟩
    go_wp2
    go_ret
    exact ⟨ret_bool HX.out.symm, (bl1 _ _).after b1 (by simp)⟩
  by_cases hk2 : k = 2
  · subst hk2
    have HX := Lib.hid (show chkB 2 n1 l1 n2 l2 n3 l3 q st l4 = chkVio n1 l1 l4 from rfl)
    go_enter Tryz.func7, Tryz.ntmps7
    go_wp2_with fail
    refine M2.out.mono ?_
    rintro e w1 ⟨rfl, b1⟩
    go_wp2
    go_ret
    exact ⟨ret_bool HX.out.symm, (bl1 _ _).after b1 (by simp)⟩
  by_cases hk3 : k = 3
  · subst hk3
    have HX := Lib.hid (show chkB 3 n1 l1 n2 l2 n3 l3 q st l4 = chkBase n1 l1 n2 l2 q l4 from rfl)
    go_enter Tryz.func7, Tryz.ntmps7
    go_wp2_with fail
    refine M3.out.mono ?_
    rintro e w1 ⟨rfl, b1⟩
    go_wp2
    go_ret
    exact ⟨ret_bool HX.out.symm, (bl1 _ _).after b1 (by simp)⟩
  by_cases hk4 : k = 4
  · subst hk4
    have HX := Lib.hid (show chkB 4 n1 l1 n2 l2 n3 l3 q st l4 = chkCom n1 l1 n2 l2 q st l4 from rfl)
    go_enter Tryz.func7, Tryz.ntmps7
    go_wp2_with fail
    refine M4.out.mono ?_
    rintro e w1 ⟨rfl, b1⟩
    go_wp2
    go_ret
    exact ⟨ret_bool HX.out.symm, (bl1 _ _).after b1 (by simp)⟩
  by_cases hk5 : k = 5
  · subst hk5
    have HX := Lib.hid (show chkB 5 n1 l1 n2 l2 n3 l3 q st l4 = chkCut n1 l1 q st from rfl)
    go_enter Tryz.func7, Tryz.ntmps7
    go_wp2_with fail
    refine M5.out.mono ?_
    rintro e w1 ⟨rfl, b1⟩
    go_wp2
    go_ret
    exact ⟨ret_bool HX.out.symm, (bl1 _ _).after b1 (by simp)⟩
  by_cases hk6 : k = 6
  · subst hk6
    have HX := Lib.hid (show chkB 6 n1 l1 n2 l2 n3 l3 q st l4 = chkSun n3 l3 q l4 from rfl)
    go_enter Tryz.func7, Tryz.ntmps7
    go_wp2_with fail
    refine M6.out.mono ?_
    rintro e w1 ⟨rfl, b1⟩
    go_wp2
    go_ret
    exact ⟨ret_bool HX.out.symm, (bl1 _ _).after b1 (by simp)⟩
  by_cases hk7 : k = 7
  · subst hk7
    have HX := Lib.hid (show chkB 7 n1 l1 n2 l2 n3 l3 q st l4 = chkHall n3 l3 q l4 from rfl)
    go_enter Tryz.func7, Tryz.ntmps7
    go_wp2_with fail
    refine M7.out.mono ?_
    rintro e w1 ⟨rfl, b1⟩
    go_wp2
    go_ret
    exact ⟨ret_bool HX.out.symm, (bl1 _ _).after b1 (by simp)⟩
  have hx : chkB k n1 l1 n2 l2 n3 l3 q st l4 = false := by unfold chkB; rw [if_neg hk1, if_neg hk2, if_neg hk3, if_neg hk4, if_neg hk5, if_neg hk6, if_neg hk7]
  have HX := Lib.hid hx
  have s1 : (k == 1) = false := by simpa using hk1
  have s2 : (k == 2) = false := by simpa using hk2
  have s3 : (k == 3) = false := by simpa using hk3
  have s4 : (k == 4) = false := by simpa using hk4
  have s5 : (k == 5) = false := by simpa using hk5
  have s6 : (k == 6) = false := by simpa using hk6
  have s7 : (k == 7) = false := by simpa using hk7
  clear hx hk1 hk2 hk3 hk4 hk5 hk6 hk7
  go_enter Tryz.func7, Tryz.ntmps7
  go_wp2
  go_ret
  exact ⟨ret_bool HX.out.symm, bl1 _ _⟩
end Go.Proofs.YtelmokapdkepbaaGreat
end
