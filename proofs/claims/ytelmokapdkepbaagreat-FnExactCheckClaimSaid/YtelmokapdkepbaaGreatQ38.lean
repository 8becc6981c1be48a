/- The check of claims: bases: the second program. -/
import Derived.Test.YtelmokapdkepbaaGreatQ37
import Derived.Deep.RegionHeld3
section
namespace Go.Proofs.YtelmokapdkepbaaGreat
open Go.RowKit Go.G5

set_option maxHeartbeats 4000000 in
set_option maxRecDepth 100000 in
theorem chkS3_any (w : World) (n1 : Int) (v1 : Value) (l1 : List Int) (h1 : Ints w v1 l1) (n2 : Int) (v2 : Value) (l2 : List Int) (h2 : Ints w v2 l2) (n3 : Int) (v3 : Value) (l3 : List Int) (h3 : Ints w v3 l3) (q st : Int) (v4 : Value) (l4 : List Int) (h4 : Ints w v4 l4) (hl1 : l1.length ≤ 1048576) (hl2 : l2.length ≤ 1048576) :
    Calls Tryz.prog 5 #[clV 3 n1 v1 n2 v2 n3 v3 q st v4] w fun e w' => e = .returned (.bool (chkBase n1 l1 n2 l2 q l4)) ∧ Below w.heap.size w w' := by
  obtain ⟨a1, c1, rfl⟩ := h1.shape
  obtain ⟨a2, c2, rfl⟩ := h2.shape
  obtain ⟨a3, c3, rfl⟩ := h3.shape
  obtain ⟨a4, c4, rfl⟩ := h4.shape
  have K0 := Blk.new w 34 (clC 3 n1 (.slice a1 l1.length c1) n2 (.slice a2 l2.length c2) n3 (.slice a3 l3.length c3) q st (.slice a4 l4.length c4))
  obtain ⟨V0, hV0⟩ : ∃ V, V = (w.alloc (.cells (clC 3 n1 (.slice a1 l1.length c1) n2 (.slice a2 l2.length c2) n3 (.slice a3 l3.length c3) q st (.slice a4 l4.length c4)) 34)).alloc (.cells #[.int .i64 n1, .slice a1 l1.length c1] 31) := ⟨_, rfl⟩
  have B0 : Below w.heap.size w V0 := by rw [hV0]; exact bl2 _ _ _
  have K0' : Blk V0 w.heap.size 34 (clC 3 n1 (.slice a1 l1.length c1) n2 (.slice a2 l2.length c2) n3 (.slice a3 l3.length c3) q st (.slice a4 l4.length c4)) := by rw [hV0]; exact K0.alloc _
  have KF : Blk V0 (w.heap.size + 1) 31 #[.int .i64 n1, .slice a1 l1.length c1] := by
    rw [hV0]
    have := Blk.new (w.alloc (.cells (clC 3 n1 (.slice a1 l1.length c1) n2 (.slice a2 l2.length c2) n3 (.slice a3 l3.length c3) q st (.slice a4 l4.length c4)) 34)) 31 #[.int .i64 n1, .slice a1 l1.length c1]
    simpa using this
  have HV0 := Lib.hid hV0
  have g1 := h1.below B0 (Nat.le_refl _)
  have g2 := h2.below B0 (Nat.le_refl _)
  have g3 := h3.below B0 (Nat.le_refl _)
  have g4 := h4.below B0 (Nat.le_refl _)
  clear hV0 K0
  have hfn2 : ∀ V, V = V0 → Calls Tryz.prog 16 #[.agg #[.int .i64 n2, .slice a2 l2.length c2]] V fun e w' => e = .returned (.bool (isFunB n2 l2)) ∧ Below V.heap.size V w' := fun V h => by rw [h]; exact isFunS_any n2 l2 _ V0 g2
  have HFN := Lib.hid hfn2
  clear hfn2
  cases hf : isFunB n2 l2 with
  | false =>
    have hx : chkBase n1 l1 n2 l2 q l4 = false := by unfold chkBase isGrB; rw [hf]; rfl
    rw [hf] at HFN
    have HX := Lib.hid hx
    clear hx hf
    go_enter Tryz.func5, Tryz.ntmps5
    go_wp2_with fail
    refine (HFN.out _ HV0.out.symm).mono ?_
    rintro e w1 ⟨rfl, b1⟩
    rw [HV0.out.symm] at b1
    have B1 := B0.after b1 B0.size
    have K1 := K0'.keep b1
    have KF1 := KF.keep b1
    have G := K1.cell
    have F := KF1.cell
    go_wp2
    go_ret
    exact ⟨ret_bool HX.out.symm, B1⟩
  | true =>
    rw [hf] at HFN
    cases hn : n2 == n1 with
    | false =>
      have hx : chkBase n1 l1 n2 l2 q l4 = false := by unfold chkBase; rw [hn, Bool.and_false]; rfl
      have hnn : (n2 != n1) = true := by rw [bne, hn]; rfl
      have HX := Lib.hid hx
      clear hx hf hn
      go_enter Tryz.func5, Tryz.ntmps5
      go_wp2_with fail
      refine (HFN.out _ HV0.out.symm).mono ?_
      rintro e w1 ⟨rfl, b1⟩
      rw [HV0.out.symm] at b1
      have B1 := B0.after b1 B0.size
      have K1 := K0'.keep b1
      have KF1 := KF.keep b1
      have G := K1.cell
      have F := KF1.cell
      go_wp2
      go_ret
      exact ⟨ret_bool HX.out.symm, B1⟩
    | true =>
      have hn12 : n2 = n1 := by simpa using hn
      subst hn12
      have hnn : (n2 != n2) = false := by simp
      have hgr := fun W (h : Ints W (.slice a2 l2.length c2) l2) => isGrS_any n2 l2 _ W h
      have hmo := fun W (h : Ints W (.slice a2 l2.length c2) l2) => modulS_any n2 l2 _ W h hl2
      cases hg : isGrB n2 l2 with
      | false =>
        have hx : chkBase n2 l1 n2 l2 q l4 = false := by unfold chkBase; rw [hg]; rfl
        simp only [hg] at hgr
        have HX := Lib.hid hx
        have HGR := Lib.hid hgr
        clear hx hf hn hg hgr hmo
        go_enter Tryz.func5, Tryz.ntmps5
        go_wp2_with fail
        refine (HFN.out _ HV0.out.symm).mono ?_
        rintro e w1 ⟨rfl, b1⟩
        rw [HV0.out.symm] at b1
        have B1 := B0.after b1 B0.size
        have K1 := K0'.keep b1
        have KF1 := KF.keep b1
        have G := K1.cell
        have F := KF1.cell
        go_wp2_with fail
        refine (HGR.out w1 (h2.below B1 (Nat.le_refl _))).mono ?_
        rintro e w2 ⟨rfl, b2⟩
        go_wp2
        go_ret
        exact ⟨ret_bool HX.out.symm, B1.after b2 B1.size⟩
      | true =>
        simp only [hg] at hgr
        cases hm : modulB n2 l2 with
        | false =>
          have hx : chkBase n2 l1 n2 l2 q l4 = false := by unfold chkBase; rw [hg, hm]; rfl
          simp only [hm] at hmo
          have HX := Lib.hid hx
          have HGR := Lib.hid hgr
          have HMO := Lib.hid hmo
          clear hx hf hn hg hgr hm hmo
          go_enter Tryz.func5, Tryz.ntmps5
          go_wp2_with fail
          refine (HFN.out _ HV0.out.symm).mono ?_
          rintro e w1 ⟨rfl, b1⟩
          rw [HV0.out.symm] at b1
          have B1 := B0.after b1 B0.size
          have K1 := K0'.keep b1
          have KF1 := KF.keep b1
          have G := K1.cell
          have F := KF1.cell
          go_wp2_with fail
          refine (HGR.out w1 (h2.below B1 (Nat.le_refl _))).mono ?_
          rintro e w2 ⟨rfl, b2⟩
          have B2 := B1.after b2 B1.size
          have G2 := (K1.keep b2).cell
          clear G
          go_wp2_with fail
          refine (HMO.out w2 (h2.below B2 (Nat.le_refl _))).mono ?_
          rintro e w3 ⟨rfl, b3⟩
          go_wp2
          go_ret
          exact ⟨ret_bool HX.out.symm, B2.after b3 B2.size⟩
        | true =>
          simp only [hm] at hmo
          have hx : chkBase n2 l1 n2 l2 q l4 = (bestB n2 l1 (sglL n2 l2) l4 && q == prodTo (sglL n2 l2) l4 (sglL n2 l2).length) := by unfold chkBase; rw [hg, hm, hn]; rfl
          obtain ⟨N, rfl, hN, hll, hq2, hlb⟩ := fun_nat hf
          have hsl := sglL_len N l2
          have hsb := sgl_bd hf
          have hbl : bestB (N : Int) l1 (sglL (N : Int) l2) l4 = true → l4.length = N ∧ ∀ k, (hk : k < l4.length) → -5000 ≤ l4[k] ∧ l4[k] ≤ 5000 := fun hb => by
            have hbl : belB (N : Int) l1 l4 = true := by
              unfold bestB at hb
              simp only [Bool.and_eq_true] at hb
              exact base_bel hb.1.2
            obtain ⟨hyn, hyb⟩ := longOk (bel_parts hbl).2
            exact ⟨by omega, hyb⟩
          rw [hsl] at hx
          have hbe := fun W (u : Value) (h : Ints W (.slice a1 l1.length c1) l1) (hu : Ints W u (sglL (N : Int) l2)) (h' : Ints W (.slice a4 l4.length c4) l4) => bestS_any W (N : Int) _ l1 h hl1 u (sglL (N : Int) l2) hu _ l4 h'
          obtain ⟨bb, hbb⟩ : ∃ b, b = bestB (N : Int) l1 (sglL (N : Int) l2) l4 := ⟨_, rfl⟩
          simp only [← hbb] at hbe
          rw [← hbb] at hx hbl
          obtain ⟨_, b2', off2, _, hve, _, hix2, hc2, hb2⟩ := h2.view Tryz.prog 22 3 Tryz.underlying22 intElem
          injection hve with x1 _ x3
          subst x1 x3
          obtain ⟨_, b4', off4, _, hve, _, hix4, hc4, hb4⟩ := h4.view Tryz.prog 22 3 Tryz.underlying22 intElem
          injection hve with x1 _ x3
          subst x1 x3
          have HX := Lib.hid hx
          have HGR := Lib.hid hgr
          have HMO := Lib.hid hmo
          have HBE := Lib.hid hbe
          have HBL := Lib.hid hbl
          have HSB := Lib.hid hsb
          have HSL := Lib.hid hsl
          have HLB := Lib.hid hlb
          have HLL := Lib.hid hll
          have HC2 := Lib.hid hc2
          have HIX2 := Lib.hid hix2
          have HC4 := Lib.hid hc4
          have HIX4 := Lib.hid hix4
          clear hx hf hn hg hgr hm hmo hbe hbl hsb hsl hlb hll hq2 hc2 hix2 hc4 hix4 hbb
          go_enter Tryz.func5, Tryz.ntmps5
          go_wp2_with fail
          refine (HFN.out _ HV0.out.symm).mono ?_
          rintro e w1 ⟨rfl, b1⟩
          rw [HV0.out.symm] at b1
          have B1 := B0.after b1 B0.size
          have K1 := K0'.keep b1
          have KF1 := KF.keep b1
          have G := K1.cell
          have F := KF1.cell
          go_wp2_with fail
          refine (HGR.out w1 (h2.below B1 (Nat.le_refl _))).mono ?_
          rintro e w2 ⟨rfl, b2⟩
          have B2 := B1.after b2 B1.size
          have K2 := K1.keep b2
          have KF2 := KF1.keep b2
          clear G F
          have G := K2.cell
          go_wp2_with fail
          refine (HMO.out w2 (h2.below B2 (Nat.le_refl _))).mono ?_
          rintro e w3 ⟨rfl, b3⟩
          have B3 := B2.after b3 B2.size
          have K3 := K2.keep b3
          have KF3 := KF2.keep b3
          have o0 := OwnI.lit0 (E := 3) (B := w3.heap.size) w3 (Nat.le_refl _)
          clear G K2 KF2 K1 KF1 B2 B1 b2 b3
          have G := K3.cell
          have F := KF3.cell
          go_wp2_with fail
          go_loopw [5, 7] (fun ov iv wr => ∃ (j : Nat) (p : Option Addr) (r m : Nat), j ≤ N ∧ iv = .int .i64 j ∧ ov = .slice p r m ∧ OwnI 3 w3.heap.size wr (.slice p r m) (sglL (j : Int) l2) ∧ Below w3.heap.size w3 wr) (fun _ iv _ => N - (intOf iv).toNat)
          case atStart => exact ⟨0, _, _, _, Nat.zero_le _, rfl, rfl, o0, bl1 _ _⟩
          case round =>
            obtain ⟨j, p, r, m, hj, rfl, rfl, own, Bw⟩ := hrel
            have HOWN := Lib.hid own
            have B4 := B3.after Bw B3.size
            have K4 := K3.keep Bw
            have KF4 := KF3.keep Bw
            clear own o0 G F
            have G := K4.cell
            have F := KF4.cell
            have zw := Bw.size
            by_cases hlt : j < N
            · have hlt2 : (j : Int) < (N : Int) := by omega
              have hpl : 2 ^ j < l2.length := by rw [HLL.out]; exact Nat.pow_lt_pow_right (by decide) hlt
              have ck := cells_below HC2.out hb2 B4 (Nat.le_refl _) (2 ^ j) hpl
              have ik : ∀ W, (Instr.indexAt 22 (.slice a2 l2.length c2) (.int .i64 ((2 : Int) ^ j))).run Tryz.prog W = .ok (.pointer (some ⟨b2', off2 + 2 ^ j, none⟩)) W := fun W => by have := HIX2.out W (2 ^ j) hpl; simpa using this
              have hbk := HLB.out (2 ^ j) hpl
              have hs := sglL_succ l2 j
              rw [getD_at l2 (2 ^ j) hpl] at hs
              have hsl := sglL_len j l2
              obtain ⟨y, hy⟩ : ∃ y, y = l2[2 ^ j] := ⟨_, rfl⟩
              rw [← hy] at ck hbk hs
              have hp := two_pow j 5 (by omega)
              have hp1 := hp.1
              have hp2 := hp.2
              simp at hp1
              have hwp : IntKind.i64.wrap ((2 : Int) ^ j) = 2 ^ j := by rw [IntKind.wrap_i64]; omega
              have HS := Lib.hid hs
              have hLL : (sglL (j : Int) l2).length + [y].length ≤ 17592186044416 := by simp; omega
              have HLN := Lib.hid hLL
              have hXR : InR y := ⟨by omega, by omega⟩
              have HXR := Lib.hid hXR
              have hcc : wr.cell? ⟨w.heap.size, 4, none⟩ = some (.slice a2 l2.length c2) := G 4
              have hlt4 : w.heap.size < w3.heap.size := K3.lt
              have hb2l : b2' < w3.heap.size := by
                have hne : l2 ≠ [] := fun e => by rw [e] at hpl; simp at hpl
                have := hb2 hne
                have := B3.size
                omega
              obtain ⟨po, hpo⟩ : ∃ po, po = off2 + 2 ^ j := ⟨_, rfl⟩
              rw [← hpo] at ck ik
              clear hy hs hp hsl hpl hLL hXR hpo
              go_wp2_with fail
              go_region_held3 (fun w' => w'.cell? ⟨w.heap.size, 4, none⟩ = some (.slice a2 l2.length c2) ∧ w'.cell? ⟨b2', po, none⟩ = some (.int .i64 y)) (go_keep)
                (first
                  | (refine step_put rfl _ _ _ rfl 3 Tryz.underlying22 intElem w3.heap.size (.slice p r m) (sglL (j : Int) l2) rfl (.slice (some ⟨_, 0, none⟩) 1 1) [y] rfl ?_ ?_ HLN.out wr ?_ zw ?_; (first | (with_reducible exact (HOWN.out.alloc _).drew') | (with_reducible exact HOWN.out.drew'.alloc _)); (refine Ints.one ?_ HXR.out; first | (with_reducible exact cell_newD _ _ _) | (with_reducible exact cell_new _ _ _ _ _ rfl)); (first | (exact ((bl1 wr _).drew).mono zw) | (exact ((Below.refl wr.heap.size wr).drew.alloc (Nat.le_refl _) _).mono zw)); (intro v2 w2 o2 b2 _; have hq1 := (b2.cell (p := ⟨w.heap.size, 4, none⟩) hlt4).trans hcc; have hq2 := (b2.cell (p := ⟨b2', po, none⟩) hb2l).trans ck)))
              all_goals
                obtain ⟨p2, r2, m2, rfl⟩ := o2.shape3
                have Bz := Bw.trans b2
                go_wp2
                go_roundw
                case rel => exact ⟨j + 1, p2, r2, m2, by omega, by go_num, rfl, by rw [HS.out]; exact o2, Bz⟩
                case measure => simp [intOf]; omega
            · have hlt2 : ¬ (j : Int) < (N : Int) := by omega
              have hjN : j = N := by omega
              subst hjN
              have hX := HOWN.out.ints
              have hrl : r = (sglL (j : Int) l2).length := hX.capLe.1
              have hbe := HBE.out wr _ (h1.below B4 (Nat.le_refl _)) hX (h4.below B4 (Nat.le_refl _))
              have HBF := Lib.hid hbe
              have HRL := Lib.hid hrl
              clear hbe hrl
              go_wp2_with fail
              refine HBF.out.mono ?_
              rintro e w5 ⟨rfl, b5⟩
              have B5 := B4.after b5 B4.size
              have K5 := K4.keep b5
              have KF5 := KF4.keep b5
              have hX5 := hX.keep b5
              clear G F hX
              have G := K5.cell
              have F := KF5.cell
              cases bb with
              | false =>
                go_wp2
                go_ret
                exact ⟨ret_bool HX.out.symm, B5⟩
              | true =>
                have hl4 := HBL.out rfl
                obtain ⟨X, hXe⟩ : ∃ X, X = sglL (j : Int) l2 := ⟨_, rfl⟩
                have hsl := HSL.out
                have hsb := HSB.out
                have hx := HX.out
                rw [← hXe] at hX5 hsl hsb hx
                rw [show r = X.length by rw [HRL.out, hXe]] at hX5 ⊢
                obtain ⟨_, bx, offx, _, hve, _, hixx, hcx, hbx⟩ := hX5.view Tryz.prog 22 3 Tryz.underlying22 intElem
                injection hve with x1 _ x3
                subst x1 x3
                have hpb := prodTo_bd5 X l4 (by omega) hsb hl4.2
                have HPB := Lib.hid hpb
                have HBB := Lib.hid (And.intro hsb hl4)
                have HX2 := Lib.hid hx
                have HXL := Lib.hid hsl
                have HCX := Lib.hid hcx
                have HIXX := Lib.hid hixx
                clear hpb hsb hl4 hx hsl hcx hixx hX5 hXe
                go_wp2_with fail
                go_loopw [6, 8] (fun sv iv wz => ∃ (i n : Nat), i ≤ j ∧ iv = .int .i64 i ∧ sv = .int .i64 (prodTo X l4 i) ∧ wz = w5.drewN n) (fun _ iv _ => j - (intOf iv).toNat)
                case atStart => exact ⟨0, 0, Nat.zero_le _, rfl, rfl, rfl⟩
                case round =>
                  obtain ⟨i, n, hi, rfl, rfl, rfl⟩ := hrel
                  have hbd := HPB.out i (by rw [HXL.out]; exact hi)
                  by_cases hil : i < j
                  · have hil2 : (i : Int) < (j : Int) := by omega
                    have hiX : i < X.length := by rw [HXL.out]; exact hil
                    have hi4 : i < l4.length := by rw [HBB.out.2.1]; exact hil
                    have ck := HCX.out i hiX
                    have ik := fun W => HIXX.out W i hiX
                    have ck4 := cells_below HC4.out hb4 B5 (Nat.le_refl _) i hi4
                    have ik4 := fun W => HIX4.out W i hi4
                    have hm := mul_bd5 _ _ (HBB.out.1 i hiX) (HBB.out.2.2 i hi4)
                    have hs : prodTo X l4 (i + 1) = prodTo X l4 i + X[i] * l4[i] := by rw [prodTo, getD_at X i hiX, getD_at l4 i hi4]
                    obtain ⟨x, hx⟩ : ∃ p, p = X[i] := ⟨_, rfl⟩
                    obtain ⟨y, hy⟩ : ∃ q, q = l4[i] := ⟨_, rfl⟩
                    obtain ⟨S, hS⟩ : ∃ S, S = prodTo X l4 i := ⟨_, rfl⟩
                    rw [← hx] at ck hm hs
                    rw [← hy] at ck4 hm hs
                    rw [← hS] at hbd hs ⊢
                    have hi5 : (i : Int) ≤ 5 := by omega
                    have HS := Lib.hid hs
                    clear hx hy hS hs hiX hi4
                    go_wp2_with fail
                    go_quiet (fail)
                    go_wp2
                    go_roundw
                    case rel => exact ⟨i + 1, n + nq, by omega, by go_num, by rw [HS.out], by simp⟩
                    case measure => simp [intOf]; omega
                  · have hil2 : ¬ (i : Int) < (j : Int) := by omega
                    have hij : i = j := by omega
                    subst hij
                    have hx := HX2.out
                    obtain ⟨S, hS⟩ : ∃ S, S = prodTo X l4 i := ⟨_, rfl⟩
                    rw [← hS] at hx ⊢
                    have hc : (S == q) = (q == S) := by rw [Bool.eq_iff_iff, beq_iff_eq, beq_iff_eq]; exact eq_comm
                    rw [← hc] at hx
                    have HX3 := Lib.hid hx
                    clear hx hS hc
                    go_wp2
                    go_ret
                    exact ⟨ret_bool HX3.out.symm, B5.drewN' _⟩
end Go.Proofs.YtelmokapdkepbaaGreat
end
