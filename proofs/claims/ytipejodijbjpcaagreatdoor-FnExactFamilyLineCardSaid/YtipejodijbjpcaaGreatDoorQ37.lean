/- The growth of a family: the second program. Colourings of families: the second program. Laminar, intersecting, cross-free families and antichains: the second program; cross-free families in the first. -/
import Derived.Test.YtipejodijbjpcaaGreatDoorQ36
import Derived.Lib.MinMax
section
namespace Go.Proofs.YtipejodijbjpcaaGreatDoor
open Go.RowKit Go.G5

set_option maxHeartbeats 1000000 in
set_option maxRecDepth 100000 in
theorem growthS_any (w : World) (N : Nat) (v : Value) (l : List Int) (hv : Ints w v l) (hf : isFamB (N : Int) l = true) :
    Calls Tryz.prog 78 #[.agg #[.int .i64 (N : Int), v]] w fun e w' => ∃ ad i c, e = .returned (.slice ad i c) ∧ Ints w' (.slice ad i c) (groL (N : Int) l) ∧ Below w.heap.size w w' := by
  obtain ⟨a, c, rfl⟩ := hv.shape
  have hm := fam_mem hf
  have hl := fam_len hf
  obtain ⟨h0, h6, hq1, hq2⟩ := famOk hf
  have hN : N ≤ 6 := by omega
  have hp := two_pow N 6 hN
  have hp1 := hp.1
  have hp2 := hp.2
  simp at hp1
  have hx : groL (N : Int) l = groTo l N (2 ^ N) := by unfold groL; rw [hf, Int.toNat_natCast]; rfl
  obtain ⟨V, hV⟩ : ∃ V, V = w.alloc (.cells #[.int .i64 (N : Int), .slice a l.length c] 27) := ⟨_, rfl⟩
  have B : Below w.heap.size w V := by rw [hV]; exact bl1 _ _
  have K1 : Blk V w.heap.size 27 #[.int .i64 (N : Int), .slice a l.length c] := by rw [hV]; exact Blk.new _ _ _
  have hfm := isFamS_any (N : Int) l _ V (hv.below B (Nat.le_refl _))
  rw [hf] at hfm
  obtain ⟨M, hM⟩ : ∃ M, M = 2 ^ N := ⟨_, rfl⟩
  have hMi : (2 : Int) ^ N = (M : Int) := by rw [hM]; simp
  have hwp : IntKind.i64.wrap ((2 : Int) ^ N) = 2 ^ N := by rw [IntKind.wrap_i64]; omega
  have hM64 : M ≤ 64 := by have h := Nat.pow_le_pow_right (show 0 < 2 by decide) hN; rw [hM]; simpa using h
  have hpg : ∀ s, s < M → pop s ≤ N := fun s hs => pop_g N (by omega) s (by omega)
  have htr := fun (W : World) (s : Nat) (hs : s < M) (h : Ints W (.slice a l.length c) l) => tracesS_any W _ l h hm hl (s : Int) ⟨by omega, by omega⟩
  rw [← hM] at hx
  have HV := Lib.hid hV
  have HFM := Lib.hid hfm
  have HMI := Lib.hid hMi
  have HTR := Lib.hid htr
  have HPG := Lib.hid hpg
  have HX := Lib.hid hx
  clear hV hfm htr hpg hx hf hq1 hq2 hm hp hM hMi
  go_enter Tryz.func78, Tryz.ntmps78
  go_wp2_with fail
  rw [HV.out.symm]
  refine HFM.out.mono ?_
  rintro e w1 ⟨rfl, b1⟩
  have B1 := B.after b1 B.size
  have K1' := K1.keep b1
  have G1 := K1'.cell
  go_wp2_with (at_make; refine wpList_makeI rfl _ _ _ rfl 3 Tryz.underlying22 intElem (N + 1) _ _ rfl rfl (by go_num) (by go_num) (by omega) ?_; intro w2 hown hg; have B2 := B1.grown hg B1.size (fun q hq => by cases hq); have K2 := K1'.grow hg (by simp); clear G1 hg; have G1 := K2.cell)
  have hB1 := K1'.lt
  go_loopw [4] (fun iv wr => ∃ j : Nat, j ≤ M ∧ iv = .int .i64 j ∧ OwnI 3 w1.heap.size wr (.slice (some ⟨w1.heap.size, 0, none⟩) (N + 1) (N + 1)) (groTo l N j) ∧ Below w.heap.size w wr ∧ Blk wr w.heap.size 27 #[.int .i64 (N : Int), .slice a l.length c]) (fun iv _ => M - (intOf iv).toNat)
  case atStart => exact ⟨0, Nat.zero_le _, rfl, hown, B2, K2⟩
  case round =>
    obtain ⟨j, hj, rfl, ho, Br, Kr⟩ := hrel
    clear hown G1
    have G := Kr.cell
    by_cases hlt : j < M
    · have hlt2 : (j : Int) < 2 ^ N := by rw [HMI.out]; omega
      have hpj := HPG.out j hlt
      have hst : groTo l N (j + 1) = (groTo l N j).set (pop j) (max ((groTo l N j).getD (pop j) 0) ((trL l (j : Int)).length : Int)) := rfl
      have hbd := groTo_bd l N j (by omega)
      have htl := trL_len l (j : Int) (by omega) (by omega)
      have hk := groTo_at l N (pop j) hpj j
      have hgl := groTo_len l N j
      have hgi : (pop j : Int) < (N : Int) + 1 := by omega
      have HSZ := Lib.hid (fun W => l2Size_any j W (by omega))
      have htr := HTR.out wr.drew j hlt (hv.below Br.drew (Nat.le_refl _))
      obtain ⟨T, hT⟩ : ∃ T, T = trL l (j : Int) := ⟨_, rfl⟩
      rw [← hT] at hst htl htr
      obtain ⟨L, hL⟩ : ∃ L, L = groTo l N j := ⟨_, rfl⟩
      rw [← hL] at hst hbd hk hgl ho
      obtain ⟨k, hke⟩ : ∃ k, k = pop j := ⟨_, rfl⟩
      rw [← hke] at hst hk hpj hgi
      simp only [← hke] at HSZ
      rw [List.getD_eq_getElem?_getD, List.getElem?_eq_getElem hk, Option.getD_some] at hst
      have hyb := hbd _ (List.getElem_mem hk)
      obtain ⟨y, hy⟩ : ∃ y, y = L[k] := ⟨_, rfl⟩
      have HST := Lib.hid hst
      have HTR2 := Lib.hid htr
      have c0 := ho.cellAt hgl.symm k hk
      rw [← hy] at c0 hyb
      have HY := Lib.hid hy
      clear hst htr hT hL hke hbd hy
      have Kd : Blk wr.drew w.heap.size 27 #[.int .i64 (N : Int), .slice a l.length c] := Kr
      have od := ho.drewN 1
      have hfd : ∀ (p : Option Addr) (i q : Nat) (W : World), (Instr.field 27 (.agg #[.int .i64 (N : Int), .slice p i q]) 1).run Tryz.prog W = .ok (.slice p i q) W := fun _ _ _ _ => rfl
      have Gd := Kd.cell
      go_wp2_with fail
      go_region_law
        (go_simp; first | (go_at_call 173; refine (HSZ.out _).mono ?_; rintro e w' ⟨rfl, rfl⟩) | (go_at_call 217; refine HTR2.out.mono ?_; rintro e w5 ⟨p5, i5, q5, rfl, o5, b5⟩; have hi5 : i5 = T.length := o5.ints.capLe.1; subst hi5; have o6 := od.keep b5; have c6 := o6.cellAt hgl.symm k hk; rw [← HY.out] at c6; have f6 := o6.frozenAt hgl.symm k))
      all_goals
        have st := o6.stored hgl.symm k (max y (T.length : Int)) ⟨by omega, by omega⟩
        have B6 : Below w.heap.size w w5 := Br.drew.after b5 Br.drew.size
        have K6 := Kd.keep b5
        have B7 : Below w.heap.size w (w5.setCell ⟨w1.heap.size, k, none⟩ (.int .i64 (max y (T.length : Int)))) := Below.setCell B6 (by show w.heap.size ≤ w1.heap.size; omega) _
        have K7 := K6.far (p := ⟨w1.heap.size, k, none⟩) (by show w.heap.size ≠ w1.heap.size; omega) (.int .i64 (max y (T.length : Int)))
        clear G Gd c0 c6 f6 od o6 o5
        go_wp2
        go_roundw
        case rel => exact ⟨j + 1, by omega, by go_num, by rw [HST.out, ← HY.out]; exact st.1, B7, K7⟩
        case measure => simp [intOf]; omega
    · have hlt2 : ¬ (j : Int) < 2 ^ N := by rw [HMI.out]; omega
      have hje : j = M := by omega
      have HJ := Lib.hid hje
      clear hje
      go_wp2
      go_ret
      exact ⟨_, _, _, rfl, by rw [HX.out, ← HJ.out]; exact ho.ints, Br⟩
end Go.Proofs.YtipejodijbjpcaaGreatDoor
end
section
namespace Go.Proofs.YtipejodijbjpcaaGreatDoor
open Go.RowKit Go.G5

set_option maxHeartbeats 400000 in
theorem imbS_any (s r : Int) (w : World) (hs : 0 ≤ s ∧ s < 64) (hr : 0 ≤ r ∧ r < 64) :
    Calls Tryz.prog 306 #[.int .i64 s, .int .i64 r] w fun e w' => e = .returned (.int .i64 (imbN s r)) ∧ w = w' := by
  have hA := iand_is hs.1 (show s < 4611686018427387904 by omega) hr.1 (show r < 4611686018427387904 by omega)
  have hA2 := iand_bd s r 64 hs.1 hs.2
  have hbd := imb_bd hs hr
  have hsm := imb_same hs hr
  have hx : imbN s r = max (ipop (iand s r) - ipop (idif s r)) (-(ipop (iand s r) - ipop (idif s r))) := rfl
  rw [← hsm] at hx hbd
  obtain ⟨A, hAe⟩ : ∃ A, A = iand s r := ⟨_, rfl⟩
  rw [← hAe] at hA hA2 hbd hx
  have HS1 := Lib.hid (fun W => l2Size_i A W hA2.1 (by omega))
  have HS2 := Lib.hid (fun W => l2Size_i s W hs.1 (by omega))
  obtain ⟨p, hp⟩ : ∃ p, p = ipop A := ⟨_, rfl⟩
  obtain ⟨q, hq⟩ : ∃ p, p = ipop s := ⟨_, rfl⟩
  simp only [← hp] at HS1 hbd hx
  simp only [← hq] at HS2 hbd hx
  have hi1 : inB s 0 1023 = true := inB_true.2 ⟨hs.1, by omega⟩
  have hi2 : inB r 0 1023 = true := inB_true.2 ⟨hr.1, by omega⟩
  have hl1 := fun W => l1In_any s 0 1023 W
  have hl2 := fun W => l1In_any r 0 1023 W
  simp only [hi1] at hl1
  simp only [hi2] at hl2
  have HL1 := Lib.hid hl1
  have HL2 := Lib.hid hl2
  have hw0 : IntKind.i64.wrap (2 * p) = 2 * p := by rw [IntKind.wrap_i64]; omega
  have hw1 : IntKind.i64.wrap (2 * p - q) = 2 * p - q := by rw [IntKind.wrap_i64]; omega
  have hw2 : IntKind.i64.wrap (-(2 * p - q)) = -(2 * p - q) := by rw [IntKind.wrap_i64]; omega
  have HX := Lib.hid hx
  clear hx hAe hp hq hA2 hsm hi1 hi2 hl1 hl2
  go_enter Tryz.func306, Tryz.ntmps306
  go_wp2_with (first
    | (go_at_call 188; first | (with_reducible refine (HL1.out _).mono ?_; rintro e w' ⟨rfl, rfl⟩) | (with_reducible refine (HL2.out _).mono ?_; rintro e w' ⟨rfl, rfl⟩))
    | (go_at_call 173; first | (with_reducible refine (HS1.out _).mono ?_; rintro e w' ⟨rfl, rfl⟩) | (with_reducible refine (HS2.out _).mono ?_; rintro e w' ⟨rfl, rfl⟩)))
  go_ret
  exact ⟨ret_int (by rw [HX.out]; try omega), rfl⟩
set_option maxHeartbeats 1000000 in
set_option maxRecDepth 100000 in
theorem discS_any (N : Nat) (l : List Int) (v : Value) (r : Int) (w : World) (hv : Ints w v l) (hf : isFamB (N : Int) l = true) (hr : 0 ≤ r ∧ r < 2 ^ N) :
    Calls Tryz.prog 219 #[.agg #[.int .i64 (N : Int), v], .int .i64 r] w fun e w' => e = .returned (.int .i64 (woN l r)) ∧ Below w.heap.size w w' := by
  have hv0 := hv
  obtain ⟨a, b, off, c, rfl, hlen, hix, hc, hb⟩ := hv.view Tryz.prog 22 3 Tryz.underlying22 intElem
  have hm := fam_mem hf
  obtain ⟨h0, h6, hq1, hq2⟩ := famOk hf
  have hN : N ≤ 6 := by omega
  have hp := two_pow N 6 hN
  have hp1 := hp.1
  have hp2 := hp.2
  have hcast : ((2 : Int) ^ N) = ((2 ^ N : Nat) : Int) := by simp
  have h64 : (2 : Nat) ^ N ≤ 2 ^ 6 := Nat.pow_le_pow_right (by decide) hN
  have hr64 : 0 ≤ r ∧ r < 64 := by omega
  have hbd := woTo_bd l r hm hr64
  have K0 := Blk.new w 27 #[.int .i64 (N : Int), .slice a l.length c]
  have hin : inB r 0 (2 ^ N - 1) = true := inB_true.2 ⟨hr.1, by omega⟩
  have hl1 := fun W => l1In_any r 0 (2 ^ N - 1) W
  simp only [hin] at hl1
  have hfm := isFamS_any (N : Int) l _ _ (hv0.alloc (.cells #[.int .i64 (N : Int), .slice a l.length c] 27))
  rw [hf] at hfm
  have HL1 := Lib.hid hl1
  have HFU := Lib.hid (fun W => l2Full_any N W (by omega))
  have HFM := Lib.hid hfm
  have HC := Lib.hid hc
  have HIX := Lib.hid hix
  have HM := Lib.hid hm
  have HBD := Lib.hid hbd
  have HR := Lib.hid hr64
  clear hc hix hm hbd hl1 hfm hf hin hq1 hq2 hp hcast h64 hr64
  go_enter Tryz.func219, Tryz.ntmps219
  go_wp2_with fail
  refine HFM.out.mono ?_
  rintro e w1 ⟨rfl, b1⟩
  have B1 : Below w.heap.size w w1 := (bl1 _ _).after b1 (by simp)
  have G := (K0.keep b1).cell
  go_wp2_with (first | (go_at_call 187; refine (HFU.out _).mono ?_; rintro e w' ⟨rfl, rfl⟩) | (go_at_call 188; refine (HL1.out _).mono ?_; rintro e w' ⟨rfl, rfl⟩))
  go_loop [5, 6] (fun mv iv => ∃ j : Nat, j ≤ l.length ∧ iv = .int .i64 j ∧ mv = .int .i64 (woTo l r j)) (fun _ iv => l.length - (intOf iv).toNat)
  case atStart => exact ⟨0, Nat.zero_le _, rfl, rfl⟩
  case round =>
    obtain ⟨j, hj, rfl, rfl⟩ := hrel
    have hb1 := HBD.out j
    by_cases hlt : j < l.length
    · have hlt2 : (j : Int) < (l.length : Int) := by omega
      have ck := cells_below HC.out hb B1 (Nat.le_refl _) j hlt
      have ik := fun W => HIX.out W j hlt
      have him := fun W => imbS_any l[j] r W (HM.out _ (List.getElem_mem hlt)) HR.out
      have hs : woTo l r (j + 1) = max (woTo l r j) (imbN l[j] r) := by rw [woTo, getD_at l j hlt]
      obtain ⟨y, hy⟩ : ∃ y, y = l[j] := ⟨_, rfl⟩
      rw [← hy] at ck hs
      simp only [← hy] at him
      obtain ⟨z, hz⟩ : ∃ z, z = imbN y r := ⟨_, rfl⟩
      rw [← hz] at hs
      simp only [← hz] at him
      obtain ⟨M, hM⟩ : ∃ y, y = woTo l r j := ⟨_, rfl⟩
      rw [← hM] at hs hb1 ⊢
      have HS := Lib.hid hs
      have HIM := Lib.hid him
      clear hy hz hM hs him
      go_wp2_with (go_at_call 306; refine (HIM.out _).mono ?_; rintro e w' ⟨rfl, rfl⟩)
      go_round
      case rel => exact ⟨j + 1, by omega, by go_num, by rw [HS.out]; try omega⟩
      case measure => simp [intOf]; omega
    · have hlt2 : ¬ (j : Int) < (l.length : Int) := by omega
      have hje : j = l.length := by omega
      have HJ := Lib.hid hje
      clear hje
      go_wp2
      go_ret
      exact ⟨ret_int (by unfold woN; rw [← HJ.out]), B1⟩
theorem clTo_succS (l : List Int) (r : Nat) : clTo l (r + 1) = if woN l ((r + 1 : Nat) : Int) < (clTo l r).2 then (((r + 1 : Nat) : Int), woN l ((r + 1 : Nat) : Int)) else clTo l r := rfl
set_option maxHeartbeats 1000000 in
set_option maxRecDepth 100000 in
theorem bestColS_any (g : Int) (l : List Int) (v : Value) (w : World) (hv : Ints w v l) (hf : isFamB g l = true) :
    Calls Tryz.prog 80 #[.agg #[.int .i64 g, v]] w fun e w' => e = .returned (.tuple #[.int .i64 (clR g l), .int .i64 (clN g l), .bool true]) ∧ Below w.heap.size w w' := by
  obtain ⟨a, c, rfl⟩ := hv.shape
  have hm := fam_mem hf
  obtain ⟨h0, h6, hq1, hq2⟩ := famOk hf
  obtain ⟨N, rfl⟩ := Int.eq_ofNat_of_zero_le h0
  have hN : N ≤ 6 := by omega
  have hr1 : clR (N : Int) l = (clTo l (2 ^ N - 1)).1 := by unfold clR; rw [hf, Int.toNat_natCast]; rfl
  have hr2 : clN (N : Int) l = (clTo l (2 ^ N - 1)).2 := by unfold clN; rw [hf, Int.toNat_natCast]; rfl
  have hbd := clTo_bd l hm
  have hwo := fun (W : World) (r : Int) (h : Ints W (.slice a l.length c) l) (hr : 0 ≤ r ∧ r < 2 ^ N) => discS_any N l _ r W h hf hr
  have h64 : (2 : Nat) ^ N ≤ 2 ^ 6 := Nat.pow_le_pow_right (by decide) hN
  have hpn := Nat.two_pow_pos N
  have hcast : ((2 : Int) ^ N) = ((2 ^ N : Nat) : Int) := by simp
  have hp := two_pow N 6 hN
  have hp1 := hp.1
  have hp2 := hp.2
  have hwp : IntKind.i64.wrap ((2 : Int) ^ N) = 2 ^ N := by rw [IntKind.wrap_i64]; omega
  have hstart : clTo l 0 = (0, woN l 0) := rfl
  obtain ⟨M, hM⟩ : ∃ M, M = 2 ^ N - 1 := ⟨_, rfl⟩
  have hMi : ((2 : Int) ^ N) = (M : Int) + 1 := by rw [hcast, hM]; omega
  have hM64 : M < 64 := by omega
  rw [← hM] at hr1 hr2
  have K0 := Blk.new w 27 #[.int .i64 (N : Int), .slice a l.length c]
  have HR := Lib.hid (And.intro hr1 hr2)
  have HBD := Lib.hid hbd
  have HWO := Lib.hid hwo
  have HMI := Lib.hid hMi
  have hfm := isFamS_any (N : Int) l _ _ (hv.alloc (.cells #[.int .i64 (N : Int), .slice a l.length c] 27))
  rw [hf] at hfm
  have HFM := Lib.hid hfm
  obtain ⟨W0, hW0⟩ : ∃ z, z = woN l 0 := ⟨_, rfl⟩
  have hw0 : ∀ W, Ints W (.slice a l.length c) l → Calls Tryz.prog 219 #[.agg #[.int .i64 (N : Int), .slice a l.length c], .int .i64 0] W fun e w' => e = .returned (.int .i64 W0) ∧ Below W.heap.size W w' := fun W h => by rw [hW0]; exact hwo W 0 h (by omega)
  rw [← hW0] at hstart
  have HW := Lib.hid hw0
  have HS := Lib.hid hstart
  clear hr1 hr2 hbd hwo h64 hpn hcast hM hm hf hw0 hstart hW0 hfm hq1 hq2 hp hMi
  go_enter Tryz.func80, Tryz.ntmps80
  go_wp2_with fail
  refine HFM.out.mono ?_
  rintro e w1 ⟨rfl, b1⟩
  have B1 : Below w.heap.size w w1 := (bl1 _ _).after b1 (by simp)
  have K1 := K0.keep b1
  have G := K1.cell
  go_wp2_with fail
  refine (HW.out w1 (hv.below B1 (Nat.le_refl _))).mono ?_
  rintro e w2 ⟨rfl, b2⟩
  have B2 := B1.after b2 B1.size
  have K2 := K1.keep b2
  clear G K0 b1 K1 B1 b2
  go_wp2_with fail
  go_loopw [5, 6, 7] (fun bv mv iv wr => ∃ (r : Nat), r ≤ M ∧ iv = .int .i64 ((r : Int) + 1) ∧ bv = .int .i64 (clTo l r).1 ∧ mv = .int .i64 (clTo l r).2 ∧ Blk wr w.heap.size 27 #[.int .i64 (N : Int), .slice a l.length c] ∧ Below w.heap.size w wr) (fun _ _ iv _ => M + 1 - (intOf iv).toNat)
  case atStart => exact ⟨0, Nat.zero_le _, rfl, by rw [HS.out], by rw [HS.out], K2, B2⟩
  case round =>
    obtain ⟨r, hr, rfl, rfl, rfl, K, B⟩ := hrel
    clear K2 B2
    have hb1 := HBD.out r (by omega)
    have hsu := clTo_succS l r
    have hcs : ((r + 1 : Nat) : Int) = (r : Int) + 1 := by omega
    rw [hcs] at hsu
    obtain ⟨C, hC⟩ : ∃ C, C = clTo l r := ⟨_, rfl⟩
    rw [← hC] at hb1 hsu ⊢
    have HC := Lib.hid hC
    have G := K.cell
    clear hC hcs
    by_cases hlt : r < M
    · have hlt2 : (r : Int) + 1 < 2 ^ N := by rw [HMI.out]; omega
      have hwo := HWO.out wr ((r : Int) + 1) (hv.below B (Nat.le_refl _)) (by rw [HMI.out]; omega)
      obtain ⟨D, hD⟩ : ∃ D, D = woN l ((r : Int) + 1) := ⟨_, rfl⟩
      rw [← hD] at hwo hsu
      have HWW := Lib.hid hwo
      have hwi : IntKind.i64.wrap ((r : Int) + 1 + 1) = (r : Int) + 1 + 1 := by rw [IntKind.wrap_i64]; omega
      by_cases hd : D < C.2
      · rw [if_pos hd] at hsu
        have HSU := Lib.hid hsu
        clear hsu hwo hD
        go_wp2_with fail
        refine HWW.out.mono ?_
        rintro e w2 ⟨rfl, b2⟩
        have B2 := B.after b2 B.size
        have K2 := K.keep b2
        go_wp2
        go_roundw
        case rel => exact ⟨r + 1, by omega, by go_num, by rw [HSU.out], by rw [HSU.out], K2, B2⟩
        case measure => simp [intOf]; omega
      · rw [if_neg hd] at hsu
        have HSU := Lib.hid hsu
        clear hsu hwo hD
        go_wp2_with fail
        refine HWW.out.mono ?_
        rintro e w2 ⟨rfl, b2⟩
        have B2 := B.after b2 B.size
        have K2 := K.keep b2
        go_wp2
        go_roundw
        case rel => exact ⟨r + 1, by omega, by go_num, by rw [HSU.out], by rw [HSU.out], K2, B2⟩
        case measure => simp [intOf]; omega
    · have hlt2 : ¬ (r : Int) + 1 < 2 ^ N := by rw [HMI.out]; omega
      have hre : r = M := by omega
      have HRE := Lib.hid hre
      clear hre hsu
      go_wp2
      go_ret3
      exact ⟨by rw [HR.out.1, HR.out.2, ← HRE.out, HC.out]; rfl, B⟩
end Go.Proofs.YtipejodijbjpcaaGreatDoor
end
section
namespace Go.Proofs.YtipejodijbjpcaaGreatDoor
open Go.RowKit Go.G5

set_option maxHeartbeats 1000000 in
set_option maxRecDepth 100000 in
theorem antiS_any (g : Int) (l : List Int) (v : Value) (w : World) (hv : Ints w v l) (hf : isFamB g l = true) :
    Calls Tryz.prog 86 #[.agg #[.int .i64 g, v]] w fun e w' => e = .returned (.bool (antiB g l)) ∧ Below w.heap.size w w' := by
  obtain ⟨a, c, rfl⟩ := hv.shape
  have K0 := Blk.new w 27 #[.int .i64 g, .slice a l.length c]
  have hfm := isFamS_any g l _ _ (hv.alloc (.cells #[.int .i64 g, .slice a l.length c] 27))
  rw [hf] at hfm
  have hx : antiB g l = freeS l := by unfold antiB; rw [hf, anti_same (fam_mem hf)]; rfl
  have hfr := fun W (h : Ints W (.slice a l.length c) l) => l25Free_any l _ W h (fam_mem hf) (fam_len hf)
  have HX := Lib.hid hx
  have HFM := Lib.hid hfm
  have HFR := Lib.hid hfr
  clear hx hfm hfr hf
  go_enter Tryz.func86, Tryz.ntmps86
  go_wp2_with fail
  refine HFM.out.mono ?_
  rintro e w1 ⟨rfl, b1⟩
  have B1 : Below w.heap.size w w1 := (bl1 _ _).after b1 (by simp)
  have G := (K0.keep b1).cell
  go_wp2_with fail
  refine (HFR.out w1 (hv.below B1 (Nat.le_refl _))).mono ?_
  rintro e w2 ⟨rfl, b2⟩
  go_wp2
  go_ret
  exact ⟨ret_bool HX.out.symm, B1.after b2 B1.size⟩
set_option maxHeartbeats 1000000 in
set_option maxRecDepth 100000 in
theorem lamS_any (g : Int) (l : List Int) (v : Value) (w : World) (hv : Ints w v l) (hf : isFamB g l = true) :
    Calls Tryz.prog 83 #[.agg #[.int .i64 g, v]] w fun e w' => e = .returned (.bool (lamB g l)) ∧ Below w.heap.size w w' := by
  obtain ⟨a, c, rfl⟩ := hv.shape
  have K0 := Blk.new w 27 #[.int .i64 g, .slice a l.length c]
  have hfm := isFamS_any g l _ _ (hv.alloc (.cells #[.int .i64 g, .slice a l.length c] 27))
  rw [hf] at hfm
  have hx : lamB g l = lamS l := by
    first
      | (unfold lamB; rw [hf, lam_same (fam_mem hf)]; rfl)
      | (unfold interB; rw [hf, inter_same]; rfl)
  have hfr := fun W (h : Ints W (.slice a l.length c) l) => l16Laminar_any l _ W h (fam_mem hf)
  have HX := Lib.hid hx
  have HFM := Lib.hid hfm
  have HFR := Lib.hid hfr
  clear hx hfm hfr hf
  go_enter Tryz.func83, Tryz.ntmps83
  go_wp2_with fail
  refine HFM.out.mono ?_
  rintro e w1 ⟨rfl, b1⟩
  have B1 : Below w.heap.size w w1 := (bl1 _ _).after b1 (by simp)
  have G := (K0.keep b1).cell
  go_wp2_with fail
  refine (HFR.out w1 (hv.below B1 (Nat.le_refl _))).mono ?_
  rintro e w2 ⟨rfl, b2⟩
  go_wp2
  go_ret
  exact ⟨ret_bool HX.out.symm, B1.after b2 B1.size⟩
set_option maxHeartbeats 1000000 in
set_option maxRecDepth 100000 in
theorem interS_any (g : Int) (l : List Int) (v : Value) (w : World) (hv : Ints w v l) (hf : isFamB g l = true) :
    Calls Tryz.prog 85 #[.agg #[.int .i64 g, v]] w fun e w' => e = .returned (.bool (interB g l)) ∧ Below w.heap.size w w' := by
  obtain ⟨a, c, rfl⟩ := hv.shape
  have K0 := Blk.new w 27 #[.int .i64 g, .slice a l.length c]
  have hfm := isFamS_any g l _ _ (hv.alloc (.cells #[.int .i64 g, .slice a l.length c] 27))
  rw [hf] at hfm
  have hx : interB g l = meetS l := by
    first
      | (unfold lamB; rw [hf, lam_same (fam_mem hf)]; rfl)
      | (unfold interB; rw [hf, inter_same]; rfl)
  have hfr := fun W (h : Ints W (.slice a l.length c) l) => l23Meets_any l _ W h (fam_mem hf)
  have HX := Lib.hid hx
  have HFM := Lib.hid hfm
  have HFR := Lib.hid hfr
  clear hx hfm hfr hf
  go_enter Tryz.func85, Tryz.ntmps85
  go_wp2_with fail
  refine HFM.out.mono ?_
  rintro e w1 ⟨rfl, b1⟩
  have B1 : Below w.heap.size w w1 := (bl1 _ _).after b1 (by simp)
  have G := (K0.keep b1).cell
  go_wp2_with fail
  refine (HFR.out w1 (hv.below B1 (Nat.le_refl _))).mono ?_
  rintro e w2 ⟨rfl, b2⟩
  go_wp2
  go_ret
  exact ⟨ret_bool HX.out.symm, B1.after b2 B1.size⟩
end Go.Proofs.YtipejodijbjpcaaGreatDoor
end
