/- The statement FnHall: for every input the call returns true and each argument reads as it did. No condition. -/
import Derived.Test.YtmfenalnmpndmaaRead
import Derived.Test.YtmfenalnmpndmaaLawH
import Derived.Test.YtmfenalnmpndmaaHallF
import Derived.Test.YtmfenalnmpndmaaBlk
namespace Go.Proofs.Ytmfenalnmpndmaa
open Go.ChangeShapes Go.WideShapes Go.ChangeAt Go.RowKit Go.G5
set_option maxHeartbeats 16000000 in
set_option maxRecDepth 100000 in
theorem hall_walk (w : World) (v : Value) (l : List Nat) (hv : Byts w v l) :
    Calls Try.prog 5 #[v] w fun e w' => e = .returned (.bool true) ∧ Below w.heap.size w w' := by
  have hv0 := hv
  obtain ⟨av, cv, rfl, _⟩ := hv
  go_enter Try.func5, Try.ntmps5
  go_wp2_with fail
  refine (big_any w _ l hv0).mono ?_
  rintro e w0 ⟨rfl, rfl⟩
  cases hbig : decide ((1048576 : Int) < l.length) with
  | true =>
    go_wp2
    go_ret
    exact ⟨rfl, Below.refl _ _⟩
  | false =>
  clear hbig
  go_wp2_with fail
  refine (drawRep_any w _ l hv0).mono ?_
  rintro e W1 ⟨n, p0, i0, q0, L, rfl, hn, o0, hL, B⟩
  have h0 := o0.ints
  clear o0
  have hi0 : i0 = L.length := by
    obtain ⟨_, _, h⟩ := h0.shape
    injection h
  subst hi0
  have hL2 : L.length ≤ 1048576 := by omega
  have HFC := Lib.hid (hall_facts n L)
  have HVF := Lib.hid (vio_facts n L)
  have hdb := defN_bd n L
  have C1 := fun W (y : Ints W (.slice p0 L.length q0) L) => repI_c W n hn _ L y hL2
  have C2 := fun W (y : Ints W (.slice p0 L.length q0) L) => repS_c W n hn _ L y hL2
  have C3 := fun W (y : Ints W (.slice p0 L.length q0) L) => vioI_c W n hn _ L y hL2
  have C4 := fun W (y : Ints W (.slice p0 L.length q0) L) => vioS_c W n hn _ L y hL2
  have C5 := fun W (y : Ints W (.slice p0 L.length q0) L) => defI_any W n _ L y
  have C6 := fun W (y : Ints W (.slice p0 L.length q0) L) => lpI_any W n _ L y
  have C7 := fun W (y : Ints W (.slice p0 L.length q0) L) => lpS_any W n _ L y
  have C8 := fun W (y : Ints W (.slice p0 L.length q0) L) => cntI28_any W n _ L y
  have C9 := fun W (y : Ints W (.slice p0 L.length q0) L) => defS_any W n _ L y
  have C10 := fun W (y : Ints W (.slice p0 L.length q0) L) => cntS28_any W n _ L y
  have hfc := HFC.out
  have hfew := hfc.few
  have hrep := hfc.rep
  have hvio : vioB n L = true → fewB n L = true := fun h => (hfc.vio h).1
  have hvf := HVF.out
  clear hfc HFC HVF
  obtain ⟨FB, hFB⟩ : ∃ q, q = fewB n L := ⟨_, rfl⟩
  obtain ⟨RB, hRB⟩ : ∃ q, q = repB n L := ⟨_, rfl⟩
  obtain ⟨RL, hRL⟩ : ∃ q, q = repL n L := ⟨_, rfl⟩
  obtain ⟨VB, hVB⟩ : ∃ q, q = vioB n L := ⟨_, rfl⟩
  obtain ⟨VL, hVL⟩ : ∃ q, q = vioL n L := ⟨_, rfl⟩
  obtain ⟨DN, hDN⟩ : ∃ q, q = defN n L := ⟨_, rfl⟩
  obtain ⟨MS, hMS⟩ : ∃ q, q = mstR n L := ⟨_, rfl⟩
  obtain ⟨CN, hCN⟩ : ∃ q, q = cntR n L := ⟨_, rfl⟩
  simp only [← hRB, ← hRL] at C1 C2
  simp only [← hVB, ← hVL] at C3 C4
  simp only [← hDN] at C5 C9
  simp only [← hMS, ← hFB] at C6 C7
  simp only [← hCN] at C8 C10
  rw [← hFB, ← hRB, ← hVB, ← hDN, ← hMS, ← hCN] at hfew
  rw [← hRB, ← hRL] at hrep
  rw [← hVB, ← hFB] at hvio
  rw [← hVB, ← hVL] at hvf
  rw [← hDN] at hdb
  have C1 := Lib.hid C1
  have C2 := Lib.hid C2
  have C3 := Lib.hid C3
  have C4 := Lib.hid C4
  have C5 := Lib.hid C5
  have C6 := Lib.hid C6
  have C7 := Lib.hid C7
  have C8 := Lib.hid C8
  have C9 := Lib.hid C9
  have C10 := Lib.hid C10
  have HFEW := Lib.hid hfew
  have HREP := Lib.hid hrep
  have HVIO := Lib.hid hvio
  have HVF := Lib.hid hvf
  clear hFB hRB hRL hVB hVL hDN hMS hCN hfew hrep hvio hvf
  go_wp2_with fail
  refine (C1.out W1 h0).mono ?_
  rintro e W2 ⟨p1, i1, q1, rfl, o1, b2⟩
  have h1 := o1.ints
  have h0 := h0.keep b2
  have B := B.after b2 B.size
  clear o1
  go_wp2_with fail
  refine (C2.out W2 h0).mono ?_
  rintro e W3 ⟨p2, i2, q2, rfl, o2, b3⟩
  have h2 := o2.ints
  have h0 := h0.keep b3
  have h1 := h1.keep b3
  have B := B.after b3 B.size
  clear o2
  go_wp2_with fail
  refine (C3.out W3 h0).mono ?_
  rintro e W4 ⟨p3, i3, q3, rfl, o3, b4⟩
  have h3 := o3.ints
  have h0 := h0.keep b4
  have h1 := h1.keep b4
  have h2 := h2.keep b4
  have B := B.after b4 B.size
  clear o3
  go_wp2_with fail
  refine (C4.out W4 h0).mono ?_
  rintro e W5 ⟨p4, i4, q4, rfl, o4, b5⟩
  have h4 := o4.ints
  have hi4 : i4 = VL.length := by
    obtain ⟨_, _, h⟩ := h4.shape
    injection h
  subst hi4
  have h0 := h0.keep b5
  have h1 := h1.keep b5
  have h2 := h2.keep b5
  have h3 := h3.keep b5
  have B := B.after b5 B.size
  clear o4
  go_wp2_with fail
  refine (C5.out W5 h0).mono ?_
  rintro e w' ⟨rfl, rfl⟩
  go_wp2_with fail
  refine (C6.out W5 h0).mono ?_
  rintro e W6 ⟨rfl, b6⟩
  have h0 := h0.keep b6
  have h1 := h1.keep b6
  have h2 := h2.keep b6
  have h3 := h3.keep b6
  have h4 := h4.keep b6
  have B := B.after b6 B.size
  go_wp2_with fail
  refine (C7.out W6 h0).mono ?_
  rintro e W7 ⟨rfl, b7⟩
  have h0 := h0.keep b7
  have h1 := h1.keep b7
  have h2 := h2.keep b7
  have h3 := h3.keep b7
  have h4 := h4.keep b7
  have B := B.after b7 B.size
  go_wp2_with fail
  refine (C8.out W7 h0).mono ?_
  rintro e W8 ⟨rfl, b8⟩
  have h0 := h0.keep b8
  have h1 := h1.keep b8
  have h2 := h2.keep b8
  have h3 := h3.keep b8
  have h4 := h4.keep b8
  have B := B.after b8 B.size
  go_wp2_with fail
  refine (sameInts_true _ _ RL W8 h1 h2).mono ?_
  rintro e W9 ⟨rfl, b9⟩
  have h0 := h0.keep b9
  have h2 := h2.keep b9
  have h3 := h3.keep b9
  have h4 := h4.keep b9
  have B := B.after b9 B.size
  clear h1
  go_wp2_with fail
  refine (sameInts_true _ _ VL W9 h3 h4).mono ?_
  rintro e W10 ⟨rfl, b10⟩
  have h0 := h0.keep b10
  have h2 := h2.keep b10
  have h4 := h4.keep b10
  have B := B.after b10 B.size
  clear h3
  go_wp2_with fail
  refine (C9.out W10 h0).mono ?_
  rintro e W11 ⟨rfl, b11⟩
  have h0 := h0.keep b11
  have h2 := h2.keep b11
  have h4 := h4.keep b11
  have B := B.after b11 B.size
  go_wp2_with fail
  refine (C10.out W11 h0).mono ?_
  rintro e W12 ⟨rfl, b12⟩
  have h0 := h0.keep b12
  have h2 := h2.keep b12
  have h4 := h4.keep b12
  have B := B.after b12 B.size
  clear C1 C2 C3 C4 C5 C6 C7 C8 C9 C10
  clear b2 b3 b4 b5 b6 b7 b8 b9 b10 b11 b12
  have wd : IntKind.i64.wrap ((L.length : Int) - DN) = (L.length : Int) - DN := IntWalk.i64_in _ ⟨by omega, by omega⟩
  cases FB with
  | false =>
    have hvb : VB = false := by
      cases hq : VB with
      | false => rfl
      | true => cases HVIO.out hq
    subst hvb
    clear HFEW HREP HVIO HVF h2 h4
    have B := B
    go_wp2_with fail
    refine (drawIsRep_any _ _ l (hv0.below B (Nat.le_refl _))).mono ?_
    rintro e W20 ⟨a, pa, ia, qa, LA, pb, ib, qb, XB, rfl, ha, hb, b20⟩
    have B := B.after b20 B.size
    go_wp2_with fail
    refine (isRepI_any W20 a _ _ LA XB ha hb).mono ?_
    rintro e w' ⟨rfl, rfl⟩
    go_wp2_with fail
    refine (isRepS_any W20 a _ _ LA XB ha hb).mono ?_
    rintro e W21 ⟨rfl, b21⟩
    have B := B.after b21 B.size
    obtain ⟨rr, hrr⟩ : ∃ q, q = isRepB a LA XB := ⟨_, rfl⟩
    simp only [← hrr]
    clear hrr
    go_wp2
    go_ret
    exact ⟨by simp, B⟩
  | true =>
    obtain ⟨f1, f2, f3, f4⟩ := HFEW.out rfl
    subst f1
    have t2 : (MS != (L.length : Int) - DN) = false := by simp [f2]
    obtain ⟨cb, hcb⟩ : ∃ q, decide (0 < CN) = q := ⟨_, rfl⟩
    obtain ⟨db, hdbb⟩ : ∃ q, (DN == 0) = q := ⟨_, rfl⟩
    rw [hcb] at f3
    rw [hdbb] at f4
    subst f3 f4
    clear f2 HFEW HVIO
    cases db with
    | true =>
      have hir := isRepI_any W12 n _ _ L RL h0 h2
      rw [HREP.out rfl] at hir
      have HIR := Lib.hid hir
      clear hir HREP HVF h4 h2
      go_wp2_with (go_at_call 51; refine HIR.out.mono ?_; rintro e w' ⟨rfl, rfl⟩)
      clear HIR
      have B := B
      refine (drawIsRep_any _ _ l (hv0.below B (Nat.le_refl _))).mono ?_
      rintro e W20 ⟨a, pa, ia, qa, LA, pb, ib, qb, XB, rfl, ha, hb, b20⟩
      have B := B.after b20 B.size
      go_wp2_with fail
      refine (isRepI_any W20 a _ _ LA XB ha hb).mono ?_
      rintro e w' ⟨rfl, rfl⟩
      go_wp2_with fail
      refine (isRepS_any W20 a _ _ LA XB ha hb).mono ?_
      rintro e W21 ⟨rfl, b21⟩
      have B := B.after b21 B.size
      obtain ⟨rr, hrr⟩ : ∃ q, q = isRepB a LA XB := ⟨_, rfl⟩
      simp only [← hrr]
      clear hrr
      go_wp2
      go_ret
      exact ⟨by simp, B⟩
    | false =>
      have F := HVF.out rfl
      obtain ⟨G, hG, hG6, s0, s1⟩ := F.G
      subst hG
      have HF := Lib.hid F
      obtain ⟨va, vb, vo, vc, hs4, _, vix, vce, vbl⟩ := h4.view Try.prog 24 3 Try.underlying24 intElem
      obtain ⟨ma, mb, mo, mc, hs0, _, mix, mce, mbl⟩ := h0.view Try.prog 24 3 Try.underlying24 intElem
      injection hs4 with e1 e2 e3
      subst e1 e3
      injection hs0 with e1 e2 e3
      subst e1 e3
      obtain ⟨Z, hZ⟩ : ∃ q, q = orTo L VL VL.length := ⟨_, rfl⟩
      have hfw := F.few
      rw [← hZ] at s0 s1 hfw
      have HZ := Lib.hid hZ
      have HS := Lib.hid (And.intro s0 s1)
      have HFW := Lib.hid hfw
      have HVC := Lib.hid vce
      have HVX := Lib.hid vix
      have HMC := Lib.hid mce
      have HMX := Lib.hid mix
      clear HREP HVF h2 F hfw s0 s1 hZ vce vix mce mix h4 h0 e2
      go_wp2_with fail
      go_loop [19, 20] (fun s i => ∃ j : Nat, j ≤ VL.length ∧ i = .int .i64 j ∧ s = .int .i64 (orTo L VL j)) (fun _ i => VL.length - (intOf i).toNat)
      case atStart => exact ⟨0, Nat.zero_le _, rfl, rfl⟩
      case round =>
        obtain ⟨j, hj, rfl, rfl⟩ := hrel
        by_cases hlt : j < VL.length
        · have c1 := HVC.out j hlt
          have i1 := fun W => HVX.out W j hlt
          have hib := HF.out.idx _ (List.getElem_mem hlt)
          have hos := orTo_succ L VL j hlt
          have hob := HF.out.bd j hj
          obtain ⟨e, he⟩ : ∃ e : Nat, VL[j] = (e : Int) := ⟨VL[j].toNat, by omega⟩
          rw [he] at c1 hib hos
          rw [Int.toNat_natCast] at hos
          have hel : e < L.length := by omega
          have c2 := HMC.out e hel
          have i2 := fun W => HMX.out W e hel
          have hsb := HF.out.sets _ (List.getElem_mem hel)
          rw [getD_at L e hel] at hos
          obtain ⟨y, hy⟩ : ∃ y, y = L[e] := ⟨_, rfl⟩
          rw [← hy] at c2 hsb hos
          obtain ⟨S, hS⟩ : ∃ S, S = orTo L VL j := ⟨_, rfl⟩
          rw [← hS] at hob hos ⊢
          have hor := ior_is hob.1 (show S < 4611686018427387904 by omega) hsb.1 (show y < 4611686018427387904 by omega)
          have HOS := Lib.hid hos
          clear hos he hy hS hob hsb hib
          go_wp2
          go_round
          case rel => exact ⟨j + 1, by omega, by go_num, by rw [HOS.out]⟩
          case measure => simp [intOf]; omega
        · have hjl : j = VL.length := by omega
          subst hjl
          rw [← HZ.out]
          have hne : ¬ (VL.length : Int) < (VL.length : Int) := by omega
          have hs0 := HS.out.1
          have hs1 := HS.out.2
          have HEL := Lib.hid (elS_any G hG6 Z W12 hs0 hs1)
          clear hs0 hs1 hlt hj
          go_wp2_with fail
          refine HEL.out.mono ?_
          rintro e W13 ⟨p5, i5, q5, rfl, o5, b13⟩
          have h5 := o5.ints
          have hi5 : i5 = (elL Z).length := by
            obtain ⟨_, _, h⟩ := h5.shape
            injection h
          have B := B.after b13 B.size
          have hge : ¬ (VL.length : Int) ≤ (i5 : Int) := by have := HFW.out; omega
          clear hi5 h5 o5 HEL
          have B := B
          go_wp2_with fail
          refine (drawIsRep_any _ _ l (hv0.below B (Nat.le_refl _))).mono ?_
          rintro e W20 ⟨a, pa, ia, qa, LA, pb, ib, qb, XB, rfl, ha, hb, b20⟩
          have B := B.after b20 B.size
          go_wp2_with fail
          refine (isRepI_any W20 a _ _ LA XB ha hb).mono ?_
          rintro e w' ⟨rfl, rfl⟩
          go_wp2_with fail
          refine (isRepS_any W20 a _ _ LA XB ha hb).mono ?_
          rintro e W21 ⟨rfl, b21⟩
          have B := B.after b21 B.size
          obtain ⟨rr, hrr⟩ : ∃ q, q = isRepB a LA XB := ⟨_, rfl⟩
          simp only [← hrr]
          clear hrr
          go_wp2
          go_ret
          exact ⟨by simp, B⟩

theorem fnHall_params : Try.f5.params = #[22] := by kernel_rfl
set_option maxRecDepth 100000 in
theorem fnHall_lifted (os : Os) (started : os.Started) (H : Type) (enc : TypeId × Value → H) :
    ReturnsInHanded {} Try.checked os 5 .any (Rows.fnHallSpec.pre6 enc Try.prog Try.f5 Rows.fnHallRow.domain false) (Rows.fnHallSpec.post enc Try.prog Try.f5 false true false false) := by
  refine law_lift os started H enc Try.func5 (by kernel_rfl) rfl (by kernel_rfl) (by kernel_rfl) ?_
    (ChangeSpec.witness6 (enc := enc) (C := Try.checked) false ⟨#[], #[.slice none 0 0], []⟩ 8 (by kernel_rfl) (by kernel_rfl) (by kernel_rfl) (by kernel_rfl)) ?_
  · intro ds hds
    rw [fnHall_params] at hds
    match ds, hds with
    | [d0], _ => rfl
  · intro W base args ds p hval hA
    rw [fnHall_params] at hA hval
    obtain ⟨v0, vs0, d0, ds0, p0, q0, hargs, rfl, rfl, h0, r0⟩ := trodAll_cons hA
    obtain ⟨rfl, rfl, rfl⟩ := trodAll_nil r0
    obtain rfl : args = #[v0] := by cases args; simp_all
    obtain ⟨l0, w0⟩ := rd_bytes (hval 0 22 v0 rfl rfl) h0
    exact hall_walk W _ l0 w0

theorem fnHall_holds : Rows.FnHallSaid :=
  OpenClaim.holds_of_wide 5 Try.f5 rfl rfl rfl rfl rfl rfl rfl ⟨rfl, rfl, rfl, rfl, rfl⟩ rfl rfl rfl rfl rfl (by kernel_rfl) Try.func5 (by kernel_rfl)
    (of_decide_eq_true (by kernel_rfl)) (by unfold Func.isWrapper; first | (rw [if_pos (by decide +kernel)]; kernel_rfl) | (rw [if_neg (by decide +kernel)]; exact ⟨rfl, rfl⟩))
    (fun os started H enc _ => fnHall_lifted os started H enc)
end Go.Proofs.Ytmfenalnmpndmaa
