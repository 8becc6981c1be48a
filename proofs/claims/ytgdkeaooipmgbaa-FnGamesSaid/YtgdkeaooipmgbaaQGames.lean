/- The statement FnGames: for every input the call returns true and each argument reads as it did. No condition. -/
import Derived.Test.YtgdkeaooipmgbaaQ39
import Derived.Deep.DeepCutAuto
import Derived.Deep.CutBlock
section
namespace Go.Proofs.Ytgdkeaooipmgbaa
open Go.ChangeShapes Go.WideShapes Go.ChangeAt Go.RowKit Go.G5
set_option maxHeartbeats 16000000 in
set_option maxRecDepth 100000 in
theorem games_walk (w : World) (v : Value) (l : List Nat) (hv : Byts w v l) :
    Calls Try.prog 3 #[v] w fun e w' => e = .returned (.bool true) ∧ Below w.heap.size w w' := by
  have hv0 := hv
  obtain ⟨av, cv, rfl, _⟩ := hv
  go_enter Try.func3, Try.ntmps3
  go_wp2_with fail
  refine (big_any w _ l hv0).mono ?_
  rintro e w0 ⟨rfl, rfl⟩
  cases hbig : decide ((1048576 : Int) < l.length) with
  | true =>
    go_wp2
    go_ret
    exact ⟨rfl, Below.refl _ _⟩
  | false =>
  clear hbig
  go_wp2_with fail
  refine (drawMasses_any w _ l hv0).mono ?_
  rintro e W1 ⟨nf, pf, jf, qf, L, rfl, hnf, hL, hL32, B⟩
  have hjf : jf = L.length := hL.capLe.1
  subst hjf
  have hL2 : L.length ≤ 1048576 := by omega
  go_wp2_with fail
  refine calls_named ?_
  intro V1 hV1
  have KF : Blk V1 W1.heap.size 26 #[.int .i64 nf, .slice pf L.length qf] := by rw [hV1]; exact Blk.new _ _ _
  have b1 : Below W1.heap.size W1 V1 := by rw [hV1]; exact bl1 _ _
  have hL := hL.keep b1
  have B := B.after b1 B.size
  clear hV1 b1
  refine (massesI_c V1 nf _ L hL hL2).mono ?_
  rintro e W2 ⟨p2, i2, q2, rfl, o2, b2⟩
  have KF := KF.keep b2
  have hL := hL.keep b2
  have hm := o2.ints
  have B := B.after b2 B.size
  have GF := KF.cell
  have hi2 : i2 = (massesOf nf L).length := hm.capLe.1
  subst hi2
  clear b2 o2
  go_wp2_with fail
  refine (massesS_c W2 nf _ L hL hL2).mono ?_
  rintro e W3 ⟨p3, i3, q3, rfl, o3, b3⟩
  have KF := KF.keep b3
  have hL := hL.keep b3
  have hm := hm.keep b3
  have hm3 := o3.ints
  have B := B.after b3 B.size
  clear b3 o3 GF
  go_wp2_with fail
  refine (sameInts_true _ _ (massesOf nf L) W3 hm hm3).mono ?_
  rintro e W4 ⟨rfl, b4⟩
  have KF := KF.keep b4
  have hL := hL.keep b4
  have hm := hm.keep b4
  have B := B.after b4 B.size
  have GF := KF.cell
  clear b4 hm3
  go_wp2_with fail
  refine (isFunS_any nf L _ W4 hL).mono ?_
  rintro e W5 ⟨rfl, b5⟩
  have KF := KF.keep b5
  have hL := hL.keep b5
  have hm := hm.keep b5
  have B := B.after b5 B.size
  clear b5 GF
  go_upto_if 38 with fail
  go_cut [4] (fun _ wx => Below w.heap.size w wx)
  case rest =>
   as_aux_lemma =>
    have B := hcut
    clear KF hL hm hL2 hL32 hnf
    have B := B
    go_wp2_with fail
    refine (drawCore_any _ _ l (hv0.below B (Nat.le_refl _))).mono ?_
    rintro e Y1 ⟨nh, ph, ih, qh, H, px, ix, qx, X, rfl, _, hH, hH32, hX, hX5, d1⟩
    have hih : ih = H.length := hH.capLe.1
    have hix : ix = X.length := hX.capLe.1
    subst hih hix
    have B := B.after d1 B.size
    clear d1
    go_wp2_with fail
    refine calls_named ?_
    intro U1 hU1
    have KH : Blk U1 Y1.heap.size 26 #[.int .i64 nh, .slice ph H.length qh] := by rw [hU1]; exact Blk.new _ _ _
    have d1 : Below Y1.heap.size Y1 U1 := by rw [hU1]; exact bl1 _ _
    have hH := hH.keep d1
    have hX := hX.keep d1
    have B := B.after d1 B.size
    clear hU1 d1
    refine (inCoreI_c _ nh _ H hH (by omega) _ X hX (by omega)).mono ?_
    rintro e Y2 ⟨rfl, d2⟩
    have KH := KH.keep d2
    have hH := hH.keep d2
    have hX := hX.keep d2
    have B := B.after d2 B.size
    have GH := KH.cell
    clear d2
    go_wp2_with fail
    refine (inCoreS_c _ nh _ H hH (by omega) _ X hX (by omega)).mono ?_
    rintro e Y3 ⟨rfl, d3⟩
    have KH := KH.keep d3
    have hH := hH.keep d3
    have hX := hX.keep d3
    have B := B.after d3 B.size
    clear d3 GH
    have GH := KH.cell
    obtain ⟨cb, hcb⟩ : ∃ q, inCoreB nh H X = q := ⟨_, rfl⟩
    rw [hcb]
    go_wp2_with fail
    refine (isGrS_any nh H _ _ hH).mono ?_
    rintro e Y4 ⟨rfl, d4⟩
    have KH := KH.keep d4
    have hH := hH.keep d4
    have hX := hX.keep d4
    have B := B.after d4 B.size
    clear d4 GH
    cases hgr : isGrB nh H with
    | false =>
      clear hcb hgr KH hH hX hH32 hX5
      have B := B
      go_wp2_with fail
      refine (drawFom_any _ _ l (hv0.below B (Nat.le_refl _))).mono ?_
      rintro e X1 ⟨n1, p1, i1, q1, M, rfl, hn1, hM, hM32, c1⟩
      have hM2 : M.length ≤ 1048576 := by omega
      have hi1 : i1 = M.length := hM.capLe.1
      subst hi1
      have B := B.after c1 B.size
      clear c1
      have CI := Lib.hid (fun W (y : Ints W (.slice p1 M.length q1) M) => fomI_c W n1 hn1 _ M y hM2)
      have CS := Lib.hid (fun W (y : Ints W (.slice p1 M.length q1) M) => fomS_c W n1 hn1 _ M y hM2)
      obtain ⟨FN, hFN⟩ : ∃ q, q = fomN n1 M := ⟨_, rfl⟩
      obtain ⟨FB, hFB⟩ : ∃ q, q = fomB n1 M := ⟨_, rfl⟩
      obtain ⟨FL, hFL⟩ : ∃ q, q = fomL n1 M := ⟨_, rfl⟩
      rw [← hFN, ← hFB, ← hFL] at CI CS
      clear hFN hFB hFL hM2 hM32
      go_wp2_with fail
      refine (CI.out _ hM).mono ?_
      rintro e X2 ⟨p2, i2, q2, rfl, o2, c2⟩
      have hM := hM.keep c2
      have a2 := o2.ints
      have B := B.after c2 B.size
      clear o2 c2
      go_wp2_with fail
      refine calls_named ?_
      intro V2 hV2
      have K2 : Blk V2 X2.heap.size 26 #[.int .i64 FN, .slice p2 i2 q2] := by rw [hV2]; exact Blk.new _ _ _
      have c2 : Below X2.heap.size X2 V2 := by rw [hV2]; exact bl1 _ _
      have hM := hM.keep c2
      have a2 := a2.keep c2
      have B := B.after c2 B.size
      clear hV2 c2
      refine (CS.out _ hM).mono ?_
      rintro e X3 ⟨p3, i3, q3, rfl, o3, c3⟩
      have K2 := K2.keep c3
      have a2 := a2.keep c3
      have a3 := o3.ints
      have B := B.after c3 B.size
      clear o3 c3 CI CS hM
      go_wp2_with fail
      refine calls_named ?_
      intro V3 hV3
      have K3 : Blk V3 X3.heap.size 26 #[.int .i64 FN, .slice p3 i3 q3] := by rw [hV3]; exact Blk.new _ _ _
      have c3 : Below X3.heap.size X3 V3 := by rw [hV3]; exact bl1 _ _
      have K2 := K2.keep c3
      have a2 := a2.keep c3
      have a3 := a3.keep c3
      have B := B.after c3 B.size
      clear hV3 c3
      refine (drawOnlyPos_any _ _ l (hv0.below B (Nat.le_refl _))).mono ?_
      rintro e X4 ⟨n4, p4, i4, q4, L4, rfl, _, h4, h432, c4⟩
      have hi4 : i4 = L4.length := h4.capLe.1
      subst hi4
      have K2 := K2.keep c4
      have K3 := K3.keep c4
      have a2 := a2.keep c4
      have a3 := a3.keep c4
      have B := B.after c4 B.size
      clear c4
      go_wp2_with fail
      refine calls_named ?_
      intro V4 hV4
      have K4 : Blk V4 X4.heap.size 26 #[.int .i64 n4, .slice p4 L4.length q4] := by rw [hV4]; exact Blk.new _ _ _
      have c4 : Below X4.heap.size X4 V4 := by rw [hV4]; exact bl1 _ _
      have K2 := K2.keep c4
      have K3 := K3.keep c4
      have a2 := a2.keep c4
      have a3 := a3.keep c4
      have h4 := h4.keep c4
      have B := B.after c4 B.size
      clear hV4 c4
      refine (drawFact_any _ _ l (hv0.below B (Nat.le_refl _))).mono ?_
      rintro e X5 ⟨x5, rfl, _, c5⟩
      have K2 := K2.keep c5
      have K3 := K3.keep c5
      have K4 := K4.keep c5
      have a2 := a2.keep c5
      have a3 := a3.keep c5
      have h4 := h4.keep c5
      have B := B.after c5 B.size
      clear c5
      have QE := fun y : Ext X5 => equalFunctionsS_any FN FN _ _ FL FL y.w (y.ints a2) (y.ints a3)
      rw [show (decide (FN = FN) && decide (FL = FL)) = true by simp] at QE
      have hl4 : L4.length ≤ 1048576 := by omega
      have QI := fun y : Ext X5 => onlyPosI_c y.w n4 _ L4 (y.ints h4) hl4
      have QS := fun y : Ext X5 => onlyPosS_c y.w n4 _ L4 (y.ints h4) hl4
      have QF := fun y : Ext X5 => factI_any x5 y.w
      have QG := fun y : Ext X5 => factS_any x5 y.w
      obtain ⟨pb, hpb⟩ : ∃ q, q = onlyPosB n4 L4 := ⟨_, rfl⟩
      simp only [← hpb] at QI QS
      have QE := Lib.hid QE
      have QI := Lib.hid QI
      have QS := Lib.hid QS
      have QF := Lib.hid QF
      have QG := Lib.hid QG
      have G2 := K2.cell
      have G3 := K3.cell
      have G4 := K4.cell
      have e20 : ∀ y : Ext X5, y.w.cell? ⟨X2.heap.size, 0, none⟩ = some (.int .i64 FN) := fun y => y.cell (G2 0)
      have e21 : ∀ y : Ext X5, y.w.cell? ⟨X2.heap.size, 1, none⟩ = some (.slice p2 i2 q2) := fun y => y.cell (G2 1)
      have e30 : ∀ y : Ext X5, y.w.cell? ⟨X3.heap.size, 0, none⟩ = some (.int .i64 FN) := fun y => y.cell (G3 0)
      have e31 : ∀ y : Ext X5, y.w.cell? ⟨X3.heap.size, 1, none⟩ = some (.slice p3 i3 q3) := fun y => y.cell (G3 1)
      have e40 : ∀ y : Ext X5, y.w.cell? ⟨X4.heap.size, 0, none⟩ = some (.int .i64 n4) := fun y => y.cell (G4 0)
      have e41 : ∀ y : Ext X5, y.w.cell? ⟨X4.heap.size, 1, none⟩ = some (.slice p4 L4.length q4) := fun y => y.cell (G4 1)
      clear hpb a2 a3 h4 hl4 h432 G2 G3 G4 K2 K3 K4
      go_wp2_with fail
      refine wp_region_ext _ (by kernel_rfl) (by kernel_rfl) ?_
      repeat (first | go_big_quiet_skip | (go_big_quiet_want; go_big_quiet_op; first | go_big_quiet_on | (apply Exists.intro; refine ⟨fun _ => ?_, ?_⟩; (first | (go_at_call 12; with_reducible exact ext_call (QE.out _)) | (go_at_call 16; with_reducible exact ext_call (QI.out _)) | (go_at_call 31; with_reducible exact ext_call (QS.out _)) | (go_at_call 15; with_reducible exact ext_same (QF.out _)) | (go_at_call 32; with_reducible exact ext_same (QG.out _))); go_big_quiet_on)))
      refine wpQuiet_nil ?_
      rintro X6 ⟨⟨X6, c6⟩, rfl⟩
      try dsimp only
      go_wp2
      go_ret
      exact ⟨by simp, B.after c6 B.size⟩
    | true =>
      have hcore := core_base nh H X hgr
      rw [hcb] at hcore
      have hfn := grOk hgr
      have hnl : ngL nh H = negL H := by unfold ngL; rw [hfn]; rfl
      have hnn : ngN nh H = nh := by unfold ngN; rw [hfn]; rfl
      have HCORE := Lib.hid hcore
      have GH := KH.cell
      have NS := negS_c Y4 nh _ H hH (by omega)
      rw [hnl, hnn, hfn] at NS
      have NS := Lib.hid NS
      clear hcb hgr hcore hfn hnl hnn
      go_wp2_with fail
      refine NS.out.mono ?_
      rintro e Y5 ⟨pu, iu, qu, rfl, ou, d5⟩
      have hX := hX.keep d5
      have hU := ou.ints
      have B := B.after d5 B.size
      clear d5 ou GH KH hH NS
      go_wp2_with fail
      obtain ⟨Y6, hY6⟩ : ∃ W, W = (Y5.alloc (.cells #[.int .i64 nh, .slice pu iu qu] 26)).alloc (.cells #[] 3) := ⟨_, rfl⟩
      have KU : Blk Y6 Y5.heap.size 26 #[.int .i64 nh, .slice pu iu qu] := by rw [hY6]; exact (Blk.new _ _ _).alloc _
      have d6 : Below Y5.heap.size Y5 Y6 := by rw [hY6]; exact bl2 _ _ _
      have oy : OwnI 3 (Y5.heap.size + 1) Y6 (.slice (some ⟨Y5.heap.size + 1, 0, none⟩) 0 0) [] := by
        rw [hY6]
        have := OwnI.lit0 (E := 3) (B := Y5.heap.size + 1) (Y5.alloc (.cells #[.int .i64 nh, .slice pu iu qu] 26)) (by simp)
        simpa using this
      have y56 : Y5.heap.size < Y6.heap.size := KU.lt
      rw [← hY6]
      clear hY6
      go_loopw [16, 17] (fun yv i wr => ∃ (k : Nat) (a : Option Addr) (n c : Nat), k ≤ X.length ∧ i = .int .i64 k ∧ yv = .slice a n c ∧ OwnI 3 (Y5.heap.size + 1) wr (.slice a n c) (negX (X.take k)) ∧ Blk wr Y5.heap.size 26 #[.int .i64 nh, .slice pu iu qu] ∧ Below Y5.heap.size Y5 wr ∧ Y5.heap.size + 1 ≤ wr.heap.size) (fun _ i _ => X.length - (intOf i).toNat)
      case atStart => exact ⟨0, _, _, _, Nat.zero_le _, rfl, rfl, oy, KU, d6, y56⟩
      case round =>
        obtain ⟨k, a, n, c, hk, rfl, rfl, oy', KU', dz, y56'⟩ := hrel
        clear oy KU y56 d6
        have hX' := hX.below dz (Nat.le_refl _)
        have hU' := hU.below dz (Nat.le_refl _)
        have B' := B.after dz B.size
        obtain ⟨Yz, hYz⟩ : ∃ W : World, W = wr := ⟨_, rfl⟩
        subst hYz
        by_cases hlt : k < X.length
        · have hlt2 : (k : Int) < (X.length : Int) := by omega
          obtain ⟨xa, xb, xo, xc, hxs, _, hxi, hxc, hxb⟩ := hX'.view Try.prog 24 3 Try.underlying24 intElem
          injection hxs with e1 _ e3
          subst e1 e3
          have ck := hxc k hlt
          have ik := fun W => hxi W k hlt
          have hst : negX (X.take (k + 1)) = negX (X.take k) ++ [-X[k]] := by
            unfold negX
            rw [List.take_succ_eq_append_getElem hlt, List.map_append]; rfl
          have hln : (negX (X.take k)).length ≤ 5 := by rw [negX_len, List.length_take]; omega
          obtain ⟨x, hx⟩ : ∃ x, x = X[k] := ⟨_, rfl⟩
          rw [← hx] at ck hst
          have HST := Lib.hid hst
          clear hst hx hxi hxc hxb hX' hU'
          by_cases hlo : x < -5000
          · go_wp2
            go_ret
            exact ⟨rfl, B'⟩
          · by_cases hhi : 5000 < x
            · go_wp2
              go_ret
              exact ⟨rfl, B'⟩
            · go_wp2_with (at_builtin; refine wpList_appendN1 rfl _ _ _ rfl 3 Try.underlying24 intElem (Y5.heap.size + 1) (.slice a n c) (negX (X.take k)) (-x) _ rfl rfl (cell_new _ _ _ _ _ rfl) (oy'.alloc _) ⟨by omega, by omega⟩ (by omega) (by simp; omega) ?_; intro v7 w7 o7 g7 h7; obtain ⟨p7, i7, q7, rfl⟩ := o7.shape3)
              have rr := oy'.lt
              have b7 := bl1 Yz (.cells #[.int .i64 (-x)] 3)
              have KU7 := (KU'.keep b7).grow g7 (fun e => by have := (rr _ e).1; omega)
              have d7 := (dz.after b7 (by omega)).grown g7 (by simp; omega) (fun q hq => by have := (rr _ hq).1; omega)
              have y7 := g7.size
              simp at y7
              go_roundw
              case rel => exact ⟨k + 1, p7, i7, q7, by omega, by go_num, rfl, by rw [HST.out]; exact o7, KU7, d7, by omega⟩
              case measure => simp [intOf]; omega
        · have hkX : k = X.length := by omega
          have hlt2 : ¬ (k : Int) < (X.length : Int) := by omega
          have hyy : Ints Yz (.slice a n c) (negX X) := by
            have := oy'.ints
            rw [hkX, List.take_length] at this
            exact this
          have hn2 : n = X.length := by rw [hyy.capLe.1, negX_len]
          subst hn2
          have GU := KU'.cell
          have HBS := Lib.hid (isBaseI_any Yz nh _ (negL H) hU' _ (negX X) hyy)
          have B := B'
          clear hkX hlt oy' B' hX' hU' KU' hyy
          go_wp2_with fail
          refine HBS.out.mono ?_
          rintro e Y7 ⟨rfl, d7⟩
          rw [HCORE.out]
          have B := B.after d7 B.size
          clear d7 HBS GU HCORE
          have B := B
          go_wp2_with fail
          refine (drawFom_any _ _ l (hv0.below B (Nat.le_refl _))).mono ?_
          rintro e X1 ⟨n1, p1, i1, q1, M, rfl, hn1, hM, hM32, c1⟩
          have hM2 : M.length ≤ 1048576 := by omega
          have hi1 : i1 = M.length := hM.capLe.1
          subst hi1
          have B := B.after c1 B.size
          clear c1
          have CI := Lib.hid (fun W (y : Ints W (.slice p1 M.length q1) M) => fomI_c W n1 hn1 _ M y hM2)
          have CS := Lib.hid (fun W (y : Ints W (.slice p1 M.length q1) M) => fomS_c W n1 hn1 _ M y hM2)
          obtain ⟨FN, hFN⟩ : ∃ q, q = fomN n1 M := ⟨_, rfl⟩
          obtain ⟨FB, hFB⟩ : ∃ q, q = fomB n1 M := ⟨_, rfl⟩
          obtain ⟨FL, hFL⟩ : ∃ q, q = fomL n1 M := ⟨_, rfl⟩
          rw [← hFN, ← hFB, ← hFL] at CI CS
          clear hFN hFB hFL hM2 hM32
          go_wp2_with fail
          refine (CI.out _ hM).mono ?_
          rintro e X2 ⟨p2, i2, q2, rfl, o2, c2⟩
          have hM := hM.keep c2
          have a2 := o2.ints
          have B := B.after c2 B.size
          clear o2 c2
          go_wp2_with fail
          refine calls_named ?_
          intro V2 hV2
          have K2 : Blk V2 X2.heap.size 26 #[.int .i64 FN, .slice p2 i2 q2] := by rw [hV2]; exact Blk.new _ _ _
          have c2 : Below X2.heap.size X2 V2 := by rw [hV2]; exact bl1 _ _
          have hM := hM.keep c2
          have a2 := a2.keep c2
          have B := B.after c2 B.size
          clear hV2 c2
          refine (CS.out _ hM).mono ?_
          rintro e X3 ⟨p3, i3, q3, rfl, o3, c3⟩
          have K2 := K2.keep c3
          have a2 := a2.keep c3
          have a3 := o3.ints
          have B := B.after c3 B.size
          clear o3 c3 CI CS hM
          go_wp2_with fail
          refine calls_named ?_
          intro V3 hV3
          have K3 : Blk V3 X3.heap.size 26 #[.int .i64 FN, .slice p3 i3 q3] := by rw [hV3]; exact Blk.new _ _ _
          have c3 : Below X3.heap.size X3 V3 := by rw [hV3]; exact bl1 _ _
          have K2 := K2.keep c3
          have a2 := a2.keep c3
          have a3 := a3.keep c3
          have B := B.after c3 B.size
          clear hV3 c3
          refine (drawOnlyPos_any _ _ l (hv0.below B (Nat.le_refl _))).mono ?_
          rintro e X4 ⟨n4, p4, i4, q4, L4, rfl, _, h4, h432, c4⟩
          have hi4 : i4 = L4.length := h4.capLe.1
          subst hi4
          have K2 := K2.keep c4
          have K3 := K3.keep c4
          have a2 := a2.keep c4
          have a3 := a3.keep c4
          have B := B.after c4 B.size
          clear c4
          go_wp2_with fail
          refine calls_named ?_
          intro V4 hV4
          have K4 : Blk V4 X4.heap.size 26 #[.int .i64 n4, .slice p4 L4.length q4] := by rw [hV4]; exact Blk.new _ _ _
          have c4 : Below X4.heap.size X4 V4 := by rw [hV4]; exact bl1 _ _
          have K2 := K2.keep c4
          have K3 := K3.keep c4
          have a2 := a2.keep c4
          have a3 := a3.keep c4
          have h4 := h4.keep c4
          have B := B.after c4 B.size
          clear hV4 c4
          refine (drawFact_any _ _ l (hv0.below B (Nat.le_refl _))).mono ?_
          rintro e X5 ⟨x5, rfl, _, c5⟩
          have K2 := K2.keep c5
          have K3 := K3.keep c5
          have K4 := K4.keep c5
          have a2 := a2.keep c5
          have a3 := a3.keep c5
          have h4 := h4.keep c5
          have B := B.after c5 B.size
          clear c5
          have QE := fun y : Ext X5 => equalFunctionsS_any FN FN _ _ FL FL y.w (y.ints a2) (y.ints a3)
          rw [show (decide (FN = FN) && decide (FL = FL)) = true by simp] at QE
          have hl4 : L4.length ≤ 1048576 := by omega
          have QI := fun y : Ext X5 => onlyPosI_c y.w n4 _ L4 (y.ints h4) hl4
          have QS := fun y : Ext X5 => onlyPosS_c y.w n4 _ L4 (y.ints h4) hl4
          have QF := fun y : Ext X5 => factI_any x5 y.w
          have QG := fun y : Ext X5 => factS_any x5 y.w
          obtain ⟨pb, hpb⟩ : ∃ q, q = onlyPosB n4 L4 := ⟨_, rfl⟩
          simp only [← hpb] at QI QS
          have QE := Lib.hid QE
          have QI := Lib.hid QI
          have QS := Lib.hid QS
          have QF := Lib.hid QF
          have QG := Lib.hid QG
          have G2 := K2.cell
          have G3 := K3.cell
          have G4 := K4.cell
          have e20 : ∀ y : Ext X5, y.w.cell? ⟨X2.heap.size, 0, none⟩ = some (.int .i64 FN) := fun y => y.cell (G2 0)
          have e21 : ∀ y : Ext X5, y.w.cell? ⟨X2.heap.size, 1, none⟩ = some (.slice p2 i2 q2) := fun y => y.cell (G2 1)
          have e30 : ∀ y : Ext X5, y.w.cell? ⟨X3.heap.size, 0, none⟩ = some (.int .i64 FN) := fun y => y.cell (G3 0)
          have e31 : ∀ y : Ext X5, y.w.cell? ⟨X3.heap.size, 1, none⟩ = some (.slice p3 i3 q3) := fun y => y.cell (G3 1)
          have e40 : ∀ y : Ext X5, y.w.cell? ⟨X4.heap.size, 0, none⟩ = some (.int .i64 n4) := fun y => y.cell (G4 0)
          have e41 : ∀ y : Ext X5, y.w.cell? ⟨X4.heap.size, 1, none⟩ = some (.slice p4 L4.length q4) := fun y => y.cell (G4 1)
          clear hpb a2 a3 h4 hl4 h432 G2 G3 G4 K2 K3 K4
          go_wp2_with fail
          refine wp_region_ext _ (by kernel_rfl) (by kernel_rfl) ?_
          repeat (first | go_big_quiet_skip | (go_big_quiet_want; go_big_quiet_op; first | go_big_quiet_on | (apply Exists.intro; refine ⟨fun _ => ?_, ?_⟩; (first | (go_at_call 12; with_reducible exact ext_call (QE.out _)) | (go_at_call 16; with_reducible exact ext_call (QI.out _)) | (go_at_call 31; with_reducible exact ext_call (QS.out _)) | (go_at_call 15; with_reducible exact ext_same (QF.out _)) | (go_at_call 32; with_reducible exact ext_same (QG.out _))); go_big_quiet_on)))
          refine wpQuiet_nil ?_
          rintro X6 ⟨⟨X6, c6⟩, rfl⟩
          try dsimp only
          go_wp2
          go_ret
          exact ⟨by simp, B.after c6 B.size⟩
  case first =>
  cases hf : isFunB nf L with
  | false =>
    go_wp2_with fail
    go_meet
    exact B
  | true =>
    obtain ⟨N, rfl, hN5, hl2, hl32, hlb⟩ := fun_nat hf
    have HF := Lib.hid hf
    have GFT := gameFacts N L hf
    have hmm : massesOf (N : Int) L = masses L := by unfold massesOf; rw [hf]; rfl
    rw [hmm] at hm ⊢
    have hml : (masses L).length ≤ 1048576 := by rw [masses_len]; exact hL2
    have CFM := fomI_c W5 (N : Int) hnf _ (masses L) hm hml
    rw [GFT.fom.1, GFT.fom.2.1, GFT.fom.2.2] at CFM
    have CFM := Lib.hid CFM
    have hsh : shapOf (N : Int) L = shapL N L := by unfold shapOf; rw [hf, if_pos rfl, Int.toNat_natCast]
    have HSH := Lib.hid hsh
    have HGT := Lib.hid GFT
    have HL2 := Lib.hid hl2
    have HLB := Lib.hid hlb
    have GF := KF.cell
    clear hmm hml hf GFT hsh hl2 hlb
    go_wp2_with fail
    refine CFM.out.mono ?_
    rintro e W6 ⟨p6, i6, q6, rfl, o6, b6⟩
    have KF := KF.keep b6
    have hL := hL.keep b6
    have hG := o6.ints
    have B := B.after b6 B.size
    have hi6 : i6 = L.length := hG.capLe.1
    subst hi6
    clear b6 o6 GF CFM hm
    have GF := KF.cell
    have zF := KF.lt
    go_wp2_with fail
    refine calls_named ?_
    intro V6 hV6
    have KG : Blk V6 W6.heap.size 26 #[.int .i64 (N : Int), .slice p6 L.length q6] := by rw [hV6]; exact Blk.new _ _ _
    have b6 : Below W6.heap.size W6 V6 := by rw [hV6]; exact bl1 _ _
    have KF := KF.keep b6
    have hL := hL.keep b6
    have hG := hG.keep b6
    have B := B.after b6 B.size
    clear hV6 b6
    refine (shapI_c V6 (N : Int) _ L hL hL2).mono ?_
    rintro e W7 ⟨p7, i7, q7, rfl, o7, b7⟩
    rw [HSH.out] at o7
    have KF := KF.keep b7
    have KG := KG.keep b7
    have hL := hL.keep b7
    have hG := hG.keep b7
    have hS := o7.ints
    have B := B.after b7 B.size
    have hi7 : i7 = (shapL N L).length := hS.capLe.1
    subst hi7
    clear b7 o7
    have hlp : 0 < L.length := by rw [HL2.out]; exact Nat.two_pow_pos N
    obtain ⟨la, lb, lo, lc, hls, _, lix, lce, lbl⟩ := hL.view Try.prog 24 3 Try.underlying24 intElem
    injection hls with e1 _ e3
    subst e1 e3
    have cx := lce (L.length - 1) (by omega)
    have cy := lce 0 hlp
    have ix := fun W => lix W (L.length - 1) (by omega)
    have iy := fun W => lix W 0 hlp
    have hbx := HLB.out (L.length - 1) (by omega)
    have hby := HLB.out 0 hlp
    have htot := HGT.out.tot
    rw [getD_at L (L.length - 1) (by omega), getD_at L 0 hlp] at htot
    have hfac := HGT.out.fac
    have hfac0 : (0 : Int) ≤ (fact N : Int) := by omega
    obtain ⟨x, hx⟩ : ∃ q, q = L[L.length - 1] := ⟨_, rfl⟩
    obtain ⟨y, hy⟩ : ∃ q, q = L[0] := ⟨_, rfl⟩
    rw [← hx] at cx hbx htot
    rw [← hy] at cy hby htot
    have hbt := HGT.out.bd
    obtain ⟨SL, hSL⟩ : ∃ q, q = shapL N L := ⟨_, rfl⟩
    rw [← hSL] at hS htot hbt ⊢
    have hSH := HSH.out
    rw [← hSL] at hSH
    have HSH := Lib.hid hSH
    obtain ⟨T, hT⟩ : ∃ q, q = sumI SL := ⟨_, rfl⟩
    obtain ⟨FN, hFN⟩ : ∃ q : Int, q = (fact N : Int) := ⟨_, rfl⟩
    rw [← hT, ← hFN] at htot
    rw [← hFN] at hfac hfac0
    have hmul : 0 < N → IntKind.i64.wrap (FN * (x - y)) = T := fun h0 => by
      have h1 := htot h0
      have h2 : -(120 * 2000) ≤ FN * (x - y) ∧ FN * (x - y) ≤ 120 * 2000 := mul_bdS hfac0 hfac (by omega) (by omega) (by omega)
      rw [h1, IntKind.wrap_i64]; omega
    have hxy : IntKind.i64.wrap (x - y) = x - y := by rw [IntKind.wrap_i64]; omega
    have hlw : IntKind.i64.wrap ((L.length : Int) - 1) = ((L.length - 1 : Nat) : Int) := by rw [IntKind.wrap_i64]; omega
    have HTO := Lib.hid hT
    have HFA := Lib.hid (fun W => factI_any (N : Int) W)
    rw [show factOf (N : Int) = FN by unfold factOf; rw [inB_true.2 ⟨by omega, by omega⟩, if_pos rfl, Int.toNat_natCast, hFN]] at HFA
    have HBT := Lib.hid hbt
    clear hx hy hSL hT hFN htot hfac hfac0 hbx hby hSH lix lce lbl hbt
    have HMUL := Lib.hid hmul
    clear hmul
    have bd : Below W7.heap.size W7 W7.drew := (Below.refl _ _).drew
    have KFd : Blk W7.drew W1.heap.size 26 #[.int .i64 (N : Int), .slice pf L.length qf] := KF
    have KGd : Blk W7.drew W6.heap.size 26 #[.int .i64 (N : Int), .slice p6 L.length q6] := KG
    have GFd := KFd.cell
    have GGd := KGd.cell
    have HE := Lib.hid (fun (W : World) (h1 : Ints W (.slice p6 L.length q6) L) (h2 : Ints W (.slice pf L.length qf) L) => equalFunctionsS_any (N : Int) (N : Int) _ _ L L W h1 h2)
    have HLd := Lib.hid (hL.keep bd)
    have HGd := Lib.hid (hG.keep bd)
    have HSd := Lib.hid (hS.keep bd)
    have cxd := keep bd cx
    have cyd := keep bd cy
    have HKFd := Lib.hid KFd
    have HKGd := Lib.hid KGd
    have Bd := B.after bd B.size
    have f0 := GFd 0
    have f1 := GFd 1
    have g0 := GGd 0
    have g1 := GGd 1
    simp only [List.getElem?_toArray, List.getElem?_cons_zero, List.getElem?_cons_succ] at f0 f1 g0 g1
    clear GFd GGd KFd KGd
    go_upto_region 10 with fail
    go_cut [89] (fun c wx => c = .bool false ∧ Below W7.heap.size W7 wx)
    case rest =>
     as_aux_lemma =>
      obtain ⟨rfl, bbc⟩ := hcut
      have KF := KF.keep bbc
      have hL := hL.keep bbc
      have B := B.after bbc B.size
      clear bbc bd KG hG hS HKFd HKGd HSd HGd HLd HE HMUL HFA HTO HBT Bd ix iy hxy hlw HSH HGT HL2 HLB HF GF zF cx cy cxd cyd f0 f1 g0 g1
      have hL0 := hL
      have KF0 := KF
      have HYB := Lib.hid (Below.refl wc.heap.size wc)
      go_upto_region 12 with fail
      go_cut [100] (fun c wx => c = .bool false ∧ Below wc.heap.size wc wx)
      case rest =>
       as_aux_lemma =>
        obtain ⟨rfl, zc⟩ := hcut
        have KF := KF.keep zc
        have hL := hL.keep zc
        have B := B.after zc B.size
        clear zc KF0 hL0 HYB
        have GF := KF.cell
        go_wp2_with fail
        refine (isGrS_any (N : Int) L _ _ hL).mono ?_
        rintro e Y1 ⟨rfl, y1⟩
        have KF := KF.keep y1
        have hL := hL.keep y1
        have B := B.after y1 B.size
        clear GF y1
        have GF := KF.cell
        cases hgr : isGrB (N : Int) L with
        | false =>
          clear hgr KF hL GF
          go_wp2_with fail
          go_meet
          exact B
        | true =>
          go_wp2_with fail
          refine (supS_any (N : Int) L _ _ hL hL2).mono ?_
          rintro e Y2 ⟨rfl, y2⟩
          have KF := KF.keep y2
          have hL := hL.keep y2
          have B := B.after y2 B.size
          clear GF y2
          have GF := KF.cell
          cases hsu : supB (N : Int) L with
          | false =>
            clear hgr hsu KF hL GF
            go_wp2_with fail
            go_meet
            exact B
          | true =>
            cases hbb : (isGrB (N : Int) L && decide ((N : Int) ≤ 4)) with
            | false =>
              go_wp2_with fail
              refine (cornersS_any Y2 (N : Int) _ L hL false hbb).mono ?_
              rintro e Y3 ⟨pc, ic, qc, ls, rfl, oc, hls, hcor, hbf, y3⟩
              have B := B.after y3 B.size
              have HB := Lib.hid B
              clear GF y3 hbb oc hls hcor hbf KF hL hgr hsu
              go_wp2_with fail
              go_loopw [10] (fun i wr => i = .int .i64 0 ∧ Below w.heap.size w wr) (fun _ _ => 0)
              case atStart => exact ⟨rfl, HB.out⟩
              case round =>
                obtain ⟨rfl, B⟩ := hrel
                go_wp2_with fail
                all_goals (go_meet; exact B)
            | true =>
              go_wp2_with fail
              refine (cornersS_any Y2 (N : Int) _ L hL true hbb).mono ?_
              rintro e Y3 ⟨pc, ic, qc, ls, rfl, oc, hls, hcor, hbf, y3⟩
              have KF := KF.keep y3
              have hL := hL.keep y3
              have B := B.after y3 B.size
              have hic : ic = ls.length := by
                obtain ⟨_, _, h, _⟩ := oc.len
                injection h
              subst hic
              clear GF y3 hbb
              have HY3 := Lib.hid (Below.refl Y3.heap.size Y3)
              go_wp2_with fail
              go_loopw [10] (fun i wr => ∃ k : Nat, k ≤ ls.length ∧ i = .int .i64 k ∧ Below Y3.heap.size Y3 wr) (fun i _ => ls.length - (intOf i).toNat)
              case atStart => exact ⟨0, Nat.zero_le _, rfl, HY3.out⟩
              case round =>
                obtain ⟨k, hk, rfl, yz⟩ := hrel
                obtain ⟨Yz, rfl⟩ : ∃ q : World, q = wr := ⟨_, rfl⟩
                have KF := KF.keep yz
                have hL := hL.keep yz
                have oc := oc.keep yz
                have B := B.after yz B.size
                have HYZ := Lib.hid yz
                clear yz
                by_cases hlt : k < ls.length
                · have hlt2 : (k : Int) < (ls.length : Int) := by omega
                  obtain ⟨gg, u, hix, hcell, hu⟩ := oc.view Try.prog 36 Try.underlying36 sliceElem k hlt
                  obtain ⟨o, ho, hd, hx⟩ := hcor ls[k] (List.getElem_mem hlt)
                  have hic := core_corner (N : Int) L o hgr hsu ho hd
                  rw [← hx] at hic
                  have hxl : ls[k].length ≤ 1048576 := by
                    rw [hx]; unfold cornerL; rw [cornerTo_len]; omega
                  have hui := hu.ints
                  obtain ⟨R, hR⟩ : ∃ q, q = ls[k] := ⟨_, rfl⟩
                  rw [← hR] at hic hxl hui
                  have QI := fun y : Ext Yz => inCoreI_c y.w (N : Int) _ L (y.ints hL) hL2 _ R (y.ints hui) hxl
                  rw [hic] at QI
                  have QI := Lib.hid QI
                  have f0 := KF.cell 0
                  have f1 := KF.cell 1
                  simp only [List.getElem?_toArray, List.getElem?_cons_zero, List.getElem?_cons_succ] at f0 f1
                  have q0 : ∀ y : Ext Yz, y.w.cell? ⟨W1.heap.size, 0, none⟩ = some (.int .i64 (N : Int)) := fun y => y.cell f0
                  have q1 : ∀ y : Ext Yz, y.w.cell? ⟨W1.heap.size, 1, none⟩ = some (.slice pf L.length qf) := fun y => y.cell f1
                  have qc : ∀ y : Ext Yz, y.w.cell? ⟨gg, k, none⟩ = some u := fun y => y.cell hcell
                  clear hcell hui hu hic hR hx hd ho hcor hbf KF hL oc f0 f1 hgr hsu
                  go_wp2_with fail
                  refine wp_region_ext _ (by kernel_rfl) (by kernel_rfl) ?_
                  repeat (first | go_big_quiet_skip | (go_big_quiet_want; go_big_quiet_op; first | go_big_quiet_on | (apply Exists.intro; refine ⟨fun _ => ?_, ?_⟩; (go_at_call 22; with_reducible exact ext_call (QI.out _)); go_big_quiet_on)))
                  refine wpQuiet_nil ?_
                  rintro Y8 ⟨⟨Y8, y8⟩, rfl⟩
                  try dsimp only
                  have y9 := HYZ.out.after y8 HYZ.out.size
                  go_wp2
                  go_roundw
                  case rel => exact ⟨k + 1, by omega, by go_num, y9⟩
                  case measure => simp [intOf]; omega
                · have hlt2 : ¬ (k : Int) < (ls.length : Int) := by omega
                  clear KF hL oc hcor hbf HYZ hgr hsu
                  go_wp2_with fail
                  go_meet
                  exact B
      case first =>
      have GF := KF.cell
      go_wp2_with fail
      refine (onlyPosI_c _ (N : Int) _ L hL hL2).mono ?_
      rintro e Z1 ⟨rfl, z1⟩
      have KF := KF.keep z1
      have hL := hL.keep z1
      have HYB := Lib.hid (HYB.out.after z1 HYB.out.size)
      clear GF z1
      cases hp : onlyPosB (N : Int) L with
      | true =>
        obtain ⟨hsp, hin⟩ := pos_super _ _ hp
        have SI := supI_any (N : Int) L _ Z1 hL hL2
        rw [hsp] at SI
        have SI := Lib.hid SI
        have GF := KF.cell
        clear hp hsp
        have HIN := Lib.hid hin
        clear hin
        go_wp2_with fail
        refine SI.out.mono ?_
        rintro e Z2 ⟨rfl, z2⟩
        have KF := KF.keep z2
        have hL := hL.keep z2
        have HYB := Lib.hid (HYB.out.after z2 HYB.out.size)
        clear GF z2 SI
        have II := incI_any (N : Int) L _ Z2 hL
        rw [HIN.out] at II
        have II := Lib.hid II
        have GF := KF.cell
        go_wp2_with fail
        refine II.out.mono ?_
        rintro e Z3 ⟨rfl, z3⟩
        have HYB := Lib.hid (HYB.out.after z3 HYB.out.size)
        go_wp2_with fail
        go_meet
        exact ⟨rfl, HYB.out⟩
      | false =>
        clear hp
        go_wp2_with fail
        go_meet
        exact ⟨rfl, HYB.out⟩
    case first =>
    cases hN0 : decide (0 < N) with
    | false =>
     as_aux_lemma =>
      have hN0i : decide ((0 : Int) < (N : Int)) = false := decide_eq_false (by have := of_decide_eq_false hN0; omega)
      clear hN5 cx cy hlp cxd cyd
      have hz : N = 0 := by have := of_decide_eq_false hN0; omega
      clear hN0
      subst hz
      clear hN0i
      have q0 : ∀ y : Ext W7, y.w.cell? ⟨W1.heap.size, 0, none⟩ = some (.int .i64 (0 : Int)) := fun y => y.cell f0
      have q1 : ∀ y : Ext W7, y.w.cell? ⟨W1.heap.size, 1, none⟩ = some (.slice pf L.length qf) := fun y => y.cell f1
      have q2 : ∀ y : Ext W7, y.w.cell? ⟨W6.heap.size, 0, none⟩ = some (.int .i64 (0 : Int)) := fun y => y.cell g0
      have q3 : ∀ y : Ext W7, y.w.cell? ⟨W6.heap.size, 1, none⟩ = some (.slice p6 L.length q6) := fun y => y.cell g1
      refine wp_region_mix (C := fun w' => ∃ x : Ext W7, w' = x.w) (by kernel_rfl) (by kernel_rfl) (by kernel_rfl) ⟨⟨W7.drew, (Below.refl _ _).drew⟩, rfl⟩ ?_
      repeat (refine wpMix_tame (by rfl) ?_; (first | go_big_quiet_skip | (go_big_quiet_want; go_big_quiet_op; go_big_quiet_on)); refine wpQuiet_nil ?_)
      refine wpMix_call 12 _ _ rfl (enters_of Try.func12 (by kernel_rfl) rfl) (by kernel_rfl) ?_; intro KK hKK; go_simp
      refine (HE.out _ HGd.out HLd.out).mono ?_
      rintro e wa ⟨rfl, ba⟩
      have bba := bd.after ba bd.size
      refine ⟨_, rfl, ?_⟩
      go_simp
      refine hKK _ _ ⟨⟨wa, bba⟩, rfl⟩ ?_
      clear hKK KK
      repeat (refine wpMix_tame (by rfl) ?_; (first | go_big_quiet_skip | (go_big_quiet_want; go_big_quiet_op; go_big_quiet_on)); refine wpQuiet_nil ?_)
      refine wpMix_call 13 _ _ rfl (enters_of Try.func13 (by kernel_rfl) rfl) (by kernel_rfl) ?_; intro KK hKK; go_simp
      refine (shapS_c wa _ _ L (HLd.out.keep ba) hL2).mono ?_
      rintro e wb ⟨p9, i9, q9, rfl, o9, bb⟩
      first | rw [HSH.out] at o9 | rw [show shapOf 0 L = SL from HSH.out] at o9
      have bbb := bba.after bb bba.size
      refine ⟨_, rfl, ?_⟩
      go_simp
      refine hKK _ _ ⟨⟨wb, bbb⟩, rfl⟩ ?_
      clear hKK KK
      repeat (refine wpMix_tame (by rfl) ?_; (first | go_big_quiet_skip | (go_big_quiet_want; go_big_quiet_op; go_big_quiet_on)); refine wpQuiet_nil ?_)
      refine wpMix_call 7 _ _ rfl (enters_of Try.func7 (by kernel_rfl) rfl) (by kernel_rfl) ?_; intro KK hKK; go_simp
      refine (sameInts_true _ _ SL wb ((HSd.out.keep ba).keep bb) o9.ints).mono ?_
      rintro e wc ⟨rfl, bc⟩
      have bbc := bbb.after bc bbb.size
      refine ⟨_, rfl, ?_⟩
      go_simp
      refine hKK _ _ ⟨⟨wc, bbc⟩, rfl⟩ ?_
      clear hKK KK
      repeat (first | (refine wpMix_tame (by rfl) ?_; (first | go_big_quiet_skip | (go_big_quiet_want; go_big_quiet_op; go_big_quiet_on)); refine wpQuiet_nil ?_) | (refine wpMix_skip (by kernel_rfl) ?_; go_big_quiet_skip; refine wpQuiet_nil ?_))
      refine wpMix_nil ?_
      go_wp2_with fail
      go_meet
      exact ⟨rfl, bbc⟩
    | true =>
     as_aux_lemma =>
      have h0N : 0 < N := of_decide_eq_true hN0
      have hN0i : decide ((0 : Int) < (N : Int)) = true := decide_eq_true (by omega)
      have hmu := HMUL.out h0N
      have q0 : ∀ y : Ext W7, y.w.cell? ⟨W1.heap.size, 0, none⟩ = some (.int .i64 (N : Int)) := fun y => y.cell f0
      have q1 : ∀ y : Ext W7, y.w.cell? ⟨W1.heap.size, 1, none⟩ = some (.slice pf L.length qf) := fun y => y.cell f1
      have q2 : ∀ y : Ext W7, y.w.cell? ⟨W6.heap.size, 0, none⟩ = some (.int .i64 (N : Int)) := fun y => y.cell g0
      have q3 : ∀ y : Ext W7, y.w.cell? ⟨W6.heap.size, 1, none⟩ = some (.slice p6 L.length q6) := fun y => y.cell g1
      have qx : ∀ y : Ext W7, y.w.cell? ⟨lb, lo + (L.length - 1), none⟩ = some (.int .i64 x) := fun y => y.cell cx
      have qy : ∀ yy : Ext W7, yy.w.cell? ⟨lb, lo, none⟩ = some (.int .i64 y) := fun yy => yy.cell cy
      have iy0 : ∀ W : World, (Instr.indexAt 24 (.slice pf L.length qf) (.int .i64 0)).run Try.prog W = .ok (.pointer (some ⟨lb, lo, none⟩)) W := fun W => iy W
      clear h0N iy cx cy cxd cyd f0 f1 g0 g1
      refine wp_region_mix (C := fun w' => ∃ x : Ext W7, w' = x.w) (by kernel_rfl) (by kernel_rfl) (by kernel_rfl) ⟨⟨W7.drew, (Below.refl _ _).drew⟩, rfl⟩ ?_
      repeat (refine wpMix_tame (by rfl) ?_; (first | go_big_quiet_skip | (go_big_quiet_want; go_big_quiet_op; go_big_quiet_on)); refine wpQuiet_nil ?_)
      refine wpMix_call 12 _ _ rfl (enters_of Try.func12 (by kernel_rfl) rfl) (by kernel_rfl) ?_; intro KK hKK; go_simp
      refine (HE.out _ HGd.out HLd.out).mono ?_
      rintro e wa ⟨rfl, ba⟩
      have bba := bd.after ba bd.size
      refine ⟨_, rfl, ?_⟩
      go_simp
      refine hKK _ _ ⟨⟨wa, bba⟩, rfl⟩ ?_
      clear hKK KK
      repeat (refine wpMix_tame (by rfl) ?_; (first | go_big_quiet_skip | (go_big_quiet_want; go_big_quiet_op; go_big_quiet_on)); refine wpQuiet_nil ?_)
      refine wpMix_call 13 _ _ rfl (enters_of Try.func13 (by kernel_rfl) rfl) (by kernel_rfl) ?_; intro KK hKK; go_simp
      refine (shapS_c wa _ _ L (HLd.out.keep ba) hL2).mono ?_
      rintro e wb ⟨p9, i9, q9, rfl, o9, bb⟩
      first | rw [HSH.out] at o9 | rw [show shapOf 0 L = SL from HSH.out] at o9
      have bbb := bba.after bb bba.size
      refine ⟨_, rfl, ?_⟩
      go_simp
      refine hKK _ _ ⟨⟨wb, bbb⟩, rfl⟩ ?_
      clear hKK KK
      repeat (refine wpMix_tame (by rfl) ?_; (first | go_big_quiet_skip | (go_big_quiet_want; go_big_quiet_op; go_big_quiet_on)); refine wpQuiet_nil ?_)
      refine wpMix_call 7 _ _ rfl (enters_of Try.func7 (by kernel_rfl) rfl) (by kernel_rfl) ?_; intro KK hKK; go_simp
      refine (sameInts_true _ _ SL wb ((HSd.out.keep ba).keep bb) o9.ints).mono ?_
      rintro e wc ⟨rfl, bc⟩
      have bbc := bbb.after bc bbb.size
      refine ⟨_, rfl, ?_⟩
      go_simp
      refine hKK _ _ ⟨⟨wc, bbc⟩, rfl⟩ ?_
      clear hKK KK
      repeat (refine wpMix_tame (by rfl) ?_; (first | go_big_quiet_skip | (go_big_quiet_want; go_big_quiet_op; go_big_quiet_on)); refine wpQuiet_nil ?_)
      refine wpMix_call 14 _ _ rfl (enters_of Try.func14 (by kernel_rfl) rfl) (by kernel_rfl) ?_; intro KK hKK; go_simp
      refine (total2_any SL _ wc ((HSd.out.keep (ba.after bb ba.size)).keep bc) HBT.out.2 (by have := HBT.out.1; omega)).mono ?_
      rintro e wd ⟨rfl, rfl⟩
      rw [← HTO.out]
      refine ⟨_, rfl, ?_⟩
      go_simp
      refine hKK _ _ ⟨⟨wc, bbc⟩, rfl⟩ ?_
      clear hKK KK
      repeat (refine wpMix_tame (by rfl) ?_; (first | go_big_quiet_skip | (go_big_quiet_want; go_big_quiet_op; go_big_quiet_on)); refine wpQuiet_nil ?_)
      refine wpMix_call 15 _ _ rfl (enters_of Try.func15 (by kernel_rfl) rfl) (by kernel_rfl) ?_; intro KK hKK; go_simp
      refine (HFA.out wc).mono ?_
      rintro e wd ⟨rfl, rfl⟩
      refine ⟨_, rfl, ?_⟩
      go_simp
      refine hKK _ _ ⟨⟨wc, bbc⟩, rfl⟩ ?_
      clear hKK KK
      repeat (refine wpMix_tame (by rfl) ?_; (first | go_big_quiet_skip | (go_big_quiet_want; go_big_quiet_op; go_big_quiet_on)); refine wpQuiet_nil ?_)
      refine wpMix_nil ?_
      go_wp2_with fail
      go_meet
      exact ⟨rfl, bbc⟩

theorem fnGames_params : Try.f3.params = #[22] := by kernel_rfl
set_option maxRecDepth 100000 in
theorem fnGames_lifted (os : Os) (started : os.Started) (H : Type) (enc : TypeId × Value → H) :
    ReturnsInHanded {} Try.checked os 3 .any (Rows.fnGamesSpec.pre6 enc Try.prog Try.f3 Rows.fnGamesRow.domain false) (Rows.fnGamesSpec.post enc Try.prog Try.f3 false true false false) := by
  refine law_lift os started H enc Try.func3 (by kernel_rfl) rfl (by kernel_rfl) (by kernel_rfl) ?_
    (ChangeSpec.witness6 (enc := enc) (C := Try.checked) false ⟨#[], #[.slice none 0 0], []⟩ 8 (by kernel_rfl) (by kernel_rfl) (by kernel_rfl) (by kernel_rfl)) ?_
  · intro ds hds
    rw [fnGames_params] at hds
    match ds, hds with
    | [d0], _ => rfl
  · intro W base args ds p hval hA
    rw [fnGames_params] at hA hval
    obtain ⟨v0, vs0, d0, ds0, p0, q0, hargs, rfl, rfl, h0, r0⟩ := trodAll_cons hA
    obtain ⟨rfl, rfl, rfl⟩ := trodAll_nil r0
    obtain rfl : args = #[v0] := by cases args; simp_all
    obtain ⟨l0, w0⟩ := rd_bytes (hval 0 22 v0 rfl rfl) h0
    exact games_walk W _ l0 w0

theorem fnGames_holds : Rows.FnGamesSaid :=
  OpenClaim.holds_of_wide 3 Try.f3 rfl rfl rfl rfl rfl rfl rfl ⟨rfl, rfl, rfl, rfl, rfl⟩ rfl rfl rfl rfl rfl (by kernel_rfl) Try.func3 (by kernel_rfl)
    (of_decide_eq_true (by kernel_rfl)) (by unfold Func.isWrapper; first | (rw [if_pos (by decide +kernel)]; kernel_rfl) | (rw [if_neg (by decide +kernel)]; exact ⟨rfl, rfl⟩))
    (fun os started H enc _ => fnGames_lifted os started H enc)
end Go.Proofs.Ytgdkeaooipmgbaa
end
