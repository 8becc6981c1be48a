/- The line of extremes: the second program. The statement FnExactExtremeLine: for every input the call returns true and each argument reads as it did. No condition. -/
import Derived.Test.YtelmokapdkepbaaGreatDoorQ39
import Derived.Deep.DeepCutAuto
import Derived.Deep.RegionHeld3
import Derived.Test.YtelmokapdkepbaaGreatDoorCards
import Derived.Test.YtelmokapdkepbaaGreatDoorTie
import Derived.SevenTiedAt
section
namespace Go.Proofs.YtelmokapdkepbaaGreatDoor
open Go.RowKit Go.G5

set_option maxHeartbeats 4000000 in
set_option maxRecDepth 100000 in
theorem xlLineS_c (w : World) (n : Int) (v : Value) (l : List Int) (hv : Ints w v l) (hl : l.length ≤ 1048576) :
    Calls Tryz.prog 6 #[.agg #[.int .i64 n, v]] w fun e w' => e = .returned (.string (xlLn n l)) ∧ Below w.heap.size w w' := by
  have hv0 := hv
  obtain ⟨a, c, rfl⟩ := hv.shape
  have K0 := Blk.new w 27 #[.int .i64 n, .slice a l.length c]
  cases hf : isFunB n l with
  | false =>
    have HX := Lib.hid (xlLn_no hf)
    have HF := Lib.hid hf
    clear hf
    go_enter Tryz.func6, Tryz.ntmps6
    go_wp2_with fail
    refine (isFunS_any n l _ _ (hv0.alloc _)).mono ?_
    rintro e w1 ⟨rfl, b1⟩
    rw [HF.out]
    go_wp2
    go_ret
    exact ⟨ret_str HX.out.symm, (bl1 _ _).after b1 (by simp)⟩
  | true =>
    obtain ⟨TT, hTT⟩ : ∃ T, T = xlLn n l := ⟨_, rfl⟩
    have hsz : (∀ x ∈ dvL n l, InR x) → TT.size ≤ 10700 := by rw [hTT, xlLn_yes hf]; exact xlT_size hf
    have hx : xlT n l = TT := by rw [hTT, xlLn_yes hf]
    unfold xlT at hx
    have hlb := lst_bd hf
    have hmb := mxN_bd hf
    have hdb := dgN_bd hf
    have hcb := cut_bd n l
    have hdl := dvL_len n l
    have hpos : 0 < l.length := by
      obtain ⟨N, _, _, h2, _⟩ := fun_nat hf
      have := Nat.two_pow_pos N
      omega
    have hmn : minN n l = lstN l := by unfold minN; rw [hf]; rfl
    have hdg : dgS n l = (dgTo l n.toNat n.toNat : Int) := by unfold dgS; rw [hf]; rfl
    have hdlt : dgTo l n.toNat n.toNat < l.length := by
      obtain ⟨N, rfl, h5, h2, _⟩ := fun_nat hf
      rw [Int.toNat_natCast, h2]
      exact dgTo_lt l N h5 N (Nat.le_refl _)
    have hdn : dgN n l = l.getD (dgTo l n.toNat n.toNat) 0 := rfl
    have hmi := fun (W : World) (h : Ints W (.slice a l.length c) l) => l10Least_any W n _ l h hpos
    have hmz := fun (W : World) (h : Ints W (.slice a l.length c) l) => minimizersS_any W n _ l h
    have hmx := fun (W : World) (h : Ints W (.slice a l.length c) l) => mxS_c W n _ l h
    have hdo := fun (W : World) (h : Ints W (.slice a l.length c) l) => dgS_c W n _ l h
    have hdu := fun (W : World) (h : Ints W (.slice a l.length c) l) => dualS_any W n _ l h hl
    have hcu := fun (W : World) (h : Ints W (.slice a l.length c) l) => minCutS_c W n _ l h hl
    simp only [hf] at hmz hmx
    simp only [hf, hdg] at hdo
    obtain ⟨bD, hbD⟩ : ∃ b, b = dvB n l := ⟨_, rfl⟩
    obtain ⟨bC, hbC⟩ : ∃ b, b = fitB n l := ⟨_, rfl⟩
    rw [← hbD, ← hbC] at hx
    simp only [← hbD] at hdu
    simp only [← hbC] at hcu
    obtain ⟨d, hd⟩ : ∃ d, d = dgTo l n.toNat n.toNat := ⟨_, rfl⟩
    simp only [← hd] at hdo hdlt hdn
    obtain ⟨N1, hN1⟩ : ∃ N, N = lstN l := ⟨_, rfl⟩
    obtain ⟨N2, hN2⟩ : ∃ N, N = mxN n l := ⟨_, rfl⟩
    obtain ⟨N3, hN3⟩ : ∃ N, N = dgN n l := ⟨_, rfl⟩
    obtain ⟨N4, hN4⟩ : ∃ N, N = cutN n l := ⟨_, rfl⟩
    obtain ⟨S2, hS2⟩ : ∃ N, N = mxS n l := ⟨_, rfl⟩
    obtain ⟨S4, hS4⟩ : ∃ N, N = cutS n l := ⟨_, rfl⟩
    obtain ⟨Z, hZ⟩ : ∃ N, N = mzL n l := ⟨_, rfl⟩
    obtain ⟨D, hD⟩ : ∃ N, N = dvL n l := ⟨_, rfl⟩
    rw [← hN1, ← hN2, ← hN3, ← hN4, ← hS2, ← hS4, ← hZ, ← hD] at hx
    simp only [← hN1] at hmi
    simp only [← hZ] at hmz
    simp only [← hN2, ← hS2] at hmx
    rw [← hN3] at hdn
    simp only [← hD] at hdu
    simp only [← hN4, ← hS4] at hcu
    rw [← hN1] at hlb
    rw [← hN2] at hmb
    rw [← hN3] at hdb
    rw [← hN4] at hcb
    rw [← hD] at hdl hsz
    have q1 := itoaB_size N1 ⟨by omega, by omega⟩
    have q2 := famTx_size n Z
    have q3 := itoaB_size N2 ⟨by omega, by omega⟩
    have q4 := setTx_size n S2
    have q5 := itoaB_size N3 ⟨by omega, by omega⟩
    have q6 := itoaB_size N4 ⟨by omega, by omega⟩
    have q7 := setTx_size n S4
    have HTT := Lib.hid hTT
    have HX := Lib.hid hx
    have HSZ := Lib.hid hsz
    have HF := Lib.hid hf
    have HDN := Lib.hid hdn
    have HDL := Lib.hid hdlt
    have HMI := Lib.hid hmi
    have HMZ := Lib.hid hmz
    have HMX := Lib.hid hmx
    have HDO := Lib.hid hdo
    have HDU := Lib.hid hdu
    have HCU := Lib.hid hcu
    clear hx hf hTT hsz hmi hmz hmx hdo hdu hcu hbD hbC hd hN1 hN2 hN3 hN4 hS2 hS4 hZ hD hmn hdg hdn hdlt hpos
    have hr1 := fun W : World => fmtS_any N1 ⟨by omega, by omega⟩ W
    have hr3 := fun W : World => fmtS_any N2 ⟨by omega, by omega⟩ W
    have hr4 := fun W : World => fmtSetS_any n S2 W
    have hr5 := fun W : World => fmtS_any N3 ⟨by omega, by omega⟩ W
    have hr6 := fun W : World => fmtS_any N4 ⟨by omega, by omega⟩ W
    have hr7 := fun W : World => fmtSetS_any n S4 W
    have hr2 := fun (p : Option Addr) (q : Nat) (W : World) (h : Ints W (.slice p Z.length q) Z) => fmtFamS_any n Z _ W h
    have hx2 := HX.out
    obtain ⟨F1, hF1⟩ : ∃ F, F = itoaB N1 := ⟨_, rfl⟩
    rw [← hF1] at q1 hx2
    simp only [← hF1] at hr1
    have HR1 := Lib.hid hr1
    clear hF1 hr1
    obtain ⟨F2, hF2⟩ : ∃ F, F = famTx n Z := ⟨_, rfl⟩
    rw [← hF2] at q2 hx2
    simp only [← hF2] at hr2
    have HR2 := Lib.hid hr2
    clear hF2 hr2
    obtain ⟨F3, hF3⟩ : ∃ F, F = itoaB N2 := ⟨_, rfl⟩
    rw [← hF3] at q3 hx2
    simp only [← hF3] at hr3
    have HR3 := Lib.hid hr3
    clear hF3 hr3
    obtain ⟨F4, hF4⟩ : ∃ F, F = setTx n S2 := ⟨_, rfl⟩
    rw [← hF4] at q4 hx2
    simp only [← hF4] at hr4
    have HR4 := Lib.hid hr4
    clear hF4 hr4
    obtain ⟨F5, hF5⟩ : ∃ F, F = itoaB N3 := ⟨_, rfl⟩
    rw [← hF5] at q5 hx2
    simp only [← hF5] at hr5
    have HR5 := Lib.hid hr5
    clear hF5 hr5
    obtain ⟨F6, hF6⟩ : ∃ F, F = itoaB N4 := ⟨_, rfl⟩
    rw [← hF6] at q6 hx2
    simp only [← hF6] at hr6
    have HR6 := Lib.hid hr6
    clear hF6 hr6
    obtain ⟨F7, hF7⟩ : ∃ F, F = setTx n S4 := ⟨_, rfl⟩
    rw [← hF7] at q7 hx2
    simp only [← hF7] at hr7
    have HR7 := Lib.hid hr7
    clear hF7 hr7
    have HX := Lib.hid hx2
    clear hx2
    obtain ⟨_, ab, off, _, hve, _, hix, hc, hb⟩ := hv0.view Tryz.prog 22 3 Tryz.underlying22 intElem
    injection hve with x1 _ x3
    subst x1 x3
    have HC := Lib.hid hc
    have HIX := Lib.hid hix
    clear hc hix
    go_enter Tryz.func6, Tryz.ntmps6
    go_wp2_with fail
    refine (isFunS_any n l _ _ (hv0.alloc _)).mono ?_
    rintro e w1 ⟨rfl, b1⟩
    rw [HF.out]
    have B1 : Below w.heap.size w w1 := (bl1 _ _).after b1 (by simp)
    have K1 := K0.keep b1
    clear K0 b1
    have G := K1.cell
    have z := K1.lt
    go_wp2_with fail
    refine (HMZ.out _ (hv0.below B1 (Nat.le_refl _))).mono ?_
    rintro e w3 ⟨pZ, iZ, qZ, rfl, oZ, b3⟩
    have hiZ : iZ = Z.length := oZ.ints.capLe.1
    subst hiZ
    have hZ3 := oZ.ints
    have B3 := B1.after b3 B1.size
    have K3 := K1.keep b3
    clear B1 K1 G z b3 oZ
    have G := K3.cell
    have z := K3.lt
    go_wp2_with fail
    refine (HMX.out _ (hv0.below B3 (Nat.le_refl _))).mono ?_
    rintro e w4 ⟨rfl, b4⟩
    have hZ4 := hZ3.keep b4
    have B4 := B3.after b4 B3.size
    have K4 := K3.keep b4
    clear B3 K3 G z b4 hZ3
    have G := K4.cell
    have z := K4.lt
    go_wp2_with fail
    refine (HDO.out _ (hv0.below B4 (Nat.le_refl _))).mono ?_
    rintro e w5 ⟨rfl, b5⟩
    have hZ := hZ4.keep b5
    have B5 := B4.after b5 B4.size
    have K5 := K4.keep b5
    clear B4 K4 G z b5 hZ4
    go_upto_region 6 with fail
    go_cut [10] (fun v wx => ∃ X, v = .string X ∧ X = xlAT F1 F2 F3 F4 F5 ∧ Below w5.heap.size w5 wx)
    case rest =>
      obtain ⟨X, rfl, hX, b6⟩ := hcut
      have hXs : X.size ≤ 10300 := by rw [hX]; exact xlAT_size F1 F2 F3 F4 F5 q1 q2 q3 q4 q5
      have hx3 := HX.out
      rw [← hX] at hx3
      have HX := Lib.hid hx3
      have B6 := B5.after b6 B5.size
      have K6 := K5.keep b6
      clear hX hx3 b6 B5 K5 hZ
      have G := K6.cell
      have z := K6.lt
      go_wp2_with fail
      refine (HDU.out _ (hv0.below B6 (Nat.le_refl _))).mono ?_
      rintro e w7 ⟨pD, iD, qD, rfl, oD, b7⟩
      have hiD : iD = D.length := oD.ints.capLe.1
      subst hiD
      have hDI := oD.ints
      have B7 := B6.after b7 B6.size
      have K7 := K6.keep b7
      clear B6 K6 G z b7 oD
      cases bD with
      | false =>
        have hxd := HX.out
        simp only [xlBT, if_neg Bool.false_ne_true] at hxd
        have HX := Lib.hid hxd
        clear hxd hDI
        have G := K7.cell
        have z := K7.lt
        go_wp2_with fail
        refine (HCU.out _ (hv0.below B7 (Nat.le_refl _))).mono ?_
        rintro e w9 ⟨rfl, b9⟩
        have B9 := B7.after b9 B7.size
        have K9 := K7.keep b9
        clear G z b9
        cases bC with
        | false =>
          go_wp2
          go_ret
          exact ⟨ret_str (HX.out.trans HTT.out), B9⟩
        | true =>
          have a0 := K9.cell 0
          simp only [List.getElem?_toArray, List.getElem?_cons_zero] at a0
          have p0 : ∀ y : Ext w9, y.w.cell? ⟨w.heap.size, 0, none⟩ = some (.int .i64 n) := fun y => y.cell a0
          have R6 := Lib.hid (fun y : Ext w9 => HR6.out y.w)
          have R7 := Lib.hid (fun y : Ext w9 => HR7.out y.w)
          go_wp2_with fail
          refine wp_region_ext _ (by kernel_rfl) (by kernel_rfl) ?_
          repeat (first | go_big_quiet_skip | (go_big_quiet_want; go_big_quiet_op; first | go_big_quiet_on | (apply Exists.intro; refine ⟨fun _ => ?_, ?_⟩; (first | (go_at_call 20; exact ext_call (R6.out _)) | (go_at_call 23; exact ext_call (R7.out _))); go_big_quiet_on)))
          refine wpQuiet_nil ?_
          rintro wa ⟨⟨wa, ba⟩, rfl⟩
          try dsimp only
          go_wp2
          go_ret
          exact ⟨ret_str (HX.out.trans HTT.out), B9.after ba B9.size⟩
      | true =>
        have hq8 : (numB D).size ≤ 200 := by have := numB_size D hDI.inR; omega
        have hn := numS_any D _ w7 hDI (by omega)
        have hxd := HX.out
        obtain ⟨F8, hF8⟩ : ∃ F, F = numB D := ⟨_, rfl⟩
        rw [← hF8] at hxd hq8
        simp only [← hF8] at hn
        have HN := Lib.hid hn
        simp only [xlBT, if_pos] at hxd
        have HX := Lib.hid hxd
        clear hxd hDI hF8 hn
        have G := K7.cell
        have z := K7.lt
        go_wp2_with fail
        refine HN.out.mono ?_
        rintro e w8 ⟨rfl, b8⟩
        have B8 := B7.after b8 B7.size
        have K8 := K7.keep b8
        clear G z b8 B7 K7
        have G := K8.cell
        have z := K8.lt
        go_wp2_with fail
        refine (HCU.out _ (hv0.below B8 (Nat.le_refl _))).mono ?_
        rintro e w9 ⟨rfl, b9⟩
        have B9 := B8.after b9 B8.size
        have K9 := K8.keep b9
        clear G z b9
        cases bC with
        | false =>
          go_wp2
          go_ret
          exact ⟨ret_str (HX.out.trans HTT.out), B9⟩
        | true =>
          have a0 := K9.cell 0
          simp only [List.getElem?_toArray, List.getElem?_cons_zero] at a0
          have p0 : ∀ y : Ext w9, y.w.cell? ⟨w.heap.size, 0, none⟩ = some (.int .i64 n) := fun y => y.cell a0
          have R6 := Lib.hid (fun y : Ext w9 => HR6.out y.w)
          have R7 := Lib.hid (fun y : Ext w9 => HR7.out y.w)
          go_wp2_with fail
          refine wp_region_ext _ (by kernel_rfl) (by kernel_rfl) ?_
          repeat (first | go_big_quiet_skip | (go_big_quiet_want; go_big_quiet_op; first | go_big_quiet_on | (apply Exists.intro; refine ⟨fun _ => ?_, ?_⟩; (first | (go_at_call 20; exact ext_call (R6.out _)) | (go_at_call 23; exact ext_call (R7.out _))); go_big_quiet_on)))
          refine wpQuiet_nil ?_
          rintro wa ⟨⟨wa, ba⟩, rfl⟩
          try dsimp only
          go_wp2
          go_ret
          exact ⟨ret_str (HX.out.trans HTT.out), B9.after ba B9.size⟩
    case first =>
      have a0 := K5.cell 0
      have a1 := K5.cell 1
      simp only [List.getElem?_toArray, List.getElem?_cons_zero, List.getElem?_cons_succ] at a0 a1
      have ck := cells_below HC.out hb B5 (Nat.le_refl _) d HDL.out
      have ik := fun W => HIX.out W d HDL.out
      rw [← getD_at l d HDL.out, ← HDN.out] at ck
      have hv5 := hv0.below B5 (Nat.le_refl _)
      have p0 : ∀ y : Ext w5, y.w.cell? ⟨w.heap.size, 0, none⟩ = some (.int .i64 n) := fun y => y.cell a0
      have p1 : ∀ y : Ext w5, y.w.cell? ⟨w.heap.size, 1, none⟩ = some (.slice a l.length c) := fun y => y.cell a1
      have p2 : ∀ y : Ext w5, y.w.cell? ⟨ab, off + d, none⟩ = some (.int .i64 N3) := fun y => y.cell ck
      have R0 := Lib.hid (fun y : Ext w5 => HMI.out y.w (y.ints hv5))
      have R1 := Lib.hid (fun y : Ext w5 => HR1.out y.w)
      have R3 := Lib.hid (fun y : Ext w5 => HR3.out y.w)
      have R5 := Lib.hid (fun y : Ext w5 => HR5.out y.w)
      have R4 := Lib.hid (fun y : Ext w5 => HR4.out y.w)
      have R2 := Lib.hid (fun y : Ext w5 => HR2.out pZ qZ y.w (hZ.keep y.b))
      clear a0 a1 ck
      refine wp_region_ext _ (by kernel_rfl) (by kernel_rfl) ?_
      repeat (first | go_big_quiet_skip | (go_big_quiet_want; go_big_quiet_op; first | go_big_quiet_on | (apply Exists.intro; refine ⟨fun _ => ?_, ?_⟩; (first | (go_at_call 21; exact ext_call (R0.out _)) | (go_at_call 20; first | (with_reducible exact ext_call (R1.out _)) | (with_reducible exact ext_call (R3.out _)) | (with_reducible exact ext_call (R5.out _))) | (go_at_call 23; exact ext_call (R4.out _)) | (go_at_call 22; exact ext_call (R2.out _))); go_big_quiet_on)))
      refine wpQuiet_nil ?_
      rintro w6 ⟨⟨w6, b6⟩, rfl⟩
      try dsimp only
      go_wp2_with fail
      go_meet
      exact ⟨_, rfl, rfl, b6⟩
end Go.Proofs.YtelmokapdkepbaaGreatDoor
end
section
namespace Go.Proofs.YtelmokapdkepbaaGreatDoor
open Go.ChangeShapes Go.WideShapes Go.ChangeAt Go.RowKit Go.G5
set_option maxHeartbeats 4000000 in
set_option maxRecDepth 100000 in
theorem extreme_walk (w : World) (n0_0 : Int) (v0_1 : Value) (l0_1 : List Int) (_ : InR n0_0) (hv0_1 : Ints w v0_1 l0_1) (hp : Pow w) :
    Calls Tryz.prog 3 #[.agg #[.int .i64 n0_0, v0_1]] w fun e w' => e = .returned (.bool true) ∧ Below w.heap.size w w' := by
  obtain ⟨av0_1, cv0_1, rfl⟩ := hv0_1.shape
  go_enter Tryz.func3, Tryz.ntmps3
  go_wp2_with fail
  refine calls_named ?_
  intro V1 hV
  have B : Below w.heap.size w V1 := by rw [hV]; exact (by repeat (first | exact Below.refl _ _ | (with_reducible refine Below.setCell ?_ (by first | omega | (simp; done) | (simp; omega)) _) | (with_reducible refine Below.alloc ?_ (by first | omega | (simp; done) | (simp; omega)) _) | (with_reducible refine Below.drewN' ?_ _) | (with_reducible refine Below.drew ?_) | (with_reducible assumption) | refine Below.trans ?_ (Below.mono (by assumption) (by first | omega | (simp; done) | (simp; omega)))))
  have zV1 : w.heap.size + 1 ≤ V1.heap.size := by rw [hV]; (first | simp | omega)
  have K0 : Blk V1 (w.heap.size) 24 #[.int .i64 n0_0, .slice av0_1 l0_1.length cv0_1] := by rw [hV]; have := (Blk.new (w) 24 #[.int .i64 n0_0, .slice av0_1 l0_1.length cv0_1]); simpa using this
  clear hV
  refine (szFunction_c n0_0 _ l0_1 _ _ (hv0_1.below B (Nat.le_refl _)) (by omega) (by omega)).mono ?_
  rintro e W2 ⟨⟨s0, rfl, hs0⟩, hb⟩
  have zW2 : V1.heap.size ≤ W2.heap.size := hb.size
  have B1 := B.after hb B.size
  have K0x := K0.keep hb
  clear B K0
  have B := B1
  have K0 := K0x
  clear B1 K0x
  clear hb
  rcases hs0 with hs0 | ⟨g0_0, g0_1, hlv0_1'⟩
  · go_wp2
    go_ret
    exact ⟨rfl, B⟩
  have hlv0_1 : l0_1.length ≤ 1048576 := by omega
  have GK0 := K0.cell
  have ZK0 := K0.lt
  go_wp2_with fail
  clear GK0 ZK0
  refine calls_named ?_
  intro V3 hV
  have zV3 : W2.heap.size + 0 ≤ V3.heap.size := by rw [hV]; (first | exact Nat.le_refl _ | simp)
  have B1 : Below w.heap.size w V3 := by rw [hV]; first | exact B | exact B.alloc B.size _ | exact (B.alloc B.size _).alloc (by have := B.size; simp; omega) _
  have K0x : Blk V3 (w.heap.size) 24 #[.int .i64 n0_0, .slice av0_1 l0_1.length cv0_1] := by rw [hV]; first | exact K0 | exact K0.alloc _ | exact (K0.alloc _).alloc _
  clear B K0
  have B := B1
  have K0 := K0x
  clear B1 K0x
  clear hV
  refine (toFunction_any n0_0 _ l0_1 _ (hv0_1.below B (Nat.le_refl _)) hlv0_1).mono ?_
  rintro e W4 ⟨pwx00, iwx00, qwx00, rfl, owx00x, hb⟩
  have zW4 : V3.heap.size ≤ W4.heap.size := hb.size
  have B1 := B.after hb B.size
  have K0x := K0.keep hb
  clear B K0
  have B := B1
  have K0 := K0x
  clear B1 K0x
  clear hb
  have owx00 := owx00x.toW
  clear owx00x
  have r_wx00 := owx00.lt
  have GK0 := K0.cell
  have ZK0 := K0.lt
  go_wp2_with fail
  clear GK0 ZK0
  refine calls_named ?_
  intro V5 hV
  have zV5 : W4.heap.size + 0 ≤ V5.heap.size := by rw [hV]; (first | exact Nat.le_refl _ | simp)
  have B1 : Below w.heap.size w V5 := by rw [hV]; first | exact B | exact B.alloc B.size _ | exact (B.alloc B.size _).alloc (by have := B.size; simp; omega) _
  have K0x : Blk V5 (w.heap.size) 24 #[.int .i64 n0_0, .slice av0_1 l0_1.length cv0_1] := by rw [hV]; first | exact K0 | exact K0.alloc _ | exact (K0.alloc _).alloc _
  have owx00x : OwnW 3 V3.heap.size V5 (.slice pwx00 iwx00 qwx00) (l0_1) := by rw [hV]; first | exact owx00 | exact owx00.alloc _ | exact (owx00.alloc _).alloc _
  clear B K0 owx00
  have B := B1
  have K0 := K0x
  have owx00 := owx00x
  clear B1 K0x owx00x
  clear hV
  refine (xlLineS_c _ n0_0 _ l0_1 owx00.ints hlv0_1).mono ?_
  rintro e W6 ⟨rfl, hb⟩
  have zW6 : V5.heap.size ≤ W6.heap.size := hb.size
  have B1 := B.after hb B.size
  have K0x := K0.keep hb
  clear B K0
  have B := B1
  have K0 := K0x
  clear B1 K0x
  clear hb
  clear owx00
  have GK0 := K0.cell
  have ZK0 := K0.lt
  go_wp2_with fail
  clear GK0 ZK0
  refine calls_named ?_
  intro V7 hV
  have zV7 : W6.heap.size + 0 ≤ V7.heap.size := by rw [hV]; (first | exact Nat.le_refl _ | simp)
  have B1 : Below w.heap.size w V7 := by rw [hV]; first | exact B | exact B.alloc B.size _ | exact (B.alloc B.size _).alloc (by have := B.size; simp; omega) _
  have K0x : Blk V7 (w.heap.size) 24 #[.int .i64 n0_0, .slice av0_1 l0_1.length cv0_1] := by rw [hV]; first | exact K0 | exact K0.alloc _ | exact (K0.alloc _).alloc _
  clear B K0
  have B := B1
  have K0 := K0x
  clear B1 K0x
  clear hV
  refine (toFunction_any n0_0 _ l0_1 _ (hv0_1.below B (Nat.le_refl _)) hlv0_1).mono ?_
  rintro e W8 ⟨px00, ix00, qx00, rfl, ox00x, hb⟩
  have zW8 : V7.heap.size ≤ W8.heap.size := hb.size
  have B1 := B.after hb B.size
  have K0x := K0.keep hb
  clear B K0
  have B := B1
  have K0 := K0x
  clear B1 K0x
  clear hb
  have ox00 := ox00x.toW
  clear ox00x
  have r_x00 := ox00.lt
  have GK0 := K0.cell
  have ZK0 := K0.lt
  go_wp2_with fail
  clear GK0 ZK0
  refine calls_named ?_
  intro V9 hV
  have zV9 : W8.heap.size + 1 ≤ V9.heap.size := by rw [hV]; (first | exact Nat.le_refl _ | simp)
  have B1 : Below w.heap.size w V9 := by rw [hV]; first | exact B | exact B.alloc B.size _ | exact (B.alloc B.size _).alloc (by have := B.size; simp; omega) _
  have K0x : Blk V9 (w.heap.size) 24 #[.int .i64 n0_0, .slice av0_1 l0_1.length cv0_1] := by rw [hV]; first | exact K0 | exact K0.alloc _ | exact (K0.alloc _).alloc _
  have ox00x : OwnW 3 V7.heap.size V9 (.slice px00 ix00 qx00) (l0_1) := by rw [hV]; first | exact ox00 | exact ox00.alloc _ | exact (ox00.alloc _).alloc _
  have K1x : Blk V9 (W8.heap.size) 27 #[.int .i64 n0_0, .slice px00 ix00 qx00] := by rw [hV]; exact Blk.new _ _ _
  clear B K0 ox00
  have B := B1
  have K0 := K0x
  have K1 := K1x
  have ox00 := ox00x
  clear B1 K0x K1x ox00x
  clear hV
  refine (xlLineI_c _ n0_0 _ l0_1 ox00.ints hlv0_1 (hp.keep B)).mono ?_
  rintro e W10 ⟨rfl, hb⟩
  have zW10 : V9.heap.size ≤ W10.heap.size := hb.size
  have B1 := B.after hb B.size
  have K0x := K0.keep hb
  have K1x := K1.keep hb
  have ox00x := ox00.keep hb
  clear B K0 K1 ox00
  have B := B1
  have K0 := K0x
  have K1 := K1x
  have ox00 := ox00x
  clear B1 K0x K1x ox00x
  clear hb
  have GK0 := K0.cell
  have ZK0 := K0.lt
  have GK1 := K1.cell
  have ZK1 := K1.lt
  go_wp2_with fail
  clear GK0 ZK0 GK1 ZK1
  have yK0 := K0.lt
  have yK1 := K1.lt
  have GK0 := K0.cell
  have GK1 := K1.cell
  go_region_held3 (fun w' => (∀ i, w'.cell? ⟨w.heap.size, i, none⟩ = (#[.int .i64 n0_0, .slice av0_1 l0_1.length cv0_1] : Array Value)[i]?) ∧ (∀ i, w'.cell? ⟨W8.heap.size, i, none⟩ = (#[.int .i64 n0_0, .slice px00 ix00 qx00] : Array Value)[i]?)) (go_keep)
    (first
      | (go_at_call 7; refine (toFunction_any n0_0 _ l0_1 _ (hv0_1.below (B := w.heap.size) (by repeat (first | exact Below.refl _ _ | (with_reducible refine Below.setCell ?_ (by first | omega | (simp; done) | (simp; omega)) _) | (with_reducible refine Below.alloc ?_ (by first | omega | (simp; done) | (simp; omega)) _) | (with_reducible refine Below.drewN' ?_ _) | (with_reducible refine Below.drew ?_) | (with_reducible assumption) | refine Below.trans ?_ (Below.mono (by assumption) (by first | omega | (simp; done) | (simp; omega))))) (Nat.le_refl _)) hlv0_1).mono ?_; rintro e W11 ⟨pyW11x0, iyW11x0, qyW11x0, rfl, oyW11x0, hbW11⟩; obtain ⟨hchbW11, hfhbW11⟩ := bcellN hbW11 (W10.heap.size) (by first | omega | (simp; done) | (simp; omega)); have zhbW11 := hbW11.size; (try simp at zhbW11))
      | (go_at_call 9; refine (eqFunction_any _ _ _ _ _ _ _ ((ox00.drewN 1).below hbW11 (by first | omega | (simp; done) | (simp; omega))).ints oyW11x0.ints).mono ?_; rintro e W12 ⟨rfl, hbW12⟩; obtain ⟨hchbW12, hfhbW12⟩ := bcellN hbW12 (W10.heap.size) (by first | omega | (simp; done) | (simp; omega)); have zhbW12 := hbW12.size; (try simp at zhbW12))
    )
  have B1 : Below w.heap.size w W12 := (by repeat (first | exact Below.refl _ _ | (with_reducible refine Below.setCell ?_ (by first | omega | (simp; done) | (simp; omega)) _) | (with_reducible refine Below.alloc ?_ (by first | omega | (simp; done) | (simp; omega)) _) | (with_reducible refine Below.drewN' ?_ _) | (with_reducible refine Below.drew ?_) | (with_reducible assumption) | refine Below.trans ?_ (Below.mono (by assumption) (by first | omega | (simp; done) | (simp; omega)))))
  have zzW12 : W10.heap.size ≤ W12.heap.size := by omega
  have K0x : Blk W12 (w.heap.size) 24 #[.int .i64 n0_0, .slice av0_1 l0_1.length cv0_1] := (((K0.drewN 1).keep hbW11).keep hbW12)
  have K1x : Blk W12 (W8.heap.size) 27 #[.int .i64 n0_0, .slice px00 ix00 qx00] := (((K1.drewN 1).keep hbW11).keep hbW12)
  have ox00x : OwnW 3 V7.heap.size W12 (.slice px00 ix00 qx00) (l0_1) := (((ox00.drewN 1).keep hbW11).keep hbW12)
  clear B K0 K1 ox00 GK0 GK1 yK0 yK1 hchbW11 hfhbW11 hchbW12 hfhbW12
  have B := B1
  have K0 := K0x
  have K1 := K1x
  have ox00 := ox00x
  clear B1 K0x K1x ox00x
  try simp only [decide_true, Bool.and_self]
  have GK0 := K0.cell
  have ZK0 := K0.lt
  have GK1 := K1.cell
  have ZK1 := K1.lt
  go_wp2
  go_ret
  exact ⟨rfl, B⟩

theorem fnExactExtremeLine_params : Tryz.f3.params = #[24] := by kernel_rfl
theorem fnExactExtremeLine_door (os : Os) (args : Array Value) : laidMetH Tryz.prog Rows.fnExactExtremeLineRow.laid ((World.doorLaid Tryz.prog 24 os).forCall (fun _ _ => 0) ⟨#[], args, []⟩).memory := by
  rw [MakeChecks.laidMetH_plain _ _ _ (by kernel_rfl)]
  exact laidMet_of_run' 8 (by kernel_rfl) (by kernel_rfl)
theorem fnExactExtremeLine_pow {W : World} (h : laidMetH Tryz.prog Rows.fnExactExtremeLineRow.laid W) : Pow W := by
  rw [MakeChecks.laidMetH_plain _ _ _ (by kernel_rfl)] at h
  exact pow_of_third h
set_option maxRecDepth 100000 in
theorem fnExactExtremeLine_lifted (os : Os) (started : os.Started) (H : Type) (enc : TypeId × Value → H) :
    ReturnsInHanded {} Tryz.checked os 3 .any (fun w args => (Rows.fnExactExtremeLineSpec.pre enc Tryz.prog Tryz.f3 Rows.fnExactExtremeLineRow.domain false w args ∧ laidMetH Tryz.prog Rows.fnExactExtremeLineRow.laid w) ∧ sizedMet enc Tryz.prog Tryz.f3 (OpenSpec.ofChange Rows.fnExactExtremeLineSpec) false w args) (Rows.fnExactExtremeLineSpec.post enc Tryz.prog Tryz.f3 false true false false) := by
  refine law_lift_laid Rows.fnExactExtremeLineRow.laid os started H enc Tryz.func3 (by kernel_rfl) rfl (by kernel_rfl) (by kernel_rfl) ?_
    (ChangeSpec.witness_shaped (enc := enc) (C := Tryz.checked) (os := os) (X := fun w _ => laidMetH Tryz.prog Rows.fnExactExtremeLineRow.laid w) false (World.doorLaid Tryz.prog 24 os) #[.agg #[.int .i64 0, .slice none 0 0]] 8 rfl (World.shaped_of_RefB (by kernel_rfl) (by kernel_rfl)) (by kernel_rfl) (by kernel_rfl) (by kernel_rfl) (fnExactExtremeLine_door os _)) ?_
  · intro ds hds
    rw [fnExactExtremeLine_params] at hds
    match ds, hds with
    | [d0], _ => rfl
  · intro W base args ds p hval hA hL
    rw [fnExactExtremeLine_params] at hA hval
    obtain ⟨v0, vs0, d0, ds0, p0, q0, hargs, rfl, rfl, h0, r0⟩ := trodAll_cons hA
    obtain ⟨rfl, rfl, rfl⟩ := trodAll_nil r0
    obtain rfl : args = #[v0] := by cases args; simp_all
    obtain ⟨n0, u0, l0, rfl, w0, x0⟩ := rd_fun (hval 0 24 v0 rfl rfl) h0
    exact extreme_walk W n0 u0 l0 w0 x0 (fnExactExtremeLine_pow hL)

theorem fnExactExtremeLine_holds : Rows.FnExactExtremeLineSaid :=
  OpenClaim.holds_of_wide 3 Tryz.f3 rfl rfl rfl rfl rfl rfl rfl ⟨rfl, rfl, rfl, rfl, rfl⟩ rfl rfl rfl rfl rfl (by kernel_rfl) Tryz.func3 (by kernel_rfl)
    (of_decide_eq_true (by kernel_rfl)) (by unfold Func.isWrapper; first | (rw [if_pos (by decide +kernel)]; kernel_rfl) | (rw [if_neg (by decide +kernel)]; exact ⟨rfl, rfl⟩))
    (fun os started H enc _ => fnExactExtremeLine_lifted os started H enc)

theorem fnExactExtremeLine_card : Rows.FnExactExtremeLineCardSaid :=
  Claim7.holds_tied_plain_at .later [] [.data, .data, .data] true _ false
    fnExactExtremeLine_holds (fun _ h => by cases h) (by kernel_rfl) (fun _ h => by cases h) fnExactExtremeLine_row_tie rfl ⟨rfl, rfl⟩ (by kernel_rfl) rfl
    (fun f fn hf hfn => by
      obtain rfl : f = 3 := Option.some.inj ((show Tryz.prog.funcNamed "loop.example/g03405/laws.FnExactExtremeLine" = some 3 by kernel_rfl).symm.trans hf) |>.symm
      obtain rfl : fn = Tryz.f3 := (Option.some.inj (Tryz.func3.symm.trans hfn)).symm
      exact ⟨by kernel_rfl, fun j t ht => by
        rw [fnExactExtremeLine_params] at ht
        have hm : t ∈ [24] := by simpa using Array.mem_of_getElem? ht
        have hall : ([24].all fun u => !Tryz.prog.wantsStandIn u) = true := by kernel_rfl
        exact (show Tryz.prog.wantsStandIn t = false by simpa using List.all_eq_true.1 hall t hm)⟩)
    (by kernel_rfl)
end Go.Proofs.YtelmokapdkepbaaGreatDoor
end
