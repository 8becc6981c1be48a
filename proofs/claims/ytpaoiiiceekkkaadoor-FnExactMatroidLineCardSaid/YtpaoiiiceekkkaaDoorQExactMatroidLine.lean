/- The line of a matroid: the second program. The statement FnExactMatroidLine: for every input the call returns true and each argument reads as it did. No condition. -/
import Derived.Test.YtpaoiiiceekkkaaDoorQ39
import Derived.Deep.DeepCutAuto
import Derived.Deep.RegionHeld3
import Derived.Test.YtpaoiiiceekkkaaDoorCards
import Derived.Test.YtpaoiiiceekkkaaDoorTie
import Derived.SevenTiedAt
section
namespace Go.Proofs.YtpaoiiiceekkkaaDoor
open Go.RowKit Go.G5

set_option maxHeartbeats 8000000 in
set_option maxRecDepth 100000 in
theorem mlLineS_c (w : World) (n : Int) (v : Value) (l : List Int) (hv : Ints w v l) (hl : l.length ≤ 1048576) :
    Calls Tryd.prog 23 #[.agg #[.int .i64 n, v]] w fun e w' => e = .returned (.string (mlLn n l)) ∧ Below w.heap.size w w' := by
  have hv0 := hv
  obtain ⟨a, c, rfl⟩ := hv.shape
  have K0 := Blk.new w 31 #[.int .i64 n, .slice a l.length c]
  obtain ⟨M, hM⟩ : ∃ M, M = matN n l := ⟨_, rfl⟩
  have hbs := fun (W : World) (h : Ints W (.slice a l.length c) l) => basS_c W n _ l h hl
  have hcr := fun (W : World) (h : Ints W (.slice a l.length c) l) => cirS_c W n _ l h hl
  simp only [← hM] at hbs hcr
  cases hf : rankB n l with
  | false =>
    simp only [hf] at hbs
    have HBS := Lib.hid hbs
    have HX := Lib.hid (mlLn_no hf)
    have HF := Lib.hid hf
    clear hf hbs hcr hM
    go_enter Tryd.func23, Tryd.ntmps23
    go_wp2_with fail
    refine (HBS.out _ (hv0.alloc _)).mono ?_
    rintro e w1 ⟨pB, iB, qB, rfl, oB, b1⟩
    have B1 : Below w.heap.size w w1 := (bl1 _ _).after b1 (by simp)
    go_wp2
    go_ret
    exact ⟨ret_str HX.out.symm, B1.alloc B1.size _⟩
  | true =>
    simp only [hf] at hbs
    have hcb := cvN_bd n l
    have hpb := pvN_bd n l
    have s1 := famTx_size M (basL n l)
    have s2 := famTx_size M (cirL n l)
    have s3 := famTx_size n (flaL n l)
    have s4 := itoaB_size (cvN n l) ⟨by omega, by omega⟩
    have s5 := itoaB_size (pvN n l) ⟨by omega, by omega⟩
    have hfin := mlLn_yes hf
    unfold mlT at hfin
    rw [← hM] at hfin
    obtain ⟨bC, hbC⟩ : ∃ b, b = cvB n l := ⟨_, rfl⟩
    obtain ⟨bP, hbP⟩ : ∃ b, b = pvB n l := ⟨_, rfl⟩
    rw [← hbC, ← hbP] at hfin
    have hcv := fun (W : World) (h : Ints W (.slice a l.length c) l) => cvS_any W n _ l h hl
    have hpk := fun (W : World) (h : Ints W (.slice a l.length c) l) => pkS_any W n _ l h hl
    simp only [← hbC] at hcv
    simp only [← hbP] at hpk
    have hi1 := fun W : World => fmtS_any (cvN n l) ⟨by omega, by omega⟩ W
    have hi2 := fun W : World => fmtS_any (pvN n l) ⟨by omega, by omega⟩ W
    obtain ⟨N1, hN1⟩ : ∃ N, N = itoaB (cvN n l) := ⟨_, rfl⟩
    obtain ⟨N2, hN2⟩ : ∃ N, N = itoaB (pvN n l) := ⟨_, rfl⟩
    rw [← hN1] at s4 hfin
    rw [← hN2] at s5 hfin
    simp only [← hN1] at hi1
    simp only [← hN2] at hi2
    have hq1 := fun (p : Option Addr) (q : Nat) (W : World) (h : Ints W (.slice p (basL n l).length q) (basL n l)) => fmtFamS_any M (basL n l) _ W h
    have hq2 := fun (p : Option Addr) (q : Nat) (W : World) (h : Ints W (.slice p (cirL n l).length q) (cirL n l)) => fmtFamS_any M (cirL n l) _ W h
    have hq3 := fun (p : Option Addr) (q : Nat) (W : World) (h : Ints W (.slice p (flaL n l).length q) (flaL n l)) => fmtFamS_any n (flaL n l) _ W h
    obtain ⟨F1, hF1⟩ : ∃ F, F = famTx M (basL n l) := ⟨_, rfl⟩
    obtain ⟨F2, hF2⟩ : ∃ F, F = famTx M (cirL n l) := ⟨_, rfl⟩
    obtain ⟨F3, hF3⟩ : ∃ F, F = famTx n (flaL n l) := ⟨_, rfl⟩
    rw [← hF1, ← hF2, ← hF3] at hfin
    rw [← hF1] at s1
    rw [← hF2] at s2
    rw [← hF3] at s3
    simp only [← hF1] at hq1
    simp only [← hF2] at hq2
    simp only [← hF3] at hq3
    have HQ1 := Lib.hid hq1
    have HQ2 := Lib.hid hq2
    have HQ3 := Lib.hid hq3
    have HI1 := Lib.hid hi1
    have HI2 := Lib.hid hi2
    have HFIN := Lib.hid hfin
    have HBS := Lib.hid hbs
    have HCR := Lib.hid hcr
    have HCV := Lib.hid hcv
    have HPK := Lib.hid hpk
    clear hM hf hfin hbs hcr hcv hpk hi1 hi2 hbC hbP hN1 hN2 hF1 hF2 hF3 hq1 hq2 hq3
    go_enter Tryd.func23, Tryd.ntmps23
    go_wp2_with fail
    refine (HBS.out _ (hv0.alloc _)).mono ?_
    rintro e w2 ⟨pB, iB, qB, rfl, oB, b2⟩
    have hiB : iB = (basL n l).length := oB.ints.capLe.1
    subst hiB
    have B2 : Below w.heap.size w w2 := (bl1 _ _).after b2 (by simp)
    have K2 := K0.keep b2
    clear K0 b2
    have KB := Blk.new w2 32 #[.int .i64 M, .slice pB (basL n l).length qB]
    have hB := oB.ints.alloc (.cells #[.int .i64 M, .slice pB (basL n l).length qB] 32)
    have B2' := B2.alloc B2.size (.cells #[.int .i64 M, .slice pB (basL n l).length qB] 32)
    have K2' := K2.alloc (.cells #[.int .i64 M, .slice pB (basL n l).length qB] 32)
    have G := K2'.cell
    go_wp2_with fail
    refine (HCR.out _ (hv0.below B2' (Nat.le_refl _))).mono ?_
    rintro e w3 ⟨pC, iC, qC, rfl, oC, b3⟩
    have hiC : iC = (cirL n l).length := oC.ints.capLe.1
    subst hiC
    have B3 := B2'.after b3 B2'.size
    have K3 := K2'.keep b3
    have KB := KB.keep b3
    have hB := hB.keep b3
    clear G B2 B2' K2 K2' b3
    have KC := Blk.new w3 32 #[.int .i64 M, .slice pC (cirL n l).length qC]
    have hC := oC.ints.alloc (.cells #[.int .i64 M, .slice pC (cirL n l).length qC] 32)
    have B3' := B3.alloc B3.size (.cells #[.int .i64 M, .slice pC (cirL n l).length qC] 32)
    have K3' := K3.alloc (.cells #[.int .i64 M, .slice pC (cirL n l).length qC] 32)
    have KB := KB.alloc (.cells #[.int .i64 M, .slice pC (cirL n l).length qC] 32)
    have hB := hB.alloc (.cells #[.int .i64 M, .slice pC (cirL n l).length qC] 32)
    have G := K3'.cell
    go_wp2_with fail
    refine (flaS_c _ n _ l (hv0.below B3' (Nat.le_refl _)) hl).mono ?_
    rintro e w4 ⟨pF, iF, qF, rfl, oF, b4⟩
    have hiF : iF = (flaL n l).length := oF.ints.capLe.1
    subst hiF
    have B4 := B3'.after b4 B3'.size
    have K4 := K3'.keep b4
    have KB := KB.keep b4
    have KC := KC.keep b4
    have hB := hB.keep b4
    have hC := hC.keep b4
    have hFl := oF.ints
    clear G B3 B3' K3 K3' b4
    go_upto_region 6 with fail
    go_cut [9] (fun v wx => ∃ X, v = .string X ∧ X = mlAT F1 F2 F3 ∧ Below w4.heap.size w4 wx)
    case rest =>
      obtain ⟨X, rfl, hX, b5⟩ := hcut
      have hXs : X.size ≤ 30100 := by rw [hX]; exact mlAT_size F1 F2 F3 s1 s2 s3
      have HX := Lib.hid hX
      have B5 := B4.after b5 B4.size
      have K5 := K4.keep b5
      clear hX b5 B4 K4 KB KC hB hC hFl oB oC oF HQ1 HQ2 HQ3
      have G := K5.cell
      go_wp2_with fail
      refine (HCV.out _ (hv0.below B5 (Nat.le_refl _))).mono ?_
      rintro e w6 ⟨rfl, b6⟩
      have B6 := B5.after b6 B5.size
      have K6 := K5.keep b6
      clear B5 K5 G b6
      go_upto_if 50 with fail
      go_cut [9] (fun v wx => ∃ X2, v = .string X2 ∧ X2 = mlBT bC X N1 ∧ Below w6.heap.size w6 wx)
      case rest =>
        obtain ⟨X2, rfl, hX2, b7⟩ := hcut
        have hX2s : X2.size ≤ 30140 := by rw [hX2]; exact mlBT_size bC X N1 30100 hXs s4
        have HX2 := Lib.hid hX2
        have B7 := B6.after b7 B6.size
        have K7 := K6.keep b7
        clear hX2 b7 B6 K6
        have G := K7.cell
        go_wp2_with fail
        refine (HPK.out _ (hv0.below B7 (Nat.le_refl _))).mono ?_
        rintro e w8 ⟨rfl, b8⟩
        have B8 := B7.after b8 B7.size
        clear B7 K7 G b8
        cases bP with
        | false =>
          have hfin : X2 = mlLn n l := by rw [HFIN.out, HX2.out, HX.out]; rfl
          have HFI := Lib.hid hfin
          clear hfin
          go_wp2
          go_ret
          exact ⟨ret_str HFI.out, B8⟩
        | true =>
          have hfin : mlCT true X2 N2 = mlLn n l := by rw [HFIN.out, HX2.out, HX.out]
          have HFI := Lib.hid hfin
          clear hfin
          go_wp2_with fail
          refine (HI2.out _).mono ?_
          rintro e w9 ⟨rfl, b9⟩
          go_wp2
          go_ret
          exact ⟨ret_str HFI.out, B8.after b9 B8.size⟩
      case first =>
        cases bC with
        | false =>
          go_wp2_with fail
          go_meet
          exact ⟨X, rfl, rfl, Below.refl _ _⟩
        | true =>
          go_wp2_with fail
          refine (HI1.out _).mono ?_
          rintro e w9 ⟨rfl, b9⟩
          go_wp2_with fail
          go_meet
          exact ⟨_, rfl, rfl, b9⟩
    case first =>
      have a0 := K4.cell 0
      have a1 := KB.cell 0
      have a2 := KB.cell 1
      have a3 := KC.cell 0
      have a4 := KC.cell 1
      simp only [List.getElem?_toArray, List.getElem?_cons_zero, List.getElem?_cons_succ] at a0 a1 a2 a3 a4
      have q0 : ∀ y : Ext w4, y.w.cell? ⟨w.heap.size, 0, none⟩ = some (.int .i64 n) := fun y => y.cell a0
      have q1 : ∀ y : Ext w4, y.w.cell? ⟨w2.heap.size, 0, none⟩ = some (.int .i64 M) := fun y => y.cell a1
      have q2 : ∀ y : Ext w4, y.w.cell? ⟨w2.heap.size, 1, none⟩ = some (.slice pB (basL n l).length qB) := fun y => y.cell a2
      have q3 : ∀ y : Ext w4, y.w.cell? ⟨w3.heap.size, 0, none⟩ = some (.int .i64 M) := fun y => y.cell a3
      have q4 : ∀ y : Ext w4, y.w.cell? ⟨w3.heap.size, 1, none⟩ = some (.slice pC (cirL n l).length qC) := fun y => y.cell a4
      have R1 := Lib.hid (fun y : Ext w4 => HQ1.out pB qB y.w (hB.keep y.b))
      have R2 := Lib.hid (fun y : Ext w4 => HQ2.out pC qC y.w (hC.keep y.b))
      have R3 := Lib.hid (fun y : Ext w4 => HQ3.out pF qF y.w (hFl.keep y.b))
      clear a0 a1 a2 a3 a4
      refine wp_region_ext _ (by kernel_rfl) (by kernel_rfl) ?_
      repeat (first | go_big_quiet_skip | (go_big_quiet_want; go_big_quiet_op; first | go_big_quiet_on | (apply Exists.intro; refine ⟨fun _ => ?_, ?_⟩; (go_at_call 33; first | (with_reducible exact ext_call (R1.out _)) | (with_reducible exact ext_call (R2.out _)) | (with_reducible exact ext_call (R3.out _))); go_big_quiet_on)))
      refine wpQuiet_nil ?_
      rintro w5 ⟨⟨w5, b5⟩, rfl⟩
      try dsimp only
      go_wp2_with fail
      go_meet
      exact ⟨_, rfl, rfl, b5⟩
end Go.Proofs.YtpaoiiiceekkkaaDoor
end
section
namespace Go.Proofs.YtpaoiiiceekkkaaDoor
open Go.ChangeShapes Go.WideShapes Go.ChangeAt Go.RowKit Go.G5
set_option maxHeartbeats 4000000 in
set_option maxRecDepth 100000 in
theorem mlline_walk (w : World) (n0_0 : Int) (v0_1 : Value) (l0_1 : List Int) (_ : InR n0_0) (hv0_1 : Ints w v0_1 l0_1) (hp : Pow w) :
    Calls Tryd.prog 6 #[.agg #[.int .i64 n0_0, v0_1]] w fun e w' => e = .returned (.bool true) ∧ Below w.heap.size w w' := by
  obtain ⟨av0_1, cv0_1, rfl⟩ := hv0_1.shape
  go_enter Tryd.func6, Tryd.ntmps6
  go_wp2_with fail
  refine calls_named ?_
  intro V1 hV
  have B : Below w.heap.size w V1 := by rw [hV]; exact (by repeat (first | exact Below.refl _ _ | (with_reducible refine Below.setCell ?_ (by first | omega | (simp; done) | (simp; omega)) _) | (with_reducible refine Below.alloc ?_ (by first | omega | (simp; done) | (simp; omega)) _) | (with_reducible refine Below.drewN' ?_ _) | (with_reducible refine Below.drew ?_) | (with_reducible assumption) | refine Below.trans ?_ (Below.mono (by assumption) (by first | omega | (simp; done) | (simp; omega)))))
  have zV1 : w.heap.size + 1 ≤ V1.heap.size := by rw [hV]; (first | simp | omega)
  have K0 : Blk V1 (w.heap.size) 24 #[.int .i64 n0_0, .slice av0_1 l0_1.length cv0_1] := by rw [hV]; have := (Blk.new (w) 24 #[.int .i64 n0_0, .slice av0_1 l0_1.length cv0_1]); simpa using this
  clear hV
  refine (szFunction_c n0_0 _ l0_1 _ _ (hv0_1.below B (Nat.le_refl _)) (by omega) (by omega)).mono ?_
  rintro e W2 ⟨⟨s0, rfl, hs0⟩, hb⟩
  have zW2 : V1.heap.size ≤ W2.heap.size := hb.size
  have B1 := B.after hb B.size
  have K0x := K0.keep hb
  clear B K0
  have B := B1
  have K0 := K0x
  clear B1 K0x
  clear hb
  rcases hs0 with hs0 | ⟨g0_0, g0_1, hlv0_1'⟩
  · go_wp2
    go_ret
    exact ⟨rfl, B⟩
  have hlv0_1 : l0_1.length ≤ 1048576 := by omega
  have GK0 := K0.cell
  have ZK0 := K0.lt
  go_wp2_with fail
  clear GK0 ZK0
  refine calls_named ?_
  intro V3 hV
  have zV3 : W2.heap.size + 0 ≤ V3.heap.size := by rw [hV]; (first | exact Nat.le_refl _ | simp)
  have B1 : Below w.heap.size w V3 := by rw [hV]; first | exact B | exact B.alloc B.size _ | exact (B.alloc B.size _).alloc (by have := B.size; simp; omega) _
  have K0x : Blk V3 (w.heap.size) 24 #[.int .i64 n0_0, .slice av0_1 l0_1.length cv0_1] := by rw [hV]; first | exact K0 | exact K0.alloc _ | exact (K0.alloc _).alloc _
  clear B K0
  have B := B1
  have K0 := K0x
  clear B1 K0x
  clear hV
  refine (toFunction_any n0_0 _ l0_1 _ (hv0_1.below B (Nat.le_refl _)) hlv0_1).mono ?_
  rintro e W4 ⟨pwx00, iwx00, qwx00, rfl, owx00x, hb⟩
  have zW4 : V3.heap.size ≤ W4.heap.size := hb.size
  have B1 := B.after hb B.size
  have K0x := K0.keep hb
  clear B K0
  have B := B1
  have K0 := K0x
  clear B1 K0x
  clear hb
  have owx00 := owx00x.toW
  clear owx00x
  have r_wx00 := owx00.lt
  have GK0 := K0.cell
  have ZK0 := K0.lt
  go_wp2_with fail
  clear GK0 ZK0
  refine calls_named ?_
  intro V5 hV
  have zV5 : W4.heap.size + 0 ≤ V5.heap.size := by rw [hV]; (first | exact Nat.le_refl _ | simp)
  have B1 : Below w.heap.size w V5 := by rw [hV]; first | exact B | exact B.alloc B.size _ | exact (B.alloc B.size _).alloc (by have := B.size; simp; omega) _
  have K0x : Blk V5 (w.heap.size) 24 #[.int .i64 n0_0, .slice av0_1 l0_1.length cv0_1] := by rw [hV]; first | exact K0 | exact K0.alloc _ | exact (K0.alloc _).alloc _
  have owx00x : OwnW 3 V3.heap.size V5 (.slice pwx00 iwx00 qwx00) (l0_1) := by rw [hV]; first | exact owx00 | exact owx00.alloc _ | exact (owx00.alloc _).alloc _
  clear B K0 owx00
  have B := B1
  have K0 := K0x
  have owx00 := owx00x
  clear B1 K0x owx00x
  clear hV
  refine (mlLineS_c _ n0_0 _ l0_1 owx00.ints hlv0_1).mono ?_
  rintro e W6 ⟨rfl, hb⟩
  have zW6 : V5.heap.size ≤ W6.heap.size := hb.size
  have B1 := B.after hb B.size
  have K0x := K0.keep hb
  clear B K0
  have B := B1
  have K0 := K0x
  clear B1 K0x
  clear hb
  clear owx00
  have GK0 := K0.cell
  have ZK0 := K0.lt
  go_wp2_with fail
  clear GK0 ZK0
  refine calls_named ?_
  intro V7 hV
  have zV7 : W6.heap.size + 0 ≤ V7.heap.size := by rw [hV]; (first | exact Nat.le_refl _ | simp)
  have B1 : Below w.heap.size w V7 := by rw [hV]; first | exact B | exact B.alloc B.size _ | exact (B.alloc B.size _).alloc (by have := B.size; simp; omega) _
  have K0x : Blk V7 (w.heap.size) 24 #[.int .i64 n0_0, .slice av0_1 l0_1.length cv0_1] := by rw [hV]; first | exact K0 | exact K0.alloc _ | exact (K0.alloc _).alloc _
  clear B K0
  have B := B1
  have K0 := K0x
  clear B1 K0x
  clear hV
  refine (toFunction_any n0_0 _ l0_1 _ (hv0_1.below B (Nat.le_refl _)) hlv0_1).mono ?_
  rintro e W8 ⟨px00, ix00, qx00, rfl, ox00x, hb⟩
  have zW8 : V7.heap.size ≤ W8.heap.size := hb.size
  have B1 := B.after hb B.size
  have K0x := K0.keep hb
  clear B K0
  have B := B1
  have K0 := K0x
  clear B1 K0x
  clear hb
  have ox00 := ox00x.toW
  clear ox00x
  have r_x00 := ox00.lt
  have GK0 := K0.cell
  have ZK0 := K0.lt
  go_wp2_with fail
  clear GK0 ZK0
  refine calls_named ?_
  intro V9 hV
  have zV9 : W8.heap.size + 1 ≤ V9.heap.size := by rw [hV]; (first | exact Nat.le_refl _ | simp)
  have B1 : Below w.heap.size w V9 := by rw [hV]; first | exact B | exact B.alloc B.size _ | exact (B.alloc B.size _).alloc (by have := B.size; simp; omega) _
  have K0x : Blk V9 (w.heap.size) 24 #[.int .i64 n0_0, .slice av0_1 l0_1.length cv0_1] := by rw [hV]; first | exact K0 | exact K0.alloc _ | exact (K0.alloc _).alloc _
  have ox00x : OwnW 3 V7.heap.size V9 (.slice px00 ix00 qx00) (l0_1) := by rw [hV]; first | exact ox00 | exact ox00.alloc _ | exact (ox00.alloc _).alloc _
  have K1x : Blk V9 (W8.heap.size) 31 #[.int .i64 n0_0, .slice px00 ix00 qx00] := by rw [hV]; exact Blk.new _ _ _
  clear B K0 ox00
  have B := B1
  have K0 := K0x
  have K1 := K1x
  have ox00 := ox00x
  clear B1 K0x K1x ox00x
  clear hV
  refine (mlLineI_c _ n0_0 _ l0_1 ox00.ints hlv0_1 (hp.keep B)).mono ?_
  rintro e W10 ⟨rfl, hb⟩
  have zW10 : V9.heap.size ≤ W10.heap.size := hb.size
  have B1 := B.after hb B.size
  have K0x := K0.keep hb
  have K1x := K1.keep hb
  have ox00x := ox00.keep hb
  clear B K0 K1 ox00
  have B := B1
  have K0 := K0x
  have K1 := K1x
  have ox00 := ox00x
  clear B1 K0x K1x ox00x
  clear hb
  have GK0 := K0.cell
  have ZK0 := K0.lt
  have GK1 := K1.cell
  have ZK1 := K1.lt
  go_wp2_with fail
  clear GK0 ZK0 GK1 ZK1
  have yK0 := K0.lt
  have yK1 := K1.lt
  have GK0 := K0.cell
  have GK1 := K1.cell
  go_region_held3 (fun w' => (∀ i, w'.cell? ⟨w.heap.size, i, none⟩ = (#[.int .i64 n0_0, .slice av0_1 l0_1.length cv0_1] : Array Value)[i]?) ∧ (∀ i, w'.cell? ⟨W8.heap.size, i, none⟩ = (#[.int .i64 n0_0, .slice px00 ix00 qx00] : Array Value)[i]?)) (go_keep)
    (first
      | (go_at_call 15; refine (toFunction_any n0_0 _ l0_1 _ (hv0_1.below (B := w.heap.size) (by repeat (first | exact Below.refl _ _ | (with_reducible refine Below.setCell ?_ (by first | omega | (simp; done) | (simp; omega)) _) | (with_reducible refine Below.alloc ?_ (by first | omega | (simp; done) | (simp; omega)) _) | (with_reducible refine Below.drewN' ?_ _) | (with_reducible refine Below.drew ?_) | (with_reducible assumption) | refine Below.trans ?_ (Below.mono (by assumption) (by first | omega | (simp; done) | (simp; omega))))) (Nat.le_refl _)) hlv0_1).mono ?_; rintro e W11 ⟨pyW11x0, iyW11x0, qyW11x0, rfl, oyW11x0, hbW11⟩; obtain ⟨hchbW11, hfhbW11⟩ := bcellN hbW11 (W10.heap.size) (by first | omega | (simp; done) | (simp; omega)); have zhbW11 := hbW11.size; (try simp at zhbW11))
      | (go_at_call 17; refine (eqFunction_any _ _ _ _ _ _ _ ((ox00.drewN 1).below hbW11 (by first | omega | (simp; done) | (simp; omega))).ints oyW11x0.ints).mono ?_; rintro e W12 ⟨rfl, hbW12⟩; obtain ⟨hchbW12, hfhbW12⟩ := bcellN hbW12 (W10.heap.size) (by first | omega | (simp; done) | (simp; omega)); have zhbW12 := hbW12.size; (try simp at zhbW12))
    )
  have B1 : Below w.heap.size w W12 := (by repeat (first | exact Below.refl _ _ | (with_reducible refine Below.setCell ?_ (by first | omega | (simp; done) | (simp; omega)) _) | (with_reducible refine Below.alloc ?_ (by first | omega | (simp; done) | (simp; omega)) _) | (with_reducible refine Below.drewN' ?_ _) | (with_reducible refine Below.drew ?_) | (with_reducible assumption) | refine Below.trans ?_ (Below.mono (by assumption) (by first | omega | (simp; done) | (simp; omega)))))
  have zzW12 : W10.heap.size ≤ W12.heap.size := by omega
  have K0x : Blk W12 (w.heap.size) 24 #[.int .i64 n0_0, .slice av0_1 l0_1.length cv0_1] := (((K0.drewN 1).keep hbW11).keep hbW12)
  have K1x : Blk W12 (W8.heap.size) 31 #[.int .i64 n0_0, .slice px00 ix00 qx00] := (((K1.drewN 1).keep hbW11).keep hbW12)
  have ox00x : OwnW 3 V7.heap.size W12 (.slice px00 ix00 qx00) (l0_1) := (((ox00.drewN 1).keep hbW11).keep hbW12)
  clear B K0 K1 ox00 GK0 GK1 yK0 yK1 hchbW11 hfhbW11 hchbW12 hfhbW12
  have B := B1
  have K0 := K0x
  have K1 := K1x
  have ox00 := ox00x
  clear B1 K0x K1x ox00x
  try simp only [decide_true, Bool.and_self]
  have GK0 := K0.cell
  have ZK0 := K0.lt
  have GK1 := K1.cell
  have ZK1 := K1.lt
  go_wp2
  go_ret
  exact ⟨rfl, B⟩

theorem fnExactMatroidLine_params : Tryd.f6.params = #[24] := by kernel_rfl
theorem fnExactMatroidLine_door (os : Os) (args : Array Value) : laidMetH Tryd.prog Rows.fnExactMatroidLineRow.laid ((World.doorLaid Tryd.prog 24 os).forCall (fun _ _ => 0) ⟨#[], args, []⟩).memory := by
  rw [MakeChecks.laidMetH_plain _ _ _ (by kernel_rfl)]
  exact laidMet_of_run' 8 (by kernel_rfl) (by kernel_rfl)
theorem fnExactMatroidLine_pow {W : World} (h : laidMetH Tryd.prog Rows.fnExactMatroidLineRow.laid W) : Pow W := by
  rw [MakeChecks.laidMetH_plain _ _ _ (by kernel_rfl)] at h
  exact pow_of_third h
set_option maxRecDepth 100000 in
theorem fnExactMatroidLine_lifted (os : Os) (started : os.Started) (H : Type) (enc : TypeId × Value → H) :
    ReturnsInHanded {} Tryd.checked os 6 .any (fun w args => (Rows.fnExactMatroidLineSpec.pre enc Tryd.prog Tryd.f6 Rows.fnExactMatroidLineRow.domain false w args ∧ laidMetH Tryd.prog Rows.fnExactMatroidLineRow.laid w) ∧ sizedMet enc Tryd.prog Tryd.f6 (OpenSpec.ofChange Rows.fnExactMatroidLineSpec) false w args) (Rows.fnExactMatroidLineSpec.post enc Tryd.prog Tryd.f6 false true false false) := by
  refine law_lift_laid Rows.fnExactMatroidLineRow.laid os started H enc Tryd.func6 (by kernel_rfl) rfl (by kernel_rfl) (by kernel_rfl) ?_
    (ChangeSpec.witness_shaped (enc := enc) (C := Tryd.checked) (os := os) (X := fun w _ => laidMetH Tryd.prog Rows.fnExactMatroidLineRow.laid w) false (World.doorLaid Tryd.prog 24 os) #[.agg #[.int .i64 0, .slice none 0 0]] 8 rfl (World.shaped_of_RefB (by kernel_rfl) (by kernel_rfl)) (by kernel_rfl) (by kernel_rfl) (by kernel_rfl) (fnExactMatroidLine_door os _)) ?_
  · intro ds hds
    rw [fnExactMatroidLine_params] at hds
    match ds, hds with
    | [d0], _ => rfl
  · intro W base args ds p hval hA hL
    rw [fnExactMatroidLine_params] at hA hval
    obtain ⟨v0, vs0, d0, ds0, p0, q0, hargs, rfl, rfl, h0, r0⟩ := trodAll_cons hA
    obtain ⟨rfl, rfl, rfl⟩ := trodAll_nil r0
    obtain rfl : args = #[v0] := by cases args; simp_all
    obtain ⟨n0, u0, l0, rfl, w0, x0⟩ := rd_fun (hval 0 24 v0 rfl rfl) h0
    exact mlline_walk W n0 u0 l0 w0 x0 (fnExactMatroidLine_pow hL)

theorem fnExactMatroidLine_holds : Rows.FnExactMatroidLineSaid :=
  OpenClaim.holds_of_wide 6 Tryd.f6 rfl rfl rfl rfl rfl rfl rfl ⟨rfl, rfl, rfl, rfl, rfl⟩ rfl rfl rfl rfl rfl (by kernel_rfl) Tryd.func6 (by kernel_rfl)
    (of_decide_eq_true (by kernel_rfl)) (by unfold Func.isWrapper; first | (rw [if_pos (by decide +kernel)]; kernel_rfl) | (rw [if_neg (by decide +kernel)]; exact ⟨rfl, rfl⟩))
    (fun os started H enc _ => fnExactMatroidLine_lifted os started H enc)

theorem fnExactMatroidLine_card : Rows.FnExactMatroidLineCardSaid :=
  Claim7.holds_tied_plain_at .later [] [.data, .data, .data] true _ false
    fnExactMatroidLine_holds (fun _ h => by cases h) (by kernel_rfl) (fun _ h => by cases h) fnExactMatroidLine_row_tie rfl ⟨rfl, rfl⟩ (by kernel_rfl) rfl
    (fun f fn hf hfn => by
      obtain rfl : f = 6 := Option.some.inj ((show Tryd.prog.funcNamed "loop.example/g03405/laws.FnExactMatroidLine" = some 6 by kernel_rfl).symm.trans hf) |>.symm
      obtain rfl : fn = Tryd.f6 := (Option.some.inj (Tryd.func6.symm.trans hfn)).symm
      exact ⟨by kernel_rfl, fun j t ht => by
        rw [fnExactMatroidLine_params] at ht
        have hm : t ∈ [24] := by simpa using Array.mem_of_getElem? ht
        have hall : ([24].all fun u => !Tryd.prog.wantsStandIn u) = true := by kernel_rfl
        exact (show Tryd.prog.wantsStandIn t = false by simpa using List.all_eq_true.1 hall t hm)⟩)
    (by kernel_rfl)
end Go.Proofs.YtpaoiiiceekkkaaDoor
end
