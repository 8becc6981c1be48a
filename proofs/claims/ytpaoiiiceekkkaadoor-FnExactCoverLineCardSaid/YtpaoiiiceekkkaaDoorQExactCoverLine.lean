/- The line of covers: the second program. The statement FnExactCoverLine: for every input the call returns true and each argument reads as it did. No condition. -/
import Derived.Test.YtpaoiiiceekkkaaDoorQ39
import Derived.Deep.DeepCutAuto
import Derived.Deep.RegionHeld3
import Derived.Test.YtpaoiiiceekkkaaDoorCards
import Derived.Test.YtpaoiiiceekkkaaDoorTie
import Derived.SevenTiedAt
section
namespace Go.Proofs.YtpaoiiiceekkkaaDoor
open Go.RowKit Go.G5

set_option maxHeartbeats 8000000 in
set_option maxRecDepth 100000 in
theorem covLineS_c (w : World) (g : Int) (v : Value) (l : List Int) (hv : Ints w v l) (hl : l.length ≤ 1048576) :
    Calls Tryd.prog 19 #[.agg #[.int .i64 g, v]] w fun e w' => e = .returned (.string (covLn g l)) ∧ Below w.heap.size w w' := by
  have hv0 := hv
  obtain ⟨a, c, rfl⟩ := hv.shape
  have K0 := Blk.new w 32 #[.int .i64 g, .slice a l.length c]
  cases hf : isFamB g l with
  | false =>
    have HX := Lib.hid (covLn_no hf)
    have HF := Lib.hid hf
    clear hf
    go_enter Tryd.func19, Tryd.ntmps19
    go_wp2_with fail
    refine (isFamS_any g l _ _ (hv0.alloc _)).mono ?_
    rintro e w1 ⟨rfl, b1⟩
    rw [HF.out]
    go_wp2
    go_ret
    exact ⟨ret_str HX.out.symm, (bl1 _ _).after b1 (by simp)⟩
  | true =>
    have HTT := Lib.hid (covLn_yes hf)
    have hpl := pkL_64 g l
    have hpr := pricesL_6 g l
    have htb := tnN_bd g l
    have hsl := smallL_len g l
    have hgl := greedyL_64 g l
    have hns := itoaB_size ((pkL g l).length : Int) ⟨by omega, by omega⟩
    have hfs := famTx_size g (pkL g l)
    have hss := setTx_size g (tnS g l)
    have hts := itoaB_size (tnN g l) ⟨by omega, by omega⟩
    obtain ⟨bT, hbT⟩ : ∃ b, b = tnOk g l := ⟨_, rfl⟩
    obtain ⟨bS, hbS⟩ : ∃ b, b = smallB g l := ⟨_, rfl⟩
    have htn := fun (W : World) (h : Ints W (.slice a l.length c) l) => tnS_any W g _ l h hl
    have hsm := fun (W : World) (h : Ints W (.slice a l.length c) l) => smallestS_c W g _ l h hl
    simp only [← hbT] at htn
    simp only [← hbS] at hsm
    have HF := Lib.hid hf
    have HTN := Lib.hid htn
    have HSM := Lib.hid hsm
    have HBT := Lib.hid (And.intro hbT hbS)
    clear hf htn hsm hbT hbS
    go_enter Tryd.func19, Tryd.ntmps19
    go_wp2_with fail
    refine (isFamS_any g l _ _ (hv0.alloc _)).mono ?_
    rintro e w1 ⟨rfl, b1⟩
    rw [HF.out]
    have B : Below w.heap.size w w1 := (bl1 _ _).after b1 (by simp)
    have K := K0.keep b1
    clear K0 b1
    have G := K.cell
    go_wp2_with fail
    refine (packNumS_any _ g _ l (hv0.below B (Nat.le_refl _))).mono ?_
    rintro e w2 ⟨p2, i2, q2, rfl, hP, b2⟩
    have hi2 : i2 = (pkL g l).length := hP.capLe.1
    subst hi2
    have B1 := B.after b2 B.size
    have K1 := K.keep b2
    clear B K G b2
    obtain ⟨N, hN⟩ : ∃ N, N = itoaB ((pkL g l).length : Int) := ⟨_, rfl⟩
    obtain ⟨A, hA⟩ : ∃ A, A = famTx g (pkL g l) := ⟨_, rfl⟩
    rw [← hN] at hns
    rw [← hA] at hfs
    have HNA := Lib.hid (And.intro hN hA)
    clear hN hA
    go_upto_region 4 with fail
    go_cut [6] (fun v wx => ∃ X, v = .string X ∧ X = covAT N A ∧ Below w2.heap.size w2 wx)
    case rest =>
      obtain ⟨X, rfl, hX, b3⟩ := hcut
      have hXs : X.size ≤ 10100 := by rw [hX]; exact covAT_size N A hns hfs
      have HX := Lib.hid hX
      have B3 := B1.after b3 B1.size
      have K3 := K1.keep b3
      clear hX b3 B1 K1 hP
      have G := K3.cell
      go_wp2_with fail
      refine (HTN.out _ (hv0.below B3 (Nat.le_refl _))).mono ?_
      rintro e w4 ⟨rfl, b4⟩
      have B4 := B3.after b4 B3.size
      have K4 := K3.keep b4
      clear B3 K3 G b4
      obtain ⟨M, hM⟩ : ∃ M, M = itoaB (tnN g l) := ⟨_, rfl⟩
      obtain ⟨S, hS⟩ : ∃ S, S = setTx g (tnS g l) := ⟨_, rfl⟩
      rw [← hM] at hts
      rw [← hS] at hss
      have HMS := Lib.hid (And.intro hM hS)
      clear hM hS
      go_upto_if 41 with fail
      go_cut [6] (fun v wx => ∃ X2, v = .string X2 ∧ X2 = covBT bT X M S ∧ Below w4.heap.size w4 wx)
      case rest =>
        obtain ⟨X2, rfl, hX2, b5⟩ := hcut
        have hX2s : X2.size ≤ 10300 := by rw [hX2]; exact covBT_size bT X M S hXs hts hss
        have HX2 := Lib.hid hX2
        have B5 := B4.after b5 B4.size
        have K5 := K4.keep b5
        clear hX2 b5 B4 K4
        have G := K5.cell
        go_wp2_with fail
        refine (HSM.out _ (hv0.below B5 (Nat.le_refl _))).mono ?_
        rintro e w6 ⟨pS, iS, qS, rfl, oS, b6⟩
        have hiS : iS = (smallL g l).length := oS.ints.capLe.1
        subst hiS
        have B6 := B5.after b6 B5.size
        have K6 := K5.keep b6
        clear B5 K5 G b6
        cases bS with
        | false =>
          have hfin : X2 = covLn g l := by rw [HTT.out]; unfold covT; rw [← HBT.out.1, ← HBT.out.2, HX2.out, HX.out, HMS.out.1, HMS.out.2, HNA.out.1, HNA.out.2]; rfl
          have HFI := Lib.hid hfin
          clear hfin
          go_wp2
          go_ret
          exact ⟨ret_str HFI.out, B6⟩
        | true =>
          have G := K6.cell
          go_wp2_with fail
          refine (greedyS_c _ g _ l (hv0.below B6 (Nat.le_refl _)) hl).mono ?_
          rintro e w7 ⟨pG, iG, qG, rfl, oG, b7⟩
          have hiG : iG = (greedyL g l).length := oG.ints.capLe.1
          subst hiG
          have B7 := B6.after b7 B6.size
          have K7 := K6.keep b7
          clear B6 K6 G b7
          have G := K7.cell
          go_wp2_with fail
          refine (pricesS_c _ g _ l (hv0.below B7 (Nat.le_refl _)) hl).mono ?_
          rintro e w8 ⟨pR, iR, qR, rfl, oR, b8⟩
          have B8 := B7.after b8 B7.size
          have hRI := oR.ints.inR
          clear B7 K7 G b8
          have h1 := fmtS_any ((smallL g l).length : Int) ⟨by omega, by omega⟩ w8
          have s1 := itoaB_size ((smallL g l).length : Int) ⟨by omega, by omega⟩
          have h2 := fun W : World => fmtS_any ((greedyL g l).length : Int) ⟨by omega, by omega⟩ W
          have s2 := itoaB_size ((greedyL g l).length : Int) ⟨by omega, by omega⟩
          have h3 := fun (W : World) (hb : Below w8.heap.size w8 W) => numS_any (pricesL g l) _ W (oR.ints.below hb (Nat.le_refl _)) (by omega)
          have s3 : (numB (pricesL g l)).size ≤ 200 := by have := numB_size _ hRI; omega
          obtain ⟨A1, hA1⟩ : ∃ A, A = itoaB ((smallL g l).length : Int) := ⟨_, rfl⟩
          obtain ⟨A2, hA2⟩ : ∃ A, A = itoaB ((greedyL g l).length : Int) := ⟨_, rfl⟩
          obtain ⟨A3, hA3⟩ : ∃ A, A = numB (pricesL g l) := ⟨_, rfl⟩
          rw [← hA1] at h1 s1
          simp only [← hA2] at h2 s2
          simp only [← hA3] at h3 s3
          have hfin : covCT true X2 A1 A2 A3 = covLn g l := by rw [HTT.out]; unfold covT; rw [← HBT.out.1, ← HBT.out.2, HX2.out, HX.out, HMS.out.1, HMS.out.2, HNA.out.1, HNA.out.2, hA1, hA2, hA3]
          have HFI := Lib.hid hfin
          have H1 := Lib.hid h1
          have H2 := Lib.hid h2
          have H3 := Lib.hid h3
          clear hfin h1 h2 h3 hA1 hA2 hA3
          have e1 : (⟨#[32, 115, 109, 97, 108, 108, 101, 115, 116, 32]⟩ : ByteArray).size = 10 := rfl
          have e2 : (⟨#[32, 103, 114, 101, 101, 100, 121, 32]⟩ : ByteArray).size = 8 := rfl
          have e3 : (⟨#[32, 112, 114, 105, 99, 101, 115, 32]⟩ : ByteArray).size = 8 := rfl
          go_wp2_with fail
          refine H1.out.mono ?_
          rintro e w9 ⟨rfl, b9⟩
          go_wp2_with fail
          refine (H2.out w9).mono ?_
          rintro e wa ⟨rfl, ba⟩
          have ba := b9.after ba b9.size
          go_wp2_with fail
          refine (H3.out wa ba).mono ?_
          rintro e wb ⟨rfl, bb⟩
          have bb := ba.after bb ba.size
          go_wp2
          go_ret
          exact ⟨ret_str HFI.out, B8.after bb B8.size⟩
      case first =>
        cases bT with
        | false =>
          go_wp2_with fail
          go_meet
          exact ⟨X, rfl, rfl, Below.refl _ _⟩
        | true =>
          have G := K4.cell
          have g0 := G 0
          simp only [List.getElem?_toArray, List.getElem?_cons_zero] at g0
          have q0 : ∀ y : Ext w4, y.w.cell? ⟨w.heap.size, 0, none⟩ = some (.int .i64 g) := fun y => y.cell g0
          have Q1 := fun y : Ext w4 => fmtS_any (tnN g l) ⟨by omega, by omega⟩ y.w
          have Q2 := fun y : Ext w4 => fmtSetS_any g (tnS g l) y.w
          simp only [← HMS.out.1] at Q1
          simp only [← HMS.out.2] at Q2
          have Q1 := Lib.hid Q1
          have Q2 := Lib.hid Q2
          clear G g0
          go_wp2_with fail
          refine wp_region_ext _ (by kernel_rfl) (by kernel_rfl) ?_
          repeat (first | go_big_quiet_skip | (go_big_quiet_want; go_big_quiet_op; first | go_big_quiet_on | (apply Exists.intro; refine ⟨fun _ => ?_, ?_⟩; (first | (go_at_call 29; with_reducible exact ext_call (Q1.out _)) | (go_at_call 32; with_reducible exact ext_call (Q2.out _))); go_big_quiet_on)))
          refine wpQuiet_nil ?_
          rintro w5 ⟨⟨w5, b5⟩, rfl⟩
          try dsimp only
          go_wp2_with fail
          go_meet
          exact ⟨_, rfl, rfl, b5⟩
    case first =>
      have G := K1.cell
      have g0 := G 0
      simp only [List.getElem?_toArray, List.getElem?_cons_zero] at g0
      have q0 : ∀ y : Ext w2, y.w.cell? ⟨w.heap.size, 0, none⟩ = some (.int .i64 g) := fun y => y.cell g0
      have Q1 := fun y : Ext w2 => fmtS_any ((pkL g l).length : Int) ⟨by omega, by omega⟩ y.w
      have Q2 := fun y : Ext w2 => fmtFamS_any g (pkL g l) _ y.w (hP.keep y.b)
      simp only [← HNA.out.1] at Q1
      simp only [← HNA.out.2] at Q2
      have Q1 := Lib.hid Q1
      have Q2 := Lib.hid Q2
      clear G g0
      refine wp_region_ext _ (by kernel_rfl) (by kernel_rfl) ?_
      repeat (first | go_big_quiet_skip | (go_big_quiet_want; go_big_quiet_op; first | go_big_quiet_on | (apply Exists.intro; refine ⟨fun _ => ?_, ?_⟩; (first | (go_at_call 29; with_reducible exact ext_call (Q1.out _)) | (go_at_call 33; with_reducible exact ext_call (Q2.out _))); go_big_quiet_on)))
      refine wpQuiet_nil ?_
      rintro w3 ⟨⟨w3, b3⟩, rfl⟩
      try dsimp only
      go_wp2_with fail
      go_meet
      exact ⟨_, rfl, rfl, b3⟩
end Go.Proofs.YtpaoiiiceekkkaaDoor
end
section
namespace Go.Proofs.YtpaoiiiceekkkaaDoor
open Go.ChangeShapes Go.WideShapes Go.ChangeAt Go.RowKit Go.G5
set_option maxHeartbeats 4000000 in
set_option maxRecDepth 100000 in
theorem covline_walk (w : World) (n0_0 : Int) (v0_1 : Value) (l0_1 : List Int) (_ : InR n0_0) (hv0_1 : Ints w v0_1 l0_1) (hp : Pow w) :
    Calls Tryd.prog 5 #[.agg #[.int .i64 n0_0, v0_1]] w fun e w' => e = .returned (.bool true) ∧ Below w.heap.size w w' := by
  obtain ⟨av0_1, cv0_1, rfl⟩ := hv0_1.shape
  go_enter Tryd.func5, Tryd.ntmps5
  go_wp2_with fail
  refine calls_named ?_
  intro V1 hV
  have B : Below w.heap.size w V1 := by rw [hV]; exact (by repeat (first | exact Below.refl _ _ | (with_reducible refine Below.setCell ?_ (by first | omega | (simp; done) | (simp; omega)) _) | (with_reducible refine Below.alloc ?_ (by first | omega | (simp; done) | (simp; omega)) _) | (with_reducible refine Below.drewN' ?_ _) | (with_reducible refine Below.drew ?_) | (with_reducible assumption) | refine Below.trans ?_ (Below.mono (by assumption) (by first | omega | (simp; done) | (simp; omega)))))
  have zV1 : w.heap.size + 1 ≤ V1.heap.size := by rw [hV]; (first | simp | omega)
  have K0 : Blk V1 (w.heap.size) 26 #[.int .i64 n0_0, .slice av0_1 l0_1.length cv0_1] := by rw [hV]; have := (Blk.new (w) 26 #[.int .i64 n0_0, .slice av0_1 l0_1.length cv0_1]); simpa using this
  clear hV
  refine (szFamily_c n0_0 _ l0_1 _ _ (hv0_1.below B (Nat.le_refl _)) (by omega) (by omega)).mono ?_
  rintro e W2 ⟨⟨s0, rfl, hs0⟩, hb⟩
  have zW2 : V1.heap.size ≤ W2.heap.size := hb.size
  have B1 := B.after hb B.size
  have K0x := K0.keep hb
  clear B K0
  have B := B1
  have K0 := K0x
  clear B1 K0x
  clear hb
  rcases hs0 with hs0 | ⟨g0_0, g0_1, hlv0_1'⟩
  · go_wp2
    go_ret
    exact ⟨rfl, B⟩
  have hlv0_1 : l0_1.length ≤ 1048576 := by omega
  have GK0 := K0.cell
  have ZK0 := K0.lt
  go_wp2_with fail
  clear GK0 ZK0
  refine calls_named ?_
  intro V3 hV
  have zV3 : W2.heap.size + 0 ≤ V3.heap.size := by rw [hV]; (first | exact Nat.le_refl _ | simp)
  have B1 : Below w.heap.size w V3 := by rw [hV]; first | exact B | exact B.alloc B.size _ | exact (B.alloc B.size _).alloc (by have := B.size; simp; omega) _
  have K0x : Blk V3 (w.heap.size) 26 #[.int .i64 n0_0, .slice av0_1 l0_1.length cv0_1] := by rw [hV]; first | exact K0 | exact K0.alloc _ | exact (K0.alloc _).alloc _
  clear B K0
  have B := B1
  have K0 := K0x
  clear B1 K0x
  clear hV
  refine (toFamily_any n0_0 _ l0_1 _ (hv0_1.below B (Nat.le_refl _)) hlv0_1).mono ?_
  rintro e W4 ⟨pwx00, iwx00, qwx00, rfl, owx00x, hb⟩
  have zW4 : V3.heap.size ≤ W4.heap.size := hb.size
  have B1 := B.after hb B.size
  have K0x := K0.keep hb
  clear B K0
  have B := B1
  have K0 := K0x
  clear B1 K0x
  clear hb
  have owx00 := owx00x.toW
  clear owx00x
  have r_wx00 := owx00.lt
  have GK0 := K0.cell
  have ZK0 := K0.lt
  go_wp2_with fail
  clear GK0 ZK0
  refine calls_named ?_
  intro V5 hV
  have zV5 : W4.heap.size + 0 ≤ V5.heap.size := by rw [hV]; (first | exact Nat.le_refl _ | simp)
  have B1 : Below w.heap.size w V5 := by rw [hV]; first | exact B | exact B.alloc B.size _ | exact (B.alloc B.size _).alloc (by have := B.size; simp; omega) _
  have K0x : Blk V5 (w.heap.size) 26 #[.int .i64 n0_0, .slice av0_1 l0_1.length cv0_1] := by rw [hV]; first | exact K0 | exact K0.alloc _ | exact (K0.alloc _).alloc _
  have owx00x : OwnW 3 V3.heap.size V5 (.slice pwx00 iwx00 qwx00) (l0_1) := by rw [hV]; first | exact owx00 | exact owx00.alloc _ | exact (owx00.alloc _).alloc _
  clear B K0 owx00
  have B := B1
  have K0 := K0x
  have owx00 := owx00x
  clear B1 K0x owx00x
  clear hV
  refine (covLineS_c _ n0_0 _ l0_1 owx00.ints hlv0_1).mono ?_
  rintro e W6 ⟨rfl, hb⟩
  have zW6 : V5.heap.size ≤ W6.heap.size := hb.size
  have B1 := B.after hb B.size
  have K0x := K0.keep hb
  clear B K0
  have B := B1
  have K0 := K0x
  clear B1 K0x
  clear hb
  clear owx00
  have GK0 := K0.cell
  have ZK0 := K0.lt
  go_wp2_with fail
  clear GK0 ZK0
  refine calls_named ?_
  intro V7 hV
  have zV7 : W6.heap.size + 0 ≤ V7.heap.size := by rw [hV]; (first | exact Nat.le_refl _ | simp)
  have B1 : Below w.heap.size w V7 := by rw [hV]; first | exact B | exact B.alloc B.size _ | exact (B.alloc B.size _).alloc (by have := B.size; simp; omega) _
  have K0x : Blk V7 (w.heap.size) 26 #[.int .i64 n0_0, .slice av0_1 l0_1.length cv0_1] := by rw [hV]; first | exact K0 | exact K0.alloc _ | exact (K0.alloc _).alloc _
  clear B K0
  have B := B1
  have K0 := K0x
  clear B1 K0x
  clear hV
  refine (toFamily_any n0_0 _ l0_1 _ (hv0_1.below B (Nat.le_refl _)) hlv0_1).mono ?_
  rintro e W8 ⟨px00, ix00, qx00, rfl, ox00x, hb⟩
  have zW8 : V7.heap.size ≤ W8.heap.size := hb.size
  have B1 := B.after hb B.size
  have K0x := K0.keep hb
  clear B K0
  have B := B1
  have K0 := K0x
  clear B1 K0x
  clear hb
  have ox00 := ox00x.toW
  clear ox00x
  have r_x00 := ox00.lt
  have GK0 := K0.cell
  have ZK0 := K0.lt
  go_wp2_with fail
  clear GK0 ZK0
  refine calls_named ?_
  intro V9 hV
  have zV9 : W8.heap.size + 1 ≤ V9.heap.size := by rw [hV]; (first | exact Nat.le_refl _ | simp)
  have B1 : Below w.heap.size w V9 := by rw [hV]; first | exact B | exact B.alloc B.size _ | exact (B.alloc B.size _).alloc (by have := B.size; simp; omega) _
  have K0x : Blk V9 (w.heap.size) 26 #[.int .i64 n0_0, .slice av0_1 l0_1.length cv0_1] := by rw [hV]; first | exact K0 | exact K0.alloc _ | exact (K0.alloc _).alloc _
  have ox00x : OwnW 3 V7.heap.size V9 (.slice px00 ix00 qx00) (l0_1) := by rw [hV]; first | exact ox00 | exact ox00.alloc _ | exact (ox00.alloc _).alloc _
  have K1x : Blk V9 (W8.heap.size) 32 #[.int .i64 n0_0, .slice px00 ix00 qx00] := by rw [hV]; exact Blk.new _ _ _
  clear B K0 ox00
  have B := B1
  have K0 := K0x
  have K1 := K1x
  have ox00 := ox00x
  clear B1 K0x K1x ox00x
  clear hV
  refine (covLineI_c _ n0_0 _ l0_1 ox00.ints hlv0_1 (hp.keep B)).mono ?_
  rintro e W10 ⟨rfl, hb⟩
  have zW10 : V9.heap.size ≤ W10.heap.size := hb.size
  have B1 := B.after hb B.size
  have K0x := K0.keep hb
  have K1x := K1.keep hb
  have ox00x := ox00.keep hb
  clear B K0 K1 ox00
  have B := B1
  have K0 := K0x
  have K1 := K1x
  have ox00 := ox00x
  clear B1 K0x K1x ox00x
  clear hb
  have GK0 := K0.cell
  have ZK0 := K0.lt
  have GK1 := K1.cell
  have ZK1 := K1.lt
  go_wp2_with fail
  clear GK0 ZK0 GK1 ZK1
  have yK0 := K0.lt
  have yK1 := K1.lt
  have GK0 := K0.cell
  have GK1 := K1.cell
  go_region_held3 (fun w' => (∀ i, w'.cell? ⟨w.heap.size, i, none⟩ = (#[.int .i64 n0_0, .slice av0_1 l0_1.length cv0_1] : Array Value)[i]?) ∧ (∀ i, w'.cell? ⟨W8.heap.size, i, none⟩ = (#[.int .i64 n0_0, .slice px00 ix00 qx00] : Array Value)[i]?)) (go_keep)
    (first
      | (go_at_call 20; refine (toFamily_any n0_0 _ l0_1 _ (hv0_1.below (B := w.heap.size) (by repeat (first | exact Below.refl _ _ | (with_reducible refine Below.setCell ?_ (by first | omega | (simp; done) | (simp; omega)) _) | (with_reducible refine Below.alloc ?_ (by first | omega | (simp; done) | (simp; omega)) _) | (with_reducible refine Below.drewN' ?_ _) | (with_reducible refine Below.drew ?_) | (with_reducible assumption) | refine Below.trans ?_ (Below.mono (by assumption) (by first | omega | (simp; done) | (simp; omega))))) (Nat.le_refl _)) hlv0_1).mono ?_; rintro e W11 ⟨pyW11x0, iyW11x0, qyW11x0, rfl, oyW11x0, hbW11⟩; obtain ⟨hchbW11, hfhbW11⟩ := bcellN hbW11 (W10.heap.size) (by first | omega | (simp; done) | (simp; omega)); have zhbW11 := hbW11.size; (try simp at zhbW11))
      | (go_at_call 22; refine (eqFamily_any _ _ _ _ _ _ _ ((ox00.drewN 1).below hbW11 (by first | omega | (simp; done) | (simp; omega))).ints oyW11x0.ints).mono ?_; rintro e W12 ⟨rfl, hbW12⟩; obtain ⟨hchbW12, hfhbW12⟩ := bcellN hbW12 (W10.heap.size) (by first | omega | (simp; done) | (simp; omega)); have zhbW12 := hbW12.size; (try simp at zhbW12))
    )
  have B1 : Below w.heap.size w W12 := (by repeat (first | exact Below.refl _ _ | (with_reducible refine Below.setCell ?_ (by first | omega | (simp; done) | (simp; omega)) _) | (with_reducible refine Below.alloc ?_ (by first | omega | (simp; done) | (simp; omega)) _) | (with_reducible refine Below.drewN' ?_ _) | (with_reducible refine Below.drew ?_) | (with_reducible assumption) | refine Below.trans ?_ (Below.mono (by assumption) (by first | omega | (simp; done) | (simp; omega)))))
  have zzW12 : W10.heap.size ≤ W12.heap.size := by omega
  have K0x : Blk W12 (w.heap.size) 26 #[.int .i64 n0_0, .slice av0_1 l0_1.length cv0_1] := (((K0.drewN 1).keep hbW11).keep hbW12)
  have K1x : Blk W12 (W8.heap.size) 32 #[.int .i64 n0_0, .slice px00 ix00 qx00] := (((K1.drewN 1).keep hbW11).keep hbW12)
  have ox00x : OwnW 3 V7.heap.size W12 (.slice px00 ix00 qx00) (l0_1) := (((ox00.drewN 1).keep hbW11).keep hbW12)
  clear B K0 K1 ox00 GK0 GK1 yK0 yK1 hchbW11 hfhbW11 hchbW12 hfhbW12
  have B := B1
  have K0 := K0x
  have K1 := K1x
  have ox00 := ox00x
  clear B1 K0x K1x ox00x
  try simp only [decide_true, Bool.and_self]
  have GK0 := K0.cell
  have ZK0 := K0.lt
  have GK1 := K1.cell
  have ZK1 := K1.lt
  go_wp2
  go_ret
  exact ⟨rfl, B⟩

theorem fnExactCoverLine_params : Tryd.f5.params = #[26] := by kernel_rfl
theorem fnExactCoverLine_door (os : Os) (args : Array Value) : laidMetH Tryd.prog Rows.fnExactCoverLineRow.laid ((World.doorLaid Tryd.prog 24 os).forCall (fun _ _ => 0) ⟨#[], args, []⟩).memory := by
  rw [MakeChecks.laidMetH_plain _ _ _ (by kernel_rfl)]
  exact laidMet_of_run' 8 (by kernel_rfl) (by kernel_rfl)
theorem fnExactCoverLine_pow {W : World} (h : laidMetH Tryd.prog Rows.fnExactCoverLineRow.laid W) : Pow W := by
  rw [MakeChecks.laidMetH_plain _ _ _ (by kernel_rfl)] at h
  exact pow_of_third h
set_option maxRecDepth 100000 in
theorem fnExactCoverLine_lifted (os : Os) (started : os.Started) (H : Type) (enc : TypeId × Value → H) :
    ReturnsInHanded {} Tryd.checked os 5 .any (fun w args => (Rows.fnExactCoverLineSpec.pre enc Tryd.prog Tryd.f5 Rows.fnExactCoverLineRow.domain false w args ∧ laidMetH Tryd.prog Rows.fnExactCoverLineRow.laid w) ∧ sizedMet enc Tryd.prog Tryd.f5 (OpenSpec.ofChange Rows.fnExactCoverLineSpec) false w args) (Rows.fnExactCoverLineSpec.post enc Tryd.prog Tryd.f5 false true false false) := by
  refine law_lift_laid Rows.fnExactCoverLineRow.laid os started H enc Tryd.func5 (by kernel_rfl) rfl (by kernel_rfl) (by kernel_rfl) ?_
    (ChangeSpec.witness_shaped (enc := enc) (C := Tryd.checked) (os := os) (X := fun w _ => laidMetH Tryd.prog Rows.fnExactCoverLineRow.laid w) false (World.doorLaid Tryd.prog 24 os) #[.agg #[.int .i64 0, .slice none 0 0]] 8 rfl (World.shaped_of_RefB (by kernel_rfl) (by kernel_rfl)) (by kernel_rfl) (by kernel_rfl) (by kernel_rfl) (fnExactCoverLine_door os _)) ?_
  · intro ds hds
    rw [fnExactCoverLine_params] at hds
    match ds, hds with
    | [d0], _ => rfl
  · intro W base args ds p hval hA hL
    rw [fnExactCoverLine_params] at hA hval
    obtain ⟨v0, vs0, d0, ds0, p0, q0, hargs, rfl, rfl, h0, r0⟩ := trodAll_cons hA
    obtain ⟨rfl, rfl, rfl⟩ := trodAll_nil r0
    obtain rfl : args = #[v0] := by cases args; simp_all
    obtain ⟨n0, u0, l0, rfl, w0, x0⟩ := rd_fam (hval 0 26 v0 rfl rfl) h0
    exact covline_walk W n0 u0 l0 w0 x0 (fnExactCoverLine_pow hL)

theorem fnExactCoverLine_holds : Rows.FnExactCoverLineSaid :=
  OpenClaim.holds_of_wide 5 Tryd.f5 rfl rfl rfl rfl rfl rfl rfl ⟨rfl, rfl, rfl, rfl, rfl⟩ rfl rfl rfl rfl rfl (by kernel_rfl) Tryd.func5 (by kernel_rfl)
    (of_decide_eq_true (by kernel_rfl)) (by unfold Func.isWrapper; first | (rw [if_pos (by decide +kernel)]; kernel_rfl) | (rw [if_neg (by decide +kernel)]; exact ⟨rfl, rfl⟩))
    (fun os started H enc _ => fnExactCoverLine_lifted os started H enc)

theorem fnExactCoverLine_card : Rows.FnExactCoverLineCardSaid :=
  Claim7.holds_tied_plain_at .later [] [.data, .data, .data] true _ false
    fnExactCoverLine_holds (fun _ h => by cases h) (by kernel_rfl) (fun _ h => by cases h) fnExactCoverLine_row_tie rfl ⟨rfl, rfl⟩ (by kernel_rfl) rfl
    (fun f fn hf hfn => by
      obtain rfl : f = 5 := Option.some.inj ((show Tryd.prog.funcNamed "loop.example/g03405/laws.FnExactCoverLine" = some 5 by kernel_rfl).symm.trans hf) |>.symm
      obtain rfl : fn = Tryd.f5 := (Option.some.inj (Tryd.func5.symm.trans hfn)).symm
      exact ⟨by kernel_rfl, fun j t ht => by
        rw [fnExactCoverLine_params] at ht
        have hm : t ∈ [26] := by simpa using Array.mem_of_getElem? ht
        have hall : ([26].all fun u => !Tryd.prog.wantsStandIn u) = true := by kernel_rfl
        exact (show Tryd.prog.wantsStandIn t = false by simpa using List.all_eq_true.1 hall t hm)⟩)
    (by kernel_rfl)
end Go.Proofs.YtpaoiiiceekkkaaDoor
end
