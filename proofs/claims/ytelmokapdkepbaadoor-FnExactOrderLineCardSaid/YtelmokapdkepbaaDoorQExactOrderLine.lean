/- The line of orders: the second program. The statement FnExactOrderLine: for every input the call returns true and each argument reads as it did. No condition. -/
import Derived.Test.YtelmokapdkepbaaDoorQ39
import Derived.Deep.DeepCutAuto
import Derived.Deep.RegionHeld3
import Derived.Test.YtelmokapdkepbaaDoorCards
import Derived.Test.YtelmokapdkepbaaDoorTie
import Derived.SevenTiedAt
section
namespace Go.Proofs.YtelmokapdkepbaaDoor
open Go.RowKit Go.G5

set_option maxHeartbeats 8000000 in
set_option maxRecDepth 100000 in
theorem olLineS_c (w : World) (g : Int) (v : Value) (l : List Int) (hv : Ints w v l) (hl : l.length ≤ 1048576) :
    Calls Tryd.prog 5 #[.agg #[.int .i64 g, v]] w fun e w' => e = .returned (.string (olLn g l)) ∧ Below w.heap.size w w' := by
  have hv0 := hv
  obtain ⟨a, c, rfl⟩ := hv.shape
  have K0 := Blk.new w 27 #[.int .i64 g, .slice a l.length c]
  cases hf : isFamB g l with
  | false =>
    have HX := Lib.hid (olLn_no hf)
    have HF := Lib.hid hf
    clear hf
    go_enter Tryd.func5, Tryd.ntmps5
    go_wp2_with fail
    refine (isFamS_any g l _ _ (hv0.alloc _)).mono ?_
    rintro e w1 ⟨rfl, b1⟩
    rw [HF.out]
    go_wp2
    go_ret
    exact ⟨ret_str HX.out.symm, (bl1 _ _).after b1 (by simp)⟩
  | true =>
    have hcl := chL_len g l
    have hll := levels_len g l
    have hil := (ivL_facts g l).1
    have hla : laB g l = true → laN g l = g := fun h => (laB_yes h).1
    have hlc := fun (W : World) (h : Ints W (.slice a l.length c) l) => chainS_c W g _ l h
    have hlv := fun (W : World) (h : Ints W (.slice a l.length c) l) => levS_c W g _ l h
    have hac := fun (W : World) (h : Ints W (.slice a l.length c) l) => acmaxS_c W g _ l h
    have hiv := fun (W : World) (h : Ints W (.slice a l.length c) l) => ivS_c W g _ l h
    have hsu := fun (W : World) (h : Ints W (.slice a l.length c) l) => findSunS_c W g _ l h hl 3 ⟨by omega, by omega⟩
    have hke := fun (W : World) (v : Value) (h : Ints W v (sunL g l 3)) => kernelS_any (sunL g l 3) v W h
    have h1 := fun W : World => fmtS_any ((chL g l).length : Int) ⟨by omega, by omega⟩ W
    have h2 := fun W : World => fmtS_any ((levels g l).length : Int) ⟨by omega, by omega⟩ W
    have h3 := fun (W : World) (v : Value) (h : Ints W v (laL g l)) => fmtFamS_any g (laL g l) v W h
    have h4 := fun (W : World) (v : Value) (h : Ints W v (ivL g l)) => numS_any (ivL g l) v W h (by omega)
    have h5 := fun (W : World) => fmtSetS_any g (kerN (sunL g l 3)) W
    have s1 := itoaB_size ((chL g l).length : Int) ⟨by omega, by omega⟩
    have s2 := itoaB_size ((levels g l).length : Int) ⟨by omega, by omega⟩
    have s3 := famTx_size g (laL g l)
    have s4 := ivNum_size g l
    have s5 := setTx_size g (kerN (sunL g l 3))
    have hx1 : olAT (itoaB ((chL g l).length : Int)) (itoaB ((levels g l).length : Int)) = olT1 g l := rfl
    have hx2 : olBT (⟨#[97, 110, 116, 105, 99, 104, 97, 105, 110]⟩ : ByteArray) (laB g l) (olT1 g l) (famTx g (laL g l)) = olT2 g l := rfl
    have hx3 : olBT (⟨#[105, 110, 116, 101, 114, 118, 97, 108, 115]⟩ : ByteArray) (ivB g l) (olT2 g l) (numB (ivL g l)) = olT3 g l := rfl
    have hx4 : olBT (⟨#[115, 117, 110, 102, 108, 111, 119, 101, 114]⟩ : ByteArray) (sunB g l 3) (olT3 g l) (setTx g (kerN (sunL g l 3))) = olLn g l := (olLn_yes hf).symm
    have z1 := olT1_size g l
    have z2 := olT2_size g l
    have z3 := olT3_size g l
    obtain ⟨bA, hbA⟩ : ∃ b, b = laB g l := ⟨_, rfl⟩
    obtain ⟨bI, hbI⟩ : ∃ b, b = ivB g l := ⟨_, rfl⟩
    obtain ⟨bS, hbS⟩ : ∃ b, b = sunB g l 3 := ⟨_, rfl⟩
    rw [← hbA] at hla hx2
    rw [← hbI] at hx3
    rw [← hbS] at hx4
    simp only [hf] at hlc hlv
    simp only [← hbA] at hac
    simp only [← hbI] at hiv
    simp only [← hbS] at hsu
    obtain ⟨N0, hN0⟩ : ∃ N, N = laN g l := ⟨_, rfl⟩
    simp only [← hN0] at hac hla
    obtain ⟨A1, hA1⟩ : ∃ N, N = itoaB ((chL g l).length : Int) := ⟨_, rfl⟩
    obtain ⟨A2, hA2⟩ : ∃ N, N = itoaB ((levels g l).length : Int) := ⟨_, rfl⟩
    obtain ⟨A3, hA3⟩ : ∃ N, N = famTx g (laL g l) := ⟨_, rfl⟩
    obtain ⟨A4, hA4⟩ : ∃ N, N = numB (ivL g l) := ⟨_, rfl⟩
    obtain ⟨A5, hA5⟩ : ∃ N, N = setTx g (kerN (sunL g l 3)) := ⟨_, rfl⟩
    obtain ⟨T1, hT1⟩ : ∃ N, N = olT1 g l := ⟨_, rfl⟩
    obtain ⟨T2, hT2⟩ : ∃ N, N = olT2 g l := ⟨_, rfl⟩
    obtain ⟨T3, hT3⟩ : ∃ N, N = olT3 g l := ⟨_, rfl⟩
    obtain ⟨K3, hK3⟩ : ∃ N, N = kerN (sunL g l 3) := ⟨_, rfl⟩
    rw [← hA1, ← hA2, ← hT1] at hx1
    rw [← hA3, ← hT1, ← hT2] at hx2
    rw [← hA4, ← hT2, ← hT3] at hx3
    rw [← hA5, ← hT3] at hx4
    rw [← hA1] at s1
    rw [← hA2] at s2
    rw [← hA3] at s3
    rw [← hA4] at s4
    rw [← hA5] at s5
    rw [← hT1] at z1
    rw [← hT2] at z2
    rw [← hT3] at z3
    simp only [← hA1] at h1
    simp only [← hA2] at h2
    simp only [← hA3] at h3
    simp only [← hA4] at h4
    simp only [← hA5] at h5
    simp only [← hK3] at hke h5
    have HX1 := Lib.hid hx1
    have HX2 := Lib.hid hx2
    have HX3 := Lib.hid hx3
    have HX4 := Lib.hid hx4
    have H1 := Lib.hid h1
    have H2 := Lib.hid h2
    have H3 := Lib.hid h3
    have H4 := Lib.hid h4
    have H5 := Lib.hid h5
    have HF := Lib.hid hf
    have HLA := Lib.hid hla
    have HLC := Lib.hid hlc
    have HLV := Lib.hid hlv
    have HAC := Lib.hid hac
    have HIV := Lib.hid hiv
    have HSU := Lib.hid hsu
    have HKE := Lib.hid hke
    clear hx1 hx2 hx3 hx4 h1 h2 h3 h4 h5 hf hla hlc hlv hac hiv hsu hke hbA hbI hbS hN0 hA1 hA2 hA3 hA4 hA5 hT1 hT2 hT3 hK3
    have e1 : (⟨#[111, 114, 100, 101, 114, 32, 99, 104, 97, 105, 110, 32]⟩ : ByteArray).size = 12 := rfl
    have e2 : (⟨#[32, 108, 101, 118, 101, 108, 115, 32]⟩ : ByteArray).size = 8 := rfl
    have e3 : (⟨#[32, 97, 110, 116, 105, 99, 104, 97, 105, 110, 32]⟩ : ByteArray).size = 11 := rfl
    have e4 : (⟨#[32, 105, 110, 116, 101, 114, 118, 97, 108, 115, 32]⟩ : ByteArray).size = 11 := rfl
    have e5 : (⟨#[32, 115, 117, 110, 102, 108, 111, 119, 101, 114, 32]⟩ : ByteArray).size = 11 := rfl
    go_enter Tryd.func5, Tryd.ntmps5
    go_wp2_with fail
    refine (isFamS_any g l _ _ (hv0.alloc _)).mono ?_
    rintro e w0 ⟨rfl, b1⟩
    rw [HF.out]
    have B : Below w.heap.size w w0 := (bl1 _ _).after b1 (by simp)
    have K := K0.keep b1
    clear K0 b1
    have G := K.cell
    go_wp2_with fail
    refine (HLC.out _ (hv0.below B (Nat.le_refl _))).mono ?_
    rintro e w1 ⟨pC, iC, qC, rfl, oC, b2⟩
    have hiC : iC = (chL g l).length := oC.ints.capLe.1
    subst hiC
    have Ba := B.after b2 B.size
    have Ka := K.keep b2
    clear B K G b2 oC
    have G := Ka.cell
    go_wp2_with fail
    refine (HLV.out _ (hv0.below Ba (Nat.le_refl _))).mono ?_
    rintro e w2 ⟨pL, qL, rfl, oL, b2⟩
    have B := Ba.after b2 Ba.size
    have K := Ka.keep b2
    clear Ba Ka G b2 oL
    go_wp2_with fail
    refine (H1.out w2).mono ?_
    rintro e w3 ⟨rfl, b3⟩
    have Ba := B.after b3 B.size
    have Ka := K.keep b3
    clear B K b3
    go_wp2_with fail
    refine (H2.out w3).mono ?_
    rintro e w4 ⟨rfl, b3⟩
    have B := Ba.after b3 Ba.size
    have K := Ka.keep b3
    clear Ba Ka b3
    have hx := HX1.out
    unfold olAT at hx
    have G := K.cell
    have HXX := Lib.hid hx
    clear hx
    go_wp2_with fail
    refine (HAC.out _ (hv0.below B (Nat.le_refl _))).mono ?_
    rintro e w5 ⟨pA, iA, qA, rfl, hA, b3⟩
    have hiA : iA = (laL g l).length := hA.capLe.1
    subst hiA
    have Ba := B.after b3 B.size
    have Ka := K.keep b3
    clear B K b3 G
    go_upto_if 43 with fail
    go_cut [7] (fun v wx => v = .string T2 ∧ Below w5.heap.size w5 wx)
    case rest =>
      obtain ⟨rfl, b3⟩ := hcut
      have B := Ba.after b3 Ba.size
      have K := Ka.keep b3
      clear Ba Ka b3 hA
      have G := K.cell
      go_wp2_with fail
      refine (HIV.out _ (hv0.below B (Nat.le_refl _))).mono ?_
      rintro e w6 ⟨pI, iI, qI, rfl, oI, b3⟩
      have Ba := B.after b3 B.size
      have Ka := K.keep b3
      clear B K b3 G
      go_upto_if 54 with fail
      go_cut [7] (fun v wx => v = .string T3 ∧ Below w6.heap.size w6 wx)
      case rest =>
        obtain ⟨rfl, b3⟩ := hcut
        have B := Ba.after b3 Ba.size
        have K := Ka.keep b3
        clear Ba Ka b3 oI
        have G := K.cell
        go_wp2_with fail
        refine (HSU.out _ (hv0.below B (Nat.le_refl _))).mono ?_
        rintro e w7 ⟨pS, iS, qS, rfl, oS, b3⟩
        have Ba := B.after b3 B.size
        have Ka := K.keep b3
        clear B K b3 G
        cases bS with
        | false =>
          have hx : T3 = olLn g l := HX4.out
          have HX := Lib.hid hx
          clear hx
          go_wp2
          go_ret
          exact ⟨ret_str HX.out, Ba⟩
        | true =>
          have hx : T3 ++ (⟨#[32, 115, 117, 110, 102, 108, 111, 119, 101, 114, 32]⟩ : ByteArray) ++ A5 = olLn g l := by rw [← sp_sunflower]; exact HX4.out
          have HX := Lib.hid hx
          clear hx
          go_wp2_with fail
          refine (HKE.out _ _ oS.ints).mono ?_
          rintro e w8 ⟨rfl, b3⟩
          have B := Ba.after b3 Ba.size
          have K := Ka.keep b3
          clear Ba Ka b3
          have G := K.cell
          go_wp2_with fail
          refine (H5.out w8).mono ?_
          rintro e w9 ⟨rfl, b3⟩
          have Ba := B.after b3 B.size
          clear B K b3 G
          go_wp2
          go_ret
          exact ⟨ret_str HX.out, Ba⟩
      case first =>
        cases bI with
        | false =>
          have hx : T2 = T3 := HX3.out
          have HX := Lib.hid hx
          clear hx
          go_wp2_with fail
          go_meet
          exact ⟨by rw [HX.out], Below.refl _ _⟩
        | true =>
          have hx : T2 ++ (⟨#[32, 105, 110, 116, 101, 114, 118, 97, 108, 115, 32]⟩ : ByteArray) ++ A4 = T3 := by rw [← sp_intervals]; exact HX3.out
          have HX := Lib.hid hx
          clear hx
          go_wp2_with fail
          refine (H4.out w6 _ oI.ints).mono ?_
          rintro e w8 ⟨rfl, b3⟩
          go_wp2_with fail
          go_meet
          exact ⟨by rw [HX.out], b3⟩
    case first =>
      cases bA with
      | false =>
        have hx : T1 = T2 := HX2.out
        have HX := Lib.hid hx
        clear hx
        go_wp2_with fail
        go_meet
        exact ⟨by rw [HXX.out, HX.out], bl1 _ _⟩
      | true =>
        have hn0 := (HLA.out rfl).symm
        subst hn0
        have hx : T1 ++ (⟨#[32, 97, 110, 116, 105, 99, 104, 97, 105, 110, 32]⟩ : ByteArray) ++ A3 = T2 := by rw [← sp_antichain]; exact HX2.out
        have HX := Lib.hid hx
        clear hx
        go_wp2_with fail
        refine (H3.out _ _ (hA.alloc _)).mono ?_
        rintro e w8 ⟨rfl, b3⟩
        go_wp2_with fail
        go_meet
        exact ⟨by rw [HXX.out, HX.out], (bl1 _ _).after b3 (by simp)⟩
end Go.Proofs.YtelmokapdkepbaaDoor
end
section
namespace Go.Proofs.YtelmokapdkepbaaDoor
open Go.ChangeShapes Go.WideShapes Go.ChangeAt Go.RowKit Go.G5
set_option maxHeartbeats 4000000 in
set_option maxRecDepth 100000 in
theorem olline_walk (w : World) (n0_0 : Int) (v0_1 : Value) (l0_1 : List Int) (_ : InR n0_0) (hv0_1 : Ints w v0_1 l0_1) (hp : Pow w) :
    Calls Tryd.prog 3 #[.agg #[.int .i64 n0_0, v0_1]] w fun e w' => e = .returned (.bool true) ∧ Below w.heap.size w w' := by
  obtain ⟨av0_1, cv0_1, rfl⟩ := hv0_1.shape
  go_enter Tryd.func3, Tryd.ntmps3
  go_wp2_with fail
  refine calls_named ?_
  intro V1 hV
  have B : Below w.heap.size w V1 := by rw [hV]; exact (by repeat (first | exact Below.refl _ _ | (with_reducible refine Below.setCell ?_ (by first | omega | (simp; done) | (simp; omega)) _) | (with_reducible refine Below.alloc ?_ (by first | omega | (simp; done) | (simp; omega)) _) | (with_reducible refine Below.drewN' ?_ _) | (with_reducible refine Below.drew ?_) | (with_reducible assumption) | refine Below.trans ?_ (Below.mono (by assumption) (by first | omega | (simp; done) | (simp; omega)))))
  have zV1 : w.heap.size + 1 ≤ V1.heap.size := by rw [hV]; (first | simp | omega)
  have K0 : Blk V1 (w.heap.size) 24 #[.int .i64 n0_0, .slice av0_1 l0_1.length cv0_1] := by rw [hV]; have := (Blk.new (w) 24 #[.int .i64 n0_0, .slice av0_1 l0_1.length cv0_1]); simpa using this
  clear hV
  refine (szFamily_c n0_0 _ l0_1 _ _ (hv0_1.below B (Nat.le_refl _)) (by omega) (by omega)).mono ?_
  rintro e W2 ⟨⟨s0, rfl, hs0⟩, hb⟩
  have zW2 : V1.heap.size ≤ W2.heap.size := hb.size
  have B1 := B.after hb B.size
  have K0x := K0.keep hb
  clear B K0
  have B := B1
  have K0 := K0x
  clear B1 K0x
  clear hb
  rcases hs0 with hs0 | ⟨g0_0, g0_1, hlv0_1'⟩
  · go_wp2
    go_ret
    exact ⟨rfl, B⟩
  have hlv0_1 : l0_1.length ≤ 1048576 := by omega
  have GK0 := K0.cell
  have ZK0 := K0.lt
  go_wp2_with fail
  clear GK0 ZK0
  refine calls_named ?_
  intro V3 hV
  have zV3 : W2.heap.size + 0 ≤ V3.heap.size := by rw [hV]; (first | exact Nat.le_refl _ | simp)
  have B1 : Below w.heap.size w V3 := by rw [hV]; first | exact B | exact B.alloc B.size _ | exact (B.alloc B.size _).alloc (by have := B.size; simp; omega) _
  have K0x : Blk V3 (w.heap.size) 24 #[.int .i64 n0_0, .slice av0_1 l0_1.length cv0_1] := by rw [hV]; first | exact K0 | exact K0.alloc _ | exact (K0.alloc _).alloc _
  clear B K0
  have B := B1
  have K0 := K0x
  clear B1 K0x
  clear hV
  refine (toFamily_any n0_0 _ l0_1 _ (hv0_1.below B (Nat.le_refl _)) hlv0_1).mono ?_
  rintro e W4 ⟨pwx00, iwx00, qwx00, rfl, owx00x, hb⟩
  have zW4 : V3.heap.size ≤ W4.heap.size := hb.size
  have B1 := B.after hb B.size
  have K0x := K0.keep hb
  clear B K0
  have B := B1
  have K0 := K0x
  clear B1 K0x
  clear hb
  have owx00 := owx00x.toW
  clear owx00x
  have r_wx00 := owx00.lt
  have GK0 := K0.cell
  have ZK0 := K0.lt
  go_wp2_with fail
  clear GK0 ZK0
  refine calls_named ?_
  intro V5 hV
  have zV5 : W4.heap.size + 0 ≤ V5.heap.size := by rw [hV]; (first | exact Nat.le_refl _ | simp)
  have B1 : Below w.heap.size w V5 := by rw [hV]; first | exact B | exact B.alloc B.size _ | exact (B.alloc B.size _).alloc (by have := B.size; simp; omega) _
  have K0x : Blk V5 (w.heap.size) 24 #[.int .i64 n0_0, .slice av0_1 l0_1.length cv0_1] := by rw [hV]; first | exact K0 | exact K0.alloc _ | exact (K0.alloc _).alloc _
  have owx00x : OwnW 3 V3.heap.size V5 (.slice pwx00 iwx00 qwx00) (l0_1) := by rw [hV]; first | exact owx00 | exact owx00.alloc _ | exact (owx00.alloc _).alloc _
  clear B K0 owx00
  have B := B1
  have K0 := K0x
  have owx00 := owx00x
  clear B1 K0x owx00x
  clear hV
  refine (olLineS_c _ n0_0 _ l0_1 owx00.ints hlv0_1).mono ?_
  rintro e W6 ⟨rfl, hb⟩
  have zW6 : V5.heap.size ≤ W6.heap.size := hb.size
  have B1 := B.after hb B.size
  have K0x := K0.keep hb
  clear B K0
  have B := B1
  have K0 := K0x
  clear B1 K0x
  clear hb
  clear owx00
  have GK0 := K0.cell
  have ZK0 := K0.lt
  go_wp2_with fail
  clear GK0 ZK0
  refine calls_named ?_
  intro V7 hV
  have zV7 : W6.heap.size + 0 ≤ V7.heap.size := by rw [hV]; (first | exact Nat.le_refl _ | simp)
  have B1 : Below w.heap.size w V7 := by rw [hV]; first | exact B | exact B.alloc B.size _ | exact (B.alloc B.size _).alloc (by have := B.size; simp; omega) _
  have K0x : Blk V7 (w.heap.size) 24 #[.int .i64 n0_0, .slice av0_1 l0_1.length cv0_1] := by rw [hV]; first | exact K0 | exact K0.alloc _ | exact (K0.alloc _).alloc _
  clear B K0
  have B := B1
  have K0 := K0x
  clear B1 K0x
  clear hV
  refine (toFamily_any n0_0 _ l0_1 _ (hv0_1.below B (Nat.le_refl _)) hlv0_1).mono ?_
  rintro e W8 ⟨px00, ix00, qx00, rfl, ox00x, hb⟩
  have zW8 : V7.heap.size ≤ W8.heap.size := hb.size
  have B1 := B.after hb B.size
  have K0x := K0.keep hb
  clear B K0
  have B := B1
  have K0 := K0x
  clear B1 K0x
  clear hb
  have ox00 := ox00x.toW
  clear ox00x
  have r_x00 := ox00.lt
  have GK0 := K0.cell
  have ZK0 := K0.lt
  go_wp2_with fail
  clear GK0 ZK0
  refine calls_named ?_
  intro V9 hV
  have zV9 : W8.heap.size + 1 ≤ V9.heap.size := by rw [hV]; (first | exact Nat.le_refl _ | simp)
  have B1 : Below w.heap.size w V9 := by rw [hV]; first | exact B | exact B.alloc B.size _ | exact (B.alloc B.size _).alloc (by have := B.size; simp; omega) _
  have K0x : Blk V9 (w.heap.size) 24 #[.int .i64 n0_0, .slice av0_1 l0_1.length cv0_1] := by rw [hV]; first | exact K0 | exact K0.alloc _ | exact (K0.alloc _).alloc _
  have ox00x : OwnW 3 V7.heap.size V9 (.slice px00 ix00 qx00) (l0_1) := by rw [hV]; first | exact ox00 | exact ox00.alloc _ | exact (ox00.alloc _).alloc _
  have K1x : Blk V9 (W8.heap.size) 27 #[.int .i64 n0_0, .slice px00 ix00 qx00] := by rw [hV]; exact Blk.new _ _ _
  clear B K0 ox00
  have B := B1
  have K0 := K0x
  have K1 := K1x
  have ox00 := ox00x
  clear B1 K0x K1x ox00x
  clear hV
  refine (olLineI_c _ n0_0 _ l0_1 ox00.ints hlv0_1 (hp.keep B)).mono ?_
  rintro e W10 ⟨rfl, hb⟩
  have zW10 : V9.heap.size ≤ W10.heap.size := hb.size
  have B1 := B.after hb B.size
  have K0x := K0.keep hb
  have K1x := K1.keep hb
  have ox00x := ox00.keep hb
  clear B K0 K1 ox00
  have B := B1
  have K0 := K0x
  have K1 := K1x
  have ox00 := ox00x
  clear B1 K0x K1x ox00x
  clear hb
  have GK0 := K0.cell
  have ZK0 := K0.lt
  have GK1 := K1.cell
  have ZK1 := K1.lt
  go_wp2_with fail
  clear GK0 ZK0 GK1 ZK1
  have yK0 := K0.lt
  have yK1 := K1.lt
  have GK0 := K0.cell
  have GK1 := K1.cell
  go_region_held3 (fun w' => (∀ i, w'.cell? ⟨w.heap.size, i, none⟩ = (#[.int .i64 n0_0, .slice av0_1 l0_1.length cv0_1] : Array Value)[i]?) ∧ (∀ i, w'.cell? ⟨W8.heap.size, i, none⟩ = (#[.int .i64 n0_0, .slice px00 ix00 qx00] : Array Value)[i]?)) (go_keep)
    (first
      | (go_at_call 6; refine (toFamily_any n0_0 _ l0_1 _ (hv0_1.below (B := w.heap.size) (by repeat (first | exact Below.refl _ _ | (with_reducible refine Below.setCell ?_ (by first | omega | (simp; done) | (simp; omega)) _) | (with_reducible refine Below.alloc ?_ (by first | omega | (simp; done) | (simp; omega)) _) | (with_reducible refine Below.drewN' ?_ _) | (with_reducible refine Below.drew ?_) | (with_reducible assumption) | refine Below.trans ?_ (Below.mono (by assumption) (by first | omega | (simp; done) | (simp; omega))))) (Nat.le_refl _)) hlv0_1).mono ?_; rintro e W11 ⟨pyW11x0, iyW11x0, qyW11x0, rfl, oyW11x0, hbW11⟩; obtain ⟨hchbW11, hfhbW11⟩ := bcellN hbW11 (W10.heap.size) (by first | omega | (simp; done) | (simp; omega)); have zhbW11 := hbW11.size; (try simp at zhbW11))
      | (go_at_call 8; refine (eqFamily_any _ _ _ _ _ _ _ ((ox00.drewN 1).below hbW11 (by first | omega | (simp; done) | (simp; omega))).ints oyW11x0.ints).mono ?_; rintro e W12 ⟨rfl, hbW12⟩; obtain ⟨hchbW12, hfhbW12⟩ := bcellN hbW12 (W10.heap.size) (by first | omega | (simp; done) | (simp; omega)); have zhbW12 := hbW12.size; (try simp at zhbW12))
    )
  have B1 : Below w.heap.size w W12 := (by repeat (first | exact Below.refl _ _ | (with_reducible refine Below.setCell ?_ (by first | omega | (simp; done) | (simp; omega)) _) | (with_reducible refine Below.alloc ?_ (by first | omega | (simp; done) | (simp; omega)) _) | (with_reducible refine Below.drewN' ?_ _) | (with_reducible refine Below.drew ?_) | (with_reducible assumption) | refine Below.trans ?_ (Below.mono (by assumption) (by first | omega | (simp; done) | (simp; omega)))))
  have zzW12 : W10.heap.size ≤ W12.heap.size := by omega
  have K0x : Blk W12 (w.heap.size) 24 #[.int .i64 n0_0, .slice av0_1 l0_1.length cv0_1] := (((K0.drewN 1).keep hbW11).keep hbW12)
  have K1x : Blk W12 (W8.heap.size) 27 #[.int .i64 n0_0, .slice px00 ix00 qx00] := (((K1.drewN 1).keep hbW11).keep hbW12)
  have ox00x : OwnW 3 V7.heap.size W12 (.slice px00 ix00 qx00) (l0_1) := (((ox00.drewN 1).keep hbW11).keep hbW12)
  clear B K0 K1 ox00 GK0 GK1 yK0 yK1 hchbW11 hfhbW11 hchbW12 hfhbW12
  have B := B1
  have K0 := K0x
  have K1 := K1x
  have ox00 := ox00x
  clear B1 K0x K1x ox00x
  try simp only [decide_true, Bool.and_self]
  have GK0 := K0.cell
  have ZK0 := K0.lt
  have GK1 := K1.cell
  have ZK1 := K1.lt
  go_wp2
  go_ret
  exact ⟨rfl, B⟩

theorem fnExactOrderLine_params : Tryd.f3.params = #[24] := by kernel_rfl
theorem fnExactOrderLine_door (os : Os) (args : Array Value) : laidMetH Tryd.prog Rows.fnExactOrderLineRow.laid ((World.doorLaid Tryd.prog 24 os).forCall (fun _ _ => 0) ⟨#[], args, []⟩).memory := by
  rw [MakeChecks.laidMetH_plain _ _ _ (by kernel_rfl)]
  exact laidMet_of_run' 8 (by kernel_rfl) (by kernel_rfl)
theorem fnExactOrderLine_pow {W : World} (h : laidMetH Tryd.prog Rows.fnExactOrderLineRow.laid W) : Pow W := by
  rw [MakeChecks.laidMetH_plain _ _ _ (by kernel_rfl)] at h
  exact pow_of_third h
set_option maxRecDepth 100000 in
theorem fnExactOrderLine_lifted (os : Os) (started : os.Started) (H : Type) (enc : TypeId × Value → H) :
    ReturnsInHanded {} Tryd.checked os 3 .any (fun w args => (Rows.fnExactOrderLineSpec.pre enc Tryd.prog Tryd.f3 Rows.fnExactOrderLineRow.domain false w args ∧ laidMetH Tryd.prog Rows.fnExactOrderLineRow.laid w) ∧ sizedMet enc Tryd.prog Tryd.f3 (OpenSpec.ofChange Rows.fnExactOrderLineSpec) false w args) (Rows.fnExactOrderLineSpec.post enc Tryd.prog Tryd.f3 false true false false) := by
  refine law_lift_laid Rows.fnExactOrderLineRow.laid os started H enc Tryd.func3 (by kernel_rfl) rfl (by kernel_rfl) (by kernel_rfl) ?_
    (ChangeSpec.witness_shaped (enc := enc) (C := Tryd.checked) (os := os) (X := fun w _ => laidMetH Tryd.prog Rows.fnExactOrderLineRow.laid w) false (World.doorLaid Tryd.prog 24 os) #[.agg #[.int .i64 0, .slice none 0 0]] 8 rfl (World.shaped_of_RefB (by kernel_rfl) (by kernel_rfl)) (by kernel_rfl) (by kernel_rfl) (by kernel_rfl) (fnExactOrderLine_door os _)) ?_
  · intro ds hds
    rw [fnExactOrderLine_params] at hds
    match ds, hds with
    | [d0], _ => rfl
  · intro W base args ds p hval hA hL
    rw [fnExactOrderLine_params] at hA hval
    obtain ⟨v0, vs0, d0, ds0, p0, q0, hargs, rfl, rfl, h0, r0⟩ := trodAll_cons hA
    obtain ⟨rfl, rfl, rfl⟩ := trodAll_nil r0
    obtain rfl : args = #[v0] := by cases args; simp_all
    obtain ⟨n0, u0, l0, rfl, w0, x0⟩ := rd_fam (hval 0 24 v0 rfl rfl) h0
    exact olline_walk W n0 u0 l0 w0 x0 (fnExactOrderLine_pow hL)

theorem fnExactOrderLine_holds : Rows.FnExactOrderLineSaid :=
  OpenClaim.holds_of_wide 3 Tryd.f3 rfl rfl rfl rfl rfl rfl rfl ⟨rfl, rfl, rfl, rfl, rfl⟩ rfl rfl rfl rfl rfl (by kernel_rfl) Tryd.func3 (by kernel_rfl)
    (of_decide_eq_true (by kernel_rfl)) (by unfold Func.isWrapper; first | (rw [if_pos (by decide +kernel)]; kernel_rfl) | (rw [if_neg (by decide +kernel)]; exact ⟨rfl, rfl⟩))
    (fun os started H enc _ => fnExactOrderLine_lifted os started H enc)

theorem fnExactOrderLine_card : Rows.FnExactOrderLineCardSaid :=
  Claim7.holds_tied_plain_at .later [] [.data, .data, .data] true _ false
    fnExactOrderLine_holds (fun _ h => by cases h) (by kernel_rfl) (fun _ h => by cases h) fnExactOrderLine_row_tie rfl ⟨rfl, rfl⟩ (by kernel_rfl) rfl
    (fun f fn hf hfn => by
      obtain rfl : f = 3 := Option.some.inj ((show Tryd.prog.funcNamed "loop.example/g03405/laws.FnExactOrderLine" = some 3 by kernel_rfl).symm.trans hf) |>.symm
      obtain rfl : fn = Tryd.f3 := (Option.some.inj (Tryd.func3.symm.trans hfn)).symm
      exact ⟨by kernel_rfl, fun j t ht => by
        rw [fnExactOrderLine_params] at ht
        have hm : t ∈ [24] := by simpa using Array.mem_of_getElem? ht
        have hall : ([24].all fun u => !Tryd.prog.wantsStandIn u) = true := by kernel_rfl
        exact (show Tryd.prog.wantsStandIn t = false by simpa using List.all_eq_true.1 hall t hm)⟩)
    (by kernel_rfl)
end Go.Proofs.YtelmokapdkepbaaDoor
end
