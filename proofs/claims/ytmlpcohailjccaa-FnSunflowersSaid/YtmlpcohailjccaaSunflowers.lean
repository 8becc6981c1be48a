/- The statement FnSunflowers: for every input the call returns true and each argument reads as it did. No condition. -/
import Derived.Test.YtmlpcohailjccaaRead
import Derived.Test.YtmlpcohailjccaaLawH
import Derived.Test.YtmlpcohailjccaaDrawU
import Derived.Test.YtmlpcohailjccaaSunF
import Derived.Test.YtmlpcohailjccaaBlk
namespace Go.Proofs.Ytmlpcohailjccaa
open Go.ChangeShapes Go.WideShapes Go.ChangeAt Go.RowKit Go.G5
set_option maxHeartbeats 16000000 in
set_option maxRecDepth 100000 in
theorem sunflowers_walk (w : World) (v : Value) (l : List Nat) (hv : Byts w v l) :
    Calls Try.prog 6 #[v] w fun e w' => e = .returned (.bool true) ∧ Below w.heap.size w w' := by
  have hv0 := hv
  obtain ⟨av, cv, rfl, _⟩ := hv
  go_enter Try.func6, Try.ntmps6
  go_wp2_with fail
  refine (big_any w _ l hv0).mono ?_
  rintro e w0 ⟨rfl, rfl⟩
  cases hbig : decide ((1048576 : Int) < l.length) with
  | true =>
    go_wp2
    go_ret
    exact ⟨rfl, Below.refl _ _⟩
  | false =>
  clear hbig
  have B : Below w.heap.size w w := Below.refl _ _
  go_wp2_with fail
  refine (drawFindSun_any w _ l (hv0.below B (Nat.le_refl _))).mono ?_
  rintro e W1 ⟨n, p0, i0, q0, k, L, rfl, hn, hk, o0, hL, bW1⟩
  have B := B.after bW1 B.size
  have h0 := o0.ints
  clear o0
  have hi0 : i0 = L.length := by
    obtain ⟨_, _, h⟩ := h0.shape
    injection h
  subst hi0
  go_wp2_with fail
  refine calls_named ?_
  intro V hV
  have bV : Below W1.heap.size W1 V := by rw [hV]; exact bl1 _ _
  have K : Blk V W1.heap.size 28 #[.int .i64 n, .slice p0 L.length q0] := by rw [hV]; exact Blk.new _ _ _
  clear hV
  have h0 := h0.keep bV
  have B := B.after bV B.size
  obtain ⟨M, hM⟩ : ∃ q, q = sunL n L k := ⟨_, rfl⟩
  obtain ⟨SB, hSB⟩ : ∃ q, q = sunB n L k := ⟨_, rfl⟩
  have hfound : SB = true → isSunB M = true ∧ (M.length : Int) = k ∧ isFamB n L = true ∧ 1 ≤ k ∧ k ≤ 5 := by rw [hSB, hM]; exact sun_found
  have hrado : ∀ s : Int, uniB n L s = true → 1 ≤ s → s ≤ 5 → 1 ≤ k → k ≤ 5 → sunBound s k < L.length → SB = true := by rw [hSB]; exact fun s a b c d e f => rado a b c d e f
  have HI := fun W x (y : Ints W x L) => findSunI_c W n x L y (by omega) k hk
  have HS := fun W x (y : Ints W x L) => findSunS_c W n x L y (by omega) k hk
  simp only [← hM, ← hSB] at HI HS
  have HFO := Lib.hid hfound
  have HRA := Lib.hid hrado
  have HI := Lib.hid HI
  have HS := Lib.hid HS
  clear hfound hrado hM hSB
  refine (HI.out V _ h0).mono ?_
  rintro e W2 ⟨p1, i1, q1, rfl, o1, bW2⟩
  have K := K.keep bW2
  have h0 := h0.keep bW2
  have B := B.after bW2 B.size
  have h1 := o1.ints
  have G := K.cell
  go_wp2_with fail
  clear G
  refine (HS.out W2 _ h0).mono ?_
  rintro e W3 ⟨p2, i2, q2, rfl, o2, bW3⟩
  have K := K.keep bW3
  have h0 := h0.keep bW3
  have h1 := h1.keep bW3
  have B := B.after bW3 B.size
  have h2 := o2.ints
  clear o1 o2 HI HS
  have hi2 : i2 = M.length := by
    obtain ⟨_, _, h⟩ := h2.shape
    injection h
  subst hi2
  go_wp2_with fail
  refine (sameInts_true _ _ M W3 h1 h2).mono ?_
  rintro e W4 ⟨rfl, bW4⟩
  have K := K.keep bW4
  have h0 := h0.keep bW4
  have h1 := h1.keep bW4
  have h2 := h2.keep bW4
  have B := B.after bW4 B.size
  cases SB with
  | false =>
    clear h1 h2
    go_wp2_with fail
    go_loopw [15] (fun i wr => ∃ s : Nat, 1 ≤ s ∧ s ≤ 6 ∧ i = .int .i64 s ∧ Below W4.heap.size W4 wr) (fun i _ => 6 - (intOf i).toNat)
    case atStart => exact ⟨1, by omega, by omega, rfl, Below.refl _ _⟩
    case round =>
      obtain ⟨s, hs1, hs6, rfl, Br⟩ := hrel
      have K := K.keep Br
      have h0 := h0.keep Br
      have B := B.after Br B.size
      by_cases hs5 : s ≤ 5
      · have hs5i : (s : Int) ≤ 5 := by omega
        have hs1i : (1 : Int) ≤ (s : Int) := by omega
        have QU := fun y : Ext wr => isUniform_any n L _ (s : Int) y.w (y.ints h0)
        have QB := fun y : Ext wr => sunBoundI_any (s : Int) k y.w
        obtain ⟨ub, hub⟩ : ∃ q, q = uniB n L (s : Int) := ⟨_, rfl⟩
        obtain ⟨bd, hbd⟩ : ∃ q, q = sunBound (s : Int) k := ⟨_, rfl⟩
        have hno : ub = true → 1 ≤ k → k ≤ 5 → bd < L.length → false = true := by rw [hub, hbd]; exact fun a b c d => HRA.out _ a hs1i hs5i b c d
        simp only [← hub] at QU
        simp only [← hbd] at QB
        have QB := Lib.hid QB
        have HNO := Lib.hid hno
        clear hub hbd hno
        have g0 : ∀ y : Ext wr, y.w.cell? ⟨W1.heap.size, 0, none⟩ = some (.int .i64 n) := fun y => y.cell (K.cell 0)
        have g1 : ∀ y : Ext wr, y.w.cell? ⟨W1.heap.size, 1, none⟩ = some (.slice p0 L.length q0) := fun y => y.cell (K.cell 1)
        cases ub with
        | false =>
          have QU := Lib.hid QU
          go_wp2_with fail
          refine wp_region_ext _ (by kernel_rfl) (by kernel_rfl) ?_
          repeat (first | go_big_quiet_skip | (go_big_quiet_want; go_big_quiet_op; first | go_big_quiet_on | (apply Exists.intro; refine ⟨fun _ => ?_, ?_⟩; (first | (go_at_call 32; with_reducible exact ext_call (QU.out _)) | (go_at_call 33; with_reducible exact ext_same (QB.out _))); go_big_quiet_on)))
          refine wpQuiet_nil ?_
          rintro w9 ⟨⟨w9, hb9⟩, rfl⟩
          try dsimp only
          go_wp2
          go_roundw
          case rel => exact ⟨s + 1, by omega, by omega, by go_num, Br.after hb9 Br.size⟩
          case measure => simp [intOf]; omega
        | true =>
          have QU := Lib.hid QU
          by_cases k1 : 1 ≤ k
          · by_cases k5 : k ≤ 5
            · by_cases hlb : bd < (L.length : Int)
              · exact absurd (HNO.out rfl k1 k5 hlb) (by decide)
              · skip
                have t1 : decide (1 ≤ k) = true := decide_eq_true k1
                have t5 : decide (k ≤ 5) = true := decide_eq_true k5
                have tb : decide (bd < (L.length : Int)) = false := decide_eq_false hlb
                clear k1 k5 hlb
                go_wp2_with fail
                refine wp_region_ext _ (by kernel_rfl) (by kernel_rfl) ?_
                repeat (first | go_big_quiet_skip | (go_big_quiet_want; go_big_quiet_op; first | go_big_quiet_on | (apply Exists.intro; refine ⟨fun _ => ?_, ?_⟩; (first | (go_at_call 32; with_reducible exact ext_call (QU.out _)) | (go_at_call 33; with_reducible exact ext_same (QB.out _))); go_big_quiet_on)))
                refine wpQuiet_nil ?_
                rintro w9 ⟨⟨w9, hb9⟩, rfl⟩
                try dsimp only
                go_wp2
                go_roundw
                case rel => exact ⟨s + 1, by omega, by omega, by go_num, Br.after hb9 Br.size⟩
                case measure => simp [intOf]; omega
            · skip
              have t1 : decide (1 ≤ k) = true := decide_eq_true k1
              have t5 : decide (k ≤ 5) = false := decide_eq_false k5
              clear k1 k5
              go_wp2_with fail
              refine wp_region_ext _ (by kernel_rfl) (by kernel_rfl) ?_
              repeat (first | go_big_quiet_skip | (go_big_quiet_want; go_big_quiet_op; first | go_big_quiet_on | (apply Exists.intro; refine ⟨fun _ => ?_, ?_⟩; (first | (go_at_call 32; with_reducible exact ext_call (QU.out _)) | (go_at_call 33; with_reducible exact ext_same (QB.out _))); go_big_quiet_on)))
              refine wpQuiet_nil ?_
              rintro w9 ⟨⟨w9, hb9⟩, rfl⟩
              try dsimp only
              go_wp2
              go_roundw
              case rel => exact ⟨s + 1, by omega, by omega, by go_num, Br.after hb9 Br.size⟩
              case measure => simp [intOf]; omega
          · skip
            have t1 : decide (1 ≤ k) = false := decide_eq_false k1
            clear k1
            go_wp2_with fail
            refine wp_region_ext _ (by kernel_rfl) (by kernel_rfl) ?_
            repeat (first | go_big_quiet_skip | (go_big_quiet_want; go_big_quiet_op; first | go_big_quiet_on | (apply Exists.intro; refine ⟨fun _ => ?_, ?_⟩; (first | (go_at_call 32; with_reducible exact ext_call (QU.out _)) | (go_at_call 33; with_reducible exact ext_same (QB.out _))); go_big_quiet_on)))
            refine wpQuiet_nil ?_
            rintro w9 ⟨⟨w9, hb9⟩, rfl⟩
            try dsimp only
            go_wp2
            go_roundw
            case rel => exact ⟨s + 1, by omega, by omega, by go_num, Br.after hb9 Br.size⟩
            case measure => simp [intOf]; omega
      · have hs5i : ¬ (s : Int) ≤ 5 := by omega
        clear hs5
        go_wp2_with fail
        refine (drawKernel_any wr _ l (hv0.below B (Nat.le_refl _))).mono ?_
        rintro e W5 ⟨p3, i3, q3, A, rfl, h3, hA, bW5⟩
        have B := B.after bW5 B.size
        go_wp2_with fail
        refine (kernelI_any A _ W5 h3).mono ?_
        rintro e W6 ⟨rfl, bW6⟩
        have h3 := h3.keep bW6
        have B := B.after bW6 B.size
        go_wp2_with fail
        refine (kernelS_any A _ W6 h3).mono ?_
        rintro e W7 ⟨rfl, bW7⟩
        have h3 := h3.keep bW7
        have B := B.after bW7 B.size
        obtain ⟨kn, hkn⟩ : ∃ q, q = kerN A := ⟨_, rfl⟩
        obtain ⟨kb, hkb⟩ : ∃ q, q = kerB A := ⟨_, rfl⟩
        simp only [← hkn, ← hkb]
        clear hkn hkb h3
        go_wp2_with fail
        refine (drawPetals_any W7 _ l (hv0.below B (Nat.le_refl _))).mono ?_
        rintro e W8 ⟨p4, i4, q4, D, rfl, h4, hD, bW8⟩
        have B := B.after bW8 B.size
        go_wp2_with fail
        refine (petalsI_any D _ W8 h4).mono ?_
        rintro e W9 ⟨p5, i5, q5, rfl, o5, bW9⟩
        have h4 := h4.keep bW9
        have B := B.after bW9 B.size
        have h5 := o5.ints
        go_wp2_with fail
        refine (petalsS_any D _ W9 h4).mono ?_
        rintro e W10 ⟨p6, i6, q6, rfl, o6, bW10⟩
        have h4 := h4.keep bW10
        have h5 := h5.keep bW10
        have B := B.after bW10 B.size
        have h6 := o6.ints
        clear o5 o6
        obtain ⟨db, hdb⟩ : ∃ q, q = kerB D := ⟨_, rfl⟩
        simp only [← hdb]
        clear hdb
        go_wp2_with fail
        refine (drawIsSun_any W10 _ l (hv0.below B (Nat.le_refl _))).mono ?_
        rintro e W11 ⟨p7, i7, q7, J, rfl, h7, hJ, bW11⟩
        have h4 := h4.keep bW11
        have h5 := h5.keep bW11
        have h6 := h6.keep bW11
        have B := B.after bW11 B.size
        go_wp2_with fail
        refine (drawSunBound_any W11 _ l (hv0.below B (Nat.le_refl _))).mono ?_
        rintro e W12 ⟨x, y, rfl, hx, hy, bW12⟩
        have h4 := h4.keep bW12
        have h5 := h5.keep bW12
        have h6 := h6.keep bW12
        have h7 := h7.keep bW12
        have B := B.after bW12 B.size
        go_wp2_with fail
        refine (sameInts_true _ _ (petL D) W12 h5 h6).mono ?_
        rintro e W13 ⟨rfl, bW13⟩
        have h4 := h4.keep bW13
        have h5 := h5.keep bW13
        have h6 := h6.keep bW13
        have h7 := h7.keep bW13
        have B := B.after bW13 B.size
        go_wp2_with fail
        refine (isSunI_any J _ W13 h7).mono ?_
        rintro e W14 ⟨rfl, bW14⟩
        have h4 := h4.keep bW14
        have h5 := h5.keep bW14
        have h6 := h6.keep bW14
        have h7 := h7.keep bW14
        have B := B.after bW14 B.size
        go_wp2_with fail
        refine (isSunS_any J _ W14 h7).mono ?_
        rintro e W15 ⟨rfl, bW15⟩
        have h4 := h4.keep bW15
        have h5 := h5.keep bW15
        have h6 := h6.keep bW15
        have h7 := h7.keep bW15
        have B := B.after bW15 B.size
        obtain ⟨jb, hjb⟩ : ∃ q, q = isSunB J := ⟨_, rfl⟩
        simp only [← hjb]
        clear hjb
        go_wp2_with fail
        refine (sunBoundI_any x y W15).mono ?_
        rintro e w' ⟨rfl, rfl⟩
        go_wp2_with fail
        refine (sunBoundS_any x y _).mono ?_
        rintro e w' ⟨rfl, rfl⟩
        obtain ⟨z, hz⟩ : ∃ q, q = sunBound x y := ⟨_, rfl⟩
        simp only [← hz]
        clear hz
        go_wp2
        go_ret
        exact ⟨by simp, B⟩
  | true =>
    obtain ⟨f1, f2, f3, f4, f5⟩ := HFO.out rfl
    have hlen : ((M.length : Int) != k) = false := by simp [f2]
    have hSI := isSunI_any M _ W4 h2
    rw [f1] at hSI
    have HSI := Lib.hid hSI
    have HF := Lib.hid (And.intro f1 (And.intro f2 f4))
    clear f1 f2 f3 f4 f5 hSI
    go_wp2_with fail
    refine (HSI.out).mono ?_
    rintro e W5 ⟨rfl, bW5⟩
    have K := K.keep bW5
    have h0 := h0.keep bW5
    have h1 := h1.keep bW5
    have h2 := h2.keep bW5
    have B := B.after bW5 B.size
    by_cases k2 : 2 ≤ k
    · have hker : kerB M = true := by unfold kerB; rw [HF.out.1, decide_eq_true (by have := HF.out.2.1; omega)]; rfl
      have HKE := Lib.hid hker
      have HP := petalsI_any M _ W5 h2
      rw [hker] at HP
      clear hker
      go_wp2_with fail
      refine (HP).mono ?_
      rintro e W6 ⟨p8, i8, q8, rfl, o8, bW6⟩
      have K := K.keep bW6
      have h0 := h0.keep bW6
      have h1 := h1.keep bW6
      have h2 := h2.keep bW6
      have B := B.after bW6 B.size
      have h8 := o8.ints
      clear o8 HP
      have HKN := kernelI_any M _ W6 h2
      rw [HKE.out] at HKN
      go_wp2_with fail
      refine (HKN).mono ?_
      rintro e W7 ⟨rfl, bW7⟩
      have K := K.keep bW7
      have h0 := h0.keep bW7
      have h1 := h1.keep bW7
      have h2 := h2.keep bW7
      have h8 := h8.keep bW7
      have B := B.after bW7 B.size
      clear HKN
      have HPF := Lib.hid (pet_facts HKE.out)
      have hPM := HPF.out.1
      obtain ⟨pa, pb, po, pc, hs8, _, pix, pce, pbl⟩ := h8.view Try.prog 22 3 Try.underlying22 intElem
      obtain ⟨ma, mb, mo, mc, hs2, _, mix, mce, mbl⟩ := h2.view Try.prog 22 3 Try.underlying22 intElem
      injection hs8 with e1 e2 e3
      subst e1 e2 e3
      injection hs2 with e1 e2 e3
      subst e1 e3
      have HPM := Lib.hid hPM
      clear hPM
      go_wp2_with fail
      go_loopw [13] (fun i wr => ∃ j : Nat, j ≤ (petL M).length ∧ i = .int .i64 j ∧ Below W7.heap.size W7 wr) (fun i _ => (petL M).length - (intOf i).toNat)
      case atStart => exact ⟨0, Nat.zero_le _, rfl, Below.refl _ _⟩
      case round =>
        obtain ⟨j, hj, rfl, Br⟩ := hrel
        by_cases hjl : j < (petL M).length
        · have hjl2 : (j : Int) < ((petL M).length : Int) := by omega
          have hjm : j < M.length := by have := HPM.out; omega
          have cp := cells_below pce pbl Br (Nat.le_refl _) j hjl
          have cm := cells_below mce mbl Br (Nat.le_refl _) j hjm
          have ip := fun W => pix W j hjl
          have im := fun W => mix W j hjm
          have f := HPF.out.2.1 j hjl hjm
          obtain ⟨x, hx⟩ : ∃ x, x = (petL M)[j] := ⟨_, rfl⟩
          obtain ⟨y, hy⟩ : ∃ y, y = M[j] := ⟨_, rfl⟩
          rw [← hx] at cp f
          rw [← hy] at cm f
          obtain ⟨f0, f1, f2, f3, f4, f5⟩ := f
          have a1 := iand_is f0 (by omega) f2 (by omega)
          have a2 := ior_is f0 (by omega) f2 (by omega)
          rw [f4] at a1
          rw [f5] at a2
          have HX := Lib.hid hx
          have HPCE := Lib.hid pce
          have HPIX := Lib.hid pix
          clear pce pix mce mix hx hy
          go_wp2
          go_quiet (fail)
          go_wp2
          go_loopw [14] (fun i wi => ∃ m : Nat, m ≤ j ∧ i = .int .i64 m ∧ Below W7.heap.size W7 wi) (fun i _ => j - (intOf i).toNat)
          case atStart => exact ⟨0, Nat.zero_le _, rfl, Br.drewN' _⟩
          case round =>
            obtain ⟨m, hm, rfl, Bi⟩ := hrel
            obtain ⟨wi, hwi⟩ : ∃ wi : World, wi = wr := ⟨_, rfl⟩
            by_cases hmj : m < j
            · have hmj2 : (m : Int) < (j : Int) := by omega
              have hml : m < (petL M).length := by omega
              have cpj := cells_below HPCE.out pbl Bi (Nat.le_refl _) j hjl
              have cpm := cells_below HPCE.out pbl Bi (Nat.le_refl _) m hml
              have ipj := fun W => HPIX.out W j hjl
              have ipm := fun W => HPIX.out W m hml
              have f6 := HPF.out.2.2 j m hjl hml hmj
              obtain ⟨z, hz⟩ : ∃ z, z = (petL M)[m] := ⟨_, rfl⟩
              rw [← HX.out] at cpj f6
              rw [← hz] at cpm f6
              obtain ⟨f7, f8, f9⟩ := f6
              have a3 := iand_is f0 (by omega) f7 (by omega)
              rw [f9] at a3
              clear hz cp cm ip im
              go_wp2
              go_quiet (fail)
              go_wp2
              go_roundw
              case rel => exact ⟨m + 1, by omega, by go_num, Bi.drewN' _⟩
              case measure => simp [intOf]; omega
            · have hmj2 : ¬ (m : Int) < (j : Int) := by omega
              go_wp2
              go_roundw
              case rel => exact ⟨j + 1, by omega, by go_num, Bi⟩
              case measure => simp [intOf]; omega
        · have hjl2 : ¬ (j : Int) < ((petL M).length : Int) := by omega
          clear pce pix mce mix HPF HPM hjl
          have K := K.keep Br
          have h0 := h0.keep Br
          have h1 := h1.keep Br
          have h2 := h2.keep Br
          have h8 := h8.keep Br
          have B := B.after Br B.size
          obtain ⟨wz, hwz⟩ : ∃ wz : World, wz = wr := ⟨_, rfl⟩
          subst hwz
          clear h1 h2
          go_wp2_with fail
          go_loopw [15] (fun i wr => ∃ s : Nat, 1 ≤ s ∧ s ≤ 6 ∧ i = .int .i64 s ∧ Below wz.heap.size wz wr) (fun i _ => 6 - (intOf i).toNat)
          case atStart => exact ⟨1, by omega, by omega, rfl, Below.refl _ _⟩
          case round =>
            obtain ⟨s, hs1, hs6, rfl, Br⟩ := hrel
            have K := K.keep Br
            have h0 := h0.keep Br
            have B := B.after Br B.size
            by_cases hs5 : s ≤ 5
            · have hs5i : (s : Int) ≤ 5 := by omega
              have hs1i : (1 : Int) ≤ (s : Int) := by omega
              have QU := fun y : Ext wr => isUniform_any n L _ (s : Int) y.w (y.ints h0)
              have QB := fun y : Ext wr => sunBoundI_any (s : Int) k y.w
              obtain ⟨ub, hub⟩ : ∃ q, q = uniB n L (s : Int) := ⟨_, rfl⟩
              obtain ⟨bd, hbd⟩ : ∃ q, q = sunBound (s : Int) k := ⟨_, rfl⟩
              simp only [← hub] at QU
              simp only [← hbd] at QB
              have QB := Lib.hid QB
              clear hub hbd
              have g0 : ∀ y : Ext wr, y.w.cell? ⟨W1.heap.size, 0, none⟩ = some (.int .i64 n) := fun y => y.cell (K.cell 0)
              have g1 : ∀ y : Ext wr, y.w.cell? ⟨W1.heap.size, 1, none⟩ = some (.slice p0 L.length q0) := fun y => y.cell (K.cell 1)
              cases ub with
              | false =>
                have QU := Lib.hid QU
                go_wp2_with fail
                refine wp_region_ext _ (by kernel_rfl) (by kernel_rfl) ?_
                repeat (first | go_big_quiet_skip | (go_big_quiet_want; go_big_quiet_op; first | go_big_quiet_on | (apply Exists.intro; refine ⟨fun _ => ?_, ?_⟩; (first | (go_at_call 32; with_reducible exact ext_call (QU.out _)) | (go_at_call 33; with_reducible exact ext_same (QB.out _))); go_big_quiet_on)))
                refine wpQuiet_nil ?_
                rintro w9 ⟨⟨w9, hb9⟩, rfl⟩
                try dsimp only
                go_wp2
                go_roundw
                case rel => exact ⟨s + 1, by omega, by omega, by go_num, Br.after hb9 Br.size⟩
                case measure => simp [intOf]; omega
              | true =>
                have QU := Lib.hid QU
                by_cases k1 : 1 ≤ k
                · by_cases k5 : k ≤ 5
                  · by_cases hlb : bd < (L.length : Int)
                    · skip
                      have t1 : decide (1 ≤ k) = true := decide_eq_true k1
                      have t5 : decide (k ≤ 5) = true := decide_eq_true k5
                      have tb : decide (bd < (L.length : Int)) = true := decide_eq_true hlb
                      clear k1 k5 hlb
                      go_wp2_with fail
                      refine wp_region_ext _ (by kernel_rfl) (by kernel_rfl) ?_
                      repeat (first | go_big_quiet_skip | (go_big_quiet_want; go_big_quiet_op; first | go_big_quiet_on | (apply Exists.intro; refine ⟨fun _ => ?_, ?_⟩; (first | (go_at_call 32; with_reducible exact ext_call (QU.out _)) | (go_at_call 33; with_reducible exact ext_same (QB.out _))); go_big_quiet_on)))
                      refine wpQuiet_nil ?_
                      rintro w9 ⟨⟨w9, hb9⟩, rfl⟩
                      try dsimp only
                      go_wp2
                      go_roundw
                      case rel => exact ⟨s + 1, by omega, by omega, by go_num, Br.after hb9 Br.size⟩
                      case measure => simp [intOf]; omega
                    · skip
                      have t1 : decide (1 ≤ k) = true := decide_eq_true k1
                      have t5 : decide (k ≤ 5) = true := decide_eq_true k5
                      have tb : decide (bd < (L.length : Int)) = false := decide_eq_false hlb
                      clear k1 k5 hlb
                      go_wp2_with fail
                      refine wp_region_ext _ (by kernel_rfl) (by kernel_rfl) ?_
                      repeat (first | go_big_quiet_skip | (go_big_quiet_want; go_big_quiet_op; first | go_big_quiet_on | (apply Exists.intro; refine ⟨fun _ => ?_, ?_⟩; (first | (go_at_call 32; with_reducible exact ext_call (QU.out _)) | (go_at_call 33; with_reducible exact ext_same (QB.out _))); go_big_quiet_on)))
                      refine wpQuiet_nil ?_
                      rintro w9 ⟨⟨w9, hb9⟩, rfl⟩
                      try dsimp only
                      go_wp2
                      go_roundw
                      case rel => exact ⟨s + 1, by omega, by omega, by go_num, Br.after hb9 Br.size⟩
                      case measure => simp [intOf]; omega
                  · skip
                    have t1 : decide (1 ≤ k) = true := decide_eq_true k1
                    have t5 : decide (k ≤ 5) = false := decide_eq_false k5
                    clear k1 k5
                    go_wp2_with fail
                    refine wp_region_ext _ (by kernel_rfl) (by kernel_rfl) ?_
                    repeat (first | go_big_quiet_skip | (go_big_quiet_want; go_big_quiet_op; first | go_big_quiet_on | (apply Exists.intro; refine ⟨fun _ => ?_, ?_⟩; (first | (go_at_call 32; with_reducible exact ext_call (QU.out _)) | (go_at_call 33; with_reducible exact ext_same (QB.out _))); go_big_quiet_on)))
                    refine wpQuiet_nil ?_
                    rintro w9 ⟨⟨w9, hb9⟩, rfl⟩
                    try dsimp only
                    go_wp2
                    go_roundw
                    case rel => exact ⟨s + 1, by omega, by omega, by go_num, Br.after hb9 Br.size⟩
                    case measure => simp [intOf]; omega
                · skip
                  have t1 : decide (1 ≤ k) = false := decide_eq_false k1
                  clear k1
                  go_wp2_with fail
                  refine wp_region_ext _ (by kernel_rfl) (by kernel_rfl) ?_
                  repeat (first | go_big_quiet_skip | (go_big_quiet_want; go_big_quiet_op; first | go_big_quiet_on | (apply Exists.intro; refine ⟨fun _ => ?_, ?_⟩; (first | (go_at_call 32; with_reducible exact ext_call (QU.out _)) | (go_at_call 33; with_reducible exact ext_same (QB.out _))); go_big_quiet_on)))
                  refine wpQuiet_nil ?_
                  rintro w9 ⟨⟨w9, hb9⟩, rfl⟩
                  try dsimp only
                  go_wp2
                  go_roundw
                  case rel => exact ⟨s + 1, by omega, by omega, by go_num, Br.after hb9 Br.size⟩
                  case measure => simp [intOf]; omega
            · have hs5i : ¬ (s : Int) ≤ 5 := by omega
              clear hs5
              go_wp2_with fail
              refine (drawKernel_any wr _ l (hv0.below B (Nat.le_refl _))).mono ?_
              rintro e W8 ⟨p3, i3, q3, A, rfl, h3, hA, bW8⟩
              have B := B.after bW8 B.size
              go_wp2_with fail
              refine (kernelI_any A _ W8 h3).mono ?_
              rintro e W9 ⟨rfl, bW9⟩
              have h3 := h3.keep bW9
              have B := B.after bW9 B.size
              go_wp2_with fail
              refine (kernelS_any A _ W9 h3).mono ?_
              rintro e W10 ⟨rfl, bW10⟩
              have h3 := h3.keep bW10
              have B := B.after bW10 B.size
              obtain ⟨kn, hkn⟩ : ∃ q, q = kerN A := ⟨_, rfl⟩
              obtain ⟨kb, hkb⟩ : ∃ q, q = kerB A := ⟨_, rfl⟩
              simp only [← hkn, ← hkb]
              clear hkn hkb h3
              go_wp2_with fail
              refine (drawPetals_any W10 _ l (hv0.below B (Nat.le_refl _))).mono ?_
              rintro e W11 ⟨p4, i4, q4, D, rfl, h4, hD, bW11⟩
              have B := B.after bW11 B.size
              go_wp2_with fail
              refine (petalsI_any D _ W11 h4).mono ?_
              rintro e W12 ⟨p5, i5, q5, rfl, o5, bW12⟩
              have h4 := h4.keep bW12
              have B := B.after bW12 B.size
              have h5 := o5.ints
              go_wp2_with fail
              refine (petalsS_any D _ W12 h4).mono ?_
              rintro e W13 ⟨p6, i6, q6, rfl, o6, bW13⟩
              have h4 := h4.keep bW13
              have h5 := h5.keep bW13
              have B := B.after bW13 B.size
              have h6 := o6.ints
              clear o5 o6
              obtain ⟨db, hdb⟩ : ∃ q, q = kerB D := ⟨_, rfl⟩
              simp only [← hdb]
              clear hdb
              go_wp2_with fail
              refine (drawIsSun_any W13 _ l (hv0.below B (Nat.le_refl _))).mono ?_
              rintro e W14 ⟨p7, i7, q7, J, rfl, h7, hJ, bW14⟩
              have h4 := h4.keep bW14
              have h5 := h5.keep bW14
              have h6 := h6.keep bW14
              have B := B.after bW14 B.size
              go_wp2_with fail
              refine (drawSunBound_any W14 _ l (hv0.below B (Nat.le_refl _))).mono ?_
              rintro e W15 ⟨x, y, rfl, hx, hy, bW15⟩
              have h4 := h4.keep bW15
              have h5 := h5.keep bW15
              have h6 := h6.keep bW15
              have h7 := h7.keep bW15
              have B := B.after bW15 B.size
              go_wp2_with fail
              refine (sameInts_true _ _ (petL D) W15 h5 h6).mono ?_
              rintro e W16 ⟨rfl, bW16⟩
              have h4 := h4.keep bW16
              have h5 := h5.keep bW16
              have h6 := h6.keep bW16
              have h7 := h7.keep bW16
              have B := B.after bW16 B.size
              go_wp2_with fail
              refine (isSunI_any J _ W16 h7).mono ?_
              rintro e W17 ⟨rfl, bW17⟩
              have h4 := h4.keep bW17
              have h5 := h5.keep bW17
              have h6 := h6.keep bW17
              have h7 := h7.keep bW17
              have B := B.after bW17 B.size
              go_wp2_with fail
              refine (isSunS_any J _ W17 h7).mono ?_
              rintro e W18 ⟨rfl, bW18⟩
              have h4 := h4.keep bW18
              have h5 := h5.keep bW18
              have h6 := h6.keep bW18
              have h7 := h7.keep bW18
              have B := B.after bW18 B.size
              obtain ⟨jb, hjb⟩ : ∃ q, q = isSunB J := ⟨_, rfl⟩
              simp only [← hjb]
              clear hjb
              go_wp2_with fail
              refine (sunBoundI_any x y W18).mono ?_
              rintro e w' ⟨rfl, rfl⟩
              go_wp2_with fail
              refine (sunBoundS_any x y _).mono ?_
              rintro e w' ⟨rfl, rfl⟩
              obtain ⟨z, hz⟩ : ∃ q, q = sunBound x y := ⟨_, rfl⟩
              simp only [← hz]
              clear hz
              go_wp2
              go_ret
              exact ⟨by simp, B⟩
    · skip
      clear h1 h2
      go_wp2_with fail
      go_loopw [15] (fun i wr => ∃ s : Nat, 1 ≤ s ∧ s ≤ 6 ∧ i = .int .i64 s ∧ Below W5.heap.size W5 wr) (fun i _ => 6 - (intOf i).toNat)
      case atStart => exact ⟨1, by omega, by omega, rfl, Below.refl _ _⟩
      case round =>
        obtain ⟨s, hs1, hs6, rfl, Br⟩ := hrel
        have K := K.keep Br
        have h0 := h0.keep Br
        have B := B.after Br B.size
        by_cases hs5 : s ≤ 5
        · have hs5i : (s : Int) ≤ 5 := by omega
          have hs1i : (1 : Int) ≤ (s : Int) := by omega
          have QU := fun y : Ext wr => isUniform_any n L _ (s : Int) y.w (y.ints h0)
          have QB := fun y : Ext wr => sunBoundI_any (s : Int) k y.w
          obtain ⟨ub, hub⟩ : ∃ q, q = uniB n L (s : Int) := ⟨_, rfl⟩
          obtain ⟨bd, hbd⟩ : ∃ q, q = sunBound (s : Int) k := ⟨_, rfl⟩
          simp only [← hub] at QU
          simp only [← hbd] at QB
          have QB := Lib.hid QB
          clear hub hbd
          have g0 : ∀ y : Ext wr, y.w.cell? ⟨W1.heap.size, 0, none⟩ = some (.int .i64 n) := fun y => y.cell (K.cell 0)
          have g1 : ∀ y : Ext wr, y.w.cell? ⟨W1.heap.size, 1, none⟩ = some (.slice p0 L.length q0) := fun y => y.cell (K.cell 1)
          cases ub with
          | false =>
            have QU := Lib.hid QU
            go_wp2_with fail
            refine wp_region_ext _ (by kernel_rfl) (by kernel_rfl) ?_
            repeat (first | go_big_quiet_skip | (go_big_quiet_want; go_big_quiet_op; first | go_big_quiet_on | (apply Exists.intro; refine ⟨fun _ => ?_, ?_⟩; (first | (go_at_call 32; with_reducible exact ext_call (QU.out _)) | (go_at_call 33; with_reducible exact ext_same (QB.out _))); go_big_quiet_on)))
            refine wpQuiet_nil ?_
            rintro w9 ⟨⟨w9, hb9⟩, rfl⟩
            try dsimp only
            go_wp2
            go_roundw
            case rel => exact ⟨s + 1, by omega, by omega, by go_num, Br.after hb9 Br.size⟩
            case measure => simp [intOf]; omega
          | true =>
            have QU := Lib.hid QU
            by_cases k1 : 1 ≤ k
            · by_cases k5 : k ≤ 5
              · by_cases hlb : bd < (L.length : Int)
                · skip
                  have t1 : decide (1 ≤ k) = true := decide_eq_true k1
                  have t5 : decide (k ≤ 5) = true := decide_eq_true k5
                  have tb : decide (bd < (L.length : Int)) = true := decide_eq_true hlb
                  clear k1 k5 hlb
                  go_wp2_with fail
                  refine wp_region_ext _ (by kernel_rfl) (by kernel_rfl) ?_
                  repeat (first | go_big_quiet_skip | (go_big_quiet_want; go_big_quiet_op; first | go_big_quiet_on | (apply Exists.intro; refine ⟨fun _ => ?_, ?_⟩; (first | (go_at_call 32; with_reducible exact ext_call (QU.out _)) | (go_at_call 33; with_reducible exact ext_same (QB.out _))); go_big_quiet_on)))
                  refine wpQuiet_nil ?_
                  rintro w9 ⟨⟨w9, hb9⟩, rfl⟩
                  try dsimp only
                  go_wp2
                  go_roundw
                  case rel => exact ⟨s + 1, by omega, by omega, by go_num, Br.after hb9 Br.size⟩
                  case measure => simp [intOf]; omega
                · skip
                  have t1 : decide (1 ≤ k) = true := decide_eq_true k1
                  have t5 : decide (k ≤ 5) = true := decide_eq_true k5
                  have tb : decide (bd < (L.length : Int)) = false := decide_eq_false hlb
                  clear k1 k5 hlb
                  go_wp2_with fail
                  refine wp_region_ext _ (by kernel_rfl) (by kernel_rfl) ?_
                  repeat (first | go_big_quiet_skip | (go_big_quiet_want; go_big_quiet_op; first | go_big_quiet_on | (apply Exists.intro; refine ⟨fun _ => ?_, ?_⟩; (first | (go_at_call 32; with_reducible exact ext_call (QU.out _)) | (go_at_call 33; with_reducible exact ext_same (QB.out _))); go_big_quiet_on)))
                  refine wpQuiet_nil ?_
                  rintro w9 ⟨⟨w9, hb9⟩, rfl⟩
                  try dsimp only
                  go_wp2
                  go_roundw
                  case rel => exact ⟨s + 1, by omega, by omega, by go_num, Br.after hb9 Br.size⟩
                  case measure => simp [intOf]; omega
              · skip
                have t1 : decide (1 ≤ k) = true := decide_eq_true k1
                have t5 : decide (k ≤ 5) = false := decide_eq_false k5
                clear k1 k5
                go_wp2_with fail
                refine wp_region_ext _ (by kernel_rfl) (by kernel_rfl) ?_
                repeat (first | go_big_quiet_skip | (go_big_quiet_want; go_big_quiet_op; first | go_big_quiet_on | (apply Exists.intro; refine ⟨fun _ => ?_, ?_⟩; (first | (go_at_call 32; with_reducible exact ext_call (QU.out _)) | (go_at_call 33; with_reducible exact ext_same (QB.out _))); go_big_quiet_on)))
                refine wpQuiet_nil ?_
                rintro w9 ⟨⟨w9, hb9⟩, rfl⟩
                try dsimp only
                go_wp2
                go_roundw
                case rel => exact ⟨s + 1, by omega, by omega, by go_num, Br.after hb9 Br.size⟩
                case measure => simp [intOf]; omega
            · skip
              have t1 : decide (1 ≤ k) = false := decide_eq_false k1
              clear k1
              go_wp2_with fail
              refine wp_region_ext _ (by kernel_rfl) (by kernel_rfl) ?_
              repeat (first | go_big_quiet_skip | (go_big_quiet_want; go_big_quiet_op; first | go_big_quiet_on | (apply Exists.intro; refine ⟨fun _ => ?_, ?_⟩; (first | (go_at_call 32; with_reducible exact ext_call (QU.out _)) | (go_at_call 33; with_reducible exact ext_same (QB.out _))); go_big_quiet_on)))
              refine wpQuiet_nil ?_
              rintro w9 ⟨⟨w9, hb9⟩, rfl⟩
              try dsimp only
              go_wp2
              go_roundw
              case rel => exact ⟨s + 1, by omega, by omega, by go_num, Br.after hb9 Br.size⟩
              case measure => simp [intOf]; omega
        · have hs5i : ¬ (s : Int) ≤ 5 := by omega
          clear hs5
          go_wp2_with fail
          refine (drawKernel_any wr _ l (hv0.below B (Nat.le_refl _))).mono ?_
          rintro e W201 ⟨p3, i3, q3, A, rfl, h3, hA, bW201⟩
          have B := B.after bW201 B.size
          go_wp2_with fail
          refine (kernelI_any A _ W201 h3).mono ?_
          rintro e W202 ⟨rfl, bW202⟩
          have h3 := h3.keep bW202
          have B := B.after bW202 B.size
          go_wp2_with fail
          refine (kernelS_any A _ W202 h3).mono ?_
          rintro e W203 ⟨rfl, bW203⟩
          have h3 := h3.keep bW203
          have B := B.after bW203 B.size
          obtain ⟨kn, hkn⟩ : ∃ q, q = kerN A := ⟨_, rfl⟩
          obtain ⟨kb, hkb⟩ : ∃ q, q = kerB A := ⟨_, rfl⟩
          simp only [← hkn, ← hkb]
          clear hkn hkb h3
          go_wp2_with fail
          refine (drawPetals_any W203 _ l (hv0.below B (Nat.le_refl _))).mono ?_
          rintro e W204 ⟨p4, i4, q4, D, rfl, h4, hD, bW204⟩
          have B := B.after bW204 B.size
          go_wp2_with fail
          refine (petalsI_any D _ W204 h4).mono ?_
          rintro e W205 ⟨p5, i5, q5, rfl, o5, bW205⟩
          have h4 := h4.keep bW205
          have B := B.after bW205 B.size
          have h5 := o5.ints
          go_wp2_with fail
          refine (petalsS_any D _ W205 h4).mono ?_
          rintro e W206 ⟨p6, i6, q6, rfl, o6, bW206⟩
          have h4 := h4.keep bW206
          have h5 := h5.keep bW206
          have B := B.after bW206 B.size
          have h6 := o6.ints
          clear o5 o6
          obtain ⟨db, hdb⟩ : ∃ q, q = kerB D := ⟨_, rfl⟩
          simp only [← hdb]
          clear hdb
          go_wp2_with fail
          refine (drawIsSun_any W206 _ l (hv0.below B (Nat.le_refl _))).mono ?_
          rintro e W207 ⟨p7, i7, q7, J, rfl, h7, hJ, bW207⟩
          have h4 := h4.keep bW207
          have h5 := h5.keep bW207
          have h6 := h6.keep bW207
          have B := B.after bW207 B.size
          go_wp2_with fail
          refine (drawSunBound_any W207 _ l (hv0.below B (Nat.le_refl _))).mono ?_
          rintro e W208 ⟨x, y, rfl, hx, hy, bW208⟩
          have h4 := h4.keep bW208
          have h5 := h5.keep bW208
          have h6 := h6.keep bW208
          have h7 := h7.keep bW208
          have B := B.after bW208 B.size
          go_wp2_with fail
          refine (sameInts_true _ _ (petL D) W208 h5 h6).mono ?_
          rintro e W209 ⟨rfl, bW209⟩
          have h4 := h4.keep bW209
          have h5 := h5.keep bW209
          have h6 := h6.keep bW209
          have h7 := h7.keep bW209
          have B := B.after bW209 B.size
          go_wp2_with fail
          refine (isSunI_any J _ W209 h7).mono ?_
          rintro e W210 ⟨rfl, bW210⟩
          have h4 := h4.keep bW210
          have h5 := h5.keep bW210
          have h6 := h6.keep bW210
          have h7 := h7.keep bW210
          have B := B.after bW210 B.size
          go_wp2_with fail
          refine (isSunS_any J _ W210 h7).mono ?_
          rintro e W211 ⟨rfl, bW211⟩
          have h4 := h4.keep bW211
          have h5 := h5.keep bW211
          have h6 := h6.keep bW211
          have h7 := h7.keep bW211
          have B := B.after bW211 B.size
          obtain ⟨jb, hjb⟩ : ∃ q, q = isSunB J := ⟨_, rfl⟩
          simp only [← hjb]
          clear hjb
          go_wp2_with fail
          refine (sunBoundI_any x y W211).mono ?_
          rintro e w' ⟨rfl, rfl⟩
          go_wp2_with fail
          refine (sunBoundS_any x y _).mono ?_
          rintro e w' ⟨rfl, rfl⟩
          obtain ⟨z, hz⟩ : ∃ q, q = sunBound x y := ⟨_, rfl⟩
          simp only [← hz]
          clear hz
          go_wp2
          go_ret
          exact ⟨by simp, B⟩

theorem fnSunflowers_params : Try.f6.params = #[46] := by kernel_rfl
set_option maxRecDepth 100000 in
theorem fnSunflowers_lifted (os : Os) (started : os.Started) (H : Type) (enc : TypeId × Value → H) :
    ReturnsInHanded {} Try.checked os 6 .any (Rows.fnSunflowersSpec.pre6 enc Try.prog Try.f6 Rows.fnSunflowersRow.domain false) (Rows.fnSunflowersSpec.post enc Try.prog Try.f6 false true false false) := by
  refine law_lift os started H enc Try.func6 (by kernel_rfl) rfl (by kernel_rfl) (by kernel_rfl) ?_
    (ChangeSpec.witness6 (enc := enc) (C := Try.checked) false ⟨#[], #[.slice none 0 0], []⟩ 8 (by kernel_rfl) (by kernel_rfl) (by kernel_rfl) (by kernel_rfl)) ?_
  · intro ds hds
    rw [fnSunflowers_params] at hds
    match ds, hds with
    | [d0], _ => rfl
  · intro W base args ds p hval hA
    rw [fnSunflowers_params] at hA hval
    obtain ⟨v0, vs0, d0, ds0, p0, q0, hargs, rfl, rfl, h0, r0⟩ := trodAll_cons hA
    obtain ⟨rfl, rfl, rfl⟩ := trodAll_nil r0
    obtain rfl : args = #[v0] := by cases args; simp_all
    obtain ⟨l0, w0⟩ := rd_bytes (hval 0 46 v0 rfl rfl) h0
    exact sunflowers_walk W _ l0 w0

theorem fnSunflowers_holds : Rows.FnSunflowersSaid :=
  OpenClaim.holds_of_wide 6 Try.f6 rfl rfl rfl rfl rfl rfl rfl ⟨rfl, rfl, rfl, rfl, rfl⟩ rfl rfl rfl rfl rfl (by kernel_rfl) Try.func6 (by kernel_rfl)
    (of_decide_eq_true (by kernel_rfl)) (by unfold Func.isWrapper; first | (rw [if_pos (by decide +kernel)]; kernel_rfl) | (rw [if_neg (by decide +kernel)]; exact ⟨rfl, rfl⟩))
    (fun os started H enc _ => fnSunflowers_lifted os started H enc)
end Go.Proofs.Ytmlpcohailjccaa
