/- Largest unions: the second program. Bases and circuits: the second program. -/
import Derived.Test.YtpaoiiiceekkkaaGreatDoorQ37
import Derived.Deep.RegionHeld3
section
namespace Go.Proofs.YtpaoiiiceekkkaaGreatDoor
open Go.RowKit Go.G5

set_option maxHeartbeats 1000000 in
set_option maxRecDepth 100000 in
theorem l5In_yes (w : World) (N : Nat) (v : Value) (l : List Int) (hv : Ints w v l) (hf : isFunB N l = true) (s : Nat) (hs : s < 2 ^ N) :
    Calls Tryz.prog 228 #[.agg #[.int .i64 (N : Int), v], .int .i64 (s : Int)] w fun e w' => e = .returned (.bool true) ∧ Below w.heap.size w w' := by
  have hv0 := hv
  obtain ⟨a, c, rfl⟩ := hv.shape
  obtain ⟨_, hN, h5, -⟩ := fun_nat hf
  have hN := Int.ofNat.inj hN
  subst hN
  have K0 := Blk.new w 27 #[.int .i64 (N : Int), .slice a l.length c]
  have hin : inB (s : Int) 0 (2 ^ N - 1) = true := by
    have : ((2 ^ N : Nat) : Int) = (2 : Int) ^ N := by simp
    unfold inB
    simp only [Bool.and_eq_true, decide_eq_true_eq]
    omega
  obtain ⟨A, hA⟩ : ∃ A : Int, A = 2 ^ N - 1 := ⟨_, rfl⟩
  have hfull := fun W : World => l2Full_any N W (by omega)
  simp only [← hA] at hfull
  rw [← hA] at hin
  have HIN := Lib.hid hin
  have HFU := Lib.hid hfull
  have HF := Lib.hid hf
  have HC := Lib.hid (isFunS_any (N : Int) l _ (w.alloc (.cells #[.int .i64 (N : Int), .slice a l.length c] 27)) (hv0.alloc _))
  rw [hf] at HC
  clear hin hfull hA hf hs
  go_enter Tryz.func228, Tryz.ntmps228
  go_wp2_with fail
  refine HC.out.mono ?_
  rintro e w1 ⟨rfl, hb1⟩
  have B1 : Below w.heap.size w w1 := (bl1 _ _).after hb1 (by simp)
  have K1 := K0.keep hb1
  have G := K1.cell
  go_wp2_with (first | (go_at_call 149; refine (HFU.out _).mono ?_; rintro e w2 ⟨rfl, rfl⟩) | (go_at_call 154; refine (l1In_any _ _ _ _).mono ?_; rintro e w3 ⟨rfl, rfl⟩; rw [HIN.out]))
  go_ret
  exact ⟨rfl, B1⟩
set_option maxHeartbeats 4000000 in
set_option maxRecDepth 100000 in
theorem partsS_any (w : World) (N : Nat) (v u : Value) (l k : List Int) (hv : Ints w v l) (hu : Ints w u k) (hl : l.length ≤ 1048576) (hk : k.length ≤ 1048576) (hf : comB N l N k = true) (s : Nat) (hs : s < l.length) :
    Calls Tryz.prog 151 #[.agg #[.int .i64 (N : Int), v], .agg #[.int .i64 (N : Int), u], .int .i64 (s : Int)] w fun e w' => ∃ x y : Int, e = .returned (.tuple #[.int .i64 x, .int .i64 y, .bool (uniB l k s)]) ∧ Below w.heap.size w w' := by
  have hv0 := hv
  have hu0 := hu
  obtain ⟨a, ba, oa, c, rfl, _, hix, hc, hb⟩ := hv.view Tryz.prog 22 3 Tryz.underlying22 intElem
  obtain ⟨a', ba', oa', c', rfl, _, hix', hc', hb'⟩ := hu.view Tryz.prog 22 3 Tryz.underlying22 intElem
  obtain ⟨_, N', hN, hN5, hl2, hl32, hkl, _, _⟩ := com_fun hf
  have hN := Int.ofNat.inj hN
  subst hN
  have hfun := rank_fun (com_rank hf).1
  have K1 := (Blk.new w 27 #[.int .i64 (N : Int), .slice a l.length c]).alloc (.cells #[.int .i64 (N : Int), .slice a' k.length c'] 27)
  have K2 : Blk ((w.alloc (.cells #[.int .i64 (N : Int), .slice a l.length c] 27)).alloc (.cells #[.int .i64 (N : Int), .slice a' k.length c'] 27)) (w.heap.size + 1) 27 #[.int .i64 (N : Int), .slice a' k.length c'] := by
    have := Blk.new (w.alloc (.cells #[.int .i64 (N : Int), .slice a l.length c] 27)) 27 #[.int .i64 (N : Int), .slice a' k.length c']
    simpa using this
  have hl5 := fun (W : World) (h : Ints W (.slice a l.length c) l) => l5In_yes W N _ l h hfun s (by omega)
  have HL5 := Lib.hid hl5
  have HF := Lib.hid hf
  have HKL := Lib.hid hkl
  have HC := Lib.hid hc
  have HC' := Lib.hid hc'
  have HIX := Lib.hid hix
  have HIX' := Lib.hid hix'
  clear hl5 hf hkl hc hc' hix hix' hfun hl2
  go_enter Tryz.func151, Tryz.ntmps151
  go_wp2_with fail
  refine calls_named ?_
  intro V hV
  have B : Below w.heap.size w V := by rw [hV]; exact bl2 _ _ _
  have K1 : Blk V w.heap.size 27 #[.int .i64 (N : Int), .slice a l.length c] := by rw [hV]; exact K1
  have K2 : Blk V (w.heap.size + 1) 27 #[.int .i64 (N : Int), .slice a' k.length c'] := by rw [hV]; exact K2
  clear hV
  refine (areMatS_any V N _ l (hv0.below B (Nat.le_refl _)) hl N _ k (hu0.below B (Nat.le_refl _)) hk).mono ?_
  rintro e w1 ⟨rfl, b1⟩
  rw [HF.out]
  have K1 := K1.keep b1
  have K2 := K2.keep b1
  have B := B.after b1 B.size
  have G1 := K1.cell
  have z2 := K2.lt
  go_wp2_with fail
  refine (HL5.out _ (hv0.below B (Nat.le_refl _))).mono ?_
  rintro e w2 ⟨rfl, b2⟩
  have K1 := K1.keep b2
  have K2 := K2.keep b2
  have B := B.after b2 B.size
  clear G1
  go_wp2_with fail
  go_loopw [9] (fun iv wr => ∃ t : Nat, t ≤ s + 1 ∧ iv = .int .i64 t ∧ noPart l k s t = true ∧ Below w2.heap.size w2 wr) (fun iv _ => s + 1 - (intOf iv).toNat)
  case atStart => exact ⟨0, Nat.zero_le _, rfl, rfl, Below.refl _ _⟩
  case round =>
    obtain ⟨t, ht, rfl, hno, Br⟩ := hrel
    obtain ⟨wo, rfl⟩ : ∃ z : World, z = wr := ⟨_, rfl⟩
    have Bw := B.after Br B.size
    have K1w := K1.keep Br
    have K2w := K2.keep Br
    have HNO := Lib.hid hno
    clear hno
    by_cases hlt : t < s + 1
    · have hlt2 : (t : Int) ≤ (s : Int) := by omega
      have hst := noPart_succ l k s t
      rw [HNO.out, Bool.true_and] at hst
      have hpd : partP l k s t = ((ndiff t s == 0) && (freeB l t && freeB k (ndiff s t))) := rfl
      rw [← part_sub s (by omega) t (by omega)] at hpd
      have hand := bitsA t s (by omega) (by omega)
      have huni : partP l k s t = true → uniB l k s = true := fun h => uni_hit (by omega) h
      have HUN := Lib.hid huni
      have HST := Lib.hid hst
      have e1 : ∀ y : Ext wo, y.w.cell? ⟨w.heap.size, 1, none⟩ = some (.slice a l.length c) := fun y => y.cell (K1w.cell 1)
      have e2 : ∀ y : Ext wo, y.w.cell? ⟨w.heap.size + 1, 1, none⟩ = some (.slice a' k.length c') := fun y => y.cell (K2w.cell 1)
      clear huni hst
      by_cases hsub : t &&& s = t
      · obtain ⟨hnd, hts⟩ := sub_part s (by omega) t (by omega) hsub
        rw [beq_iff_eq.2 hsub, Bool.true_and, hnd] at hpd
        rw [hsub] at hand
        have ck := cells_below HC.out hb Bw (Nat.le_refl _) t (by omega)
        have ik := fun W => HIX.out W t (by omega)
        have ck2 := cells_below HC'.out hb' Bw (Nat.le_refl _) (s - t) (by have := HKL.out; omega)
        have ik2 := fun W => HIX'.out W (s - t) (by have := HKL.out; omega)
        rw [show ((s - t : Nat) : Int) = (s : Int) - (t : Int) by omega] at ik2
        have wst : IntKind.i64.wrap ((s : Int) - (t : Int)) = (s : Int) - (t : Int) := by rw [IntKind.wrap_i64]; omega
        have hs1 := fun W : World => l2Size_any t W (by omega)
        have hs2 := fun W : World => l2Size_any (s - t) W (by omega)
        rw [show ((s - t : Nat) : Int) = (s : Int) - (t : Int) by omega] at hs2
        have hfa : freeB l t = decide (l[t]'(by omega) = (pop t : Int)) := by unfold freeB; rw [getD_at l t (by omega)]
        have hfb : freeB k (s - t) = decide (k[s - t]'(by have := HKL.out; omega) = (pop (s - t) : Int)) := by unfold freeB; rw [getD_at k (s - t) (by have := HKL.out; omega)]
        obtain ⟨x, hx⟩ : ∃ x, x = l[t]'(by omega) := ⟨_, rfl⟩
        obtain ⟨y, hy⟩ : ∃ y, y = k[s - t]'(by have := HKL.out; omega) := ⟨_, rfl⟩
        obtain ⟨p, hp⟩ : ∃ p : Nat, p = pop t := ⟨_, rfl⟩
        obtain ⟨q, hq⟩ : ∃ q : Nat, q = pop (s - t) := ⟨_, rfl⟩
        rw [← hx] at ck hfa
        rw [← hy] at ck2 hfb
        rw [← hp] at hfa
        rw [← hq] at hfb
        simp only [← hp] at hs1
        simp only [← hq] at hs2
        have e3 : ∀ z : Ext wo, z.w.cell? ⟨ba, oa + t, none⟩ = some (.int .i64 x) := fun z => z.cell ck
        have e4 : ∀ z : Ext wo, z.w.cell? ⟨ba', oa' + (s - t), none⟩ = some (.int .i64 y) := fun z => z.cell ck2
        rw [hfa, hfb, ← beq_dec, ← beq_dec] at hpd
        have HS1 := Lib.hid hs1
        have HS2 := Lib.hid hs2
        have hte : ((t : Int) == (t : Int)) = true := by simp
        clear hs1 hs2 hx hy hp hq ck ck2 hfa hfb hnd
        cases h1 : (x == (p : Int)) with
        | false =>
          rw [h1] at hpd
          have HP := Lib.hid hpd
          clear hpd hsub
          go_wp2_with fail
          refine wp_region_ext _ (by kernel_rfl) (by kernel_rfl) ?_
          repeat (first | go_big_quiet_skip | (go_big_quiet_want; go_big_quiet_op; first | go_big_quiet_on | (apply Exists.intro; refine ⟨fun _ => ?_, ?_⟩; (go_at_call 148; first | (with_reducible exact ext_same (HS1.out _)) | (with_reducible exact ext_same (HS2.out _))); go_big_quiet_on)))
          refine wpQuiet_nil ?_
          rintro w5 ⟨⟨w5, b5⟩, rfl⟩
          try dsimp only
          go_wp2
          go_roundw
          case rel => exact ⟨t + 1, by omega, by go_num, by rw [HST.out, HP.out]; rfl, Br.after b5 Br.size⟩
          case measure => simp [intOf]; omega
        | true =>
          rw [h1, Bool.true_and] at hpd
          cases h2 : (y == (q : Int)) with
          | false =>
            rw [h2] at hpd
            have HP := Lib.hid hpd
            clear hpd hsub
            go_wp2_with fail
            refine wp_region_ext _ (by kernel_rfl) (by kernel_rfl) ?_
            repeat (first | go_big_quiet_skip | (go_big_quiet_want; go_big_quiet_op; first | go_big_quiet_on | (apply Exists.intro; refine ⟨fun _ => ?_, ?_⟩; (go_at_call 148; first | (with_reducible exact ext_same (HS1.out _)) | (with_reducible exact ext_same (HS2.out _))); go_big_quiet_on)))
            refine wpQuiet_nil ?_
            rintro w5 ⟨⟨w5, b5⟩, rfl⟩
            try dsimp only
            go_wp2
            go_roundw
            case rel => exact ⟨t + 1, by omega, by go_num, by rw [HST.out, HP.out]; rfl, Br.after b5 Br.size⟩
            case measure => simp [intOf]; omega
          | true =>
            rw [h2] at hpd
            have hr := HUN.out hpd
            have HR := Lib.hid hr
            clear hpd hsub hr
            go_wp2_with fail
            refine wp_region_ext _ (by kernel_rfl) (by kernel_rfl) ?_
            repeat (first | go_big_quiet_skip | (go_big_quiet_want; go_big_quiet_op; first | go_big_quiet_on | (apply Exists.intro; refine ⟨fun _ => ?_, ?_⟩; (go_at_call 148; first | (with_reducible exact ext_same (HS1.out _)) | (with_reducible exact ext_same (HS2.out _))); go_big_quiet_on)))
            refine wpQuiet_nil ?_
            rintro w5 ⟨⟨w5, b5⟩, rfl⟩
            try dsimp only
            go_wp2
            go_ret3
            exact ⟨t, (s : Int) - (t : Int), by rw [HR.out]; rfl, Bw.after b5 Bw.size⟩
      · have hsb : (t &&& s == t) = false := by rw [beq_eq_false_iff_ne]; exact hsub
        rw [hsb, Bool.false_and] at hpd
        have hne : (((t &&& s : Nat) : Int) == (t : Int)) = false := by rw [beq_eq_false_iff_ne]; omega
        obtain ⟨z, hz⟩ : ∃ z : Nat, z = t &&& s := ⟨_, rfl⟩
        rw [← hz] at hand hne
        have HP := Lib.hid hpd
        clear hpd hsub hsb hz
        go_wp2_with fail
        refine wp_region_ext _ (by kernel_rfl) (by kernel_rfl) ?_
        repeat (first | go_big_quiet_skip | (go_big_quiet_want; go_big_quiet_op; first | go_big_quiet_on | (apply Exists.intro; refine ⟨fun _ => ?_, ?_⟩; (fail); go_big_quiet_on)))
        refine wpQuiet_nil ?_
        rintro w5 ⟨⟨w5, b5⟩, rfl⟩
        try dsimp only
        go_wp2
        go_roundw
        case rel => exact ⟨t + 1, by omega, by go_num, by rw [HST.out, HP.out]; rfl, Br.after b5 Br.size⟩
        case measure => simp [intOf]; omega
    · have hlt2 : ¬ (t : Int) ≤ (s : Int) := by omega
      have hr : uniB l k s = false := by unfold uniB; rw [← show t = s + 1 by omega, HNO.out]; rfl
      have HR := Lib.hid hr
      clear hr
      go_wp2
      go_ret3
      first | exact ⟨0, 0, by rw [HR.out]; rfl, Bw⟩ | exact ⟨⟨0, 0, by rw [HR.out]; rfl⟩, Bw⟩
set_option maxHeartbeats 2000000 in
set_option maxRecDepth 100000 in
theorem unionS_c (w : World) (n : Int) (v : Value) (l : List Int) (hv : Ints w v l) (hl : l.length ≤ 1048576) (m : Int) (u : Value) (k : List Int) (hu : Ints w u k) (hk : k.length ≤ 1048576) :
    Calls Tryz.prog 47 #[.agg #[.int .i64 n, v], .agg #[.int .i64 m, u]] w fun e w' => e = .returned (.tuple #[.int .i64 (luS n l m k), .bool (comB n l m k)]) ∧ Below w.heap.size w w' := by
  have hv0 := hv
  have hu0 := hu
  obtain ⟨a, c, rfl⟩ := hv.shape
  obtain ⟨a', c', rfl⟩ := hu.shape
  go_enter Tryz.func47, Tryz.ntmps47
  go_wp2_with fail
  refine calls_named ?_
  intro V hV
  have B : Below w.heap.size w V := by rw [hV]; exact bl2 _ _ _
  have K1 : Blk V w.heap.size 27 #[.int .i64 n, .slice a l.length c] := by rw [hV]; exact (Blk.new _ _ _).alloc _
  have K2 : Blk V (w.heap.size + 1) 27 #[.int .i64 m, .slice a' k.length c'] := by rw [hV]; have := Blk.new (w.alloc (.cells #[.int .i64 n, .slice a l.length c] 27)) 27 #[.int .i64 m, .slice a' k.length c']; simpa using this
  clear hV
  refine (areMatS_any V n _ l (hv0.below B (Nat.le_refl _)) hl m _ k (hu0.below B (Nat.le_refl _)) hk).mono ?_
  rintro e w1 ⟨rfl, b1⟩
  have K1 := K1.keep b1
  have K2 := K2.keep b1
  have B := B.after b1 B.size
  have z2 := K2.lt
  have G1 := K1.cell
  cases hf : comB n l m k with
  | false =>
    have hx : luS n l m k = 0 := by unfold luS; rw [hf]; rfl
    have HX := Lib.hid hx
    have HF := Lib.hid hf
    clear hx hf
    go_wp2
    go_ret2
    exact ⟨by rw [HX.out, HF.out]; rfl, B⟩
  | true =>
    obtain ⟨rfl, N, rfl, hN5, hl2, hl32, hkl, hlb, hkb⟩ := com_fun hf
    have hx : luS N l N k = (luTo (uniB l k) l.length : Int) := by unfold luS; rw [hf, if_pos rfl]
    have h1 := luTo_one (uniB l k)
    have hpa := fun (W : World) (h1 : Ints W (.slice a l.length c) l) (h2 : Ints W (.slice a' k.length c') k) (s : Nat) (hs : s < l.length) => partsS_any W N _ _ l k h1 h2 hl hk hf s hs
    have HPA := Lib.hid hpa
    have HX := Lib.hid hx
    have HF := Lib.hid hf
    have hpos : 1 ≤ l.length := by rw [hl2]; exact Nat.two_pow_pos N
    clear hx hf hl2 hkl hlb hkb hpa
    go_wp2_with fail
    go_loopw [6, 7] (fun bst i wr => ∃ t : Nat, 1 ≤ t ∧ t ≤ l.length ∧ i = .int .i64 t ∧ bst = .int .i64 (luTo (uniB l k) t : Int) ∧ Below w1.heap.size w1 wr) (fun _ i _ => l.length - (intOf i).toNat)
    case atStart => exact ⟨1, Nat.le_refl _, hpos, rfl, by rw [h1]; rfl, Below.refl _ _⟩
    case round =>
      obtain ⟨t, ht1, ht, rfl, rfl, Br⟩ := hrel
      obtain ⟨wo, rfl⟩ : ∃ z : World, z = wr := ⟨_, rfl⟩
      have Bw := B.after Br B.size
      have K1 := K1.keep Br
      have K2 := K2.keep Br
      clear G1
      have G1 := K1.cell
      have G2 := K2.cell
      have z1 := K1.lt
      have z2 := K2.lt
      have hlt0 := luTo_lt (uniB l k) t ht1
      by_cases hlt : t < l.length
      · have hlt2 : (t : Int) < (l.length : Int) := by omega
        have hsucc := luTo_succ (uniB l k) t
        have hcl := HPA.out wo (hv0.below Bw (Nat.le_refl _)) (hu0.below Bw (Nat.le_refl _)) t hlt
        obtain ⟨b, hbe⟩ : ∃ b, b = luTo (uniB l k) t := ⟨_, rfl⟩
        obtain ⟨q, hq⟩ : ∃ q, q = uniB l k t := ⟨_, rfl⟩
        rw [← hbe] at hlt0 ⊢
        rw [← hbe, ← hq] at hsucc
        rw [← hq] at hcl
        have hs1 := fun W : World => l2Size_any t W (by omega)
        have hs2 := fun W : World => l2Size_any b W (by omega)
        obtain ⟨P, hP⟩ : ∃ P, P = pop t := ⟨_, rfl⟩
        obtain ⟨Q, hQ⟩ : ∃ Q, Q = pop b := ⟨_, rfl⟩
        simp only [← hP] at hs1
        simp only [← hQ] at hs2
        rw [← hP, ← hQ] at hsucc
        have HS1 := Lib.hid hs1
        have HS2 := Lib.hid hs2
        have HCL := Lib.hid hcl
        clear hq hbe hP hQ hs1 hs2 hcl
        go_wp2_with fail
        refine HCL.out.mono ?_
        rintro e w2 ⟨x, y, rfl, b2⟩
        cases q with
        | false =>
          rw [Bool.and_false] at hsucc
          have HSU := Lib.hid hsucc
          clear hsucc
          go_wp2
          go_roundw
          case rel => exact ⟨t + 1, by omega, by omega, by go_num, by rw [HSU.out]; rfl, Br.after b2 Br.size⟩
          case measure => simp [intOf]; omega
        | true =>
          rw [Bool.and_true] at hsucc
          by_cases hgt : Q < P
          · rw [decide_eq_true hgt] at hsucc
            have hgt2 : (Q : Int) < (P : Int) := by omega
            have HSU := Lib.hid hsucc
            clear hsucc
            go_wp2_with (go_at_call 148; (first | (with_reducible refine (HS1.out _).mono ?_) | (with_reducible refine (HS2.out _).mono ?_)); rintro e w3 ⟨rfl, rfl⟩)
            go_roundw
            case rel => exact ⟨t + 1, by omega, by omega, by go_num, by rw [HSU.out]; rfl, Br.after b2 Br.size⟩
            case measure => simp [intOf]; omega
          · rw [decide_eq_false hgt] at hsucc
            have hgt2 : ¬ (Q : Int) < (P : Int) := by omega
            have HSU := Lib.hid hsucc
            clear hsucc
            go_wp2_with (go_at_call 148; (first | (with_reducible refine (HS1.out _).mono ?_) | (with_reducible refine (HS2.out _).mono ?_)); rintro e w3 ⟨rfl, rfl⟩)
            go_roundw
            case rel => exact ⟨t + 1, by omega, by omega, by go_num, by rw [HSU.out]; rfl, Br.after b2 Br.size⟩
            case measure => simp [intOf]; omega
      · have hlt2 : ¬ (t : Int) < (l.length : Int) := by omega
        have htl : t = l.length := by omega
        have HT := Lib.hid htl
        clear htl
        go_wp2
        go_ret2
        exact ⟨by rw [HX.out, HF.out, ← HT.out]; rfl, Bw⟩
end Go.Proofs.YtpaoiiiceekkkaaGreatDoor
end
section
namespace Go.Proofs.YtpaoiiiceekkkaaGreatDoor
open Go.RowKit Go.G5


set_option maxHeartbeats 2000000 in
set_option maxRecDepth 100000 in
theorem basS_c (w : World) (n : Int) (v : Value) (l : List Int) (hv : Ints w v l) (hl : l.length ≤ 1048576) :
    Calls Tryz.prog 152 #[.agg #[.int .i64 n, v]] w fun e w' => ∃ ad i cp, e = .returned (.tuple #[.agg #[.int .i64 (matN n l), .slice ad i cp], .bool (rankB n l)]) ∧ OwnI 3 w.heap.size w' (.slice ad i cp) (basL n l) ∧ Below w.heap.size w w' := by
  obtain ⟨a, c, rfl⟩ := hv.shape
  go_enter Tryz.func152, Tryz.ntmps152
  go_wp2_with fail
  refine calls_named ?_
  intro V hV
  have B : Below w.heap.size w V := by rw [hV]; exact bl2 _ _ _
  have K1 : Blk V w.heap.size 27 #[.int .i64 n, .slice a l.length c] := by rw [hV]; exact (Blk.new _ _ _).alloc _
  have K2 : Blk V (w.heap.size + 1) 37 #[.int .i64 0, .slice none 0 0] := by rw [hV]; have := Blk.new (w.alloc (.cells #[.int .i64 n, .slice a l.length c] 27)) 37 #[.int .i64 0, .slice none 0 0]; simpa using this
  clear hV
  refine (rankS_any n l _ _ (hv.below B (Nat.le_refl _)) hl).mono ?_
  rintro e w1 ⟨rfl, hb1⟩
  have K1' := K1.keep hb1
  have K2' := K2.keep hb1
  have B1 := B.after hb1 B.size
  have G1 := K1'.cell
  have G2 := K2'.cell
  have F2 := K2'.frozen
  have z1 := K1'.lt
  have z2 := K2'.lt
  have hv1 := hv.below B1 (Nat.le_refl _)
  clear K1 K2 B hb1
  cases hf : rankB n l with
  | false =>
    have hN : matN n l = 0 := by unfold matN; rw [hf]; rfl
    have hL : basL n l = [] := by unfold basL; rw [hf]; rfl
    have HN := Lib.hid hN
    have HL := Lib.hid hL
    have HF := Lib.hid hf
    clear hN hL
    go_wp2
    refine post_named ?_
    intro Wf hWf
    have K2f : Blk Wf (w.heap.size + 1) 37 #[.int .i64 0, .slice none 0 0] := by
      rw [hWf]
      have := (K2'.set 0 (.int .i64 0)).set 1 (.slice none 0 0)
      simpa using this
    have Bf : Below w.heap.size w Wf := by rw [hWf]; exact Below.setCell (Below.setCell B1 (by first | omega | (simp; done) | (simp; omega)) _) (by first | omega | (simp; done) | (simp; omega)) _
    have Gf := K2f.cell
    clear hWf G1 G2 F2
    exact bodyPost_ret (v := .tuple #[.agg #[.int .i64 0, .slice none 0 0], .bool false]) (by simp [results, Tryz.results152, go_sem, Gf]) rfl ⟨none, 0, 0, by rw [HN.out, HF.out], by rw [HL.out]; exact OwnI.nil _ _ _, Bf⟩
  | true =>
    obtain ⟨N, rfl, h5, hl2, hl32, hlb⟩ := fun_nat (rank_fun hf)
    have hp0 := Nat.two_pow_pos N
    have hN : matN N l = N := by unfold matN; rw [hf]; rfl
    have hL : basL N l = chosen (basP l) l.length := by unfold basL; rw [hf, if_pos rfl]
    obtain ⟨av, b, off, cv, hve, _, hix, hc, hb⟩ := hv1.view Tryz.prog 22 3 Tryz.underlying22 intElem
    injection hve with e1 _ e3
    subst e1 e3
    have htop : l.length - 1 < l.length := by omega
    have ck2 := hc (l.length - 1) htop
    have ik2 := fun W => hix W (l.length - 1) htop
    rw [show ((l.length - 1 : Nat) : Int) = (l.length : Int) - 1 by omega] at ik2
    have wl : IntKind.i64.wrap ((l.length : Int) - 1) = (l.length : Int) - 1 := by rw [IntKind.wrap_i64]; omega
    obtain ⟨t, ht⟩ : ∃ t, t = topL l := ⟨_, rfl⟩
    rw [show l[l.length - 1] = t by rw [ht]; exact (getD_at l _ htop).symm] at ck2
    have hP : ∀ s, (h : s < l.length) → basP l s = (decide (l[s] = t) && decide ((pop s : Int) = t)) := fun s h => by rw [basP_is, getD_at l s h, ht]
    obtain ⟨P, hPP⟩ : ∃ P, P = basP l := ⟨_, rfl⟩
    rw [← hPP] at hL
    simp only [← hPP] at hP
    have HP := Lib.hid hP
    have HN := Lib.hid hN
    have HL := Lib.hid hL
    have HF := Lib.hid hf
    have HC := Lib.hid hc
    have HIX := Lib.hid hix
    have o0 := OwnI.lit0 (E := 3) (B := w1.heap.size) w1 (Nat.le_refl _)
    clear hN hL hf hlb hl2 hp0 hPP hP ht hc hix
    go_wp2_with fail
    go_loopw [5, 6] (fun out i wr => ∃ (k : Nat) (ad : Option Addr) (nn cp : Nat), k ≤ l.length ∧ out = .slice ad nn cp ∧ i = .int .i64 k ∧ OwnI 3 w1.heap.size wr (.slice ad nn cp) (chosen P k) ∧ Below w1.heap.size w1 wr)
      (fun _ i _ => l.length - (intOf i).toNat)
    case atStart => exact ⟨0, _, _, _, Nat.zero_le _, rfl, rfl, o0, bl1 _ _⟩
    case round =>
      obtain ⟨k, ad, nn, cp, hk, rfl, rfl, ho, B⟩ := hrel
      obtain ⟨wo, rfl⟩ : ∃ z : World, z = wr := ⟨_, rfl⟩
      have HO := Lib.hid ho
      clear ho o0 G1 G2 F2
      have G1 := (K1'.keep B).cell
      have zw := B.size
      by_cases hlt : k < l.length
      · have hlt2 : (k : Int) < (l.length : Int) := by omega
        have hcs := chosen_succ P k
        have hlk : (chosen P k).length ≤ 64 := Nat.le_trans (chosen_len P k) (by omega)
        have HCS := Lib.hid hcs
        have ckk := cells_below HC.out hb B (Nat.le_refl _) k hlt
        have ikk := fun W => HIX.out W k hlt
        have hpk := HP.out k hlt
        have hsz := l2Size_any k wo (by omega)
        obtain ⟨x, hx⟩ : ∃ x, x = l[k] := ⟨_, rfl⟩
        rw [← hx] at ckk hpk
        obtain ⟨p, hp⟩ : ∃ p : Nat, p = pop k := ⟨_, rfl⟩
        rw [← hp] at hsz hpk
        have HSZ := Lib.hid hsz
        clear hcs hx hp hsz
        have bx : (x == t) = decide (x = t) := by by_cases h : x = t <;> simp [h]
        have bp : ((p : Int) == t) = decide ((p : Int) = t) := by by_cases h : (p : Int) = t <;> simp [h]
        cases h1 : decide (x = t) with
        | false =>
          rw [h1] at bx hpk
          have HPK := Lib.hid hpk
          clear hpk h1
          go_wp2
          go_roundw
          case rel => exact ⟨k + 1, ad, nn, cp, by omega, rfl, by go_num, by rw [HCS.out, HPK.out]; exact HO.out, B⟩
          case measure => simp [intOf]; omega
        | true =>
          rw [h1] at bx hpk
          clear h1
          cases h2 : decide ((p : Int) = t) with
          | false =>
            rw [h2] at bp hpk
            have HPK := Lib.hid hpk
            clear hpk h2
            go_wp2_with (go_at_call 148; refine HSZ.out.mono ?_; rintro e w' ⟨rfl, rfl⟩)
            go_roundw
            case rel => exact ⟨k + 1, ad, nn, cp, by omega, rfl, by go_num, by rw [HCS.out, HPK.out]; exact HO.out, B⟩
            case measure => simp [intOf]; omega
          | true =>
            rw [h2] at bp hpk
            have HPK := Lib.hid hpk
            clear hpk h2
            go_wp2_with (first
              | (go_at_call 148; refine HSZ.out.mono ?_; rintro e w' ⟨rfl, rfl⟩)
              | (at_builtin; refine wpList_appendI rfl _ _ _ rfl 3 Tryz.underlying22 intElem w1.heap.size _ _ (k : Int) wo.heap.size rfl rfl (cell_new wo #[.int .i64 k] 3 0 _ rfl) (HO.out.alloc _) ⟨by omega, by omega⟩ (by omega) (by first | omega | (simp; done) | (simp; omega)) ?_; intro v' w6 hown hgr; obtain ⟨av, nv, cv, rfl⟩ := hown.shape3))
            have B6 : Below w1.heap.size w1 w6 := (B.alloc B.size (.cells #[.int .i64 k] 3)).grown hgr (by simp; omega) (fun q hq => (HO.out.lt q hq).1)
            go_roundw
            case rel => exact ⟨k + 1, av, nv, cv, by omega, rfl, by go_num, by rw [HCS.out, HPK.out]; exact hown, B6⟩
            case measure => simp [intOf]; omega
      · have hlt2 : ¬ (k : Int) < (l.length : Int) := by omega
        have hkN : k = l.length := by omega
        subst hkN
        have K2'' := K2'.keep B
        have y2 := K2''.lt
        have G2 := K2''.cell
        have F2 := K2''.frozen
        have yy := B1.size
        go_wp2
        refine post_named ?_
        intro Wf hWf
        have K2f : Blk Wf (w.heap.size + 1) 37 #[.int .i64 N, .slice ad nn cp] := by
          rw [hWf]
          have := (K2''.set 0 (.int .i64 N)).set 1 (.slice ad nn cp)
          simpa using this
        have Bf : Below w.heap.size w Wf := by rw [hWf]; exact Below.setCell (Below.setCell (B1.after B B1.size) (by first | omega | (simp; done) | (simp; omega)) _) (by first | omega | (simp; done) | (simp; omega)) _
        have of : OwnI 3 w.heap.size Wf (.slice ad nn cp) (chosen P l.length) := by rw [hWf]; exact ((HO.out.setBelow (by first | omega | (simp; done) | (simp; omega)) _).setBelow (by first | omega | (simp; done) | (simp; omega)) _).mono (by first | omega | (simp; done) | (simp; omega))
        have Gf := K2f.cell
        clear hWf G1 G2 F2
        exact bodyPost_ret (v := .tuple #[.agg #[.int .i64 N, .slice ad nn cp], .bool true]) (by simp [results, Tryz.results152, go_sem, Gf]) rfl ⟨ad, nn, cp, by rw [HN.out, HF.out], by rw [HL.out]; exact of, Bf⟩

end Go.Proofs.YtpaoiiiceekkkaaGreatDoor
end
