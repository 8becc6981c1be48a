/- Packings of bases: both programs. -/
import Derived.Test.YtpaoiiiceekkkaaDoorQ36
import Derived.Lib.MinMax
section
namespace Go.Proofs.YtpaoiiiceekkkaaDoor
open Go.RowKit Go.G5

set_option maxHeartbeats 4000000 in
set_option maxRecDepth 100000 in
theorem pkI_any (w : World) (n : Int) (v : Value) (l : List Int) (hv : Ints w v l) (hl : l.length ≤ 1048576) :
    Calls Tryd.prog 95 #[.agg #[.int .i64 n, v]] w fun e w' => e = .returned (.tuple #[.int .i64 (pvN n l), .bool (pvB n l)]) ∧ Below w.heap.size w w' := by
  have hv0 := hv
  obtain ⟨a, b, off, c, rfl, hlen, hix, hc, hb⟩ := hv.view Tryd.prog 22 3 Tryd.underlying22 intElem
  have K0 := Blk.new w 31 #[.int .i64 n, .slice a l.length c]
  obtain ⟨V, hV⟩ : ∃ V, V = w.alloc (.cells #[.int .i64 n, .slice a l.length c] 31) := ⟨_, rfl⟩
  have B : Below w.heap.size w V := by rw [hV]; exact bl1 _ _
  have K1 : Blk V w.heap.size 31 #[.int .i64 n, .slice a l.length c] := by rw [hV]; exact Blk.new _ _ _
  have hvV := hv0.below B (Nat.le_refl _)
  have e0 : ∀ y : Ext V, y.w.cell? ⟨w.heap.size, 0, none⟩ = some (.int .i64 n) := fun y => y.cell (K1.cell 0)
  have e1 : ∀ y : Ext V, y.w.cell? ⟨w.heap.size, 1, none⟩ = some (.slice a l.length c) := fun y => y.cell (K1.cell 1)
  have hrk : ∀ y : Ext V, Calls Tryd.prog 70 #[.agg #[.int .i64 n, .slice a l.length c]] y.w fun e w' => e = .returned (.bool (rankB n l)) ∧ Below y.w.heap.size y.w w' := fun y => rankI_any n l _ y.w (y.ints hvV) hl
  cases hf : rankB n l with
  | false =>
    simp only [hf] at hrk
    have HRK := Lib.hid hrk
    clear hrk
    have hB : pvB n l = false := by unfold pvB; rw [hf]; rfl
    have hN : pvN n l = 0 := by unfold pvN; rw [hB]; rfl
    have H := Lib.hid (And.intro hN hB)
    have HF := Lib.hid hf
    clear hB hN hf hc hix hlen
    go_enter Tryd.func95, Tryd.ntmps95
    go_wp2_with fail
    rw [← hV]
    clear hV K0
    refine wp_region_ext _ (by kernel_rfl) (by kernel_rfl) ?_
    repeat (first | go_big_quiet_skip | (go_big_quiet_want; go_big_quiet_op; first | go_big_quiet_on | (apply Exists.intro; refine ⟨fun _ => ?_, ?_⟩; (go_at_call 70; exact ext_call (HRK.out _)); go_big_quiet_on)))
    refine wpQuiet_nil ?_
    rintro w3 ⟨⟨w3, hb3⟩, rfl⟩
    try dsimp only
    go_wp2
    go_ret2
    exact ⟨by rw [H.out.1, H.out.2]; rfl, B.after hb3 B.size⟩
  | true =>
    simp only [hf] at hrk
    have HRK := Lib.hid hrk
    clear hrk
    obtain ⟨N, rfl, h5, hl2, hl32, hlb⟩ := fun_nat (rank_fun hf)
    have hp0 := Nat.two_pow_pos N
    have htop : l.length - 1 < l.length := by omega
    have ck2 := hc (l.length - 1) htop
    have ik2 := fun W => hix W (l.length - 1) htop
    have hg2 : topL l = l[l.length - 1] := getD_at l _ htop
    have htb := hlb _ htop
    have ht0 := (rank_top hf).1
    have hl0 := (rank_top hf).2
    obtain ⟨t, ht⟩ : ∃ t, t = topL l := ⟨_, rfl⟩
    rw [← hg2, ← ht] at ck2
    rw [← hg2, ← ht] at htb
    rw [← ht] at ht0
    have hpos : 0 < l.length := by omega
    have htb1 := htb.2
    clear hg2 htb
    have hti : ((l.length - 1 : Nat) : Int) = 2 ^ N - 1 := by
      have : ((2 ^ N : Nat) : Int) = (2 : Int) ^ N := by simp
      omega
    have hal : ∀ W, Ints W (.slice a l.length c) l → Calls Tryd.prog 152 #[.agg #[.int .i64 (N : Int), .slice a l.length c]] W fun e w' => e = .returned (.int .i64 (2 ^ N - 1)) ∧ Below W.heap.size W w' := fun W hW => by
      have := allOf_any (N : Int) (.slice a l.length c) l W hW (by omega) (by omega)
      rw [Int.toNat_natCast] at this
      exact this
    obtain ⟨A, hA⟩ : ∃ A : Int, A = 2 ^ N - 1 := ⟨_, rfl⟩
    rw [hti, ← hA] at ik2
    simp only [← hA] at hal
    have hpow : l.length ≤ 64 := by omega
    have hand : ∀ k : Nat, k < l.length → bits .andNot .i64 A (k : Int) = ((ndiff (2 ^ N - 1) k : Nat) : Int) ∧ ndiff (2 ^ N - 1) k < 64 ∧ pop (ndiff (2 ^ N - 1) k) = N - pop k ∧ pop k ≤ N := fun k hk => by
      refine ⟨?_, ?_, pop_comp N (by omega) k (by omega), pop_max N (by omega) k (by omega)⟩
      · rw [hA, ← hti, hl2]
        exact bitsN (2 ^ N - 1) k (by omega) (by omega)
      · exact Nat.lt_of_lt_of_le (ndiff_lt (2 ^ N - 1) k (2 ^ N) (by omega)) (by omega)
    have HAL := Lib.hid hal
    have HALx := Lib.hid (fun y : Ext V => hal y.w (y.ints hvV))
    have ck2V := cells_below hc hb B (Nat.le_refl _) (l.length - 1) htop
    have hg2' : l[l.length - 1] = t := by rw [ht]; exact (getD_at l _ htop).symm
    rw [hg2'] at ck2V
    have e2 : ∀ y : Ext V, y.w.cell? ⟨b, off + (l.length - 1), none⟩ = some (.int .i64 t) := fun y => y.cell ck2V
    have HAND := Lib.hid hand
    have HLB := Lib.hid hlb
    have HL2 := Lib.hid hl2
    have HC := Lib.hid hc
    have HIX := Lib.hid hix
    have HT := Lib.hid ht
    have HH := Lib.hid (And.intro hf (And.intro ht0 hl0))
    clear hf hal hti hA hand hlb hl2 hc hix ck2 hp0 hlen hg2' ht hl0
    by_cases hz : t = 0
    · have hzb : (t == 0) = true := by simp [hz]
      have hB : pvB N l = false := by unfold pvB; rw [HH.out.1, ← HT.out, hz]; rfl
      have hN : pvN N l = 0 := by unfold pvN; rw [hB]; rfl
      have H := Lib.hid (And.intro hN hB)
      clear hB hN hz
      go_enter Tryd.func95, Tryd.ntmps95
      go_wp2_with fail
      rw [← hV]
      clear hV K0
      refine wp_region_ext _ (by kernel_rfl) (by kernel_rfl) ?_
      repeat (first | go_big_quiet_skip | (go_big_quiet_want; go_big_quiet_op; first | go_big_quiet_on | (apply Exists.intro; refine ⟨fun _ => ?_, ?_⟩; (first | (go_at_call 70; exact ext_call (HRK.out _)) | (go_at_call 152; exact ext_call (HALx.out _))); go_big_quiet_on)))
      refine wpQuiet_nil ?_
      rintro w3 ⟨⟨w3, hb3⟩, rfl⟩
      try dsimp only
      go_wp2
      go_ret2
      exact ⟨by rw [H.out.1, H.out.2]; rfl, B.after hb3 B.size⟩
    · have hzb : (t == 0) = false := by simp [hz]
      have htp : 0 < t := by omega
      have hB : pvB N l = true := by unfold pvB; rw [HH.out.1, ← HT.out, hzb]; rfl
      have hN : pvN N l = pkTo l N N l.length := by
        unfold pvN
        rw [hB, if_pos rfl, Int.toNat_natCast]
        have := pk_start l N h5 HH.out.2.2 (by rw [← HT.out]; exact htp) (l.length - 1)
        rw [show l.length - 1 + 1 = l.length by omega] at this
        exact this.symm
      have hbd := pkTo_bd l N h5 (N : Int) (by omega)
      have HBD := Lib.hid hbd
      have H := Lib.hid (And.intro hN hB)
      clear hB hN hz hbd
      go_enter Tryd.func95, Tryd.ntmps95
      go_wp2_with fail
      rw [← hV]
      clear hV K0
      refine wp_region_ext _ (by kernel_rfl) (by kernel_rfl) ?_
      repeat (first | go_big_quiet_skip | (go_big_quiet_want; go_big_quiet_op; first | go_big_quiet_on | (apply Exists.intro; refine ⟨fun _ => ?_, ?_⟩; (first | (go_at_call 70; exact ext_call (HRK.out _)) | (go_at_call 152; exact ext_call (HALx.out _))); go_big_quiet_on)))
      refine wpQuiet_nil ?_
      rintro w3 ⟨⟨w3, hb3⟩, rfl⟩
      try dsimp only
      have B3 := B.after hb3 B.size
      have K3 := K1.keep hb3
      have G := K3.cell
      clear e0 e1 e2 K1
      go_wp2_with fail
      refine (HAL.out _ (hv0.below B3 (Nat.le_refl _))).mono ?_
      rintro e w4 ⟨rfl, hb4⟩
      have B4 := B3.after hb4 B3.size
      have K4 := K3.keep hb4
      clear G
      have G := K4.cell
      have ct := cells_below HC.out hb B4 (Nat.le_refl _) (l.length - 1) htop
      have hg2' : l[l.length - 1] = t := by rw [HT.out]; exact (getD_at l _ htop).symm
      rw [hg2'] at ct
      clear hg2'
      go_wp2_with fail
      go_loopw [5, 28] (fun mv iv wr => ∃ (k : Nat) (m : Int), k ≤ l.length ∧ iv = .int .i64 k ∧ mv = .int .i64 m ∧ m = pkTo l N N k ∧ wr = w4) (fun _ iv _ => l.length - (intOf iv).toNat)
      case atStart => exact ⟨0, N, Nat.zero_le _, rfl, rfl, rfl, rfl⟩
      case round =>
        obtain ⟨k, m, hk, rfl, rfl, hm, rfl⟩ := hrel
        by_cases hkl : k < l.length
        · have hkl2 : (k : Int) < (l.length : Int) := by omega
          have ckk := cells_below HC.out hb B4 (Nat.le_refl _) k hkl
          have ikk := fun W => HIX.out W k hkl
          have hxb := HLB.out k hkl
          have hgk := getD_at l k hkl
          have hst : pkTo l N N (k + 1) = if l.getD k 0 < topL l then min (pkTo l N N k) (Int.tdiv ((N : Int) - (pop k : Int)) (topL l - l.getD k 0)) else pkTo l N N k := rfl
          rw [hgk, ← HT.out, ← hm] at hst
          obtain ⟨hbits, hn64, hpc, hpk⟩ := HAND.out k hkl
          have hmb := HBD.out k (by have := HL2.out; omega)
          rw [← hm] at hmb
          obtain ⟨x, hx⟩ : ∃ x, x = l[k] := ⟨_, rfl⟩
          rw [← hx] at ckk hxb hst
          have hsz := sizeOf_any (ndiff (2 ^ N - 1) k) wr (by omega)
          rw [hpc] at hsz
          obtain ⟨d, hd⟩ : ∃ d : Nat, d = ndiff (2 ^ N - 1) k := ⟨_, rfl⟩
          rw [← hd] at hbits hsz
          obtain ⟨p, hp⟩ : ∃ p : Nat, p = N - pop k := ⟨_, rfl⟩
          have hpi : (N : Int) - (pop k : Int) = (p : Int) := by omega
          rw [← hp] at hsz
          rw [hpi] at hst
          have hx0 := hxb.1
          have hx1 := hxb.2
          have wa : IntKind.i64.wrap (t - x) = t - x := by rw [IntKind.wrap_i64]; omega
          have HSZ := Lib.hid hsz
          have hp5 : p ≤ 5 := by omega
          clear hx hgk hd hp hpi hsz hpc hpk hn64 hxb hm
          by_cases hlt : x < t
          · rw [if_pos hlt] at hst
            have hlt2 : 0 < t - x := by omega
            have hq := quo_bd (p : Int) (t - x) (by omega) hlt2
            have hzz : (t - x == 0) = false := by rw [beq_eq_false_iff_ne]; omega
            obtain ⟨r, hr⟩ : ∃ r, r = Int.tdiv (p : Int) (t - x) := ⟨_, rfl⟩
            rw [← hr] at hst hq
            have wr' : IntKind.i64.wrap r = r := by rw [IntKind.wrap_i64]; omega
            have hr2 : Int.tdiv (p : Int) (t - x) = r := hr.symm
            have HST := Lib.hid hst
            clear hst hr
            go_wp2_with (go_at_call 128; refine HSZ.out.mono ?_; rintro e w5 ⟨rfl, rfl⟩)
            go_roundw
            case rel => exact ⟨k + 1, min m r, by omega, by go_num, rfl, HST.out.symm, trivial⟩
            case measure => simp [intOf]; omega
          · rw [if_neg hlt] at hst
            have hlt2 : ¬ 0 < t - x := by omega
            have HST := Lib.hid hst
            clear hst
            go_wp2
            go_roundw
            case rel => exact ⟨k + 1, m, by omega, by go_num, rfl, HST.out.symm, trivial⟩
            case measure => simp [intOf]; omega
        · have hkl2 : ¬ (k : Int) < (l.length : Int) := by omega
          have hfin : m = pvN N l := by rw [H.out.1, hm, show k = l.length by omega]
          have HFI := Lib.hid hfin
          clear hfin hm
          go_wp2
          go_ret2
          exact ⟨by rw [H.out.2, HFI.out]; rfl, B4⟩

set_option maxHeartbeats 4000000 in
set_option maxRecDepth 100000 in
theorem pkS_any (w : World) (n : Int) (v : Value) (l : List Int) (hv : Ints w v l) (hl : l.length ≤ 1048576) :
    Calls Tryd.prog 90 #[.agg #[.int .i64 n, v]] w fun e w' => e = .returned (.tuple #[.int .i64 (pvN n l), .bool (pvB n l)]) ∧ Below w.heap.size w w' := by
  have hv0 := hv
  obtain ⟨a, b, off, c, rfl, hlen, hix, hc, hb⟩ := hv.view Tryd.prog 22 3 Tryd.underlying22 intElem
  have K0 := Blk.new w 31 #[.int .i64 n, .slice a l.length c]
  cases hf : rankB n l with
  | false =>
    have hB : pvB n l = false := by unfold pvB; rw [hf]; rfl
    have hN : pvN n l = 0 := by unfold pvN; rw [hB]; rfl
    have H := Lib.hid (And.intro hN hB)
    have HF := Lib.hid hf
    clear hB hN hf hc hix hlen
    go_enter Tryd.func90, Tryd.ntmps90
    go_wp2_with fail
    refine (rankS_any n l _ _ (hv0.alloc _) hl).mono ?_
    rintro e w1 ⟨rfl, hb1⟩
    rw [HF.out]
    go_wp2
    go_ret2
    exact ⟨by rw [H.out.1, H.out.2]; rfl, (bl1 _ _).after hb1 (by simp)⟩
  | true =>
    obtain ⟨N, rfl, h5, hl2, hl32, hlb⟩ := fun_nat (rank_fun hf)
    have hp0 := Nat.two_pow_pos N
    have htop : l.length - 1 < l.length := by omega
    have ck2 := hc (l.length - 1) htop
    have ik2 := fun W => hix W (l.length - 1) htop
    have hg2 : topL l = l[l.length - 1] := getD_at l _ htop
    have htb := hlb _ htop
    have ht0 := (rank_top hf).1
    have hl0 := (rank_top hf).2
    obtain ⟨t, ht⟩ : ∃ t, t = topL l := ⟨_, rfl⟩
    rw [← hg2, ← ht] at ck2
    rw [← hg2, ← ht] at htb
    rw [← ht] at ht0
    have hpos : 0 < l.length := by omega
    have htb1 := htb.2
    clear hg2 htb
    have hti : ((l.length - 1 : Nat) : Int) = (l.length : Int) - 1 := by omega
    rw [hti] at ik2
    have wl : IntKind.i64.wrap ((l.length : Int) - 1) = (l.length : Int) - 1 := by rw [IntKind.wrap_i64]; omega
    have hps : ∀ k : Nat, k < l.length → pop k ≤ N := fun k hk => pop_max N (by omega) k (by omega)
    have HPS := Lib.hid hps
    have HLB := Lib.hid hlb
    have HL2 := Lib.hid hl2
    have HC := Lib.hid hc
    have HIX := Lib.hid hix
    have HT := Lib.hid ht
    have HF := Lib.hid hf
    have HH := Lib.hid (And.intro ht0 hl0)
    have hg2' : l[l.length - 1] = t := by rw [ht]; exact (getD_at l _ htop).symm
    have HG2 := Lib.hid hg2'
    clear hf hti hlb hl2 hc hix ck2 hp0 hlen ht hl0 hps hg2'
    by_cases hz : t = 0
    · have hzb : (t == 0) = true := by simp [hz]
      have hB : pvB N l = false := by unfold pvB; rw [HF.out, ← HT.out, hz]; rfl
      have hN : pvN N l = 0 := by unfold pvN; rw [hB]; rfl
      have H := Lib.hid (And.intro hN hB)
      clear hB hN hz
      go_enter Tryd.func90, Tryd.ntmps90
      go_wp2_with fail
      refine (rankS_any N l _ _ (hv0.alloc _) hl).mono ?_
      rintro e w1 ⟨rfl, hb1⟩
      rw [HF.out]
      have B1 : Below w.heap.size w w1 := (bl1 _ _).after hb1 (by simp)
      have K1 := K0.keep hb1
      have G := K1.cell
      have ct := cells_below HC.out hb B1 (Nat.le_refl _) (l.length - 1) htop
      rw [HG2.out] at ct
      go_wp2
      go_ret2
      exact ⟨by rw [H.out.1, H.out.2]; rfl, B1⟩
    · have hzb : (t == 0) = false := by simp [hz]
      have htp : 0 < t := by omega
      have hB : pvB N l = true := by unfold pvB; rw [HF.out, ← HT.out, hzb]; rfl
      have hN : pvN N l = pkTo l N 100 l.length := by
        unfold pvN
        rw [hB, if_pos rfl, Int.toNat_natCast]
      have hbd := pkTo_bd l N h5 100 (by omega)
      have HBD := Lib.hid hbd
      have H := Lib.hid (And.intro hN hB)
      clear hB hN hz hbd
      go_enter Tryd.func90, Tryd.ntmps90
      go_wp2_with fail
      refine (rankS_any N l _ _ (hv0.alloc _) hl).mono ?_
      rintro e w1 ⟨rfl, hb1⟩
      rw [HF.out]
      have B1 : Below w.heap.size w w1 := (bl1 _ _).after hb1 (by simp)
      have K1 := K0.keep hb1
      have G := K1.cell
      have ct := cells_below HC.out hb B1 (Nat.le_refl _) (l.length - 1) htop
      rw [HG2.out] at ct
      clear K0 hb1
      go_wp2_with fail
      go_loopw [4, 6] (fun mv iv wr => ∃ (k : Nat) (m : Int), k ≤ l.length ∧ iv = .int .i64 k ∧ mv = .int .i64 m ∧ m = pkTo l N 100 k ∧ Below w1.heap.size w1 wr) (fun _ iv _ => l.length - (intOf iv).toNat)
      case atStart => exact ⟨0, 100, Nat.zero_le _, rfl, rfl, rfl, Below.refl _ _⟩
      case round =>
        obtain ⟨k, m, hk, rfl, rfl, hm, Br⟩ := hrel
        obtain ⟨wo, rfl⟩ : ∃ z : World, z = wr := ⟨_, rfl⟩
        have Bw := B1.after Br B1.size
        have K := K1.keep Br
        clear G ct
        have G := K.cell
        by_cases hkl : k < l.length
        · have hkl2 : (k : Int) < (l.length : Int) := by omega
          have ckk := cells_below HC.out hb Bw (Nat.le_refl _) k hkl
          have ikk := fun W => HIX.out W k hkl
          have hxb := HLB.out k hkl
          have hgk := getD_at l k hkl
          have hst : pkTo l N 100 (k + 1) = if l.getD k 0 < topL l then min (pkTo l N 100 k) (Int.tdiv ((N : Int) - (pop k : Int)) (topL l - l.getD k 0)) else pkTo l N 100 k := rfl
          rw [hgk, ← HT.out, ← hm] at hst
          have hpk := HPS.out k hkl
          obtain ⟨x, hx⟩ : ∃ x, x = l[k] := ⟨_, rfl⟩
          rw [← hx] at ckk hxb hst
          have hsz := fun W => l2Size_any k W (by omega)
          obtain ⟨p, hp⟩ : ∃ p : Nat, p = pop k := ⟨_, rfl⟩
          rw [← hp] at hst hpk
          simp only [← hp] at hsz
          have hx0 := hxb.1
          have hx1 := hxb.2
          have wa : IntKind.i64.wrap (t - x) = t - x := by rw [IntKind.wrap_i64]; omega
          have wb : IntKind.i64.wrap ((N : Int) - (p : Int)) = (N : Int) - (p : Int) := by rw [IntKind.wrap_i64]; omega
          have HSZ := Lib.hid hsz
          clear hx hgk hp hsz hxb hm
          by_cases hlt : x < t
          · rw [if_pos hlt] at hst
            have hlt2 : 0 < t - x := by omega
            have hq := quo_bd ((N : Int) - (p : Int)) (t - x) (by omega) hlt2
            have hzz : (t - x == 0) = false := by rw [beq_eq_false_iff_ne]; omega
            obtain ⟨r, hr⟩ : ∃ r, r = Int.tdiv ((N : Int) - (p : Int)) (t - x) := ⟨_, rfl⟩
            rw [← hr] at hst hq
            have wr' : IntKind.i64.wrap r = r := by rw [IntKind.wrap_i64]; omega
            have hr2 : Int.tdiv ((N : Int) - (p : Int)) (t - x) = r := hr.symm
            have HST := Lib.hid hst
            have e0 : ∀ y : Ext wo, y.w.cell? ⟨w.heap.size, 0, none⟩ = some (.int .i64 N) := fun y => y.cell (K.cell 0)
            have e1 : ∀ y : Ext wo, y.w.cell? ⟨w.heap.size, 1, none⟩ = some (.slice a l.length c) := fun y => y.cell (K.cell 1)
            have e2 : ∀ y : Ext wo, y.w.cell? ⟨b, off + k, none⟩ = some (.int .i64 x) := fun y => y.cell ckk
            clear hst hr
            go_wp2_with fail
            refine wp_region_ext _ (by kernel_rfl) (by kernel_rfl) ?_
            repeat (first | go_big_quiet_skip | (go_big_quiet_want; go_big_quiet_op; first | go_big_quiet_on | (apply Exists.intro; refine ⟨fun _ => ?_, ?_⟩; (go_at_call 117; exact ext_same (HSZ.out _)); go_big_quiet_on)))
            refine wpQuiet_nil ?_
            rintro w5 ⟨⟨w5, b5⟩, rfl⟩
            try dsimp only
            go_wp2
            go_roundw
            case rel => exact ⟨k + 1, min m r, by omega, by go_num, rfl, HST.out.symm, Br.after b5 Br.size⟩
            case measure => simp [intOf]; omega
          · rw [if_neg hlt] at hst
            have HST := Lib.hid hst
            clear hst
            go_wp2
            go_roundw
            case rel => exact ⟨k + 1, m, by omega, by go_num, rfl, HST.out.symm, Br⟩
            case measure => simp [intOf]; omega
        · have hkl2 : ¬ (k : Int) < (l.length : Int) := by omega
          have hfin : m = pvN N l := by rw [H.out.1, hm, show k = l.length by omega]
          have HFI := Lib.hid hfin
          clear hfin hm
          go_wp2
          go_ret2
          exact ⟨by rw [H.out.2, HFI.out]; rfl, Bw⟩
end Go.Proofs.YtpaoiiiceekkkaaDoor
end
