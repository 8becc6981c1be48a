/- The largest part and the number of lists: the second program. -/
import Derived.Test.YtmfenalnmpndmaaHallN
namespace Go.Proofs.Ytmfenalnmpndmaa
open Go.RowKit Go.G5

theorem drop_len (l : List Int) (i : Nat) (h : l.length ≤ 6) : ((natL l).drop i).length ≤ 6 := by rw [List.length_drop, natL_len]; omega
set_option maxHeartbeats 4000000 in
set_option maxRecDepth 100000 in
theorem most28_any (l : List Int) (lv : Value) (G : Nat) (hG : G ≤ 6) (hm : ∀ x ∈ l, 0 ≤ x ∧ x < 2 ^ G) (hl6 : l.length ≤ 6) : ∀ (n i used : Nat) (w : World), i + n = l.length → Ints w lv l → used < 64 →
    Calls Try.prog 104 #[.int .i64 G, lv, .int .i64 i, .int .i64 used] w fun e w' => e = .returned (.int .i64 ((mostL G ((natL l).drop i) used : Nat) : Int)) ∧ w = w' := by
  have HM := Lib.hid hm
  clear hm
  intro n
  induction n with
  | zero =>
    intro i used w hn hlv hu
    obtain ⟨a, c, rfl⟩ := hlv.shape
    have ht : ((i : Int) == (l.length : Int)) = true := by simp; omega
    have hx : mostL G ((natL l).drop i) used = 0 := by rw [List.drop_eq_nil_of_le (by rw [natL_len]; omega)]; rfl
    have HX := Lib.hid hx
    clear hx hn
    go_enter Try.func104, Try.ntmps104
    go_wp2_with fail
    go_ret
    exact ⟨ret_int (by rw [HX.out]; rfl), rfl⟩
  | succ n ih =>
    intro i used w hn hlv hu
    have hlv0 := hlv
    obtain ⟨a, b, off, c, rfl, hlen, hix, hc, hb⟩ := hlv.view Try.prog 24 3 Try.underlying24 intElem
    have hlt : i < l.length := by omega
    have ht : ((i : Int) == (l.length : Int)) = false := by simp; omega
    have hxb := HM.out _ (List.getElem_mem hlt)
    have hcell := hc i hlt
    have hixk := fun W => hix W i hlt
    have hd := natL_drop l i hlt
    rw [getD_at l i hlt] at hd
    obtain ⟨x, hx⟩ : ∃ x : Nat, l[i] = (x : Int) := ⟨l[i].toNat, by omega⟩
    rw [hx] at hxb hcell hd
    rw [Int.toNat_natCast] at hd
    have hxG : x < 2 ^ G := by have := hxb.2; exact_mod_cast this
    have hx64 : x < 64 := Nat.lt_of_lt_of_le hxG (Nat.pow_le_pow_right (n := 2) (by decide) hG)
    have hrec0 := ih (i + 1) used w (by omega) hlv0 hu
    have hdl := drop_len l (i + 1) hl6
    have hrecA : ∀ u : Nat, u < 64 → Calls Try.prog 104 #[.int .i64 G, .slice a l.length c, .int .i64 ((i : Int) + 1), .int .i64 (u : Int)] w fun e w' => e = .returned (.int .i64 ((mostL G ((natL l).drop (i + 1)) u : Nat) : Int)) ∧ w = w' := fun u hu => by
      have := ih (i + 1) u w (by omega) hlv0 hu
      rw [show (((i + 1 : Nat)) : Int) = (i : Int) + 1 by omega] at this
      exact this
    obtain ⟨t, ht'⟩ : ∃ t, t = (natL l).drop (i + 1) := ⟨_, rfl⟩
    rw [← ht'] at hd hdl
    simp only [← ht'] at hrecA
    have hrec0 := hrecA used hu
    obtain ⟨P, hP⟩ : ∃ P, P = frB x used := ⟨_, rfl⟩
    obtain ⟨F, hF⟩ : ∃ F : Nat → Nat, F = fun e => 1 + mostL G t (used ||| 2 ^ e) := ⟨_, rfl⟩
    obtain ⟨z, hz⟩ : ∃ z, z = mostL G t used := ⟨_, rfl⟩
    have hst : mostL G ((natL l).drop i) used = maxTo P F z G := by rw [hd, mostL, hP, hF, hz]
    have hz6 : z ≤ 6 := by rw [hz]; exact Nat.le_trans (mostL_le G t used) hdl
    have hF7 : ∀ e, F e ≤ 7 := fun e => by rw [hF]; have := mostL_le G t (used ||| 2 ^ e); simp only []; omega
    have hmx : ∀ k, maxTo P F z k ≤ 7 := fun k => by
      rcases maxTo_is P F z k with h | ⟨e, _, _, h⟩
      · omega
      · rw [h]; exact hF7 e
    rw [← hz] at hrec0
    have HREC0 := Lib.hid hrec0
    have HRECA := Lib.hid hrecA
    have HST := Lib.hid hst
    have HMX := Lib.hid hmx
    have HP := Lib.hid hP
    have HF := Lib.hid hF
    have IH := Lib.hid ih
    clear hn hx hF hP ih hc hix hxb hxG hst hmx hF7 hrec0 hrecA hz ht' hd hb
    go_enter Try.func104, Try.ntmps104
    go_wp2_with (go_at_call 104; refine HREC0.out.mono ?_; rintro e w' ⟨rfl, rfl⟩)
    go_loop [9, 10] (fun m e => ∃ k : Nat, k ≤ G ∧ e = .int .i64 k ∧ m = .int .i64 ((maxTo P F z k : Nat) : Int)) (fun _ e => G - (intOf e).toNat)
    case atStart => exact ⟨0, Nat.zero_le _, rfl, rfl⟩
    case round =>
      obtain ⟨k, hk, rfl, rfl⟩ := hrel
      by_cases hkG : k < G
      · have hms : maxTo P F z (k + 1) = if P k then max (maxTo P F z k) (F k) else maxTo P F z k := rfl
        have hm7 := HMX.out k
        have hPk : P k = (nbit x k && !nbit used k) := by rw [HP.out]; rfl
        have hbx := bit_is (x : Int) k (by omega) (by omega)
        have hbu := bit_is (used : Int) k (by omega) (by omega)
        have hnx := nbit_is x k
        have hnu := ibit_zero used k
        obtain ⟨y, hy⟩ : ∃ y, y = ibit (x : Int) k := ⟨_, rfl⟩
        obtain ⟨z2, hz2⟩ : ∃ y, y = ibit (used : Int) k := ⟨_, rfl⟩
        rw [← hy] at hbx hnx
        rw [← hz2] at hbu hnu
        obtain ⟨M, hM⟩ : ∃ M, M = maxTo P F z k := ⟨_, rfl⟩
        rw [← hM] at hms hm7 ⊢
        have HMS := Lib.hid hms
        clear hy hz2 hms hM
        cases h1 : nbit x k with
        | false =>
          have hy1 : (y == 1) = false := by rw [hnx, h1]
          have hpf : P k = false := by rw [hPk, h1]; rfl
          have HPF := Lib.hid hpf
          clear h1 hnx hPk hpf hnu
          go_wp2
          go_round
          case rel => exact ⟨k + 1, by omega, by go_num, by rw [HMS.out, HPF.out]; rfl⟩
          case measure => simp [intOf]; omega
        | true =>
          have hy1 : (y == 1) = true := by rw [hnx, h1]
          cases h2 : nbit used k with
          | true =>
            have hz1 : (z2 == 0) = false := by rw [hnu, h2]; rfl
            have hpf : P k = false := by rw [hPk, h1, h2]; rfl
            have HPF := Lib.hid hpf
            clear h1 h2 hnx hPk hpf hnu
            go_wp2
            go_round
            case rel => exact ⟨k + 1, by omega, by go_num, by rw [HMS.out, HPF.out]; rfl⟩
            case measure => simp [intOf]; omega
          | false =>
            have hz1 : (z2 == 0) = true := by rw [hnu, h2]; rfl
            have hpt : P k = true := by rw [hPk, h1, h2]; rfl
            have hp := pow2_bd' (k : Int) (by omega)
            have hto : (2 : Int) ^ (k : Int).toNat = 2 ^ k := by simp
            rw [hto] at hp
            have hor : bits .or .i64 (used : Int) (2 ^ k) = ior used (2 ^ k) := ior_is (by omega) (by omega) (by omega) (by omega)
            have hob := ior_bd used (2 ^ k) 6 (by omega) (by omega) (by omega) (by omega)
            rw [ior_nat] at hor hob
            have hrec := HRECA.out (used ||| 2 ^ k) (by omega)
            have hFk : F k = 1 + mostL G t (used ||| 2 ^ k) := by rw [HF.out]
            have hle := Nat.le_trans (mostL_le G t (used ||| 2 ^ k)) hdl
            obtain ⟨u2, hu2⟩ : ∃ u2, u2 = used ||| 2 ^ k := ⟨_, rfl⟩
            rw [← hu2] at hor hrec hFk hle
            obtain ⟨r, hr⟩ : ∃ r, r = mostL G t u2 := ⟨_, rfl⟩
            rw [← hr] at hrec hFk hle
            have HREC := Lib.hid hrec
            have HFK := Lib.hid hFk
            have HPT := Lib.hid hpt
            have hp1 := hp.1
            have hp2 := hp.2
            clear hrec hFk hr hu2 hob hto hp h1 h2 hnx hPk hpt hnu
            go_wp2_with (go_at_call 104; refine HREC.out.mono ?_; rintro e w' ⟨rfl, rfl⟩)
            go_round
            case rel => exact ⟨k + 1, by omega, by go_num, by rw [HMS.out, HPT.out, if_pos rfl, HFK.out]; congr 1; split <;> omega⟩
            case measure => simp [intOf]; omega
      · have hkk : k = G := by omega
        have HK := Lib.hid hkk
        clear hkk
        go_wp2
        go_ret
        exact ⟨ret_int (by rw [HST.out, HK.out]), rfl⟩
theorem sumTo_mono (P : Nat → Bool) (F : Nat → Nat) (b : Nat) (h : ∀ k, F k ≤ b) (n k : Nat) (hk : k ≤ n) : sumTo P F k ≤ n * b := Nat.le_trans (sumTo_le P F b h k) (Nat.mul_le_mul hk (Nat.le_refl _))
set_option maxHeartbeats 4000000 in
set_option maxRecDepth 100000 in
theorem count28_any (l : List Int) (lv : Value) (G : Nat) (hG : G ≤ 6) (hm : ∀ x ∈ l, 0 ≤ x ∧ x < 2 ^ G) (hl6 : l.length ≤ 6) : ∀ (n i used : Nat) (w : World), i + n = l.length → Ints w lv l → used < 64 →
    Calls Try.prog 106 #[.int .i64 G, lv, .int .i64 i, .int .i64 used] w fun e w' => e = .returned (.int .i64 ((cntL G ((natL l).drop i) used : Nat) : Int)) ∧ w = w' := by
  have HM := Lib.hid hm
  clear hm
  intro n
  induction n with
  | zero =>
    intro i used w hn hlv hu
    obtain ⟨a, c, rfl⟩ := hlv.shape
    have ht : ((i : Int) == (l.length : Int)) = true := by simp; omega
    have hx : cntL G ((natL l).drop i) used = 1 := by rw [List.drop_eq_nil_of_le (by rw [natL_len]; omega)]; rfl
    have HX := Lib.hid hx
    clear hx hn
    go_enter Try.func106, Try.ntmps106
    go_wp2_with fail
    go_ret
    exact ⟨ret_int (by rw [HX.out]; rfl), rfl⟩
  | succ n ih =>
    intro i used w hn hlv hu
    have hlv0 := hlv
    obtain ⟨a, b, off, c, rfl, hlen, hix, hc, hb⟩ := hlv.view Try.prog 24 3 Try.underlying24 intElem
    have hlt : i < l.length := by omega
    have ht : ((i : Int) == (l.length : Int)) = false := by simp; omega
    have hxb := HM.out _ (List.getElem_mem hlt)
    have hcell := hc i hlt
    have hixk := fun W => hix W i hlt
    have hd := natL_drop l i hlt
    rw [getD_at l i hlt] at hd
    obtain ⟨x, hx⟩ : ∃ x : Nat, l[i] = (x : Int) := ⟨l[i].toNat, by omega⟩
    rw [hx] at hxb hcell hd
    rw [Int.toNat_natCast] at hd
    have hxG : x < 2 ^ G := by have := hxb.2; exact_mod_cast this
    have hx64 : x < 64 := Nat.lt_of_lt_of_le hxG (Nat.pow_le_pow_right (n := 2) (by decide) hG)
    have hdl := drop_len l (i + 1) hl6
    have hrecA : ∀ u : Nat, u < 64 → Calls Try.prog 106 #[.int .i64 G, .slice a l.length c, .int .i64 ((i : Int) + 1), .int .i64 (u : Int)] w fun e w' => e = .returned (.int .i64 ((cntL G ((natL l).drop (i + 1)) u : Nat) : Int)) ∧ w = w' := fun u hu => by
      have := ih (i + 1) u w (by omega) hlv0 hu
      rw [show (((i + 1 : Nat)) : Int) = (i : Int) + 1 by omega] at this
      exact this
    obtain ⟨t, ht'⟩ : ∃ t, t = (natL l).drop (i + 1) := ⟨_, rfl⟩
    rw [← ht'] at hd hdl
    simp only [← ht'] at hrecA
    obtain ⟨P, hP⟩ : ∃ P, P = frB x used := ⟨_, rfl⟩
    obtain ⟨F, hF⟩ : ∃ F : Nat → Nat, F = fun e => cntL G t (used ||| 2 ^ e) := ⟨_, rfl⟩
    have hst : cntL G ((natL l).drop i) used = sumTo P F G := by rw [hd, cntL, hP, hF]
    have hc6 : ∀ u, cntL G t u ≤ 46656 := fun u => Nat.le_trans (cntL_le G hG t u) (Nat.le_trans (Nat.pow_le_pow_right (by decide) hdl) (by decide))
    have hF7 : ∀ e, F e ≤ 46656 := fun e => by rw [hF]; exact hc6 _
    have hmx : ∀ k, k ≤ 6 → sumTo P F k ≤ 6 * 46656 := fun k hk => sumTo_mono P F 46656 hF7 6 k hk
    have HC6 := Lib.hid hc6
    have HRECA := Lib.hid hrecA
    have HST := Lib.hid hst
    have HMX := Lib.hid hmx
    have HP := Lib.hid hP
    have HF := Lib.hid hF
    clear hn hx hF hP ih hc hix hxb hxG hst hmx hF7 hrecA ht' hd hb hc6
    go_enter Try.func106, Try.ntmps106
    go_wp2_with fail
    go_loop [9, 10] (fun m e => ∃ k : Nat, k ≤ G ∧ e = .int .i64 k ∧ m = .int .i64 ((sumTo P F k : Nat) : Int)) (fun _ e => G - (intOf e).toNat)
    case atStart => exact ⟨0, Nat.zero_le _, rfl, rfl⟩
    case round =>
      obtain ⟨k, hk, rfl, rfl⟩ := hrel
      by_cases hkG : k < G
      · have hms : sumTo P F (k + 1) = if P k then sumTo P F k + F k else sumTo P F k := rfl
        have hm7 := HMX.out k (by omega)
        have hPk : P k = (nbit x k && !nbit used k) := by rw [HP.out]; rfl
        have hbx := bit_is (x : Int) k (by omega) (by omega)
        have hbu := bit_is (used : Int) k (by omega) (by omega)
        have hnx := nbit_is x k
        have hnu := ibit_zero used k
        obtain ⟨y, hy⟩ : ∃ y, y = ibit (x : Int) k := ⟨_, rfl⟩
        obtain ⟨z2, hz2⟩ : ∃ y, y = ibit (used : Int) k := ⟨_, rfl⟩
        rw [← hy] at hbx hnx
        rw [← hz2] at hbu hnu
        obtain ⟨M, hM⟩ : ∃ M, M = sumTo P F k := ⟨_, rfl⟩
        rw [← hM] at hms hm7 ⊢
        have HMS := Lib.hid hms
        clear hy hz2 hms hM
        cases h1 : nbit x k with
        | false =>
          have hy1 : (y == 1) = false := by rw [hnx, h1]
          have hpf : P k = false := by rw [hPk, h1]; rfl
          have HPF := Lib.hid hpf
          clear h1 hnx hPk hpf hnu
          go_wp2
          go_round
          case rel => exact ⟨k + 1, by omega, by go_num, by rw [HMS.out, HPF.out]; rfl⟩
          case measure => simp [intOf]; omega
        | true =>
          have hy1 : (y == 1) = true := by rw [hnx, h1]
          cases h2 : nbit used k with
          | true =>
            have hz1 : (z2 == 0) = false := by rw [hnu, h2]; rfl
            have hpf : P k = false := by rw [hPk, h1, h2]; rfl
            have HPF := Lib.hid hpf
            clear h1 h2 hnx hPk hpf hnu
            go_wp2
            go_round
            case rel => exact ⟨k + 1, by omega, by go_num, by rw [HMS.out, HPF.out]; rfl⟩
            case measure => simp [intOf]; omega
          | false =>
            have hz1 : (z2 == 0) = true := by rw [hnu, h2]; rfl
            have hpt : P k = true := by rw [hPk, h1, h2]; rfl
            have hp := pow2_bd' (k : Int) (by omega)
            have hto : (2 : Int) ^ (k : Int).toNat = 2 ^ k := by simp
            rw [hto] at hp
            have hor : bits .or .i64 (used : Int) (2 ^ k) = ior used (2 ^ k) := ior_is (by omega) (by omega) (by omega) (by omega)
            have hob := ior_bd used (2 ^ k) 6 (by omega) (by omega) (by omega) (by omega)
            rw [ior_nat] at hor hob
            have hrec := HRECA.out (used ||| 2 ^ k) (by omega)
            have hFk : F k = cntL G t (used ||| 2 ^ k) := by rw [HF.out]
            have hle := HC6.out (used ||| 2 ^ k)
            obtain ⟨u2, hu2⟩ : ∃ u2, u2 = used ||| 2 ^ k := ⟨_, rfl⟩
            rw [← hu2] at hor hrec hFk hle
            obtain ⟨r, hr⟩ : ∃ r, r = cntL G t u2 := ⟨_, rfl⟩
            rw [← hr] at hrec hFk hle
            have HREC := Lib.hid hrec
            have HFK := Lib.hid hFk
            have HPT := Lib.hid hpt
            have hp1 := hp.1
            have hp2 := hp.2
            clear hrec hFk hr hu2 hob hto hp h1 h2 hnx hPk hpt hnu
            go_wp2_with (go_at_call 106; refine HREC.out.mono ?_; rintro e w' ⟨rfl, rfl⟩)
            go_round
            case rel => exact ⟨k + 1, by omega, by go_num, by rw [HMS.out, HPT.out, if_pos rfl, HFK.out]; push_cast; go_num⟩
            case measure => simp [intOf]; omega
      · have hkk : k = G := by omega
        have HK := Lib.hid hkk
        clear hkk
        go_wp2
        go_ret
        exact ⟨ret_int (by rw [HST.out, HK.out]), rfl⟩
set_option maxHeartbeats 2000000 in
set_option maxRecDepth 100000 in
theorem lpS_any (w : World) (g : Int) (v : Value) (l : List Int) (hv : Ints w v l) :
    Calls Try.prog 47 #[.int .i64 g, v] w fun e w' => e = .returned (.tuple #[.int .i64 (mstR g l), .bool (fewB g l)]) ∧ Below w.heap.size w w' := by
  have hv0 := hv
  obtain ⟨a, c, rfl⟩ := hv.shape
  have HL := Lib.hid (l28Lists_any g l _ w hv0)
  cases hf : fewB g l with
  | false =>
    have hx : mstR g l = 0 := by unfold mstR; rw [hf]; rfl
    have HX := Lib.hid hx
    rw [hf] at HL
    clear hx hf
    go_enter Try.func47, Try.ntmps47
    go_wp2_with (go_at_call 98; refine HL.out.mono ?_; rintro e w1 ⟨rfl, b1⟩)
    go_ret2
    refine ⟨?_, b1⟩
    rw [HX.out]
    rfl
  | true =>
    obtain ⟨G, rfl, hG, hl6, hm, _⟩ := few_set hf
    have hx : mstR (G : Int) l = ((mostL G (natL l) 0 : Nat) : Int) := by unfold mstR; rw [hf, Int.toNat_natCast]; rfl
    rw [hf] at HL
    have HM := Lib.hid hm
    have HX := Lib.hid hx
    have hr := fun W (y : Ints W (.slice a l.length c) l) => most28_any l _ G hG hm hl6 l.length 0 0 W (by omega) y (by omega)
    simp only [List.drop_zero] at hr
    have HR := Lib.hid hr
    clear hx hf hm hr
    go_enter Try.func47, Try.ntmps47
    go_wp2_with (first
      | (go_at_call 98; refine HL.out.mono ?_; rintro e w1 ⟨rfl, b1⟩)
      | (go_at_call 104; refine (HR.out _ (hv0.keep b1)).mono ?_; rintro e w2 ⟨rfl, rfl⟩))
    go_ret2
    refine ⟨?_, b1⟩
    rw [HX.out]
    rfl
set_option maxHeartbeats 2000000 in
set_option maxRecDepth 100000 in
theorem cntS28_any (w : World) (g : Int) (v : Value) (l : List Int) (hv : Ints w v l) :
    Calls Try.prog 50 #[.int .i64 g, v] w fun e w' => e = .returned (.int .i64 (cntR g l)) ∧ Below w.heap.size w w' := by
  have hv0 := hv
  obtain ⟨a, c, rfl⟩ := hv.shape
  have HL := Lib.hid (l28Lists_any g l _ w hv0)
  cases hf : fewB g l with
  | false =>
    have hx : cntR g l = -1 := by unfold cntR; rw [hf]; rfl
    have HX := Lib.hid hx
    rw [hf] at HL
    clear hx hf
    go_enter Try.func50, Try.ntmps50
    go_wp2_with (go_at_call 98; refine HL.out.mono ?_; rintro e w1 ⟨rfl, b1⟩)
    go_ret
    refine ⟨?_, b1⟩
    rw [HX.out]
    rfl
  | true =>
    obtain ⟨G, rfl, hG, hl6, hm, _⟩ := few_set hf
    have hx : cntR (G : Int) l = ((cntL G (natL l) 0 : Nat) : Int) := by unfold cntR; rw [hf, Int.toNat_natCast]; rfl
    rw [hf] at HL
    have HM := Lib.hid hm
    have HX := Lib.hid hx
    have hr := fun W (y : Ints W (.slice a l.length c) l) => count28_any l _ G hG hm hl6 l.length 0 0 W (by omega) y (by omega)
    simp only [List.drop_zero] at hr
    have HR := Lib.hid hr
    clear hx hf hm hr
    go_enter Try.func50, Try.ntmps50
    go_wp2_with (first
      | (go_at_call 98; refine HL.out.mono ?_; rintro e w1 ⟨rfl, b1⟩)
      | (go_at_call 106; refine (HR.out _ (hv0.keep b1)).mono ?_; rintro e w2 ⟨rfl, rfl⟩))
    go_ret
    refine ⟨?_, b1⟩
    rw [HX.out]
    rfl
end Go.Proofs.Ytmfenalnmpndmaa
