/- The deficiency: both programs. -/
import Derived.Test.YtmfenalnmpndmaaRepI
import Derived.Test.YtmfenalnmpndmaaRepS
namespace Go.Proofs.Ytmfenalnmpndmaa
open Go.RowKit Go.G5

def lackN (l : List Int) (code : Nat) : Int := (pop code : Int) - ipop (unionTo l code l.length)
def defTo (l : List Int) : Nat → Int
  | 0 => 0
  | k + 1 => max (defTo l k) (lackN l k)
def defN (g : Int) (l : List Int) : Int := if fewB g l then defTo l (2 ^ l.length) else -1
theorem lackN_bd (l : List Int) (hm : ∀ x ∈ l, 0 ≤ x ∧ x < 64) (k : Nat) (hk : k < 64) : -8 ≤ lackN l k ∧ lackN l k ≤ 8 := by
  have hub := unionTo_bd l k hm l.length (Nat.le_refl _)
  have hpu := ipop_bd (unionTo l k l.length) (by omega)
  have hpc := pop_le k (by omega)
  unfold lackN
  omega
theorem defTo_bd (l : List Int) (hm : ∀ x ∈ l, 0 ≤ x ∧ x < 64) : ∀ k, k ≤ 64 → 0 ≤ defTo l k ∧ defTo l k ≤ 8 := by
  intro k
  induction k with
  | zero => intro _; simp [defTo]
  | succ k ih =>
    intro hk
    have h1 := ih (by omega)
    have h2 := lackN_bd l hm k (by omega)
    rw [defTo]
    omega
set_option maxHeartbeats 2000000 in
set_option maxRecDepth 100000 in
theorem defI_any (w : World) (g : Int) (v : Value) (l : List Int) (hv : Ints w v l) :
    Calls Try.prog 45 #[.int .i64 g, v] w fun e w' => e = .returned (.int .i64 (defN g l)) ∧ w = w' := by
  have hv0 := hv
  obtain ⟨a, c, rfl⟩ := hv.shape
  cases hf : fewB g l with
  | false =>
    have hx : defN g l = -1 := by unfold defN; rw [hf]; rfl
    have HX := Lib.hid hx
    have HF := Lib.hid hf
    clear hx hf
    go_enter Try.func45, Try.ntmps45
    go_wp2_with (go_at_call 95; refine (areFew_any g l _ _ hv0).mono ?_; rintro e w1 ⟨rfl, rfl⟩; rw [HF.out])
    go_ret
    exact ⟨ret_int HX.out.symm, rfl⟩
  | true =>
    obtain ⟨hl6, _, _, _, hm⟩ := few_ok hf
    have hx : defN g l = defTo l (2 ^ l.length) := by unfold defN; rw [hf]; rfl
    have HF := Lib.hid hf
    have HM := Lib.hid hm
    have hp6 : (2 : Nat) ^ l.length ≤ 64 := Nat.pow_le_pow_right (n := 2) (by decide) hl6
    have hpi : ((2 ^ l.length : Nat) : Int) = (2 : Int) ^ l.length := by simp
    have hp1 : (2 : Int) ^ l.length ≤ 64 := by rw [← hpi]; exact_mod_cast hp6
    have hp2 := (two_pow l.length 6 hl6).2
    obtain ⟨N, hN⟩ : ∃ N : Nat, N = 2 ^ l.length := ⟨_, rfl⟩
    rw [← hN] at hx hp6 hpi
    have HX := Lib.hid hx
    have HPI := Lib.hid hpi
    clear hx hf hm hN hpi
    go_enter Try.func45, Try.ntmps45
    go_wp2_with (go_at_call 95; refine (areFew_any g l _ _ hv0).mono ?_; rintro e w1 ⟨rfl, rfl⟩; rw [HF.out])
    go_loop [5, 15] (fun m i => ∃ k : Nat, k ≤ N ∧ i = .int .i64 k ∧ m = .int .i64 (defTo l k)) (fun _ i => N - (intOf i).toNat)
    case atStart => exact ⟨0, Nat.zero_le _, rfl, rfl⟩
    case round =>
      obtain ⟨k, hk, rfl, rfl⟩ := hrel
      by_cases hlt : k < N
      · have hlt2 : (k : Int) < 2 ^ l.length := by rw [← HPI.out]; exact_mod_cast hlt
        have hlk := lackOf_any l _ w hv0 HM.out hl6 k (by omega)
        have hb1 := lackN_bd l HM.out k (by omega)
        have hb2 := defTo_bd l HM.out k (by omega)
        have hd : defTo l (k + 1) = max (defTo l k) (lackN l k) := rfl
        have e : (pop k : Int) - ipop (unionTo l k l.length) = lackN l k := rfl
        rw [e] at hlk
        obtain ⟨q, hq⟩ : ∃ q, q = lackN l k := ⟨_, rfl⟩
        obtain ⟨r, hr⟩ : ∃ r, r = defTo l k := ⟨_, rfl⟩
        rw [← hq] at hlk hb1 hd
        rw [← hr] at hb2 hd ⊢
        have HLK := Lib.hid hlk
        have HD := Lib.hid hd
        clear hlk hd e hq hr
        go_wp2_with (go_at_call 100; refine HLK.out.mono ?_; rintro e w' ⟨rfl, rfl⟩)
        go_round
        case rel => exact ⟨k + 1, by omega, by go_num, by rw [HD.out]; congr 1; split <;> omega⟩
        case measure => simp [intOf]; omega
      · have hlt2 : ¬ (k : Int) < 2 ^ l.length := by rw [← HPI.out]; omega
        have hkn : k = N := by omega
        have HK := Lib.hid hkn
        clear hkn
        go_wp2
        go_ret
        exact ⟨ret_int (by rw [HX.out, HK.out]), rfl⟩
theorem defTo_one (l : List Int) (hm : ∀ x ∈ l, 0 ≤ x ∧ x < 64) : defTo l 1 = 0 := by
  have h := lack_zero l hm
  unfold lackB at h
  have h := of_decide_eq_false h
  show max 0 (lackN l 0) = 0
  unfold lackN
  omega
set_option maxHeartbeats 2000000 in
set_option maxRecDepth 100000 in
theorem defS_any (w : World) (g : Int) (v : Value) (l : List Int) (hv : Ints w v l) :
    Calls Try.prog 49 #[.int .i64 g, v] w fun e w' => e = .returned (.int .i64 (defN g l)) ∧ Below w.heap.size w w' := by
  have hv0 := hv
  obtain ⟨a, c, rfl⟩ := hv.shape
  have HL := Lib.hid (l28Lists_any g l _ w hv0)
  cases hf : fewB g l with
  | false =>
    have hx : defN g l = -1 := by unfold defN; rw [hf]; rfl
    have HX := Lib.hid hx
    rw [hf] at HL
    clear hx hf
    go_enter Try.func49, Try.ntmps49
    go_wp2_with (go_at_call 98; refine HL.out.mono ?_; rintro e w1 ⟨rfl, b1⟩)
    go_ret
    exact ⟨ret_int HX.out.symm, b1⟩
  | true =>
    obtain ⟨hl6, _, _, _, hm⟩ := few_ok hf
    have hx : defN g l = defTo l (2 ^ l.length) := by unfold defN; rw [hf]; rfl
    rw [hf] at HL
    have HM := Lib.hid hm
    have hp6 : (2 : Nat) ^ l.length ≤ 64 := Nat.pow_le_pow_right (n := 2) (by decide) hl6
    have hpi : ((2 ^ l.length : Nat) : Int) = (2 : Int) ^ l.length := by simp
    have hp1 : (2 : Int) ^ l.length ≤ 64 := by rw [← hpi]; exact_mod_cast hp6
    have hp2 := (two_pow l.length 6 hl6).2
    have hpos := Nat.two_pow_pos l.length
    obtain ⟨N, hN⟩ : ∃ N : Nat, N = 2 ^ l.length := ⟨_, rfl⟩
    rw [← hN] at hx hp6 hpi hpos
    have HX := Lib.hid hx
    have HPI := Lib.hid hpi
    have H1 := Lib.hid (defTo_one l hm)
    clear hx hf hm hN hpi
    go_enter Try.func49, Try.ntmps49
    go_wp2_with (go_at_call 98; refine HL.out.mono ?_; rintro e w1 ⟨rfl, b1⟩)
    go_loop [5, 6] (fun m i => ∃ k : Nat, 1 ≤ k ∧ k ≤ N ∧ i = .int .i64 k ∧ m = .int .i64 (defTo l k)) (fun _ i => N - (intOf i).toNat)
    case atStart => exact ⟨1, Nat.le_refl _, by omega, rfl, by rw [H1.out]⟩
    case round =>
      obtain ⟨k, hk1, hk, rfl, rfl⟩ := hrel
      by_cases hlt : k < N
      · have hlt2 : (k : Int) < 2 ^ l.length := by rw [← HPI.out]; exact_mod_cast hlt
        have hv1 := hv0.below b1 (Nat.le_refl _)
        have hun := l28Union_any l _ w1 hv1 HM.out hl6 k (by omega)
        have hub := unionTo_bd l k HM.out l.length (Nat.le_refl _)
        have hb1 := lackN_bd l HM.out k (by omega)
        have hb2 := defTo_bd l HM.out k (by omega)
        have hd : defTo l (k + 1) = max (defTo l k) (lackN l k) := rfl
        have e : lackN l k = (pop k : Int) - ipop (unionTo l k l.length) := rfl
        obtain ⟨u, hu⟩ : ∃ u, u = unionTo l k l.length := ⟨_, rfl⟩
        rw [← hu] at hun hub e
        have hpu := ipop_bd u (by omega)
        have hpc := pop_le k (by omega)
        have hsu := l2Size_i u w1 hub.1 (by omega)
        have hsk := l2Size_any k w1 (by omega)
        obtain ⟨q, hq⟩ : ∃ q, q = ipop u := ⟨_, rfl⟩
        obtain ⟨t, ht⟩ : ∃ t, t = (pop k : Int) := ⟨_, rfl⟩
        rw [← hq] at hsu hpu e
        rw [← ht] at hsk e
        obtain ⟨r, hr⟩ : ∃ r, r = defTo l k := ⟨_, rfl⟩
        rw [e] at hb1 hd
        rw [← hr] at hb2 hd ⊢
        have HUN := Lib.hid hun
        have HSU := Lib.hid hsu
        have HSK := Lib.hid hsk
        have HD := Lib.hid hd
        have hw : IntKind.i64.wrap (t - q) = t - q := IntWalk.i64_in _ ⟨by omega, by omega⟩
        clear hun hsu hsk hd e hu hq ht hr hpu hpc
        go_wp2_with (first
          | (go_at_call 102; refine HUN.out.mono ?_; rintro e w' ⟨rfl, rfl⟩)
          | (go_at_call 59; (first | (with_reducible refine HSK.out.mono ?_) | (with_reducible refine HSU.out.mono ?_)); rintro e w' ⟨rfl, rfl⟩))
        go_round
        case rel => exact ⟨k + 1, by omega, by omega, by go_num, by rw [HD.out]; congr 1; split <;> omega⟩
        case measure => simp [intOf]; omega
      · have hlt2 : ¬ (k : Int) < 2 ^ l.length := by rw [← HPI.out]; omega
        have hkn : k = N := by omega
        have HK := Lib.hid hkn
        clear hkn
        go_wp2
        go_ret
        exact ⟨ret_int (by rw [HX.out, HK.out]), b1⟩
end Go.Proofs.Ytmfenalnmpndmaa
