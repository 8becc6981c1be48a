/- Small functions of numbers. -/
import Derived.Test.YtmlpcohailjccaaTab
import Derived.Deep.Light
namespace Go.Proofs.Ytmlpcohailjccaa
open Go.RowKit Go.G5

def inB (n lo hi : Int) : Bool := decide (lo ≤ n) && decide (n ≤ hi)
theorem inB_true {n lo hi : Int} : inB n lo hi = true ↔ lo ≤ n ∧ n ≤ hi := by simp [inB]
theorem inB_false {n lo hi : Int} : inB n lo hi = false ↔ n < lo ∨ hi < n := by
  unfold inB; by_cases h1 : lo ≤ n <;> by_cases h2 : n ≤ hi <;> simp [h1, h2] <;> omega

theorem within_any (n lo hi : Int) (w : World) :
    Calls Try.prog 93 #[.int .i64 n, .int .i64 lo, .int .i64 hi] w fun e w' => e = .returned (.bool (inB n lo hi)) ∧ w = w' := by
  unfold inB
  by_cases h1 : lo ≤ n
  · go_enter Try.func93, Try.ntmps93
    go_wp2
    go_ret
    exact ⟨by simp [h1], rfl⟩
  · have h2 : decide (lo ≤ n) = false := by simpa using h1
    go_enter Try.func93, Try.ntmps93
    go_wp2
    go_ret
    exact ⟨ret_bool (by simp), rfl⟩

theorem l1In_any (n lo hi : Int) (w : World) :
    Calls Try.prog 96 #[.int .i64 n, .int .i64 lo, .int .i64 hi] w fun e w' => e = .returned (.bool (inB n lo hi)) ∧ w = w' := by
  unfold inB
  by_cases h1 : lo ≤ n
  · go_enter Try.func96, Try.ntmps96
    go_wp2
    go_ret
    exact ⟨by simp [h1], rfl⟩
  · have h2 : decide (lo ≤ n) = false := by simpa using h1
    go_enter Try.func96, Try.ntmps96
    go_wp2
    go_ret
    exact ⟨ret_bool (by simp), rfl⟩

def fact : Nat → Nat
  | 0 => 1
  | n + 1 => (n + 1) * fact n
theorem fact_mono (a b : Nat) (h : a ≤ b) : fact a ≤ fact b := by
  induction b with
  | zero => have : a = 0 := by omega
            subst this; exact Nat.le_refl _
  | succ b ih =>
    by_cases hb : a ≤ b
    · have := ih hb
      calc fact a ≤ fact b := this
        _ ≤ (b + 1) * fact b := Nat.le_mul_of_pos_left _ (by omega)
    · have : a = b + 1 := by omega
      subst this; exact Nat.le_refl _
def factOf (n : Int) : Int := if inB n 0 12 then fact n.toNat else -1
theorem fact_12 : fact 12 = 479001600 := by decide

theorem fact_le (k : Nat) (h : k ≤ 12) : fact k ≤ 479001600 := fact_12 ▸ fact_mono k 12 h

set_option maxHeartbeats 400000 in
theorem factI_any (n : Int) (w : World) :
    Calls Try.prog 100 #[.int .i64 n] w fun e w' => e = .returned (.int .i64 (factOf n)) ∧ w = w' := by
  cases hin : inB n 0 12 with
  | false =>
    have hf : factOf n = -1 := by unfold factOf; rw [hin]; rfl
    go_enter Try.func100, Try.ntmps100
    go_wp2_with (go_at_call 93; refine (within_any _ _ _ _).mono ?_; rintro e w' ⟨rfl, rfl⟩)
    go_ret
    exact ⟨ret_int hf.symm, rfl⟩
  | true =>
    have hb := inB_true.1 hin
    have h0 : 0 ≤ n := hb.1
    have h12 : n ≤ 12 := hb.2
    have hf : factOf n = fact n.toNat := by unfold factOf; rw [hin]; rfl
    have HF := Lib.hid hf
    clear hf hb
    go_enter Try.func100, Try.ntmps100
    go_wp2_with (go_at_call 93; refine (within_any _ _ _ _).mono ?_; rintro e w' ⟨rfl, rfl⟩)
    go_loop [3, 4] (fun p i => ∃ k : Nat, 1 ≤ k ∧ k ≤ 12 ∧ (k : Int) ≤ max n 1 ∧ i = .int .i64 (k + 1) ∧ p = .int .i64 (fact k)) (fun _ i => 14 - (intOf i).toNat)
    case atStart => exact ⟨1, by omega, by omega, by omega, rfl, rfl⟩
    case round =>
      obtain ⟨k, hk1, hk12, hkn, rfl, rfl⟩ := hrel
      have hfk := fact_le k hk12
      by_cases hlt : (k : Int) + 1 ≤ n
      · have hs : fact (k + 1) = (k + 1) * fact k := rfl
        have hfk1 := fact_le (k + 1) (by omega)
        have hm : (fact k : Int) * (k + 1) = fact (k + 1) := by rw [hs]; push_cast; exact Int.mul_comm _ _
        have hle : (fact k : Int) * (k + 1) ≤ 479001600 := by rw [hm]; omega
        have hge : 0 ≤ (fact k : Int) * (k + 1) := by rw [hm]; omega
        have HM := Lib.hid hm
        clear hs hm
        go_wp2
        go_round
        case rel => exact ⟨k + 1, by omega, by omega, by omega, by go_num, by rw [HM.out]⟩
        case measure => simp [intOf]; omega
      · go_wp2
        go_ret
        refine ⟨ret_int ?_, rfl⟩
        rw [HF.out]
        by_cases h1 : 1 ≤ n
        · rw [show n.toNat = k from by omega]
        · have : n.toNat = 0 := by omega
          rw [this, show k = 1 from by omega]; rfl
def harm (n : Nat) : Int := match n with
  | 0 => 0
  | n + 1 => harm n + 60 / ((n : Int) + 1)
def harmOf (n : Int) : Int := if inB n 0 6 then harm n.toNat else -1
theorem harm_bd (n : Nat) : 0 ≤ harm n ∧ harm n ≤ 60 * n := by
  induction n with
  | zero => simp [harm]
  | succ n ih =>
    have h1 : 60 / ((n : Int) + 1) ≤ 60 := Int.ediv_le_self _ (by omega)
    have h2 : 0 ≤ 60 / ((n : Int) + 1) := Int.ediv_nonneg (by omega) (by omega)
    simp only [harm]; omega

/-! words of claims -/
def claimWord (k : Int) : ByteArray :=
  if k = 1 then ⟨#[109, 105, 110, 105, 109, 117, 109]⟩ else if k = 2 then ⟨#[118, 105, 111, 108, 97, 116, 105, 111, 110]⟩ else if k = 3 then ⟨#[98, 97, 115, 101]⟩
  else if k = 4 then ⟨#[99, 111, 109, 109, 111, 110]⟩ else if k = 5 then ⟨#[99, 117, 116]⟩ else if k = 6 then ⟨#[115, 117, 110, 102, 108, 111, 119, 101, 114]⟩ else if k = 7 then ⟨#[104, 97, 108, 108]⟩ else ⟨#[]⟩

/-! powers -/
theorem pow_le_pow (b k n : Nat) (hb : b ≤ 5) (hkn : k ≤ n) (hn : n ≤ 6) : b ^ k ≤ 15625 := by
  calc b ^ k ≤ 5 ^ k := Nat.pow_le_pow_left hb k
    _ ≤ 5 ^ 6 := Nat.pow_le_pow_right (by omega) (by omega)
    _ = 15625 := by decide

theorem power_any (b n : Nat) (w : World) (hb : b ≤ 5) (hn : n ≤ 6) :
    Calls Try.prog 101 #[.int .i64 b, .int .i64 n] w fun e w' => e = .returned (.int .i64 ((b ^ n : Nat) : Int)) ∧ w = w' := by
  go_enter Try.func101, Try.ntmps101
  go_wp2
  go_loop [5, 7] (fun p i => ∃ k : Nat, k ≤ n ∧ i = .int .i64 k ∧ p = .int .i64 ((b ^ k : Nat) : Int)) (fun _ i => n - (intOf i).toNat)
  case atStart => exact ⟨0, by omega, rfl, by simp⟩
  case round =>
    obtain ⟨k, hk, rfl, hp⟩ := hrel
    obtain ⟨q, hq⟩ : ∃ q : Nat, q = b ^ k := ⟨_, rfl⟩
    rw [← hq] at hp
    subst hp
    have hq1 : q ≤ 15625 := hq ▸ pow_le_pow b k n hb hk hn
    by_cases hlt : k < n
    · have hs : q * b = b ^ (k + 1) := by rw [hq, Nat.pow_succ]
      have hq2 : q * b ≤ 15625 := hs ▸ pow_le_pow b (k + 1) n hb hlt hn
      have hq3 : (q : Int) * b = ((q * b : Nat) : Int) := by push_cast; rfl
      have hge : 0 ≤ (q : Int) * b := by omega
      have hle : (q : Int) * b ≤ 15625 := by omega
      have HM := Lib.hid hs
      have HQ := Lib.hid hq3
      clear hs hq3 hq
      go_wp2
      go_round
      case rel => exact ⟨k + 1, by omega, by go_num, by rw [HQ.out, HM.out]⟩
      case measure => simp [intOf]; omega
    · have HQ := Lib.hid hq
      clear hq
      go_wp2
      go_ret
      exact ⟨ret_int (by rw [HQ.out, show k = n from by omega]; simp), rfl⟩

def sunBound (s k : Int) : Int := if inB s 0 6 && inB k 1 5 then ((fact s.toNat * (k - 1).toNat ^ s.toNat : Nat) : Int) else -1

theorem fact6 (n : Nat) (h : n ≤ 6) : fact n ≤ 720 := fact_mono n 6 h

theorem sunBoundI_any (s k : Int) (w : World) :
    Calls Try.prog 33 #[.int .i64 s, .int .i64 k] w fun e w' => e = .returned (.int .i64 (sunBound s k)) ∧ w = w' := by
  cases h1 : inB s 0 6 with
  | false =>
    have hf : sunBound s k = -1 := by unfold sunBound; rw [h1]; rfl
    have HF := Lib.hid hf
    clear hf
    go_enter Try.func33, Try.ntmps33
    go_wp2_with (go_at_call 93; refine (within_any _ _ _ _).mono ?_; rintro e w' ⟨rfl, rfl⟩)
    go_ret
    exact ⟨ret_int HF.out.symm, rfl⟩
  | true =>
    cases h2 : inB k 1 5 with
    | false =>
      have hf : sunBound s k = -1 := by unfold sunBound; rw [h1, h2]; rfl
      have HF := Lib.hid hf
      clear hf
      go_enter Try.func33, Try.ntmps33
      go_wp2_with (go_at_call 93; refine (within_any _ _ _ _).mono ?_; rintro e w' ⟨rfl, rfl⟩)
      go_ret
      exact ⟨ret_int HF.out.symm, rfl⟩
    | true =>
      have hs := inB_true.1 h1
      have hk := inB_true.1 h2
      obtain ⟨n, rfl⟩ := Int.eq_ofNat_of_zero_le hs.1
      obtain ⟨j, hj⟩ := Int.eq_ofNat_of_zero_le (show 0 ≤ k - 1 by omega)
      obtain rfl : k = j + 1 := by omega
      clear hj
      have hf : sunBound n (j + 1) = ((fact n * j ^ n : Nat) : Int) := by
        unfold sunBound; rw [h1, h2, if_pos (by rfl), Int.toNat_natCast, show ((j : Int) + 1 - 1).toNat = j from by omega]
      have hff : factOf n = fact n := by unfold factOf; rw [if_pos (inB_true.2 (by omega))]; simp
      have hn6 : n ≤ 6 := by omega
      have hj4 : j ≤ 4 := by omega
      have b1 := fact6 n hn6
      have b2 := pow_le_pow j n n (by omega) (Nat.le_refl _) hn6
      obtain ⟨q, hq⟩ : ∃ q : Nat, q = j ^ n := ⟨_, rfl⟩
      obtain ⟨p, hp⟩ : ∃ p : Nat, p = fact n := ⟨_, rfl⟩
      rw [← hq, ← hp] at hf
      rw [← hq] at b2
      rw [← hp] at b1 hff
      have hm : p * q ≤ 11250000 := Nat.le_trans (Nat.mul_le_mul b1 b2) (by decide)
      have hpq : (p : Int) * q = ((p * q : Nat) : Int) := by push_cast; rfl
      have hle : (p : Int) * q ≤ 11250000 := by omega
      have hge : 0 ≤ (p : Int) * q := by omega
      have HF := Lib.hid hf
      have HFF := Lib.hid hff
      have HQ := Lib.hid hq
      have HPQ := Lib.hid hpq
      clear hf hff hq hpq hp hs hk
      go_enter Try.func33, Try.ntmps33
      go_wp2_with (first
        | (go_at_call 93; refine (within_any _ _ _ _).mono ?_; rintro e w' ⟨rfl, rfl⟩)
        | (go_at_call 100; refine (factI_any _ _).mono ?_; rintro e w' ⟨rfl, rfl⟩; rw [HFF.out])
        | (go_at_call 101; refine (power_any j n _ (by omega) hn6).mono ?_; rintro e w' ⟨rfl, rfl⟩; rw [← HQ.out]))
      go_ret
      exact ⟨ret_int (by rw [HF.out, HPQ.out]), rfl⟩

theorem sunBoundS_any (s k : Int) (w : World) :
    Calls Try.prog 41 #[.int .i64 s, .int .i64 k] w fun e w' => e = .returned (.int .i64 (sunBound s k)) ∧ w = w' := by
  cases h1 : inB s 0 6 with
  | false =>
    have hf : sunBound s k = -1 := by unfold sunBound; rw [h1]; rfl
    have HF := Lib.hid hf
    clear hf
    go_enter Try.func41, Try.ntmps41
    go_wp2_with (go_at_call 96; refine (l1In_any _ _ _ _).mono ?_; rintro e w' ⟨rfl, rfl⟩)
    go_ret
    exact ⟨ret_int HF.out.symm, rfl⟩
  | true =>
    cases h2 : inB k 1 5 with
    | false =>
      have hf : sunBound s k = -1 := by unfold sunBound; rw [h1, h2]; rfl
      have HF := Lib.hid hf
      clear hf
      go_enter Try.func41, Try.ntmps41
      go_wp2_with (go_at_call 96; refine (l1In_any _ _ _ _).mono ?_; rintro e w' ⟨rfl, rfl⟩)
      go_ret
      exact ⟨ret_int HF.out.symm, rfl⟩
    | true =>
      have hs := inB_true.1 h1
      have hk := inB_true.1 h2
      obtain ⟨n, rfl⟩ := Int.eq_ofNat_of_zero_le hs.1
      obtain ⟨j, hj⟩ := Int.eq_ofNat_of_zero_le (show 0 ≤ k - 1 by omega)
      obtain rfl : k = j + 1 := by omega
      clear hj
      have hf : sunBound n (j + 1) = ((fact n * j ^ n : Nat) : Int) := by
        unfold sunBound; rw [h1, h2, if_pos (by rfl), Int.toNat_natCast, show ((j : Int) + 1 - 1).toNat = j from by omega]
      have hn6 : n ≤ 6 := by omega
      have hj4 : j ≤ 4 := by omega
      have HF := Lib.hid hf
      clear hf hs hk
      go_enter Try.func41, Try.ntmps41
      go_wp2_with (go_at_call 96; refine (l1In_any _ _ _ _).mono ?_; rintro e w' ⟨rfl, rfl⟩)
      go_loop [5, 6] (fun p i => ∃ m q : Nat, m ≤ n ∧ i = .int .i64 (m + 1) ∧ q = fact m * j ^ m ∧ p = .int .i64 q) (fun _ i => 14 - (intOf i).toNat)
      case atStart => exact ⟨0, 1, by omega, rfl, by simp [fact], rfl⟩
      case round =>
        obtain ⟨m, q, hm, rfl, hq, rfl⟩ := hrel
        have b1 := fact6 m (by omega)
        have b2 := pow_le_pow j m m (by omega) (Nat.le_refl _) (by omega)
        have bq : q ≤ 11250000 := by
          rw [hq]
          exact Nat.le_trans (Nat.mul_le_mul b1 b2) (by decide)
        by_cases hlt : m < n
        · have hs : q * (m + 1) * j = fact (m + 1) * j ^ (m + 1) := by
            rw [hq, Nat.pow_succ, fact]
            simp only [Nat.mul_assoc, Nat.mul_comm, Nat.mul_left_comm]
          have c1 : q * (m + 1) ≤ 11250000 * 7 := Nat.mul_le_mul bq (by omega)
          have c2 : q * (m + 1) * j ≤ 11250000 * 7 * 4 := Nat.mul_le_mul c1 hj4
          have e1 : (q : Int) * ((m : Int) + 1) = ((q * (m + 1) : Nat) : Int) := by push_cast; rfl
          have d1 : (q : Int) * ((m : Int) + 1) ≤ 78750000 := by omega
          have d2 : 0 ≤ (q : Int) * ((m : Int) + 1) := by omega
          have e2 : (q : Int) * ((m : Int) + 1) * j = ((q * (m + 1) * j : Nat) : Int) := by push_cast; rfl
          have d3 : (q : Int) * ((m : Int) + 1) * j ≤ 315000000 := by omega
          have d4 : 0 ≤ (q : Int) * ((m : Int) + 1) * j := by omega
          have HS := Lib.hid hs
          have HE := Lib.hid e2
          clear hs e1 e2 hq
          go_wp2
          go_round
          case rel => exact ⟨m + 1, q * (m + 1) * j, by omega, by go_num, HS.out, by rw [HE.out]⟩
          case measure => simp [intOf]; omega
        · have HQ := Lib.hid hq
          clear hq
          go_wp2
          go_ret
          exact ⟨ret_int (by rw [HF.out, HQ.out, show m = n from by omega]), rfl⟩
end Go.Proofs.Ytmlpcohailjccaa
