/- Small functions of numbers. -/
import Derived.Test.YtpaoiiiceekkkaaDoorTab
import Derived.Deep.Light
namespace Go.Proofs.YtpaoiiiceekkkaaDoor
open Go.RowKit Go.G5

def inB (n lo hi : Int) : Bool := decide (lo ≤ n) && decide (n ≤ hi)
theorem inB_true {n lo hi : Int} : inB n lo hi = true ↔ lo ≤ n ∧ n ≤ hi := by simp [inB]
theorem inB_false {n lo hi : Int} : inB n lo hi = false ↔ n < lo ∨ hi < n := by
  unfold inB; by_cases h1 : lo ≤ n <;> by_cases h2 : n ≤ hi <;> simp [h1, h2] <;> omega

theorem within_any (n lo hi : Int) (w : World) :
    Calls Tryd.prog 123 #[.int .i64 n, .int .i64 lo, .int .i64 hi] w fun e w' => e = .returned (.bool (inB n lo hi)) ∧ w = w' := by
  unfold inB
  by_cases h1 : lo ≤ n
  · go_enter Tryd.func123, Tryd.ntmps123
    go_wp2
    go_ret
    exact ⟨by simp [h1], rfl⟩
  · have h2 : decide (lo ≤ n) = false := by simpa using h1
    go_enter Tryd.func123, Tryd.ntmps123
    go_wp2
    go_ret
    exact ⟨ret_bool (by simp), rfl⟩

theorem l1In_any (n lo hi : Int) (w : World) :
    Calls Tryd.prog 108 #[.int .i64 n, .int .i64 lo, .int .i64 hi] w fun e w' => e = .returned (.bool (inB n lo hi)) ∧ w = w' := by
  unfold inB
  by_cases h1 : lo ≤ n
  · go_enter Tryd.func108, Tryd.ntmps108
    go_wp2
    go_ret
    exact ⟨by simp [h1], rfl⟩
  · have h2 : decide (lo ≤ n) = false := by simpa using h1
    go_enter Tryd.func108, Tryd.ntmps108
    go_wp2
    go_ret
    exact ⟨ret_bool (by simp), rfl⟩

def fact : Nat → Nat
  | 0 => 1
  | n + 1 => (n + 1) * fact n
theorem fact_mono (a b : Nat) (h : a ≤ b) : fact a ≤ fact b := by
  induction b with
  | zero => have : a = 0 := by omega
            subst this; exact Nat.le_refl _
  | succ b ih =>
    by_cases hb : a ≤ b
    · have := ih hb
      calc fact a ≤ fact b := this
        _ ≤ (b + 1) * fact b := Nat.le_mul_of_pos_left _ (by omega)
    · have : a = b + 1 := by omega
      subst this; exact Nat.le_refl _
def factOf (n : Int) : Int := if inB n 0 12 then fact n.toNat else -1
theorem fact_12 : fact 12 = 479001600 := by decide

theorem fact_le (k : Nat) (h : k ≤ 12) : fact k ≤ 479001600 := fact_12 ▸ fact_mono k 12 h

set_option maxHeartbeats 400000 in
theorem factS_any (n : Int) (w : World) :
    Calls Tryd.prog 118 #[.int .i64 n] w fun e w' => e = .returned (.int .i64 (factOf n)) ∧ w = w' := by
  cases hin : inB n 0 12 with
  | false =>
    have hf : factOf n = -1 := by unfold factOf; rw [hin]; rfl
    go_enter Tryd.func118, Tryd.ntmps118
    go_wp2_with (go_at_call 108; refine (l1In_any _ _ _ _).mono ?_; rintro e w' ⟨rfl, rfl⟩)
    go_ret
    exact ⟨ret_int hf.symm, rfl⟩
  | true =>
    have hb := inB_true.1 hin
    have h0 : 0 ≤ n := hb.1
    have h12 : n ≤ 12 := hb.2
    have hf : factOf n = fact n.toNat := by unfold factOf; rw [hin]; rfl
    have HF := Lib.hid hf
    clear hf hb
    go_enter Tryd.func118, Tryd.ntmps118
    go_wp2_with (go_at_call 108; refine (l1In_any _ _ _ _).mono ?_; rintro e w' ⟨rfl, rfl⟩)
    go_loop [3, 4] (fun p i => ∃ k : Nat, 1 ≤ k ∧ k ≤ 12 ∧ (k : Int) ≤ max n 1 ∧ i = .int .i64 (k + 1) ∧ p = .int .i64 (fact k)) (fun _ i => 14 - (intOf i).toNat)
    case atStart => exact ⟨1, by omega, by omega, by omega, rfl, rfl⟩
    case round =>
      obtain ⟨k, hk1, hk12, hkn, rfl, rfl⟩ := hrel
      have hfk := fact_le k hk12
      by_cases hlt : (k : Int) + 1 ≤ n
      · have hs : fact (k + 1) = (k + 1) * fact k := rfl
        have hfk1 := fact_le (k + 1) (by omega)
        have hm : (fact k : Int) * (k + 1) = fact (k + 1) := by rw [hs]; push_cast; exact Int.mul_comm _ _
        have hle : (fact k : Int) * (k + 1) ≤ 479001600 := by rw [hm]; omega
        have hge : 0 ≤ (fact k : Int) * (k + 1) := by rw [hm]; omega
        have HM := Lib.hid hm
        clear hs hm
        go_wp2
        go_round
        case rel => exact ⟨k + 1, by omega, by omega, by omega, by go_num, by rw [HM.out]⟩
        case measure => simp [intOf]; omega
      · go_wp2
        go_ret
        refine ⟨ret_int ?_, rfl⟩
        rw [HF.out]
        by_cases h1 : 1 ≤ n
        · rw [show n.toNat = k from by omega]
        · have : n.toNat = 0 := by omega
          rw [this, show k = 1 from by omega]; rfl

def harm (n : Nat) : Int := match n with
  | 0 => 0
  | n + 1 => harm n + 60 / ((n : Int) + 1)
def harmOf (n : Int) : Int := if inB n 0 6 then harm n.toNat else -1
theorem harm_bd (n : Nat) : 0 ≤ harm n ∧ harm n ≤ 60 * n := by
  induction n with
  | zero => simp [harm]
  | succ n ih =>
    have h1 : 60 / ((n : Int) + 1) ≤ 60 := Int.ediv_le_self _ (by omega)
    have h2 : 0 ≤ 60 / ((n : Int) + 1) := Int.ediv_nonneg (by omega) (by omega)
    simp only [harm]; omega

/-! words of claims -/
def claimWord (k : Int) : ByteArray :=
  if k = 1 then ⟨#[109, 105, 110, 105, 109, 117, 109]⟩ else if k = 2 then ⟨#[118, 105, 111, 108, 97, 116, 105, 111, 110]⟩ else if k = 3 then ⟨#[98, 97, 115, 101]⟩
  else if k = 4 then ⟨#[99, 111, 109, 109, 111, 110]⟩ else if k = 5 then ⟨#[99, 117, 116]⟩ else if k = 6 then ⟨#[115, 117, 110, 102, 108, 111, 119, 101, 114]⟩ else if k = 7 then ⟨#[104, 97, 108, 108]⟩ else ⟨#[]⟩

theorem claimWordI_any (k : Int) (w : World) :
    Calls Tryd.prog 36 #[.int .i64 k] w fun e w' => e = .returned (.string (claimWord k)) ∧ Below w.heap.size w w' := by
  by_cases hk : 1 ≤ k ∧ k ≤ 7
  · rcases (show k = 1 ∨ k = 2 ∨ k = 3 ∨ k = 4 ∨ k = 5 ∨ k = 6 ∨ k = 7 by omega) with rfl | rfl | rfl | rfl | rfl | rfl | rfl
    all_goals
      go_enter Tryd.func36, Tryd.ntmps36
      go_wp2
      go_ret
      exact ⟨rfl, Below.refl _ _⟩
  · have h1 : (k == 1) = false := by simp; omega
    have h2 : (k == 2) = false := by simp; omega
    have h3 : (k == 3) = false := by simp; omega
    have h4 : (k == 4) = false := by simp; omega
    have h5 : (k == 5) = false := by simp; omega
    have h6 : (k == 6) = false := by simp; omega
    have h7 : (k == 7) = false := by simp; omega
    have hw : claimWord k = ⟨#[]⟩ := by
      unfold claimWord
      rw [if_neg (by omega), if_neg (by omega), if_neg (by omega), if_neg (by omega), if_neg (by omega), if_neg (by omega), if_neg (by omega)]
    have HW := Lib.hid hw
    clear hw
    go_enter Tryd.func36, Tryd.ntmps36
    go_wp2
    go_ret
    exact ⟨by rw [HW.out]; rfl, Below.refl _ _⟩

theorem claimWordS_any (k : Int) (w : World) :
    Calls Tryd.prog 28 #[.int .i64 k] w fun e w' => e = .returned (.string (claimWord k)) ∧ Below w.heap.size w w' := by
  by_cases hk : 1 ≤ k ∧ k ≤ 7
  · rcases (show k = 1 ∨ k = 2 ∨ k = 3 ∨ k = 4 ∨ k = 5 ∨ k = 6 ∨ k = 7 by omega) with rfl | rfl | rfl | rfl | rfl | rfl | rfl
    all_goals
      go_enter Tryd.func28, Tryd.ntmps28
      go_wp2_with (go_at_call 108; refine (l1In_any _ _ _ _).mono ?_; rintro e w' ⟨rfl, rfl⟩)
      go_ret
      exact ⟨rfl, bl1 _ _⟩
  · have hin : inB k 1 7 = false := inB_false.2 (by omega)
    have hw : claimWord k = ⟨#[]⟩ := by
      unfold claimWord
      rw [if_neg (by omega), if_neg (by omega), if_neg (by omega), if_neg (by omega), if_neg (by omega), if_neg (by omega), if_neg (by omega)]
    have HW := Lib.hid hw
    clear hw
    go_enter Tryd.func28, Tryd.ntmps28
    go_wp2_with (go_at_call 108; refine (l1In_any _ _ _ _).mono ?_; rintro e w' ⟨rfl, rfl⟩)
    go_ret
    exact ⟨by rw [HW.out]; rfl, Below.refl _ _⟩

/-! powers -/
theorem pow_le_pow (b k n : Nat) (hb : b ≤ 5) (hkn : k ≤ n) (hn : n ≤ 6) : b ^ k ≤ 15625 := by
  calc b ^ k ≤ 5 ^ k := Nat.pow_le_pow_left hb k
    _ ≤ 5 ^ 6 := Nat.pow_le_pow_right (by omega) (by omega)
    _ = 15625 := by decide

def sunBound (s k : Int) : Int := if inB s 0 6 && inB k 1 5 then ((fact s.toNat * (k - 1).toNat ^ s.toNat : Nat) : Int) else -1

theorem fact6 (n : Nat) (h : n ≤ 6) : fact n ≤ 720 := fact_mono n 6 h

end Go.Proofs.YtpaoiiiceekkkaaDoor
