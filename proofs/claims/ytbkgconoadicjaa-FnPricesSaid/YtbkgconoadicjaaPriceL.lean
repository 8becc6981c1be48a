/- Prices: sums that the law takes. -/
import Derived.Test.YtbkgconoadicjaaPriceN
import Derived.Test.YtbkgconoadicjaaLawH
namespace Go.Proofs.Ytbkgconoadicjaa
open Go.RowKit Go.G5

def payTo (q x : List Int) (k : Nat) : Int := (x.take k).foldl (fun a e => a + q.getD e.toNat 0) 0
theorem payTo_succ (q x : List Int) (k : Nat) (h : k < x.length) : payTo q x (k + 1) = payTo q x k + q.getD x[k].toNat 0 := fold_take _ 0 x k h
theorem payTo_bd (q x : List Int) (h0 : ∀ e, 0 ≤ q.getD e 0) (h1 : ∀ e, q.getD e 0 ≤ 60) : ∀ k, k ≤ x.length → 0 ≤ payTo q x k ∧ payTo q x k ≤ 60 * k := by
  intro k
  induction k with
  | zero => intro _; simp [payTo]
  | succ k ih =>
    intro hk
    have := ih (by omega)
    rw [payTo_succ q x k (by omega)]
    have := h0 (x[k]'(by omega)).toNat
    have := h1 (x[k]'(by omega)).toNat
    push_cast; omega
def pwTo (q : List Int) (c : Nat) : Nat → Int
  | 0 => 0
  | k + 1 => pwTo q c k + cellE q c k
theorem fam_pay (q : List Int) (c : Nat) : ∀ k, (famOf c k).foldl (fun a e => a + q.getD e.toNat 0) 0 = pwTo q c k := by
  intro k
  induction k with
  | zero => rfl
  | succ k ih =>
    have hcs : famOf c (k + 1) = if nbit c k then famOf c k ++ [(k : Int)] else famOf c k := chosen_succ (nbit c) k
    rw [hcs, pwTo, ← ih]
    unfold cellE
    cases nbit c k with
    | false => simp
    | true => rw [if_pos rfl, if_pos rfl, List.foldl_append]; simp
theorem payTo_all (q : List Int) (s : Int) : payTo q (elL s) (elL s).length = wtE q s.toNat := by
  unfold payTo elL
  rw [List.take_length, fam_pay]
  simp only [pwTo, wtE]
  omega
set_option maxHeartbeats 1000000 in
theorem total_any (q : List Int) (v : Value) (w : World) (hv : Ints w v q) (h0 : ∀ e, 0 ≤ q.getD e 0) (h1 : ∀ e, q.getD e 0 ≤ 60) (hl : q.length ≤ 1000) :
    Calls Try.prog 65 #[v] w fun e w' => e = .returned (.int .i64 (sumI q)) ∧ w = w' := by
  obtain ⟨a, b, off, c, rfl, hlen, hix, hc, hb⟩ := hv.view Try.prog 22 3 Try.underlying22 intElem
  have hbd : ∀ k, k ≤ q.length → 0 ≤ (q.take k).foldl (· + ·) 0 ∧ (q.take k).foldl (· + ·) 0 ≤ 60 * (k : Int) := by
    intro k
    induction k with
    | zero => intro _; simp
    | succ k ih =>
      intro hk
      have := ih (by omega)
      rw [fold_take (· + ·) 0 q k (by omega)]
      have h2 := h0 k
      have h3 := h1 k
      rw [getD_at q k (by omega)] at h2 h3
      push_cast; omega
  have HB := Lib.hid hbd
  have H01 := Lib.hid (And.intro h0 h1)
  clear hbd h0 h1
  go_enter Try.func65, Try.ntmps65
  go_wp2_with fail
  go_loop [3, 4] (fun n i => ∃ k : Nat, k ≤ q.length ∧ i = .int .i64 k ∧ n = .int .i64 ((q.take k).foldl (· + ·) 0)) (fun _ i => q.length - (intOf i).toNat)
  case atStart => exact ⟨0, Nat.zero_le _, rfl, rfl⟩
  case round =>
    obtain ⟨k, hk, rfl, rfl⟩ := hrel
    have hb1 := HB.out k hk
    by_cases hlt : k < q.length
    · have hft := fold_take (· + ·) 0 q k hlt
      have h2 := H01.out.1 k
      have h3 := H01.out.2 k
      rw [getD_at q k hlt] at h2 h3
      have ck := hc k hlt
      have ik := fun W => hix W k hlt
      obtain ⟨S, hS⟩ : ∃ S, S = (q.take k).foldl (· + ·) (0 : Int) := ⟨_, rfl⟩
      obtain ⟨x, hx⟩ : ∃ x, x = q[k] := ⟨_, rfl⟩
      rw [← hS] at hb1 hft ⊢
      rw [← hx] at ck h2 h3 hft
      have HF := Lib.hid hft
      clear hft hS hx hc hix hb
      go_wp2
      go_round
      case rel => exact ⟨k + 1, by omega, by go_num, by rw [HF.out]⟩
      case measure => simp [intOf]; omega
    · have he : (q.take k).foldl (· + ·) 0 = sumI q := by unfold sumI; rw [List.take_of_length_le (by omega)]
      rw [he]
      clear he
      go_wp2
      go_ret
      exact ⟨rfl, rfl⟩
set_option maxHeartbeats 1000000 in
theorem elementsOfS_any (n : Nat) (hn : n ≤ 6) (s : Int) (w : World) (h0 : 0 ≤ s) (h1 : s < 2 ^ n) :
    Calls Try.prog 67 #[.int .i64 n, .int .i64 s] w fun e w' => ∃ ad i cp, e = .returned (.slice ad i cp) ∧ OwnI 3 w.heap.size w' (.slice ad i cp) (elL s) ∧ Below w.heap.size w w' := by
  have hp := two_pow n 6 hn
  have hin1 : inB (n : Int) 0 10 = true := inB_true.2 ⟨by omega, by omega⟩
  have hin2 : inB s 0 (2 ^ n - 1) = true := inB_true.2 ⟨h0, by omega⟩
  have HI1 := Lib.hid (fun W => l1In_any (n : Int) 0 10 W)
  have HI2 := Lib.hid (fun W => l1In_any s 0 (2 ^ n - 1) W)
  have HF := Lib.hid (fun W => l2Full_any n W (by omega))
  have hs64 : s < 64 := by omega
  go_enter Try.func67, Try.ntmps67
  go_wp2_with fail
  refine (HI1.out _).mono ?_
  rintro e w1 ⟨rfl, rfl⟩
  rw [hin1]
  go_wp2_with fail
  refine (HF.out _).mono ?_
  rintro e w2 ⟨rfl, rfl⟩
  go_wp2_with fail
  refine (HI2.out _).mono ?_
  rintro e w2 ⟨rfl, rfl⟩
  rw [hin2]
  go_wp2_with fail
  refine (l2List_i s _ h0 hs64).mono ?_
  rintro e w3 ⟨p, i, q, rfl, o3, b3⟩
  go_wp2
  go_ret
  exact ⟨p, i, q, rfl, o3, b3⟩
end Go.Proofs.Ytbkgconoadicjaa
