/- The elements of a set. -/
import Derived.Test.YtpaoiiiceekkkaaDoorCount
namespace Go.Proofs.YtpaoiiiceekkkaaDoor
open Go.RowKit Go.G5

def elL (s : Int) : List Int := famOf s.toNat 6
theorem elL_bd (s : Int) (n : Nat) (hn : n ≤ 6) (h1 : s.toNat < 2 ^ n) : ∀ x ∈ elL s, 0 ≤ x ∧ x < (n : Int) := by
  have h2 : s.toNat < 2 ^ 6 := Nat.lt_of_lt_of_le h1 (Nat.pow_le_pow_right (by decide) hn)
  unfold elL
  rw [famOf_same s.toNat 6 n h2 h1]
  exact famOf_bd _ _
theorem elL_bd6 (s : Int) : ∀ x ∈ elL s, 0 ≤ x ∧ x < 6 := by
  intro x hx
  unfold elL at hx
  have := famOf_bd s.toNat 6 x hx
  omega
theorem elL_len6 (s : Int) : (elL s).length ≤ 6 := by
  unfold elL famOf
  exact chosen_len _ 6
theorem elL_len : ∀ s : Nat, s < 64 → (famOf s 6).length = pop s := by decide +kernel
theorem elL_pop (s : Int) (h : s < 64) : ((elL s).length : Int) = ipop s := by
  unfold elL ipop
  rw [elL_len s.toNat (by omega)]

theorem l2List_i (s : Int) (w : World) (h0 : 0 ≤ s) (h1 : s < 64) :
    Calls Tryd.prog 110 #[.int .i64 s] w fun e w' => ∃ ad i cp, e = .returned (.slice ad i cp) ∧ OwnI 3 w.heap.size w' (.slice ad i cp) (elL s) ∧ Below w.heap.size w w' := by
  have := l2List_any w s.toNat (by omega)
  rw [show ((s.toNat : Nat) : Int) = s by omega, famOf_same s.toNat 32 6 (by omega) (by omega)] at this
  exact this

set_option maxHeartbeats 1000000 in
theorem elementsOf_i (s : Int) (w : World) (h0 : 0 ≤ s) (h1 : s < 64) :
    Calls Tryd.prog 143 #[.int .i64 s] w fun e w' => ∃ ad i cp, e = .returned (.slice ad i cp) ∧ OwnI 3 w.heap.size w' (.slice ad i cp) (elL s) ∧ Below w.heap.size w w' := by
  obtain ⟨code, rfl⟩ := Int.eq_ofNat_of_zero_le h0
  have hc : code < 64 := by omega
  have hel : elL (code : Int) = famOf code 6 := by unfold elL; rw [show ((code : Int)).toNat = code by omega]
  have HEL := Lib.hid hel
  clear hel
  go_enter Tryd.func143, Tryd.ntmps143
  go_wp2
  go_loopw [3, 4] (fun out i wr => ∃ (k : Nat) (ad : Option Addr) (nn cp : Nat), k ≤ 6 ∧ out = .slice ad nn cp ∧ i = .int .i64 k ∧ OwnI 3 w.heap.size wr (.slice ad nn cp) (famOf code k) ∧ Below w.heap.size w wr)
    (fun _ i _ => 7 - (intOf i).toNat)
  case atStart => exact ⟨0, none, 0, 0, by omega, rfl, rfl, OwnI.nil _ _ _, Below.refl _ _⟩
  case round =>
    obtain ⟨k, ad, nn, cp, hk, rfl, rfl, ho, B⟩ := hrel
    have hbit := bit_is (code : Int) k (by omega) (by omega)
    have hnb := nbit_is code k
    have hlen := chosen_len (nbit code) k
    have hdiv : ((code : Int) / 2 ^ k) = ((code / 2 ^ k : Nat) : Int) := by push_cast; rfl
    have hql : code / 2 ^ k ≤ code := Nat.div_le_self _ _
    have hz : code / 2 ^ k ≠ 0 → k + 1 ≤ 6 := by
      intro h
      by_cases h2 : k + 1 ≤ 6
      · exact h2
      · exfalso
        have : k = 6 := by omega
        rw [this, Nat.div_eq_of_lt hc] at h
        exact h rfl
    have hcs : famOf code (k + 1) = if nbit code k then famOf code k ++ [(k : Int)] else famOf code k := chosen_succ (nbit code) k
    obtain ⟨q, hq⟩ : ∃ q, q = code / 2 ^ k := ⟨_, rfl⟩
    obtain ⟨y, hy⟩ : ∃ y, y = ibit (code : Int) k := ⟨_, rfl⟩
    rw [← hq] at hdiv hz hql
    rw [← hy] at hbit hnb
    rw [hdiv] at hbit
    have HQ := Lib.hid hq
    have HO := Lib.hid ho
    have HB := Lib.hid B
    have HCS := Lib.hid hcs
    have HZ := Lib.hid hz
    clear hq hy ho B hcs hz
    by_cases h0 : q = 0
    · subst h0
      have hr : famOf code k = famOf code 6 := by
        have hlt : code < 2 ^ k := by
          rcases Nat.lt_or_ge code (2 ^ k) with h | h
          · exact h
          · have := Nat.div_pos h (Nat.two_pow_pos k)
            have := HQ.out
            omega
        exact famOf_same code k 6 hlt (by omega)
      have HR := Lib.hid hr
      clear hr
      go_wp2
      go_ret
      exact ⟨ad, nn, cp, rfl, by rw [HEL.out, ← HR.out]; exact HO.out, HB.out⟩
    · have hk1 := HZ.out h0
      have ht : ((q : Int) != 0) = true := by simp; omega
      have hrow := HO.out.lt
      cases hb : nbit code k with
      | true =>
        have hy1 : (y == 1) = true := by rw [hnb, hb]
        have HBB := Lib.hid hb
        clear hb hnb
        go_wp2_with (at_builtin; refine wpList_appendI rfl _ _ _ rfl 3 Tryd.underlying22 intElem w.heap.size _ _ (k : Int) wr.heap.size rfl rfl (cell_new wr #[.int .i64 k] 3 0 _ rfl) (HO.out.alloc _) ⟨by omega, by omega⟩ (by unfold famOf; omega) (by have := HB.out.size; simp; omega) ?_; intro v' w6 hown hgr; obtain ⟨av, nv, cv, rfl⟩ := hown.shape3)
        have B6 : Below w.heap.size w w6 := (HB.out.alloc HB.out.size (.cells #[.int .i64 k] 3)).grown hgr (by have := HB.out.size; simp; omega) (fun p hp => (hrow p hp).1)
        go_roundw
        case rel => exact ⟨k + 1, av, nv, cv, hk1, rfl, by go_num, by rw [HCS.out, HBB.out]; exact hown, B6⟩
        case measure => simp [intOf]; omega
      | false =>
        have hy1 : (y == 1) = false := by rw [hnb, hb]
        have HBB := Lib.hid hb
        clear hb hnb
        go_wp2
        go_roundw
        case rel => exact ⟨k + 1, ad, nn, cp, hk1, rfl, by go_num, by rw [HCS.out, HBB.out]; exact HO.out, HB.out⟩
        case measure => simp [intOf]; omega
end Go.Proofs.YtpaoiiiceekkkaaDoor
