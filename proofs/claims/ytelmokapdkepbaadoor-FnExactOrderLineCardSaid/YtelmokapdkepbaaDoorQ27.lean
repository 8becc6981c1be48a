/- Orders in which sets are intervals: what is computed. Sunflowers: the tests of both programs, and the search of the first. -/
import Derived.Test.YtelmokapdkepbaaDoorQ26
import Derived.Deep.RegionHeld3
section
namespace Go.Proofs.YtelmokapdkepbaaDoor
open Go.RowKit Go.G5

def inP (p : List Int) (s k : Nat) : Bool := nbit s (p.getD k 0).toNat
def spF (p : List Int) (s : Nat) : Nat → Int
  | 0 => -1
  | k + 1 => if inP p s k && decide (spF p s k < 0) then (k : Int) else spF p s k
def spL (p : List Int) (s : Nat) : Nat → Int
  | 0 => -1
  | k + 1 => if inP p s k then (k : Int) else spL p s k
theorem spF_succ (p : List Int) (s k : Nat) : spF p s (k + 1) = if inP p s k && decide (spF p s k < 0) then (k : Int) else spF p s k := rfl
theorem spL_succ (p : List Int) (s k : Nat) : spL p s (k + 1) = if inP p s k then (k : Int) else spL p s k := rfl
theorem spF_bd (p : List Int) (s : Nat) : ∀ k : Nat, -1 ≤ spF p s k ∧ spF p s k ≤ k := by
  intro k
  induction k with
  | zero => exact ⟨by simp [spF], by simp [spF]⟩
  | succ k ih =>
    rw [spF_succ]
    split <;> omega
theorem spL_bd (p : List Int) (s : Nat) : ∀ k : Nat, -1 ≤ spL p s k ∧ spL p s k ≤ k := by
  intro k
  induction k with
  | zero => exact ⟨by simp [spL], by simp [spL]⟩
  | succ k ih =>
    rw [spL_succ]
    split <;> omega
theorem spF_pos (p : List Int) (s : Nat) (j : Nat) (hj : inP p s j = true) : ∀ k, j < k → 0 ≤ spF p s k := by
  intro k
  induction k with
  | zero => intro h; omega
  | succ k ih =>
    intro h
    rw [spF_succ]
    by_cases hk : j < k
    · have := ih hk
      split <;> omega
    · have e : j = k := by omega
      subst e
      rw [hj, Bool.true_and]
      split
      · omega
      · rename_i h2
        rw [decide_eq_true_eq] at h2
        omega
def spOk (p : List Int) (s : Nat) : Bool := decide (spL p s p.length - spF p s p.length + 1 = (pop s : Int))
def setOkP (p : List Int) (s : Int) : Bool := s == 0 || spOk p s.toNat
def fitP (l p : List Int) : Bool := l.all (setOkP p)
theorem has_bit : ∀ s : Nat, s < 64 → s ≠ 0 → ∃ e, e < 6 ∧ (nbit s e = true ∧ 2 ^ e ≤ s) := by decide +kernel
theorem orders_have : ∀ n, n < 7 → (ordersN n n).all (fun p => (List.range n).all fun e => has p (e : Int)) = true := by decide +kernel
theorem order_has {n : Nat} (hn : n ≤ 6) {p : List Int} (hp : p ∈ ordersN n n) {e : Nat} (he : e < n) : (e : Int) ∈ p := by
  have h := orders_have n (by omega)
  rw [List.all_eq_true] at h
  have h2 := h p hp
  rw [List.all_eq_true] at h2
  exact has_true.1 (h2 e (List.mem_range.2 he))
theorem first_is {n : Nat} (hn : n ≤ 6) {p : List Int} (hp : ∀ e, e < n → (e : Int) ∈ p) (s : Nat) (hs : s < 2 ^ n) (h0 : s ≠ 0) : 0 ≤ spF p s p.length := by
  have h6 : (2 : Nat) ^ n ≤ 64 := Nat.pow_le_pow_right (n := 2) (j := 6) (by decide) hn
  obtain ⟨e, _, hb, hle⟩ := has_bit s (by omega) h0
  have hen : e < n := by
    rcases Nat.lt_or_ge e n with h | h
    · exact h
    · have := Nat.pow_le_pow_right (n := 2) (by decide) h
      omega
  obtain ⟨k, hk, hke⟩ := List.getElem_of_mem (hp e hen)
  refine spF_pos p s k ?_ p.length hk
  unfold inP
  rw [List.getD_eq_getElem?_getD, List.getElem?_eq_getElem hk, Option.getD_some, hke, Int.toNat_natCast]
  exact hb
def ivR (g : Int) (l : List Int) : Option (List Int) := (ordersN g.toNat g.toNat).find? (fitP l)
def ivB (g : Int) (l : List Int) : Bool := isFamB g l && (ivR g l).isSome
def ivL (g : Int) (l : List Int) : List Int := if isFamB g l then (ivR g l).getD [] else []
theorem find_hit {ls : List (List Int)} {P : List Int → Bool} (k : Nat) (hk : k < ls.length) (h0 : ∀ j, (hj : j < ls.length) → j < k → P ls[j] = false) (h1 : P ls[k] = true) : ls.find? P = some ls[k] := by
  rw [List.find?_eq_some_iff_getElem]
  exact ⟨h1, k, hk, rfl, fun j hj => by rw [h0 j (by omega) hj]; rfl⟩
theorem find_miss {ls : List (List Int)} {P : List Int → Bool} (h0 : ∀ j, (hj : j < ls.length) → P ls[j] = false) : ls.find? P = none := by
  rw [List.find?_eq_none]
  intro x hx
  obtain ⟨k, hk, rfl⟩ := List.getElem_of_mem hx
  rw [h0 k hk]; simp
theorem ivL_facts (g : Int) (l : List Int) : (ivL g l).length ≤ 6 ∧ ∀ x ∈ ivL g l, 0 ≤ x ∧ x < 6 := by
  unfold ivL
  split
  · rename_i h
    have hg := famOk h
    cases hr : ivR g l with
    | none => exact ⟨by simp, by simp⟩
    | some p =>
      unfold ivR at hr
      have hm := List.mem_of_find?_eq_some hr
      have h2 := ordersN_mem _ _ p hm
      rw [Option.getD_some]
      refine ⟨by omega, fun x hx => by have := h2.2 x hx; omega⟩
  · exact ⟨by simp, by simp⟩
end Go.Proofs.YtelmokapdkepbaaDoor
end
section
namespace Go.Proofs.YtelmokapdkepbaaDoor
open Go.RowKit Go.G5

set_option maxHeartbeats 2000000 in
theorem inFlower_any (l : List Int) (v : Value) (s : Int) (w : World) (hv : Ints w v l) (hm : ∀ x ∈ l, 0 ≤ x ∧ x < 64) (hs : 0 ≤ s ∧ s < 64) :
    Calls Tryd.prog 77 #[v, .int .i64 s] w fun e w' => e = .returned (.bool (inFI l s)) ∧ Below w.heap.size w w' := by
  obtain ⟨a, b, off, c, rfl, hlen, hix, hc, hb⟩ := hv.view Tryd.prog 22 3 Tryd.underlying22 intElem
  have hs0 := hs.1
  have hs1 := hs.2
  go_enter Tryd.func77, Tryd.ntmps77
  go_wp2
  go_loopw [9] (fun i wr => ∃ k n : Nat, k ≤ l.length ∧ i = .int .i64 k ∧ allTo (petal l s) k = true ∧ wr = w.drewN n) (fun i _ => l.length - (intOf i).toNat)
  case atStart => exact ⟨0, 0, Nat.zero_le _, rfl, rfl, rfl⟩
  case round =>
    obtain ⟨k, n, hk, rfl, hall, rfl⟩ := hrel
    have H := Lib.hid hall
    clear hall
    by_cases hlt : k < l.length
    · have hck := hc k hlt
      have hc0 := hc 0 (by omega)
      have hix0 : ∀ w', (Instr.indexAt 22 (.slice a l.length c) (.int .i64 0)).run Tryd.prog w' = .ok (.pointer (some ⟨b, off, none⟩)) w' := fun w' => by have := hix w' 0 (by omega); simpa using this
      have hmk := hm _ (List.getElem_mem hlt)
      have hm0 := hm _ (List.getElem_mem (show 0 < l.length by omega))
      have gk := getD_at l k hlt
      have g0 := getD_at l 0 (by omega)
      have hpet : petal l s k = (!(l[k] == s) && (iand s l[k] == iand s l[0]) && (k == 0 || iand s l[k] == iand l[0] (l.getD 1 0))) := by unfold petal; rw [gk, g0]
      have hixk := fun W => hix W k hlt
      obtain ⟨t, ht⟩ : ∃ t, t = l[k] := ⟨_, rfl⟩
      obtain ⟨t0, ht0⟩ : ∃ t, t = l[0] := ⟨_, rfl⟩
      rw [← ht] at hck hmk hpet
      rw [← ht0] at hc0 hm0 hpet
      rw [Nat.add_zero] at hc0
      have h1 := iand_is hs0 (show s < 4611686018427387904 by omega) hmk.1 (show t < 4611686018427387904 by omega)
      have h2 := iand_is hs0 (show s < 4611686018427387904 by omega) hm0.1 (show t0 < 4611686018427387904 by omega)
      have HT0 := Lib.hid ht0
      have HT := Lib.hid ht
      clear ht ht0 gk g0
      have bad : petal l s k = false → inFI l s = false := fun h => allTo_false hlt h
      cases c1 : (t == s) with
      | true =>
        have hbad := bad (by rw [hpet, c1]; rfl)
        have HBAD := Lib.hid hbad
        clear hbad bad hpet hc hm h1 h2
        go_wp2_with fail
        go_quiet (fail)
        go_wp2
        go_ret
        exact ⟨ret_bool HBAD.out.symm, ((Below.refl _ _).drewN' _).drewN' _⟩
      | false =>
        cases c2 : (iand s t != iand s t0) with
        | true =>
          have hbad := bad (by rw [hpet]; have : (iand s t == iand s t0) = false := by simpa using c2
                               rw [this]; simp)
          have HBAD := Lib.hid hbad
          obtain ⟨q, hq⟩ : ∃ q, q = iand s t := ⟨_, rfl⟩
          obtain ⟨q0, hq0⟩ : ∃ q, q = iand s t0 := ⟨_, rfl⟩
          rw [← hq] at h1 c2
          rw [← hq0] at h2 c2
          clear hbad bad hpet hc hm hq hq0
          go_wp2_with fail
          go_quiet (fail)
          go_wp2
          go_ret
          exact ⟨ret_bool HBAD.out.symm, ((Below.refl _ _).drewN' _).drewN' _⟩
        | false =>
          have c2' : (iand s t == iand s t0) = true := by simpa using c2
          by_cases hk0 : k = 0
          · have hgood : petal l s k = true := by rw [hpet, c1, c2', hk0]; rfl
            have HG := Lib.hid hgood
            subst hk0
            have ett : t = t0 := HT.out.trans HT0.out.symm
            subst ett
            obtain ⟨q, hq⟩ : ∃ q, q = iand s t := ⟨_, rfl⟩
            rw [← hq] at h1
            clear hgood bad hpet hc hm hq c2' hck h2 c2
            go_wp2_with fail
            go_quiet (fail)
            go_wp2
            go_roundw
            case rel => exact ⟨0 + 1, n + nq, by omega, by go_num, allTo_succ H.out HG.out, by simp⟩
            case measure => simp [intOf]; omega
          · have h1l : 1 < l.length := by omega
            have hc1 := hc 1 h1l
            have hix1 : ∀ w', (Instr.indexAt 22 (.slice a l.length c) (.int .i64 1)).run Tryd.prog w' = .ok (.pointer (some ⟨b, off + 1, none⟩)) w' := fun w' => by have := hix w' 1 h1l; simpa using this
            have hm1 := hm _ (List.getElem_mem h1l)
            have g1 := getD_at l 1 h1l
            rw [g1] at hpet
            obtain ⟨t1, ht1⟩ : ∃ t, t = l[1] := ⟨_, rfl⟩
            rw [← ht1] at hc1 hm1 hpet
            have h3 := iand_is hm0.1 (show t0 < 4611686018427387904 by omega) hm1.1 (show t1 < 4611686018427387904 by omega)
            have hkg : (0 : Int) < k := by omega
            have hkn : 0 < k := by omega
            have hkb : (k == 0) = false := by simpa using hk0
            cases c4 : (iand s t != iand t0 t1) with
            | true =>
              have hbad := bad (by rw [hpet]; have : (iand s t == iand t0 t1) = false := by simpa using c4
                                   rw [this, hkb]; simp)
              have HBAD := Lib.hid hbad
              obtain ⟨q, hq⟩ : ∃ q, q = iand s t := ⟨_, rfl⟩
              obtain ⟨q0, hq0⟩ : ∃ q, q = iand s t0 := ⟨_, rfl⟩
              obtain ⟨q1, hq1⟩ : ∃ q, q = iand t0 t1 := ⟨_, rfl⟩
              rw [← hq] at h1 c2 c4
              rw [← hq0] at h2 c2
              rw [← hq1] at h3 c4
              clear hbad bad hpet hc hm hq hq0 hq1 c2' g1 ht1
              go_wp2_with fail
              go_quiet (fail)
              go_wp2
              go_ret
              exact ⟨ret_bool HBAD.out.symm, ((Below.refl _ _).drewN' _).drewN' _⟩
            | false =>
              have c4' : (iand s t == iand t0 t1) = true := by simpa using c4
              have hgood : petal l s k = true := by rw [hpet, c1, c2', c4']; simp
              have HG := Lib.hid hgood
              obtain ⟨q, hq⟩ : ∃ q, q = iand s t := ⟨_, rfl⟩
              obtain ⟨q0, hq0⟩ : ∃ q, q = iand s t0 := ⟨_, rfl⟩
              obtain ⟨q1, hq1⟩ : ∃ q, q = iand t0 t1 := ⟨_, rfl⟩
              rw [← hq] at h1 c2 c4
              rw [← hq0] at h2 c2
              rw [← hq1] at h3 c4
              clear hgood bad hpet hc hm hq hq0 hq1 c2' c4' g1 ht1
              go_wp2_with fail
              go_quiet (fail)
              go_wp2
              go_roundw
              case rel => exact ⟨k + 1, n + nq, by omega, by go_num, allTo_succ H.out HG.out, by simp⟩
              case measure => simp [intOf]; omega
    · have hkl : k = l.length := by omega
      subst hkl
      go_wp2
      go_ret
      exact ⟨ret_bool H.out.symm, (Below.refl _ _).drewN' _⟩
end Go.Proofs.YtelmokapdkepbaaDoor
end
