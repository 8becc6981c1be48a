/- Sets of families: who is in. -/
import Derived.Test.YthbkghpgnnpmbaaFam
import Derived.Deep.RegionHeld3
namespace Go.Proofs.Ythbkghpgnnpmbaa
open Go.RowKit Go.G5

def has (l : List Int) (s : Int) : Bool := decide (s ∈ l)
theorem has_true {l : List Int} {s : Int} : has l s = true ↔ s ∈ l := by simp [has]
theorem has_at (l : List Int) (k : Nat) (h : k < l.length) : has l l[k] = true := has_true.2 (List.getElem_mem h)
theorem has_false {l : List Int} {s : Int} (h : ∀ k, (hk : k < l.length) → l[k] ≠ s) : has l s = false := by
  unfold has
  rw [decide_eq_false_iff_not]
  intro hm
  obtain ⟨k, hk, he⟩ := List.getElem_of_mem hm
  exact h k hk he

set_option maxHeartbeats 400000 in
theorem l10Has_any (l : List Int) (v : Value) (s : Int) (w : World) (hv : Ints w v l) :
    Calls Try.prog 64 #[v, .int .i64 s] w fun e w' => e = .returned (.bool (has l s)) ∧ w = w' := by
  obtain ⟨a, b, off, c, rfl, hlen, hix, hc, hb⟩ := hv.view Try.prog 24 3 Try.underlying24 intElem
  go_enter Try.func64, Try.ntmps64
  go_wp2
  go_loop [5] (fun i => ∃ k : Nat, k ≤ l.length ∧ i = .int .i64 k ∧ (∀ j, (hj : j < l.length) → j < k → l[j] ≠ s)) (fun i => l.length - (intOf i).toNat)
  case atStart => exact ⟨0, Nat.zero_le _, rfl, by intros; omega⟩
  case round =>
    obtain ⟨k, hk, rfl, hno⟩ := hrel
    have H := Lib.hid hno
    clear hno
    by_cases hlt : k < l.length
    · by_cases he : l[k] = s
      · have ht : (l[k] == s) = true := by simp [he]
        have hh : has l s = true := by rw [← he]; exact has_at l k hlt
        have HH := Lib.hid hh
        clear he hh
        go_wp2
        go_ret
        exact ⟨by rw [HH.out]; rfl, rfl⟩
      · have ht : (l[k] == s) = false := by simp [he]
        have HE := Lib.hid he
        clear he
        go_wp2
        go_round
        case rel =>
          refine ⟨k + 1, by omega, by go_num, fun j hj hjk => ?_⟩
          by_cases hjk' : j = k
          · subst hjk'; exact HE.out
          · exact H.out j hj (by omega)
        case measure => simp [intOf]; omega
    · have hh : has l s = false := has_false fun j hj => H.out j hj (by omega)
      have HH := Lib.hid hh
      clear hh
      go_wp2
      go_ret
      exact ⟨by rw [HH.out]; rfl, rfl⟩

theorem cmpNaN_any (x : Int) (w : World) : Calls Try.prog 156 #[.int .i64 x] w fun e w' => e = .returned (.bool false) ∧ w = w' := by
  have h : (x != x) = false := by simp
  go_enter Try.func156, Try.ntmps156
  go_wp2
  go_ret
  exact ⟨rfl, rfl⟩
theorem slNaN_any (x : Int) (w : World) : Calls Try.prog 142 #[.int .i64 x] w fun e w' => e = .returned (.bool false) ∧ w = w' := by
  have h : (x != x) = false := by simp
  go_enter Try.func142, Try.ntmps142
  go_wp2
  go_ret
  exact ⟨rfl, rfl⟩
theorem cmpLess_any (x y : Int) (w : World) : Calls Try.prog 141 #[.int .i64 x, .int .i64 y] w fun e w' => e = .returned (.bool (decide (x < y))) ∧ w = w' := by
  go_enter Try.func141, Try.ntmps141
  go_wp2_with (go_at_call 156; refine (cmpNaN_any _ _).mono ?_; rintro e w' ⟨rfl, rfl⟩)
  go_ret
  exact ⟨rfl, rfl⟩

set_option maxHeartbeats 1000000 in
theorem binSearch_any (l : List Int) (v : Value) (s : Int) (w : World) (hv : Ints w v l) (hasc : l.Pairwise (· < ·)) (hl : l.length ≤ 1048576) :
    Calls Try.prog 113 #[v, .int .i64 s] w fun e w' => (∃ i : Int, e = .returned (.tuple #[.int .i64 i, .bool (has l s)])) ∧ w = w' := by
  obtain ⟨a, b, off, c, rfl, hlen, hix, hc, hb⟩ := hv.view Try.prog 24 3 Try.underlying24 intElem
  have hmono : ∀ i j, (hi : i < l.length) → (hj : j < l.length) → i < j → l[i] < l[j] := fun i j hi hj hij => List.pairwise_iff_getElem.1 hasc i j hi hj hij
  have HMO := Lib.hid hmono
  clear hmono hasc
  go_enter Try.func113, Try.ntmps113
  go_wp2
  go_loop [7, 8] (fun i j => ∃ p q : Nat, p ≤ q ∧ q ≤ l.length ∧ i = .int .i64 p ∧ j = .int .i64 q ∧ (∀ t, (ht : t < l.length) → t < p → l[t] < s) ∧ (∀ t, (ht : t < l.length) → q ≤ t → s ≤ l[t])) (fun i j => (intOf j).toNat - (intOf i).toNat)
  case atStart => exact ⟨0, l.length, Nat.zero_le _, Nat.le_refl _, rfl, rfl, by intros; omega, by intros; omega⟩
  case round =>
    obtain ⟨p, q, hpq, hql, rfl, rfl, hlo, hhi⟩ := hrel
    have HLO := Lib.hid hlo
    have HHI := Lib.hid hhi
    clear hlo hhi
    by_cases hlt : p < q
    · have hm : (p + q) / 2 < l.length := by omega
      have hcm := hc ((p + q) / 2) hm
      have hixm : ∀ w', (Instr.indexAt 24 (.slice a l.length c) (.int .i64 (((p : Int) + (q : Int)) / 2))).run Try.prog w' = .ok (.pointer (some ⟨b, off + (p + q) / 2, none⟩)) w' := fun w' => by
        rw [show (((p : Int) + (q : Int)) / 2) = (((p + q) / 2 : Nat) : Int) by omega]
        exact hix w' _ hm
      by_cases hls : l[(p + q) / 2] < s
      · go_wp2_with (go_at_call 141; refine (cmpLess_any _ _ _).mono ?_; rintro e w' ⟨rfl, rfl⟩)
        go_round
        case rel =>
          refine ⟨(p + q) / 2 + 1, q, by omega, hql, by go_num, rfl, fun t ht htp => ?_, HHI.out⟩
          by_cases h : t = (p + q) / 2
          · subst h; exact hls
          · have := HMO.out t ((p + q) / 2) ht hm (by omega); omega
        case measure => simp [intOf]; omega
      · go_wp2_with (go_at_call 141; refine (cmpLess_any _ _ _).mono ?_; rintro e w' ⟨rfl, rfl⟩)
        go_round
        case rel =>
          refine ⟨p, (p + q) / 2, by omega, by omega, rfl, by go_num, HLO.out, fun t ht htp => ?_⟩
          by_cases h : t = (p + q) / 2
          · subst h; omega
          · have := HMO.out ((p + q) / 2) t hm ht (by omega); omega
        case measure => simp [intOf]; omega
    · have hpq' : p = q := by omega
      by_cases hpl : p < l.length
      · have hcp := hc p hpl
        by_cases he : l[p] = s
        · have ht : (l[p] == s) = true := by simp [he]
          have hh : has l s = true := by rw [← he]; exact has_at l p hpl
          have HH := Lib.hid hh
          clear he hh hpq'
          go_wp2_with (go_at_call 142; refine (slNaN_any _ _).mono ?_; rintro e w' ⟨rfl, rfl⟩)
          go_ret2
          exact ⟨⟨p, by rw [HH.out]; rfl⟩, rfl⟩
        · have ht : (l[p] == s) = false := by simp [he]
          have hh : has l s = false := has_false fun t ht' hts => by
            rcases Nat.lt_trichotomy t p with h | h | h
            · have := HLO.out t ht' h; omega
            · subst h; exact he hts
            · have h1 := HHI.out p hpl (by omega)
              have h2 := HMO.out p t hpl ht' h
              omega
          have HH := Lib.hid hh
          clear he hh hpq'
          go_wp2_with (go_at_call 142; refine (slNaN_any _ _).mono ?_; rintro e w' ⟨rfl, rfl⟩)
          go_ret2
          exact ⟨⟨p, by rw [HH.out]; rfl⟩, rfl⟩
      · have hh : has l s = false := has_false fun t ht' hts => by
          have := HLO.out t ht' (by omega); omega
        have HH := Lib.hid hh
        clear hh hpq'
        go_wp2
        go_ret2
        exact ⟨⟨p, by rw [HH.out]; rfl⟩, rfl⟩

theorem hasSet_any (g : Int) (l : List Int) (v : Value) (s : Int) (w : World) (hv : Ints w v l) (hasc : l.Pairwise (· < ·)) (hl : l.length ≤ 1048576) :
    Calls Try.prog 57 #[.agg #[.int .i64 g, v], .int .i64 s] w fun e w' => e = .returned (.bool (has l s)) ∧ Below w.heap.size w w' := by
  obtain ⟨av, cv, rfl⟩ := hv.shape
  have H := Lib.hid hasc
  clear hasc
  go_enter Try.func57, Try.ntmps57
  go_wp2_with (go_at_call 113; refine (binSearch_any l _ _ _ (hv.alloc _) H.out hl).mono ?_; rintro e w' ⟨⟨i, rfl⟩, rfl⟩)
  go_ret
  exact ⟨rfl, bl1 _ _⟩
end Go.Proofs.Ythbkghpgnnpmbaa
