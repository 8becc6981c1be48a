/- The laws' own sizes and equalities. -/
import Derived.Test.YtpaoiiiceekkkaaDoorQ02
import Derived.Deep.Light
section
namespace Go.Proofs.YtpaoiiiceekkkaaDoor
open Go.RowKit Go.G5

def szL (left : Int) (n : Nat) : Int := if left - n < 0 then -1 else left - n
theorem szIntS_any (v : Value) (l : List Int) (left : Int) (w : World) (hv : Ints w v l) (h0 : 0 ≤ left) (h1 : left ≤ 1048576) :
    Calls Tryd.prog 27 #[v, .int .i64 left] w fun e w' => e = .returned (.int .i64 (szL left l.length)) ∧ w = w' := by
  obtain ⟨a, b, off, c, rfl, hlen, hix, hc, hb⟩ := hv.view Tryd.prog 22 3 Tryd.underlying22 intElem
  by_cases hlt : left - l.length < 0
  · go_enter Tryd.func27, Tryd.ntmps27
    go_wp2
    go_ret
    exact ⟨ret_int (by unfold szL; rw [if_pos hlt]), rfl⟩
  · go_enter Tryd.func27, Tryd.ntmps27
    go_wp2
    go_ret
    exact ⟨ret_int (by unfold szL; rw [if_neg (by omega)]), rfl⟩

theorem szFamily_any (n : Int) (v : Value) (l : List Int) (left : Int) (w : World) (hv : Ints w v l) (h0 : 0 ≤ left) (h1 : left ≤ 1048576) :
    Calls Tryd.prog 18 #[.agg #[.int .i64 n, v], .int .i64 left] w fun e w' => e = .returned (.int .i64 (szL left l.length)) ∧ Below w.heap.size w w' := by
  obtain ⟨av, cv, rfl⟩ := hv.shape
  by_cases hlt : left - l.length < 0
  · have he : szL left l.length = -1 := by unfold szL; rw [if_pos hlt]
    go_enter Tryd.func18, Tryd.ntmps18
    go_wp2_with (go_at_call 27; refine (szIntS_any _ l _ _ (hv.below ((Below.refl _ _).alloc (Nat.le_refl _) _) (Nat.le_refl _)) h0 h1).mono ?_; rintro e w1 ⟨rfl, rfl⟩)
    go_ret
    exact ⟨ret_int he.symm, (Below.refl _ _).alloc (Nat.le_refl _) _⟩
  · have he : szL left l.length = left - l.length := by unfold szL; rw [if_neg hlt]
    go_enter Tryd.func18, Tryd.ntmps18
    go_wp2_with (go_at_call 27; refine (szIntS_any _ l _ _ (hv.below ((Below.refl _ _).alloc (Nat.le_refl _) _) (Nat.le_refl _)) h0 h1).mono ?_; rintro e w1 ⟨rfl, rfl⟩)
    go_ret
    exact ⟨ret_int he.symm, (Below.refl _ _).alloc (Nat.le_refl _) _⟩

theorem szFamily_c (n : Int) (v : Value) (l : List Int) (left : Int) (w : World) (hv : Ints w v l) (h0 : 0 ≤ left) (h1 : left ≤ 1048576) :
    Calls Tryd.prog 18 #[.agg #[.int .i64 n, v], .int .i64 left] w fun e w' => (∃ r, e = .returned (.int .i64 r) ∧ (r < 0 ∨ (0 ≤ r ∧ r ≤ left ∧ l.length ≤ left))) ∧ Below w.heap.size w w' :=
  (szFamily_any n v l left w hv h0 h1).mono fun e w' ⟨he, hb⟩ => ⟨⟨_, he, by unfold szL; split <;> omega⟩, hb⟩

theorem szFunction_any (n : Int) (v : Value) (l : List Int) (left : Int) (w : World) (hv : Ints w v l) (h0 : 0 ≤ left) (h1 : left ≤ 1048576) :
    Calls Tryd.prog 13 #[.agg #[.int .i64 n, v], .int .i64 left] w fun e w' => e = .returned (.int .i64 (szL left l.length)) ∧ Below w.heap.size w w' := by
  obtain ⟨av, cv, rfl⟩ := hv.shape
  by_cases hlt : left - l.length < 0
  · have he : szL left l.length = -1 := by unfold szL; rw [if_pos hlt]
    go_enter Tryd.func13, Tryd.ntmps13
    go_wp2_with (go_at_call 27; refine (szIntS_any _ l _ _ (hv.below ((Below.refl _ _).alloc (Nat.le_refl _) _) (Nat.le_refl _)) h0 h1).mono ?_; rintro e w1 ⟨rfl, rfl⟩)
    go_ret
    exact ⟨ret_int he.symm, (Below.refl _ _).alloc (Nat.le_refl _) _⟩
  · have he : szL left l.length = left - l.length := by unfold szL; rw [if_neg hlt]
    go_enter Tryd.func13, Tryd.ntmps13
    go_wp2_with (go_at_call 27; refine (szIntS_any _ l _ _ (hv.below ((Below.refl _ _).alloc (Nat.le_refl _) _) (Nat.le_refl _)) h0 h1).mono ?_; rintro e w1 ⟨rfl, rfl⟩)
    go_ret
    exact ⟨ret_int he.symm, (Below.refl _ _).alloc (Nat.le_refl _) _⟩

theorem szFunction_c (n : Int) (v : Value) (l : List Int) (left : Int) (w : World) (hv : Ints w v l) (h0 : 0 ≤ left) (h1 : left ≤ 1048576) :
    Calls Tryd.prog 13 #[.agg #[.int .i64 n, v], .int .i64 left] w fun e w' => (∃ r, e = .returned (.int .i64 r) ∧ (r < 0 ∨ (0 ≤ r ∧ r ≤ left ∧ l.length ≤ left))) ∧ Below w.heap.size w w' :=
  (szFunction_any n v l left w hv h0 h1).mono fun e w' ⟨he, hb⟩ => ⟨⟨_, he, by unfold szL; split <;> omega⟩, hb⟩

set_option maxHeartbeats 400000 in
theorem eqIntS_any (v v' : Value) (l l' : List Int) (w : World) (hv : Ints w v l) (hv' : Ints w v' l') :
    Calls Tryd.prog 41 #[v, v'] w fun e w' => e = .returned (.bool (decide (l = l'))) ∧ ∃ n, w' = w.drewN n := by
  obtain ⟨a, b, off, c, rfl, hlen, hix, hc, hb⟩ := hv.view Tryd.prog 22 3 Tryd.underlying22 intElem
  obtain ⟨a', b', off', c', rfl, hlen', hix', hc', hb'⟩ := hv'.view Tryd.prog 22 3 Tryd.underlying22 intElem
  by_cases hll : l.length = l'.length
  · have HL := Lib.hid hll
    have hle1 : l.length ≤ l'.length := by omega
    have hle2 : l'.length ≤ l.length := by omega
    have hb1 : ((l.length : Int) != (l'.length : Int)) = false := by simp [hll]
    clear hll
    go_enter Tryd.func41, Tryd.ntmps41
    go_wp2
    go_loopw [5] (fun i wr => ∃ k n : Nat, k ≤ l.length ∧ i = .int .i64 k ∧ wr = w.drewN n ∧ (∀ j (h : j < l.length) (h' : j < l'.length), j < k → l[j] = l'[j]))
      (fun i _ => l.length - (intOf i).toNat)
    case atStart => exact ⟨0, 0, Nat.zero_le _, rfl, rfl, by intros; omega⟩
    case round =>
      obtain ⟨k, n, hk, rfl, rfl, hall⟩ := hrel
      have H := Lib.hid hall
      clear hall
      by_cases hlt : k < l.length
      · have hlt' : k < l'.length := by omega
        by_cases heq : l[k] = l'[k]
        · have ht : (l[k] != l'[k]) = false := by simp [heq]
          have HQ := Lib.hid heq
          clear heq
          go_wp2
          go_quiet (fail)
          go_wp2
          go_roundw
          case rel =>
            refine ⟨k + 1, _, by omega, by go_num, rfl, fun j h h' hj => ?_⟩
            by_cases hjk : j = k
            · subst hjk; exact HQ.out
            · exact H.out j h h' (by omega)
          case measure => simp [intOf]; omega
        · have ht : (l[k] != l'[k]) = true := by simp [heq]
          have HQ := Lib.hid heq
          clear heq
          go_wp2
          go_quiet (fail)
          go_wp2
          go_ret
          exact ⟨ret_bool (by simp; intro e; subst e; exact HQ.out rfl), ⟨n + nq, by simp⟩⟩
      · have hkl : l.length ≤ k := by omega
        go_wp2
        go_ret
        exact ⟨ret_bool (by simp; exact List.ext_getElem HL.out fun j h h' => H.out j h h' (by omega)), ⟨n, rfl⟩⟩
  · go_enter Tryd.func41, Tryd.ntmps41
    go_wp2
    go_ret
    exact ⟨ret_bool (by simp; intro h; exact hll (by rw [h])), ⟨0, rfl⟩⟩

theorem eqFamily_any (n n' : Int) (v v' : Value) (l l' : List Int) (w : World) (hv : Ints w v l) (hv' : Ints w v' l') :
    Calls Tryd.prog 22 #[.agg #[.int .i64 n, v], .agg #[.int .i64 n', v']] w fun e w' => e = .returned (.bool (decide (n = n') && decide (l = l'))) ∧ Below w.heap.size w w' := by
  obtain ⟨av, cv, rfl⟩ := hv.shape
  obtain ⟨av', cv', rfl⟩ := hv'.shape
  by_cases hn : n = n'
  · subst hn
    go_enter Tryd.func22, Tryd.ntmps22
    go_wp2_with (go_at_call 41; refine (eqIntS_any _ _ l l' _ ((hv.alloc _).alloc _) ((hv'.alloc _).alloc _)).mono ?_; rintro e w1 ⟨rfl, nn, rfl⟩)
    all_goals go_ret
    · exact ⟨ret_bool (by simp_all), (bl2 _ _ _).drewN' _⟩
    · exact ⟨ret_bool (by simp_all), (bl2 _ _ _).drewN' _⟩
  · have hn' : (n != n') = true := by simp [hn]
    go_enter Tryd.func22, Tryd.ntmps22
    go_wp2
    go_ret
    exact ⟨ret_bool (by simp [hn]), (bl2 _ _ _)⟩

theorem eqFunction_any (n n' : Int) (v v' : Value) (l l' : List Int) (w : World) (hv : Ints w v l) (hv' : Ints w v' l') :
    Calls Tryd.prog 17 #[.agg #[.int .i64 n, v], .agg #[.int .i64 n', v']] w fun e w' => e = .returned (.bool (decide (n = n') && decide (l = l'))) ∧ Below w.heap.size w w' := by
  obtain ⟨av, cv, rfl⟩ := hv.shape
  obtain ⟨av', cv', rfl⟩ := hv'.shape
  by_cases hn : n = n'
  · subst hn
    go_enter Tryd.func17, Tryd.ntmps17
    go_wp2_with (go_at_call 41; refine (eqIntS_any _ _ l l' _ ((hv.alloc _).alloc _) ((hv'.alloc _).alloc _)).mono ?_; rintro e w1 ⟨rfl, nn, rfl⟩)
    all_goals go_ret
    · exact ⟨ret_bool (by simp_all), (bl2 _ _ _).drewN' _⟩
    · exact ⟨ret_bool (by simp_all), (bl2 _ _ _).drewN' _⟩
  · have hn' : (n != n') = true := by simp [hn]
    go_enter Tryd.func17, Tryd.ntmps17
    go_wp2
    go_ret
    exact ⟨ret_bool (by simp [hn]), (bl2 _ _ _)⟩

set_option maxHeartbeats 400000 in
theorem l2Same_any (v v' : Value) (l l' : List Int) (w : World) (hv : Ints w v l) (hv' : Ints w v' l') :
    Calls Tryd.prog 122 #[v, v'] w fun e w' => e = .returned (.bool (decide (l = l'))) ∧ ∃ n, w' = w.drewN n := by
  obtain ⟨a, b, off, c, rfl, hlen, hix, hc, hb⟩ := hv.view Tryd.prog 22 3 Tryd.underlying22 intElem
  obtain ⟨a', b', off', c', rfl, hlen', hix', hc', hb'⟩ := hv'.view Tryd.prog 22 3 Tryd.underlying22 intElem
  by_cases hll : l.length = l'.length
  · have HL := Lib.hid hll
    have hle1 : l.length ≤ l'.length := by omega
    have hle2 : l'.length ≤ l.length := by omega
    have hb1 : ((l.length : Int) != (l'.length : Int)) = false := by simp [hll]
    clear hll
    go_enter Tryd.func122, Tryd.ntmps122
    go_wp2
    go_loopw [5] (fun i wr => ∃ k n : Nat, k ≤ l.length ∧ i = .int .i64 k ∧ wr = w.drewN n ∧ (∀ j (h : j < l.length) (h' : j < l'.length), j < k → l[j] = l'[j]))
      (fun i _ => l.length - (intOf i).toNat)
    case atStart => exact ⟨0, 0, Nat.zero_le _, rfl, rfl, by intros; omega⟩
    case round =>
      obtain ⟨k, n, hk, rfl, rfl, hall⟩ := hrel
      have H := Lib.hid hall
      clear hall
      by_cases hlt : k < l.length
      · have hlt' : k < l'.length := by omega
        by_cases heq : l[k] = l'[k]
        · have ht : (l[k] != l'[k]) = false := by simp [heq]
          have HQ := Lib.hid heq
          clear heq
          go_wp2
          go_quiet (fail)
          go_wp2
          go_roundw
          case rel =>
            refine ⟨k + 1, _, by omega, by go_num, rfl, fun j h h' hj => ?_⟩
            by_cases hjk : j = k
            · subst hjk; exact HQ.out
            · exact H.out j h h' (by omega)
          case measure => simp [intOf]; omega
        · have ht : (l[k] != l'[k]) = true := by simp [heq]
          have HQ := Lib.hid heq
          clear heq
          go_wp2
          go_quiet (fail)
          go_wp2
          go_ret
          exact ⟨ret_bool (by simp; intro e; subst e; exact HQ.out rfl), ⟨n + nq, by simp⟩⟩
      · have hkl : l.length ≤ k := by omega
        go_wp2
        go_ret
        exact ⟨ret_bool (by simp; exact List.ext_getElem HL.out fun j h h' => H.out j h h' (by omega)), ⟨n, rfl⟩⟩
  · go_enter Tryd.func122, Tryd.ntmps122
    go_wp2
    go_ret
    exact ⟨ret_bool (by simp; intro h; exact hll (by rw [h])), ⟨0, rfl⟩⟩

set_option maxHeartbeats 400000 in
theorem slicesEqual_any (v v' : Value) (l l' : List Int) (w : World) (hv : Ints w v l) (hv' : Ints w v' l') :
    Calls Tryd.prog 182 #[v, v'] w fun e w' => e = .returned (.bool (decide (l = l'))) ∧ ∃ n, w' = w.drewN n := by
  obtain ⟨a, b, off, c, rfl, hlen, hix, hc, hb⟩ := hv.view Tryd.prog 22 3 Tryd.underlying22 intElem
  obtain ⟨a', b', off', c', rfl, hlen', hix', hc', hb'⟩ := hv'.view Tryd.prog 22 3 Tryd.underlying22 intElem
  by_cases hll : l.length = l'.length
  · have HL := Lib.hid hll
    have hle1 : l.length ≤ l'.length := by omega
    have hle2 : l'.length ≤ l.length := by omega
    have hb1 : ((l.length : Int) != (l'.length : Int)) = false := by simp [hll]
    clear hll
    go_enter Tryd.func182, Tryd.ntmps182
    go_wp2
    go_loopw [13] (fun i wr => ∃ k n : Nat, k ≤ l.length ∧ i = .int .i64 k ∧ wr = w.drewN n ∧ (∀ j (h : j < l.length) (h' : j < l'.length), j < k → l[j] = l'[j]))
      (fun i _ => l.length - (intOf i).toNat)
    case atStart => exact ⟨0, 0, Nat.zero_le _, rfl, rfl, by intros; omega⟩
    case round =>
      obtain ⟨k, n, hk, rfl, rfl, hall⟩ := hrel
      have H := Lib.hid hall
      clear hall
      by_cases hlt : k < l.length
      · have hlt' : k < l'.length := by omega
        by_cases heq : l[k] = l'[k]
        · have ht : (l[k] != l'[k]) = false := by simp [heq]
          have HQ := Lib.hid heq
          clear heq
          go_wp2
          go_quiet (fail)
          go_wp2
          go_roundw
          case rel =>
            refine ⟨k + 1, _, by omega, by go_num, rfl, fun j h h' hj => ?_⟩
            by_cases hjk : j = k
            · subst hjk; exact HQ.out
            · exact H.out j h h' (by omega)
          case measure => simp [intOf]; omega
        · have ht : (l[k] != l'[k]) = true := by simp [heq]
          have HQ := Lib.hid heq
          clear heq
          go_wp2
          go_quiet (fail)
          go_wp2
          go_ret
          exact ⟨ret_bool (by simp; intro e; subst e; exact HQ.out rfl), ⟨n + nq, by simp⟩⟩
      · have hkl : l.length ≤ k := by omega
        go_wp2
        go_ret
        exact ⟨ret_bool (by simp; exact List.ext_getElem HL.out fun j h h' => H.out j h h' (by omega)), ⟨n, rfl⟩⟩
  · go_enter Tryd.func182, Tryd.ntmps182
    go_wp2
    go_ret
    exact ⟨ret_bool (by simp; intro h; exact hll (by rw [h])), ⟨0, rfl⟩⟩

theorem equalFunctionsI_any (n n' : Int) (v v' : Value) (l l' : List Int) (w : World) (hv : Ints w v l) (hv' : Ints w v' l') :
    Calls Tryd.prog 135 #[.agg #[.int .i64 n, v], .agg #[.int .i64 n', v']] w fun e w' => e = .returned (.bool (decide (n = n') && decide (l = l'))) ∧ Below w.heap.size w w' := by
  obtain ⟨av, cv, rfl⟩ := hv.shape
  obtain ⟨av', cv', rfl⟩ := hv'.shape
  by_cases hn : n = n'
  · subst hn
    have hnn : (n == n) = true := by simp
    go_enter Tryd.func135, Tryd.ntmps135
    go_wp2_with (go_at_call 182; refine (slicesEqual_any _ _ l l' _ ((hv.alloc _).alloc _) ((hv'.alloc _).alloc _)).mono ?_; rintro e w1 ⟨rfl, nn, rfl⟩)
    go_ret
    exact ⟨ret_bool (by simp), (bl2 _ _ _).drewN' _⟩
  · have hn' : (n == n') = false := by simp [hn]
    go_enter Tryd.func135, Tryd.ntmps135
    go_wp2
    go_ret
    exact ⟨ret_bool (by simp [hn]), (bl2 _ _ _)⟩

end Go.Proofs.YtpaoiiiceekkkaaDoor
end
