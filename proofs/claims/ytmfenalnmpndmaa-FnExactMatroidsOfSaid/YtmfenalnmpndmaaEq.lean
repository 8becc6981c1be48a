/- The laws' own sizes and equalities. -/
import Derived.Test.YtmfenalnmpndmaaTab
import Derived.Deep.Light
namespace Go.Proofs.Ytmfenalnmpndmaa
open Go.RowKit Go.G5

def szL (left : Int) (n : Nat) : Int := if left - n < 0 then -1 else left - n
set_option maxHeartbeats 400000 in
theorem eqIntS_any (v v' : Value) (l l' : List Int) (w : World) (hv : Ints w v l) (hv' : Ints w v' l') :
    Calls Try.prog 121 #[v, v'] w fun e w' => e = .returned (.bool (decide (l = l'))) ∧ ∃ n, w' = w.drewN n := by
  obtain ⟨a, b, off, c, rfl, hlen, hix, hc, hb⟩ := hv.view Try.prog 24 3 Try.underlying24 intElem
  obtain ⟨a', b', off', c', rfl, hlen', hix', hc', hb'⟩ := hv'.view Try.prog 24 3 Try.underlying24 intElem
  by_cases hll : l.length = l'.length
  · have HL := Lib.hid hll
    have hle1 : l.length ≤ l'.length := by omega
    have hle2 : l'.length ≤ l.length := by omega
    have hb1 : ((l.length : Int) != (l'.length : Int)) = false := by simp [hll]
    clear hll
    go_enter Try.func121, Try.ntmps121
    go_wp2
    go_loopw [5] (fun i wr => ∃ k n : Nat, k ≤ l.length ∧ i = .int .i64 k ∧ wr = w.drewN n ∧ (∀ j (h : j < l.length) (h' : j < l'.length), j < k → l[j] = l'[j]))
      (fun i _ => l.length - (intOf i).toNat)
    case atStart => exact ⟨0, 0, Nat.zero_le _, rfl, rfl, by intros; omega⟩
    case round =>
      obtain ⟨k, n, hk, rfl, rfl, hall⟩ := hrel
      have H := Lib.hid hall
      clear hall
      by_cases hlt : k < l.length
      · have hlt' : k < l'.length := by omega
        by_cases heq : l[k] = l'[k]
        · have ht : (l[k] != l'[k]) = false := by simp [heq]
          have HQ := Lib.hid heq
          clear heq
          go_wp2
          go_quiet (fail)
          go_wp2
          go_roundw
          case rel =>
            refine ⟨k + 1, _, by omega, by go_num, rfl, fun j h h' hj => ?_⟩
            by_cases hjk : j = k
            · subst hjk; exact HQ.out
            · exact H.out j h h' (by omega)
          case measure => simp [intOf]; omega
        · have ht : (l[k] != l'[k]) = true := by simp [heq]
          have HQ := Lib.hid heq
          clear heq
          go_wp2
          go_quiet (fail)
          go_wp2
          go_ret
          exact ⟨ret_bool (by simp; intro e; subst e; exact HQ.out rfl), ⟨n + nq, by simp⟩⟩
      · have hkl : l.length ≤ k := by omega
        go_wp2
        go_ret
        exact ⟨ret_bool (by simp; exact List.ext_getElem HL.out fun j h h' => H.out j h h' (by omega)), ⟨n, rfl⟩⟩
  · go_enter Try.func121, Try.ntmps121
    go_wp2
    go_ret
    exact ⟨ret_bool (by simp; intro h; exact hll (by rw [h])), ⟨0, rfl⟩⟩

theorem eqFunction_any (n n' : Int) (v v' : Value) (l l' : List Int) (w : World) (hv : Ints w v l) (hv' : Ints w v' l') :
    Calls Try.prog 91 #[.agg #[.int .i64 n, v], .agg #[.int .i64 n', v']] w fun e w' => e = .returned (.bool (decide (n = n') && decide (l = l'))) ∧ Below w.heap.size w w' := by
  obtain ⟨av, cv, rfl⟩ := hv.shape
  obtain ⟨av', cv', rfl⟩ := hv'.shape
  by_cases hn : n = n'
  · subst hn
    go_enter Try.func91, Try.ntmps91
    go_wp2_with (go_at_call 121; refine (eqIntS_any _ _ l l' _ ((hv.alloc _).alloc _) ((hv'.alloc _).alloc _)).mono ?_; rintro e w1 ⟨rfl, nn, rfl⟩)
    all_goals go_ret
    · exact ⟨ret_bool (by simp_all), (bl2 _ _ _).drewN' _⟩
    · exact ⟨ret_bool (by simp_all), (bl2 _ _ _).drewN' _⟩
  · have hn' : (n != n') = true := by simp [hn]
    go_enter Try.func91, Try.ntmps91
    go_wp2
    go_ret
    exact ⟨ret_bool (by simp [hn]), (bl2 _ _ _)⟩

set_option maxHeartbeats 400000 in
theorem l2Same_any (v v' : Value) (l l' : List Int) (w : World) (hv : Ints w v l) (hv' : Ints w v' l') :
    Calls Try.prog 67 #[v, v'] w fun e w' => e = .returned (.bool (decide (l = l'))) ∧ ∃ n, w' = w.drewN n := by
  obtain ⟨a, b, off, c, rfl, hlen, hix, hc, hb⟩ := hv.view Try.prog 24 3 Try.underlying24 intElem
  obtain ⟨a', b', off', c', rfl, hlen', hix', hc', hb'⟩ := hv'.view Try.prog 24 3 Try.underlying24 intElem
  by_cases hll : l.length = l'.length
  · have HL := Lib.hid hll
    have hle1 : l.length ≤ l'.length := by omega
    have hle2 : l'.length ≤ l.length := by omega
    have hb1 : ((l.length : Int) != (l'.length : Int)) = false := by simp [hll]
    clear hll
    go_enter Try.func67, Try.ntmps67
    go_wp2
    go_loopw [5] (fun i wr => ∃ k n : Nat, k ≤ l.length ∧ i = .int .i64 k ∧ wr = w.drewN n ∧ (∀ j (h : j < l.length) (h' : j < l'.length), j < k → l[j] = l'[j]))
      (fun i _ => l.length - (intOf i).toNat)
    case atStart => exact ⟨0, 0, Nat.zero_le _, rfl, rfl, by intros; omega⟩
    case round =>
      obtain ⟨k, n, hk, rfl, rfl, hall⟩ := hrel
      have H := Lib.hid hall
      clear hall
      by_cases hlt : k < l.length
      · have hlt' : k < l'.length := by omega
        by_cases heq : l[k] = l'[k]
        · have ht : (l[k] != l'[k]) = false := by simp [heq]
          have HQ := Lib.hid heq
          clear heq
          go_wp2
          go_quiet (fail)
          go_wp2
          go_roundw
          case rel =>
            refine ⟨k + 1, _, by omega, by go_num, rfl, fun j h h' hj => ?_⟩
            by_cases hjk : j = k
            · subst hjk; exact HQ.out
            · exact H.out j h h' (by omega)
          case measure => simp [intOf]; omega
        · have ht : (l[k] != l'[k]) = true := by simp [heq]
          have HQ := Lib.hid heq
          clear heq
          go_wp2
          go_quiet (fail)
          go_wp2
          go_ret
          exact ⟨ret_bool (by simp; intro e; subst e; exact HQ.out rfl), ⟨n + nq, by simp⟩⟩
      · have hkl : l.length ≤ k := by omega
        go_wp2
        go_ret
        exact ⟨ret_bool (by simp; exact List.ext_getElem HL.out fun j h h' => H.out j h h' (by omega)), ⟨n, rfl⟩⟩
  · go_enter Try.func67, Try.ntmps67
    go_wp2
    go_ret
    exact ⟨ret_bool (by simp; intro h; exact hll (by rw [h])), ⟨0, rfl⟩⟩

theorem equalFunctionsS_any (n n' : Int) (v v' : Value) (l l' : List Int) (w : World) (hv : Ints w v l) (hv' : Ints w v' l') :
    Calls Try.prog 14 #[.agg #[.int .i64 n, v], .agg #[.int .i64 n', v']] w fun e w' => e = .returned (.bool (decide (n = n') && decide (l = l'))) ∧ Below w.heap.size w w' := by
  obtain ⟨av, cv, rfl⟩ := hv.shape
  obtain ⟨av', cv', rfl⟩ := hv'.shape
  by_cases hn : n = n'
  · subst hn
    have hnn : (n == n) = true := by simp
    go_enter Try.func14, Try.ntmps14
    go_wp2_with (go_at_call 67; refine (l2Same_any _ _ l l' _ ((hv.alloc _).alloc _) ((hv'.alloc _).alloc _)).mono ?_; rintro e w1 ⟨rfl, nn, rfl⟩)
    go_ret
    exact ⟨ret_bool (by simp), (bl2 _ _ _).drewN' _⟩
  · have hn' : (n == n') = false := by simp [hn]
    go_enter Try.func14, Try.ntmps14
    go_wp2
    go_ret
    exact ⟨ret_bool (by simp [hn]), (bl2 _ _ _)⟩

end Go.Proofs.Ytmfenalnmpndmaa
