/- The laws' own sizes and equalities. append of a whole slice; copies of slices. Blocks that are known whole. -/
import Derived.Test.YtelmokapdkepbaaGreatQ02
import Derived.Deep.Light
import Derived.Deep.AppendLies
section
namespace Go.Proofs.YtelmokapdkepbaaGreat
open Go.RowKit Go.G5

def szL (left : Int) (n : Nat) : Int := if left - n < 0 then -1 else left - n
theorem szIntS_any (v : Value) (l : List Int) (left : Int) (w : World) (hv : Ints w v l) (h0 : 0 ≤ left) (h1 : left ≤ 1048576) :
    Calls Tryz.prog 11 #[v, .int .i64 left] w fun e w' => e = .returned (.int .i64 (szL left l.length)) ∧ w = w' := by
  obtain ⟨a, b, off, c, rfl, hlen, hix, hc, hb⟩ := hv.view Tryz.prog 22 3 Tryz.underlying22 intElem
  by_cases hlt : left - l.length < 0
  · go_enter Tryz.func11, Tryz.ntmps11
    go_wp2
    go_ret
    exact ⟨ret_int (by unfold szL; rw [if_pos hlt]), rfl⟩
  · go_enter Tryz.func11, Tryz.ntmps11
    go_wp2
    go_ret
    exact ⟨ret_int (by unfold szL; rw [if_neg (by omega)]), rfl⟩

theorem szFamily_any (n : Int) (v : Value) (l : List Int) (left : Int) (w : World) (hv : Ints w v l) (h0 : 0 ≤ left) (h1 : left ≤ 1048576) :
    Calls Tryz.prog 10 #[.agg #[.int .i64 n, v], .int .i64 left] w fun e w' => e = .returned (.int .i64 (szL left l.length)) ∧ Below w.heap.size w w' := by
  obtain ⟨av, cv, rfl⟩ := hv.shape
  by_cases hlt : left - l.length < 0
  · have he : szL left l.length = -1 := by unfold szL; rw [if_pos hlt]
    go_enter Tryz.func10, Tryz.ntmps10
    go_wp2_with (go_at_call 11; refine (szIntS_any _ l _ _ (hv.below ((Below.refl _ _).alloc (Nat.le_refl _) _) (Nat.le_refl _)) h0 h1).mono ?_; rintro e w1 ⟨rfl, rfl⟩)
    go_ret
    exact ⟨ret_int he.symm, (Below.refl _ _).alloc (Nat.le_refl _) _⟩
  · have he : szL left l.length = left - l.length := by unfold szL; rw [if_neg hlt]
    go_enter Tryz.func10, Tryz.ntmps10
    go_wp2_with (go_at_call 11; refine (szIntS_any _ l _ _ (hv.below ((Below.refl _ _).alloc (Nat.le_refl _) _) (Nat.le_refl _)) h0 h1).mono ?_; rintro e w1 ⟨rfl, rfl⟩)
    go_ret
    exact ⟨ret_int he.symm, (Below.refl _ _).alloc (Nat.le_refl _) _⟩

theorem szFamily_c (n : Int) (v : Value) (l : List Int) (left : Int) (w : World) (hv : Ints w v l) (h0 : 0 ≤ left) (h1 : left ≤ 1048576) :
    Calls Tryz.prog 10 #[.agg #[.int .i64 n, v], .int .i64 left] w fun e w' => (∃ r, e = .returned (.int .i64 r) ∧ (r < 0 ∨ (0 ≤ r ∧ r ≤ left ∧ l.length ≤ left))) ∧ Below w.heap.size w w' :=
  (szFamily_any n v l left w hv h0 h1).mono fun e w' ⟨he, hb⟩ => ⟨⟨_, he, by unfold szL; split <;> omega⟩, hb⟩

theorem szFunction_any (n : Int) (v : Value) (l : List Int) (left : Int) (w : World) (hv : Ints w v l) (h0 : 0 ≤ left) (h1 : left ≤ 1048576) :
    Calls Tryz.prog 9 #[.agg #[.int .i64 n, v], .int .i64 left] w fun e w' => e = .returned (.int .i64 (szL left l.length)) ∧ Below w.heap.size w w' := by
  obtain ⟨av, cv, rfl⟩ := hv.shape
  by_cases hlt : left - l.length < 0
  · have he : szL left l.length = -1 := by unfold szL; rw [if_pos hlt]
    go_enter Tryz.func9, Tryz.ntmps9
    go_wp2_with (go_at_call 11; refine (szIntS_any _ l _ _ (hv.below ((Below.refl _ _).alloc (Nat.le_refl _) _) (Nat.le_refl _)) h0 h1).mono ?_; rintro e w1 ⟨rfl, rfl⟩)
    go_ret
    exact ⟨ret_int he.symm, (Below.refl _ _).alloc (Nat.le_refl _) _⟩
  · have he : szL left l.length = left - l.length := by unfold szL; rw [if_neg hlt]
    go_enter Tryz.func9, Tryz.ntmps9
    go_wp2_with (go_at_call 11; refine (szIntS_any _ l _ _ (hv.below ((Below.refl _ _).alloc (Nat.le_refl _) _) (Nat.le_refl _)) h0 h1).mono ?_; rintro e w1 ⟨rfl, rfl⟩)
    go_ret
    exact ⟨ret_int he.symm, (Below.refl _ _).alloc (Nat.le_refl _) _⟩

theorem szFunction_c (n : Int) (v : Value) (l : List Int) (left : Int) (w : World) (hv : Ints w v l) (h0 : 0 ≤ left) (h1 : left ≤ 1048576) :
    Calls Tryz.prog 9 #[.agg #[.int .i64 n, v], .int .i64 left] w fun e w' => (∃ r, e = .returned (.int .i64 r) ∧ (r < 0 ∨ (0 ≤ r ∧ r ≤ left ∧ l.length ≤ left))) ∧ Below w.heap.size w w' :=
  (szFunction_any n v l left w hv h0 h1).mono fun e w' ⟨he, hb⟩ => ⟨⟨_, he, by unfold szL; split <;> omega⟩, hb⟩

set_option maxHeartbeats 400000 in
theorem eqIntS_any (v v' : Value) (l l' : List Int) (w : World) (hv : Ints w v l) (hv' : Ints w v' l') :
    Calls Tryz.prog 44 #[v, v'] w fun e w' => e = .returned (.bool (decide (l = l'))) ∧ ∃ n, w' = w.drewN n := by
  obtain ⟨a, b, off, c, rfl, hlen, hix, hc, hb⟩ := hv.view Tryz.prog 22 3 Tryz.underlying22 intElem
  obtain ⟨a', b', off', c', rfl, hlen', hix', hc', hb'⟩ := hv'.view Tryz.prog 22 3 Tryz.underlying22 intElem
  by_cases hll : l.length = l'.length
  · have HL := Lib.hid hll
    have hle1 : l.length ≤ l'.length := by omega
    have hle2 : l'.length ≤ l.length := by omega
    have hb1 : ((l.length : Int) != (l'.length : Int)) = false := by simp [hll]
    clear hll
    go_enter Tryz.func44, Tryz.ntmps44
    go_wp2
    go_loopw [5] (fun i wr => ∃ k n : Nat, k ≤ l.length ∧ i = .int .i64 k ∧ wr = w.drewN n ∧ (∀ j (h : j < l.length) (h' : j < l'.length), j < k → l[j] = l'[j]))
      (fun i _ => l.length - (intOf i).toNat)
    case atStart => exact ⟨0, 0, Nat.zero_le _, rfl, rfl, by intros; omega⟩
    case round =>
      obtain ⟨k, n, hk, rfl, rfl, hall⟩ := hrel
      have H := Lib.hid hall
      clear hall
      by_cases hlt : k < l.length
      · have hlt' : k < l'.length := by omega
        by_cases heq : l[k] = l'[k]
        · have ht : (l[k] != l'[k]) = false := by simp [heq]
          have HQ := Lib.hid heq
          clear heq
          go_wp2
          go_quiet (fail)
          go_wp2
          go_roundw
          case rel =>
            refine ⟨k + 1, _, by omega, by go_num, rfl, fun j h h' hj => ?_⟩
            by_cases hjk : j = k
            · subst hjk; exact HQ.out
            · exact H.out j h h' (by omega)
          case measure => simp [intOf]; omega
        · have ht : (l[k] != l'[k]) = true := by simp [heq]
          have HQ := Lib.hid heq
          clear heq
          go_wp2
          go_quiet (fail)
          go_wp2
          go_ret
          exact ⟨ret_bool (by simp; intro e; subst e; exact HQ.out rfl), ⟨n + nq, by simp⟩⟩
      · have hkl : l.length ≤ k := by omega
        go_wp2
        go_ret
        exact ⟨ret_bool (by simp; exact List.ext_getElem HL.out fun j h h' => H.out j h h' (by omega)), ⟨n, rfl⟩⟩
  · go_enter Tryz.func44, Tryz.ntmps44
    go_wp2
    go_ret
    exact ⟨ret_bool (by simp; intro h; exact hll (by rw [h])), ⟨0, rfl⟩⟩

theorem eqFamily_any (n n' : Int) (v v' : Value) (l l' : List Int) (w : World) (hv : Ints w v l) (hv' : Ints w v' l') :
    Calls Tryz.prog 43 #[.agg #[.int .i64 n, v], .agg #[.int .i64 n', v']] w fun e w' => e = .returned (.bool (decide (n = n') && decide (l = l'))) ∧ Below w.heap.size w w' := by
  obtain ⟨av, cv, rfl⟩ := hv.shape
  obtain ⟨av', cv', rfl⟩ := hv'.shape
  by_cases hn : n = n'
  · subst hn
    go_enter Tryz.func43, Tryz.ntmps43
    go_wp2_with (go_at_call 44; refine (eqIntS_any _ _ l l' _ ((hv.alloc _).alloc _) ((hv'.alloc _).alloc _)).mono ?_; rintro e w1 ⟨rfl, nn, rfl⟩)
    all_goals go_ret
    · exact ⟨ret_bool (by simp_all), (bl2 _ _ _).drewN' _⟩
    · exact ⟨ret_bool (by simp_all), (bl2 _ _ _).drewN' _⟩
  · have hn' : (n != n') = true := by simp [hn]
    go_enter Tryz.func43, Tryz.ntmps43
    go_wp2
    go_ret
    exact ⟨ret_bool (by simp [hn]), (bl2 _ _ _)⟩

theorem eqFunction_any (n n' : Int) (v v' : Value) (l l' : List Int) (w : World) (hv : Ints w v l) (hv' : Ints w v' l') :
    Calls Tryz.prog 42 #[.agg #[.int .i64 n, v], .agg #[.int .i64 n', v']] w fun e w' => e = .returned (.bool (decide (n = n') && decide (l = l'))) ∧ Below w.heap.size w w' := by
  obtain ⟨av, cv, rfl⟩ := hv.shape
  obtain ⟨av', cv', rfl⟩ := hv'.shape
  by_cases hn : n = n'
  · subst hn
    go_enter Tryz.func42, Tryz.ntmps42
    go_wp2_with (go_at_call 44; refine (eqIntS_any _ _ l l' _ ((hv.alloc _).alloc _) ((hv'.alloc _).alloc _)).mono ?_; rintro e w1 ⟨rfl, nn, rfl⟩)
    all_goals go_ret
    · exact ⟨ret_bool (by simp_all), (bl2 _ _ _).drewN' _⟩
    · exact ⟨ret_bool (by simp_all), (bl2 _ _ _).drewN' _⟩
  · have hn' : (n != n') = true := by simp [hn]
    go_enter Tryz.func42, Tryz.ntmps42
    go_wp2
    go_ret
    exact ⟨ret_bool (by simp [hn]), (bl2 _ _ _)⟩

set_option maxHeartbeats 400000 in
theorem l2Same_any (v v' : Value) (l l' : List Int) (w : World) (hv : Ints w v l) (hv' : Ints w v' l') :
    Calls Tryz.prog 106 #[v, v'] w fun e w' => e = .returned (.bool (decide (l = l'))) ∧ ∃ n, w' = w.drewN n := by
  obtain ⟨a, b, off, c, rfl, hlen, hix, hc, hb⟩ := hv.view Tryz.prog 22 3 Tryz.underlying22 intElem
  obtain ⟨a', b', off', c', rfl, hlen', hix', hc', hb'⟩ := hv'.view Tryz.prog 22 3 Tryz.underlying22 intElem
  by_cases hll : l.length = l'.length
  · have HL := Lib.hid hll
    have hle1 : l.length ≤ l'.length := by omega
    have hle2 : l'.length ≤ l.length := by omega
    have hb1 : ((l.length : Int) != (l'.length : Int)) = false := by simp [hll]
    clear hll
    go_enter Tryz.func106, Tryz.ntmps106
    go_wp2
    go_loopw [5] (fun i wr => ∃ k n : Nat, k ≤ l.length ∧ i = .int .i64 k ∧ wr = w.drewN n ∧ (∀ j (h : j < l.length) (h' : j < l'.length), j < k → l[j] = l'[j]))
      (fun i _ => l.length - (intOf i).toNat)
    case atStart => exact ⟨0, 0, Nat.zero_le _, rfl, rfl, by intros; omega⟩
    case round =>
      obtain ⟨k, n, hk, rfl, rfl, hall⟩ := hrel
      have H := Lib.hid hall
      clear hall
      by_cases hlt : k < l.length
      · have hlt' : k < l'.length := by omega
        by_cases heq : l[k] = l'[k]
        · have ht : (l[k] != l'[k]) = false := by simp [heq]
          have HQ := Lib.hid heq
          clear heq
          go_wp2
          go_quiet (fail)
          go_wp2
          go_roundw
          case rel =>
            refine ⟨k + 1, _, by omega, by go_num, rfl, fun j h h' hj => ?_⟩
            by_cases hjk : j = k
            · subst hjk; exact HQ.out
            · exact H.out j h h' (by omega)
          case measure => simp [intOf]; omega
        · have ht : (l[k] != l'[k]) = true := by simp [heq]
          have HQ := Lib.hid heq
          clear heq
          go_wp2
          go_quiet (fail)
          go_wp2
          go_ret
          exact ⟨ret_bool (by simp; intro e; subst e; exact HQ.out rfl), ⟨n + nq, by simp⟩⟩
      · have hkl : l.length ≤ k := by omega
        go_wp2
        go_ret
        exact ⟨ret_bool (by simp; exact List.ext_getElem HL.out fun j h h' => H.out j h h' (by omega)), ⟨n, rfl⟩⟩
  · go_enter Tryz.func106, Tryz.ntmps106
    go_wp2
    go_ret
    exact ⟨ret_bool (by simp; intro h; exact hll (by rw [h])), ⟨0, rfl⟩⟩

set_option maxHeartbeats 400000 in
theorem slicesEqual_any (v v' : Value) (l l' : List Int) (w : World) (hv : Ints w v l) (hv' : Ints w v' l') :
    Calls Tryz.prog 134 #[v, v'] w fun e w' => e = .returned (.bool (decide (l = l'))) ∧ ∃ n, w' = w.drewN n := by
  obtain ⟨a, b, off, c, rfl, hlen, hix, hc, hb⟩ := hv.view Tryz.prog 22 3 Tryz.underlying22 intElem
  obtain ⟨a', b', off', c', rfl, hlen', hix', hc', hb'⟩ := hv'.view Tryz.prog 22 3 Tryz.underlying22 intElem
  by_cases hll : l.length = l'.length
  · have HL := Lib.hid hll
    have hle1 : l.length ≤ l'.length := by omega
    have hle2 : l'.length ≤ l.length := by omega
    have hb1 : ((l.length : Int) != (l'.length : Int)) = false := by simp [hll]
    clear hll
    go_enter Tryz.func134, Tryz.ntmps134
    go_wp2
    go_loopw [13] (fun i wr => ∃ k n : Nat, k ≤ l.length ∧ i = .int .i64 k ∧ wr = w.drewN n ∧ (∀ j (h : j < l.length) (h' : j < l'.length), j < k → l[j] = l'[j]))
      (fun i _ => l.length - (intOf i).toNat)
    case atStart => exact ⟨0, 0, Nat.zero_le _, rfl, rfl, by intros; omega⟩
    case round =>
      obtain ⟨k, n, hk, rfl, rfl, hall⟩ := hrel
      have H := Lib.hid hall
      clear hall
      by_cases hlt : k < l.length
      · have hlt' : k < l'.length := by omega
        by_cases heq : l[k] = l'[k]
        · have ht : (l[k] != l'[k]) = false := by simp [heq]
          have HQ := Lib.hid heq
          clear heq
          go_wp2
          go_quiet (fail)
          go_wp2
          go_roundw
          case rel =>
            refine ⟨k + 1, _, by omega, by go_num, rfl, fun j h h' hj => ?_⟩
            by_cases hjk : j = k
            · subst hjk; exact HQ.out
            · exact H.out j h h' (by omega)
          case measure => simp [intOf]; omega
        · have ht : (l[k] != l'[k]) = true := by simp [heq]
          have HQ := Lib.hid heq
          clear heq
          go_wp2
          go_quiet (fail)
          go_wp2
          go_ret
          exact ⟨ret_bool (by simp; intro e; subst e; exact HQ.out rfl), ⟨n + nq, by simp⟩⟩
      · have hkl : l.length ≤ k := by omega
        go_wp2
        go_ret
        exact ⟨ret_bool (by simp; exact List.ext_getElem HL.out fun j h h' => H.out j h h' (by omega)), ⟨n, rfl⟩⟩
  · go_enter Tryz.func134, Tryz.ntmps134
    go_wp2
    go_ret
    exact ⟨ret_bool (by simp; intro h; exact hll (by rw [h])), ⟨0, rfl⟩⟩

theorem equalFunctionsI_any (n n' : Int) (v v' : Value) (l l' : List Int) (w : World) (hv : Ints w v l) (hv' : Ints w v' l') :
    Calls Tryz.prog 127 #[.agg #[.int .i64 n, v], .agg #[.int .i64 n', v']] w fun e w' => e = .returned (.bool (decide (n = n') && decide (l = l'))) ∧ Below w.heap.size w w' := by
  obtain ⟨av, cv, rfl⟩ := hv.shape
  obtain ⟨av', cv', rfl⟩ := hv'.shape
  by_cases hn : n = n'
  · subst hn
    have hnn : (n == n) = true := by simp
    go_enter Tryz.func127, Tryz.ntmps127
    go_wp2_with (go_at_call 134; refine (slicesEqual_any _ _ l l' _ ((hv.alloc _).alloc _) ((hv'.alloc _).alloc _)).mono ?_; rintro e w1 ⟨rfl, nn, rfl⟩)
    go_ret
    exact ⟨ret_bool (by simp), (bl2 _ _ _).drewN' _⟩
  · have hn' : (n == n') = false := by simp [hn]
    go_enter Tryz.func127, Tryz.ntmps127
    go_wp2
    go_ret
    exact ⟨ret_bool (by simp [hn]), (bl2 _ _ _)⟩

end Go.Proofs.YtelmokapdkepbaaGreat
end
section
namespace Go.G5
open Go Go.RowKit

section
variable {P : Program} {w : World}
/-- out = append(out, s...), out the call's own, s any slice that reads as a list -/
theorem run_appendS (T E ty : TypeId) (hT : P.underlying T = some (.slice E)) (hE : IntElem P E) (B : Nat) (v : Value) (l : List Int) (hown : OwnI E B w v l)
    (sv : Value) (m : List Int) (hs : Ints w sv m) (hlen : l.length + m.length ≤ 17592186044416) (hB : B ≤ w.heap.size) :
    ∃ v' w', (Builtin.append_ #[T, T] ty #[v, sv]).run P w = .ok v' w' ∧ OwnI E B w' v' (l ++ m) ∧ w.grownBy w' v.ownBlock := by
  obtain ⟨i, hi, hz, h1, h8⟩ := hE.get
  obtain ⟨ad, c, rfl, hmc, hcm, hr, h4⟩ := hs
  have hall : ∀ q ∈ l ++ m, InR q := fun q hq => (List.mem_append.1 hq).elim (hown.2 q) (hr q)
  have hempty : ad = none → m = [] := by
    intro e
    rcases h4 with h | ⟨b, off, hb, _⟩
    · exact h
    · rw [e] at hb; cases hb
  cases ad with
  | none =>
    have := hempty rfl
    subst this
    refine ⟨v, w, ?_, by simpa using hown, World.grownBy.refl w _⟩
    rcases hown.1.2 with ⟨rfl, hn⟩ | ⟨g, cap, cur, rfl, _, _, hnc, _⟩
    · simp [Builtin.append_, run_underlying hT, sizeOf, typeInfo, hi, Builtin.lenOf, Builtin.firstCells]
    · simp [Builtin.append_, run_underlying hT, sizeOf, typeInfo, hi, Builtin.lenOf, Builtin.firstCells, hnc, storeCells]
  | some ad =>
    have hcells : ∀ j u, (m.map (Value.int .i64))[j]? = some u → w.cell? (ad.add j) = some u := by
      intro j u hu
      rcases h4 with h | ⟨b, off, hb, _, hc⟩
      · subst h; simp at hu
      · simp only [Option.some.injEq] at hb
        subst hb
        have hj : j < m.length := by
          rcases Nat.lt_or_ge j m.length with h | h
          · exact h
          · rw [List.getElem?_eq_none (by simpa using h)] at hu; cases hu
        have := hc j hj
        have e : (⟨b, off, none⟩ : Addr).add j = ⟨b, off + j, none⟩ := by
          unfold Addr.add; split
          · rename_i h0; rw [h0]; rfl
          · rfl
        rw [e, this]
        rw [List.getElem?_map, List.getElem?_eq_getElem hj] at hu
        exact hu
    obtain ⟨v', w', hrun, h2, h3, _⟩ := run_append_own_at (P := P) w B T ty E i (.int .i64 0) 1 8 hT hi hz h1 h8 rfl (by decide) v l.length (l.map (Value.int .i64)) hown.1 ad m.length c (m.map (Value.int .i64)) (by simp) hcells
      (by intro u hu; obtain ⟨q, _, rfl⟩ := List.mem_map.1 hu; rfl) (by unfold maxLen; omega) (by omega) hB
    exact ⟨v', w', hrun, ⟨by simpa using h2, hall⟩, h3⟩

theorem wp_appendS {o : Oper} {a : Act} {K : Act → World → Prop} {Q : Exit → Act → World → Prop} (s x : Operand) (t : TypeId)
    (ho : o.op = .call { callee := .builtin .append, args := #[s, x], argTypes := #[t, t] })
    (E : TypeId) (hT : P.underlying t = some (.slice E)) (hE : IntElem P E) (B : Nat) (v : Value) (l : List Int) (hs : a.eval s = v) (hown : OwnI E B w v l)
    (sv : Value) (m : List Int) (hx : a.eval x = sv) (hsv : Ints w sv m) (hlen : l.length + m.length ≤ 17592186044416) (hB : B ≤ w.heap.size)
    (h : ∀ v' w', OwnI E B w' v' (l ++ m) → w.grownBy w' v.ownBlock → K (a.put o.dst v') w') : o.wp P a w K Q := by
  obtain ⟨v', w', hrun, h2, h3⟩ := run_appendS (P := P) t E o.type hT hE B v l hown sv m hsv hlen hB
  unfold Oper.wp execOp
  simp only [ho, resolve, invoke, builtin, Sem.run_bind, Sem.run_pure, Result.andThen_ok, List.map_toArray, List.map_cons, List.map_nil, hs, hx, hrun]
  exact h v' w' h2 h3

theorem wpList_appendS {ops : Array Oper} {rest : List Oper} {o : Oper} {a : Act} {Q : Exit → Act → World → Prop} (hgd : o.guard = none) (s x : Operand) (t : TypeId)
    (ho : o.op = .call { callee := .builtin .append, args := #[s, x], argTypes := #[t, t] })
    (E : TypeId) (hT : P.underlying t = some (.slice E)) (hE : IntElem P E) (B : Nat) (v : Value) (l : List Int) (hs : a.eval s = v) (hown : OwnI E B w v l)
    (sv : Value) (m : List Int) (hx : a.eval x = sv) (hsv : Ints w sv m) (hlen : l.length + m.length ≤ 17592186044416) (hB : B ≤ w.heap.size)
    (h : ∀ v' w', OwnI E B w' v' (l ++ m) → w.grownBy w' v.ownBlock → wpList P ops Q rest (a.put o.dst v') w') : wpList P ops Q (o :: rest) a w :=
  wpList_plain hgd fun _ hK => wp_appendS s x t ho E hT hE B v l hs hown sv m hx hsv hlen hB fun v' w' h2 h3 => hK _ _ (h v' w' h2 h3)

theorem step_appendS {ops : Array Oper} {o : Oper} {a : Act} {K : Act → World → Prop} {Q : Exit → Act → World → Prop} {F : Prop} (hgd : o.guard = none) (s x : Operand) (t : TypeId)
    (ho : o.op = .call { callee := .builtin .append, args := #[s, x], argTypes := #[t, t] })
    (E : TypeId) (hT : P.underlying t = some (.slice E)) (hE : IntElem P E) (B : Nat) (v : Value) (l : List Int) (hs : a.eval s = v) (hown : OwnI E B w v l)
    (sv : Value) (m : List Int) (hx : a.eval x = sv) (hsv : Ints w sv m) (hlen : l.length + m.length ≤ 17592186044416) (hB : B ≤ w.heap.size)
    (h : ∀ v' w', OwnI E B w' v' (l ++ m) → w.grownBy w' v.ownBlock → K (a.put o.dst v') w') : if Region.wanted o (yielded ops a.tmps) = true then Oper.wp P o a w K Q else F := by
  have hw : Region.wanted o (yielded ops a.tmps) = true := by simp [Region.wanted, hgd]
  rw [if_pos hw]
  exact wp_appendS s x t ho E hT hE B v l hs hown sv m hx hsv hlen hB h

/-- out = append(out, y) at a step of a region that draws its order -/
theorem step_appendI {ops : Array Oper} {o : Oper} {a : Act} {K : Act → World → Prop} {Q : Exit → Act → World → Prop} {F : Prop} (hgd : o.guard = none) (s x : Operand) (t : TypeId)
    (ho : o.op = .call { callee := .builtin .append, args := #[s, x], argTypes := #[t, t] })
    (E : TypeId) (hT : P.underlying t = some (.slice E)) (hE : IntElem P E) (B : Nat) (v : Value) (l : List Int) (y : Int) (b : Nat) (hs : a.eval s = v) (hx : a.eval x = .slice (some ⟨b, 0, none⟩) 1 1)
    (hy : w.cell? ⟨b, 0, none⟩ = some (.int .i64 y))
    (hown : OwnI E B w v l) (hyr : InR y) (hlen : l.length < 17592186044415) (hB : B ≤ w.heap.size)
    (h : ∀ v' w', OwnI E B w' v' (l ++ [y]) → w.grownBy w' v.ownBlock → K (a.put o.dst v') w') : if Region.wanted o (yielded ops a.tmps) = true then Oper.wp P o a w K Q else F :=
  step_appendS hgd s x t ho E hT hE B v l hs hown (.slice (some ⟨b, 0, none⟩) 1 1) [y] hx
    ⟨some ⟨b, 0, none⟩, 1, rfl, Nat.le_refl _, by decide, by intro q hq; simp only [List.mem_singleton] at hq; subst hq; exact hyr,
      .inr ⟨b, 0, rfl, World.block_lt_of_cell? w _ hy, fun k hk => by have : k = 0 := by simpa using hk
                                                                      subst this; exact hy⟩⟩ (by simp; omega) hB h
end

/-- s[k:] -/
theorem Ints.from {P : Program} {w : World} {a : Option Addr} {c : Nat} {l : List Int} (h : Ints w (.slice a l.length c) l) (T E : TypeId) (hT : P.underlying T = some (.slice E)) (hE : IntElem P E) (k : Nat) (hk : k ≤ l.length) :
    ∃ a' c', (∀ (kk : IntKind) (w' : World), (Instr.slice T (.slice a l.length c) (some (.int kk (k : Int))) none none).run P w' = .ok (.slice a' (l.drop k).length c') w') ∧ Ints w (.slice a' (l.drop k).length c') (l.drop k) := by
  obtain ⟨i, hi, _, h1, _⟩ := hE.get
  have hEl : P.elem T = E := by simp [Program.elem, hT]
  obtain ⟨hl, hcl, hcm⟩ := h.capLe
  refine ⟨if c = k then a else a.map (·.add (k * 1)), c - k, fun kk w' => ?_, ?_⟩
  · rw [run_slice_l w' T a l.length c (by rw [hEl]; exact hT) kk k (by omega) (by omega)]
    simp [sizeOf, typeInfo, hEl, hi, h1, Result.andThen, sliced, List.length_drop]
  · rcases Nat.lt_or_ge k l.length with hlt | hge
    · have h0 := h
      obtain ⟨a1, c1, he, _, _, _, h4⟩ := h0
      simp only [Value.slice.injEq] at he
      obtain ⟨rfl, _, rfl⟩ := he
      rcases h4 with rfl | ⟨b, off, rfl, _, _⟩
      · simp at hlt
      · rw [if_neg (by omega)]
        have := Ints.dropK h k (by omega)
        rw [List.length_drop]
        have e : (Option.map (fun x : Addr => x.add (k * 1)) (some (⟨b, off, none⟩ : Addr))) = some ⟨b, off + k, none⟩ := by
          simp only [Option.map_some, Nat.mul_one, Addr.add]
          split
          · rename_i h0; rw [h0]; rfl
          · rfl
        rw [e]
        exact this
    · have e : l.drop k = [] := List.drop_eq_nil_of_le hge
      rw [e]
      exact Ints.empty w _ _ _ rfl (by omega)
end Go.G5

namespace Go.Proofs.YtelmokapdkepbaaGreat
open Go.RowKit Go.G5

end Go.Proofs.YtelmokapdkepbaaGreat
end
section
namespace Go.G5
open Go Go.RowKit
/-- block g is just the cells cs -/
def Blk (w : World) (g : Nat) (t : TypeId) (cs : Array Value) : Prop := w.heap[g]? = some (.cells cs t (0, 0))
section
variable {w w' : World} {g : Nat} {t : TypeId} {cs : Array Value}
theorem Blk.lt (h : Blk w g t cs) : g < w.heap.size := (Array.getElem?_eq_some_iff.1 h).1
theorem Blk.cell (h : Blk w g t cs) : ∀ i, w.cell? ⟨g, i, none⟩ = cs[i]? := fun i => cell_of_row w g i cs t (0, 0) h
theorem Blk.frozen (h : Blk w g t cs) : ∀ i, w.frozen? ⟨g, i, none⟩ = false := fun i => by
  unfold Blk at h
  simp [World.frozen?, h]
theorem Blk.new (w : World) (t : TypeId) (cs : Array Value) : Blk (w.alloc (.cells cs t)) w.heap.size t cs := heap_alloc_new w _
theorem Blk.keep (h : Blk w g t cs) (hb : Below w.heap.size w w') : Blk w' g t cs := (hb.block g h.lt).trans h
theorem Blk.alloc (h : Blk w g t cs) (o : Obj) : Blk (w.alloc o) g t cs := h.keep (bl1 w o)
theorem Blk.drewN (h : Blk w g t cs) (n : Nat) : Blk (w.drewN n) g t cs := h
theorem Blk.set (h : Blk w g t cs) (i : Nat) (u : Value) : Blk (w.setCell ⟨g, i, none⟩ u) g t (cs.setIfInBounds i u) := by
  unfold Blk at h ⊢
  simp [World.setCell, Array.getElem?_modify, h]
theorem Blk.far (h : Blk w g t cs) {p : Addr} (hp : g ≠ p.block) (u : Value) : Blk (w.setCell p u) g t cs := (Below.heap_setCell w p u g hp).trans h
theorem Blk.grow {row : Option Nat} (h : Blk w g t cs) (hb : w.grownBy w' row) (hg : row ≠ some g) : Blk w' g t cs := (hb.block g h.lt (fun e => hg e.symm)).trans h
end
theorem post_named {P : Program} {f : Func} {Q : Ending → World → Prop} {e : Exit} {a : Act} {W : World} (h : ∀ W', W' = W → bodyPost P f Q e a W') : bodyPost P f Q e a W := h W rfl
end Go.G5
end
