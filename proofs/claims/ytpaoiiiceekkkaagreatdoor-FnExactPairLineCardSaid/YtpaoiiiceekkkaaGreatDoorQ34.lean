/- What bounds common independent sets. -/
import Derived.Test.YtpaoiiiceekkkaaGreatDoorQ33
section
namespace Go.Proofs.YtpaoiiiceekkkaaGreatDoor
open Go.RowKit Go.G5

theorem spTo_succ (l k : List Int) (t : Nat) : spTo l k (t + 1) = if sumT l k t < sumT l k (spTo l k t) then t else spTo l k t := rfl
theorem sumT_at (l k : List Int) (hkl : k.length = l.length) (t : Nat) (h : t < l.length) : sumT l k t = l[t] + k[l.length - 1 - t]'(by omega) := by
  unfold sumT
  rw [getD_at l t h, getD_at k _ (by omega)]
theorem ndiff_self : ∀ n : Nat, n ≤ 5 → ∀ s : Nat, s < 2 ^ n → ndiff s (2 ^ n - 1) = 0 := by decide +kernel
theorem and_self5 : ∀ n : Nat, n ≤ 5 → ∀ s : Nat, s < 2 ^ n → s &&& (2 ^ n - 1) = s := by decide +kernel
set_option maxHeartbeats 2000000 in
set_option maxRecDepth 100000 in
theorem leastSplit_any (w : World) (N : Nat) (hN : N ≤ 5) (n m : Int) (v u : Value) (l k : List Int) (hv : Ints w v l) (hu : Ints w u k) (hl : l.length = 2 ^ N) (hkl : k.length = l.length) (hlb : ∀ i, (hi : i < l.length) → -1000 ≤ l[i] ∧ l[i] ≤ 1000) (hkb : ∀ i, (hi : i < k.length) → -1000 ≤ k[i] ∧ k[i] ≤ 1000) :
    Calls Tryz.prog 160 #[.agg #[.int .i64 n, v], .agg #[.int .i64 m, u], .int .i64 (2 ^ N - 1)] w fun e w' => e = .returned (.tuple #[.int .i64 (sumT l k (spTo l k (2 ^ N))), .int .i64 (spTo l k (2 ^ N) : Int)]) ∧ Below w.heap.size w w' := by
  have hv0 := hv
  have hu0 := hu
  have hpn : (2 : Nat) ^ N ≤ 32 := Nat.pow_le_pow_right (n := 2) (by decide) hN
  have hp1 := Nat.two_pow_pos N
  have hcast : ((2 ^ N - 1 : Nat) : Int) = (2 : Int) ^ N - 1 := by rw [Int.ofNat_sub hp1]; simp
  obtain ⟨a, bb, off, c, rfl, hlen, hix, hc, hb⟩ := hv.view Tryz.prog 22 3 Tryz.underlying22 intElem
  obtain ⟨a', bb', off', c', rfl, hlen', hix', hc', hb'⟩ := hu.view Tryz.prog 22 3 Tryz.underlying22 intElem
  obtain ⟨V, hV⟩ : ∃ V, V = (w.alloc (.cells #[.int .i64 n, .slice a l.length c] 27)).alloc (.cells #[.int .i64 m, .slice a' k.length c'] 27) := ⟨_, rfl⟩
  have B : Below w.heap.size w V := by rw [hV]; exact bl2 _ _ _
  have K1 : Blk V w.heap.size 27 #[.int .i64 n, .slice a l.length c] := by rw [hV]; exact (Blk.new _ _ _).alloc _
  have K2 : Blk V (w.heap.size + 1) 27 #[.int .i64 m, .slice a' k.length c'] := by rw [hV]; have := Blk.new (w.alloc (.cells #[.int .i64 n, .slice a l.length c] 27)) 27 #[.int .i64 m, .slice a' k.length c']; simpa using this
  have hc1 := cells_below hc hb B (Nat.le_refl _)
  have hc2 := cells_below hc' hb' B (Nat.le_refl _)
  have G1 := K1.cell
  have G2 := K2.cell
  have hs0 := sumT_at l k hkl 0 (by omega)
  have c0 := hc1 0 (by omega)
  have i0 := fun W => hix W 0 (by omega)
  have d0 := hc2 (l.length - 1 - 0) (by omega)
  have j0 := fun W => hix' W (l.length - 1 - 0) (by omega)
  have lb0 := hlb 0 (by omega)
  have kb0 := hkb (l.length - 1 - 0) (by omega)
  have HB := Lib.hid (And.intro hlb hkb)
  have HC1 := Lib.hid hc1
  have HC2 := Lib.hid hc2
  have HI1 := Lib.hid hix
  have HI2 := Lib.hid hix'
  have HKL := Lib.hid hkl
  obtain ⟨F, hF⟩ : ∃ F : Nat, F = 2 ^ N - 1 := ⟨_, rfl⟩
  have hll : l.length = F + 1 := by omega
  have hFi : (2 : Int) ^ N - 1 = (F : Int) := by rw [← hcast, hF]
  have hNF : 2 ^ N = F + 1 := by omega
  have ha5 : ∀ s, s ≤ F → bits .andNot .i64 (s : Int) (F : Int) = 0 ∧ bits .andNot .i64 (F : Int) (s : Int) = ((F - s : Nat) : Int) := fun s hs => by
    have h1 := bitsN s F (by omega) (by omega)
    have h2 := bitsN F s (by omega) (by omega)
    have h3 := ndiff_self N hN s (by omega)
    have h4 := ndiff_full N hN s (by omega)
    rw [← hF] at h3 h4
    rw [h3] at h1
    rw [h4] at h2
    exact ⟨h1, h2⟩
  rw [hFi, hNF]
  simp only [show l.length - 1 - 0 = F by omega] at d0 j0 kb0 hs0
  obtain ⟨x0, hx0⟩ : ∃ x, x = l[0] := ⟨_, rfl⟩
  obtain ⟨y0, hy0⟩ : ∃ x, x = k[F]'(by omega) := ⟨_, rfl⟩
  rw [← hx0] at c0 lb0 hs0
  rw [← hy0] at d0 kb0 hs0
  have HS0 := Lib.hid hs0
  have HLL := Lib.hid hll
  have HA5 := Lib.hid ha5
  have e1 := spTo_one l k
  have hF32 : F < 32 := by omega
  clear hc hc' hc1 hc2 hix hix' hkl hlb hkb hs0 hx0 hy0 hll ha5 hl hcast hF hFi hNF hb hb'
  clear hpn hp1
  have c0 : V.cell? ⟨bb, off, none⟩ = some (.int .i64 x0) := by simpa using c0
  have i0 : ∀ W, (Instr.indexAt 22 (.slice a l.length c) (.int .i64 0)).run Tryz.prog W = .ok (.pointer (some ⟨bb, off, none⟩)) W := fun W => by simpa using i0 W
  go_enter Tryz.func160, Tryz.ntmps160
  go_wp2_with fail
  rw [← hV]
  clear hV
  go_quiet (fail)
  go_wp2_with fail
  go_loopw [8, 9, 23] (fun sm pt i wr => ∃ t : Nat, t ≤ F + 1 ∧ i = .int .i64 t ∧ sm = .int .i64 (sumT l k (spTo l k t)) ∧ pt = .int .i64 (spTo l k t : Int) ∧ (-2000 ≤ sumT l k (spTo l k t) ∧ sumT l k (spTo l k t) ≤ 2000) ∧ ∃ q, wr = V.drewN q) (fun _ _ i _ => F + 1 - (intOf i).toNat)
  case atStart =>
    have hz : sumT l k (spTo l k 0) = x0 + y0 := by rw [show spTo l k 0 = 0 from rfl]; exact HS0.out
    exact ⟨0, Nat.zero_le _, rfl, by rw [hz], rfl, by rw [hz]; omega, _, rfl⟩
  case round =>
    obtain ⟨t, ht, rfl, rfl, rfl, hbd, q, rfl⟩ := hrel
    by_cases hlt : t < F + 1
    · have hlt2 : (t : Int) < (F : Int) + 1 := by omega
      have hbits := HA5.out t (by omega)
      have hb1 := hbits.1
      have hb2 := hbits.2
      have hst := sumT_at l k HKL.out t (by rw [HLL.out]; omega)
      have hsucc := spTo_succ l k t
      have ck := HC1.out t (by rw [HLL.out]; omega)
      have ik := fun W => HI1.out W t (by rw [HLL.out]; omega)
      have dk := HC2.out (F - t) (by rw [HKL.out, HLL.out]; omega)
      have jk := fun W => HI2.out W (F - t) (by rw [HKL.out, HLL.out]; omega)
      have lb := HB.out.1 t (by rw [HLL.out]; omega)
      have kb := HB.out.2 (F - t) (by rw [HKL.out, HLL.out]; omega)
      simp only [show l.length - 1 - t = F - t by rw [HLL.out]; omega] at hst
      obtain ⟨x, hx⟩ : ∃ x, x = l[t]'(by rw [HLL.out]; omega) := ⟨_, rfl⟩
      obtain ⟨y, hy⟩ : ∃ y, y = k[F - t]'(by rw [HKL.out, HLL.out]; omega) := ⟨_, rfl⟩
      rw [← hx] at ck lb hst
      rw [← hy] at dk kb hst
      rw [hst] at hsucc
      obtain ⟨S, hS⟩ : ∃ S, S = sumT l k (spTo l k t) := ⟨_, rfl⟩
      obtain ⟨p, hp⟩ : ∃ p, p = spTo l k t := ⟨_, rfl⟩
      rw [← hS] at hsucc hbd ⊢
      rw [← hp] at hsucc ⊢
      obtain ⟨Ft, hFt⟩ : ∃ Ft, Ft = F - t := ⟨_, rfl⟩
      simp only [← hFt] at dk jk hb2
      have HS2 := Lib.hid hS
      have HP2 := Lib.hid hp
      have HST := Lib.hid hst
      have HSU := Lib.hid hsucc
      clear hx hy hS hp hst hsucc hbits hFt c0 i0 d0 j0
      by_cases hlt3 : x + y < S
      · go_wp2_with fail
        go_quiet (fail)
        go_wp2_with fail
        go_quiet (fail)
        go_wp2
        go_roundw
        case rel =>
          have h1 : spTo l k (t + 1) = t := by rw [HSU.out, if_pos hlt3]
          exact ⟨t + 1, by omega, by go_num, by rw [h1, HST.out], by rw [h1], by rw [h1, HST.out]; omega, _, by first | rfl | simp⟩
        case measure => simp [intOf]; omega
      · go_wp2_with fail
        go_quiet (fail)
        go_wp2
        go_roundw
        case rel =>
          have h1 : spTo l k (t + 1) = p := by rw [HSU.out, if_neg (by omega)]
          have h2 : sumT l k p = S := by rw [HS2.out, HP2.out]
          exact ⟨t + 1, by omega, by go_num, by rw [h1, h2], by rw [h1], by rw [h1, h2]; exact hbd, _, by first | rfl | simp⟩
        case measure => simp [intOf]; omega
    · have hlt2 : ¬ (t : Int) < (F : Int) + 1 := by omega
      have htF : t = F + 1 := by omega
      subst htF
      go_wp2
      go_ret2
      exact ⟨rfl, B.drewN' _⟩
set_option maxHeartbeats 2000000 in
set_option maxRecDepth 100000 in
theorem l6Split_any (w : World) (N : Nat) (hN : N ≤ 5) (n m : Int) (v u : Value) (l k : List Int) (hv : Ints w v l) (hu : Ints w u k) (hl : l.length = 2 ^ N) (hkl : k.length = l.length) (hlb : ∀ i, (hi : i < l.length) → -1000 ≤ l[i] ∧ l[i] ≤ 1000) (hkb : ∀ i, (hi : i < k.length) → -1000 ≤ k[i] ∧ k[i] ≤ 1000) :
    Calls Tryz.prog 150 #[.agg #[.int .i64 n, v], .agg #[.int .i64 m, u], .int .i64 (2 ^ N - 1)] w fun e w' => e = .returned (.int .i64 (spTo l k (2 ^ N) : Int)) ∧ Below w.heap.size w w' := by
  have hv0 := hv
  have hu0 := hu
  have hpn : (2 : Nat) ^ N ≤ 32 := Nat.pow_le_pow_right (n := 2) (by decide) hN
  have hp1 := Nat.two_pow_pos N
  have hcast : ((2 ^ N - 1 : Nat) : Int) = (2 : Int) ^ N - 1 := by rw [Int.ofNat_sub hp1]; simp
  obtain ⟨a, bb, off, c, rfl, hlen, hix, hc, hb⟩ := hv.view Tryz.prog 22 3 Tryz.underlying22 intElem
  obtain ⟨a', bb', off', c', rfl, hlen', hix', hc', hb'⟩ := hu.view Tryz.prog 22 3 Tryz.underlying22 intElem
  obtain ⟨V, hV⟩ : ∃ V, V = (w.alloc (.cells #[.int .i64 n, .slice a l.length c] 27)).alloc (.cells #[.int .i64 m, .slice a' k.length c'] 27) := ⟨_, rfl⟩
  have B : Below w.heap.size w V := by rw [hV]; exact bl2 _ _ _
  have K1 : Blk V w.heap.size 27 #[.int .i64 n, .slice a l.length c] := by rw [hV]; exact (Blk.new _ _ _).alloc _
  have K2 : Blk V (w.heap.size + 1) 27 #[.int .i64 m, .slice a' k.length c'] := by rw [hV]; have := Blk.new (w.alloc (.cells #[.int .i64 n, .slice a l.length c] 27)) 27 #[.int .i64 m, .slice a' k.length c']; simpa using this
  have hc1 := cells_below hc hb B (Nat.le_refl _)
  have hc2 := cells_below hc' hb' B (Nat.le_refl _)
  have G1 := K1.cell
  have G2 := K2.cell
  have hs0 := sumT_at l k hkl 0 (by omega)
  have c0 := hc1 0 (by omega)
  have i0 := fun W => hix W 0 (by omega)
  have d0 := hc2 (l.length - 1 - 0) (by omega)
  have j0 := fun W => hix' W (l.length - 1 - 0) (by omega)
  have lb0 := hlb 0 (by omega)
  have kb0 := hkb (l.length - 1 - 0) (by omega)
  have HB := Lib.hid (And.intro hlb hkb)
  have HC1 := Lib.hid hc1
  have HC2 := Lib.hid hc2
  have HI1 := Lib.hid hix
  have HI2 := Lib.hid hix'
  have HKL := Lib.hid hkl
  obtain ⟨F, hF⟩ : ∃ F : Nat, F = 2 ^ N - 1 := ⟨_, rfl⟩
  have hll : l.length = F + 1 := by omega
  have hFi : (2 : Int) ^ N - 1 = (F : Int) := by rw [← hcast, hF]
  have hNF : 2 ^ N = F + 1 := by omega
  have ha5 : ∀ s, s ≤ F → bits .and .i64 (s : Int) (F : Int) = (s : Int) := fun s hs => by
    have h1 := bitsA s F (by omega) (by omega)
    have h3 := and_self5 N hN s (by omega)
    rw [← hF] at h3
    rw [h3] at h1
    exact h1
  rw [hFi, hNF]
  simp only [show l.length - 1 - 0 = F by omega] at d0 j0 kb0 hs0
  obtain ⟨x0, hx0⟩ : ∃ x, x = l[0] := ⟨_, rfl⟩
  obtain ⟨y0, hy0⟩ : ∃ x, x = k[F]'(by omega) := ⟨_, rfl⟩
  rw [← hx0] at c0 lb0 hs0
  rw [← hy0] at d0 kb0 hs0
  have HS0 := Lib.hid hs0
  have HLL := Lib.hid hll
  have HA5 := Lib.hid ha5
  have e1 := spTo_one l k
  have hF32 : F < 32 := by omega
  clear hc hc' hc1 hc2 hix hix' hkl hlb hkb hs0 hx0 hy0 hll ha5 hl hcast hF hFi hNF hb hb'
  clear hpn hp1
  have c0 : V.cell? ⟨bb, off, none⟩ = some (.int .i64 x0) := by simpa using c0
  have i0 : ∀ W, (Instr.indexAt 22 (.slice a l.length c) (.int .i64 0)).run Tryz.prog W = .ok (.pointer (some ⟨bb, off, none⟩)) W := fun W => by simpa using i0 W
  go_enter Tryz.func150, Tryz.ntmps150
  go_wp2_with fail
  rw [← hV]
  clear hV c0 i0 d0 j0
  go_loopw [7, 8] (fun bst i wr => ∃ t : Nat, 1 ≤ t ∧ t ≤ F + 1 ∧ i = .int .i64 t ∧ bst = .int .i64 (spTo l k t : Int) ∧ ∃ q, wr = V.drewN q) (fun _ i _ => F + 1 - (intOf i).toNat)
  case atStart => exact ⟨1, Nat.le_refl _, by omega, rfl, by rw [e1]; rfl, 0, rfl⟩
  case round =>
    obtain ⟨t, ht1, ht, rfl, rfl, q, rfl⟩ := hrel
    have hpl := spTo_lt l k t ht1
    by_cases hlt : t < F + 1
    · have hlt2 : (t : Int) ≤ (F : Int) := by omega
      have hb1 := HA5.out t (by omega)
      have hst := sumT_at l k HKL.out t (by rw [HLL.out]; omega)
      have hsucc := spTo_succ l k t
      obtain ⟨p, hp⟩ : ∃ p, p = spTo l k t := ⟨_, rfl⟩
      rw [← hp] at hsucc hpl ⊢
      have hsp := sumT_at l k HKL.out p (by rw [HLL.out]; omega)
      have ck := HC1.out t (by rw [HLL.out]; omega)
      have ik := fun W => HI1.out W t (by rw [HLL.out]; omega)
      have dk := HC2.out (F - t) (by rw [HKL.out, HLL.out]; omega)
      have jk := fun W => HI2.out W (F - t) (by rw [HKL.out, HLL.out]; omega)
      have lb := HB.out.1 t (by rw [HLL.out]; omega)
      have kb := HB.out.2 (F - t) (by rw [HKL.out, HLL.out]; omega)
      have cp := HC1.out p (by rw [HLL.out]; omega)
      have ip := fun W => HI1.out W p (by rw [HLL.out]; omega)
      have dp := HC2.out (F - p) (by rw [HKL.out, HLL.out]; omega)
      have jp := fun W => HI2.out W (F - p) (by rw [HKL.out, HLL.out]; omega)
      have lbp := HB.out.1 p (by rw [HLL.out]; omega)
      have kbp := HB.out.2 (F - p) (by rw [HKL.out, HLL.out]; omega)
      simp only [show l.length - 1 - t = F - t by rw [HLL.out]; omega] at hst
      simp only [show l.length - 1 - p = F - p by rw [HLL.out]; omega] at hsp
      obtain ⟨x, hx⟩ : ∃ x, x = l[t]'(by rw [HLL.out]; omega) := ⟨_, rfl⟩
      obtain ⟨y, hy⟩ : ∃ y, y = k[F - t]'(by rw [HKL.out, HLL.out]; omega) := ⟨_, rfl⟩
      obtain ⟨xp, hxp⟩ : ∃ x, x = l[p]'(by rw [HLL.out]; omega) := ⟨_, rfl⟩
      obtain ⟨yp, hyp⟩ : ∃ y, y = k[F - p]'(by rw [HKL.out, HLL.out]; omega) := ⟨_, rfl⟩
      rw [← hx] at ck lb hst
      rw [← hy] at dk kb hst
      rw [← hxp] at cp lbp hsp
      rw [← hyp] at dp kbp hsp
      rw [hst, hsp] at hsucc
      have hsub : (F : Int) - (t : Int) = ((F - t : Nat) : Int) := by omega
      have hsubp : (F : Int) - (p : Int) = ((F - p : Nat) : Int) := by omega
      obtain ⟨Ft, hFt⟩ : ∃ Ft, Ft = F - t := ⟨_, rfl⟩
      obtain ⟨Fp, hFp⟩ : ∃ Ft, Ft = F - p := ⟨_, rfl⟩
      simp only [← hFt] at dk jk hsub
      simp only [← hFp] at dp jp hsubp
      have HSU := Lib.hid hsucc
      clear hx hy hxp hyp hst hsp hsucc hFt hFp hp
      by_cases hlt3 : x + y < xp + yp
      · go_wp2_with fail
        go_quiet (fail)
        go_wp2
        go_roundw
        case rel =>
          have h1 : spTo l k (t + 1) = t := by rw [HSU.out, if_pos hlt3]
          exact ⟨t + 1, by omega, by omega, by go_num, by rw [h1], _, by first | rfl | simp⟩
        case measure => simp [intOf]; omega
      · go_wp2_with fail
        go_quiet (fail)
        go_wp2
        go_roundw
        case rel =>
          have h1 : spTo l k (t + 1) = p := by rw [HSU.out, if_neg (by omega)]
          exact ⟨t + 1, by omega, by omega, by go_num, by rw [h1], _, by first | rfl | simp⟩
        case measure => simp [intOf]; omega
    · have hlt2 : ¬ (t : Int) ≤ (F : Int) := by omega
      have htF : t = F + 1 := by omega
      subst htF
      go_wp2
      go_ret
      exact ⟨rfl, B.drewN' _⟩
end Go.Proofs.YtpaoiiiceekkkaaGreatDoor
end
