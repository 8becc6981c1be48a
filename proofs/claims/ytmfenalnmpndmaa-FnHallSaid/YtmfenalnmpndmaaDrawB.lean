/- Draws: numbers below a bound, picks, a new cursor. -/
import Derived.Test.YtmfenalnmpndmaaDraw
namespace Go.Proofs.Ytmfenalnmpndmaa
open Go.RowKit Go.G5

set_option maxHeartbeats 1000000 in
set_option maxRecDepth 100000 in
theorem l1Below_any (w : World) (g : Nat) (D : Dr w g) (n : Int) :
    Calls Try.prog 88 #[.pointer (some ⟨g, 0, none⟩), .int .i64 n] w fun e w' => ∃ x : Int, e = .returned (.int .i64 x) ∧ InR x ∧ (0 < n → 0 ≤ x ∧ x < n) ∧ (n ≤ 0 → x = 0) ∧ Dr w' g ∧ w.grownBy w' (some g) := by
  by_cases h0 : n ≤ 0
  · go_enter Try.func88, Try.ntmps88
    go_wp2
    go_ret
    exact ⟨0, rfl, ⟨by omega, by omega⟩, fun h => by omega, fun _ => rfl, D, World.grownBy.refl _ _⟩
  · by_cases h1 : n ≤ 256
    · go_enter Try.func88, Try.ntmps88
      go_wp2_with fail
      refine (l1Byte_any w g D).mono ?_
      rintro e w1 ⟨x, hx, rfl, D1, g1⟩
      have hne : n ≠ 0 := by omega
      have hm1 : Int.tmod (x : Int) n = (x : Int) % n := Int.tmod_eq_emod_of_nonneg (by omega)
      have hm2 := Int.emod_nonneg (x : Int) hne
      have hm3 := Int.emod_lt_of_pos (x : Int) (show 0 < n by omega)
      go_wp2
      go_ret
      exact ⟨(x : Int) % n, rfl, ⟨by omega, by omega⟩, fun _ => ⟨by omega, by omega⟩, fun h => by omega, D1, g1⟩
    · go_enter Try.func88, Try.ntmps88
      go_wp2_with fail
      refine (l1Byte_any w g D).mono ?_
      rintro e w1 ⟨x, hx, rfl, D1, g1⟩
      go_wp2_with fail
      refine (l1Byte_any w1 g D1).mono ?_
      rintro e w2 ⟨y, hy, rfl, D2, g2⟩
      go_wp2_with fail
      refine (l1Byte_any w2 g D2).mono ?_
      rintro e w3 ⟨z, hz, rfl, D3, g3⟩
      go_wp2_with fail
      refine (l1Byte_any w3 g D3).mono ?_
      rintro e w4 ⟨q, hq, rfl, D4, g4⟩
      have hne : n ≠ 0 := by omega
      obtain ⟨t, ht⟩ : ∃ t : Int, t = (x : Int) * 16777216 + (y : Int) * 65536 + (z : Int) * 256 + (q : Int) := ⟨_, rfl⟩
      have hm1 : Int.tmod t n = t % n := Int.tmod_eq_emod_of_nonneg (by omega)
      have hm2 := Int.emod_nonneg t hne
      have hm3 := Int.emod_lt_of_pos t (show 0 < n by omega)
      have hm5 := Int.mul_ediv_add_emod t n
      have hm6 := Int.ediv_nonneg (a := t) (b := n) (by omega) (by omega)
      have hm7 : 0 ≤ n * (t / n) := Int.mul_nonneg (by omega) hm6
      have hm4 : t % n ≤ t := by omega
      clear hm5 hm6 hm7
      have g14 := gr_trans (gr_trans (gr_trans g1 g2) g3) g4
      go_wp2
      rw [← ht]
      go_ret
      exact ⟨t % n, rfl, ⟨by omega, by omega⟩, fun _ => ⟨by omega, by omega⟩, fun h => by omega, D4, g14⟩
set_option maxHeartbeats 1000000 in
theorem l1Once_any (w : World) (g : Nat) (D : Dr w g) (n : Int) :
    Calls Try.prog 86 #[.pointer (some ⟨g, 0, none⟩), .int .i64 n] w fun e w' => ∃ b : Bool, e = .returned (.bool b) ∧ Dr w' g ∧ w.grownBy w' (some g) := by
  go_enter Try.func86, Try.ntmps86
  go_wp2_with fail
  refine (l1Below_any w g D n).mono ?_
  rintro e w1 ⟨x, rfl, hx, _, _, D1, g1⟩
  go_wp2
  go_ret
  exact ⟨_, rfl, D1, g1⟩
set_option maxHeartbeats 1000000 in
set_option maxRecDepth 100000 in
theorem l1PickInt_any (w : World) (g : Nat) (D : Dr w g) (B : Nat) (hB : g < B) (v : Value) (l : List Int) (ho : OwnI 3 B w v l) (h0 : 0 < l.length) :
    Calls Try.prog 87 #[.pointer (some ⟨g, 0, none⟩), v] w fun e w' => ∃ x : Int, e = .returned (.int .i64 x) ∧ x ∈ l ∧ Dr w' g ∧ w.grownBy w' (some g) := by
  obtain ⟨a, c, rfl⟩ := ho.shape
  go_enter Try.func87, Try.ntmps87
  go_wp2_with fail
  refine (l1Below_any w g D (l.length : Int)).mono ?_
  rintro e w1 ⟨x, rfl, _, hx, _, D1, g1⟩
  have hx := hx (by omega)
  obtain ⟨k, rfl⟩ := Int.eq_ofNat_of_zero_le hx.1
  have hk : k < l.length := by omega
  have o1 := ho.grow g1 (fun q hq e => by have := Option.some.inj hq; have := (ho.lt _ e).1; omega)
  obtain ⟨a', b, off, c', he, hlen, hix, hc, hb⟩ := o1.ints.view Try.prog 24 3 Try.underlying24 intElem
  simp only [Value.slice.injEq] at he
  obtain ⟨rfl, _, rfl⟩ := he
  have ck := hc k hk
  have ik := fun W => hix W k hk
  have hmem := List.getElem_mem hk
  obtain ⟨y, hy⟩ : ∃ y, y = l[k] := ⟨_, rfl⟩
  rw [← hy] at ck hmem
  have HM := Lib.hid hmem
  clear hc hix hy hmem
  go_wp2
  go_ret
  exact ⟨y, rfl, HM.out, D1, g1⟩
set_option maxHeartbeats 1000000 in
set_option maxRecDepth 100000 in
theorem l1New_any (w : World) (v : Value) (l : List Nat) (hv : Byts w v l) :
    Calls Try.prog 56 #[v] w fun e w' => e = .returned (.pointer (some ⟨w.heap.size, 0, none⟩)) ∧ Dr w' w.heap.size ∧ Below w.heap.size w w' := by
  have hv0 := hv
  obtain ⟨a, b, off, c, rfl, hlen, hix, hc, hb, h256⟩ := hv.view Try.prog 22 5 Try.underlying22 byteElem
  have hD : ∀ h : Int, Dr (w.alloc (.cells #[.slice a l.length c, .int .i64 0, .int .i64 h] 91)) w.heap.size := fun h =>
    ⟨_, l, 0, h, Blk.new _ _ _, hv0.below (bl1 _ _) (Nat.le_refl _), fun h0 b' off' n' c' e => by
      obtain ⟨a2, c2, e2, _, _, _, h4⟩ := hv0
      simp only [Value.slice.injEq] at e e2
      obtain ⟨rfl, _⟩ := e
      obtain ⟨rfl, _⟩ := e2
      rcases h4 with rfl | ⟨b3, off3, e3, hlt, _⟩
      · exact absurd rfl h0
      · simp only [Option.some.injEq, Addr.mk.injEq] at e3
        omega⟩
  go_enter Try.func56, Try.ntmps56
  go_wp2_with fail
  go_loop [3, 4] (fun h i => ∃ (hh : Int) (k : Nat), h = .int .i64 hh ∧ k ≤ l.length ∧ i = .int .i64 k) (fun _ i => l.length - (intOf i).toNat)
  case atStart => exact ⟨_, 0, rfl, Nat.zero_le _, rfl⟩
  case round =>
    obtain ⟨hh, k, rfl, hk, rfl⟩ := hrel
    by_cases hlt : k < l.length
    · have hlt2 : (k : Int) < (l.length : Int) := by omega
      have ck := hc k hlt
      have ik := fun W => hix W k hlt
      have hx := h256 l[k] (List.getElem_mem _)
      obtain ⟨y, hy⟩ : ∃ y, y = l[k] := ⟨_, rfl⟩
      rw [← hy] at ck hx
      by_cases h4 : (k : Int) < 4000
      · go_wp2
        go_round
        case rel => exact ⟨_, k + 1, rfl, by omega, by go_num⟩
        case measure => simp [intOf]; omega
      · go_wp2
        go_ret
        exact ⟨rfl, hD _, bl1 _ _⟩
    · have hlt2 : ¬ (k : Int) < (l.length : Int) := by omega
      go_wp2
      go_ret
      exact ⟨rfl, hD _, bl1 _ _⟩
end Go.Proofs.Ytmfenalnmpndmaa
