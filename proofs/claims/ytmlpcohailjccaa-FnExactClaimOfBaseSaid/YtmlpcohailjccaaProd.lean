/- Sums of products. -/
import Derived.Test.YtmlpcohailjccaaOpt
import Derived.Test.YtmlpcohailjccaaInter
namespace Go.Proofs.Ytmlpcohailjccaa
open Go.RowKit Go.G5

def prodTo (x y : List Int) : Nat → Int
  | 0 => 0
  | k + 1 => prodTo x y k + x.getD k 0 * y.getD k 0
theorem mul_bd (p q : Int) (hp : -1000 ≤ p ∧ p ≤ 1000) (hq : -2000 ≤ q ∧ q ≤ 2000) : -2000000 ≤ p * q ∧ p * q ≤ 2000000 := by
  have h1 : (p * q).natAbs ≤ 1000 * 2000 := by
    rw [Int.natAbs_mul]
    exact Nat.mul_le_mul (by omega) (by omega)
  omega
theorem prodTo_bd (x y : List Int) (hl : y.length = x.length) (hx : ∀ k, (hk : k < x.length) → -1000 ≤ x[k] ∧ x[k] ≤ 1000) (hy : ∀ k, (hk : k < y.length) → -2000 ≤ y[k] ∧ y[k] ≤ 2000) : ∀ k, k ≤ x.length → -2000000 * (k : Int) ≤ prodTo x y k ∧ prodTo x y k ≤ 2000000 * (k : Int) := by
  intro k
  induction k with
  | zero => intro _; simp [prodTo]
  | succ k ih =>
    intro hk
    have h1 := ih (by omega)
    have h2 := mul_bd _ _ (hx k (by omega)) (hy k (by omega))
    rw [prodTo, getD_at x k (by omega), getD_at y k (by omega)]
    push_cast
    omega
set_option maxHeartbeats 1000000 in
theorem product_any (x y : List Int) (v u : Value) (w : World) (hv : Ints w v x) (hu : Ints w u y) (h5 : x.length ≤ 5) (hl : y.length = x.length) (hx : ∀ k, (hk : k < x.length) → -1000 ≤ x[k] ∧ x[k] ≤ 1000) (hy : ∀ k, (hk : k < y.length) → -2000 ≤ y[k] ∧ y[k] ≤ 2000) :
    Calls Try.prog 152 #[v, u] w fun e w' => e = .returned (.int .i64 (prodTo x y x.length)) ∧ Below w.heap.size w w' := by
  obtain ⟨a, b, off, c, rfl, hlen, hix, hc, hb⟩ := hv.view Try.prog 22 3 Try.underlying22 intElem
  obtain ⟨a', b', off', c', rfl, hlen', hix', hc', hb'⟩ := hu.view Try.prog 22 3 Try.underlying22 intElem
  have HB := Lib.hid (prodTo_bd x y hl hx hy)
  have HX := Lib.hid (And.intro hx hy)
  have HL := Lib.hid hl
  have hle : x.length ≤ y.length := by omega
  clear hx hy hl
  go_enter Try.func152, Try.ntmps152
  go_wp2_with fail
  go_loopw [5, 9] (fun sm i wr => ∃ k : Nat, k ≤ x.length ∧ i = .int .i64 k ∧ sm = .int .i64 (prodTo x y k) ∧ Below w.heap.size w wr) (fun _ i _ => x.length - (intOf i).toNat)
  case atStart => exact ⟨0, Nat.zero_le _, rfl, rfl, Below.refl _ _⟩
  case round =>
    obtain ⟨k, hk, rfl, rfl, B⟩ := hrel
    have hbd := HB.out k hk
    by_cases hlt : k < x.length
    · have hlt2 : (k : Int) < (x.length : Int) := by omega
      have ck := cells_below hc hb B (Nat.le_refl _) k hlt
      have ck' := cells_below hc' hb' B (Nat.le_refl _) k (by omega)
      have ik := fun W => hix W k hlt
      have ik' := fun W => hix' W k (by omega)
      have hm := mul_bd _ _ (HX.out.1 k hlt) (HX.out.2 k (by omega))
      have hs : prodTo x y (k + 1) = prodTo x y k + x[k] * y[k]'(by omega) := by rw [prodTo, getD_at x k hlt, getD_at y k (by omega)]
      obtain ⟨p, hp⟩ : ∃ p, p = x[k] := ⟨_, rfl⟩
      obtain ⟨q, hq⟩ : ∃ q, q = y[k]'(by omega) := ⟨_, rfl⟩
      obtain ⟨S, hS⟩ : ∃ S, S = prodTo x y k := ⟨_, rfl⟩
      rw [← hp] at ck hm hs
      rw [← hq] at ck' hm hs
      rw [← hS] at hbd hs ⊢
      have HS := Lib.hid hs
      clear hp hq hS hs hc hc' hix hix'
      go_wp2_with fail
      go_quiet (fail)
      go_wp2
      go_roundw
      case rel => exact ⟨k + 1, by omega, by go_num, by rw [HS.out], B.drewN' _⟩
      case measure => simp [intOf]; omega
    · have hlt2 : ¬ (k : Int) < (x.length : Int) := by omega
      have hkl : k = x.length := by omega
      have HK := Lib.hid hkl
      clear hkl
      go_wp2
      go_ret
      exact ⟨ret_int (by rw [← HK.out]), B⟩
end Go.Proofs.Ytmlpcohailjccaa
