/- Orders of elements, and the gains along an order. -/
import Derived.Test.YtbkgconoadicjaaLists
import Derived.Test.YtbkgconoadicjaaClone
import Derived.Test.YtbkgconoadicjaaFun
import Derived.Test.YtbkgconoadicjaaHas
namespace Go.Proofs.Ytbkgconoadicjaa
open Go.RowKit Go.G5

theorem lt_of_cell' {w : World} {a : Addr} {v : Value} (h : w.cell? a = some v) : a.block < w.heap.size := World.block_lt_of_cell? w a h

/-! what is a member -/
/-! gains -/
def setBit (s e : Nat) : Nat := s ||| 2 ^ e
def gainL (l : List Int) (s e : Nat) : Int := l.getD (setBit s e) 0 - l.getD s 0

theorem setBit_is (s e : Nat) (hs : s < 4611686018427387904) (he : e < 6) : bits .or .i64 (s : Int) (2 ^ e) = ((setBit s e : Nat) : Int) := by
  have hp := Nat.pow_lt_pow_right (show 1 < 2 by decide) he
  have := bitsO s (2 ^ e) (by omega) (by simp at hp; omega)
  unfold setBit
  rw [← this]; push_cast; rfl
theorem setBit_lt (s e n : Nat) (hs : s < 2 ^ n) (he : e < n) : setBit s e < 2 ^ n := Nat.or_lt_two_pow hs (Nat.pow_lt_pow_right (by decide) he)

set_option maxHeartbeats 400000 in
theorem gain_any (n : Int) (l : List Int) (v : Value) (s e : Nat) (w : World) (hv : Ints w v l) (hl : l.length ≤ 64) (hs : s < l.length) (he : e < 6) (hse : setBit s e < l.length) (hlb : ∀ k, (hk : k < l.length) → -1000 ≤ l[k] ∧ l[k] ≤ 1000) :
    Calls Try.prog 198 #[.agg #[.int .i64 n, v], .int .i64 (s : Int), .int .i64 (e : Int)] w fun e' w' => e' = .returned (.int .i64 (gainL l s e)) ∧ Below w.heap.size w w' := by
  obtain ⟨a, b, off, c, rfl, hlen, hix, hc, hb⟩ := hv.view Try.prog 22 3 Try.underlying22 intElem
  have hc1 := cells_below hc hb (bl1 w (.cells #[.int .i64 n, .slice a l.length c] 54)) (Nat.le_refl _)
  have h1 := hlb s hs
  have h2 := hlb _ hse
  have hg : gainL l s e = l[setBit s e] - l[s] := by
    unfold gainL
    rw [List.getD_eq_getElem?_getD, List.getD_eq_getElem?_getD, List.getElem?_eq_getElem hs, List.getElem?_eq_getElem hse]; rfl
  have hor := setBit_is s e (by omega) he
  have hc2 := hc1 _ hse
  have hc3 := hc1 s hs
  have hi2 := fun w' => hix w' _ hse
  have hi3 := fun w' => hix w' s hs
  have hp64 := two_pow e 6 (by omega)
  have hp1 : (2 : Int) ^ e ≤ 64 := by simpa using hp64.1
  have hp2 := hp64.2
  have he0 : (0 : Int) ≤ (e : Int) := Int.natCast_nonneg _
  obtain ⟨x, hx⟩ : ∃ x, x = l[setBit s e] := ⟨_, rfl⟩
  obtain ⟨y, hy⟩ : ∃ y, y = l[s] := ⟨_, rfl⟩
  obtain ⟨q, hq⟩ : ∃ q, q = setBit s e := ⟨_, rfl⟩
  rw [← hx] at hg h2 hc2
  rw [← hy] at hg h1 hc3
  rw [← hq] at hor hi2 hc2
  have hw : IntKind.i64.wrap (x - y) = x - y := by rw [IntKind.wrap_i64]; omega
  have HG := Lib.hid hg
  clear hg hlb hc hb hc1 hix hx hy hq hp64 hse hs
  go_enter Try.func198, Try.ntmps198
  go_wp2
  go_quiet (fail)
  go_wp2
  go_ret
  exact ⟨ret_int (by rw [HG.out]), (bl1 _ _).drewN' _⟩

/-! the gains along an order -/
def prefS (o : List Int) : Nat → Nat
  | 0 => 0
  | k + 1 => setBit (prefS o k) (o.getD k 0).toNat
def cornerTo (l o : List Int) : Nat → List Int
  | 0 => List.replicate o.length 0
  | k + 1 => (cornerTo l o k).set (o.getD k 0).toNat (gainL l (prefS o k) (o.getD k 0).toNat)
def cornerL (l o : List Int) : List Int := cornerTo l o o.length
theorem cornerTo_len (l o : List Int) (k : Nat) : (cornerTo l o k).length = o.length := by
  induction k with
  | zero => simp [cornerTo]
  | succ k ih => simp [cornerTo, ih]
theorem prefS_lt (o : List Int) (n k : Nat) (h : ∀ x ∈ o, 0 ≤ x ∧ x < n) (hk : k ≤ o.length) : prefS o k < 2 ^ n := by
  induction k with
  | zero => exact Nat.two_pow_pos n
  | succ k ih =>
    have hm := h _ (List.getElem_mem (show k < o.length by omega))
    rw [prefS, List.getD_eq_getElem?_getD, List.getElem?_eq_getElem (show k < o.length by omega), Option.getD_some]
    exact setBit_lt _ _ _ (ih (by omega)) (by omega)
theorem gainL_bd (l : List Int) (s e : Nat) (hs : s < l.length) (hse : setBit s e < l.length) (hlb : ∀ k, (hk : k < l.length) → -1000 ≤ l[k] ∧ l[k] ≤ 1000) : -2000 ≤ gainL l s e ∧ gainL l s e ≤ 2000 := by
  have h1 := hlb s hs
  have h2 := hlb _ hse
  unfold gainL
  rw [List.getD_eq_getElem?_getD, List.getD_eq_getElem?_getD, List.getElem?_eq_getElem hs, List.getElem?_eq_getElem hse, Option.getD_some, Option.getD_some]
  omega

end Go.Proofs.Ytbkgconoadicjaa
