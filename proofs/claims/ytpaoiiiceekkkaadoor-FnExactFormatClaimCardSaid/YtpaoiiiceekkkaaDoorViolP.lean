/- Violations: what is computed. -/
import Derived.Test.YtpaoiiiceekkkaaDoorPairsP
import Derived.Test.YtpaoiiiceekkkaaDoorOrders
import Derived.Test.YtpaoiiiceekkkaaDoorInter
namespace Go.Proofs.YtpaoiiiceekkkaaDoor
open Go.RowKit Go.G5

def exL (l : List Int) (s i k : Nat) : Int := l.getD (setBit s i ||| setBit s k) 0 + l.getD s 0 - l.getD (setBit s i) 0 - l.getD (setBit s k) 0
def badB (l : List Int) (t : Tri) : Bool := decide (0 < exL l t.1 t.2.1 t.2.2)
def vstep (l : List Int) (a : Option Tri) (t : Tri) : Option Tri × Bool := if badB l t then (some t, false) else (a, a.isNone)
def violT (n : Nat) (l : List Int) : Option Tri := (runT (vstep l) (tri3 n (2 ^ n)) none).1
def violR (n : Int) (l : List Int) : Option Tri := if isFunB n l then violT n.toNat l else none
def violB (n : Int) (l : List Int) : Bool := (violR n l).isSome
def triL : Option Tri → List Int
  | none => []
  | some t => [(t.1 : Int), (t.2.1 : Int), (t.2.2 : Int)]
def violL (n : Int) (l : List Int) : List Int := triL (violR n l)
def subB (n : Int) (l : List Int) : Bool := isFunB n l && !violB n l
theorem or_again (s x y : Nat) : (s ||| x) ||| (s ||| y) = (s ||| x) ||| y := by
  apply Nat.eq_of_testBit_eq
  intro j
  simp only [Nat.testBit_or]
  cases s.testBit j <;> cases x.testBit j <;> cases y.testBit j <;> rfl
theorem setBit_or (s i k : Nat) : setBit s i ||| setBit s k = setBit (setBit s i) k := by unfold setBit; exact or_again s (2 ^ i) (2 ^ k)
theorem violL_len (n : Int) (l : List Int) : (violL n l).length ≤ 3 := by
  unfold violL
  cases violR n l <;> simp [triL]
theorem exL_bd (n : Nat) (l : List Int) (hl : l.length = 2 ^ n) (hb : ∀ k, (hk : k < l.length) → -1000 ≤ l[k] ∧ l[k] ≤ 1000) (s i k : Nat) (hs : s < 2 ^ n) (hi : i < n) (hk : k < n) : -4000 ≤ exL l s i k ∧ exL l s i k ≤ 4000 := by
  have h1 := setBit_lt s i n hs hi
  have h2 := setBit_lt s k n hs hk
  have h3 := setBit_lt (setBit s i) k n h1 hk
  rw [← setBit_or] at h3
  unfold exL
  rw [getD_at l _ (by omega), getD_at l _ (by omega), getD_at l _ (by omega), getD_at l _ (by omega)]
  have b1 := hb (setBit s i) (by omega)
  have b2 := hb (setBit s k) (by omega)
  have b3 := hb (setBit s i ||| setBit s k) (by omega)
  have b4 := hb s (by omega)
  omega
/-- a violation that is told is one -/
theorem viol_run (l : List Int) : ∀ (T : List Tri) (t : Tri), (runT (vstep l) T none).1 = some t → badB l t = true := by
  intro T
  induction T with
  | nil => intro t h; simp [runT] at h
  | cons u T ih =>
    intro t h
    rw [runT] at h
    by_cases hb : badB l u = true
    · have e : vstep l none u = (some u, false) := by unfold vstep; rw [if_pos hb]
      rw [e] at h
      simp at h
      rw [← h]; exact hb
    · have e : vstep l none u = (none, true) := by unfold vstep; rw [if_neg hb]; rfl
      rw [e] at h
      exact ih t h
end Go.Proofs.YtpaoiiiceekkkaaDoor
