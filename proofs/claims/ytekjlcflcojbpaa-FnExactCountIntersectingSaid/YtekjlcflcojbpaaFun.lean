/- Functions of sets: what is one. -/
import Derived.Test.YtekjlcflcojbpaaFam
namespace Go.Proofs.Ytekjlcflcojbpaa
open Go.RowKit Go.G5

def allIn (l : List Int) (lo hi : Int) : Bool := l.all fun x => inB x lo hi

def isFunB (n : Int) (l : List Int) : Bool := inB n 0 5 && decide ((l.length : Int) = 2 ^ n.toNat) && allIn l (-1000) 1000
theorem pow_le32 {g : Int} (h0 : 0 ≤ g) (h6 : g ≤ 5) : (2 : Int) ^ g.toNat ≤ 32 ∧ 0 < (2 : Int) ^ g.toNat := by
  have := two_pow g.toNat 5 (by omega)
  simpa using this
theorem funOk {n : Int} {l : List Int} (h : isFunB n l = true) : 0 ≤ n ∧ n ≤ 5 ∧ (l.length : Int) = 2 ^ n.toNat ∧ (∀ k, (hk : k < l.length) → -1000 ≤ l[k] ∧ l[k] ≤ 1000) := by
  unfold isFunB allIn at h
  simp only [Bool.and_eq_true, List.all_eq_true, decide_eq_true_eq] at h
  obtain ⟨⟨h1, h2⟩, h3⟩ := h
  have := inB_true.1 h1
  exact ⟨this.1, this.2, h2, fun k hk => inB_true.1 (h3 _ (List.getElem_mem hk))⟩

def isGrB (n : Int) (l : List Int) : Bool := isFunB n l && decide (l.getD 0 0 = 0)

/-! bits and weights -/
def ibit (s : Int) (e : Nat) : Int := s / 2 ^ e % 2
theorem bit_is (s : Int) (k : Nat) (h0 : 0 ≤ s) (h1 : s < 4611686018427387904) : bits BinOp.and IntKind.i64 (s / 2 ^ k) 1 = ibit s k := by
  have hq : 0 ≤ s / 2 ^ k := Int.ediv_nonneg h0 (by have := (two_pow k k (Nat.le_refl _)).2; omega)
  have hq2 : s / 2 ^ k ≤ s := Int.ediv_le_self _ h0
  have := bitsA1 (s / 2 ^ k).toNat (by omega)
  rw [show (((s / 2 ^ k).toNat : Nat) : Int) = s / 2 ^ k by omega] at this
  rw [this]
  unfold ibit; omega
/-- the sum of the numbers of a set's elements below k -/
def wtTo (x : List Int) (s : Int) : Nat → Int
  | 0 => 0
  | k + 1 => if ibit s k = 1 then wtTo x s k + x.getD k 0 else wtTo x s k
def wt (x : List Int) (s : Int) : Int := wtTo x s x.length
theorem wtTo_bd (x : List Int) (s : Int) (h : ∀ k, (hk : k < x.length) → -1000000 ≤ x[k] ∧ x[k] ≤ 1000000) (k : Nat) (hk : k ≤ x.length) : -1000000 * (k : Int) ≤ wtTo x s k ∧ wtTo x s k ≤ 1000000 * (k : Int) := by
  induction k with
  | zero => simp [wtTo]
  | succ k ih =>
    have h1 := ih (by omega)
    have h2 := h k (by omega)
    rw [wtTo, List.getD_eq_getElem?_getD, List.getElem?_eq_getElem (show k < x.length by omega), Option.getD_some]
    split <;> omega

end Go.Proofs.Ytekjlcflcojbpaa
