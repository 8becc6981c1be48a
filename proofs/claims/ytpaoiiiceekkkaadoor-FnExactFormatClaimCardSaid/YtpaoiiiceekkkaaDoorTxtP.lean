/- Texts: numerals and joined lists, in plain words. -/
import Derived.Lib.ItoaNum
import Derived.Lib.Join
import Derived.Lib.SmallJoins
namespace Go.G5
open Go

theorem ba_ext {a b : ByteArray} (h : a.data.toList = b.data.toList) : a = b := by
  cases a; cases b; congr 1; exact Array.toList_inj.1 h
theorem ba_mk (l : List UInt8) : (⟨l.toArray⟩ : ByteArray).data.toList = l := rfl
theorem ba_app (a b : ByteArray) : (a ++ b).data.toList = a.data.toList ++ b.data.toList := by rw [ByteArray.data_append, Array.toList_append]
theorem ba_size (a : ByteArray) : a.size = a.data.toList.length := Lib.size_eq a
theorem ba_emp {a : ByteArray} : a.size = 0 ↔ a = ByteArray.empty := by
  constructor
  · intro h
    rw [ba_size] at h
    exact ba_ext (by rw [List.eq_nil_of_length_eq_zero h]; rfl)
  · rintro rfl; rfl

/-- the numeral of n -/
def itoaB (n : Int) : ByteArray := ⟨(Lib.itoa n).toArray⟩
/-- the parts, with sep between -/
def joinB (sep : ByteArray) (xs : List ByteArray) : ByteArray := ⟨(Lib.join (xs.map (·.data.toList)) sep.data.toList).toArray⟩

theorem joinB_nil (sep : ByteArray) : joinB sep [] = ByteArray.empty := rfl
theorem joinB_one (sep x : ByteArray) : joinB sep [x] = x := ba_ext (by
  show Lib.join [x.data.toList] sep.data.toList = _
  rw [Lib.join_one])
theorem joinTail_app (sep : List UInt8) (r s : List (List UInt8)) : Lib.joinTail sep (r ++ s) = Lib.joinTail sep r ++ Lib.joinTail sep s := by
  simp [Lib.joinTail]
theorem joinB_snoc (sep : ByteArray) (xs : List ByteArray) (y : ByteArray) (h : xs ≠ []) : joinB sep (xs ++ [y]) = joinB sep xs ++ sep ++ y := by
  cases xs with
  | nil => exact absurd rfl h
  | cons x r =>
    refine ba_ext ?_
    rw [ba_app, ba_app]
    show Lib.join ((x :: (r ++ [y])).map (·.data.toList)) sep.data.toList = Lib.join ((x :: r).map (·.data.toList)) sep.data.toList ++ sep.data.toList ++ y.data.toList
    rw [List.map_cons, List.map_cons, Lib.join_cons, Lib.join_cons, List.map_append, joinTail_app]
    simp [Lib.joinTail, List.append_assoc]
theorem joinB_size (sep : ByteArray) (m : Nat) : ∀ (xs : List ByteArray), (∀ x ∈ xs, x.size ≤ m) → (joinB sep xs).size ≤ xs.length * (m + sep.size)
  | [], _ => by simp [joinB_nil]
  | x :: r, h => by
    have h1 := h x (by simp)
    have h2 : Lib.lens (r.map (·.data.toList)) ≤ r.length * m := by
      have : ∀ (s : List ByteArray), (∀ x ∈ s, x.size ≤ m) → Lib.lens (s.map (·.data.toList)) ≤ s.length * m := by
        intro s hs
        induction s with
        | nil => simp [Lib.lens]
        | cons y s ih =>
          have a := hs y (by simp)
          have b := ih (fun z hz => hs z (by simp [hz]))
          rw [ba_size] at a
          simp only [Lib.lens, List.map_cons, List.sum_cons, List.length_cons] at b ⊢
          rw [Nat.succ_mul]
          omega
      exact this r (fun z hz => h z (by simp [hz]))
    rw [ba_size] at h1 ⊢
    show (Lib.join ((x :: r).map (·.data.toList)) sep.data.toList).length ≤ _
    rw [List.map_cons, Lib.join_cons, List.length_append, Lib.joinTail_length, List.length_map, List.length_cons, Nat.succ_mul, ba_size sep, Nat.mul_add, Nat.mul_comm sep.data.toList.length]
    omega
theorem joinB_ne (sep : ByteArray) (x : ByteArray) (r : List ByteArray) (h : x ≠ ByteArray.empty) : joinB sep (x :: r) ≠ ByteArray.empty := by
  intro e
  have := congrArg (fun a => a.data.toList) e
  have h0 : x.data.toList = [] := by
    change Lib.join ((x :: r).map (·.data.toList)) sep.data.toList = [] at this
    rw [List.map_cons, Lib.join_cons] at this
    exact (List.append_eq_nil_iff.1 this).1
  exact h (ba_ext h0)
/-- the next part behind those that are joined -/
theorem joinB_take (sep : ByteArray) (xs : List ByteArray) (k : Nat) (h : k < xs.length) : joinB sep (xs.take (k + 1)) = if k = 0 then xs[k] else joinB sep (xs.take k) ++ sep ++ xs[k] := by
  rw [List.take_succ_eq_append_getElem h]
  split
  · rename_i h0
    subst h0
    exact joinB_one _ _
  · rename_i h0
    refine joinB_snoc _ _ _ (fun e => ?_)
    have := congrArg List.length e
    rw [List.length_take, List.length_nil] at this
    omega

/-! numerals -/
/-- the digits of u, none of 0 -/
def digs (u : Nat) : List UInt8 := if u = 0 then [] else Lib.decDigits u
theorem digs_step (u : Nat) (h : 0 < u) : digs u = digs (u / 10) ++ [UInt8.ofNat (48 + u % 10)] := by
  unfold digs
  rw [if_neg (show ¬ u = 0 by omega), Lib.decDigits]
  split
  · rename_i h1
    rw [if_pos (show u / 10 = 0 by omega), Nat.mod_eq_of_lt h1]; rfl
  · rename_i h1
    rw [if_neg (show ¬ u / 10 = 0 by omega)]
theorem decDigits_len : ∀ (k u : Nat), u < 10 ^ k → 0 < k → (Lib.decDigits u).length ≤ k
  | 0, _, _, h => by omega
  | k + 1, u, h, _ => by
    rw [Lib.decDigits]
    split
    · simp
    · rename_i h1
      have : u / 10 < 10 ^ k := by rw [Nat.pow_succ] at h; omega
      have hk : 0 < k := by
        rcases Nat.eq_zero_or_pos k with rfl | h2
        · simp at h; omega
        · exact h2
      have := decDigits_len k (u / 10) this hk
      simp; omega
theorem decDigits_ne (u : Nat) : Lib.decDigits u ≠ [] := by
  rw [Lib.decDigits]
  split <;> simp
theorem itoaB_size (n : Int) (h : -9223372036854775808 ≤ n ∧ n ≤ 9223372036854775807) : (itoaB n).size ≤ 21 := by
  rw [ba_size]
  show (Lib.itoa n).length ≤ 21
  unfold Lib.itoa
  split
  · have := decDigits_len 20 n.natAbs (by omega) (by omega)
    simp; omega
  · have := decDigits_len 20 n.toNat (by omega) (by omega)
    omega
theorem itoaB_ne (n : Int) : itoaB n ≠ ByteArray.empty := by
  intro e
  have h : Lib.itoa n = [] := congrArg (fun a => a.data.toList) e
  unfold Lib.itoa at h
  split at h
  · cases h
  · exact decDigits_ne _ h
end Go.G5
