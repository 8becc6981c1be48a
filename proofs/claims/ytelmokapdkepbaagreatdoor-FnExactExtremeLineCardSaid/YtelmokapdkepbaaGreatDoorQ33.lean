/- Common independent sets and what bounds them: what is computed. Common independent sets: whether two functions are ranks of matroids alike; sets that are free. Vectors. The order of a vector's elements by descending numbers: the plain list. Sums of products. The order of a vector's elements: the second program. The gains along an order: the second program. Orders and corners: the second program. -/
import Derived.Test.YtelmokapdkepbaaGreatDoorQ32
import Derived.Shelf.Abstract
import Derived.Deep.RegionHeld3
import Derived.Deep.AppendLies
import Derived.Maps.AppendAt
section
namespace Go.Proofs.YtelmokapdkepbaaGreatDoor
open Go.RowKit Go.G5

def comB (n : Int) (l : List Int) (m : Int) (k : List Int) : Bool := (rankB n l && rankB m k) && decide (n = m)
def freeB (l : List Int) (s : Nat) : Bool := decide (l.getD s 0 = (pop s : Int))
/-- the first of the largest common sets below t -/
def lcTo (l k : List Int) : Nat → Nat
  | 0 => 0
  | t + 1 => if decide (pop (lcTo l k t) < pop t) && (freeB l t && freeB k t) then t else lcTo l k t
def sumT (l k : List Int) (t : Nat) : Int := l.getD t 0 + k.getD (l.length - 1 - t) 0
/-- the first set below t with the least sum -/
def spTo (l k : List Int) : Nat → Nat
  | 0 => 0
  | t + 1 => if sumT l k t < sumT l k (spTo l k t) then t else spTo l k t
def lcS (n : Int) (l : List Int) (m : Int) (k : List Int) : Int := if comB n l m k then (lcTo l k l.length : Int) else 0
def cbS (n : Int) (l : List Int) (m : Int) (k : List Int) : Int := if comB n l m k then (spTo l k l.length : Int) else 0
def cbN (n : Int) (l : List Int) (m : Int) (k : List Int) : Int := if comB n l m k then sumT l k (spTo l k l.length) else 0
theorem lcTo_lt (l k : List Int) : ∀ t, 0 < t → lcTo l k t < t := by
  intro t
  induction t with
  | zero => intro h; omega
  | succ t ih =>
    intro _
    rw [lcTo]
    split
    · omega
    · rcases Nat.eq_zero_or_pos t with rfl | h
      · simp [lcTo]
      · have := ih h; omega
theorem spTo_lt (l k : List Int) : ∀ t, 0 < t → spTo l k t < t := by
  intro t
  induction t with
  | zero => intro h; omega
  | succ t ih =>
    intro _
    rw [spTo]
    split
    · omega
    · rcases Nat.eq_zero_or_pos t with rfl | h
      · simp [spTo]
      · have := ih h; omega
theorem lcTo_one (l k : List Int) : lcTo l k 1 = 0 := by
  have := lcTo_lt l k 1 (by omega); omega
theorem spTo_one (l k : List Int) : spTo l k 1 = 0 := by
  have := spTo_lt l k 1 (by omega); omega
theorem com_fun {n m : Int} {l k : List Int} (h : comB n l m k = true) : m = n ∧ ∃ N : Nat, n = N ∧ N ≤ 5 ∧ l.length = 2 ^ N ∧ l.length ≤ 32 ∧ k.length = l.length ∧ (∀ i, (hi : i < l.length) → -1000 ≤ l[i] ∧ l[i] ≤ 1000) ∧ (∀ i, (hi : i < k.length) → -1000 ≤ k[i] ∧ k[i] ≤ 1000) := by
  unfold comB rankB at h
  simp only [Bool.and_eq_true, decide_eq_true_eq] at h
  obtain ⟨⟨⟨h1, _⟩, h2, _⟩, rfl⟩ := h
  obtain ⟨N, rfl, hN5, hl2, hl32, hlb⟩ := fun_nat (poly_fun h1)
  obtain ⟨M, hM, hM5, hk2, hk32, hkb⟩ := fun_nat (poly_fun h2)
  have : N = M := by omega
  subst this
  exact ⟨rfl, N, rfl, hN5, hl2, hl32, by omega, hlb, hkb⟩
end Go.Proofs.YtelmokapdkepbaaGreatDoor
end
section
namespace Go.Proofs.YtelmokapdkepbaaGreatDoor
open Go.RowKit Go.G5

theorem beq_dec (a b : Int) : (a == b) = decide (a = b) := by by_cases h : a = b <;> simp [h]
end Go.Proofs.YtelmokapdkepbaaGreatDoor
end
section
namespace Go.Proofs.YtelmokapdkepbaaGreatDoor
open Go.RowKit Go.G5

def vecB (x : List Int) : Bool := decide (x.length ≤ 5) && allIn x (-1000) 1000
def optB (n : Int) (l x : List Int) : Bool := (isGrB n l && subB n l) && (vecB x && decide ((x.length : Int) = n))
end Go.Proofs.YtelmokapdkepbaaGreatDoor
end
section
namespace Go.Proofs.YtelmokapdkepbaaGreatDoor
open Go.RowKit Go.G5

def scanO (x o : List Int) (y : Int) : Nat → Nat
  | 0 => 0
  | k + 1 => if x.getD (o.getD k 0).toNat 0 < y then scanO x o y k else k + 1
def insO (o : List Int) (e : Int) (k : Nat) : List Int := (o.take k ++ [e]) ++ o.drop k
def ordN (x : List Int) : Nat → List Int
  | 0 => []
  | i + 1 => insO (ordN x i) i (scanO x (ordN x i) (x.getD i 0) i)
def restL (i n : Nat) : List Int := (List.range' i (n - i)).map fun (t : Nat) => (t : Int)
theorem scanO_le (x o : List Int) (y : Int) : ∀ k, scanO x o y k ≤ k := by
  intro k
  induction k with
  | zero => exact Nat.le_refl _
  | succ k ih => rw [scanO]; split <;> omega
theorem insO_len (o : List Int) (e : Int) (k : Nat) (hk : k ≤ o.length) : (insO o e k).length = o.length + 1 := by
  unfold insO
  simp
  omega
theorem ordN_len (x : List Int) : ∀ i, (ordN x i).length = i := by
  intro i
  induction i with
  | zero => rfl
  | succ i ih =>
    have h := scanO_le x (ordN x i) (x.getD i 0) i
    rw [ordN, insO_len _ _ _ (by omega), ih]
theorem insO_mem (o : List Int) (e y : Int) (k : Nat) (h : y ∈ insO o e k) : y ∈ o ∨ y = e := by
  unfold insO at h
  rcases List.mem_append.1 h with h | h
  · rcases List.mem_append.1 h with h | h
    · exact .inl (List.mem_of_mem_take h)
    · exact .inr (List.mem_singleton.1 h)
  · exact .inl (List.mem_of_mem_drop h)
theorem ordN_mem (x : List Int) : ∀ i, ∀ e ∈ ordN x i, 0 ≤ e ∧ e < i := by
  intro i
  induction i with
  | zero => intro e h; simp [ordN] at h
  | succ i ih =>
    intro e h
    rcases insO_mem _ _ _ _ h with h | h
    · have := ih e h; omega
    · subst h; omega
theorem restL_len (i n : Nat) : (restL i n).length = n - i := by unfold restL; simp
theorem restL_cons (i n : Nat) (h : i < n) : restL i n = (i : Int) :: restL (i + 1) n := by
  unfold restL
  rw [show n - i = (n - (i + 1)) + 1 by omega, List.range'_succ]
  rfl
theorem restL_mem (i n : Nat) : ∀ e ∈ restL i n, 0 ≤ e ∧ e < n := by
  intro e h
  unfold restL at h
  obtain ⟨t, ht, rfl⟩ := List.mem_map.1 h
  have := List.mem_range'.1 ht
  omega
theorem restL_at (n k : Nat) (h : k < (restL 0 n).length) : (restL 0 n)[k] = (k : Int) := by
  unfold restL
  simp
theorem insO_end (o r : List Int) (e : Int) : insO o e o.length ++ r = o ++ e :: r := by
  unfold insO
  simp
theorem insO_at (o r : List Int) (e : Int) (k : Nat) (hk : k ≤ o.length) : (insO o e k ++ r)[k]? = some e := by
  unfold insO
  have h1 : (o.take k).length = k := by rw [List.length_take]; omega
  rw [List.append_assoc, List.append_assoc, List.getElem?_append_right (by omega), h1]
  simp
theorem insO_before (o r : List Int) (e : Int) (k : Nat) (hk : k + 1 ≤ o.length) : (insO o e (k + 1) ++ r)[k]? = some (o[k]'(by omega)) := by
  unfold insO
  have h1 : (o.take (k + 1)).length = k + 1 := by rw [List.length_take]; omega
  rw [List.append_assoc, List.append_assoc, List.getElem?_append_left (by omega), List.getElem?_take, if_pos (by omega), List.getElem?_eq_getElem (by omega)]
theorem insO_swap (o r : List Int) (e : Int) (k : Nat) (hk : k + 1 ≤ o.length) : ((insO o e (k + 1) ++ r).set (k + 1) (o[k]'(by omega))).set k e = insO o e k ++ r := by
  obtain ⟨p, q, t, rfl, hp⟩ : ∃ p q t, o = p ++ q :: t ∧ p.length = k := ⟨o.take k, o[k]'(by omega), o.drop (k + 1), by rw [List.getElem_cons_drop, List.take_append_drop], by rw [List.length_take]; omega⟩
  subst hp
  have h1 : (p ++ q :: t).take (p.length + 1) = p ++ [q] := by rw [List.take_append]; simp [List.take_of_length_le]
  have h2 : (p ++ q :: t).drop (p.length + 1) = t := by rw [List.drop_append]; simp
  have h3 : (p ++ q :: t).take p.length = p := by simp
  have h4 : (p ++ q :: t).drop p.length = q :: t := by simp
  have h5 : (p ++ q :: t)[p.length]'(by simp) = q := by simp
  unfold insO
  rw [h1, h2, h3, h4, h5]
  simp
theorem ordN_at (x : List Int) (i k : Nat) (hk : k < i) : ∃ e : Nat, e < i ∧ (ordN x i)[k]? = some (e : Int) := by
  have h : k < (ordN x i).length := by rw [ordN_len]; exact hk
  have hm := ordN_mem x i _ (List.getElem_mem h)
  refine ⟨((ordN x i)[k]).toNat, by omega, ?_⟩
  rw [List.getElem?_eq_getElem h, show (((ordN x i)[k].toNat : Nat) : Int) = (ordN x i)[k] by omega]
/-- the row in a round of the insertion sort -/
def datO (x : List Int) (n i : Nat) : List Int := ordN x (min i n) ++ restL (min i n) n
theorem datO_len (x : List Int) (n i : Nat) : (datO x n i).length = n := by
  unfold datO
  rw [List.length_append, ordN_len, restL_len]
  omega
theorem datO_start (x : List Int) (n : Nat) : datO x n 1 = restL 0 n := by
  unfold datO
  cases n with
  | zero => rfl
  | succ n =>
    rw [show min 1 (n + 1) = 1 by omega, restL_cons 0 (n + 1) (by omega)]
    rfl
theorem datO_end (x : List Int) (n i : Nat) (h : n ≤ i) : datO x n i = ordN x n := by
  unfold datO
  rw [Nat.min_eq_right h]
  unfold restL
  simp
theorem datO_in (x : List Int) (n i : Nat) (h : i < n) : datO x n i = insO (ordN x i) i i ++ restL (i + 1) n := by
  unfold datO
  rw [Nat.min_eq_left (Nat.le_of_lt h), restL_cons i n h]
  have := insO_end (ordN x i) (restL (i + 1) n) i
  rw [ordN_len] at this
  exact this.symm
theorem datO_next (x : List Int) (n i : Nat) (h : i < n) : datO x n (i + 1) = insO (ordN x i) i (scanO x (ordN x i) (x.getD i 0) i) ++ restL (i + 1) n := by
  unfold datO
  rw [Nat.min_eq_left (by omega)]
  rfl

end Go.Proofs.YtelmokapdkepbaaGreatDoor
end
section
namespace Go.Proofs.YtelmokapdkepbaaGreatDoor
open Go.RowKit Go.G5

def prodTo (x y : List Int) : Nat → Int
  | 0 => 0
  | k + 1 => prodTo x y k + x.getD k 0 * y.getD k 0
theorem mul_bd (p q : Int) (hp : -1000 ≤ p ∧ p ≤ 1000) (hq : -2000 ≤ q ∧ q ≤ 2000) : -2000000 ≤ p * q ∧ p * q ≤ 2000000 := by
  have h1 : (p * q).natAbs ≤ 1000 * 2000 := by
    rw [Int.natAbs_mul]
    exact Nat.mul_le_mul (by omega) (by omega)
  omega
theorem prodTo_bd (x y : List Int) (hl : y.length = x.length) (hx : ∀ k, (hk : k < x.length) → -1000 ≤ x[k] ∧ x[k] ≤ 1000) (hy : ∀ k, (hk : k < y.length) → -2000 ≤ y[k] ∧ y[k] ≤ 2000) : ∀ k, k ≤ x.length → -2000000 * (k : Int) ≤ prodTo x y k ∧ prodTo x y k ≤ 2000000 * (k : Int) := by
  intro k
  induction k with
  | zero => intro _; simp [prodTo]
  | succ k ih =>
    intro hk
    have h1 := ih (by omega)
    have h2 := mul_bd _ _ (hx k (by omega)) (hy k (by omega))
    rw [prodTo, getD_at x k (by omega), getD_at y k (by omega)]
    push_cast
    omega
end Go.Proofs.YtelmokapdkepbaaGreatDoor
end
section
namespace Go.Proofs.YtelmokapdkepbaaGreatDoor
open Go.RowKit Go.G5

def ordL (x : List Int) : List Int := if vecB x then ordN x x.length else []
end Go.Proofs.YtelmokapdkepbaaGreatDoor
end
section
namespace Go.Proofs.YtelmokapdkepbaaGreatDoor
open Go.RowKit Go.G5

def mxX (l x : List Int) : List Int := cornerL l (ordN x x.length)
def maxN (n : Int) (l x : List Int) : Int := if optB n l x then prodTo x (mxX l x) x.length else 0
def maxL (n : Int) (l x : List Int) : List Int := if optB n l x then mxX l x else []
theorem opt_fun {n : Int} {l x : List Int} (h : optB n l x = true) : x.length ≤ 5 ∧ n = (x.length : Int) ∧ l.length = 2 ^ x.length ∧ l.length ≤ 32 ∧ (∀ k, (hk : k < l.length) → -1000 ≤ l[k] ∧ l[k] ≤ 1000) ∧ (∀ y ∈ x, -1000 ≤ y ∧ y ≤ 1000) := by
  unfold optB vecB at h
  simp only [Bool.and_eq_true, decide_eq_true_eq] at h
  obtain ⟨⟨h1, _⟩, ⟨h2, h3⟩, h4⟩ := h
  obtain ⟨N, rfl, hN5, hl2, hl32, hlb⟩ := fun_nat (grOk h1)
  have : x.length = N := by omega
  unfold allIn at h3
  rw [List.all_eq_true] at h3
  exact ⟨h2, h4.symm, by rw [this]; exact hl2, hl32, hlb, fun y hy => inB_true.1 (h3 y hy)⟩
theorem cornerTo_bd (l o : List Int) (hl : l.length = 2 ^ o.length) (hlb : ∀ k, (hk : k < l.length) → -1000 ≤ l[k] ∧ l[k] ≤ 1000) (ho : ∀ x ∈ o, 0 ≤ x ∧ x < o.length) : ∀ k, k ≤ o.length → ∀ y ∈ cornerTo l o k, -2000 ≤ y ∧ y ≤ 2000 := by
  intro k
  induction k with
  | zero =>
    intro _ y hy
    rw [cornerTo] at hy
    have := List.eq_of_mem_replicate hy
    omega
  | succ k ih =>
    intro hk y hy
    rw [cornerTo] at hy
    rcases List.mem_or_eq_of_mem_set hy with hy | hy
    · exact ih (by omega) y hy
    · have hm := ho _ (List.getElem_mem (show k < o.length by omega))
      have hg : o.getD k 0 = o[k] := by rw [List.getD_eq_getElem?_getD, List.getElem?_eq_getElem (by omega)]; rfl
      have hp := prefS_lt o o.length k ho (by omega)
      rw [hg] at hy
      have hse := setBit_lt (prefS o k) o[k].toNat o.length hp (by omega)
      rw [hy]
      exact gainL_bd l _ _ (by omega) (by omega) hlb
theorem mxX_bd {n : Int} {l x : List Int} (h : optB n l x = true) : (mxX l x).length = x.length ∧ ∀ k, (hk : k < (mxX l x).length) → -2000 ≤ (mxX l x)[k] ∧ (mxX l x)[k] ≤ 2000 := by
  obtain ⟨h5, _, hl, _, hlb, _⟩ := opt_fun h
  have ho := ordN_len x x.length
  refine ⟨?_, fun k hk => cornerTo_bd l _ (by rw [ho]; exact hl) hlb (by rw [ho]; exact ordN_mem x x.length) _ (Nat.le_refl _) _ (List.getElem_mem hk)⟩
  unfold mxX cornerL
  rw [cornerTo_len, ho]

def bestL (n : Int) (l x : List Int) : List Int := if optB n l x then ordN x x.length else []
end Go.Proofs.YtelmokapdkepbaaGreatDoor
end
section
namespace Go.G5
open Go Go.RowKit
theorem OwnLL.lit0 {EI EO : TypeId} {B : Nat} (w : World) (hB : B ≤ w.heap.size) : OwnLL EI EO B (w.alloc (.cells #[] EO)) (.slice (some ⟨w.heap.size, 0, none⟩) 0 0) [] :=
  ⟨[], World.ownsRow_lit w #[] 0 hB (Nat.zero_le _) rfl, by simp⟩
theorem OwnLL.alloc {EI EO : TypeId} {B : Nat} {w : World} {v : Value} {ls : List (List Int)} (h : OwnLL EI EO B w v ls) (o : Obj) : OwnLL EI EO B (w.alloc o) v ls := h.keep (bl1 w o)
theorem OwnLL.one {EI EO : TypeId} {B : Nat} {w : World} {v : Value} {l : List Int} (h : OwnI EI B w v l) (hB : B ≤ w.heap.size) : OwnLL EI EO B (w.alloc (.cells #[v] EO)) (.slice (some ⟨w.heap.size, 0, none⟩) 1 1) [l] := by
  refine ⟨[v], World.ownsRow_lit w #[v] 1 hB (by decide) rfl, ?_⟩
  intro k u hu
  cases k with
  | zero => simp only [List.getElem?_cons_zero, Option.some.injEq] at hu; subst hu; exact ⟨l, rfl, h.alloc _⟩
  | succ k => simp at hu
theorem run_appendLL {P : Program} {w : World} {EI EO : TypeId} (T ty : TypeId) (hT : P.underlying T = some (.slice EO)) (hE : SliceElem P EO) (hne : EI ≠ EO) (B : Nat) (v : Value) (ls : List (List Int)) (hown : OwnLL EI EO B w v ls)
    (B' : Nat) (sv : Value) (ms : List (List Int)) (hs : OwnLL EI EO B' w sv ms) (hBB : B ≤ B') (hlen : ls.length + ms.length ≤ 5497558138879) (hB : B ≤ w.heap.size) :
    ∃ v' w', (Builtin.append_ #[T, T] ty #[v, sv]).run P w = .ok v' w' ∧ OwnLL EI EO B w' v' (ls ++ ms) ∧ w.grownBy w' v.ownBlock ∧ NearBy w v v' := by
  obtain ⟨i, hi, hz, h1, h8⟩ := hE.get
  obtain ⟨vs, ho1, ho2⟩ := hown
  obtain ⟨us, hs1, hs2⟩ := hs
  have hso0 := hs1
  have hul := hs1.1
  rcases hs1.2 with ⟨rfl, hn0⟩ | ⟨g, cap, cur, rfl, hBg, hg, hmc, hmm, hcs, ht⟩
  · have : ms = [] := List.eq_nil_of_length_eq_zero hn0
    subst this
    refine ⟨v, w, ?_, by rw [List.append_nil]; exact ⟨vs, ho1, ho2⟩, World.grownBy.refl w _, .inl rfl⟩
    rcases ho1.2 with ⟨rfl, hn⟩ | ⟨g, cap, cur, rfl, _, _, hnc, _⟩
    · simp [Builtin.append_, run_underlying hT, sizeOf, typeInfo, hi, Builtin.lenOf, Builtin.firstCells]
    · simp [Builtin.append_, run_underlying hT, sizeOf, typeInfo, hi, Builtin.lenOf, Builtin.firstCells, hnc, storeCells]
  · have hone : ∀ u ∈ us, u.oneCell' = true := by
      intro u hu
      obtain ⟨j, hj, rfl⟩ := List.getElem_of_mem hu
      obtain ⟨l, _, h4⟩ := hs2 j us[j] (List.getElem?_eq_getElem hj)
      obtain ⟨a', n', c', e⟩ := h4.shape3
      rw [e]; rfl
    obtain ⟨v', w', hrun, h2, h3, _, h5⟩ := run_append_own_at (P := P) w B T ty EO i (.slice none 0 0) 1 24 hT hi hz h1 h8 rfl (by decide) v ls.length vs ho1 ⟨g, 0, none⟩ ms.length cap us (by omega)
      (by
        intro j u hj
        have hjl : j < us.length := by
          rcases Nat.lt_or_ge j us.length with h | h
          · exact h
          · rw [List.getElem?_eq_none h] at hj; cases hj
        have e : (⟨g, 0, none⟩ : Addr).add j = ⟨g, j, none⟩ := by
          unfold Addr.add; split
          · rename_i h0; rw [h0]
          · simp
        rw [e, hso0.cellAt j (by omega)]
        exact hj)
      hone (by unfold maxLen; omega) (by omega) hB
    refine ⟨v', w', hrun, ⟨vs ++ us, by rw [List.length_append]; exact h2, fun k q hq => ?_⟩, h3, h5⟩
    have hl := ho1.1
    by_cases hk : k < vs.length
    · rw [List.getElem?_append_left hk] at hq
      obtain ⟨l', h3', h4⟩ := ho2 k q hq
      exact ⟨l', by rw [List.getElem?_append_left (by omega)]; exact h3', h4.grow h3 (own_ne h4.1 ho1 hne)⟩
    · rw [List.getElem?_append_right (by omega)] at hq
      obtain ⟨l', h3', h4⟩ := hs2 _ q hq
      exact ⟨l', by rw [List.getElem?_append_right (by omega), show k - ls.length = k - vs.length by omega]; exact h3', (h4.grow h3 (own_ne h4.1 ho1 hne)).mono hBB⟩
theorem wp_appendLL {P : Program} {w : World} {EI EO : TypeId} {o : Oper} {a : Act} {K : Act → World → Prop} {Q : Exit → Act → World → Prop} (s x : Operand) (t : TypeId)
    (ho : o.op = .call { callee := .builtin .append, args := #[s, x], argTypes := #[t, t] })
    (hT : P.underlying t = some (.slice EO)) (hE : SliceElem P EO) (hne : EI ≠ EO) (B : Nat) (v : Value) (ls : List (List Int)) (hs : a.eval s = v) (hown : OwnLL EI EO B w v ls)
    (B' : Nat) (sv : Value) (ms : List (List Int)) (hx : a.eval x = sv) (hsv : OwnLL EI EO B' w sv ms) (hBB : B ≤ B') (hlen : ls.length + ms.length ≤ 5497558138879) (hB : B ≤ w.heap.size)
    (h : ∀ v' w', OwnLL EI EO B w' v' (ls ++ ms) → w.grownBy w' v.ownBlock → NearBy w v v' → K (a.put o.dst v') w') : o.wp P a w K Q := by
  obtain ⟨v', w', hrun, h2, h3, h4⟩ := run_appendLL (P := P) t o.type hT hE hne B v ls hown B' sv ms hsv hBB hlen hB
  unfold Oper.wp execOp
  simp only [ho, resolve, invoke, builtin, Sem.run_bind, Sem.run_pure, Result.andThen_ok, List.map_toArray, List.map_cons, List.map_nil, hs, hx, hrun]
  exact h v' w' h2 h3 h4
theorem wpList_appendLL {P : Program} {w : World} {EI EO : TypeId} {ops : Array Oper} {rest : List Oper} {o : Oper} {a : Act} {Q : Exit → Act → World → Prop} (hgd : o.guard = none) (s x : Operand) (t : TypeId)
    (ho : o.op = .call { callee := .builtin .append, args := #[s, x], argTypes := #[t, t] })
    (hT : P.underlying t = some (.slice EO)) (hE : SliceElem P EO) (hne : EI ≠ EO) (B : Nat) (v : Value) (ls : List (List Int)) (hs : a.eval s = v) (hown : OwnLL EI EO B w v ls)
    (B' : Nat) (sv : Value) (ms : List (List Int)) (hx : a.eval x = sv) (hsv : OwnLL EI EO B' w sv ms) (hBB : B ≤ B') (hlen : ls.length + ms.length ≤ 5497558138879) (hB : B ≤ w.heap.size)
    (h : ∀ v' w', OwnLL EI EO B w' v' (ls ++ ms) → w.grownBy w' v.ownBlock → NearBy w v v' → wpList P ops Q rest (a.put o.dst v') w') : wpList P ops Q (o :: rest) a w :=
  wpList_plain hgd fun _ hK => wp_appendLL s x t ho hT hE hne B v ls hs hown B' sv ms hx hsv hBB hlen hB fun v' w' h2 h3 h4 => hK _ _ (h v' w' h2 h3 h4)
end Go.G5
namespace Go.Proofs.YtelmokapdkepbaaGreatDoor
open Go.RowKit Go.G5

/-- the elements below N, each at most once -/
structure Dist (N : Nat) (o : List Int) : Prop where
  bd : ∀ x ∈ o, 0 ≤ x ∧ x < (N : Int)
  nd : o.Nodup
end Go.Proofs.YtelmokapdkepbaaGreatDoor
end
