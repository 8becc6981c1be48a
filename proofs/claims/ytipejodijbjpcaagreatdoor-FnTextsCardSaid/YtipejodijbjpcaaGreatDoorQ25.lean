/- Sums of products. The order of a vector's elements: the second program. The gains along an order: the second program. Orders and corners: the second program. Prices. Smallest covers, in plain words. Prices of a greedy cover: the sums, in plain words. Prices of a greedy cover: what is said of covers. Games: what the law asks, in plain lists. Games: supermodular functions, their corners and the core, in plain lists. -/
import Derived.Test.YtipejodijbjpcaaGreatDoorQ24
import Derived.Deep.RegionHeld3
import Derived.Deep.AppendLies
import Derived.Maps.AppendAt
import Derived.StillTailTactics
import Derived.IntWalk
section
namespace Go.Proofs.YtipejodijbjpcaaGreatDoor
open Go.RowKit Go.G5

def prodTo (x y : List Int) : Nat → Int
  | 0 => 0
  | k + 1 => prodTo x y k + x.getD k 0 * y.getD k 0
theorem mul_bd5 (p q : Int) (hp : -1000 ≤ p ∧ p ≤ 1000) (hq : -5000 ≤ q ∧ q ≤ 5000) : -5000000 ≤ p * q ∧ p * q ≤ 5000000 := by
  have h1 : (p * q).natAbs ≤ 1000 * 5000 := by
    rw [Int.natAbs_mul]
    exact Nat.mul_le_mul (by omega) (by omega)
  omega
theorem prodTo_bd5 (x y : List Int) (hl : y.length = x.length) (hx : ∀ k, (hk : k < x.length) → -1000 ≤ x[k] ∧ x[k] ≤ 1000) (hy : ∀ k, (hk : k < y.length) → -5000 ≤ y[k] ∧ y[k] ≤ 5000) : ∀ k, k ≤ x.length → -5000000 * (k : Int) ≤ prodTo x y k ∧ prodTo x y k ≤ 5000000 * (k : Int) := by
  intro k
  induction k with
  | zero => intro _; simp [prodTo]
  | succ k ih =>
    intro hk
    have h1 := ih (by omega)
    have h2 := mul_bd5 _ _ (hx k (by omega)) (hy k (by omega))
    rw [prodTo, getD_at x k (by omega), getD_at y k (by omega)]
    push_cast
    omega
set_option maxHeartbeats 1000000 in
theorem product_any5 (x y : List Int) (v u : Value) (w : World) (hv : Ints w v x) (hu : Ints w u y) (h5 : x.length ≤ 5) (hl : y.length = x.length) (hx : ∀ k, (hk : k < x.length) → -1000 ≤ x[k] ∧ x[k] ≤ 1000) (hy : ∀ k, (hk : k < y.length) → -5000 ≤ y[k] ∧ y[k] ≤ 5000) :
    Calls Tryz.prog 252 #[v, u] w fun e w' => e = .returned (.int .i64 (prodTo x y x.length)) ∧ Below w.heap.size w w' := by
  obtain ⟨a, b, off, c, rfl, hlen, hix, hc, hb⟩ := hv.view Tryz.prog 22 3 Tryz.underlying22 intElem
  obtain ⟨a', b', off', c', rfl, hlen', hix', hc', hb'⟩ := hu.view Tryz.prog 22 3 Tryz.underlying22 intElem
  have HB := Lib.hid (prodTo_bd5 x y hl hx hy)
  have HX := Lib.hid (And.intro hx hy)
  have HL := Lib.hid hl
  have hle : x.length ≤ y.length := by omega
  clear hx hy hl
  go_enter Tryz.func252, Tryz.ntmps252
  go_wp2_with fail
  go_loopw [5, 9] (fun sm i wr => ∃ k : Nat, k ≤ x.length ∧ i = .int .i64 k ∧ sm = .int .i64 (prodTo x y k) ∧ Below w.heap.size w wr) (fun _ i _ => x.length - (intOf i).toNat)
  case atStart => exact ⟨0, Nat.zero_le _, rfl, rfl, Below.refl _ _⟩
  case round =>
    obtain ⟨k, hk, rfl, rfl, B⟩ := hrel
    have hbd := HB.out k hk
    by_cases hlt : k < x.length
    · have hlt2 : (k : Int) < (x.length : Int) := by omega
      have ck := cells_below hc hb B (Nat.le_refl _) k hlt
      have ck' := cells_below hc' hb' B (Nat.le_refl _) k (by omega)
      have ik := fun W => hix W k hlt
      have ik' := fun W => hix' W k (by omega)
      have hm := mul_bd5 _ _ (HX.out.1 k hlt) (HX.out.2 k (by omega))
      have hs : prodTo x y (k + 1) = prodTo x y k + x[k] * y[k]'(by omega) := by rw [prodTo, getD_at x k hlt, getD_at y k (by omega)]
      obtain ⟨p, hp⟩ : ∃ p, p = x[k] := ⟨_, rfl⟩
      obtain ⟨q, hq⟩ : ∃ q, q = y[k]'(by omega) := ⟨_, rfl⟩
      obtain ⟨S, hS⟩ : ∃ S, S = prodTo x y k := ⟨_, rfl⟩
      rw [← hp] at ck hm hs
      rw [← hq] at ck' hm hs
      rw [← hS] at hbd hs ⊢
      have HS := Lib.hid hs
      clear hp hq hS hs hc hc' hix hix'
      go_wp2_with fail
      go_quiet (fail)
      go_wp2
      go_roundw
      case rel => exact ⟨k + 1, by omega, by go_num, by rw [HS.out], B.drewN' _⟩
      case measure => simp [intOf]; omega
    · have hlt2 : ¬ (k : Int) < (x.length : Int) := by omega
      have hkl : k = x.length := by omega
      have HK := Lib.hid hkl
      clear hkl
      go_wp2
      go_ret
      exact ⟨ret_int (by rw [← HK.out]), B⟩
end Go.Proofs.YtipejodijbjpcaaGreatDoor
end
section
namespace Go.Proofs.YtipejodijbjpcaaGreatDoor
open Go.RowKit Go.G5

end Go.Proofs.YtipejodijbjpcaaGreatDoor
end
section
namespace Go.Proofs.YtipejodijbjpcaaGreatDoor
open Go.RowKit Go.G5

theorem opt_fun {n : Int} {l x : List Int} (h : optB n l x = true) : x.length ≤ 5 ∧ n = (x.length : Int) ∧ l.length = 2 ^ x.length ∧ l.length ≤ 32 ∧ (∀ k, (hk : k < l.length) → -1000 ≤ l[k] ∧ l[k] ≤ 1000) ∧ (∀ y ∈ x, -1000 ≤ y ∧ y ≤ 1000) := by
  unfold optB vecB at h
  simp only [Bool.and_eq_true, decide_eq_true_eq] at h
  obtain ⟨⟨h1, _⟩, ⟨h2, h3⟩, h4⟩ := h
  obtain ⟨N, rfl, hN5, hl2, hl32, hlb⟩ := fun_nat (grOk h1)
  have : x.length = N := by omega
  unfold allIn at h3
  rw [List.all_eq_true] at h3
  exact ⟨h2, h4.symm, by rw [this]; exact hl2, hl32, hlb, fun y hy => inB_true.1 (h3 y hy)⟩
theorem cornerTo_bd (l o : List Int) (hl : l.length = 2 ^ o.length) (hlb : ∀ k, (hk : k < l.length) → -1000 ≤ l[k] ∧ l[k] ≤ 1000) (ho : ∀ x ∈ o, 0 ≤ x ∧ x < o.length) : ∀ k, k ≤ o.length → ∀ y ∈ cornerTo l o k, -2000 ≤ y ∧ y ≤ 2000 := by
  intro k
  induction k with
  | zero =>
    intro _ y hy
    rw [cornerTo] at hy
    have := List.eq_of_mem_replicate hy
    omega
  | succ k ih =>
    intro hk y hy
    rw [cornerTo] at hy
    rcases List.mem_or_eq_of_mem_set hy with hy | hy
    · exact ih (by omega) y hy
    · have hm := ho _ (List.getElem_mem (show k < o.length by omega))
      have hg : o.getD k 0 = o[k] := by rw [List.getD_eq_getElem?_getD, List.getElem?_eq_getElem (by omega)]; rfl
      have hp := prefS_lt o o.length k ho (by omega)
      rw [hg] at hy
      have hse := setBit_lt (prefS o k) o[k].toNat o.length hp (by omega)
      rw [hy]
      exact gainL_bd l _ _ (by omega) (by omega) hlb
end Go.Proofs.YtipejodijbjpcaaGreatDoor
end
section
namespace Go.G5
open Go Go.RowKit
theorem OwnLL.lit0 {EI EO : TypeId} {B : Nat} (w : World) (hB : B ≤ w.heap.size) : OwnLL EI EO B (w.alloc (.cells #[] EO)) (.slice (some ⟨w.heap.size, 0, none⟩) 0 0) [] :=
  ⟨[], World.ownsRow_lit w #[] 0 hB (Nat.zero_le _) rfl, by simp⟩
theorem OwnLL.alloc {EI EO : TypeId} {B : Nat} {w : World} {v : Value} {ls : List (List Int)} (h : OwnLL EI EO B w v ls) (o : Obj) : OwnLL EI EO B (w.alloc o) v ls := h.keep (bl1 w o)
theorem OwnLL.one {EI EO : TypeId} {B : Nat} {w : World} {v : Value} {l : List Int} (h : OwnI EI B w v l) (hB : B ≤ w.heap.size) : OwnLL EI EO B (w.alloc (.cells #[v] EO)) (.slice (some ⟨w.heap.size, 0, none⟩) 1 1) [l] := by
  refine ⟨[v], World.ownsRow_lit w #[v] 1 hB (by decide) rfl, ?_⟩
  intro k u hu
  cases k with
  | zero => simp only [List.getElem?_cons_zero, Option.some.injEq] at hu; subst hu; exact ⟨l, rfl, h.alloc _⟩
  | succ k => simp at hu
theorem run_appendLL {P : Program} {w : World} {EI EO : TypeId} (T ty : TypeId) (hT : P.underlying T = some (.slice EO)) (hE : SliceElem P EO) (hne : EI ≠ EO) (B : Nat) (v : Value) (ls : List (List Int)) (hown : OwnLL EI EO B w v ls)
    (B' : Nat) (sv : Value) (ms : List (List Int)) (hs : OwnLL EI EO B' w sv ms) (hBB : B ≤ B') (hlen : ls.length + ms.length ≤ 5497558138879) (hB : B ≤ w.heap.size) :
    ∃ v' w', (Builtin.append_ #[T, T] ty #[v, sv]).run P w = .ok v' w' ∧ OwnLL EI EO B w' v' (ls ++ ms) ∧ w.grownBy w' v.ownBlock ∧ NearBy w v v' := by
  obtain ⟨i, hi, hz, h1, h8⟩ := hE.get
  obtain ⟨vs, ho1, ho2⟩ := hown
  obtain ⟨us, hs1, hs2⟩ := hs
  have hso0 := hs1
  have hul := hs1.1
  rcases hs1.2 with ⟨rfl, hn0⟩ | ⟨g, cap, cur, rfl, hBg, hg, hmc, hmm, hcs, ht⟩
  · have : ms = [] := List.eq_nil_of_length_eq_zero hn0
    subst this
    refine ⟨v, w, ?_, by rw [List.append_nil]; exact ⟨vs, ho1, ho2⟩, World.grownBy.refl w _, .inl rfl⟩
    rcases ho1.2 with ⟨rfl, hn⟩ | ⟨g, cap, cur, rfl, _, _, hnc, _⟩
    · simp [Builtin.append_, run_underlying hT, sizeOf, typeInfo, hi, Builtin.lenOf, Builtin.firstCells]
    · simp [Builtin.append_, run_underlying hT, sizeOf, typeInfo, hi, Builtin.lenOf, Builtin.firstCells, hnc, storeCells]
  · have hone : ∀ u ∈ us, u.oneCell' = true := by
      intro u hu
      obtain ⟨j, hj, rfl⟩ := List.getElem_of_mem hu
      obtain ⟨l, _, h4⟩ := hs2 j us[j] (List.getElem?_eq_getElem hj)
      obtain ⟨a', n', c', e⟩ := h4.shape3
      rw [e]; rfl
    obtain ⟨v', w', hrun, h2, h3, _, h5⟩ := run_append_own_at (P := P) w B T ty EO i (.slice none 0 0) 1 24 hT hi hz h1 h8 rfl (by decide) v ls.length vs ho1 ⟨g, 0, none⟩ ms.length cap us (by omega)
      (by
        intro j u hj
        have hjl : j < us.length := by
          rcases Nat.lt_or_ge j us.length with h | h
          · exact h
          · rw [List.getElem?_eq_none h] at hj; cases hj
        have e : (⟨g, 0, none⟩ : Addr).add j = ⟨g, j, none⟩ := by
          unfold Addr.add; split
          · rename_i h0; rw [h0]
          · simp
        rw [e, hso0.cellAt j (by omega)]
        exact hj)
      hone (by unfold maxLen; omega) (by omega) hB
    refine ⟨v', w', hrun, ⟨vs ++ us, by rw [List.length_append]; exact h2, fun k q hq => ?_⟩, h3, h5⟩
    have hl := ho1.1
    by_cases hk : k < vs.length
    · rw [List.getElem?_append_left hk] at hq
      obtain ⟨l', h3', h4⟩ := ho2 k q hq
      exact ⟨l', by rw [List.getElem?_append_left (by omega)]; exact h3', h4.grow h3 (own_ne h4.1 ho1 hne)⟩
    · rw [List.getElem?_append_right (by omega)] at hq
      obtain ⟨l', h3', h4⟩ := hs2 _ q hq
      exact ⟨l', by rw [List.getElem?_append_right (by omega), show k - ls.length = k - vs.length by omega]; exact h3', (h4.grow h3 (own_ne h4.1 ho1 hne)).mono hBB⟩
theorem wp_appendLL {P : Program} {w : World} {EI EO : TypeId} {o : Oper} {a : Act} {K : Act → World → Prop} {Q : Exit → Act → World → Prop} (s x : Operand) (t : TypeId)
    (ho : o.op = .call { callee := .builtin .append, args := #[s, x], argTypes := #[t, t] })
    (hT : P.underlying t = some (.slice EO)) (hE : SliceElem P EO) (hne : EI ≠ EO) (B : Nat) (v : Value) (ls : List (List Int)) (hs : a.eval s = v) (hown : OwnLL EI EO B w v ls)
    (B' : Nat) (sv : Value) (ms : List (List Int)) (hx : a.eval x = sv) (hsv : OwnLL EI EO B' w sv ms) (hBB : B ≤ B') (hlen : ls.length + ms.length ≤ 5497558138879) (hB : B ≤ w.heap.size)
    (h : ∀ v' w', OwnLL EI EO B w' v' (ls ++ ms) → w.grownBy w' v.ownBlock → NearBy w v v' → K (a.put o.dst v') w') : o.wp P a w K Q := by
  obtain ⟨v', w', hrun, h2, h3, h4⟩ := run_appendLL (P := P) t o.type hT hE hne B v ls hown B' sv ms hsv hBB hlen hB
  unfold Oper.wp execOp
  simp only [ho, resolve, invoke, builtin, Sem.run_bind, Sem.run_pure, Result.andThen_ok, List.map_toArray, List.map_cons, List.map_nil, hs, hx, hrun]
  exact h v' w' h2 h3 h4
theorem wpList_appendLL {P : Program} {w : World} {EI EO : TypeId} {ops : Array Oper} {rest : List Oper} {o : Oper} {a : Act} {Q : Exit → Act → World → Prop} (hgd : o.guard = none) (s x : Operand) (t : TypeId)
    (ho : o.op = .call { callee := .builtin .append, args := #[s, x], argTypes := #[t, t] })
    (hT : P.underlying t = some (.slice EO)) (hE : SliceElem P EO) (hne : EI ≠ EO) (B : Nat) (v : Value) (ls : List (List Int)) (hs : a.eval s = v) (hown : OwnLL EI EO B w v ls)
    (B' : Nat) (sv : Value) (ms : List (List Int)) (hx : a.eval x = sv) (hsv : OwnLL EI EO B' w sv ms) (hBB : B ≤ B') (hlen : ls.length + ms.length ≤ 5497558138879) (hB : B ≤ w.heap.size)
    (h : ∀ v' w', OwnLL EI EO B w' v' (ls ++ ms) → w.grownBy w' v.ownBlock → NearBy w v v' → wpList P ops Q rest (a.put o.dst v') w') : wpList P ops Q (o :: rest) a w :=
  wpList_plain hgd fun _ hK => wp_appendLL s x t ho hT hE hne B v ls hs hown B' sv ms hx hsv hBB hlen hB fun v' w' h2 h3 h4 => hK _ _ (h v' w' h2 h3 h4)
end Go.G5
namespace Go.Proofs.YtipejodijbjpcaaGreatDoor
open Go.RowKit Go.G5

/-- the elements below N, each at most once -/
structure Dist (N : Nat) (o : List Int) : Prop where
  bd : ∀ x ∈ o, 0 ≤ x ∧ x < (N : Int)
  nd : o.Nodup
end Go.Proofs.YtipejodijbjpcaaGreatDoor
end
section
namespace Go.Proofs.YtipejodijbjpcaaGreatDoor
open Go.RowKit Go.G5

/-- the elements of x below the k-th get the price p -/
def prS (o x : List Int) (p : Int) : Nat → List Int
  | 0 => o
  | k + 1 => (prS o x p k).set (x.getD k 0).toNat p
def prTo (g : Nat) (L : List Int) : Nat → List Int × Int
  | 0 => (List.replicate g 0, 2 ^ g - 1)
  | j + 1 => (prS (prTo g L j).1 (elL (iand (L.getD j 0) (prTo g L j).2)) (60 / ipop (iand (L.getD j 0) (prTo g L j).2)) (elL (iand (L.getD j 0) (prTo g L j).2)).length, idif (prTo g L j).2 (L.getD j 0))
def pricesL (g : Int) (l : List Int) : List Int := if greedyB g l then (prTo g.toNat (greedyL g l) (greedyL g l).length).1 else []
end Go.Proofs.YtipejodijbjpcaaGreatDoor
end
section
namespace Go.Proofs.YtipejodijbjpcaaGreatDoor
open Go.RowKit Go.G5

/-- the same, where a set that adds nothing is passed by -/
def covS : List Int → Nat → Int → Option (List Int)
  | [], _, left => if left = 0 then some [] else none
  | _ :: _, 0, left => if left = 0 then some [] else none
  | s :: t, k + 1, left => if left = 0 then some [] else
      if iand s left = 0 then covS t (k + 1) left else
      match covS t k (idif left s) with
      | some x => some (s :: x)
      | none => covS t (k + 1) left
/-- the first of the numbers from k on at which something is found -/
def firstK (f : Nat → Option (List Int)) : Nat → Nat → Option (List Int)
  | _, 0 => none
  | k, n + 1 => match f k with
    | some x => some x
    | none => firstK f (k + 1) n
def smallOf (g : Int) (l : List Int) : Option (List Int) := if isFamB g l then firstK (fun k => covS l k (2 ^ g.toNat - 1)) 0 (g.toNat + 1) else none
def smallL (g : Int) (l : List Int) : List Int := (smallOf g l).getD []
def smallB (g : Int) (l : List Int) : Bool := (smallOf g l).isSome
end Go.Proofs.YtipejodijbjpcaaGreatDoor
end
section
namespace Go.Proofs.YtipejodijbjpcaaGreatDoor
open Go.RowKit Go.G5

/-! bits -/
def b2 (b : Bool) : Int := if b then 1 else 0
theorem nbit_tb (y e : Nat) : nbit y e = y.testBit e := by
  unfold nbit Nat.testBit
  rw [Nat.shiftRight_eq_div_pow, Nat.one_and_eq_mod_two]
  rcases Nat.mod_two_eq_zero_or_one (y / 2 ^ e) with h | h <;> rw [h] <;> rfl
/-! what a set pays -/
def cellE (p : List Int) (s e : Nat) : Int := if nbit s e then p.getD e 0 else 0
def wtE (p : List Int) (s : Nat) : Int := cellE p s 0 + cellE p s 1 + cellE p s 2 + cellE p s 3 + cellE p s 4 + cellE p s 5
/-- how prices stand when j sets are taken -/
structure PrInv (g : Nat) (l L : List Int) (j : Nat) (p : List Int) (left : Int) : Prop where
  run : greedyRun l (64 - j) left = some (L.drop j)
  bd : 0 ≤ left ∧ left < 2 ^ g
  len : p.length = g
  zero : ∀ e, e < 6 → nbit left.toNat e = true → p.getD e 0 = 0
  pos : ∀ e, 0 ≤ p.getD e 0
  top : ∀ e, p.getD e 0 ≤ 60
  tot : wtE p (2 ^ g - 1) = 60 * j
  pay : ∀ s ∈ l, wtE p s.toNat ≤ harm (pop s.toNat) - harm (pop (s.toNat &&& left.toNat))
end Go.Proofs.YtipejodijbjpcaaGreatDoor
end
section
namespace Go.Proofs.YtipejodijbjpcaaGreatDoor
open Go.RowKit Go.G5

structure PriceFacts (g : Int) (l : List Int) : Prop where
  same : smallB g l = greedyB g l
  greedy : greedyB g l = true → isCoverB g l (greedyL g l) = true
  small : greedyB g l = true → isCoverB g l (smallL g l) = true
  less : greedyB g l = true → (smallL g l).length ≤ (greedyL g l).length
/-! the sums -/
def sumI (l : List Int) : Int := l.foldl (· + ·) 0
structure PriceSums (g : Int) (l : List Int) : Prop where
  total : sumI (pricesL g l) = 60 * (greedyL g l).length
  pays : ∀ s ∈ l, wtE (pricesL g l) s.toNat ≤ harm (pop s.toNat)
  bound : 60 * ((greedyL g l).length : Int) ≤ harm (largestOf g l).toNat * (smallL g l).length
  size : 0 ≤ largestOf g l ∧ largestOf g l ≤ 6
  pos : ∀ e, 0 ≤ (pricesL g l).getD e 0
  top : ∀ e, (pricesL g l).getD e 0 ≤ 60
  len : (pricesL g l).length = g.toNat
end Go.Proofs.YtipejodijbjpcaaGreatDoor
end
section
namespace Go.Proofs.YtipejodijbjpcaaGreatDoor
open Go.RowKit Go.G5

end Go.Proofs.YtipejodijbjpcaaGreatDoor
end
section
namespace Go.Proofs.YtipejodijbjpcaaGreatDoor
open Go.RowKit Go.G5

/-! violations -/
theorem run_none (l : List Int) : ∀ T : List Tri, (∀ t ∈ T, badB l t = false) → (runT (vstep l) T none) = (none, true) := by
  intro T
  induction T with
  | nil => intro _; rfl
  | cons t T ih =>
    intro h
    have e : vstep l none t = (none, true) := by unfold vstep; rw [h t (by simp)]; rfl
    rw [runT, e, if_pos rfl]
    exact ih (fun u hu => h u (by simp [hu]))
theorem run_all (l : List Int) : ∀ T : List Tri, (runT (vstep l) T none).1 = none → ∀ t ∈ T, badB l t = false := by
  intro T
  induction T with
  | nil => intro _ t ht; cases ht
  | cons u T ih =>
    intro h t ht
    by_cases hb : badB l u = true
    · have e : vstep l none u = (some u, false) := by unfold vstep; rw [if_pos hb]
      rw [runT, e] at h
      simp at h
    · have e : vstep l none u = (none, true) := by unfold vstep; rw [if_neg hb]; rfl
      rw [runT, e, if_pos rfl] at h
      rcases List.mem_cons.1 ht with rfl | ht
      · simpa using hb
      · exact ih h t ht
theorem tri_all (n N s i k : Nat) (hs : s < N) (hik : i < k) (hk : k < n) (h1 : nbit s i = false) (h2 : nbit s k = false) : (s, i, k) ∈ tri3 n N := by
  obtain ⟨r, hr⟩ := tri_front n N s i (k + 1) hs (by omega) (by omega)
  rw [hr]
  refine List.mem_append_left _ (List.mem_append_right _ ?_)
  rw [tri, h1, h2, decide_eq_true hik]
  simp
theorem tri_bits (s i k : Nat) : ∀ t ∈ tri s i k, nbit t.1 t.2.1 = false ∧ nbit t.1 t.2.2 = false := by
  induction k with
  | zero => intro t h; cases h
  | succ k ih =>
    intro t h
    rw [tri, List.mem_append] at h
    rcases h with h | h
    · exact ih t h
    · split at h
      · rename_i hc
        rw [List.mem_singleton] at h
        simp only [Bool.and_eq_true, Bool.not_eq_true'] at hc
        subst h
        exact ⟨hc.2.1, hc.2.2⟩
      · cases h
theorem tri2_bits (n s i : Nat) : ∀ t ∈ tri2 n s i, nbit t.1 t.2.1 = false ∧ nbit t.1 t.2.2 = false := by
  induction i with
  | zero => intro t h; cases h
  | succ i ih =>
    intro t h
    rw [tri2, List.mem_append] at h
    rcases h with h | h
    · exact ih t h
    · exact tri_bits s i n t h
theorem tri3_bits (n s : Nat) : ∀ t ∈ tri3 n s, nbit t.1 t.2.1 = false ∧ nbit t.1 t.2.2 = false := by
  induction s with
  | zero => intro t h; cases h
  | succ s ih =>
    intro t h
    rw [tri3, List.mem_append] at h
    rcases h with h | h
    · exact ih t h
    · exact tri2_bits n s n t h
/-- submodular in plain words -/
theorem sub_iff (N : Nat) (l : List Int) (hf : isFunB N l = true) : subB N l = true ↔ ∀ s i k : Nat, s < 2 ^ N → i < k → k < N → nbit s i = false → nbit s k = false → exL l s i k ≤ 0 := by
  have hv : violR (N : Int) l = violT N l := by unfold violR; rw [hf, if_pos rfl, Int.toNat_natCast]
  constructor
  · intro h s i k hs hik hk h1 h2
    have hn : violT N l = none := by
      unfold subB violB at h
      rw [hf, hv, Bool.true_and, Bool.not_eq_true'] at h
      cases hq : violT N l with
      | none => rfl
      | some t => rw [hq] at h; cases h
    have := run_all l _ hn (s, i, k) (tri_all N (2 ^ N) s i k hs hik hk h1 h2)
    unfold badB at this
    have := of_decide_eq_false this
    dsimp only at this
    omega
  · intro h
    have hn : violT N l = none := by
      unfold violT
      rw [run_none l _ (fun t ht => by
        obtain ⟨h1, h2, h3⟩ := tri3_mem N (2 ^ N) t ht
        have hb := tri3_bits N (2 ^ N) t ht
        unfold badB
        exact decide_eq_false (by have := h t.1 t.2.1 t.2.2 h1 h2 h3 hb.1 hb.2; omega))]
    unfold subB violB
    rw [hf, hv, hn]; rfl

theorem negL_getD (l : List Int) (s : Nat) : (negL l).getD s 0 = -(l.getD s 0) := by
  by_cases h : s < l.length
  · rw [getD_at (negL l) s (by rw [negL_len]; exact h), negL_at l s h, getD_at l s h]
  · rw [List.getD_eq_getElem?_getD, List.getElem?_eq_none (by rw [negL_len]; omega), List.getD_eq_getElem?_getD, List.getElem?_eq_none (by omega)]; rfl
theorem exL_neg (l : List Int) (s i k : Nat) : exL (negL l) s i k = - exL l s i k := by
  unfold exL
  simp only [negL_getD]; omega
theorem sup_iff (N : Nat) (l : List Int) (hf : isFunB N l = true) : supB N l = true ↔ ∀ s i k : Nat, s < 2 ^ N → i < k → k < N → nbit s i = false → nbit s k = false → 0 ≤ exL l s i k := by
  unfold supB
  rw [hf, Bool.true_and, sub_iff N (negL l) (neg_fun _ _ hf)]
  constructor
  · intro h s i k h1 h2 h3 h4 h5
    have := h s i k h1 h2 h3 h4 h5
    rw [exL_neg] at this; omega
  · intro h s i k h1 h2 h3 h4 h5
    have := h s i k h1 h2 h3 h4 h5
    rw [exL_neg]; omega
/-! gains grow -/
theorem tb_setBit (s e j : Nat) : (setBit s e).testBit j = (s.testBit j || decide (e = j)) := by
  unfold setBit
  rw [Nat.testBit_or, Nat.testBit_two_pow]
theorem ex_gain (l : List Int) (s i k : Nat) : exL l s i k = gainL l (setBit s i) k - gainL l s k := by
  unfold exL gainL
  rw [setBit_or]; omega
theorem exL_comm (l : List Int) (s i k : Nat) : exL l s i k = exL l s k i := by
  unfold exL
  rw [Nat.or_comm (setBit s i)]; omega
theorem gain_mono (N : Nat) (l : List Int) (h : ∀ s i k : Nat, s < 2 ^ N → i < k → k < N → nbit s i = false → nbit s k = false → 0 ≤ exL l s i k)
    (A B e : Nat) (hB : B < 2 ^ N) (he : e < N) (hAB : ∀ j, A.testBit j = true → B.testBit j = true) (hBe : B.testBit e = false) : gainL l A e ≤ gainL l B e := by
  have h' : ∀ s i k : Nat, s < 2 ^ N → i ≠ k → i < N → k < N → s.testBit i = false → s.testBit k = false → 0 ≤ exL l s i k := by
    intro s i k h1 h2 h3 h4 h5 h6
    rw [← nbit_tb] at h5 h6
    rcases Nat.lt_or_gt_of_ne h2 with h7 | h7
    · exact h s i k h1 h7 h4 h5 h6
    · rw [exL_comm]; exact h s k i h1 h7 h3 h6 h5
  have step : ∀ j, gainL l A e ≤ gainL l (A ||| B % 2 ^ j) e := by
    intro j
    induction j with
    | zero => simp [Nat.mod_one]
    | succ j ih =>
      by_cases hb : B.testBit j = true ∧ A.testBit j = false
      · have hset : A ||| B % 2 ^ (j + 1) = setBit (A ||| B % 2 ^ j) j := by
          apply Nat.eq_of_testBit_eq
          intro i
          rw [tb_setBit, Nat.testBit_or, Nat.testBit_or, Nat.testBit_mod_two_pow, Nat.testBit_mod_two_pow]
          by_cases hij : j = i
          · subst hij; simp [hb.1]
          · rw [decide_eq_false hij, Bool.or_false]
            congr 2
            exact decide_eq_decide.2 ⟨fun q => by omega, fun q => by omega⟩
        have hjN : j < N := by
          rcases Nat.lt_or_ge j N with q | q
          · exact q
          · have := Nat.testBit_lt_two_pow (x := B) (i := j) (Nat.lt_of_lt_of_le hB (Nat.pow_le_pow_right (by decide) q))
            rw [this] at hb; cases hb.1
        have hlt : A ||| B % 2 ^ j < 2 ^ N := by
          apply Nat.lt_pow_two_of_testBit
          intro i hi
          have hBi := Nat.testBit_lt_two_pow (x := B) (i := i) (Nat.lt_of_lt_of_le hB (Nat.pow_le_pow_right (by decide) hi))
          rw [Nat.testBit_or, Nat.testBit_mod_two_pow, hBi]
          cases hA : A.testBit i with
          | false => simp
          | true => rw [hAB i hA] at hBi; cases hBi
        have hje : j ≠ e := by intro q; rw [q, hBe] at hb; cases hb.1
        have h1 : (A ||| B % 2 ^ j).testBit j = false := by rw [Nat.testBit_or, Nat.testBit_mod_two_pow, hb.2]; simp
        have h2 : (A ||| B % 2 ^ j).testBit e = false := by
          rw [Nat.testBit_or, Nat.testBit_mod_two_pow, hBe]
          cases hA : A.testBit e with
          | false => simp
          | true => rw [hAB e hA] at hBe; cases hBe
        have := h' _ j e hlt hje hjN he h1 h2
        rw [ex_gain] at this
        rw [hset]; omega
      · have hset : A ||| B % 2 ^ (j + 1) = A ||| B % 2 ^ j := by
          apply Nat.eq_of_testBit_eq
          intro i
          rw [Nat.testBit_or, Nat.testBit_or, Nat.testBit_mod_two_pow, Nat.testBit_mod_two_pow]
          by_cases hij : j = i
          · subst hij
            cases hA : A.testBit j with
            | true => simp
            | false =>
              cases hBj : B.testBit j with
              | false => simp
              | true => exact absurd ⟨hBj, hA⟩ hb
          · congr 2
            exact decide_eq_decide.2 ⟨fun q => by omega, fun q => by omega⟩
        rw [hset]; exact ih
  have hend : A ||| B % 2 ^ N = B := by
    rw [Nat.mod_eq_of_lt hB]
    apply Nat.eq_of_testBit_eq
    intro i
    rw [Nat.testBit_or]
    cases hA : A.testBit i with
    | false => simp
    | true => rw [hAB i hA]; rfl
  have := step N
  rw [hend] at this
  exact this

theorem pop_set : ∀ s : Nat, s < 32 → ∀ e : Nat, e < 5 → s.testBit e = false → pop (setBit s e) = pop s + 1 := by decide +kernel
theorem full_of_pop : ∀ N : Nat, N < 6 → ∀ s : Nat, s < 2 ^ N → pop s = N → s = 2 ^ N - 1 := by decide +kernel
/-! weights of corners -/
theorem wtTo_set (x : List Int) (s : Int) (e : Nat) (y : Int) (he : e < x.length) : ∀ k, k ≤ x.length → wtTo (x.set e y) s k = wtTo x s k + (if e < k ∧ ibit s e = 1 then y - x.getD e 0 else 0) := by
  intro k
  induction k with
  | zero => intro _; simp [wtTo]
  | succ k ih =>
    intro hk
    have h1 := ih (by omega)
    rw [wtTo, wtTo, h1]
    by_cases hek : e = k
    · subst hek
      rw [if_neg (show ¬ (e < e ∧ ibit s e = 1) by omega)]
      have hg : (x.set e y).getD e 0 = y := by rw [getD_at _ e (by rw [List.length_set]; exact he), List.getElem_set_self]
      rw [hg]
      by_cases hb : ibit s e = 1
      · rw [if_pos hb, if_pos hb, if_pos ⟨by omega, hb⟩]; omega
      · rw [if_neg hb, if_neg hb, if_neg (fun q => hb q.2)]
    · have hg : (x.set e y).getD k 0 = x.getD k 0 := by rw [getD_at _ k (by rw [List.length_set]; omega), getD_at _ k (by omega), List.getElem_set_ne hek]
      rw [hg]
      have hc : (e < k + 1 ∧ ibit s e = 1) ↔ (e < k ∧ ibit s e = 1) := ⟨fun q => ⟨by omega, q.2⟩, fun q => ⟨by omega, q.2⟩⟩
      by_cases hc2 : e < k ∧ ibit s e = 1
      · rw [if_pos hc2, if_pos (hc.2 hc2)]; split <;> omega
      · rw [if_neg hc2, if_neg (fun q => hc2 (hc.1 q))]; split <;> omega
theorem ibit_nbit (s e : Nat) : ibit (s : Int) e = 1 ↔ s.testBit e = true := by
  rw [← nbit_tb, ← nbit_is, beq_iff_eq]
theorem pref_bit (o : List Int) (h : ∀ x ∈ o, 0 ≤ x) (e : Nat) : ∀ k, k ≤ o.length → (prefS o k).testBit e = decide ((e : Int) ∈ o.take k) := by
  intro k
  induction k with
  | zero => intro _; simp [prefS]
  | succ k ih =>
    intro hk
    have hkl : k < o.length := by omega
    have hx := h _ (List.getElem_mem hkl)
    rw [prefS, tb_setBit, ih (by omega), getD_at o k hkl, List.take_succ_eq_append_getElem hkl]
    simp only [List.mem_append, List.mem_singleton, Bool.decide_or]
    congr 1
    exact decide_eq_decide.2 ⟨fun q => by omega, fun q => by omega⟩
theorem corner_zero (l o : List Int) (e : Nat) (h : ∀ x ∈ o, 0 ≤ x) : ∀ k, k ≤ o.length → (e : Int) ∉ o.take k → (cornerTo l o k).getD e 0 = 0 := by
  intro k
  induction k with
  | zero =>
    intro _ _
    rw [cornerTo, List.getD_eq_getElem?_getD]
    by_cases he : e < o.length
    · rw [List.getElem?_eq_getElem (by simpa using he)]; simp
    · rw [List.getElem?_eq_none (by simp; omega)]; rfl
  | succ k ih =>
    intro hk hn
    have hkl : k < o.length := by omega
    have hx := h _ (List.getElem_mem hkl)
    rw [List.take_succ_eq_append_getElem hkl] at hn
    simp only [List.mem_append, List.mem_singleton, not_or] at hn
    have h1 := ih (by omega) hn.1
    rw [cornerTo, getD_at o k hkl]
    have hne : o[k].toNat ≠ e := by intro q; apply hn.2; omega
    rw [List.getD_eq_getElem?_getD, List.getElem?_set_ne hne, ← List.getD_eq_getElem?_getD]
    exact h1
/-- the order is one of all elements below N -/
structure Perm (N : Nat) (o : List Int) : Prop where
  len : o.length = N
  d : Dist N o
theorem Perm.nn {N : Nat} {o : List Int} (h : Perm N o) : ∀ x ∈ o, 0 ≤ x := fun x hx => (h.d.bd x hx).1
theorem Perm.fresh {N : Nat} {o : List Int} (h : Perm N o) (k : Nat) (hk : k < o.length) : o[k] ∉ o.take k := by
  intro hm
  have := h.d.nd
  have e : o = o.take k ++ (o[k] :: o.drop (k + 1)) := by rw [← List.drop_eq_getElem_cons hk, List.take_append_drop]
  rw [e] at this
  have h2 := (List.nodup_append.1 this).2.2
  exact h2 _ hm _ List.mem_cons_self rfl
theorem corner_step {N : Nat} {o : List Int} (h : Perm N o) (l : List Int) (s k : Nat) (hk : k < N) :
    ∃ e : Nat, e < N ∧ (prefS o k).testBit e = false ∧ prefS o (k + 1) = setBit (prefS o k) e ∧ wt (cornerTo l o (k + 1)) s = wt (cornerTo l o k) s + (if s.testBit e = true then gainL l (prefS o k) e else 0) := by
  have hkl : k < o.length := by rw [h.len]; exact hk
  have hb := h.d.bd _ (List.getElem_mem hkl)
  have hf := h.fresh k hkl
  have he : ((o[k].toNat : Nat) : Int) = o[k] := by omega
  have hz := corner_zero l o o[k].toNat h.nn k (by omega) (by rw [he]; exact hf)
  refine ⟨o[k].toNat, by omega, ?_, ?_, ?_⟩
  · rw [pref_bit o h.nn _ k (by omega), he]; exact decide_eq_false hf
  · rw [prefS, getD_at o k hkl]
  · unfold wt
    rw [cornerTo, getD_at o k hkl, List.length_set, wtTo_set _ _ _ _ (by rw [cornerTo_len, h.len]; omega) _ (Nat.le_refl _), hz, cornerTo_len, h.len]
    congr 1
    by_cases hs : s.testBit o[k].toNat = true
    · rw [if_pos hs, if_pos ⟨by omega, (ibit_nbit _ _).2 hs⟩]; omega
    · rw [if_neg hs, if_neg (fun q => hs ((ibit_nbit _ _).1 q.2))]
theorem corner_start (l : List Int) (o : List Int) (s : Int) : wt (cornerTo l o 0) s = 0 := by
  unfold wt
  rw [cornerTo]
  have : ∀ n k, k ≤ n → wtTo (List.replicate n (0 : Int)) s k = 0 := by
    intro n k
    induction k with
    | zero => intro _; rfl
    | succ k ih =>
      intro hk
      rw [wtTo, ih (by omega), getD_at _ k (by simp; omega)]
      simp
  exact this _ _ (by simp)
theorem pref_lt {N : Nat} {o : List Int} (h : Perm N o) (k : Nat) (hk : k ≤ N) : prefS o k < 2 ^ N := prefS_lt o N k h.d.bd (by rw [h.len]; exact hk)
theorem and_setBit (s P e : Nat) : s &&& setBit P e = if s.testBit e = true then setBit (s &&& P) e else s &&& P := by
  apply Nat.eq_of_testBit_eq
  intro j
  split
  · rename_i h
    rw [Nat.testBit_and, tb_setBit, tb_setBit, Nat.testBit_and]
    by_cases hj : e = j
    · subst hj; simp [h]
    · rw [decide_eq_false hj]; simp
  · rename_i h
    rw [Nat.testBit_and, tb_setBit, Nat.testBit_and]
    by_cases hj : e = j
    · subst hj; simp [h]
    · rw [decide_eq_false hj]; simp
theorem corner_ge {N : Nat} {o : List Int} (h : Perm N o) (l : List Int) (hs : ∀ s i k : Nat, s < 2 ^ N → i < k → k < N → nbit s i = false → nbit s k = false → 0 ≤ exL l s i k) (s : Nat) :
    ∀ k, k ≤ N → l.getD (s &&& prefS o k) 0 - l.getD 0 0 ≤ wt (cornerTo l o k) s := by
  intro k
  induction k with
  | zero => intro _; rw [corner_start]; simp [prefS]
  | succ k ih =>
    intro hk
    have h1 := ih (by omega)
    obtain ⟨e, he, hp, hps, hw⟩ := corner_step h l s k (by omega)
    rw [hw, hps, and_setBit]
    by_cases hb : s.testBit e = true
    · rw [if_pos hb, if_pos hb]
      have := gain_mono N l hs (s &&& prefS o k) (prefS o k) e (pref_lt h k (by omega)) he (fun j hj => by rw [Nat.testBit_and, Bool.and_eq_true] at hj; exact hj.2) hp
      have hg : l.getD (setBit (s &&& prefS o k) e) 0 = gainL l (s &&& prefS o k) e + l.getD (s &&& prefS o k) 0 := by unfold gainL; omega
      rw [hg]; omega
    · rw [if_neg hb, if_neg hb]; omega
theorem corner_eq {N : Nat} {o : List Int} (h : Perm N o) (l : List Int) : ∀ k, k ≤ N → wt (cornerTo l o k) ((2 ^ N - 1 : Nat) : Int) = l.getD (prefS o k) 0 - l.getD 0 0 := by
  intro k
  induction k with
  | zero => intro _; rw [corner_start]; simp [prefS]
  | succ k ih =>
    intro hk
    have h1 := ih (by omega)
    obtain ⟨e, he, hp, hps, hw⟩ := corner_step h l (2 ^ N - 1) k (by omega)
    have hb : (2 ^ N - 1).testBit e = true := by rw [Nat.testBit_two_pow_sub_one]; exact decide_eq_true he
    rw [hw, h1, if_pos hb, hps]
    unfold gainL; omega
theorem pref_full {N : Nat} {o : List Int} (h : Perm N o) (hN : N ≤ 5) : prefS o N = 2 ^ N - 1 := by
  have hpop : ∀ k, k ≤ N → pop (prefS o k) = k := by
    intro k
    induction k with
    | zero => intro _; exact pop_zero
    | succ k ih =>
      intro hk
      obtain ⟨e, he, hp, hps, _⟩ := corner_step h [] 0 k (by omega)
      rw [hps]
      have hl := pref_lt h k (by omega)
      have h32 : (2 : Nat) ^ N ≤ 32 := Nat.pow_le_pow_right (n := 2) (by decide) hN
      have := pop_set (prefS o k) (by omega) e (by omega) hp
      rw [this, ih (by omega)]
  have h1 := hpop N (Nat.le_refl _)
  have hl := pref_lt h N (Nat.le_refl _)
  exact full_of_pop N (by omega) _ hl h1
end Go.Proofs.YtipejodijbjpcaaGreatDoor
end
