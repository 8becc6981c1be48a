/- Sums of products. The order of a vector's elements: the second program. The gains along an order: the second program. Orders and corners: the second program. Prices of a greedy cover: the sums, in plain words. -/
import Derived.Test.YtpaoiiiceekkkaaGreatDoorQ33
import Derived.Deep.RegionHeld3
import Derived.Deep.AppendLies
import Derived.Maps.AppendAt
section
namespace Go.Proofs.YtpaoiiiceekkkaaGreatDoor
open Go.RowKit Go.G5

def prodTo (x y : List Int) : Nat → Int
  | 0 => 0
  | k + 1 => prodTo x y k + x.getD k 0 * y.getD k 0
theorem mul_bd (p q : Int) (hp : -1000 ≤ p ∧ p ≤ 1000) (hq : -2000 ≤ q ∧ q ≤ 2000) : -2000000 ≤ p * q ∧ p * q ≤ 2000000 := by
  have h1 : (p * q).natAbs ≤ 1000 * 2000 := by
    rw [Int.natAbs_mul]
    exact Nat.mul_le_mul (by omega) (by omega)
  omega
theorem prodTo_bd (x y : List Int) (hl : y.length = x.length) (hx : ∀ k, (hk : k < x.length) → -1000 ≤ x[k] ∧ x[k] ≤ 1000) (hy : ∀ k, (hk : k < y.length) → -2000 ≤ y[k] ∧ y[k] ≤ 2000) : ∀ k, k ≤ x.length → -2000000 * (k : Int) ≤ prodTo x y k ∧ prodTo x y k ≤ 2000000 * (k : Int) := by
  intro k
  induction k with
  | zero => intro _; simp [prodTo]
  | succ k ih =>
    intro hk
    have h1 := ih (by omega)
    have h2 := mul_bd _ _ (hx k (by omega)) (hy k (by omega))
    rw [prodTo, getD_at x k (by omega), getD_at y k (by omega)]
    push_cast
    omega
set_option maxHeartbeats 1000000 in
theorem product_any (x y : List Int) (v u : Value) (w : World) (hv : Ints w v x) (hu : Ints w u y) (h5 : x.length ≤ 5) (hl : y.length = x.length) (hx : ∀ k, (hk : k < x.length) → -1000 ≤ x[k] ∧ x[k] ≤ 1000) (hy : ∀ k, (hk : k < y.length) → -2000 ≤ y[k] ∧ y[k] ≤ 2000) :
    Calls Tryz.prog 211 #[v, u] w fun e w' => e = .returned (.int .i64 (prodTo x y x.length)) ∧ Below w.heap.size w w' := by
  obtain ⟨a, b, off, c, rfl, hlen, hix, hc, hb⟩ := hv.view Tryz.prog 22 3 Tryz.underlying22 intElem
  obtain ⟨a', b', off', c', rfl, hlen', hix', hc', hb'⟩ := hu.view Tryz.prog 22 3 Tryz.underlying22 intElem
  have HB := Lib.hid (prodTo_bd x y hl hx hy)
  have HX := Lib.hid (And.intro hx hy)
  have HL := Lib.hid hl
  have hle : x.length ≤ y.length := by omega
  clear hx hy hl
  go_enter Tryz.func211, Tryz.ntmps211
  go_wp2_with fail
  go_loopw [5, 9] (fun sm i wr => ∃ k : Nat, k ≤ x.length ∧ i = .int .i64 k ∧ sm = .int .i64 (prodTo x y k) ∧ Below w.heap.size w wr) (fun _ i _ => x.length - (intOf i).toNat)
  case atStart => exact ⟨0, Nat.zero_le _, rfl, rfl, Below.refl _ _⟩
  case round =>
    obtain ⟨k, hk, rfl, rfl, B⟩ := hrel
    have hbd := HB.out k hk
    by_cases hlt : k < x.length
    · have hlt2 : (k : Int) < (x.length : Int) := by omega
      have ck := cells_below hc hb B (Nat.le_refl _) k hlt
      have ck' := cells_below hc' hb' B (Nat.le_refl _) k (by omega)
      have ik := fun W => hix W k hlt
      have ik' := fun W => hix' W k (by omega)
      have hm := mul_bd _ _ (HX.out.1 k hlt) (HX.out.2 k (by omega))
      have hs : prodTo x y (k + 1) = prodTo x y k + x[k] * y[k]'(by omega) := by rw [prodTo, getD_at x k hlt, getD_at y k (by omega)]
      obtain ⟨p, hp⟩ : ∃ p, p = x[k] := ⟨_, rfl⟩
      obtain ⟨q, hq⟩ : ∃ q, q = y[k]'(by omega) := ⟨_, rfl⟩
      obtain ⟨S, hS⟩ : ∃ S, S = prodTo x y k := ⟨_, rfl⟩
      rw [← hp] at ck hm hs
      rw [← hq] at ck' hm hs
      rw [← hS] at hbd hs ⊢
      have HS := Lib.hid hs
      clear hp hq hS hs hc hc' hix hix'
      go_wp2_with fail
      go_quiet (fail)
      go_wp2
      go_roundw
      case rel => exact ⟨k + 1, by omega, by go_num, by rw [HS.out], B.drewN' _⟩
      case measure => simp [intOf]; omega
    · have hlt2 : ¬ (k : Int) < (x.length : Int) := by omega
      have hkl : k = x.length := by omega
      have HK := Lib.hid hkl
      clear hkl
      go_wp2
      go_ret
      exact ⟨ret_int (by rw [← HK.out]), B⟩
end Go.Proofs.YtpaoiiiceekkkaaGreatDoor
end
section
namespace Go.Proofs.YtpaoiiiceekkkaaGreatDoor
open Go.RowKit Go.G5

def ordL (x : List Int) : List Int := if vecB x then ordN x x.length else []
end Go.Proofs.YtpaoiiiceekkkaaGreatDoor
end
section
namespace Go.Proofs.YtpaoiiiceekkkaaGreatDoor
open Go.RowKit Go.G5

def mxX (l x : List Int) : List Int := cornerL l (ordN x x.length)
def maxN (n : Int) (l x : List Int) : Int := if optB n l x then prodTo x (mxX l x) x.length else 0
def maxL (n : Int) (l x : List Int) : List Int := if optB n l x then mxX l x else []
theorem opt_fun {n : Int} {l x : List Int} (h : optB n l x = true) : x.length ≤ 5 ∧ n = (x.length : Int) ∧ l.length = 2 ^ x.length ∧ l.length ≤ 32 ∧ (∀ k, (hk : k < l.length) → -1000 ≤ l[k] ∧ l[k] ≤ 1000) ∧ (∀ y ∈ x, -1000 ≤ y ∧ y ≤ 1000) := by
  unfold optB vecB at h
  simp only [Bool.and_eq_true, decide_eq_true_eq] at h
  obtain ⟨⟨h1, _⟩, ⟨h2, h3⟩, h4⟩ := h
  obtain ⟨N, rfl, hN5, hl2, hl32, hlb⟩ := fun_nat (grOk h1)
  have : x.length = N := by omega
  unfold allIn at h3
  rw [List.all_eq_true] at h3
  exact ⟨h2, h4.symm, by rw [this]; exact hl2, hl32, hlb, fun y hy => inB_true.1 (h3 y hy)⟩
theorem cornerTo_bd (l o : List Int) (hl : l.length = 2 ^ o.length) (hlb : ∀ k, (hk : k < l.length) → -1000 ≤ l[k] ∧ l[k] ≤ 1000) (ho : ∀ x ∈ o, 0 ≤ x ∧ x < o.length) : ∀ k, k ≤ o.length → ∀ y ∈ cornerTo l o k, -2000 ≤ y ∧ y ≤ 2000 := by
  intro k
  induction k with
  | zero =>
    intro _ y hy
    rw [cornerTo] at hy
    have := List.eq_of_mem_replicate hy
    omega
  | succ k ih =>
    intro hk y hy
    rw [cornerTo] at hy
    rcases List.mem_or_eq_of_mem_set hy with hy | hy
    · exact ih (by omega) y hy
    · have hm := ho _ (List.getElem_mem (show k < o.length by omega))
      have hg : o.getD k 0 = o[k] := by rw [List.getD_eq_getElem?_getD, List.getElem?_eq_getElem (by omega)]; rfl
      have hp := prefS_lt o o.length k ho (by omega)
      rw [hg] at hy
      have hse := setBit_lt (prefS o k) o[k].toNat o.length hp (by omega)
      rw [hy]
      exact gainL_bd l _ _ (by omega) (by omega) hlb
theorem mxX_bd {n : Int} {l x : List Int} (h : optB n l x = true) : (mxX l x).length = x.length ∧ ∀ k, (hk : k < (mxX l x).length) → -2000 ≤ (mxX l x)[k] ∧ (mxX l x)[k] ≤ 2000 := by
  obtain ⟨h5, _, hl, _, hlb, _⟩ := opt_fun h
  have ho := ordN_len x x.length
  refine ⟨?_, fun k hk => cornerTo_bd l _ (by rw [ho]; exact hl) hlb (by rw [ho]; exact ordN_mem x x.length) _ (Nat.le_refl _) _ (List.getElem_mem hk)⟩
  unfold mxX cornerL
  rw [cornerTo_len, ho]

def bestL (n : Int) (l x : List Int) : List Int := if optB n l x then ordN x x.length else []
end Go.Proofs.YtpaoiiiceekkkaaGreatDoor
end
section
namespace Go.G5
open Go Go.RowKit
theorem OwnLL.lit0 {EI EO : TypeId} {B : Nat} (w : World) (hB : B ≤ w.heap.size) : OwnLL EI EO B (w.alloc (.cells #[] EO)) (.slice (some ⟨w.heap.size, 0, none⟩) 0 0) [] :=
  ⟨[], World.ownsRow_lit w #[] 0 hB (Nat.zero_le _) rfl, by simp⟩
theorem OwnLL.alloc {EI EO : TypeId} {B : Nat} {w : World} {v : Value} {ls : List (List Int)} (h : OwnLL EI EO B w v ls) (o : Obj) : OwnLL EI EO B (w.alloc o) v ls := h.keep (bl1 w o)
theorem OwnLL.one {EI EO : TypeId} {B : Nat} {w : World} {v : Value} {l : List Int} (h : OwnI EI B w v l) (hB : B ≤ w.heap.size) : OwnLL EI EO B (w.alloc (.cells #[v] EO)) (.slice (some ⟨w.heap.size, 0, none⟩) 1 1) [l] := by
  refine ⟨[v], World.ownsRow_lit w #[v] 1 hB (by decide) rfl, ?_⟩
  intro k u hu
  cases k with
  | zero => simp only [List.getElem?_cons_zero, Option.some.injEq] at hu; subst hu; exact ⟨l, rfl, h.alloc _⟩
  | succ k => simp at hu
theorem run_appendLL {P : Program} {w : World} {EI EO : TypeId} (T ty : TypeId) (hT : P.underlying T = some (.slice EO)) (hE : SliceElem P EO) (hne : EI ≠ EO) (B : Nat) (v : Value) (ls : List (List Int)) (hown : OwnLL EI EO B w v ls)
    (B' : Nat) (sv : Value) (ms : List (List Int)) (hs : OwnLL EI EO B' w sv ms) (hBB : B ≤ B') (hlen : ls.length + ms.length ≤ 5497558138879) (hB : B ≤ w.heap.size) :
    ∃ v' w', (Builtin.append_ #[T, T] ty #[v, sv]).run P w = .ok v' w' ∧ OwnLL EI EO B w' v' (ls ++ ms) ∧ w.grownBy w' v.ownBlock ∧ NearBy w v v' := by
  obtain ⟨i, hi, hz, h1, h8⟩ := hE.get
  obtain ⟨vs, ho1, ho2⟩ := hown
  obtain ⟨us, hs1, hs2⟩ := hs
  have hso0 := hs1
  have hul := hs1.1
  rcases hs1.2 with ⟨rfl, hn0⟩ | ⟨g, cap, cur, rfl, hBg, hg, hmc, hmm, hcs, ht⟩
  · have : ms = [] := List.eq_nil_of_length_eq_zero hn0
    subst this
    refine ⟨v, w, ?_, by rw [List.append_nil]; exact ⟨vs, ho1, ho2⟩, World.grownBy.refl w _, .inl rfl⟩
    rcases ho1.2 with ⟨rfl, hn⟩ | ⟨g, cap, cur, rfl, _, _, hnc, _⟩
    · simp [Builtin.append_, run_underlying hT, sizeOf, typeInfo, hi, Builtin.lenOf, Builtin.firstCells]
    · simp [Builtin.append_, run_underlying hT, sizeOf, typeInfo, hi, Builtin.lenOf, Builtin.firstCells, hnc, storeCells]
  · have hone : ∀ u ∈ us, u.oneCell' = true := by
      intro u hu
      obtain ⟨j, hj, rfl⟩ := List.getElem_of_mem hu
      obtain ⟨l, _, h4⟩ := hs2 j us[j] (List.getElem?_eq_getElem hj)
      obtain ⟨a', n', c', e⟩ := h4.shape3
      rw [e]; rfl
    obtain ⟨v', w', hrun, h2, h3, _, h5⟩ := run_append_own_at (P := P) w B T ty EO i (.slice none 0 0) 1 24 hT hi hz h1 h8 rfl (by decide) v ls.length vs ho1 ⟨g, 0, none⟩ ms.length cap us (by omega)
      (by
        intro j u hj
        have hjl : j < us.length := by
          rcases Nat.lt_or_ge j us.length with h | h
          · exact h
          · rw [List.getElem?_eq_none h] at hj; cases hj
        have e : (⟨g, 0, none⟩ : Addr).add j = ⟨g, j, none⟩ := by
          unfold Addr.add; split
          · rename_i h0; rw [h0]
          · simp
        rw [e, hso0.cellAt j (by omega)]
        exact hj)
      hone (by unfold maxLen; omega) (by omega) hB
    refine ⟨v', w', hrun, ⟨vs ++ us, by rw [List.length_append]; exact h2, fun k q hq => ?_⟩, h3, h5⟩
    have hl := ho1.1
    by_cases hk : k < vs.length
    · rw [List.getElem?_append_left hk] at hq
      obtain ⟨l', h3', h4⟩ := ho2 k q hq
      exact ⟨l', by rw [List.getElem?_append_left (by omega)]; exact h3', h4.grow h3 (own_ne h4.1 ho1 hne)⟩
    · rw [List.getElem?_append_right (by omega)] at hq
      obtain ⟨l', h3', h4⟩ := hs2 _ q hq
      exact ⟨l', by rw [List.getElem?_append_right (by omega), show k - ls.length = k - vs.length by omega]; exact h3', (h4.grow h3 (own_ne h4.1 ho1 hne)).mono hBB⟩
theorem wp_appendLL {P : Program} {w : World} {EI EO : TypeId} {o : Oper} {a : Act} {K : Act → World → Prop} {Q : Exit → Act → World → Prop} (s x : Operand) (t : TypeId)
    (ho : o.op = .call { callee := .builtin .append, args := #[s, x], argTypes := #[t, t] })
    (hT : P.underlying t = some (.slice EO)) (hE : SliceElem P EO) (hne : EI ≠ EO) (B : Nat) (v : Value) (ls : List (List Int)) (hs : a.eval s = v) (hown : OwnLL EI EO B w v ls)
    (B' : Nat) (sv : Value) (ms : List (List Int)) (hx : a.eval x = sv) (hsv : OwnLL EI EO B' w sv ms) (hBB : B ≤ B') (hlen : ls.length + ms.length ≤ 5497558138879) (hB : B ≤ w.heap.size)
    (h : ∀ v' w', OwnLL EI EO B w' v' (ls ++ ms) → w.grownBy w' v.ownBlock → NearBy w v v' → K (a.put o.dst v') w') : o.wp P a w K Q := by
  obtain ⟨v', w', hrun, h2, h3, h4⟩ := run_appendLL (P := P) t o.type hT hE hne B v ls hown B' sv ms hsv hBB hlen hB
  unfold Oper.wp execOp
  simp only [ho, resolve, invoke, builtin, Sem.run_bind, Sem.run_pure, Result.andThen_ok, List.map_toArray, List.map_cons, List.map_nil, hs, hx, hrun]
  exact h v' w' h2 h3 h4
theorem wpList_appendLL {P : Program} {w : World} {EI EO : TypeId} {ops : Array Oper} {rest : List Oper} {o : Oper} {a : Act} {Q : Exit → Act → World → Prop} (hgd : o.guard = none) (s x : Operand) (t : TypeId)
    (ho : o.op = .call { callee := .builtin .append, args := #[s, x], argTypes := #[t, t] })
    (hT : P.underlying t = some (.slice EO)) (hE : SliceElem P EO) (hne : EI ≠ EO) (B : Nat) (v : Value) (ls : List (List Int)) (hs : a.eval s = v) (hown : OwnLL EI EO B w v ls)
    (B' : Nat) (sv : Value) (ms : List (List Int)) (hx : a.eval x = sv) (hsv : OwnLL EI EO B' w sv ms) (hBB : B ≤ B') (hlen : ls.length + ms.length ≤ 5497558138879) (hB : B ≤ w.heap.size)
    (h : ∀ v' w', OwnLL EI EO B w' v' (ls ++ ms) → w.grownBy w' v.ownBlock → NearBy w v v' → wpList P ops Q rest (a.put o.dst v') w') : wpList P ops Q (o :: rest) a w :=
  wpList_plain hgd fun _ hK => wp_appendLL s x t ho hT hE hne B v ls hs hown B' sv ms hx hsv hBB hlen hB fun v' w' h2 h3 h4 => hK _ _ (h v' w' h2 h3 h4)
end Go.G5
namespace Go.Proofs.YtpaoiiiceekkkaaGreatDoor
open Go.RowKit Go.G5

/-- the elements below N, each at most once -/
structure Dist (N : Nat) (o : List Int) : Prop where
  bd : ∀ x ∈ o, 0 ≤ x ∧ x < (N : Int)
  nd : o.Nodup
end Go.Proofs.YtpaoiiiceekkkaaGreatDoor
end
section
namespace Go.Proofs.YtpaoiiiceekkkaaGreatDoor
open Go.RowKit Go.G5

/-! bits -/
def b2 (b : Bool) : Int := if b then 1 else 0
def bsum (f : Nat → Bool) : Int := b2 (f 0) + b2 (f 1) + b2 (f 2) + b2 (f 3) + b2 (f 4) + b2 (f 5)
theorem pop_bits : ∀ y, y < 64 → (pop y : Int) = bsum (nbit y) := by decide +kernel
theorem nbit_tb (y e : Nat) : nbit y e = y.testBit e := by
  unfold nbit Nat.testBit
  rw [Nat.shiftRight_eq_div_pow, Nat.one_and_eq_mod_two]
  rcases Nat.mod_two_eq_zero_or_one (y / 2 ^ e) with h | h <;> rw [h] <;> rfl
theorem nbit_and (x y e : Nat) : nbit (x &&& y) e = (nbit x e && nbit y e) := by simp only [nbit_tb, Nat.testBit_and]
theorem nbit_or (x y e : Nat) : nbit (x ||| y) e = (nbit x e || nbit y e) := by simp only [nbit_tb, Nat.testBit_or]
theorem nbit_ndiff (x y e : Nat) (hx : x < 64) (hy : y < 64) : nbit (ndiff x y) e = (nbit x e && !nbit y e) := by simp only [nbit_tb]; exact ndiff_bit x y e hx hy
theorem b2_bd (b : Bool) : 0 ≤ b2 b ∧ b2 b ≤ 1 := by cases b <;> simp [b2]
theorem pop_bd6 (y : Nat) (h : y < 64) : pop y ≤ 6 := by
  have h1 := pop_bits y h
  unfold bsum at h1
  have := b2_bd (nbit y 0); have := b2_bd (nbit y 1); have := b2_bd (nbit y 2); have := b2_bd (nbit y 3); have := b2_bd (nbit y 4); have := b2_bd (nbit y 5)
  omega
theorem bsum_le (f f' : Nat → Bool) (h : ∀ e, f e = true → f' e = true) : bsum f ≤ bsum f' := by
  have k : ∀ e, b2 (f e) ≤ b2 (f' e) := fun e => by
    cases h1 : f e with
    | false => have := b2_bd (f' e); simpa [b2] using this.1
    | true => rw [h e h1]; simp
  unfold bsum
  have := k 0; have := k 1; have := k 2; have := k 3; have := k 4; have := k 5
  omega
/-- what is left of a set, and what of it is taken now, make what was left of it -/
theorem pop_split (s a c : Nat) (hs : s < 64) (ha : a < 64) (hc : c < 64) : (pop (s &&& ndiff a c) : Int) + pop (s &&& (c &&& a)) = pop (s &&& a) := by
  have h1 := and_lt s (ndiff a c) 64 hs
  have h2 := and_lt s (c &&& a) 64 hs
  have h3 := and_lt s a 64 hs
  rw [pop_bits _ h1, pop_bits _ h2, pop_bits _ h3]
  have k : ∀ e, b2 (nbit (s &&& ndiff a c) e) + b2 (nbit (s &&& (c &&& a)) e) = b2 (nbit (s &&& a) e) := fun e => by
    rw [nbit_and, nbit_ndiff a c e ha hc, nbit_and, nbit_and, nbit_and]
    cases nbit s e <;> cases nbit a e <;> cases nbit c e <;> decide
  unfold bsum
  have := k 0; have := k 1; have := k 2; have := k 3; have := k 4; have := k 5
  omega

/-! what a set pays -/
def cellE (p : List Int) (s e : Nat) : Int := if nbit s e then p.getD e 0 else 0
def wtE (p : List Int) (s : Nat) : Int := cellE p s 0 + cellE p s 1 + cellE p s 2 + cellE p s 3 + cellE p s 4 + cellE p s 5
theorem prS_at (o x : List Int) (p : Int) (hx : ∀ y ∈ x, 0 ≤ y) (e : Nat) (he : e < o.length) : ∀ k, k ≤ x.length → (prS o x p k).getD e 0 = if (e : Int) ∈ x.take k then p else o.getD e 0 := by
  intro k
  induction k with
  | zero => intro _; simp [prS]
  | succ k ih =>
    intro hk
    have ih := ih (by omega)
    rw [prS, List.take_succ_eq_append_getElem (show k < x.length by omega)]
    have hg : x.getD k 0 = x[k] := getD_at x k (by omega)
    have h0 := hx x[k] (List.getElem_mem _)
    rw [hg, List.getD_eq_getElem?_getD, List.getElem?_set]
    have hl : (prS o x p k).length = o.length := prS_len o x p k
    by_cases heq : x[k].toNat = e
    · have hm : (e : Int) = x[k] := by omega
      rw [if_pos heq, if_pos (by rw [hl, heq]; exact he), if_pos (List.mem_append_right _ (by rw [hm]; exact List.mem_singleton.2 rfl))]
      rfl
    · have hm : ¬ (e : Int) = x[k] := by omega
      have hiff : ((e : Int) ∈ x.take k ++ [x[k]]) ↔ (e : Int) ∈ x.take k := by
        rw [List.mem_append, List.mem_singleton]
        exact ⟨fun h => h.resolve_right hm, Or.inl⟩
      rw [if_neg heq, ← List.getD_eq_getElem?_getD, ih]
      simp only [hiff]
theorem elL_has (x : Int) (e : Nat) (he : e < 6) : ((e : Int) ∈ elL x) ↔ nbit x.toNat e = true := by
  unfold elL famOf chosen
  rw [List.mem_map]
  constructor
  · rintro ⟨y, hy, h⟩
    have h2 : y = e := Int.ofNat.inj h
    rw [← h2]
    exact (List.mem_filter.1 hy).2
  · intro h
    exact ⟨e, List.mem_filter.2 ⟨List.mem_range.2 he, h⟩, rfl⟩
theorem cell_round (p : List Int) (x q : Int) (s e : Nat) (he : e < 6) (hl : nbit x.toNat e = true → e < p.length) (hz : nbit x.toNat e = true → p.getD e 0 = 0) :
    cellE (prS p (elL x) q (elL x).length) s e = cellE p s e + q * b2 (nbit (s &&& x.toNat) e) := by
  unfold cellE
  rw [nbit_and]
  cases hs : nbit s e with
  | false => simp [b2]
  | true =>
    simp only [if_true, Bool.true_and]
    by_cases hp : e < p.length
    · rw [prS_at p (elL x) q (fun y hy => (elL_bd6 x y hy).1) e hp _ (Nat.le_refl _), List.take_length]
      cases hx : nbit x.toNat e with
      | false =>
        rw [if_neg (fun h => by rw [elL_has x e he, hx] at h; cases h)]
        simp [b2]
      | true =>
        rw [if_pos ((elL_has x e he).2 hx), hz hx]
        simp [b2]
    · have hx : nbit x.toNat e = false := by
        cases hx : nbit x.toNat e with
        | false => rfl
        | true => exact absurd (hl hx) hp
      rw [hx]
      have h1 : (prS p (elL x) q (elL x).length).getD e 0 = 0 := by rw [List.getD_eq_getElem?_getD, List.getElem?_eq_none (by rw [prS_len]; omega)]; rfl
      have h2 : p.getD e 0 = 0 := by rw [List.getD_eq_getElem?_getD, List.getElem?_eq_none (by omega)]; rfl
      rw [h1, h2]; simp [b2]
theorem wt_round (p : List Int) (x q : Int) (s : Nat) (hs : s < 64) (hl : ∀ e, e < 6 → nbit x.toNat e = true → e < p.length) (hz : ∀ e, e < 6 → nbit x.toNat e = true → p.getD e 0 = 0) :
    wtE (prS p (elL x) q (elL x).length) s = wtE p s + q * pop (s &&& x.toNat) := by
  have k := fun e (he : e < 6) => cell_round p x q s e he (hl e he) (hz e he)
  rw [pop_bits _ (and_lt s x.toNat 64 hs)]
  unfold wtE bsum
  rw [k 0 (by decide), k 1 (by decide), k 2 (by decide), k 3 (by decide), k 4 (by decide), k 5 (by decide)]
  simp only [Int.mul_add]
  omega
theorem harm_step0 : ∀ c : Nat, c < 7 → ∀ a : Nat, a < 7 → ∀ d : Nat, d < 7 → (!(decide (a ≤ c) && decide (d ≤ a) && decide (1 ≤ c)) || decide ((60 / (c : Int)) * (d : Int) ≤ harm a - harm (a - d))) = true := by decide +kernel
theorem harm_step (c : Nat) (hc : c < 7) (a : Nat) (ha : a < 7) (d : Nat) (hd : d < 7) (h1 : a ≤ c) (h2 : d ≤ a) (h3 : 1 ≤ c) : (60 / (c : Int)) * (d : Int) ≤ harm a - harm (a - d) := by
  have := harm_step0 c hc a ha d hd
  simpa [h1, h2, h3] using this
theorem sixty : ∀ c : Nat, c < 7 → 1 ≤ c → (60 / (c : Int)) * (c : Int) = 60 ∧ 0 ≤ 60 / (c : Int) := by decide +kernel
theorem full_bits : ∀ g, g < 7 → ∀ e, e < 6 → nbit (2 ^ g - 1) e = decide (e < g) := by decide +kernel
theorem lt_bit (g : Nat) (x e : Nat) (hx : x < 2 ^ g) (h : nbit x e = true) : e < g := by
  refine Classical.byContradiction fun hn => ?_
  have : (2 : Nat) ^ g ≤ 2 ^ e := Nat.pow_le_pow_right (by decide) (by omega)
  rw [nbit_tb, Nat.testBit_lt_two_pow (by omega)] at h
  cases h

/-- how prices stand when j sets are taken -/
structure PrInv (g : Nat) (l L : List Int) (j : Nat) (p : List Int) (left : Int) : Prop where
  run : greedyRun l (64 - j) left = some (L.drop j)
  bd : 0 ≤ left ∧ left < 2 ^ g
  len : p.length = g
  zero : ∀ e, e < 6 → nbit left.toNat e = true → p.getD e 0 = 0
  pos : ∀ e, 0 ≤ p.getD e 0
  top : ∀ e, p.getD e 0 ≤ 60
  tot : wtE p (2 ^ g - 1) = 60 * j
  pay : ∀ s ∈ l, wtE p s.toNat ≤ harm (pop s.toNat) - harm (pop (s.toNat &&& left.toNat))
theorem greedyRun_cons {l : List Int} {n : Nat} {left c : Int} {R : List Int} (h : greedyRun l n left = some (c :: R)) : ∃ m, n = m + 1 ∧ left ≠ 0 ∧ c = bestOf l left ∧ iand c left ≠ 0 ∧ greedyRun l m (idif left c) = some R := by
  cases n with
  | zero => simp only [greedyRun] at h; split at h <;> cases h
  | succ m =>
    simp only [greedyRun] at h
    split at h
    · cases h
    · rename_i h0
      split at h
      · cases h
      · rename_i h1
        cases hr : greedyRun l m (idif left (bestOf l left)) with
        | none => rw [hr] at h; cases h
        | some R' =>
          rw [hr] at h
          simp only [Option.map_some, Option.some.injEq, List.cons.injEq] at h
          obtain ⟨h2, h3⟩ := h
          subst h2 h3
          exact ⟨m, rfl, h0, rfl, h1, hr⟩
theorem greedyRun_nil {l : List Int} {n : Nat} {left : Int} (h : greedyRun l n left = some []) : left = 0 := by
  cases n with
  | zero =>
    simp only [greedyRun] at h
    split at h
    · assumption
    · cases h
  | succ m =>
    simp only [greedyRun] at h
    split at h
    · assumption
    · split at h
      · cases h
      · cases hr : greedyRun l m (idif left (bestOf l left)) with
        | none => rw [hr] at h; cases h
        | some R' => rw [hr] at h; cases h
theorem inv_step (g : Nat) (hg : g ≤ 6) (l L : List Int) (hl : ∀ s ∈ l, 0 ≤ s ∧ s < 64) (j : Nat) (hj : j < L.length) (p : List Int) (left : Int) (h : PrInv g l L j p left) :
    PrInv g l L (j + 1) (prS p (elL (iand (L.getD j 0) left)) (60 / ipop (iand (L.getD j 0) left)) (elL (iand (L.getD j 0) left)).length) (idif left (L.getD j 0)) := by
  have hd : L.drop j = L[j] :: L.drop (j + 1) := List.drop_eq_getElem_cons hj
  have hrun := h.run
  rw [hd] at hrun
  obtain ⟨m, hm, hne, hc, hx, hnext⟩ := greedyRun_cons hrun
  rw [getD_at L j hj]
  obtain ⟨c, hce⟩ : ∃ c, c = L[j] := ⟨_, rfl⟩
  rw [← hce] at hc hx hnext ⊢
  have hcb : 0 ≤ c ∧ c < 64 := by rw [hc]; exact best_bd l left hl
  have hbd := h.bd
  have hp6 : (2 : Int) ^ g ≤ 64 := (two_pow g 6 hg).1
  obtain ⟨x, hxe⟩ : ∃ x, x = iand c left := ⟨_, rfl⟩
  rw [← hxe] at hx ⊢
  have hxn : x.toNat = c.toNat &&& left.toNat := by rw [hxe]; unfold iand; rw [Int.toNat_natCast]
  have hx64 : x.toNat < 64 := by rw [hxn]; exact and_lt _ _ _ (by omega)
  have hxp : 0 ≤ x := by rw [hxe]; unfold iand; omega
  have hxg : x.toNat < 2 ^ g := by
    rw [hxn, Nat.and_comm]
    refine and_lt _ _ _ ?_
    have : ((2 : Int) ^ g) = ((2 ^ g : Nat) : Int) := by push_cast; rfl
    omega
  have hxbit : ∀ e, nbit x.toNat e = true → nbit left.toNat e = true := fun e he => by
    rw [hxn, nbit_and] at he
    simp only [Bool.and_eq_true] at he
    exact he.2
  have hwt := fun (s : Nat) (hs : s < 64) => wt_round p x (60 / ipop x) s hs (fun e _ hb => by rw [h.len]; exact lt_bit g _ e hxg hb) (fun e he hb => h.zero e he (hxbit e hb))
  have hpop : 0 < pop x.toNat := pop_pos x.toNat hx64 (by omega)
  have hpop6 := pop_bd6 x.toNat hx64
  have hip : ipop x = (pop x.toNat : Int) := rfl
  have hs60 := sixty (pop x.toNat) (by omega) (by omega)
  have hmax : ∀ s ∈ l, pop (s.toNat &&& left.toNat) ≤ pop x.toNat := fun s hs => by
    have h1 := (best_max left l 0).2 s hs
    have h2 : bestOf l left = l.foldl (betterF left) 0 := rfl
    rw [← h2, ← hc, ← hxe] at h1
    unfold ipop iand at h1
    rw [Int.toNat_natCast] at h1
    omega
  have hldn : (idif left c).toNat = ndiff left.toNat c.toNat := by unfold idif; rw [Int.toNat_natCast]
  refine ⟨?_, idif_bd _ _ _ hbd.1 hbd.2, by rw [prS_len, h.len], ?_, ?_, ?_, ?_, ?_⟩
  · rw [show 64 - (j + 1) = m by omega]; exact hnext
  · intro e he hb
    rw [hldn, nbit_ndiff _ _ _ (by omega) (by omega)] at hb
    simp only [Bool.and_eq_true, Bool.not_eq_true'] at hb
    have hlt : e < p.length := by
      rw [h.len]
      refine lt_bit g left.toNat e ?_ hb.1
      have : ((2 : Int) ^ g) = ((2 ^ g : Nat) : Int) := by push_cast; rfl
      omega
    rw [prS_at p (elL x) _ (fun y hy => (elL_bd6 x y hy).1) e hlt _ (Nat.le_refl _), List.take_length, if_neg ?_]
    · exact h.zero e he hb.1
    · intro hm2
      rw [elL_has x e he, hxn, nbit_and, hb.2] at hm2
      cases hm2
  · intro e
    by_cases hlt : e < p.length
    · rw [prS_at p (elL x) _ (fun y hy => (elL_bd6 x y hy).1) e hlt _ (Nat.le_refl _), List.take_length]
      split
      · rw [hip]; exact hs60.2
      · exact h.pos e
    · rw [List.getD_eq_getElem?_getD, List.getElem?_eq_none (by rw [prS_len]; omega)]; simp
  · intro e
    by_cases hlt : e < p.length
    · rw [prS_at p (elL x) _ (fun y hy => (elL_bd6 x y hy).1) e hlt _ (Nat.le_refl _), List.take_length]
      split
      · exact Int.ediv_le_self _ (by decide)
      · exact h.top e
    · rw [List.getD_eq_getElem?_getD, List.getElem?_eq_none (by rw [prS_len]; omega)]; simp
  · have hf : 2 ^ g - 1 < 64 := by
      have : (2 : Nat) ^ g ≤ 2 ^ 6 := Nat.pow_le_pow_right (by decide) hg
      omega
    rw [hwt _ hf, h.tot, hip]
    have : (2 ^ g - 1) &&& x.toNat = x.toNat := by rw [Nat.and_comm, Nat.and_two_pow_sub_one_eq_mod, Nat.mod_eq_of_lt hxg]
    rw [this, hs60.1]
    push_cast; omega
  · intro s hs
    have hsb := hl s hs
    rw [hwt _ (by omega), hip, hldn]
    have h1 := h.pay s hs
    have hsp := pop_split s.toNat left.toNat c.toNat (by omega) (by omega) (by omega)
    rw [← hxn] at hsp
    have ha := hmax s hs
    have hst := harm_step (pop x.toNat) (by omega) (pop (s.toNat &&& left.toNat)) (by omega) (pop (s.toNat &&& x.toNat)) (by omega) ha (by omega) (by omega)
    rw [show pop (s.toNat &&& left.toNat) - pop (s.toNat &&& x.toNat) = pop (s.toNat &&& ndiff left.toNat c.toNat) by omega] at hst
    omega
theorem wt_zero (p : List Int) (s : Nat) (h : ∀ e, p.getD e 0 = 0) : wtE p s = 0 := by
  have k : ∀ e, cellE p s e = 0 := fun e => by unfold cellE; rw [h e]; simp
  unfold wtE
  rw [k, k, k, k, k, k]; rfl
theorem inv_start (g : Nat) (hg : g ≤ 6) (l L : List Int) (hl : ∀ s ∈ l, 0 ≤ s ∧ s < 2 ^ g) (hr : greedyRun l 64 (2 ^ g - 1) = some L) : PrInv g l L 0 (List.replicate g 0) (2 ^ g - 1) := by
  have hz : ∀ e, (List.replicate g (0 : Int)).getD e 0 = 0 := fun e => by
    rw [List.getD_eq_getElem?_getD, List.getElem?_replicate]
    split <;> rfl
  have hp := two_pow g 6 hg
  refine ⟨by simpa using hr, by omega, by simp, fun e _ _ => hz e, fun e => by rw [hz e]; exact Int.le_refl _, fun e => by rw [hz e]; decide, by rw [wt_zero _ _ hz]; rfl, fun s hs => ?_⟩
  have hsb := hl s hs
  have hsn : s.toNat < 2 ^ g := by
    have : ((2 : Int) ^ g) = ((2 ^ g : Nat) : Int) := by push_cast; rfl
    omega
  rw [wt_zero _ _ hz, two_pow_nat, Nat.and_two_pow_sub_one_eq_mod, Nat.mod_eq_of_lt hsn]
  omega
theorem inv_all (g : Nat) (hg : g ≤ 6) (l L : List Int) (hl : ∀ s ∈ l, 0 ≤ s ∧ s < 2 ^ g) (hr : greedyRun l 64 (2 ^ g - 1) = some L) : ∀ j, j ≤ L.length → PrInv g l L j (prTo g L j).1 (prTo g L j).2 := by
  intro j
  induction j with
  | zero => intro _; exact inv_start g hg l L hl hr
  | succ j ih =>
    intro hj
    have hp := two_pow g 6 hg
    have hp1 : (2 : Int) ^ g ≤ 64 := by simpa using hp.1
    exact inv_step g hg l L (fun s hs => by have := hl s hs; omega) j (by omega) _ _ (ih (by omega))
end Go.Proofs.YtpaoiiiceekkkaaGreatDoor
end
