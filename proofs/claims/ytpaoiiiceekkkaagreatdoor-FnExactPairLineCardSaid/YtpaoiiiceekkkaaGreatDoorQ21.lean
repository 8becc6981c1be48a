/- Sums of products. The order of a vector's elements: the second program. The gains along an order: the second program. Orders and corners: the second program. Greedy covers, in plain words. Greedy covers. The elements of a set. Prices. -/
import Derived.Test.YtpaoiiiceekkkaaGreatDoorQ20
import Derived.Deep.RegionHeld3
import Derived.Deep.AppendLies
import Derived.Maps.AppendAt
import Derived.StillTailTactics
import Derived.IntWalk
section
namespace Go.Proofs.YtpaoiiiceekkkaaGreatDoor
open Go.RowKit Go.G5

def prodTo (x y : List Int) : Nat → Int
  | 0 => 0
  | k + 1 => prodTo x y k + x.getD k 0 * y.getD k 0
theorem mul_bd (p q : Int) (hp : -1000 ≤ p ∧ p ≤ 1000) (hq : -2000 ≤ q ∧ q ≤ 2000) : -2000000 ≤ p * q ∧ p * q ≤ 2000000 := by
  have h1 : (p * q).natAbs ≤ 1000 * 2000 := by
    rw [Int.natAbs_mul]
    exact Nat.mul_le_mul (by omega) (by omega)
  omega
theorem prodTo_bd (x y : List Int) (hl : y.length = x.length) (hx : ∀ k, (hk : k < x.length) → -1000 ≤ x[k] ∧ x[k] ≤ 1000) (hy : ∀ k, (hk : k < y.length) → -2000 ≤ y[k] ∧ y[k] ≤ 2000) : ∀ k, k ≤ x.length → -2000000 * (k : Int) ≤ prodTo x y k ∧ prodTo x y k ≤ 2000000 * (k : Int) := by
  intro k
  induction k with
  | zero => intro _; simp [prodTo]
  | succ k ih =>
    intro hk
    have h1 := ih (by omega)
    have h2 := mul_bd _ _ (hx k (by omega)) (hy k (by omega))
    rw [prodTo, getD_at x k (by omega), getD_at y k (by omega)]
    push_cast
    omega
set_option maxHeartbeats 1000000 in
theorem product_any (x y : List Int) (v u : Value) (w : World) (hv : Ints w v x) (hu : Ints w u y) (h5 : x.length ≤ 5) (hl : y.length = x.length) (hx : ∀ k, (hk : k < x.length) → -1000 ≤ x[k] ∧ x[k] ≤ 1000) (hy : ∀ k, (hk : k < y.length) → -2000 ≤ y[k] ∧ y[k] ≤ 2000) :
    Calls Tryz.prog 211 #[v, u] w fun e w' => e = .returned (.int .i64 (prodTo x y x.length)) ∧ Below w.heap.size w w' := by
  obtain ⟨a, b, off, c, rfl, hlen, hix, hc, hb⟩ := hv.view Tryz.prog 22 3 Tryz.underlying22 intElem
  obtain ⟨a', b', off', c', rfl, hlen', hix', hc', hb'⟩ := hu.view Tryz.prog 22 3 Tryz.underlying22 intElem
  have HB := Lib.hid (prodTo_bd x y hl hx hy)
  have HX := Lib.hid (And.intro hx hy)
  have HL := Lib.hid hl
  have hle : x.length ≤ y.length := by omega
  clear hx hy hl
  go_enter Tryz.func211, Tryz.ntmps211
  go_wp2_with fail
  go_loopw [5, 9] (fun sm i wr => ∃ k : Nat, k ≤ x.length ∧ i = .int .i64 k ∧ sm = .int .i64 (prodTo x y k) ∧ Below w.heap.size w wr) (fun _ i _ => x.length - (intOf i).toNat)
  case atStart => exact ⟨0, Nat.zero_le _, rfl, rfl, Below.refl _ _⟩
  case round =>
    obtain ⟨k, hk, rfl, rfl, B⟩ := hrel
    have hbd := HB.out k hk
    by_cases hlt : k < x.length
    · have hlt2 : (k : Int) < (x.length : Int) := by omega
      have ck := cells_below hc hb B (Nat.le_refl _) k hlt
      have ck' := cells_below hc' hb' B (Nat.le_refl _) k (by omega)
      have ik := fun W => hix W k hlt
      have ik' := fun W => hix' W k (by omega)
      have hm := mul_bd _ _ (HX.out.1 k hlt) (HX.out.2 k (by omega))
      have hs : prodTo x y (k + 1) = prodTo x y k + x[k] * y[k]'(by omega) := by rw [prodTo, getD_at x k hlt, getD_at y k (by omega)]
      obtain ⟨p, hp⟩ : ∃ p, p = x[k] := ⟨_, rfl⟩
      obtain ⟨q, hq⟩ : ∃ q, q = y[k]'(by omega) := ⟨_, rfl⟩
      obtain ⟨S, hS⟩ : ∃ S, S = prodTo x y k := ⟨_, rfl⟩
      rw [← hp] at ck hm hs
      rw [← hq] at ck' hm hs
      rw [← hS] at hbd hs ⊢
      have HS := Lib.hid hs
      clear hp hq hS hs hc hc' hix hix'
      go_wp2_with fail
      go_quiet (fail)
      go_wp2
      go_roundw
      case rel => exact ⟨k + 1, by omega, by go_num, by rw [HS.out], B.drewN' _⟩
      case measure => simp [intOf]; omega
    · have hlt2 : ¬ (k : Int) < (x.length : Int) := by omega
      have hkl : k = x.length := by omega
      have HK := Lib.hid hkl
      clear hkl
      go_wp2
      go_ret
      exact ⟨ret_int (by rw [← HK.out]), B⟩
end Go.Proofs.YtpaoiiiceekkkaaGreatDoor
end
section
namespace Go.Proofs.YtpaoiiiceekkkaaGreatDoor
open Go.RowKit Go.G5

def ordL (x : List Int) : List Int := if vecB x then ordN x x.length else []
end Go.Proofs.YtpaoiiiceekkkaaGreatDoor
end
section
namespace Go.Proofs.YtpaoiiiceekkkaaGreatDoor
open Go.RowKit Go.G5

def mxX (l x : List Int) : List Int := cornerL l (ordN x x.length)
def maxN (n : Int) (l x : List Int) : Int := if optB n l x then prodTo x (mxX l x) x.length else 0
def maxL (n : Int) (l x : List Int) : List Int := if optB n l x then mxX l x else []
theorem opt_fun {n : Int} {l x : List Int} (h : optB n l x = true) : x.length ≤ 5 ∧ n = (x.length : Int) ∧ l.length = 2 ^ x.length ∧ l.length ≤ 32 ∧ (∀ k, (hk : k < l.length) → -1000 ≤ l[k] ∧ l[k] ≤ 1000) ∧ (∀ y ∈ x, -1000 ≤ y ∧ y ≤ 1000) := by
  unfold optB vecB at h
  simp only [Bool.and_eq_true, decide_eq_true_eq] at h
  obtain ⟨⟨h1, _⟩, ⟨h2, h3⟩, h4⟩ := h
  obtain ⟨N, rfl, hN5, hl2, hl32, hlb⟩ := fun_nat (grOk h1)
  have : x.length = N := by omega
  unfold allIn at h3
  rw [List.all_eq_true] at h3
  exact ⟨h2, h4.symm, by rw [this]; exact hl2, hl32, hlb, fun y hy => inB_true.1 (h3 y hy)⟩
theorem cornerTo_bd (l o : List Int) (hl : l.length = 2 ^ o.length) (hlb : ∀ k, (hk : k < l.length) → -1000 ≤ l[k] ∧ l[k] ≤ 1000) (ho : ∀ x ∈ o, 0 ≤ x ∧ x < o.length) : ∀ k, k ≤ o.length → ∀ y ∈ cornerTo l o k, -2000 ≤ y ∧ y ≤ 2000 := by
  intro k
  induction k with
  | zero =>
    intro _ y hy
    rw [cornerTo] at hy
    have := List.eq_of_mem_replicate hy
    omega
  | succ k ih =>
    intro hk y hy
    rw [cornerTo] at hy
    rcases List.mem_or_eq_of_mem_set hy with hy | hy
    · exact ih (by omega) y hy
    · have hm := ho _ (List.getElem_mem (show k < o.length by omega))
      have hg : o.getD k 0 = o[k] := by rw [List.getD_eq_getElem?_getD, List.getElem?_eq_getElem (by omega)]; rfl
      have hp := prefS_lt o o.length k ho (by omega)
      rw [hg] at hy
      have hse := setBit_lt (prefS o k) o[k].toNat o.length hp (by omega)
      rw [hy]
      exact gainL_bd l _ _ (by omega) (by omega) hlb
theorem mxX_bd {n : Int} {l x : List Int} (h : optB n l x = true) : (mxX l x).length = x.length ∧ ∀ k, (hk : k < (mxX l x).length) → -2000 ≤ (mxX l x)[k] ∧ (mxX l x)[k] ≤ 2000 := by
  obtain ⟨h5, _, hl, _, hlb, _⟩ := opt_fun h
  have ho := ordN_len x x.length
  refine ⟨?_, fun k hk => cornerTo_bd l _ (by rw [ho]; exact hl) hlb (by rw [ho]; exact ordN_mem x x.length) _ (Nat.le_refl _) _ (List.getElem_mem hk)⟩
  unfold mxX cornerL
  rw [cornerTo_len, ho]

def bestL (n : Int) (l x : List Int) : List Int := if optB n l x then ordN x x.length else []
end Go.Proofs.YtpaoiiiceekkkaaGreatDoor
end
section
namespace Go.G5
open Go Go.RowKit
theorem OwnLL.lit0 {EI EO : TypeId} {B : Nat} (w : World) (hB : B ≤ w.heap.size) : OwnLL EI EO B (w.alloc (.cells #[] EO)) (.slice (some ⟨w.heap.size, 0, none⟩) 0 0) [] :=
  ⟨[], World.ownsRow_lit w #[] 0 hB (Nat.zero_le _) rfl, by simp⟩
theorem OwnLL.alloc {EI EO : TypeId} {B : Nat} {w : World} {v : Value} {ls : List (List Int)} (h : OwnLL EI EO B w v ls) (o : Obj) : OwnLL EI EO B (w.alloc o) v ls := h.keep (bl1 w o)
theorem OwnLL.one {EI EO : TypeId} {B : Nat} {w : World} {v : Value} {l : List Int} (h : OwnI EI B w v l) (hB : B ≤ w.heap.size) : OwnLL EI EO B (w.alloc (.cells #[v] EO)) (.slice (some ⟨w.heap.size, 0, none⟩) 1 1) [l] := by
  refine ⟨[v], World.ownsRow_lit w #[v] 1 hB (by decide) rfl, ?_⟩
  intro k u hu
  cases k with
  | zero => simp only [List.getElem?_cons_zero, Option.some.injEq] at hu; subst hu; exact ⟨l, rfl, h.alloc _⟩
  | succ k => simp at hu
theorem run_appendLL {P : Program} {w : World} {EI EO : TypeId} (T ty : TypeId) (hT : P.underlying T = some (.slice EO)) (hE : SliceElem P EO) (hne : EI ≠ EO) (B : Nat) (v : Value) (ls : List (List Int)) (hown : OwnLL EI EO B w v ls)
    (B' : Nat) (sv : Value) (ms : List (List Int)) (hs : OwnLL EI EO B' w sv ms) (hBB : B ≤ B') (hlen : ls.length + ms.length ≤ 5497558138879) (hB : B ≤ w.heap.size) :
    ∃ v' w', (Builtin.append_ #[T, T] ty #[v, sv]).run P w = .ok v' w' ∧ OwnLL EI EO B w' v' (ls ++ ms) ∧ w.grownBy w' v.ownBlock ∧ NearBy w v v' := by
  obtain ⟨i, hi, hz, h1, h8⟩ := hE.get
  obtain ⟨vs, ho1, ho2⟩ := hown
  obtain ⟨us, hs1, hs2⟩ := hs
  have hso0 := hs1
  have hul := hs1.1
  rcases hs1.2 with ⟨rfl, hn0⟩ | ⟨g, cap, cur, rfl, hBg, hg, hmc, hmm, hcs, ht⟩
  · have : ms = [] := List.eq_nil_of_length_eq_zero hn0
    subst this
    refine ⟨v, w, ?_, by rw [List.append_nil]; exact ⟨vs, ho1, ho2⟩, World.grownBy.refl w _, .inl rfl⟩
    rcases ho1.2 with ⟨rfl, hn⟩ | ⟨g, cap, cur, rfl, _, _, hnc, _⟩
    · simp [Builtin.append_, run_underlying hT, sizeOf, typeInfo, hi, Builtin.lenOf, Builtin.firstCells]
    · simp [Builtin.append_, run_underlying hT, sizeOf, typeInfo, hi, Builtin.lenOf, Builtin.firstCells, hnc, storeCells]
  · have hone : ∀ u ∈ us, u.oneCell' = true := by
      intro u hu
      obtain ⟨j, hj, rfl⟩ := List.getElem_of_mem hu
      obtain ⟨l, _, h4⟩ := hs2 j us[j] (List.getElem?_eq_getElem hj)
      obtain ⟨a', n', c', e⟩ := h4.shape3
      rw [e]; rfl
    obtain ⟨v', w', hrun, h2, h3, _, h5⟩ := run_append_own_at (P := P) w B T ty EO i (.slice none 0 0) 1 24 hT hi hz h1 h8 rfl (by decide) v ls.length vs ho1 ⟨g, 0, none⟩ ms.length cap us (by omega)
      (by
        intro j u hj
        have hjl : j < us.length := by
          rcases Nat.lt_or_ge j us.length with h | h
          · exact h
          · rw [List.getElem?_eq_none h] at hj; cases hj
        have e : (⟨g, 0, none⟩ : Addr).add j = ⟨g, j, none⟩ := by
          unfold Addr.add; split
          · rename_i h0; rw [h0]
          · simp
        rw [e, hso0.cellAt j (by omega)]
        exact hj)
      hone (by unfold maxLen; omega) (by omega) hB
    refine ⟨v', w', hrun, ⟨vs ++ us, by rw [List.length_append]; exact h2, fun k q hq => ?_⟩, h3, h5⟩
    have hl := ho1.1
    by_cases hk : k < vs.length
    · rw [List.getElem?_append_left hk] at hq
      obtain ⟨l', h3', h4⟩ := ho2 k q hq
      exact ⟨l', by rw [List.getElem?_append_left (by omega)]; exact h3', h4.grow h3 (own_ne h4.1 ho1 hne)⟩
    · rw [List.getElem?_append_right (by omega)] at hq
      obtain ⟨l', h3', h4⟩ := hs2 _ q hq
      exact ⟨l', by rw [List.getElem?_append_right (by omega), show k - ls.length = k - vs.length by omega]; exact h3', (h4.grow h3 (own_ne h4.1 ho1 hne)).mono hBB⟩
theorem wp_appendLL {P : Program} {w : World} {EI EO : TypeId} {o : Oper} {a : Act} {K : Act → World → Prop} {Q : Exit → Act → World → Prop} (s x : Operand) (t : TypeId)
    (ho : o.op = .call { callee := .builtin .append, args := #[s, x], argTypes := #[t, t] })
    (hT : P.underlying t = some (.slice EO)) (hE : SliceElem P EO) (hne : EI ≠ EO) (B : Nat) (v : Value) (ls : List (List Int)) (hs : a.eval s = v) (hown : OwnLL EI EO B w v ls)
    (B' : Nat) (sv : Value) (ms : List (List Int)) (hx : a.eval x = sv) (hsv : OwnLL EI EO B' w sv ms) (hBB : B ≤ B') (hlen : ls.length + ms.length ≤ 5497558138879) (hB : B ≤ w.heap.size)
    (h : ∀ v' w', OwnLL EI EO B w' v' (ls ++ ms) → w.grownBy w' v.ownBlock → NearBy w v v' → K (a.put o.dst v') w') : o.wp P a w K Q := by
  obtain ⟨v', w', hrun, h2, h3, h4⟩ := run_appendLL (P := P) t o.type hT hE hne B v ls hown B' sv ms hsv hBB hlen hB
  unfold Oper.wp execOp
  simp only [ho, resolve, invoke, builtin, Sem.run_bind, Sem.run_pure, Result.andThen_ok, List.map_toArray, List.map_cons, List.map_nil, hs, hx, hrun]
  exact h v' w' h2 h3 h4
theorem wpList_appendLL {P : Program} {w : World} {EI EO : TypeId} {ops : Array Oper} {rest : List Oper} {o : Oper} {a : Act} {Q : Exit → Act → World → Prop} (hgd : o.guard = none) (s x : Operand) (t : TypeId)
    (ho : o.op = .call { callee := .builtin .append, args := #[s, x], argTypes := #[t, t] })
    (hT : P.underlying t = some (.slice EO)) (hE : SliceElem P EO) (hne : EI ≠ EO) (B : Nat) (v : Value) (ls : List (List Int)) (hs : a.eval s = v) (hown : OwnLL EI EO B w v ls)
    (B' : Nat) (sv : Value) (ms : List (List Int)) (hx : a.eval x = sv) (hsv : OwnLL EI EO B' w sv ms) (hBB : B ≤ B') (hlen : ls.length + ms.length ≤ 5497558138879) (hB : B ≤ w.heap.size)
    (h : ∀ v' w', OwnLL EI EO B w' v' (ls ++ ms) → w.grownBy w' v.ownBlock → NearBy w v v' → wpList P ops Q rest (a.put o.dst v') w') : wpList P ops Q (o :: rest) a w :=
  wpList_plain hgd fun _ hK => wp_appendLL s x t ho hT hE hne B v ls hs hown B' sv ms hx hsv hBB hlen hB fun v' w' h2 h3 h4 => hK _ _ (h v' w' h2 h3 h4)
end Go.G5
namespace Go.Proofs.YtpaoiiiceekkkaaGreatDoor
open Go.RowKit Go.G5

/-- the elements below N, each at most once -/
structure Dist (N : Nat) (o : List Int) : Prop where
  bd : ∀ x ∈ o, 0 ≤ x ∧ x < (N : Int)
  nd : o.Nodup
end Go.Proofs.YtpaoiiiceekkkaaGreatDoor
end
section
namespace Go.Proofs.YtpaoiiiceekkkaaGreatDoor
open Go.RowKit Go.G5

def betterF (left : Int) (b s : Int) : Int := if ipop (iand b left) < ipop (iand s left) then s else b
def bestOf (l : List Int) (left : Int) : Int := l.foldl (betterF left) 0
def greedyRun (l : List Int) : Nat → Int → Option (List Int)
  | 0, left => if left = 0 then some [] else none
  | n + 1, left => if left = 0 then some [] else if iand (bestOf l left) left = 0 then none else (greedyRun l n (idif left (bestOf l left))).map (bestOf l left :: ·)
def greedyOf (g : Int) (l : List Int) : Option (List Int) := if isFamB g l then greedyRun l 64 (2 ^ g.toNat - 1) else none
def greedyL (g : Int) (l : List Int) : List Int := (greedyOf g l).getD []
def greedyB (g : Int) (l : List Int) : Bool := (greedyOf g l).isSome

theorem best_mem (left : Int) (l : List Int) : ∀ z, l.foldl (betterF left) z = z ∨ l.foldl (betterF left) z ∈ l := by
  induction l with
  | nil => intro z; exact .inl rfl
  | cons a l ih =>
    intro z
    simp only [List.foldl_cons]
    rcases ih (betterF left z a) with h | h
    · rw [h]; unfold betterF; split
      · right; simp
      · left; rfl
    · right; simp [h]
theorem best_max (left : Int) (l : List Int) : ∀ z, ipop (iand z left) ≤ ipop (iand (l.foldl (betterF left) z) left) ∧ ∀ s ∈ l, ipop (iand s left) ≤ ipop (iand (l.foldl (betterF left) z) left) := by
  induction l with
  | nil => intro z; exact ⟨Int.le_refl _, by simp⟩
  | cons a l ih =>
    intro z
    simp only [List.foldl_cons]
    obtain ⟨h1, h2⟩ := ih (betterF left z a)
    have h3 : ipop (iand z left) ≤ ipop (iand (betterF left z a) left) ∧ ipop (iand a left) ≤ ipop (iand (betterF left z a) left) := by
      unfold betterF; split <;> omega
    refine ⟨by omega, fun s hs => ?_⟩
    rcases List.mem_cons.1 hs with rfl | hs
    · omega
    · exact h2 s hs
theorem best_bd (l : List Int) (left : Int) (h : ∀ s ∈ l, 0 ≤ s ∧ s < 64) : 0 ≤ bestOf l left ∧ bestOf l left < 64 := by
  rcases best_mem left l 0 with h1 | h1
  · unfold bestOf; rw [h1]; omega
  · exact h _ h1

theorem pop_pos : ∀ n, n < 64 → 0 < n → 0 < pop n := by decide +kernel
theorem ipop_zero {a : Int} (h0 : 0 ≤ a) (h1 : a < 64) (h : ipop a ≤ 0) : a = 0 := by
  by_cases hz : a = 0
  · exact hz
  · have := pop_pos a.toNat (by omega) (by omega)
    unfold ipop at h; omega
theorem union_and (c : Nat) (l : List Int) (h : ∀ s ∈ l, s.toNat &&& c = 0) : ∀ z : Int, z.toNat &&& c = 0 → (l.foldl ior z).toNat &&& c = 0 := by
  induction l with
  | nil => intro z hz; exact hz
  | cons a l ih =>
    intro z hz
    simp only [List.foldl_cons]
    refine ih (fun s hs => h s (by simp [hs])) _ ?_
    have ha := h a (by simp)
    unfold ior
    rw [Int.toNat_natCast, Nat.and_or_distrib_right, hz, ha]; rfl
/-- where the sets have all elements, one has an element that is left -/
theorem some_meets (g : Nat) (l : List Int) (cur : Int) (h0 : 0 < cur) (h1 : cur < 2 ^ g) (hu : unionL l = 2 ^ g - 1) : ∃ s ∈ l, iand s cur ≠ 0 := by
  refine Classical.byContradiction fun hno => ?_
  have hall : ∀ s ∈ l, s.toNat &&& cur.toNat = 0 := fun s hs => by
    refine Classical.byContradiction fun hne => hno ⟨s, hs, ?_⟩
    unfold iand; omega
  have hz := union_and cur.toNat l hall 0 (by simp)
  have hu' : (l.foldl ior 0) = 2 ^ g - 1 := hu
  have hpow : ((2 : Int) ^ g - 1).toNat = 2 ^ g - 1 := by
    have : ((2 : Int) ^ g) = ((2 ^ g : Nat) : Int) := by push_cast; rfl
    rw [this]; omega
  rw [hu', hpow, Nat.and_comm, Nat.and_two_pow_sub_one_eq_mod] at hz
  have hlt : cur.toNat < 2 ^ g := by
    have : ((2 : Int) ^ g) = ((2 ^ g : Nat) : Int) := by push_cast; rfl
    omega
  rw [Nat.mod_eq_of_lt hlt] at hz
  omega
theorem best_meets (g : Nat) (l : List Int) (cur : Int) (hl : ∀ s ∈ l, 0 ≤ s ∧ s < 64) (h0 : 0 < cur) (h1 : cur < 2 ^ g) (hu : unionL l = 2 ^ g - 1) : iand (bestOf l cur) cur ≠ 0 := by
  obtain ⟨s, hs, hne⟩ := some_meets g l cur h0 h1 hu
  have hm := (best_max cur l 0).2 s hs
  intro hz
  have hb : ipop (iand (bestOf l cur) cur) = 0 := by rw [hz]; decide
  have hsb := hl s hs
  have hib := iand_bd s cur 64 hsb.1 hsb.2
  exact hne (ipop_zero hib.1 hib.2 (by unfold bestOf at hb; omega))
theorem idif_lt {a b : Int} (h0 : 0 ≤ a) (hne : iand b a ≠ 0) : idif a b < a := by
  unfold iand at hne
  unfold idif ndiff
  have hc : a.toNat &&& b.toNat = b.toNat &&& a.toNat := Nat.and_comm _ _
  have := @Nat.and_le_left a.toNat b.toNat
  omega
/-- enough rounds are enough -/
theorem greedy_fuel (l : List Int) : ∀ (n m : Nat) (cur : Int), 0 ≤ cur → cur ≤ n → n ≤ m → greedyRun l n cur = greedyRun l m cur := by
  intro n
  induction n with
  | zero =>
    intro m cur h0 h1 _
    have : cur = 0 := by omega
    subst this
    cases m <;> simp [greedyRun]
  | succ n ih =>
    intro m cur h0 h1 hm
    obtain ⟨m, rfl⟩ : ∃ k, m = k + 1 := ⟨m - 1, by omega⟩
    simp only [greedyRun]
    split
    · rfl
    · split
      · rfl
      · rename_i hne
        have hlt := idif_lt h0 hne
        have hge : 0 ≤ idif cur (bestOf l cur) := by unfold idif; omega
        rw [ih m _ hge (by omega) (by omega)]
/-- what greed covers the sets have -/
theorem or_ndiff : ∀ a, a < 64 → ∀ b, b < 64 → ndiff a b ||| b = a ||| b := by decide +kernel
theorem union_has (l : List Int) (h : ∀ s ∈ l, 0 ≤ s) : ∀ (z : Int), (∀ s ∈ l, s.toNat ||| (l.foldl ior z).toNat = (l.foldl ior z).toNat) ∧ z.toNat ||| (l.foldl ior z).toNat = (l.foldl ior z).toNat := by
  induction l with
  | nil => intro z; exact ⟨by simp, by simp⟩
  | cons a l ih =>
    intro z
    simp only [List.foldl_cons]
    obtain ⟨h1, h2⟩ := ih (fun s hs => h s (by simp [hs])) (ior z a)
    generalize (l.foldl ior (ior z a)).toNat = U at *
    have hz : (ior z a).toNat = z.toNat ||| a.toNat := by unfold ior; rw [Int.toNat_natCast]
    rw [hz] at h2
    refine ⟨fun s hs => ?_, ?_⟩
    · rcases List.mem_cons.1 hs with rfl | hs
      · calc s.toNat ||| U = s.toNat ||| (z.toNat ||| s.toNat ||| U) := by rw [h2]
          _ = z.toNat ||| s.toNat ||| U := by rw [← Nat.or_assoc, ← Nat.or_assoc, Nat.or_comm s.toNat z.toNat, Nat.or_assoc z.toNat, Nat.or_self]
          _ = U := h2
      · exact h1 s hs
    · calc z.toNat ||| U = z.toNat ||| (z.toNat ||| a.toNat ||| U) := by rw [h2]
        _ = z.toNat ||| a.toNat ||| U := by rw [← Nat.or_assoc, ← Nat.or_assoc, Nat.or_self]
        _ = U := h2
theorem greedy_in (l : List Int) (hl : ∀ s ∈ l, 0 ≤ s ∧ s < 64) : ∀ n (cur : Int) L, 0 ≤ cur → cur < 64 → greedyRun l n cur = some L → cur.toNat ||| (unionL l).toNat = (unionL l).toNat := by
  intro n
  induction n with
  | zero =>
    intro cur L h0 h1 h
    simp only [greedyRun] at h
    split at h
    · rename_i hz; subst hz; simp
    · cases h
  | succ n ih =>
    intro cur L h0 h1 h
    simp only [greedyRun] at h
    split at h
    · rename_i hz; subst hz; simp
    · split at h
      · cases h
      · rename_i hne
        cases hr : greedyRun l n (idif cur (bestOf l cur)) with
        | none => rw [hr] at h; cases h
        | some L' =>
          have hb := best_bd l cur hl
          have hd := idif_bd cur (bestOf l cur) 64 h0 h1
          have hi := ih _ _ hd.1 hd.2 hr
          have hmem : bestOf l cur ∈ l := by
            rcases best_mem cur l 0 with h1 | h1
            · exfalso
              apply hne
              have : bestOf l cur = 0 := h1
              rw [this]; unfold iand; simp
            · exact h1
          have hbU := (union_has l (fun s hs => (hl s hs).1) 0).1 _ hmem
          have ho := or_ndiff cur.toNat (by omega) (bestOf l cur).toNat (by omega)
          have e : (idif cur (bestOf l cur)).toNat = ndiff cur.toNat (bestOf l cur).toNat := by unfold idif; rw [Int.toNat_natCast]
          rw [e] at hi
          have hU : (unionL l).toNat = (l.foldl ior 0).toNat := rfl
          rw [← hU] at hbU
          generalize (unionL l).toNat = U at *
          calc cur.toNat ||| U = cur.toNat ||| ((bestOf l cur).toNat ||| U) := by rw [hbU]
            _ = (cur.toNat ||| (bestOf l cur).toNat) ||| U := by rw [Nat.or_assoc]
            _ = (ndiff cur.toNat (bestOf l cur).toNat ||| (bestOf l cur).toNat) ||| U := by rw [ho]
            _ = ndiff cur.toNat (bestOf l cur).toNat ||| ((bestOf l cur).toNat ||| U) := by rw [Nat.or_assoc]
            _ = U := by rw [hbU, hi]
theorem greedy_none {g : Int} {l : List Int} (hf : isFamB g l = true) (hu : unionL l ≠ 2 ^ g.toNat - 1) : greedyOf g l = none := by
  unfold greedyOf
  rw [if_pos hf]
  obtain ⟨h0, h6, hs, _⟩ := famOk hf
  have hm := fam_mem hf
  have hp := pow_le64 h0 h6
  have hp1 := (two_pow g.toNat 6 (by omega)).2
  cases hr : greedyRun l 64 (2 ^ g.toNat - 1) with
  | none => rfl
  | some L =>
    exfalso
    apply hu
    have h1 := greedy_in l hm 64 _ L (by omega) (by omega) hr
    have h2 := union_bd g.toNat l hs 0 (by omega) (by omega)
    have h3 := @Nat.left_le_or ((2 : Int) ^ g.toNat - 1).toNat (unionL l).toNat
    have h4 : unionL l = l.foldl ior 0 := rfl
    rw [h4] at h1 h3 ⊢
    omega
end Go.Proofs.YtpaoiiiceekkkaaGreatDoor
end
section
namespace Go.Proofs.YtpaoiiiceekkkaaGreatDoor
open Go.RowKit Go.G5

theorem idif_sub {a b : Int} (h0 : 0 ≤ a) : a - iand a b = idif a b := by
  have := @Nat.and_le_left a.toNat b.toNat
  unfold iand idif ndiff; omega
theorem iand_comm (a b : Int) : iand a b = iand b a := by unfold iand; rw [Nat.and_comm]

theorem run_len (l : List Int) : ∀ n cur L, greedyRun l n cur = some L → L.length ≤ n := by
  intro n
  induction n with
  | zero =>
    intro cur L h
    simp only [greedyRun] at h
    split at h
    · simp at h; subst h; simp
    · cases h
  | succ n ih =>
    intro cur L h
    simp only [greedyRun] at h
    split at h
    · simp at h; subst h; simp
    · split at h
      · cases h
      · cases hr : greedyRun l n (idif cur (bestOf l cur)) with
        | none => rw [hr] at h; cases h
        | some L' =>
          rw [hr] at h
          simp at h
          subst h
          have := ih _ _ hr
          simp; omega
theorem greedyL_len (g : Int) (l : List Int) : (greedyL g l).length ≤ 1048576 := by
  unfold greedyL
  cases h : greedyOf g l with
  | none => simp
  | some L =>
    unfold greedyOf at h
    split at h
    · have := run_len l 64 _ L h; simp; omega
    · cases h
end Go.Proofs.YtpaoiiiceekkkaaGreatDoor
end
section
namespace Go.Proofs.YtpaoiiiceekkkaaGreatDoor
open Go.RowKit Go.G5

def elL (s : Int) : List Int := famOf s.toNat 6
theorem elL_bd (s : Int) (n : Nat) (hn : n ≤ 6) (h1 : s.toNat < 2 ^ n) : ∀ x ∈ elL s, 0 ≤ x ∧ x < (n : Int) := by
  have h2 : s.toNat < 2 ^ 6 := Nat.lt_of_lt_of_le h1 (Nat.pow_le_pow_right (by decide) hn)
  unfold elL
  rw [famOf_same s.toNat 6 n h2 h1]
  exact famOf_bd _ _
theorem elL_bd6 (s : Int) : ∀ x ∈ elL s, 0 ≤ x ∧ x < 6 := by
  intro x hx
  unfold elL at hx
  have := famOf_bd s.toNat 6 x hx
  omega
theorem elL_len6 (s : Int) : (elL s).length ≤ 6 := by
  unfold elL famOf
  exact chosen_len _ 6
theorem elL_len : ∀ s : Nat, s < 64 → (famOf s 6).length = pop s := by decide +kernel
theorem elL_pop (s : Int) (h : s < 64) : ((elL s).length : Int) = ipop s := by
  unfold elL ipop
  rw [elL_len s.toNat (by omega)]

theorem l2List_i (s : Int) (w : World) (h0 : 0 ≤ s) (h1 : s < 64) :
    Calls Tryz.prog 155 #[.int .i64 s] w fun e w' => ∃ ad i cp, e = .returned (.slice ad i cp) ∧ OwnI 3 w.heap.size w' (.slice ad i cp) (elL s) ∧ Below w.heap.size w w' := by
  have := l2List_any w s.toNat (by omega)
  rw [show ((s.toNat : Nat) : Int) = s by omega, famOf_same s.toNat 32 6 (by omega) (by omega)] at this
  exact this

set_option maxHeartbeats 1000000 in
theorem elementsOf_i (s : Int) (w : World) (h0 : 0 ≤ s) (h1 : s < 64) :
    Calls Tryz.prog 167 #[.int .i64 s] w fun e w' => ∃ ad i cp, e = .returned (.slice ad i cp) ∧ OwnI 3 w.heap.size w' (.slice ad i cp) (elL s) ∧ Below w.heap.size w w' := by
  obtain ⟨code, rfl⟩ := Int.eq_ofNat_of_zero_le h0
  have hc : code < 64 := by omega
  have hel : elL (code : Int) = famOf code 6 := by unfold elL; rw [show ((code : Int)).toNat = code by omega]
  have HEL := Lib.hid hel
  clear hel
  go_enter Tryz.func167, Tryz.ntmps167
  go_wp2
  go_loopw [3, 4] (fun out i wr => ∃ (k : Nat) (ad : Option Addr) (nn cp : Nat), k ≤ 6 ∧ out = .slice ad nn cp ∧ i = .int .i64 k ∧ OwnI 3 w.heap.size wr (.slice ad nn cp) (famOf code k) ∧ Below w.heap.size w wr)
    (fun _ i _ => 7 - (intOf i).toNat)
  case atStart => exact ⟨0, none, 0, 0, by omega, rfl, rfl, OwnI.nil _ _ _, Below.refl _ _⟩
  case round =>
    obtain ⟨k, ad, nn, cp, hk, rfl, rfl, ho, B⟩ := hrel
    have hbit := bit_is (code : Int) k (by omega) (by omega)
    have hnb := nbit_is code k
    have hlen := chosen_len (nbit code) k
    have hdiv : ((code : Int) / 2 ^ k) = ((code / 2 ^ k : Nat) : Int) := by push_cast; rfl
    have hql : code / 2 ^ k ≤ code := Nat.div_le_self _ _
    have hz : code / 2 ^ k ≠ 0 → k + 1 ≤ 6 := by
      intro h
      by_cases h2 : k + 1 ≤ 6
      · exact h2
      · exfalso
        have : k = 6 := by omega
        rw [this, Nat.div_eq_of_lt hc] at h
        exact h rfl
    have hcs : famOf code (k + 1) = if nbit code k then famOf code k ++ [(k : Int)] else famOf code k := chosen_succ (nbit code) k
    obtain ⟨q, hq⟩ : ∃ q, q = code / 2 ^ k := ⟨_, rfl⟩
    obtain ⟨y, hy⟩ : ∃ y, y = ibit (code : Int) k := ⟨_, rfl⟩
    rw [← hq] at hdiv hz hql
    rw [← hy] at hbit hnb
    rw [hdiv] at hbit
    have HQ := Lib.hid hq
    have HO := Lib.hid ho
    have HB := Lib.hid B
    have HCS := Lib.hid hcs
    have HZ := Lib.hid hz
    clear hq hy ho B hcs hz
    by_cases h0 : q = 0
    · subst h0
      have hr : famOf code k = famOf code 6 := by
        have hlt : code < 2 ^ k := by
          rcases Nat.lt_or_ge code (2 ^ k) with h | h
          · exact h
          · have := Nat.div_pos h (Nat.two_pow_pos k)
            have := HQ.out
            omega
        exact famOf_same code k 6 hlt (by omega)
      have HR := Lib.hid hr
      clear hr
      go_wp2
      go_ret
      exact ⟨ad, nn, cp, rfl, by rw [HEL.out, ← HR.out]; exact HO.out, HB.out⟩
    · have hk1 := HZ.out h0
      have ht : ((q : Int) != 0) = true := by simp; omega
      have hrow := HO.out.lt
      cases hb : nbit code k with
      | true =>
        have hy1 : (y == 1) = true := by rw [hnb, hb]
        have HBB := Lib.hid hb
        clear hb hnb
        go_wp2_with (at_builtin; refine wpList_appendI rfl _ _ _ rfl 3 Tryz.underlying22 intElem w.heap.size _ _ (k : Int) wr.heap.size rfl rfl (cell_new wr #[.int .i64 k] 3 0 _ rfl) (HO.out.alloc _) ⟨by omega, by omega⟩ (by unfold famOf; omega) (by have := HB.out.size; simp; omega) ?_; intro v' w6 hown hgr; obtain ⟨av, nv, cv, rfl⟩ := hown.shape3)
        have B6 : Below w.heap.size w w6 := (HB.out.alloc HB.out.size (.cells #[.int .i64 k] 3)).grown hgr (by have := HB.out.size; simp; omega) (fun p hp => (hrow p hp).1)
        go_roundw
        case rel => exact ⟨k + 1, av, nv, cv, hk1, rfl, by go_num, by rw [HCS.out, HBB.out]; exact hown, B6⟩
        case measure => simp [intOf]; omega
      | false =>
        have hy1 : (y == 1) = false := by rw [hnb, hb]
        have HBB := Lib.hid hb
        clear hb hnb
        go_wp2
        go_roundw
        case rel => exact ⟨k + 1, ad, nn, cp, hk1, rfl, by go_num, by rw [HCS.out, HBB.out]; exact HO.out, HB.out⟩
        case measure => simp [intOf]; omega
end Go.Proofs.YtpaoiiiceekkkaaGreatDoor
end
section
namespace Go.Proofs.YtpaoiiiceekkkaaGreatDoor
open Go.RowKit Go.G5

/-- the elements of x below the k-th get the price p -/
def prS (o x : List Int) (p : Int) : Nat → List Int
  | 0 => o
  | k + 1 => (prS o x p k).set (x.getD k 0).toNat p
def prTo (g : Nat) (L : List Int) : Nat → List Int × Int
  | 0 => (List.replicate g 0, 2 ^ g - 1)
  | j + 1 => (prS (prTo g L j).1 (elL (iand (L.getD j 0) (prTo g L j).2)) (60 / ipop (iand (L.getD j 0) (prTo g L j).2)) (elL (iand (L.getD j 0) (prTo g L j).2)).length, idif (prTo g L j).2 (L.getD j 0))
def pricesL (g : Int) (l : List Int) : List Int := if greedyB g l then (prTo g.toNat (greedyL g l) (greedyL g l).length).1 else []
theorem prS_len (o x : List Int) (p : Int) (k : Nat) : (prS o x p k).length = o.length := by
  induction k with
  | zero => rfl
  | succ k ih => rw [prS, List.length_set, ih]
theorem prTo_len (g : Nat) (L : List Int) (j : Nat) : (prTo g L j).1.length = g := by
  induction j with
  | zero => simp [prTo]
  | succ j ih => rw [prTo]; simp only; rw [prS_len, ih]
theorem prTo_left (g : Nat) (hg : g ≤ 6) (L : List Int) (j : Nat) : 0 ≤ (prTo g L j).2 ∧ (prTo g L j).2 < 2 ^ g := by
  have hp := two_pow g 6 hg
  induction j with
  | zero => simp only [prTo]; omega
  | succ j ih => rw [prTo]; exact idif_bd _ _ _ ih.1 ih.2
theorem pricesL_len (g : Int) (l : List Int) : (pricesL g l).length ≤ 1048576 := by
  unfold pricesL
  split
  · rename_i h
    rw [prTo_len]
    unfold greedyB greedyOf at h
    split at h
    · rename_i hf
      obtain ⟨h0, h6, _⟩ := famOk hf
      omega
    · simp at h
  · simp
theorem greedyRun_mem (l : List Int) (hl : ∀ s ∈ l, 0 ≤ s ∧ s < 64) : ∀ n cur L, greedyRun l n cur = some L → ∀ s ∈ L, 0 ≤ s ∧ s < 64 := by
  intro n
  induction n with
  | zero =>
    intro cur L h
    simp only [greedyRun] at h
    split at h
    · cases h; simp
    · cases h
  | succ n ih =>
    intro cur L h
    simp only [greedyRun] at h
    split at h
    · cases h; simp
    · split at h
      · cases h
      · cases hr : greedyRun l n (idif cur (bestOf l cur)) with
        | none => rw [hr] at h; cases h
        | some L' =>
          rw [hr] at h
          cases h
          intro s hs
          rcases List.mem_cons.1 hs with rfl | hs
          · exact best_bd l cur hl
          · exact ih _ _ hr s hs
theorem greedyL_mem (g : Int) (l : List Int) : ∀ s ∈ greedyL g l, 0 ≤ s ∧ s < 64 := by
  unfold greedyL greedyOf
  split
  · rename_i hf
    cases hr : greedyRun l 64 (2 ^ g.toNat - 1) with
    | none => simp
    | some L => exact greedyRun_mem l (fam_mem hf) _ _ _ hr
  · simp
theorem greedyB_fam {g : Int} {l : List Int} (h : greedyB g l = true) : isFamB g l = true := by
  unfold greedyB greedyOf at h
  split at h
  · rename_i hf; exact hf
  · simp at h
theorem greedyL_64 (g : Int) (l : List Int) : (greedyL g l).length ≤ 64 := by
  unfold greedyL greedyOf
  split
  · cases hr : greedyRun l 64 (2 ^ g.toNat - 1) with
    | none => simp
    | some L => exact run_len l _ _ _ hr
  · simp
theorem ipop_elem (s : Int) (h : s < 64) (k : Nat) (hk : k < (elL s).length) : 1 ≤ ipop s ∧ ipop s ≤ 8 := by
  have := elL_pop s h
  have := ipop_bd s (by omega)
  omega

theorem isub_is2 {a b : Int} (h0 : 0 ≤ a) : a - iand a b = idif a b := by
  have := @Nat.and_le_left a.toNat b.toNat
  unfold iand idif ndiff; omega

end Go.Proofs.YtpaoiiiceekkkaaGreatDoor
end
