/- Slices of slices of ints that a call owns. append of a whole slice; copies of slices. Sets of families: who is in. -/
import Derived.Test.YtipejodijbjpcaaGreatDoorQ04
import Derived.Deep.Light
import Derived.Deep.AppendLies
import Derived.Deep.RegionHeld3
section
namespace Go.G5
open Go Go.RowKit

/-- what the program's tables say of an element type that is a slice -/
structure SliceElem (P : Program) (E : TypeId) : Prop where
  info : (P.info? E).map (fun i => (i.zero, i.size, i.bytes)) = some (some (.slice none 0 0), 1, 24)
theorem SliceElem.get {P : Program} {E : TypeId} (h : SliceElem P E) : ∃ i, P.info? E = some i ∧ i.zero = some (.slice none 0 0) ∧ i.size = 1 ∧ i.bytes = 24 := by
  have h := h.info
  cases hx : P.info? E with
  | none => rw [hx] at h; simp at h
  | some i => rw [hx] at h; simp at h; exact ⟨i, rfl, h.1, h.2.1, h.2.2⟩

/-- rows of different element types are different blocks -/
theorem own_ne {w : World} {B B' : Nat} {E E' : TypeId} {s s' n n' : Nat} {u v : Value} {xs ys : List Value} (h : w.ownsRow B E s u n xs) (h' : w.ownsRow B' E' s' v n' ys) (hne : E ≠ E') : ∀ k, v.ownBlock = some k → u.ownBlock ≠ some k := by
  intro k hk hu
  rcases h.2 with ⟨rfl, _⟩ | ⟨g, cap, cur, rfl, _, hg, _⟩
  · simp [Value.ownBlock] at hu
  · rcases h'.2 with ⟨rfl, _⟩ | ⟨g', cap', cur', rfl, _, hg', _⟩
    · simp [Value.ownBlock] at hk
    · have e1 : g = k := by simpa [Value.ownBlock] using hu
      have e2 : g' = k := by simpa [Value.ownBlock] using hk
      subst e1; subst e2
      rw [hg] at hg'
      injection hg' with hg'
      injection hg' with _ ht
      exact hne ht

/-- v owns a row of slices that read as the lists of ls -/
def OwnLL (EI EO : TypeId) (B : Nat) (w : World) (v : Value) (ls : List (List Int)) : Prop :=
  ∃ vs : List Value, w.ownsRow B EO 1 v ls.length vs ∧ ∀ (k : Nat) (u : Value), vs[k]? = some u → ∃ l, ls[k]? = some l ∧ OwnI EI B w u l

theorem OwnLL.len {EI EO : TypeId} {B : Nat} {w : World} {v : Value} {ls : List (List Int)} (h : OwnLL EI EO B w v ls) : ∃ a c, v = .slice a ls.length c ∧ ls.length ≤ maxLen := by
  obtain ⟨vs, h1, _⟩ := h
  rcases h1.2 with ⟨rfl, hn⟩ | ⟨g, cap, cur, rfl, hB, hg, hn, hm, _⟩
  · exact ⟨none, 0, by rw [hn], by omega⟩
  · exact ⟨_, cap, rfl, by omega⟩
theorem OwnLL.shape3 {EI EO : TypeId} {B : Nat} {w : World} {v : Value} {ls : List (List Int)} (h : OwnLL EI EO B w v ls) : ∃ a n c, v = .slice a n c := by
  obtain ⟨a, c, h, _⟩ := h.len
  exact ⟨a, _, c, h⟩
theorem OwnLL.nil (EI EO : TypeId) (B : Nat) (w : World) : OwnLL EI EO B w (.slice none 0 0) [] := ⟨[], World.ownsRow_nil _ _ _ _, by simp⟩
theorem OwnLL.single {EI EO : TypeId} {B : Nat} (w : World) (hB : B ≤ w.heap.size) : OwnLL EI EO B (w.alloc (.cells #[.slice none 0 0] EO)) (.slice (some ⟨w.heap.size, 0, none⟩) 1 1) [[]] := by
  refine ⟨[.slice none 0 0], World.ownsRow_lit w #[.slice none 0 0] 1 hB (by decide) rfl, ?_⟩
  intro k u hu
  cases k with
  | zero => simp only [List.getElem?_cons_zero, Option.some.injEq] at hu; subst hu; exact ⟨[], rfl, OwnI.nil _ _ _⟩
  | succ k => simp at hu
theorem OwnLL.keep {EI EO : TypeId} {B : Nat} {w w' : World} {v : Value} {ls : List (List Int)} (h : OwnLL EI EO B w v ls) (hb : Below w.heap.size w w') : OwnLL EI EO B w' v ls := by
  obtain ⟨vs, ⟨h0, h1⟩, h2⟩ := h
  refine ⟨vs, ⟨h0, ?_⟩, fun k u hu => ?_⟩
  · rcases h1 with h1 | ⟨g, cap, cur, rfl, hBg, hg, r⟩
    · exact .inl h1
    · exact .inr ⟨g, cap, cur, rfl, hBg, by rw [hb.block g (Array.getElem?_eq_some_iff.1 hg).1]; exact hg, r⟩
  · obtain ⟨l, h3, h4⟩ := h2 k u hu
    exact ⟨l, h3, h4.keep hb⟩
theorem OwnLL.mono {EI EO : TypeId} {B B' : Nat} {w : World} {v : Value} {ls : List (List Int)} (h : OwnLL EI EO B w v ls) (hB : B' ≤ B) : OwnLL EI EO B' w v ls := by
  obtain ⟨vs, ⟨h0, h1⟩, h2⟩ := h
  refine ⟨vs, ⟨h0, ?_⟩, fun k u hu => ?_⟩
  · rcases h1 with h1 | ⟨g, cap, cur, rfl, hBg, r⟩
    · exact .inl h1
    · exact .inr ⟨g, cap, cur, rfl, by omega, r⟩
  · obtain ⟨l, h3, h4⟩ := h2 k u hu
    exact ⟨l, h3, h4.mono hB⟩
theorem OwnLL.lt {EI EO : TypeId} {B : Nat} {w : World} {v : Value} {ls : List (List Int)} (h : OwnLL EI EO B w v ls) : ∀ k, v.ownBlock = some k → B ≤ k ∧ k < w.heap.size := by
  obtain ⟨vs, h1, _⟩ := h
  exact h1.lt
theorem OwnLL.grow {EI EO : TypeId} {B B' n : Nat} {w w' : World} {v v' : Value} {ls : List (List Int)} {vs : List Value} (h : OwnLL EI EO B w v ls) (h' : w.ownsRow B' EO 1 v' n vs) (hT : EI ≠ EO) (hg : w.grownBy w' v'.ownBlock) (hne : ∀ k, v'.ownBlock = some k → v.ownBlock ≠ some k) : OwnLL EI EO B w' v ls := by
  obtain ⟨us, h1, h2⟩ := h
  refine ⟨us, h1.kept hg ?_, fun k u hu => ?_⟩
  · cases hv : v'.ownBlock with
    | none =>
      cases hu : v.ownBlock with
      | none => exact .inl rfl
      | some q => exact .inr (by simp)
    | some q =>
      right
      intro e
      exact hne q hv e
  · obtain ⟨l, h3, h4⟩ := h2 k u hu
    exact ⟨l, h3, h4.grow hg (own_ne h4.1 h' hT)⟩
theorem OwnLL.row {EI EO : TypeId} {B : Nat} {w : World} {v : Value} {ls : List (List Int)} (h : OwnLL EI EO B w v ls) : ∃ vs, w.ownsRow B EO 1 v ls.length vs := ⟨h.choose, h.choose_spec.1⟩
theorem OwnI.growL {EI EO : TypeId} {B B' n : Nat} {w w' : World} {u v' : Value} {l : List Int} {vs : List Value} (h : OwnI EI B w u l) (h' : w.ownsRow B' EO 1 v' n vs) (hT : EI ≠ EO) (hg : w.grownBy w' v'.ownBlock) : OwnI EI B w' u l := h.grow hg (own_ne h.1 h' hT)
/-- the k-th slice -/
theorem OwnLL.view {EI EO : TypeId} {B : Nat} {w : World} {a : Option Addr} {n c : Nat} {ls : List (List Int)} (h : OwnLL EI EO B w (.slice a n c) ls) (P : Program) (T : TypeId) (hT : P.underlying T = some (.slice EO)) (hs : SliceElem P EO) (k : Nat) (hk : k < ls.length) :
    ∃ g u, (∀ (w' : World), (Instr.indexAt T (.slice a n c) (.int .i64 (k : Int))).run P w' = .ok (.pointer (some ⟨g, k, none⟩)) w') ∧ w.cell? ⟨g, k, none⟩ = some u ∧ OwnI EI B w u ls[k] := by
  obtain ⟨vs, h1, h2⟩ := h
  have hE : P.elem T = EO := by simp [Program.elem, hT]
  obtain ⟨i, hi, _, hi', _⟩ := hs.get
  have hl := h1.1
  rcases h1.2 with ⟨e, hn⟩ | ⟨g, cap, cur, e, hB, hg, hn, hm, hsz, ht⟩
  · omega
  · simp only [Value.slice.injEq] at e
    obtain ⟨rfl, rfl, rfl⟩ := e
    have hv : k < vs.length := by omega
    obtain ⟨l, h3, h4⟩ := h2 k vs[k] (List.getElem?_eq_getElem hv)
    rw [List.getElem?_eq_getElem hk] at h3
    cases h3
    refine ⟨g, vs[k], fun w' => ?_, ?_, h4⟩
    · rw [run_indexAt_slice w' T ⟨g, 0, none⟩ ls.length c .i64 k (by rw [hE]; exact hT), if_pos ⟨by omega, by omega⟩, hE]
      simp [sizeOf, typeInfo, hi, hi', Addr.add]
      exact fun h => h.symm
    · have hrow : w.ownsRow B EO 1 (.slice (some ⟨g, 0, none⟩) ls.length c) ls.length vs := ⟨h1.1, .inr ⟨g, c, cur, rfl, hB, hg, hn, hm, hsz, ht⟩⟩
      rw [hrow.cellAt k (by omega)]
      exact List.getElem?_eq_getElem hv

/-- out = append(out, l), l the call's own -/
theorem wpList_appendL {P : Program} {w : World} {ops : Array Oper} {rest : List Oper} {o : Oper} {a : Act} {Q : Exit → Act → World → Prop} (hgd : o.guard = none) (s x : Operand) (t : TypeId)
    (ho : o.op = .call { callee := .builtin .append, args := #[s, x], argTypes := #[t, t] })
    (EI EO : TypeId) (hne : EI ≠ EO) (ht : P.underlying t = some (.slice EO)) (hE : SliceElem P EO) (B : Nat) (v : Value) (ls : List (List Int)) (u : Value) (l : List Int) (b : Nat) (hs : a.eval s = v) (hx : a.eval x = .slice (some ⟨b, 0, none⟩) 1 1)
    (hy : w.cell? ⟨b, 0, none⟩ = some u) (hown : OwnLL EI EO B w v ls) (hu : OwnI EI B w u l) (hlen : ls.length < 5497558138879) (hB : B ≤ w.heap.size)
    (h : ∀ v' w', OwnLL EI EO B w' v' (ls ++ [l]) → w.grownBy w' v.ownBlock → wpList P ops Q rest (a.put o.dst v') w') : wpList P ops Q (o :: rest) a w := by
  obtain ⟨i, hi, hz, h1, h8⟩ := hE.get
  obtain ⟨vs, ho1, ho2⟩ := hown
  have hone : u.oneCell' = true := by
    obtain ⟨a', n', c', rfl⟩ := hu.shape3
    rfl
  refine wpList_append_own w hgd s x t ho B EO i (.slice none 0 0) 1 24 ht hi hz h1 h8 rfl (by decide) v ls.length vs hs ho1 ⟨b, 0, none⟩ 1 1 [u] hx rfl ?_ ?_ ?_ ?_ hB ?_
  · intro j q hj
    match j, hj with
    | 0, hj => simp at hj; subst hj; simpa [Addr.add] using hy
    | j + 1, hj => simp at hj
  · intro q hq; simp at hq; subst hq; exact hone
  · unfold maxLen; omega
  · omega
  · intro v' w' hown' hg _
    refine h v' w' ⟨vs ++ [u], by simpa using hown', fun k q hq => ?_⟩ hg
    have hl := ho1.1
    by_cases hk : k < vs.length
    · rw [List.getElem?_append_left hk] at hq
      obtain ⟨l', h3, h4⟩ := ho2 k q hq
      exact ⟨l', by rw [List.getElem?_append_left (by omega)]; exact h3, h4.grow hg (own_ne h4.1 ho1 hne)⟩
    · rw [List.getElem?_append_right (by omega)] at hq
      have hk0 : k - vs.length = 0 := by
        cases hkk : k - vs.length with
        | zero => rfl
        | succ m => rw [hkk] at hq; simp at hq
      rw [hk0] at hq
      simp only [List.getElem?_cons_zero, Option.some.injEq] at hq
      subst hq
      refine ⟨l, ?_, hu.grow hg (own_ne hu.1 ho1 hne)⟩
      rw [List.getElem?_append_right (by omega), show k - ls.length = 0 by omega]; rfl
end Go.G5

namespace Go.Proofs.YtipejodijbjpcaaGreatDoor
open Go.RowKit Go.G5
theorem sliceElem : SliceElem Tryz.prog 22 := ⟨by kernel_rfl⟩
theorem noMeet : (3 : TypeId) ≠ 22 := by decide
end Go.Proofs.YtipejodijbjpcaaGreatDoor
end
section
namespace Go.G5
open Go Go.RowKit

section
variable {P : Program} {w : World}
/-- out = append(out, s...), out the call's own, s any slice that reads as a list -/
theorem run_appendS (T E ty : TypeId) (hT : P.underlying T = some (.slice E)) (hE : IntElem P E) (B : Nat) (v : Value) (l : List Int) (hown : OwnI E B w v l)
    (sv : Value) (m : List Int) (hs : Ints w sv m) (hlen : l.length + m.length ≤ 17592186044416) (hB : B ≤ w.heap.size) :
    ∃ v' w', (Builtin.append_ #[T, T] ty #[v, sv]).run P w = .ok v' w' ∧ OwnI E B w' v' (l ++ m) ∧ w.grownBy w' v.ownBlock := by
  obtain ⟨i, hi, hz, h1, h8⟩ := hE.get
  obtain ⟨ad, c, rfl, hmc, hcm, hr, h4⟩ := hs
  have hall : ∀ q ∈ l ++ m, InR q := fun q hq => (List.mem_append.1 hq).elim (hown.2 q) (hr q)
  have hempty : ad = none → m = [] := by
    intro e
    rcases h4 with h | ⟨b, off, hb, _⟩
    · exact h
    · rw [e] at hb; cases hb
  cases ad with
  | none =>
    have := hempty rfl
    subst this
    refine ⟨v, w, ?_, by simpa using hown, World.grownBy.refl w _⟩
    rcases hown.1.2 with ⟨rfl, hn⟩ | ⟨g, cap, cur, rfl, _, _, hnc, _⟩
    · simp [Builtin.append_, run_underlying hT, sizeOf, typeInfo, hi, Builtin.lenOf, Builtin.firstCells]
    · simp [Builtin.append_, run_underlying hT, sizeOf, typeInfo, hi, Builtin.lenOf, Builtin.firstCells, hnc, storeCells]
  | some ad =>
    have hcells : ∀ j u, (m.map (Value.int .i64))[j]? = some u → w.cell? (ad.add j) = some u := by
      intro j u hu
      rcases h4 with h | ⟨b, off, hb, _, hc⟩
      · subst h; simp at hu
      · simp only [Option.some.injEq] at hb
        subst hb
        have hj : j < m.length := by
          rcases Nat.lt_or_ge j m.length with h | h
          · exact h
          · rw [List.getElem?_eq_none (by simpa using h)] at hu; cases hu
        have := hc j hj
        have e : (⟨b, off, none⟩ : Addr).add j = ⟨b, off + j, none⟩ := by
          unfold Addr.add; split
          · rename_i h0; rw [h0]; rfl
          · rfl
        rw [e, this]
        rw [List.getElem?_map, List.getElem?_eq_getElem hj] at hu
        exact hu
    obtain ⟨v', w', hrun, h2, h3, _⟩ := run_append_own_at (P := P) w B T ty E i (.int .i64 0) 1 8 hT hi hz h1 h8 rfl (by decide) v l.length (l.map (Value.int .i64)) hown.1 ad m.length c (m.map (Value.int .i64)) (by simp) hcells
      (by intro u hu; obtain ⟨q, _, rfl⟩ := List.mem_map.1 hu; rfl) (by unfold maxLen; omega) (by omega) hB
    exact ⟨v', w', hrun, ⟨by simpa using h2, hall⟩, h3⟩

theorem wp_appendS {o : Oper} {a : Act} {K : Act → World → Prop} {Q : Exit → Act → World → Prop} (s x : Operand) (t : TypeId)
    (ho : o.op = .call { callee := .builtin .append, args := #[s, x], argTypes := #[t, t] })
    (E : TypeId) (hT : P.underlying t = some (.slice E)) (hE : IntElem P E) (B : Nat) (v : Value) (l : List Int) (hs : a.eval s = v) (hown : OwnI E B w v l)
    (sv : Value) (m : List Int) (hx : a.eval x = sv) (hsv : Ints w sv m) (hlen : l.length + m.length ≤ 17592186044416) (hB : B ≤ w.heap.size)
    (h : ∀ v' w', OwnI E B w' v' (l ++ m) → w.grownBy w' v.ownBlock → K (a.put o.dst v') w') : o.wp P a w K Q := by
  obtain ⟨v', w', hrun, h2, h3⟩ := run_appendS (P := P) t E o.type hT hE B v l hown sv m hsv hlen hB
  unfold Oper.wp execOp
  simp only [ho, resolve, invoke, builtin, Sem.run_bind, Sem.run_pure, Result.andThen_ok, List.map_toArray, List.map_cons, List.map_nil, hs, hx, hrun]
  exact h v' w' h2 h3

theorem wpList_appendS {ops : Array Oper} {rest : List Oper} {o : Oper} {a : Act} {Q : Exit → Act → World → Prop} (hgd : o.guard = none) (s x : Operand) (t : TypeId)
    (ho : o.op = .call { callee := .builtin .append, args := #[s, x], argTypes := #[t, t] })
    (E : TypeId) (hT : P.underlying t = some (.slice E)) (hE : IntElem P E) (B : Nat) (v : Value) (l : List Int) (hs : a.eval s = v) (hown : OwnI E B w v l)
    (sv : Value) (m : List Int) (hx : a.eval x = sv) (hsv : Ints w sv m) (hlen : l.length + m.length ≤ 17592186044416) (hB : B ≤ w.heap.size)
    (h : ∀ v' w', OwnI E B w' v' (l ++ m) → w.grownBy w' v.ownBlock → wpList P ops Q rest (a.put o.dst v') w') : wpList P ops Q (o :: rest) a w :=
  wpList_plain hgd fun _ hK => wp_appendS s x t ho E hT hE B v l hs hown sv m hx hsv hlen hB fun v' w' h2 h3 => hK _ _ (h v' w' h2 h3)

theorem step_appendS {ops : Array Oper} {o : Oper} {a : Act} {K : Act → World → Prop} {Q : Exit → Act → World → Prop} {F : Prop} (hgd : o.guard = none) (s x : Operand) (t : TypeId)
    (ho : o.op = .call { callee := .builtin .append, args := #[s, x], argTypes := #[t, t] })
    (E : TypeId) (hT : P.underlying t = some (.slice E)) (hE : IntElem P E) (B : Nat) (v : Value) (l : List Int) (hs : a.eval s = v) (hown : OwnI E B w v l)
    (sv : Value) (m : List Int) (hx : a.eval x = sv) (hsv : Ints w sv m) (hlen : l.length + m.length ≤ 17592186044416) (hB : B ≤ w.heap.size)
    (h : ∀ v' w', OwnI E B w' v' (l ++ m) → w.grownBy w' v.ownBlock → K (a.put o.dst v') w') : if Region.wanted o (yielded ops a.tmps) = true then Oper.wp P o a w K Q else F := by
  have hw : Region.wanted o (yielded ops a.tmps) = true := by simp [Region.wanted, hgd]
  rw [if_pos hw]
  exact wp_appendS s x t ho E hT hE B v l hs hown sv m hx hsv hlen hB h

/-- out = append(out, y) at a step of a region that draws its order -/
theorem step_appendI {ops : Array Oper} {o : Oper} {a : Act} {K : Act → World → Prop} {Q : Exit → Act → World → Prop} {F : Prop} (hgd : o.guard = none) (s x : Operand) (t : TypeId)
    (ho : o.op = .call { callee := .builtin .append, args := #[s, x], argTypes := #[t, t] })
    (E : TypeId) (hT : P.underlying t = some (.slice E)) (hE : IntElem P E) (B : Nat) (v : Value) (l : List Int) (y : Int) (b : Nat) (hs : a.eval s = v) (hx : a.eval x = .slice (some ⟨b, 0, none⟩) 1 1)
    (hy : w.cell? ⟨b, 0, none⟩ = some (.int .i64 y))
    (hown : OwnI E B w v l) (hyr : InR y) (hlen : l.length < 17592186044415) (hB : B ≤ w.heap.size)
    (h : ∀ v' w', OwnI E B w' v' (l ++ [y]) → w.grownBy w' v.ownBlock → K (a.put o.dst v') w') : if Region.wanted o (yielded ops a.tmps) = true then Oper.wp P o a w K Q else F :=
  step_appendS hgd s x t ho E hT hE B v l hs hown (.slice (some ⟨b, 0, none⟩) 1 1) [y] hx
    ⟨some ⟨b, 0, none⟩, 1, rfl, Nat.le_refl _, by decide, by intro q hq; simp only [List.mem_singleton] at hq; subst hq; exact hyr,
      .inr ⟨b, 0, rfl, World.block_lt_of_cell? w _ hy, fun k hk => by have : k = 0 := by simpa using hk
                                                                      subst this; exact hy⟩⟩ (by simp; omega) hB h
end

/-- s[k:] -/
theorem Ints.from {P : Program} {w : World} {a : Option Addr} {c : Nat} {l : List Int} (h : Ints w (.slice a l.length c) l) (T E : TypeId) (hT : P.underlying T = some (.slice E)) (hE : IntElem P E) (k : Nat) (hk : k ≤ l.length) :
    ∃ a' c', (∀ (kk : IntKind) (w' : World), (Instr.slice T (.slice a l.length c) (some (.int kk (k : Int))) none none).run P w' = .ok (.slice a' (l.drop k).length c') w') ∧ Ints w (.slice a' (l.drop k).length c') (l.drop k) := by
  obtain ⟨i, hi, _, h1, _⟩ := hE.get
  have hEl : P.elem T = E := by simp [Program.elem, hT]
  obtain ⟨hl, hcl, hcm⟩ := h.capLe
  refine ⟨if c = k then a else a.map (·.add (k * 1)), c - k, fun kk w' => ?_, ?_⟩
  · rw [run_slice_l w' T a l.length c (by rw [hEl]; exact hT) kk k (by omega) (by omega)]
    simp [sizeOf, typeInfo, hEl, hi, h1, Result.andThen, sliced, List.length_drop]
  · rcases Nat.lt_or_ge k l.length with hlt | hge
    · have h0 := h
      obtain ⟨a1, c1, he, _, _, _, h4⟩ := h0
      simp only [Value.slice.injEq] at he
      obtain ⟨rfl, _, rfl⟩ := he
      rcases h4 with rfl | ⟨b, off, rfl, _, _⟩
      · simp at hlt
      · rw [if_neg (by omega)]
        have := Ints.dropK h k (by omega)
        rw [List.length_drop]
        have e : (Option.map (fun x : Addr => x.add (k * 1)) (some (⟨b, off, none⟩ : Addr))) = some ⟨b, off + k, none⟩ := by
          simp only [Option.map_some, Nat.mul_one, Addr.add]
          split
          · rename_i h0; rw [h0]; rfl
          · rfl
        rw [e]
        exact this
    · have e : l.drop k = [] := List.drop_eq_nil_of_le hge
      rw [e]
      exact Ints.empty w _ _ _ rfl (by omega)
end Go.G5

namespace Go.Proofs.YtipejodijbjpcaaGreatDoor
open Go.RowKit Go.G5

set_option maxHeartbeats 400000 in
theorem clone_any (v : Value) (l : List Int) (w : World) (hv : Ints w v l) (hl : l.length ≤ 1048576) :
    Calls Tryz.prog 242 #[v] w fun e w' => ∃ ad i c, e = .returned (.slice ad i c) ∧ OwnI 3 w.heap.size w' (.slice ad i c) l ∧ Below w.heap.size w w' := by
  have hv0 := hv
  obtain ⟨a, c, rfl, h1, h2, h3, h4⟩ := hv
  have hnil := fun (w : World) (a : Option Addr) (n c n' c' : Nat) => Lib.run_eql_slice_nil (P := Tryz.prog) w 22 3 a n c n' c' Tryz.underlying22
  cases a with
  | none =>
    have e : l = [] := by
      rcases h4 with h | ⟨b, off, hb, _⟩
      · exact h
      · cases hb
    subst e
    clear h4 h3
    go_enter Tryz.func242, Tryz.ntmps242
    go_wp2
    go_ret
    exact ⟨none, 0, 0, rfl, OwnI.nil _ _ _, Below.refl _ _⟩
  | some ad =>
    clear h4 h3
    go_enter Tryz.func242, Tryz.ntmps242
    go_wp2_with (at_builtin; refine wpList_appendS rfl _ _ _ rfl 3 Tryz.underlying22 intElem w.heap.size _ [] rfl (OwnI.lit0 w (Nat.le_refl _)) _ l rfl (hv0.alloc _) (by simp; omega) (by simp) ?_; intro v' w6 hown hgr; obtain ⟨av, nv, cv, rfl⟩ := hown.shape3)
    go_ret
    refine ⟨av, nv, cv, rfl, by simpa using hown, (bl1 w (.cells #[] 3)).grown hgr (by simp) ?_⟩
    intro k hk
    have hk' : some w.heap.size = some k := hk
    exact Nat.le_of_eq (Option.some.inj hk')
end Go.Proofs.YtipejodijbjpcaaGreatDoor
end
section
namespace Go.Proofs.YtipejodijbjpcaaGreatDoor
open Go.RowKit Go.G5

def has (l : List Int) (s : Int) : Bool := decide (s ∈ l)
theorem has_true {l : List Int} {s : Int} : has l s = true ↔ s ∈ l := by simp [has]
theorem has_at (l : List Int) (k : Nat) (h : k < l.length) : has l l[k] = true := has_true.2 (List.getElem_mem h)
theorem has_false {l : List Int} {s : Int} (h : ∀ k, (hk : k < l.length) → l[k] ≠ s) : has l s = false := by
  unfold has
  rw [decide_eq_false_iff_not]
  intro hm
  obtain ⟨k, hk, he⟩ := List.getElem_of_mem hm
  exact h k hk he

theorem cmpNaN_any (x : Int) (w : World) : Calls Tryz.prog 374 #[.int .i64 x] w fun e w' => e = .returned (.bool false) ∧ w = w' := by
  have h : (x != x) = false := by simp
  go_enter Tryz.func374, Tryz.ntmps374
  go_wp2
  go_ret
  exact ⟨rfl, rfl⟩
theorem slNaN_any (x : Int) (w : World) : Calls Tryz.prog 348 #[.int .i64 x] w fun e w' => e = .returned (.bool false) ∧ w = w' := by
  have h : (x != x) = false := by simp
  go_enter Tryz.func348, Tryz.ntmps348
  go_wp2
  go_ret
  exact ⟨rfl, rfl⟩
theorem cmpLess_any (x y : Int) (w : World) : Calls Tryz.prog 347 #[.int .i64 x, .int .i64 y] w fun e w' => e = .returned (.bool (decide (x < y))) ∧ w = w' := by
  go_enter Tryz.func347, Tryz.ntmps347
  go_wp2_with (go_at_call 374; refine (cmpNaN_any _ _).mono ?_; rintro e w' ⟨rfl, rfl⟩)
  go_ret
  exact ⟨rfl, rfl⟩

set_option maxHeartbeats 1000000 in
theorem binSearch_any (l : List Int) (v : Value) (s : Int) (w : World) (hv : Ints w v l) (hasc : l.Pairwise (· < ·)) (hl : l.length ≤ 1048576) :
    Calls Tryz.prog 310 #[v, .int .i64 s] w fun e w' => (∃ i : Int, e = .returned (.tuple #[.int .i64 i, .bool (has l s)])) ∧ w = w' := by
  obtain ⟨a, b, off, c, rfl, hlen, hix, hc, hb⟩ := hv.view Tryz.prog 22 3 Tryz.underlying22 intElem
  have hmono : ∀ i j, (hi : i < l.length) → (hj : j < l.length) → i < j → l[i] < l[j] := fun i j hi hj hij => List.pairwise_iff_getElem.1 hasc i j hi hj hij
  have HMO := Lib.hid hmono
  clear hmono hasc
  go_enter Tryz.func310, Tryz.ntmps310
  go_wp2
  go_loop [7, 8] (fun i j => ∃ p q : Nat, p ≤ q ∧ q ≤ l.length ∧ i = .int .i64 p ∧ j = .int .i64 q ∧ (∀ t, (ht : t < l.length) → t < p → l[t] < s) ∧ (∀ t, (ht : t < l.length) → q ≤ t → s ≤ l[t])) (fun i j => (intOf j).toNat - (intOf i).toNat)
  case atStart => exact ⟨0, l.length, Nat.zero_le _, Nat.le_refl _, rfl, rfl, by intros; omega, by intros; omega⟩
  case round =>
    obtain ⟨p, q, hpq, hql, rfl, rfl, hlo, hhi⟩ := hrel
    have HLO := Lib.hid hlo
    have HHI := Lib.hid hhi
    clear hlo hhi
    by_cases hlt : p < q
    · have hm : (p + q) / 2 < l.length := by omega
      have hcm := hc ((p + q) / 2) hm
      have hixm : ∀ w', (Instr.indexAt 22 (.slice a l.length c) (.int .i64 (((p : Int) + (q : Int)) / 2))).run Tryz.prog w' = .ok (.pointer (some ⟨b, off + (p + q) / 2, none⟩)) w' := fun w' => by
        rw [show (((p : Int) + (q : Int)) / 2) = (((p + q) / 2 : Nat) : Int) by omega]
        exact hix w' _ hm
      by_cases hls : l[(p + q) / 2] < s
      · go_wp2_with (go_at_call 347; refine (cmpLess_any _ _ _).mono ?_; rintro e w' ⟨rfl, rfl⟩)
        go_round
        case rel =>
          refine ⟨(p + q) / 2 + 1, q, by omega, hql, by go_num, rfl, fun t ht htp => ?_, HHI.out⟩
          by_cases h : t = (p + q) / 2
          · subst h; exact hls
          · have := HMO.out t ((p + q) / 2) ht hm (by omega); omega
        case measure => simp [intOf]; omega
      · go_wp2_with (go_at_call 347; refine (cmpLess_any _ _ _).mono ?_; rintro e w' ⟨rfl, rfl⟩)
        go_round
        case rel =>
          refine ⟨p, (p + q) / 2, by omega, by omega, rfl, by go_num, HLO.out, fun t ht htp => ?_⟩
          by_cases h : t = (p + q) / 2
          · subst h; omega
          · have := HMO.out ((p + q) / 2) t hm ht (by omega); omega
        case measure => simp [intOf]; omega
    · have hpq' : p = q := by omega
      by_cases hpl : p < l.length
      · have hcp := hc p hpl
        by_cases he : l[p] = s
        · have ht : (l[p] == s) = true := by simp [he]
          have hh : has l s = true := by rw [← he]; exact has_at l p hpl
          have HH := Lib.hid hh
          clear he hh hpq'
          go_wp2_with (go_at_call 348; refine (slNaN_any _ _).mono ?_; rintro e w' ⟨rfl, rfl⟩)
          go_ret2
          exact ⟨⟨p, by rw [HH.out]; rfl⟩, rfl⟩
        · have ht : (l[p] == s) = false := by simp [he]
          have hh : has l s = false := has_false fun t ht' hts => by
            rcases Nat.lt_trichotomy t p with h | h | h
            · have := HLO.out t ht' h; omega
            · subst h; exact he hts
            · have h1 := HHI.out p hpl (by omega)
              have h2 := HMO.out p t hpl ht' h
              omega
          have HH := Lib.hid hh
          clear he hh hpq'
          go_wp2_with (go_at_call 348; refine (slNaN_any _ _).mono ?_; rintro e w' ⟨rfl, rfl⟩)
          go_ret2
          exact ⟨⟨p, by rw [HH.out]; rfl⟩, rfl⟩
      · have hh : has l s = false := has_false fun t ht' hts => by
          have := HLO.out t ht' (by omega); omega
        have HH := Lib.hid hh
        clear hh hpq'
        go_wp2
        go_ret2
        exact ⟨⟨p, by rw [HH.out]; rfl⟩, rfl⟩

theorem hasSet_any (g : Int) (l : List Int) (v : Value) (s : Int) (w : World) (hv : Ints w v l) (hasc : l.Pairwise (· < ·)) (hl : l.length ≤ 1048576) :
    Calls Tryz.prog 236 #[.agg #[.int .i64 g, v], .int .i64 s] w fun e w' => e = .returned (.bool (has l s)) ∧ Below w.heap.size w w' := by
  obtain ⟨av, cv, rfl⟩ := hv.shape
  have H := Lib.hid hasc
  clear hasc
  go_enter Tryz.func236, Tryz.ntmps236
  go_wp2_with (go_at_call 310; refine (binSearch_any l _ _ _ (hv.alloc _) H.out hl).mono ?_; rintro e w' ⟨⟨i, rfl⟩, rfl⟩)
  go_ret
  exact ⟨rfl, bl1 _ _⟩
end Go.Proofs.YtipejodijbjpcaaGreatDoor
end
