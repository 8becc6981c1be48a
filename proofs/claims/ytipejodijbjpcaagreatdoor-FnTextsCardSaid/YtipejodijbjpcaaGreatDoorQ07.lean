/- Rows of ints that a call owns, their slice perhaps shorter in capacity than the block; sorting. append, told with where the result lies. The laws' own marks. Marks of values with several lists. -/
import Derived.Test.YtipejodijbjpcaaGreatDoorQ06
import Derived.Sort.Grow
import Derived.Deep.Light
section
namespace Go.G5
open Go Go.RowKit

/-- as OwnI, but the slice's capacity may be less than its block has -/
def OwnW (E : TypeId) (B : Nat) (w : World) (v : Value) (l : List Int) : Prop :=
  (∀ x ∈ l, InR x) ∧ ((v = .slice none 0 0 ∧ l = []) ∨ ∃ g cap cur, v = .slice (some ⟨g, 0, none⟩) l.length cap ∧ B ≤ g ∧ w.heap[g]? = some (.cells cur E (0, 0)) ∧ l.length ≤ cap ∧ cap ≤ cur.size ∧ cap ≤ maxLen ∧ cur.toList.take l.length = l.map (Value.int .i64))
section
variable {E : TypeId} {B : Nat} {w w' : World} {v : Value} {l : List Int}
theorem OwnI.toW (h : OwnI E B w v l) : OwnW E B w v l := by
  obtain ⟨⟨h0, h1⟩, h2⟩ := h
  refine ⟨h2, ?_⟩
  rcases h1 with ⟨rfl, hn⟩ | ⟨g, cap, cur, rfl, hB, hg, hn, hm, hcs, ht⟩
  · exact .inl ⟨rfl, List.eq_nil_of_length_eq_zero hn⟩
  · exact .inr ⟨g, cap, cur, rfl, hB, hg, hn, by omega, hm, by simpa using ht⟩
theorem OwnW.toW (h : OwnW E B w v l) : OwnW E B w v l := h
theorem OwnW.nil (E : TypeId) (B : Nat) (w : World) : OwnW E B w (.slice none 0 0) [] := ⟨by simp, .inl ⟨rfl, rfl⟩⟩
theorem OwnW.below {B' : Nat} (h : OwnW E B w v l) (hb : Below B' w w') (hB : w.heap.size ≤ B') : OwnW E B w' v l := by
  refine ⟨h.1, ?_⟩
  rcases h.2 with h1 | ⟨g, cap, cur, rfl, hBg, hg, r⟩
  · exact .inl h1
  · exact .inr ⟨g, cap, cur, rfl, hBg, by rw [hb.block g (by have := (Array.getElem?_eq_some_iff.1 hg).1; omega)]; exact hg, r⟩
theorem OwnW.keep (h : OwnW E B w v l) (hb : Below w.heap.size w w') : OwnW E B w' v l := h.below hb (Nat.le_refl _)
theorem OwnW.alloc (h : OwnW E B w v l) (o : Obj) : OwnW E B (w.alloc o) v l := h.keep (bl1 w o)
theorem OwnW.drewN (h : OwnW E B w v l) (n : Nat) : OwnW E B (w.drewN n) v l := h.below ((Below.refl w.heap.size w).drewN' n) (Nat.le_refl _)
theorem OwnW.mono {B' : Nat} (h : OwnW E B w v l) (hB : B' ≤ B) : OwnW E B' w v l := by
  refine ⟨h.1, ?_⟩
  rcases h.2 with h1 | ⟨g, cap, cur, rfl, hBg, r⟩
  · exact .inl h1
  · exact .inr ⟨g, cap, cur, rfl, by omega, r⟩
theorem OwnW.lt (h : OwnW E B w v l) : ∀ k, v.ownBlock = some k → B ≤ k ∧ k < w.heap.size := by
  intro k hk
  rcases h.2 with ⟨rfl, _⟩ | ⟨g, cap, cur, rfl, hBg, hg, _⟩
  · simp [Value.ownBlock] at hk
  · have : g = k := by simpa [Value.ownBlock] using hk
    subst this
    exact ⟨hBg, (Array.getElem?_eq_some_iff.1 hg).1⟩
theorem OwnW.grow {row : Option Nat} (h : OwnW E B w v l) (hg : w.grownBy w' row) (hne : ∀ k, row = some k → v.ownBlock ≠ some k) : OwnW E B w' v l := by
  refine ⟨h.1, ?_⟩
  rcases h.2 with h1 | ⟨g, cap, cur, rfl, hBg, hh, r⟩
  · exact .inl h1
  · refine .inr ⟨g, cap, cur, rfl, hBg, ?_, r⟩
    rw [hg.block g (Array.getElem?_eq_some_iff.1 hh).1 (fun e => hne g e.symm rfl)]
    exact hh
theorem OwnW.setBelow (h : OwnW E B w v l) {a : Addr} (ha : a.block < B) (u : Value) : OwnW E B (w.setCell a u) v l := by
  refine ⟨h.1, ?_⟩
  rcases h.2 with h1 | ⟨g, cap, cur, rfl, hBg, hh, r⟩
  · exact .inl h1
  · refine .inr ⟨g, cap, cur, rfl, hBg, ?_, r⟩
    rw [Below.heap_setCell w a u g (by omega)]
    exact hh
theorem OwnW.cases (h : OwnW E B w v l) : (v = .slice none 0 0 ∧ l = []) ∨ ∃ g cap, v = .slice (some ⟨g, 0, none⟩) l.length cap ∧ B ≤ g ∧ g < w.heap.size := by
  rcases h.2 with h1 | ⟨g, cap, cur, rfl, hBg, hg, _⟩
  · exact .inl h1
  · exact .inr ⟨g, cap, rfl, hBg, (Array.getElem?_eq_some_iff.1 hg).1⟩
theorem OwnW.cell' {g n cap : Nat} (h : OwnW E B w (.slice (some ⟨g, 0, none⟩) n cap) l) (j : Nat) (hj : j < l.length) : w.cell? ⟨g, j, none⟩ = some (.int .i64 l[j]) := by
  rcases h.2 with ⟨e, _⟩ | ⟨g', cap', cur, e, _, hg, hlc, hcc, _, ht⟩
  · simp at e
  · simp only [Value.slice.injEq, Option.some.injEq, Addr.mk.injEq, and_true] at e
    obtain ⟨rfl, _, rfl⟩ := e
    have hc : w.cell? ⟨g, j, none⟩ = cur[j]? := cell_of_row w g j cur E (0, 0) hg
    rw [hc]
    have h1 : (cur.toList.take l.length)[j]? = some (.int .i64 l[j]) := by rw [ht, List.getElem?_map, List.getElem?_eq_getElem hj]; rfl
    rw [List.getElem?_take_of_lt hj] at h1
    rw [← Array.getElem?_toList]
    exact h1
theorem OwnW.ints (h : OwnW E B w v l) : Ints w v l := by
  rcases h.2 with ⟨rfl, rfl⟩ | ⟨g, cap, cur, rfl, hBg, hg, hlc, hcc, hm, ht⟩
  · exact ⟨none, 0, rfl, Nat.le_refl _, Nat.zero_le _, by simp, .inl rfl⟩
  · exact ⟨_, cap, rfl, hlc, hm, h.1, .inr ⟨g, 0, rfl, (Array.getElem?_eq_some_iff.1 hg).1, fun k hk => by rw [Nat.zero_add]; exact h.cell' k hk⟩⟩
theorem OwnW.shape (h : OwnW E B w v l) : ∃ a c, v = .slice a l.length c := by
  obtain ⟨a, c, rfl, _⟩ := h.ints
  exact ⟨a, c, rfl⟩
theorem OwnW.shape3 (h : OwnW E B w v l) : ∃ a n c, v = .slice a n c := by
  obtain ⟨a, c, rfl, _⟩ := h.ints
  exact ⟨a, _, c, rfl⟩
theorem OwnW.cellAt {g n cap : Nat} (h : OwnW E B w (.slice (some ⟨g, 0, none⟩) n cap) l) (_ : n = l.length) (j : Nat) (hj : j < l.length) : w.cell? ⟨g, j, none⟩ = some (.int .i64 l[j]) := h.cell' j hj
theorem OwnW.frozenAt {g n cap : Nat} (h : OwnW E B w (.slice (some ⟨g, 0, none⟩) n cap) l) (_ : n = l.length) (j : Nat) : w.frozen? ⟨g, j, none⟩ = false := by
  rcases h.2 with ⟨e, _⟩ | ⟨g', cap', cur, e, _, hg, _⟩
  · simp at e
  · simp only [Value.slice.injEq, Option.some.injEq, Addr.mk.injEq, and_true] at e
    obtain ⟨rfl, _, rfl⟩ := e
    simp [World.frozen?, hg]
theorem OwnW.stored {g n cap : Nat} (h : OwnW E B w (.slice (some ⟨g, 0, none⟩) n cap) l) (hn : n = l.length) (j : Nat) (y : Int) (hy : InR y) :
    OwnW E B (w.setCell ⟨g, j, none⟩ (.int .i64 y)) (.slice (some ⟨g, 0, none⟩) n cap) (l.set j y) ∧ w.grownBy (w.setCell ⟨g, j, none⟩ (.int .i64 y)) (some g) := by
  subst hn
  refine ⟨⟨?_, ?_⟩, ⟨rfl, rfl, rfl, by simp, fun b hb hne => Below.heap_setCell w _ _ b (by intro e; exact hne (by rw [e]))⟩⟩
  · intro z hz
    rcases List.mem_or_eq_of_mem_set hz with hz | hz
    · exact h.1 z hz
    · subst hz; exact hy
  · right
    rcases h.2 with ⟨e, _⟩ | ⟨g', cap', cur, e, hB, hg, hlc, hcc, hm, ht⟩
    · simp at e
    · simp only [Value.slice.injEq, Option.some.injEq, Addr.mk.injEq, and_true] at e
      obtain ⟨rfl, _, rfl⟩ := e
      refine ⟨g, cap, cur.setIfInBounds j (.int .i64 y), by simp, hB, ?_, by simpa using hlc, by simpa using hcc, hm, ?_⟩
      · simp [World.setCell, Array.getElem?_modify, hg]
      · rw [List.length_set, Array.toList_setIfInBounds, List.take_set, ht, List.map_set]
end

def Apart (u v : Value) : Prop := ∀ k, u.ownBlock = some k → v.ownBlock ≠ some k
theorem Apart.symm {u v : Value} (h : Apart u v) : Apart v u := fun k hk hu => h k hu hk
theorem Apart.of_lt {E E' : TypeId} {B B' : Nat} {w w' : World} {u v : Value} {l m : List Int} (h : OwnW E B w u l) (h' : OwnW E' B' w' v m) (hB : w.heap.size ≤ B') : Apart u v := fun k hk hv => by
  have := (h.lt k hk).2
  have := (h'.lt k hv).1
  omega

/-! sorting -/
theorem OwnI.cut {E : TypeId} {B : Nat} {w : World} {g n cap : Nat} {l : List Int} (h : OwnI E B w (.slice (some ⟨g, 0, none⟩) n cap) l) (k : Nat) (hk : k ≤ l.length) : OwnI E B w (.slice (some ⟨g, 0, none⟩) k cap) (l.take k) := by
  obtain ⟨⟨h0, h1⟩, h2⟩ := h
  rcases h1 with ⟨e, _⟩ | ⟨g', cap', cur, e, hB, hg, hn, hm, hcs, ht⟩
  · simp at e
  · simp only [Value.slice.injEq, Option.some.injEq, Addr.mk.injEq, and_true] at e
    obtain ⟨rfl, rfl, rfl⟩ := e
    have hl : (l.take k).length = k := by simp; omega
    refine ⟨⟨by rw [List.length_map, hl]; omega, .inr ⟨g, cap, cur, by rw [hl], hB, hg, by omega, hm, hcs, ?_⟩⟩, fun x hx => h2 x (List.mem_of_mem_take hx)⟩
    rw [hl, Nat.mul_one]
    rw [Nat.mul_one] at ht
    rw [List.map_take, ← ht, List.take_take, Nat.min_eq_left hk]
theorem OwnI.holds {E : TypeId} {B : Nat} {w : World} {g n cap : Nat} {l : List Int} (h : OwnI E B w (.slice (some ⟨g, 0, none⟩) n cap) l) (hn : n = l.length) : Go.Sort.Holds (Value.int .i64) w g 0 l.toArray := by
  intro j hj
  have hj' : j < l.length := by simpa using hj
  refine ⟨?_, ?_⟩
  · rw [Nat.zero_add, h.cellAt hn j hj', getElem!_pos l.toArray j hj]; simp
  · rw [Nat.zero_add]; exact h.frozenAt hn j
theorem OwnI.put {E : TypeId} {B : Nat} {w : World} {g n cap : Nat} {l : List Int} (h : OwnI E B w (.slice (some ⟨g, 0, none⟩) n cap) l) (l' : List Int) (hl : l'.length = l.length) (hr : ∀ x ∈ l', InR x) (q : Nat) (os : Array Obj) :
    OwnI E B (Go.Sort.grow (Go.Sort.putRow (Value.int .i64) (Go.Sort.ahead w q) g 0 l'.toArray) os) (.slice (some ⟨g, 0, none⟩) n cap) l' ∧ w.grownBy (Go.Sort.grow (Go.Sort.putRow (Value.int .i64) (Go.Sort.ahead w q) g 0 l'.toArray) os) (some g) := by
  obtain ⟨⟨h0, h1⟩, h2⟩ := h
  rcases h1 with ⟨e, _⟩ | ⟨g', cap', cur, e, hB, hg, hn, hm, hcs, ht⟩
  · simp at e
  · simp only [Value.slice.injEq, Option.some.injEq, Addr.mk.injEq, and_true] at e
    obtain ⟨rfl, rfl, rfl⟩ := e
    have hlt := (Array.getElem?_eq_some_iff.1 hg).1
    have hblock : ∀ b, b < w.heap.size → (Go.Sort.grow (Go.Sort.putRow (Value.int .i64) (Go.Sort.ahead w q) g 0 l'.toArray) os).heap[b]? = (w.heap.modify g (Go.Sort.onCells (Go.Sort.putCells (Value.int .i64) 0 l'.toArray)))[b]? := by
      intro b hb
      unfold Go.Sort.grow Go.Sort.putRow Go.Sort.mapBlock Go.Sort.ahead
      simp only
      rw [Array.getElem?_append_left (by simpa using hb)]
    refine ⟨⟨⟨by rw [List.length_map, Nat.mul_one], .inr ⟨g, cap, Go.Sort.putCells (Value.int .i64) 0 l'.toArray cur, by rw [hl], hB, ?_, by omega, hm, ?_, ?_⟩⟩, hr⟩, ⟨rfl, rfl, rfl, ?_, ?_⟩⟩
    · rw [hblock g hlt, Array.getElem?_modify, if_pos rfl, hg]; rfl
    · unfold Go.Sort.putCells; simpa using hcs
    · rw [Nat.mul_one]
      have hcl : l.length ≤ cur.size := by omega
      apply List.ext_getElem?
      intro k
      by_cases hk : k < l'.length
      · rw [List.getElem?_take_of_lt hk, Array.getElem?_toList]
        unfold Go.Sort.putCells
        rw [Array.getElem?_mapIdx, Array.getElem?_eq_getElem (show k < cur.size by omega), Option.map_some, if_pos ⟨by omega, by simpa using hk⟩, Nat.sub_zero, getElem!_pos l'.toArray k (by simpa using hk), List.getElem?_map, List.getElem?_eq_getElem hk]
        simp
      · rw [List.getElem?_eq_none (by simp; omega), List.getElem?_eq_none (by simpa using hk)]
    · simp [Go.Sort.grow, Go.Sort.putRow, Go.Sort.mapBlock, Go.Sort.ahead]
    · intro b hb hne
      rw [hblock b hb, Array.getElem?_modify, if_neg (fun e => hne (by rw [e]))]
end Go.G5
end
section
namespace Go.G5
open Go Go.RowKit

section
variable {P : Program} {w : World}
/-- where a result of append lies: where the slice lay, or in a new block -/
def NearBy (w : World) (v v' : Value) : Prop := v'.ownBlock = v.ownBlock ∨ v'.ownBlock = some w.heap.size
theorem run_appendN (T E ty : TypeId) (hT : P.underlying T = some (.slice E)) (hE : IntElem P E) (B : Nat) (v : Value) (l : List Int) (hown : OwnI E B w v l)
    (sv : Value) (m : List Int) (hs : Ints w sv m) (hlen : l.length + m.length ≤ 17592186044416) (hB : B ≤ w.heap.size) :
    ∃ v' w', (Builtin.append_ #[T, T] ty #[v, sv]).run P w = .ok v' w' ∧ OwnI E B w' v' (l ++ m) ∧ w.grownBy w' v.ownBlock ∧ NearBy w v v' := by
  obtain ⟨i, hi, hz, h1, h8⟩ := hE.get
  obtain ⟨ad, c, rfl, hmc, hcm, hr, h4⟩ := hs
  have hall : ∀ q ∈ l ++ m, InR q := fun q hq => (List.mem_append.1 hq).elim (hown.2 q) (hr q)
  have hempty : ad = none → m = [] := by
    intro e
    rcases h4 with h | ⟨b, off, hb, _⟩
    · exact h
    · rw [e] at hb; cases hb
  cases ad with
  | none =>
    have := hempty rfl
    subst this
    refine ⟨v, w, ?_, by simpa using hown, World.grownBy.refl w _, .inl rfl⟩
    rcases hown.1.2 with ⟨rfl, hn⟩ | ⟨g, cap, cur, rfl, _, _, hnc, _⟩
    · simp [Builtin.append_, run_underlying hT, sizeOf, typeInfo, hi, Builtin.lenOf, Builtin.firstCells]
    · simp [Builtin.append_, run_underlying hT, sizeOf, typeInfo, hi, Builtin.lenOf, Builtin.firstCells, hnc, storeCells]
  | some ad =>
    have hcells : ∀ j u, (m.map (Value.int .i64))[j]? = some u → w.cell? (ad.add j) = some u := by
      intro j u hu
      rcases h4 with h | ⟨b, off, hb, _, hc⟩
      · subst h; simp at hu
      · simp only [Option.some.injEq] at hb
        subst hb
        have hj : j < m.length := by
          rcases Nat.lt_or_ge j m.length with h | h
          · exact h
          · rw [List.getElem?_eq_none (by simpa using h)] at hu; cases hu
        have := hc j hj
        have e : (⟨b, off, none⟩ : Addr).add j = ⟨b, off + j, none⟩ := by
          unfold Addr.add; split
          · rename_i h0; rw [h0]; rfl
          · rfl
        rw [e, this]
        rw [List.getElem?_map, List.getElem?_eq_getElem hj] at hu
        exact hu
    obtain ⟨v', w', hrun, h2, h3, _, h5⟩ := run_append_own_at (P := P) w B T ty E i (.int .i64 0) 1 8 hT hi hz h1 h8 rfl (by decide) v l.length (l.map (Value.int .i64)) hown.1 ad m.length c (m.map (Value.int .i64)) (by simp) hcells
      (by intro u hu; obtain ⟨q, _, rfl⟩ := List.mem_map.1 hu; rfl) (by unfold maxLen; omega) (by omega) hB
    exact ⟨v', w', hrun, ⟨by simpa using h2, hall⟩, h3, h5⟩
theorem wp_appendN {o : Oper} {a : Act} {K : Act → World → Prop} {Q : Exit → Act → World → Prop} (s x : Operand) (t : TypeId)
    (ho : o.op = .call { callee := .builtin .append, args := #[s, x], argTypes := #[t, t] })
    (E : TypeId) (hT : P.underlying t = some (.slice E)) (hE : IntElem P E) (B : Nat) (v : Value) (l : List Int) (hs : a.eval s = v) (hown : OwnI E B w v l)
    (sv : Value) (m : List Int) (hx : a.eval x = sv) (hsv : Ints w sv m) (hlen : l.length + m.length ≤ 17592186044416) (hB : B ≤ w.heap.size)
    (h : ∀ v' w', OwnI E B w' v' (l ++ m) → w.grownBy w' v.ownBlock → NearBy w v v' → K (a.put o.dst v') w') : o.wp P a w K Q := by
  obtain ⟨v', w', hrun, h2, h3, h4⟩ := run_appendN (P := P) t E o.type hT hE B v l hown sv m hsv hlen hB
  unfold Oper.wp execOp
  simp only [ho, resolve, invoke, builtin, Sem.run_bind, Sem.run_pure, Result.andThen_ok, List.map_toArray, List.map_cons, List.map_nil, hs, hx, hrun]
  exact h v' w' h2 h3 h4
theorem Ints.one {w : World} {b : Nat} {y : Int} (hy : w.cell? ⟨b, 0, none⟩ = some (.int .i64 y)) (hyr : InR y) : Ints w (.slice (some ⟨b, 0, none⟩) 1 1) [y] :=
  ⟨some ⟨b, 0, none⟩, 1, rfl, Nat.le_refl _, by decide, by intro q hq; simp only [List.mem_singleton] at hq; subst hq; exact hyr,
      .inr ⟨b, 0, rfl, World.block_lt_of_cell? w _ hy, fun k hk => by have : k = 0 := by simpa using hk
                                                                      subst this; exact hy⟩⟩
/-- out = append(out, y) -/
theorem wpList_appendN1 {ops : Array Oper} {rest : List Oper} {o : Oper} {a : Act} {Q : Exit → Act → World → Prop} (hgd : o.guard = none) (s x : Operand) (t : TypeId)
    (ho : o.op = .call { callee := .builtin .append, args := #[s, x], argTypes := #[t, t] })
    (E : TypeId) (hT : P.underlying t = some (.slice E)) (hE : IntElem P E) (B : Nat) (v : Value) (l : List Int) (y : Int) (b : Nat) (hs : a.eval s = v) (hx : a.eval x = .slice (some ⟨b, 0, none⟩) 1 1)
    (hy : w.cell? ⟨b, 0, none⟩ = some (.int .i64 y))
    (hown : OwnI E B w v l) (hyr : InR y) (hlen : l.length < 17592186044415) (hB : B ≤ w.heap.size)
    (h : ∀ v' w', OwnI E B w' v' (l ++ [y]) → w.grownBy w' v.ownBlock → NearBy w v v' → wpList P ops Q rest (a.put o.dst v') w') : wpList P ops Q (o :: rest) a w :=
  wpList_plain hgd fun _ hK => wp_appendN s x t ho E hT hE B v l hs hown _ [y] hx (Ints.one hy hyr) (by simp; omega) hB fun v' w' h2 h3 h4 => hK _ _ (h v' w' h2 h3 h4)
/-- out = append(out, s...) -/
theorem wpList_appendN {ops : Array Oper} {rest : List Oper} {o : Oper} {a : Act} {Q : Exit → Act → World → Prop} (hgd : o.guard = none) (s x : Operand) (t : TypeId)
    (ho : o.op = .call { callee := .builtin .append, args := #[s, x], argTypes := #[t, t] })
    (E : TypeId) (hT : P.underlying t = some (.slice E)) (hE : IntElem P E) (B : Nat) (v : Value) (l : List Int) (hs : a.eval s = v) (hown : OwnI E B w v l)
    (sv : Value) (m : List Int) (hx : a.eval x = sv) (hsv : Ints w sv m) (hlen : l.length + m.length ≤ 17592186044416) (hB : B ≤ w.heap.size)
    (h : ∀ v' w', OwnI E B w' v' (l ++ m) → w.grownBy w' v.ownBlock → NearBy w v v' → wpList P ops Q rest (a.put o.dst v') w') : wpList P ops Q (o :: rest) a w :=
  wpList_plain hgd fun _ hK => wp_appendN s x t ho E hT hE B v l hs hown sv m hx hsv hlen hB fun v' w' h2 h3 h4 => hK _ _ (h v' w' h2 h3 h4)
end
/-- what is known of another own row where append has grown one that lies apart -/
theorem NearBy.apart {w : World} {v v' u : Value} (h : NearBy w v v') (ha : Apart v u) (hu : ∀ k, u.ownBlock = some k → k < w.heap.size) : Apart v' u := by
  intro k hk hku
  rcases h with h | h
  · exact ha k (h ▸ hk) hku
  · rw [h] at hk
    have e : w.heap.size = k := Option.some.inj hk
    have := hu k hku
    omega
theorem Apart.nil (c d : Nat) (u : Value) : Apart (.slice none c d) u := fun k hk _ => by simp [Value.ownBlock] at hk
theorem Ints.upto {P : Program} {w : World} {a : Option Addr} {c : Nat} {l : List Int} (h : Ints w (.slice a l.length c) l) (T E : TypeId) (hT : P.underlying T = some (.slice E)) (hE : IntElem P E) (k : Nat) (hk : k ≤ l.length) :
    (∀ (kk : IntKind) (w' : World), (Instr.slice T (.slice a l.length c) none (some (.int kk (k : Int))) none).run P w' = .ok (.slice a k c) w') ∧ Ints w (.slice a k c) (l.take k) := by
  obtain ⟨i, hi, _, h1, _⟩ := hE.get
  have hEl : P.elem T = E := by simp [Program.elem, hT]
  obtain ⟨hl, hcl, hcm⟩ := h.capLe
  have hlen : (l.take k).length = k := by simp; omega
  refine ⟨fun kk w' => ?_, ?_⟩
  · rw [run_slice_h w' T a l.length c (by rw [hEl]; exact hT) kk k (by omega) (by omega)]
    simp [sizeOf, typeInfo, hEl, hi, h1, Result.andThen, sliced]
    cases a with
    | none => simp
    | some x => simp [Addr.add]
  · obtain ⟨a1, c1, he, q1, q2, q3, h4⟩ := h
    simp only [Value.slice.injEq] at he
    obtain ⟨rfl, _, rfl⟩ := he
    refine ⟨a, c, by rw [hlen], by omega, q2, fun x hx => q3 x (List.mem_of_mem_take hx), ?_⟩
    rcases h4 with e | ⟨b, off, rfl, hb, hk'⟩
    · rw [e]; exact .inl (by simp)
    · exact .inr ⟨b, off, rfl, hb, fun j hj => by rw [hk' j (by omega), List.getElem_take]⟩
theorem OwnI.drew' {E : TypeId} {B : Nat} {w : World} {v : Value} {l : List Int} (h : OwnI E B w v l) : OwnI E B w.drew v l := h.drewN 1
theorem Ints.drew' {w : World} {v : Value} {l : List Int} (h : Ints w v l) : Ints w.drew v l := h.drewN 1

theorem grown_setCell (w : World) (a : Addr) (u : Value) : w.grownBy (w.setCell a u) (some a.block) :=
  ⟨rfl, rfl, rfl, by simp, fun b _ hne => Below.heap_setCell w _ _ b (fun e => hne (by rw [e]))⟩
theorem grow_set {w w' : World} {g : Nat} (h : w.grownBy w' (some g)) (i : Nat) (u : Value) : w.grownBy (w'.setCell ⟨g, i, none⟩ u) (some g) := gr_trans h (grown_setCell w' ⟨g, i, none⟩ u)
theorem Blk.drew' {w : World} {g : Nat} {t : TypeId} {cs : Array Value} (h : Blk w g t cs) : Blk w.drew g t cs := h
theorem Blk.second (w : World) (o : Obj) (t : TypeId) (cs : Array Value) : Blk ((w.alloc o).alloc (.cells cs t)).drew (w.heap.size + 1) t cs := by
  have h := Blk.new (w.alloc o) t cs
  have e : (w.alloc o).heap.size = w.heap.size + 1 := by simp
  rw [e] at h
  exact h
theorem Blk.first (w : World) (o : Obj) (t : TypeId) (cs : Array Value) : Blk ((w.alloc (.cells cs t)).alloc o).drew w.heap.size t cs := (Blk.new w t cs).alloc o
end Go.G5
end
section
namespace Go.Proofs.YtipejodijbjpcaaGreatDoor
open Go.RowKit Go.G5

end Go.Proofs.YtipejodijbjpcaaGreatDoor
end
section
namespace Go.G5
open Go Go.RowKit
/-- w' is w with new blocks and changes to blocks of P alone -/
structure GrownIn (w w' : World) (P : Nat → Prop) : Prop where
  os : w'.os = w.os
  tape : w'.tape = w.tape
  output : w'.output = w.output
  size : w.heap.size ≤ w'.heap.size
  block : ∀ b, b < w.heap.size → ¬ P b → w'.heap[b]? = w.heap[b]?
section
variable {w w' w'' : World} {P : Nat → Prop}
theorem GrownIn.refl (w : World) (P : Nat → Prop) : GrownIn w w P := ⟨rfl, rfl, rfl, Nat.le_refl _, fun _ _ _ => rfl⟩
theorem GrownIn.trans (h : GrownIn w w' P) (k : GrownIn w' w'' P) : GrownIn w w'' P :=
  ⟨k.os.trans h.os, k.tape.trans h.tape, k.output.trans h.output, Nat.le_trans h.size k.size, fun b hb hr => (k.block b (Nat.lt_of_lt_of_le hb h.size) hr).trans (h.block b hb hr)⟩
theorem GrownIn.of_row {row : Option Nat} (h : w.grownBy w' row) (hP : ∀ k, row = some k → P k) : GrownIn w w' P := ⟨h.os, h.tape, h.output, h.size, fun b hb hn => h.block b hb (fun e => hn (hP b e.symm))⟩
theorem GrownIn.of_below (h : Below w.heap.size w w') : GrownIn w w' P := ⟨h.os, h.tape, h.output, h.size, fun b hb _ => h.block b hb⟩
theorem Blk.growIn {g : Nat} {t : TypeId} {cs : Array Value} (h : Blk w g t cs) (hg : GrownIn w w' P) (hn : ¬ P g) : Blk w' g t cs := (hg.block g h.lt hn).trans h
theorem OwnW.growIn {E : TypeId} {B : Nat} {v : Value} {l : List Int} (h : OwnW E B w v l) (hg : GrownIn w w' P) (hn : ∀ k, v.ownBlock = some k → ¬ P k) : OwnW E B w' v l := by
  refine ⟨h.1, ?_⟩
  rcases h.2 with h1 | ⟨g, cap, cur, rfl, hBg, hh, r⟩
  · exact .inl h1
  · refine .inr ⟨g, cap, cur, rfl, hBg, ?_, r⟩
    rw [hg.block g (Array.getElem?_eq_some_iff.1 hh).1 (hn g rfl)]
    exact hh
theorem Below.growIn {B : Nat} {a : World} (h : Below B a w) (hg : GrownIn w w' P) (hB : B ≤ w.heap.size) (hn : ∀ k, P k → B ≤ k) : Below B a w' :=
  ⟨hg.os.trans h.os, hg.tape.trans h.tape, hg.output.trans h.output, Nat.le_trans h.size hg.size, fun b hb => (hg.block b (by omega) (fun hp => by have := hn b hp; omega)).trans (h.block b hb)⟩
end
end Go.G5
namespace Go.Proofs.YtipejodijbjpcaaGreatDoor
open Go.RowKit Go.G5

end Go.Proofs.YtipejodijbjpcaaGreatDoor
end
