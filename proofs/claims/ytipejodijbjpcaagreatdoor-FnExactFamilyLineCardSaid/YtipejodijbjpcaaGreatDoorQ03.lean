/- append of a whole slice; copies of slices. Blocks that are known whole. Rows of ints that a call owns, their slice perhaps shorter in capacity than the block; sorting. -/
import Derived.Test.YtipejodijbjpcaaGreatDoorQ02
import Derived.Deep.Light
import Derived.Deep.AppendLies
import Derived.Sort.Grow
section
namespace Go.G5
open Go Go.RowKit

section
variable {P : Program} {w : World}
/-- out = append(out, s...), out the call's own, s any slice that reads as a list -/
theorem run_appendS (T E ty : TypeId) (hT : P.underlying T = some (.slice E)) (hE : IntElem P E) (B : Nat) (v : Value) (l : List Int) (hown : OwnI E B w v l)
    (sv : Value) (m : List Int) (hs : Ints w sv m) (hlen : l.length + m.length ≤ 17592186044416) (hB : B ≤ w.heap.size) :
    ∃ v' w', (Builtin.append_ #[T, T] ty #[v, sv]).run P w = .ok v' w' ∧ OwnI E B w' v' (l ++ m) ∧ w.grownBy w' v.ownBlock := by
  obtain ⟨i, hi, hz, h1, h8⟩ := hE.get
  obtain ⟨ad, c, rfl, hmc, hcm, hr, h4⟩ := hs
  have hall : ∀ q ∈ l ++ m, InR q := fun q hq => (List.mem_append.1 hq).elim (hown.2 q) (hr q)
  have hempty : ad = none → m = [] := by
    intro e
    rcases h4 with h | ⟨b, off, hb, _⟩
    · exact h
    · rw [e] at hb; cases hb
  cases ad with
  | none =>
    have := hempty rfl
    subst this
    refine ⟨v, w, ?_, by simpa using hown, World.grownBy.refl w _⟩
    rcases hown.1.2 with ⟨rfl, hn⟩ | ⟨g, cap, cur, rfl, _, _, hnc, _⟩
    · simp [Builtin.append_, run_underlying hT, sizeOf, typeInfo, hi, Builtin.lenOf, Builtin.firstCells]
    · simp [Builtin.append_, run_underlying hT, sizeOf, typeInfo, hi, Builtin.lenOf, Builtin.firstCells, hnc, storeCells]
  | some ad =>
    have hcells : ∀ j u, (m.map (Value.int .i64))[j]? = some u → w.cell? (ad.add j) = some u := by
      intro j u hu
      rcases h4 with h | ⟨b, off, hb, _, hc⟩
      · subst h; simp at hu
      · simp only [Option.some.injEq] at hb
        subst hb
        have hj : j < m.length := by
          rcases Nat.lt_or_ge j m.length with h | h
          · exact h
          · rw [List.getElem?_eq_none (by simpa using h)] at hu; cases hu
        have := hc j hj
        have e : (⟨b, off, none⟩ : Addr).add j = ⟨b, off + j, none⟩ := by
          unfold Addr.add; split
          · rename_i h0; rw [h0]; rfl
          · rfl
        rw [e, this]
        rw [List.getElem?_map, List.getElem?_eq_getElem hj] at hu
        exact hu
    obtain ⟨v', w', hrun, h2, h3, _⟩ := run_append_own_at (P := P) w B T ty E i (.int .i64 0) 1 8 hT hi hz h1 h8 rfl (by decide) v l.length (l.map (Value.int .i64)) hown.1 ad m.length c (m.map (Value.int .i64)) (by simp) hcells
      (by intro u hu; obtain ⟨q, _, rfl⟩ := List.mem_map.1 hu; rfl) (by unfold maxLen; omega) (by omega) hB
    exact ⟨v', w', hrun, ⟨by simpa using h2, hall⟩, h3⟩

theorem wp_appendS {o : Oper} {a : Act} {K : Act → World → Prop} {Q : Exit → Act → World → Prop} (s x : Operand) (t : TypeId)
    (ho : o.op = .call { callee := .builtin .append, args := #[s, x], argTypes := #[t, t] })
    (E : TypeId) (hT : P.underlying t = some (.slice E)) (hE : IntElem P E) (B : Nat) (v : Value) (l : List Int) (hs : a.eval s = v) (hown : OwnI E B w v l)
    (sv : Value) (m : List Int) (hx : a.eval x = sv) (hsv : Ints w sv m) (hlen : l.length + m.length ≤ 17592186044416) (hB : B ≤ w.heap.size)
    (h : ∀ v' w', OwnI E B w' v' (l ++ m) → w.grownBy w' v.ownBlock → K (a.put o.dst v') w') : o.wp P a w K Q := by
  obtain ⟨v', w', hrun, h2, h3⟩ := run_appendS (P := P) t E o.type hT hE B v l hown sv m hsv hlen hB
  unfold Oper.wp execOp
  simp only [ho, resolve, invoke, builtin, Sem.run_bind, Sem.run_pure, Result.andThen_ok, List.map_toArray, List.map_cons, List.map_nil, hs, hx, hrun]
  exact h v' w' h2 h3

theorem wpList_appendS {ops : Array Oper} {rest : List Oper} {o : Oper} {a : Act} {Q : Exit → Act → World → Prop} (hgd : o.guard = none) (s x : Operand) (t : TypeId)
    (ho : o.op = .call { callee := .builtin .append, args := #[s, x], argTypes := #[t, t] })
    (E : TypeId) (hT : P.underlying t = some (.slice E)) (hE : IntElem P E) (B : Nat) (v : Value) (l : List Int) (hs : a.eval s = v) (hown : OwnI E B w v l)
    (sv : Value) (m : List Int) (hx : a.eval x = sv) (hsv : Ints w sv m) (hlen : l.length + m.length ≤ 17592186044416) (hB : B ≤ w.heap.size)
    (h : ∀ v' w', OwnI E B w' v' (l ++ m) → w.grownBy w' v.ownBlock → wpList P ops Q rest (a.put o.dst v') w') : wpList P ops Q (o :: rest) a w :=
  wpList_plain hgd fun _ hK => wp_appendS s x t ho E hT hE B v l hs hown sv m hx hsv hlen hB fun v' w' h2 h3 => hK _ _ (h v' w' h2 h3)

theorem step_appendS {ops : Array Oper} {o : Oper} {a : Act} {K : Act → World → Prop} {Q : Exit → Act → World → Prop} {F : Prop} (hgd : o.guard = none) (s x : Operand) (t : TypeId)
    (ho : o.op = .call { callee := .builtin .append, args := #[s, x], argTypes := #[t, t] })
    (E : TypeId) (hT : P.underlying t = some (.slice E)) (hE : IntElem P E) (B : Nat) (v : Value) (l : List Int) (hs : a.eval s = v) (hown : OwnI E B w v l)
    (sv : Value) (m : List Int) (hx : a.eval x = sv) (hsv : Ints w sv m) (hlen : l.length + m.length ≤ 17592186044416) (hB : B ≤ w.heap.size)
    (h : ∀ v' w', OwnI E B w' v' (l ++ m) → w.grownBy w' v.ownBlock → K (a.put o.dst v') w') : if Region.wanted o (yielded ops a.tmps) = true then Oper.wp P o a w K Q else F := by
  have hw : Region.wanted o (yielded ops a.tmps) = true := by simp [Region.wanted, hgd]
  rw [if_pos hw]
  exact wp_appendS s x t ho E hT hE B v l hs hown sv m hx hsv hlen hB h

/-- out = append(out, y) at a step of a region that draws its order -/
theorem step_appendI {ops : Array Oper} {o : Oper} {a : Act} {K : Act → World → Prop} {Q : Exit → Act → World → Prop} {F : Prop} (hgd : o.guard = none) (s x : Operand) (t : TypeId)
    (ho : o.op = .call { callee := .builtin .append, args := #[s, x], argTypes := #[t, t] })
    (E : TypeId) (hT : P.underlying t = some (.slice E)) (hE : IntElem P E) (B : Nat) (v : Value) (l : List Int) (y : Int) (b : Nat) (hs : a.eval s = v) (hx : a.eval x = .slice (some ⟨b, 0, none⟩) 1 1)
    (hy : w.cell? ⟨b, 0, none⟩ = some (.int .i64 y))
    (hown : OwnI E B w v l) (hyr : InR y) (hlen : l.length < 17592186044415) (hB : B ≤ w.heap.size)
    (h : ∀ v' w', OwnI E B w' v' (l ++ [y]) → w.grownBy w' v.ownBlock → K (a.put o.dst v') w') : if Region.wanted o (yielded ops a.tmps) = true then Oper.wp P o a w K Q else F :=
  step_appendS hgd s x t ho E hT hE B v l hs hown (.slice (some ⟨b, 0, none⟩) 1 1) [y] hx
    ⟨some ⟨b, 0, none⟩, 1, rfl, Nat.le_refl _, by decide, by intro q hq; simp only [List.mem_singleton] at hq; subst hq; exact hyr,
      .inr ⟨b, 0, rfl, World.block_lt_of_cell? w _ hy, fun k hk => by have : k = 0 := by simpa using hk
                                                                      subst this; exact hy⟩⟩ (by simp; omega) hB h
end

/-- s[k:] -/
theorem Ints.from {P : Program} {w : World} {a : Option Addr} {c : Nat} {l : List Int} (h : Ints w (.slice a l.length c) l) (T E : TypeId) (hT : P.underlying T = some (.slice E)) (hE : IntElem P E) (k : Nat) (hk : k ≤ l.length) :
    ∃ a' c', (∀ (kk : IntKind) (w' : World), (Instr.slice T (.slice a l.length c) (some (.int kk (k : Int))) none none).run P w' = .ok (.slice a' (l.drop k).length c') w') ∧ Ints w (.slice a' (l.drop k).length c') (l.drop k) := by
  obtain ⟨i, hi, _, h1, _⟩ := hE.get
  have hEl : P.elem T = E := by simp [Program.elem, hT]
  obtain ⟨hl, hcl, hcm⟩ := h.capLe
  refine ⟨if c = k then a else a.map (·.add (k * 1)), c - k, fun kk w' => ?_, ?_⟩
  · rw [run_slice_l w' T a l.length c (by rw [hEl]; exact hT) kk k (by omega) (by omega)]
    simp [sizeOf, typeInfo, hEl, hi, h1, Result.andThen, sliced, List.length_drop]
  · rcases Nat.lt_or_ge k l.length with hlt | hge
    · have h0 := h
      obtain ⟨a1, c1, he, _, _, _, h4⟩ := h0
      simp only [Value.slice.injEq] at he
      obtain ⟨rfl, _, rfl⟩ := he
      rcases h4 with rfl | ⟨b, off, rfl, _, _⟩
      · simp at hlt
      · rw [if_neg (by omega)]
        have := Ints.dropK h k (by omega)
        rw [List.length_drop]
        have e : (Option.map (fun x : Addr => x.add (k * 1)) (some (⟨b, off, none⟩ : Addr))) = some ⟨b, off + k, none⟩ := by
          simp only [Option.map_some, Nat.mul_one, Addr.add]
          split
          · rename_i h0; rw [h0]; rfl
          · rfl
        rw [e]
        exact this
    · have e : l.drop k = [] := List.drop_eq_nil_of_le hge
      rw [e]
      exact Ints.empty w _ _ _ rfl (by omega)
end Go.G5

namespace Go.Proofs.YtipejodijbjpcaaGreatDoor
open Go.RowKit Go.G5

set_option maxHeartbeats 400000 in
theorem clone_any (v : Value) (l : List Int) (w : World) (hv : Ints w v l) (hl : l.length ≤ 1048576) :
    Calls Tryz.prog 242 #[v] w fun e w' => ∃ ad i c, e = .returned (.slice ad i c) ∧ OwnI 3 w.heap.size w' (.slice ad i c) l ∧ Below w.heap.size w w' := by
  have hv0 := hv
  obtain ⟨a, c, rfl, h1, h2, h3, h4⟩ := hv
  have hnil := fun (w : World) (a : Option Addr) (n c n' c' : Nat) => Lib.run_eql_slice_nil (P := Tryz.prog) w 22 3 a n c n' c' Tryz.underlying22
  cases a with
  | none =>
    have e : l = [] := by
      rcases h4 with h | ⟨b, off, hb, _⟩
      · exact h
      · cases hb
    subst e
    clear h4 h3
    go_enter Tryz.func242, Tryz.ntmps242
    go_wp2
    go_ret
    exact ⟨none, 0, 0, rfl, OwnI.nil _ _ _, Below.refl _ _⟩
  | some ad =>
    clear h4 h3
    go_enter Tryz.func242, Tryz.ntmps242
    go_wp2_with (at_builtin; refine wpList_appendS rfl _ _ _ rfl 3 Tryz.underlying22 intElem w.heap.size _ [] rfl (OwnI.lit0 w (Nat.le_refl _)) _ l rfl (hv0.alloc _) (by simp; omega) (by simp) ?_; intro v' w6 hown hgr; obtain ⟨av, nv, cv, rfl⟩ := hown.shape3)
    go_ret
    refine ⟨av, nv, cv, rfl, by simpa using hown, (bl1 w (.cells #[] 3)).grown hgr (by simp) ?_⟩
    intro k hk
    have hk' : some w.heap.size = some k := hk
    exact Nat.le_of_eq (Option.some.inj hk')
end Go.Proofs.YtipejodijbjpcaaGreatDoor
end
section
namespace Go.G5
open Go Go.RowKit
/-- block g is just the cells cs -/
def Blk (w : World) (g : Nat) (t : TypeId) (cs : Array Value) : Prop := w.heap[g]? = some (.cells cs t (0, 0))
section
variable {w w' : World} {g : Nat} {t : TypeId} {cs : Array Value}
theorem Blk.lt (h : Blk w g t cs) : g < w.heap.size := (Array.getElem?_eq_some_iff.1 h).1
theorem Blk.cell (h : Blk w g t cs) : ∀ i, w.cell? ⟨g, i, none⟩ = cs[i]? := fun i => cell_of_row w g i cs t (0, 0) h
theorem Blk.frozen (h : Blk w g t cs) : ∀ i, w.frozen? ⟨g, i, none⟩ = false := fun i => by
  unfold Blk at h
  simp [World.frozen?, h]
theorem Blk.new (w : World) (t : TypeId) (cs : Array Value) : Blk (w.alloc (.cells cs t)) w.heap.size t cs := heap_alloc_new w _
theorem Blk.keep (h : Blk w g t cs) (hb : Below w.heap.size w w') : Blk w' g t cs := (hb.block g h.lt).trans h
theorem Blk.alloc (h : Blk w g t cs) (o : Obj) : Blk (w.alloc o) g t cs := h.keep (bl1 w o)
theorem Blk.drewN (h : Blk w g t cs) (n : Nat) : Blk (w.drewN n) g t cs := h
theorem Blk.set (h : Blk w g t cs) (i : Nat) (u : Value) : Blk (w.setCell ⟨g, i, none⟩ u) g t (cs.setIfInBounds i u) := by
  unfold Blk at h ⊢
  simp [World.setCell, Array.getElem?_modify, h]
theorem Blk.far (h : Blk w g t cs) {p : Addr} (hp : g ≠ p.block) (u : Value) : Blk (w.setCell p u) g t cs := (Below.heap_setCell w p u g hp).trans h
theorem Blk.grow {row : Option Nat} (h : Blk w g t cs) (hb : w.grownBy w' row) (hg : row ≠ some g) : Blk w' g t cs := (hb.block g h.lt (fun e => hg e.symm)).trans h
end
theorem post_named {P : Program} {f : Func} {Q : Ending → World → Prop} {e : Exit} {a : Act} {W : World} (h : ∀ W', W' = W → bodyPost P f Q e a W') : bodyPost P f Q e a W := h W rfl
end Go.G5
end
section
namespace Go.G5
open Go Go.RowKit

/-- as OwnI, but the slice's capacity may be less than its block has -/
def OwnW (E : TypeId) (B : Nat) (w : World) (v : Value) (l : List Int) : Prop :=
  (∀ x ∈ l, InR x) ∧ ((v = .slice none 0 0 ∧ l = []) ∨ ∃ g cap cur, v = .slice (some ⟨g, 0, none⟩) l.length cap ∧ B ≤ g ∧ w.heap[g]? = some (.cells cur E (0, 0)) ∧ l.length ≤ cap ∧ cap ≤ cur.size ∧ cap ≤ maxLen ∧ cur.toList.take l.length = l.map (Value.int .i64))
section
variable {E : TypeId} {B : Nat} {w w' : World} {v : Value} {l : List Int}
theorem OwnI.toW (h : OwnI E B w v l) : OwnW E B w v l := by
  obtain ⟨⟨h0, h1⟩, h2⟩ := h
  refine ⟨h2, ?_⟩
  rcases h1 with ⟨rfl, hn⟩ | ⟨g, cap, cur, rfl, hB, hg, hn, hm, hcs, ht⟩
  · exact .inl ⟨rfl, List.eq_nil_of_length_eq_zero hn⟩
  · exact .inr ⟨g, cap, cur, rfl, hB, hg, hn, by omega, hm, by simpa using ht⟩
theorem OwnW.toW (h : OwnW E B w v l) : OwnW E B w v l := h
theorem OwnW.nil (E : TypeId) (B : Nat) (w : World) : OwnW E B w (.slice none 0 0) [] := ⟨by simp, .inl ⟨rfl, rfl⟩⟩
theorem OwnW.below {B' : Nat} (h : OwnW E B w v l) (hb : Below B' w w') (hB : w.heap.size ≤ B') : OwnW E B w' v l := by
  refine ⟨h.1, ?_⟩
  rcases h.2 with h1 | ⟨g, cap, cur, rfl, hBg, hg, r⟩
  · exact .inl h1
  · exact .inr ⟨g, cap, cur, rfl, hBg, by rw [hb.block g (by have := (Array.getElem?_eq_some_iff.1 hg).1; omega)]; exact hg, r⟩
theorem OwnW.keep (h : OwnW E B w v l) (hb : Below w.heap.size w w') : OwnW E B w' v l := h.below hb (Nat.le_refl _)
theorem OwnW.alloc (h : OwnW E B w v l) (o : Obj) : OwnW E B (w.alloc o) v l := h.keep (bl1 w o)
theorem OwnW.drewN (h : OwnW E B w v l) (n : Nat) : OwnW E B (w.drewN n) v l := h.below ((Below.refl w.heap.size w).drewN' n) (Nat.le_refl _)
theorem OwnW.mono {B' : Nat} (h : OwnW E B w v l) (hB : B' ≤ B) : OwnW E B' w v l := by
  refine ⟨h.1, ?_⟩
  rcases h.2 with h1 | ⟨g, cap, cur, rfl, hBg, r⟩
  · exact .inl h1
  · exact .inr ⟨g, cap, cur, rfl, by omega, r⟩
theorem OwnW.lt (h : OwnW E B w v l) : ∀ k, v.ownBlock = some k → B ≤ k ∧ k < w.heap.size := by
  intro k hk
  rcases h.2 with ⟨rfl, _⟩ | ⟨g, cap, cur, rfl, hBg, hg, _⟩
  · simp [Value.ownBlock] at hk
  · have : g = k := by simpa [Value.ownBlock] using hk
    subst this
    exact ⟨hBg, (Array.getElem?_eq_some_iff.1 hg).1⟩
theorem OwnW.grow {row : Option Nat} (h : OwnW E B w v l) (hg : w.grownBy w' row) (hne : ∀ k, row = some k → v.ownBlock ≠ some k) : OwnW E B w' v l := by
  refine ⟨h.1, ?_⟩
  rcases h.2 with h1 | ⟨g, cap, cur, rfl, hBg, hh, r⟩
  · exact .inl h1
  · refine .inr ⟨g, cap, cur, rfl, hBg, ?_, r⟩
    rw [hg.block g (Array.getElem?_eq_some_iff.1 hh).1 (fun e => hne g e.symm rfl)]
    exact hh
theorem OwnW.setBelow (h : OwnW E B w v l) {a : Addr} (ha : a.block < B) (u : Value) : OwnW E B (w.setCell a u) v l := by
  refine ⟨h.1, ?_⟩
  rcases h.2 with h1 | ⟨g, cap, cur, rfl, hBg, hh, r⟩
  · exact .inl h1
  · refine .inr ⟨g, cap, cur, rfl, hBg, ?_, r⟩
    rw [Below.heap_setCell w a u g (by omega)]
    exact hh
theorem OwnW.cases (h : OwnW E B w v l) : (v = .slice none 0 0 ∧ l = []) ∨ ∃ g cap, v = .slice (some ⟨g, 0, none⟩) l.length cap ∧ B ≤ g ∧ g < w.heap.size := by
  rcases h.2 with h1 | ⟨g, cap, cur, rfl, hBg, hg, _⟩
  · exact .inl h1
  · exact .inr ⟨g, cap, rfl, hBg, (Array.getElem?_eq_some_iff.1 hg).1⟩
theorem OwnW.cell' {g n cap : Nat} (h : OwnW E B w (.slice (some ⟨g, 0, none⟩) n cap) l) (j : Nat) (hj : j < l.length) : w.cell? ⟨g, j, none⟩ = some (.int .i64 l[j]) := by
  rcases h.2 with ⟨e, _⟩ | ⟨g', cap', cur, e, _, hg, hlc, hcc, _, ht⟩
  · simp at e
  · simp only [Value.slice.injEq, Option.some.injEq, Addr.mk.injEq, and_true] at e
    obtain ⟨rfl, _, rfl⟩ := e
    have hc : w.cell? ⟨g, j, none⟩ = cur[j]? := cell_of_row w g j cur E (0, 0) hg
    rw [hc]
    have h1 : (cur.toList.take l.length)[j]? = some (.int .i64 l[j]) := by rw [ht, List.getElem?_map, List.getElem?_eq_getElem hj]; rfl
    rw [List.getElem?_take_of_lt hj] at h1
    rw [← Array.getElem?_toList]
    exact h1
theorem OwnW.ints (h : OwnW E B w v l) : Ints w v l := by
  rcases h.2 with ⟨rfl, rfl⟩ | ⟨g, cap, cur, rfl, hBg, hg, hlc, hcc, hm, ht⟩
  · exact ⟨none, 0, rfl, Nat.le_refl _, Nat.zero_le _, by simp, .inl rfl⟩
  · exact ⟨_, cap, rfl, hlc, hm, h.1, .inr ⟨g, 0, rfl, (Array.getElem?_eq_some_iff.1 hg).1, fun k hk => by rw [Nat.zero_add]; exact h.cell' k hk⟩⟩
theorem OwnW.shape (h : OwnW E B w v l) : ∃ a c, v = .slice a l.length c := by
  obtain ⟨a, c, rfl, _⟩ := h.ints
  exact ⟨a, c, rfl⟩
theorem OwnW.shape3 (h : OwnW E B w v l) : ∃ a n c, v = .slice a n c := by
  obtain ⟨a, c, rfl, _⟩ := h.ints
  exact ⟨a, _, c, rfl⟩
theorem OwnW.cellAt {g n cap : Nat} (h : OwnW E B w (.slice (some ⟨g, 0, none⟩) n cap) l) (_ : n = l.length) (j : Nat) (hj : j < l.length) : w.cell? ⟨g, j, none⟩ = some (.int .i64 l[j]) := h.cell' j hj
theorem OwnW.frozenAt {g n cap : Nat} (h : OwnW E B w (.slice (some ⟨g, 0, none⟩) n cap) l) (_ : n = l.length) (j : Nat) : w.frozen? ⟨g, j, none⟩ = false := by
  rcases h.2 with ⟨e, _⟩ | ⟨g', cap', cur, e, _, hg, _⟩
  · simp at e
  · simp only [Value.slice.injEq, Option.some.injEq, Addr.mk.injEq, and_true] at e
    obtain ⟨rfl, _, rfl⟩ := e
    simp [World.frozen?, hg]
theorem OwnW.stored {g n cap : Nat} (h : OwnW E B w (.slice (some ⟨g, 0, none⟩) n cap) l) (hn : n = l.length) (j : Nat) (y : Int) (hy : InR y) :
    OwnW E B (w.setCell ⟨g, j, none⟩ (.int .i64 y)) (.slice (some ⟨g, 0, none⟩) n cap) (l.set j y) ∧ w.grownBy (w.setCell ⟨g, j, none⟩ (.int .i64 y)) (some g) := by
  subst hn
  refine ⟨⟨?_, ?_⟩, ⟨rfl, rfl, rfl, by simp, fun b hb hne => Below.heap_setCell w _ _ b (by intro e; exact hne (by rw [e]))⟩⟩
  · intro z hz
    rcases List.mem_or_eq_of_mem_set hz with hz | hz
    · exact h.1 z hz
    · subst hz; exact hy
  · right
    rcases h.2 with ⟨e, _⟩ | ⟨g', cap', cur, e, hB, hg, hlc, hcc, hm, ht⟩
    · simp at e
    · simp only [Value.slice.injEq, Option.some.injEq, Addr.mk.injEq, and_true] at e
      obtain ⟨rfl, _, rfl⟩ := e
      refine ⟨g, cap, cur.setIfInBounds j (.int .i64 y), by simp, hB, ?_, by simpa using hlc, by simpa using hcc, hm, ?_⟩
      · simp [World.setCell, Array.getElem?_modify, hg]
      · rw [List.length_set, Array.toList_setIfInBounds, List.take_set, ht, List.map_set]
end

def Apart (u v : Value) : Prop := ∀ k, u.ownBlock = some k → v.ownBlock ≠ some k
theorem Apart.symm {u v : Value} (h : Apart u v) : Apart v u := fun k hk hu => h k hu hk
theorem Apart.of_lt {E E' : TypeId} {B B' : Nat} {w w' : World} {u v : Value} {l m : List Int} (h : OwnW E B w u l) (h' : OwnW E' B' w' v m) (hB : w.heap.size ≤ B') : Apart u v := fun k hk hv => by
  have := (h.lt k hk).2
  have := (h'.lt k hv).1
  omega

/-! sorting -/
theorem OwnI.cut {E : TypeId} {B : Nat} {w : World} {g n cap : Nat} {l : List Int} (h : OwnI E B w (.slice (some ⟨g, 0, none⟩) n cap) l) (k : Nat) (hk : k ≤ l.length) : OwnI E B w (.slice (some ⟨g, 0, none⟩) k cap) (l.take k) := by
  obtain ⟨⟨h0, h1⟩, h2⟩ := h
  rcases h1 with ⟨e, _⟩ | ⟨g', cap', cur, e, hB, hg, hn, hm, hcs, ht⟩
  · simp at e
  · simp only [Value.slice.injEq, Option.some.injEq, Addr.mk.injEq, and_true] at e
    obtain ⟨rfl, rfl, rfl⟩ := e
    have hl : (l.take k).length = k := by simp; omega
    refine ⟨⟨by rw [List.length_map, hl]; omega, .inr ⟨g, cap, cur, by rw [hl], hB, hg, by omega, hm, hcs, ?_⟩⟩, fun x hx => h2 x (List.mem_of_mem_take hx)⟩
    rw [hl, Nat.mul_one]
    rw [Nat.mul_one] at ht
    rw [List.map_take, ← ht, List.take_take, Nat.min_eq_left hk]
theorem OwnI.holds {E : TypeId} {B : Nat} {w : World} {g n cap : Nat} {l : List Int} (h : OwnI E B w (.slice (some ⟨g, 0, none⟩) n cap) l) (hn : n = l.length) : Go.Sort.Holds (Value.int .i64) w g 0 l.toArray := by
  intro j hj
  have hj' : j < l.length := by simpa using hj
  refine ⟨?_, ?_⟩
  · rw [Nat.zero_add, h.cellAt hn j hj', getElem!_pos l.toArray j hj]; simp
  · rw [Nat.zero_add]; exact h.frozenAt hn j
theorem OwnI.put {E : TypeId} {B : Nat} {w : World} {g n cap : Nat} {l : List Int} (h : OwnI E B w (.slice (some ⟨g, 0, none⟩) n cap) l) (l' : List Int) (hl : l'.length = l.length) (hr : ∀ x ∈ l', InR x) (q : Nat) (os : Array Obj) :
    OwnI E B (Go.Sort.grow (Go.Sort.putRow (Value.int .i64) (Go.Sort.ahead w q) g 0 l'.toArray) os) (.slice (some ⟨g, 0, none⟩) n cap) l' ∧ w.grownBy (Go.Sort.grow (Go.Sort.putRow (Value.int .i64) (Go.Sort.ahead w q) g 0 l'.toArray) os) (some g) := by
  obtain ⟨⟨h0, h1⟩, h2⟩ := h
  rcases h1 with ⟨e, _⟩ | ⟨g', cap', cur, e, hB, hg, hn, hm, hcs, ht⟩
  · simp at e
  · simp only [Value.slice.injEq, Option.some.injEq, Addr.mk.injEq, and_true] at e
    obtain ⟨rfl, rfl, rfl⟩ := e
    have hlt := (Array.getElem?_eq_some_iff.1 hg).1
    have hblock : ∀ b, b < w.heap.size → (Go.Sort.grow (Go.Sort.putRow (Value.int .i64) (Go.Sort.ahead w q) g 0 l'.toArray) os).heap[b]? = (w.heap.modify g (Go.Sort.onCells (Go.Sort.putCells (Value.int .i64) 0 l'.toArray)))[b]? := by
      intro b hb
      unfold Go.Sort.grow Go.Sort.putRow Go.Sort.mapBlock Go.Sort.ahead
      simp only
      rw [Array.getElem?_append_left (by simpa using hb)]
    refine ⟨⟨⟨by rw [List.length_map, Nat.mul_one], .inr ⟨g, cap, Go.Sort.putCells (Value.int .i64) 0 l'.toArray cur, by rw [hl], hB, ?_, by omega, hm, ?_, ?_⟩⟩, hr⟩, ⟨rfl, rfl, rfl, ?_, ?_⟩⟩
    · rw [hblock g hlt, Array.getElem?_modify, if_pos rfl, hg]; rfl
    · unfold Go.Sort.putCells; simpa using hcs
    · rw [Nat.mul_one]
      have hcl : l.length ≤ cur.size := by omega
      apply List.ext_getElem?
      intro k
      by_cases hk : k < l'.length
      · rw [List.getElem?_take_of_lt hk, Array.getElem?_toList]
        unfold Go.Sort.putCells
        rw [Array.getElem?_mapIdx, Array.getElem?_eq_getElem (show k < cur.size by omega), Option.map_some, if_pos ⟨by omega, by simpa using hk⟩, Nat.sub_zero, getElem!_pos l'.toArray k (by simpa using hk), List.getElem?_map, List.getElem?_eq_getElem hk]
        simp
      · rw [List.getElem?_eq_none (by simp; omega), List.getElem?_eq_none (by simpa using hk)]
    · simp [Go.Sort.grow, Go.Sort.putRow, Go.Sort.mapBlock, Go.Sort.ahead]
    · intro b hb hne
      rw [hblock b hb, Array.getElem?_modify, if_neg (fun e => hne (by rw [e]))]
end Go.G5
end
