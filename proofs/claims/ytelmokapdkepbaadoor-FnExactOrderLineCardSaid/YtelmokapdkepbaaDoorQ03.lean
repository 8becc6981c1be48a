/- append of a whole slice; copies of slices. Blocks that are known whole. -/
import Derived.Test.YtelmokapdkepbaaDoorQ02
import Derived.Deep.Light
import Derived.Deep.AppendLies
section
namespace Go.G5
open Go Go.RowKit

section
variable {P : Program} {w : World}
/-- out = append(out, s...), out the call's own, s any slice that reads as a list -/
theorem run_appendS (T E ty : TypeId) (hT : P.underlying T = some (.slice E)) (hE : IntElem P E) (B : Nat) (v : Value) (l : List Int) (hown : OwnI E B w v l)
    (sv : Value) (m : List Int) (hs : Ints w sv m) (hlen : l.length + m.length ≤ 17592186044416) (hB : B ≤ w.heap.size) :
    ∃ v' w', (Builtin.append_ #[T, T] ty #[v, sv]).run P w = .ok v' w' ∧ OwnI E B w' v' (l ++ m) ∧ w.grownBy w' v.ownBlock := by
  obtain ⟨i, hi, hz, h1, h8⟩ := hE.get
  obtain ⟨ad, c, rfl, hmc, hcm, hr, h4⟩ := hs
  have hall : ∀ q ∈ l ++ m, InR q := fun q hq => (List.mem_append.1 hq).elim (hown.2 q) (hr q)
  have hempty : ad = none → m = [] := by
    intro e
    rcases h4 with h | ⟨b, off, hb, _⟩
    · exact h
    · rw [e] at hb; cases hb
  cases ad with
  | none =>
    have := hempty rfl
    subst this
    refine ⟨v, w, ?_, by simpa using hown, World.grownBy.refl w _⟩
    rcases hown.1.2 with ⟨rfl, hn⟩ | ⟨g, cap, cur, rfl, _, _, hnc, _⟩
    · simp [Builtin.append_, run_underlying hT, sizeOf, typeInfo, hi, Builtin.lenOf, Builtin.firstCells]
    · simp [Builtin.append_, run_underlying hT, sizeOf, typeInfo, hi, Builtin.lenOf, Builtin.firstCells, hnc, storeCells]
  | some ad =>
    have hcells : ∀ j u, (m.map (Value.int .i64))[j]? = some u → w.cell? (ad.add j) = some u := by
      intro j u hu
      rcases h4 with h | ⟨b, off, hb, _, hc⟩
      · subst h; simp at hu
      · simp only [Option.some.injEq] at hb
        subst hb
        have hj : j < m.length := by
          rcases Nat.lt_or_ge j m.length with h | h
          · exact h
          · rw [List.getElem?_eq_none (by simpa using h)] at hu; cases hu
        have := hc j hj
        have e : (⟨b, off, none⟩ : Addr).add j = ⟨b, off + j, none⟩ := by
          unfold Addr.add; split
          · rename_i h0; rw [h0]; rfl
          · rfl
        rw [e, this]
        rw [List.getElem?_map, List.getElem?_eq_getElem hj] at hu
        exact hu
    obtain ⟨v', w', hrun, h2, h3, _⟩ := run_append_own_at (P := P) w B T ty E i (.int .i64 0) 1 8 hT hi hz h1 h8 rfl (by decide) v l.length (l.map (Value.int .i64)) hown.1 ad m.length c (m.map (Value.int .i64)) (by simp) hcells
      (by intro u hu; obtain ⟨q, _, rfl⟩ := List.mem_map.1 hu; rfl) (by unfold maxLen; omega) (by omega) hB
    exact ⟨v', w', hrun, ⟨by simpa using h2, hall⟩, h3⟩

theorem wp_appendS {o : Oper} {a : Act} {K : Act → World → Prop} {Q : Exit → Act → World → Prop} (s x : Operand) (t : TypeId)
    (ho : o.op = .call { callee := .builtin .append, args := #[s, x], argTypes := #[t, t] })
    (E : TypeId) (hT : P.underlying t = some (.slice E)) (hE : IntElem P E) (B : Nat) (v : Value) (l : List Int) (hs : a.eval s = v) (hown : OwnI E B w v l)
    (sv : Value) (m : List Int) (hx : a.eval x = sv) (hsv : Ints w sv m) (hlen : l.length + m.length ≤ 17592186044416) (hB : B ≤ w.heap.size)
    (h : ∀ v' w', OwnI E B w' v' (l ++ m) → w.grownBy w' v.ownBlock → K (a.put o.dst v') w') : o.wp P a w K Q := by
  obtain ⟨v', w', hrun, h2, h3⟩ := run_appendS (P := P) t E o.type hT hE B v l hown sv m hsv hlen hB
  unfold Oper.wp execOp
  simp only [ho, resolve, invoke, builtin, Sem.run_bind, Sem.run_pure, Result.andThen_ok, List.map_toArray, List.map_cons, List.map_nil, hs, hx, hrun]
  exact h v' w' h2 h3

theorem wpList_appendS {ops : Array Oper} {rest : List Oper} {o : Oper} {a : Act} {Q : Exit → Act → World → Prop} (hgd : o.guard = none) (s x : Operand) (t : TypeId)
    (ho : o.op = .call { callee := .builtin .append, args := #[s, x], argTypes := #[t, t] })
    (E : TypeId) (hT : P.underlying t = some (.slice E)) (hE : IntElem P E) (B : Nat) (v : Value) (l : List Int) (hs : a.eval s = v) (hown : OwnI E B w v l)
    (sv : Value) (m : List Int) (hx : a.eval x = sv) (hsv : Ints w sv m) (hlen : l.length + m.length ≤ 17592186044416) (hB : B ≤ w.heap.size)
    (h : ∀ v' w', OwnI E B w' v' (l ++ m) → w.grownBy w' v.ownBlock → wpList P ops Q rest (a.put o.dst v') w') : wpList P ops Q (o :: rest) a w :=
  wpList_plain hgd fun _ hK => wp_appendS s x t ho E hT hE B v l hs hown sv m hx hsv hlen hB fun v' w' h2 h3 => hK _ _ (h v' w' h2 h3)

theorem step_appendS {ops : Array Oper} {o : Oper} {a : Act} {K : Act → World → Prop} {Q : Exit → Act → World → Prop} {F : Prop} (hgd : o.guard = none) (s x : Operand) (t : TypeId)
    (ho : o.op = .call { callee := .builtin .append, args := #[s, x], argTypes := #[t, t] })
    (E : TypeId) (hT : P.underlying t = some (.slice E)) (hE : IntElem P E) (B : Nat) (v : Value) (l : List Int) (hs : a.eval s = v) (hown : OwnI E B w v l)
    (sv : Value) (m : List Int) (hx : a.eval x = sv) (hsv : Ints w sv m) (hlen : l.length + m.length ≤ 17592186044416) (hB : B ≤ w.heap.size)
    (h : ∀ v' w', OwnI E B w' v' (l ++ m) → w.grownBy w' v.ownBlock → K (a.put o.dst v') w') : if Region.wanted o (yielded ops a.tmps) = true then Oper.wp P o a w K Q else F := by
  have hw : Region.wanted o (yielded ops a.tmps) = true := by simp [Region.wanted, hgd]
  rw [if_pos hw]
  exact wp_appendS s x t ho E hT hE B v l hs hown sv m hx hsv hlen hB h

/-- out = append(out, y) at a step of a region that draws its order -/
theorem step_appendI {ops : Array Oper} {o : Oper} {a : Act} {K : Act → World → Prop} {Q : Exit → Act → World → Prop} {F : Prop} (hgd : o.guard = none) (s x : Operand) (t : TypeId)
    (ho : o.op = .call { callee := .builtin .append, args := #[s, x], argTypes := #[t, t] })
    (E : TypeId) (hT : P.underlying t = some (.slice E)) (hE : IntElem P E) (B : Nat) (v : Value) (l : List Int) (y : Int) (b : Nat) (hs : a.eval s = v) (hx : a.eval x = .slice (some ⟨b, 0, none⟩) 1 1)
    (hy : w.cell? ⟨b, 0, none⟩ = some (.int .i64 y))
    (hown : OwnI E B w v l) (hyr : InR y) (hlen : l.length < 17592186044415) (hB : B ≤ w.heap.size)
    (h : ∀ v' w', OwnI E B w' v' (l ++ [y]) → w.grownBy w' v.ownBlock → K (a.put o.dst v') w') : if Region.wanted o (yielded ops a.tmps) = true then Oper.wp P o a w K Q else F :=
  step_appendS hgd s x t ho E hT hE B v l hs hown (.slice (some ⟨b, 0, none⟩) 1 1) [y] hx
    ⟨some ⟨b, 0, none⟩, 1, rfl, Nat.le_refl _, by decide, by intro q hq; simp only [List.mem_singleton] at hq; subst hq; exact hyr,
      .inr ⟨b, 0, rfl, World.block_lt_of_cell? w _ hy, fun k hk => by have : k = 0 := by simpa using hk
                                                                      subst this; exact hy⟩⟩ (by simp; omega) hB h
end

/-- s[k:] -/
theorem Ints.from {P : Program} {w : World} {a : Option Addr} {c : Nat} {l : List Int} (h : Ints w (.slice a l.length c) l) (T E : TypeId) (hT : P.underlying T = some (.slice E)) (hE : IntElem P E) (k : Nat) (hk : k ≤ l.length) :
    ∃ a' c', (∀ (kk : IntKind) (w' : World), (Instr.slice T (.slice a l.length c) (some (.int kk (k : Int))) none none).run P w' = .ok (.slice a' (l.drop k).length c') w') ∧ Ints w (.slice a' (l.drop k).length c') (l.drop k) := by
  obtain ⟨i, hi, _, h1, _⟩ := hE.get
  have hEl : P.elem T = E := by simp [Program.elem, hT]
  obtain ⟨hl, hcl, hcm⟩ := h.capLe
  refine ⟨if c = k then a else a.map (·.add (k * 1)), c - k, fun kk w' => ?_, ?_⟩
  · rw [run_slice_l w' T a l.length c (by rw [hEl]; exact hT) kk k (by omega) (by omega)]
    simp [sizeOf, typeInfo, hEl, hi, h1, Result.andThen, sliced, List.length_drop]
  · rcases Nat.lt_or_ge k l.length with hlt | hge
    · have h0 := h
      obtain ⟨a1, c1, he, _, _, _, h4⟩ := h0
      simp only [Value.slice.injEq] at he
      obtain ⟨rfl, _, rfl⟩ := he
      rcases h4 with rfl | ⟨b, off, rfl, _, _⟩
      · simp at hlt
      · rw [if_neg (by omega)]
        have := Ints.dropK h k (by omega)
        rw [List.length_drop]
        have e : (Option.map (fun x : Addr => x.add (k * 1)) (some (⟨b, off, none⟩ : Addr))) = some ⟨b, off + k, none⟩ := by
          simp only [Option.map_some, Nat.mul_one, Addr.add]
          split
          · rename_i h0; rw [h0]; rfl
          · rfl
        rw [e]
        exact this
    · have e : l.drop k = [] := List.drop_eq_nil_of_le hge
      rw [e]
      exact Ints.empty w _ _ _ rfl (by omega)
end Go.G5

namespace Go.Proofs.YtelmokapdkepbaaDoor
open Go.RowKit Go.G5

set_option maxHeartbeats 400000 in
theorem clone_any (v : Value) (l : List Int) (w : World) (hv : Ints w v l) (hl : l.length ≤ 1048576) :
    Calls Tryd.prog 75 #[v] w fun e w' => ∃ ad i c, e = .returned (.slice ad i c) ∧ OwnI 3 w.heap.size w' (.slice ad i c) l ∧ Below w.heap.size w w' := by
  have hv0 := hv
  obtain ⟨a, c, rfl, h1, h2, h3, h4⟩ := hv
  have hnil := fun (w : World) (a : Option Addr) (n c n' c' : Nat) => Lib.run_eql_slice_nil (P := Tryd.prog) w 22 3 a n c n' c' Tryd.underlying22
  cases a with
  | none =>
    have e : l = [] := by
      rcases h4 with h | ⟨b, off, hb, _⟩
      · exact h
      · cases hb
    subst e
    clear h4 h3
    go_enter Tryd.func75, Tryd.ntmps75
    go_wp2
    go_ret
    exact ⟨none, 0, 0, rfl, OwnI.nil _ _ _, Below.refl _ _⟩
  | some ad =>
    clear h4 h3
    go_enter Tryd.func75, Tryd.ntmps75
    go_wp2_with (at_builtin; refine wpList_appendS rfl _ _ _ rfl 3 Tryd.underlying22 intElem w.heap.size _ [] rfl (OwnI.lit0 w (Nat.le_refl _)) _ l rfl (hv0.alloc _) (by simp; omega) (by simp) ?_; intro v' w6 hown hgr; obtain ⟨av, nv, cv, rfl⟩ := hown.shape3)
    go_ret
    refine ⟨av, nv, cv, rfl, by simpa using hown, (bl1 w (.cells #[] 3)).grown hgr (by simp) ?_⟩
    intro k hk
    have hk' : some w.heap.size = some k := hk
    exact Nat.le_of_eq (Option.some.inj hk')
end Go.Proofs.YtelmokapdkepbaaDoor
end
section
namespace Go.G5
open Go Go.RowKit
/-- block g is just the cells cs -/
def Blk (w : World) (g : Nat) (t : TypeId) (cs : Array Value) : Prop := w.heap[g]? = some (.cells cs t (0, 0))
section
variable {w w' : World} {g : Nat} {t : TypeId} {cs : Array Value}
theorem Blk.lt (h : Blk w g t cs) : g < w.heap.size := (Array.getElem?_eq_some_iff.1 h).1
theorem Blk.cell (h : Blk w g t cs) : ∀ i, w.cell? ⟨g, i, none⟩ = cs[i]? := fun i => cell_of_row w g i cs t (0, 0) h
theorem Blk.frozen (h : Blk w g t cs) : ∀ i, w.frozen? ⟨g, i, none⟩ = false := fun i => by
  unfold Blk at h
  simp [World.frozen?, h]
theorem Blk.new (w : World) (t : TypeId) (cs : Array Value) : Blk (w.alloc (.cells cs t)) w.heap.size t cs := heap_alloc_new w _
theorem Blk.keep (h : Blk w g t cs) (hb : Below w.heap.size w w') : Blk w' g t cs := (hb.block g h.lt).trans h
theorem Blk.alloc (h : Blk w g t cs) (o : Obj) : Blk (w.alloc o) g t cs := h.keep (bl1 w o)
theorem Blk.drewN (h : Blk w g t cs) (n : Nat) : Blk (w.drewN n) g t cs := h
theorem Blk.set (h : Blk w g t cs) (i : Nat) (u : Value) : Blk (w.setCell ⟨g, i, none⟩ u) g t (cs.setIfInBounds i u) := by
  unfold Blk at h ⊢
  simp [World.setCell, Array.getElem?_modify, h]
theorem Blk.far (h : Blk w g t cs) {p : Addr} (hp : g ≠ p.block) (u : Value) : Blk (w.setCell p u) g t cs := (Below.heap_setCell w p u g hp).trans h
theorem Blk.grow {row : Option Nat} (h : Blk w g t cs) (hb : w.grownBy w' row) (hg : row ≠ some g) : Blk w' g t cs := (hb.block g h.lt (fun e => hg e.symm)).trans h
end
theorem post_named {P : Program} {f : Func} {Q : Ending → World → Prop} {e : Exit} {a : Act} {W : World} (h : ∀ W', W' = W → bodyPost P f Q e a W') : bodyPost P f Q e a W := h W rfl
end Go.G5
end
