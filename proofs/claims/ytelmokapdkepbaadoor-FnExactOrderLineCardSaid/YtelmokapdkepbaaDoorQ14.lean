/- append, told with where the result lies. -/
import Derived.Test.YtelmokapdkepbaaDoorQ13
section
namespace Go.G5
open Go Go.RowKit

section
variable {P : Program} {w : World}
/-- where a result of append lies: where the slice lay, or in a new block -/
def NearBy (w : World) (v v' : Value) : Prop := v'.ownBlock = v.ownBlock ∨ v'.ownBlock = some w.heap.size
theorem run_appendN (T E ty : TypeId) (hT : P.underlying T = some (.slice E)) (hE : IntElem P E) (B : Nat) (v : Value) (l : List Int) (hown : OwnI E B w v l)
    (sv : Value) (m : List Int) (hs : Ints w sv m) (hlen : l.length + m.length ≤ 17592186044416) (hB : B ≤ w.heap.size) :
    ∃ v' w', (Builtin.append_ #[T, T] ty #[v, sv]).run P w = .ok v' w' ∧ OwnI E B w' v' (l ++ m) ∧ w.grownBy w' v.ownBlock ∧ NearBy w v v' := by
  obtain ⟨i, hi, hz, h1, h8⟩ := hE.get
  obtain ⟨ad, c, rfl, hmc, hcm, hr, h4⟩ := hs
  have hall : ∀ q ∈ l ++ m, InR q := fun q hq => (List.mem_append.1 hq).elim (hown.2 q) (hr q)
  have hempty : ad = none → m = [] := by
    intro e
    rcases h4 with h | ⟨b, off, hb, _⟩
    · exact h
    · rw [e] at hb; cases hb
  cases ad with
  | none =>
    have := hempty rfl
    subst this
    refine ⟨v, w, ?_, by simpa using hown, World.grownBy.refl w _, .inl rfl⟩
    rcases hown.1.2 with ⟨rfl, hn⟩ | ⟨g, cap, cur, rfl, _, _, hnc, _⟩
    · simp [Builtin.append_, run_underlying hT, sizeOf, typeInfo, hi, Builtin.lenOf, Builtin.firstCells]
    · simp [Builtin.append_, run_underlying hT, sizeOf, typeInfo, hi, Builtin.lenOf, Builtin.firstCells, hnc, storeCells]
  | some ad =>
    have hcells : ∀ j u, (m.map (Value.int .i64))[j]? = some u → w.cell? (ad.add j) = some u := by
      intro j u hu
      rcases h4 with h | ⟨b, off, hb, _, hc⟩
      · subst h; simp at hu
      · simp only [Option.some.injEq] at hb
        subst hb
        have hj : j < m.length := by
          rcases Nat.lt_or_ge j m.length with h | h
          · exact h
          · rw [List.getElem?_eq_none (by simpa using h)] at hu; cases hu
        have := hc j hj
        have e : (⟨b, off, none⟩ : Addr).add j = ⟨b, off + j, none⟩ := by
          unfold Addr.add; split
          · rename_i h0; rw [h0]; rfl
          · rfl
        rw [e, this]
        rw [List.getElem?_map, List.getElem?_eq_getElem hj] at hu
        exact hu
    obtain ⟨v', w', hrun, h2, h3, _, h5⟩ := run_append_own_at (P := P) w B T ty E i (.int .i64 0) 1 8 hT hi hz h1 h8 rfl (by decide) v l.length (l.map (Value.int .i64)) hown.1 ad m.length c (m.map (Value.int .i64)) (by simp) hcells
      (by intro u hu; obtain ⟨q, _, rfl⟩ := List.mem_map.1 hu; rfl) (by unfold maxLen; omega) (by omega) hB
    exact ⟨v', w', hrun, ⟨by simpa using h2, hall⟩, h3, h5⟩
theorem wp_appendN {o : Oper} {a : Act} {K : Act → World → Prop} {Q : Exit → Act → World → Prop} (s x : Operand) (t : TypeId)
    (ho : o.op = .call { callee := .builtin .append, args := #[s, x], argTypes := #[t, t] })
    (E : TypeId) (hT : P.underlying t = some (.slice E)) (hE : IntElem P E) (B : Nat) (v : Value) (l : List Int) (hs : a.eval s = v) (hown : OwnI E B w v l)
    (sv : Value) (m : List Int) (hx : a.eval x = sv) (hsv : Ints w sv m) (hlen : l.length + m.length ≤ 17592186044416) (hB : B ≤ w.heap.size)
    (h : ∀ v' w', OwnI E B w' v' (l ++ m) → w.grownBy w' v.ownBlock → NearBy w v v' → K (a.put o.dst v') w') : o.wp P a w K Q := by
  obtain ⟨v', w', hrun, h2, h3, h4⟩ := run_appendN (P := P) t E o.type hT hE B v l hown sv m hsv hlen hB
  unfold Oper.wp execOp
  simp only [ho, resolve, invoke, builtin, Sem.run_bind, Sem.run_pure, Result.andThen_ok, List.map_toArray, List.map_cons, List.map_nil, hs, hx, hrun]
  exact h v' w' h2 h3 h4
theorem Ints.one {w : World} {b : Nat} {y : Int} (hy : w.cell? ⟨b, 0, none⟩ = some (.int .i64 y)) (hyr : InR y) : Ints w (.slice (some ⟨b, 0, none⟩) 1 1) [y] :=
  ⟨some ⟨b, 0, none⟩, 1, rfl, Nat.le_refl _, by decide, by intro q hq; simp only [List.mem_singleton] at hq; subst hq; exact hyr,
      .inr ⟨b, 0, rfl, World.block_lt_of_cell? w _ hy, fun k hk => by have : k = 0 := by simpa using hk
                                                                      subst this; exact hy⟩⟩
/-- out = append(out, y) -/
theorem wpList_appendN1 {ops : Array Oper} {rest : List Oper} {o : Oper} {a : Act} {Q : Exit → Act → World → Prop} (hgd : o.guard = none) (s x : Operand) (t : TypeId)
    (ho : o.op = .call { callee := .builtin .append, args := #[s, x], argTypes := #[t, t] })
    (E : TypeId) (hT : P.underlying t = some (.slice E)) (hE : IntElem P E) (B : Nat) (v : Value) (l : List Int) (y : Int) (b : Nat) (hs : a.eval s = v) (hx : a.eval x = .slice (some ⟨b, 0, none⟩) 1 1)
    (hy : w.cell? ⟨b, 0, none⟩ = some (.int .i64 y))
    (hown : OwnI E B w v l) (hyr : InR y) (hlen : l.length < 17592186044415) (hB : B ≤ w.heap.size)
    (h : ∀ v' w', OwnI E B w' v' (l ++ [y]) → w.grownBy w' v.ownBlock → NearBy w v v' → wpList P ops Q rest (a.put o.dst v') w') : wpList P ops Q (o :: rest) a w :=
  wpList_plain hgd fun _ hK => wp_appendN s x t ho E hT hE B v l hs hown _ [y] hx (Ints.one hy hyr) (by simp; omega) hB fun v' w' h2 h3 h4 => hK _ _ (h v' w' h2 h3 h4)
/-- out = append(out, s...) -/
theorem wpList_appendN {ops : Array Oper} {rest : List Oper} {o : Oper} {a : Act} {Q : Exit → Act → World → Prop} (hgd : o.guard = none) (s x : Operand) (t : TypeId)
    (ho : o.op = .call { callee := .builtin .append, args := #[s, x], argTypes := #[t, t] })
    (E : TypeId) (hT : P.underlying t = some (.slice E)) (hE : IntElem P E) (B : Nat) (v : Value) (l : List Int) (hs : a.eval s = v) (hown : OwnI E B w v l)
    (sv : Value) (m : List Int) (hx : a.eval x = sv) (hsv : Ints w sv m) (hlen : l.length + m.length ≤ 17592186044416) (hB : B ≤ w.heap.size)
    (h : ∀ v' w', OwnI E B w' v' (l ++ m) → w.grownBy w' v.ownBlock → NearBy w v v' → wpList P ops Q rest (a.put o.dst v') w') : wpList P ops Q (o :: rest) a w :=
  wpList_plain hgd fun _ hK => wp_appendN s x t ho E hT hE B v l hs hown sv m hx hsv hlen hB fun v' w' h2 h3 h4 => hK _ _ (h v' w' h2 h3 h4)
end
/-- what is known of another own row where append has grown one that lies apart -/
theorem NearBy.apart {w : World} {v v' u : Value} (h : NearBy w v v') (ha : Apart v u) (hu : ∀ k, u.ownBlock = some k → k < w.heap.size) : Apart v' u := by
  intro k hk hku
  rcases h with h | h
  · exact ha k (h ▸ hk) hku
  · rw [h] at hk
    have e : w.heap.size = k := Option.some.inj hk
    have := hu k hku
    omega
theorem OwnI.growA {E : TypeId} {B : Nat} {w w' : World} {u v : Value} {l : List Int} (h : OwnI E B w u l) (hg : w.grownBy w' v.ownBlock) (ha : Apart v u) : OwnI E B w' u l :=
  h.grow hg (fun k hk hu => ha k hk hu)
theorem OwnW.growA {E : TypeId} {B : Nat} {w w' : World} {u v : Value} {l : List Int} (h : OwnW E B w u l) (hg : w.grownBy w' v.ownBlock) (ha : Apart v u) : OwnW E B w' u l :=
  h.grow hg (fun k hk hu => ha k hk hu)
theorem Apart.nil (c d : Nat) (u : Value) : Apart (.slice none c d) u := fun k hk _ => by simp [Value.ownBlock] at hk
theorem Ints.upto {P : Program} {w : World} {a : Option Addr} {c : Nat} {l : List Int} (h : Ints w (.slice a l.length c) l) (T E : TypeId) (hT : P.underlying T = some (.slice E)) (hE : IntElem P E) (k : Nat) (hk : k ≤ l.length) :
    (∀ (kk : IntKind) (w' : World), (Instr.slice T (.slice a l.length c) none (some (.int kk (k : Int))) none).run P w' = .ok (.slice a k c) w') ∧ Ints w (.slice a k c) (l.take k) := by
  obtain ⟨i, hi, _, h1, _⟩ := hE.get
  have hEl : P.elem T = E := by simp [Program.elem, hT]
  obtain ⟨hl, hcl, hcm⟩ := h.capLe
  have hlen : (l.take k).length = k := by simp; omega
  refine ⟨fun kk w' => ?_, ?_⟩
  · rw [run_slice_h w' T a l.length c (by rw [hEl]; exact hT) kk k (by omega) (by omega)]
    simp [sizeOf, typeInfo, hEl, hi, h1, Result.andThen, sliced]
    cases a with
    | none => simp
    | some x => simp [Addr.add]
  · obtain ⟨a1, c1, he, q1, q2, q3, h4⟩ := h
    simp only [Value.slice.injEq] at he
    obtain ⟨rfl, _, rfl⟩ := he
    refine ⟨a, c, by rw [hlen], by omega, q2, fun x hx => q3 x (List.mem_of_mem_take hx), ?_⟩
    rcases h4 with e | ⟨b, off, rfl, hb, hk'⟩
    · rw [e]; exact .inl (by simp)
    · exact .inr ⟨b, off, rfl, hb, fun j hj => by rw [hk' j (by omega), List.getElem_take]⟩
theorem OwnI.drew' {E : TypeId} {B : Nat} {w : World} {v : Value} {l : List Int} (h : OwnI E B w v l) : OwnI E B w.drew v l := h.drewN 1
theorem Ints.drew' {w : World} {v : Value} {l : List Int} (h : Ints w v l) : Ints w.drew v l := h.drewN 1

/-- a step of a region that draws its order: append of a slice, told of the world in which the walk began -/
theorem step_put {P : Program} {w : World} {ops : Array Oper} {o : Oper} {a : Act} {K : Act → World → Prop} {Q : Exit → Act → World → Prop} {F : Prop} (hgd : o.guard = none) (s x : Operand) (t : TypeId)
    (ho : o.op = .call { callee := .builtin .append, args := #[s, x], argTypes := #[t, t] })
    (E : TypeId) (hT : P.underlying t = some (.slice E)) (hE : IntElem P E) (B : Nat) (v : Value) (l : List Int) (hs : a.eval s = v)
    (sv : Value) (m : List Int) (hx : a.eval x = sv) (hown : OwnI E B w v l) (hsv : Ints w sv m) (hlen : l.length + m.length ≤ 17592186044416) (w0 : World) (hb : Below B w0 w) (hB0 : B ≤ w0.heap.size)
    (h : ∀ v' w', OwnI E B w' v' (l ++ m) → Below B w0 w' → (∀ b u, w.cell? ⟨b, 0, none⟩ = some u → some b ≠ v.ownBlock → w'.cell? ⟨b, 0, none⟩ = some u) → K (a.put o.dst v') w') : if Region.wanted o (yielded ops a.tmps) = true then Oper.wp P o a w K Q else F := by
  have hB := Nat.le_trans hB0 hb.size
  refine step_appendS hgd s x t ho E hT hE B v l hs hown sv m hx hsv hlen hB fun v' w' h1 h2 => h v' w' h1 (hb.grown h2 hB (fun q hq => (hown.lt q hq).1)) fun b u hc hne => ?_
  have hlt := World.block_lt_of_cell? w _ hc
  have e := h2.block b hlt hne
  unfold World.cell? at hc ⊢
  simp only at hc ⊢
  rw [e]; exact hc
theorem cell_newD (w : World) (T : TypeId) (u : Value) : (w.alloc (.cells #[u] T)).drew.cell? ⟨w.heap.size, 0, none⟩ = some u := cell_new w #[u] T 0 u rfl
theorem cell_second (w : World) (o : Obj) (T : TypeId) (u : Value) : ((w.alloc o).alloc (.cells #[u] T)).drew.cell? ⟨w.heap.size + 1, 0, none⟩ = some u := by
  have h := cell_new (w.alloc o) #[u] T 0 u rfl
  have e : (w.alloc o).heap.size = w.heap.size + 1 := by simp
  rw [e] at h
  exact h
theorem cell_first (w : World) (o : Obj) (T : TypeId) (u : Value) : ((w.alloc (.cells #[u] T)).alloc o).drew.cell? ⟨w.heap.size, 0, none⟩ = some u := cell_old (cell_new w #[u] T 0 u rfl) o
theorem own_ne1 (n : Nat) (a b : Nat) : some (n + 1) ≠ (Value.slice (some ⟨n, 0, none⟩) a b).ownBlock := by intro e; have h : n + 1 = n := Option.some.inj e; omega
theorem own_ne2 (n : Nat) (a b : Nat) : some n ≠ (Value.slice (some ⟨n + 1, 0, none⟩) a b).ownBlock := by intro e; have h : n = n + 1 := Option.some.inj e; omega
theorem OwnI.lit0' {E : TypeId} (w : World) (o : Obj) : OwnI E w.heap.size ((w.alloc o).alloc (.cells #[] E)) (.slice (some ⟨w.heap.size + 1, 0, none⟩) 0 0) [] := by
  have := OwnI.lit0 (E := E) (B := w.heap.size) (w.alloc o) (by simp)
  simpa using this
/-- as step_put; whole blocks apart from the row are as they were -/
theorem step_putB {P : Program} {w : World} {ops : Array Oper} {o : Oper} {a : Act} {K : Act → World → Prop} {Q : Exit → Act → World → Prop} {F : Prop} (hgd : o.guard = none) (s x : Operand) (t : TypeId)
    (ho : o.op = .call { callee := .builtin .append, args := #[s, x], argTypes := #[t, t] })
    (E : TypeId) (hT : P.underlying t = some (.slice E)) (hE : IntElem P E) (B : Nat) (v : Value) (l : List Int) (hs : a.eval s = v)
    (sv : Value) (m : List Int) (hx : a.eval x = sv) (hown : OwnI E B w v l) (hsv : Ints w sv m) (hlen : l.length + m.length ≤ 17592186044416) (w0 : World) (hb : Below B w0 w) (hB0 : B ≤ w0.heap.size)
    (h : ∀ v' w', OwnI E B w' v' (l ++ m) → Below B w0 w' → (∀ b t cs, Blk w b t cs → some b ≠ v.ownBlock → Blk w' b t cs ∧ v'.ownBlock ≠ some b) → K (a.put o.dst v') w') : if Region.wanted o (yielded ops a.tmps) = true then Oper.wp P o a w K Q else F := by
  have hB := Nat.le_trans hB0 hb.size
  have hw : Region.wanted o (yielded ops a.tmps) = true := by simp [Region.wanted, hgd]
  rw [if_pos hw]
  refine wp_appendN s x t ho E hT hE B v l hs hown sv m hx hsv hlen hB fun v' w' h1 h2 h3 => h v' w' h1 (hb.grown h2 hB (fun q hq => (hown.lt q hq).1)) fun b t cs hc hne => ⟨hc.grow h2 (fun e => hne e.symm), ?_⟩
  rcases h3 with h3 | h3
  · rw [h3]; exact fun e => hne e.symm
  · rw [h3]; intro e; have := Option.some.inj e; have := hc.lt; omega
theorem grown_setCell (w : World) (a : Addr) (u : Value) : w.grownBy (w.setCell a u) (some a.block) :=
  ⟨rfl, rfl, rfl, by simp, fun b _ hne => Below.heap_setCell w _ _ b (fun e => hne (by rw [e]))⟩
theorem grow_set {w w' : World} {g : Nat} (h : w.grownBy w' (some g)) (i : Nat) (u : Value) : w.grownBy (w'.setCell ⟨g, i, none⟩ u) (some g) := gr_trans h (grown_setCell w' ⟨g, i, none⟩ u)
theorem OwnI.setFar {E : TypeId} {B : Nat} {w : World} {v : Value} {l : List Int} (h : OwnI E B w v l) (a : Addr) (ha : v.ownBlock ≠ some a.block) (u : Value) : OwnI E B (w.setCell a u) v l :=
  h.grow (grown_setCell w a u) (fun _ hk hv => ha (hv.trans hk.symm))
theorem far_of {v v' : Value} {F n : Nat} (h : ∀ k, v'.ownBlock = some k → v.ownBlock = some k ∨ n ≤ k) (h1 : v.ownBlock ≠ some F) (h2 : F < n) : v'.ownBlock ≠ some F := fun e => by
  rcases h F e with h | h
  · exact h1 h
  · omega
theorem own_neF {E : TypeId} {B F : Nat} {w : World} {v : Value} {l : List Int} (h : OwnI E B w v l) (hF : w.heap.size ≤ F) : v.ownBlock ≠ some F := fun e => by have := (h.lt F e).2; omega
theorem size_ne {B g : Nat} {w w' : World} (h : Below B w w') (hg : g < w.heap.size) : ¬ w'.heap.size = g := by have := h.size; omega
theorem Blk.drew' {w : World} {g : Nat} {t : TypeId} {cs : Array Value} (h : Blk w g t cs) : Blk w.drew g t cs := h
theorem Blk.second (w : World) (o : Obj) (t : TypeId) (cs : Array Value) : Blk ((w.alloc o).alloc (.cells cs t)).drew (w.heap.size + 1) t cs := by
  have h := Blk.new (w.alloc o) t cs
  have e : (w.alloc o).heap.size = w.heap.size + 1 := by simp
  rw [e] at h
  exact h
theorem Blk.first (w : World) (o : Obj) (t : TypeId) (cs : Array Value) : Blk ((w.alloc (.cells cs t)).alloc o).drew w.heap.size t cs := (Blk.new w t cs).alloc o
end Go.G5
end
