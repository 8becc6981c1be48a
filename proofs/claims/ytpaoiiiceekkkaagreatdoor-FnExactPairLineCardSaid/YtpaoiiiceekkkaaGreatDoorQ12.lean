/- append, told with where the result lies. The walk over sets and pairs of the first program. Violations: the first program. -/
import Derived.Test.YtpaoiiiceekkkaaGreatDoorQ11
import Derived.Shelf.Abstract
section
namespace Go.G5
open Go Go.RowKit

section
variable {P : Program} {w : World}
/-- where a result of append lies: where the slice lay, or in a new block -/
def NearBy (w : World) (v v' : Value) : Prop := v'.ownBlock = v.ownBlock ∨ v'.ownBlock = some w.heap.size
theorem run_appendN (T E ty : TypeId) (hT : P.underlying T = some (.slice E)) (hE : IntElem P E) (B : Nat) (v : Value) (l : List Int) (hown : OwnI E B w v l)
    (sv : Value) (m : List Int) (hs : Ints w sv m) (hlen : l.length + m.length ≤ 17592186044416) (hB : B ≤ w.heap.size) :
    ∃ v' w', (Builtin.append_ #[T, T] ty #[v, sv]).run P w = .ok v' w' ∧ OwnI E B w' v' (l ++ m) ∧ w.grownBy w' v.ownBlock ∧ NearBy w v v' := by
  obtain ⟨i, hi, hz, h1, h8⟩ := hE.get
  obtain ⟨ad, c, rfl, hmc, hcm, hr, h4⟩ := hs
  have hall : ∀ q ∈ l ++ m, InR q := fun q hq => (List.mem_append.1 hq).elim (hown.2 q) (hr q)
  have hempty : ad = none → m = [] := by
    intro e
    rcases h4 with h | ⟨b, off, hb, _⟩
    · exact h
    · rw [e] at hb; cases hb
  cases ad with
  | none =>
    have := hempty rfl
    subst this
    refine ⟨v, w, ?_, by simpa using hown, World.grownBy.refl w _, .inl rfl⟩
    rcases hown.1.2 with ⟨rfl, hn⟩ | ⟨g, cap, cur, rfl, _, _, hnc, _⟩
    · simp [Builtin.append_, run_underlying hT, sizeOf, typeInfo, hi, Builtin.lenOf, Builtin.firstCells]
    · simp [Builtin.append_, run_underlying hT, sizeOf, typeInfo, hi, Builtin.lenOf, Builtin.firstCells, hnc, storeCells]
  | some ad =>
    have hcells : ∀ j u, (m.map (Value.int .i64))[j]? = some u → w.cell? (ad.add j) = some u := by
      intro j u hu
      rcases h4 with h | ⟨b, off, hb, _, hc⟩
      · subst h; simp at hu
      · simp only [Option.some.injEq] at hb
        subst hb
        have hj : j < m.length := by
          rcases Nat.lt_or_ge j m.length with h | h
          · exact h
          · rw [List.getElem?_eq_none (by simpa using h)] at hu; cases hu
        have := hc j hj
        have e : (⟨b, off, none⟩ : Addr).add j = ⟨b, off + j, none⟩ := by
          unfold Addr.add; split
          · rename_i h0; rw [h0]; rfl
          · rfl
        rw [e, this]
        rw [List.getElem?_map, List.getElem?_eq_getElem hj] at hu
        exact hu
    obtain ⟨v', w', hrun, h2, h3, _, h5⟩ := run_append_own_at (P := P) w B T ty E i (.int .i64 0) 1 8 hT hi hz h1 h8 rfl (by decide) v l.length (l.map (Value.int .i64)) hown.1 ad m.length c (m.map (Value.int .i64)) (by simp) hcells
      (by intro u hu; obtain ⟨q, _, rfl⟩ := List.mem_map.1 hu; rfl) (by unfold maxLen; omega) (by omega) hB
    exact ⟨v', w', hrun, ⟨by simpa using h2, hall⟩, h3, h5⟩
theorem wp_appendN {o : Oper} {a : Act} {K : Act → World → Prop} {Q : Exit → Act → World → Prop} (s x : Operand) (t : TypeId)
    (ho : o.op = .call { callee := .builtin .append, args := #[s, x], argTypes := #[t, t] })
    (E : TypeId) (hT : P.underlying t = some (.slice E)) (hE : IntElem P E) (B : Nat) (v : Value) (l : List Int) (hs : a.eval s = v) (hown : OwnI E B w v l)
    (sv : Value) (m : List Int) (hx : a.eval x = sv) (hsv : Ints w sv m) (hlen : l.length + m.length ≤ 17592186044416) (hB : B ≤ w.heap.size)
    (h : ∀ v' w', OwnI E B w' v' (l ++ m) → w.grownBy w' v.ownBlock → NearBy w v v' → K (a.put o.dst v') w') : o.wp P a w K Q := by
  obtain ⟨v', w', hrun, h2, h3, h4⟩ := run_appendN (P := P) t E o.type hT hE B v l hown sv m hsv hlen hB
  unfold Oper.wp execOp
  simp only [ho, resolve, invoke, builtin, Sem.run_bind, Sem.run_pure, Result.andThen_ok, List.map_toArray, List.map_cons, List.map_nil, hs, hx, hrun]
  exact h v' w' h2 h3 h4
theorem Ints.one {w : World} {b : Nat} {y : Int} (hy : w.cell? ⟨b, 0, none⟩ = some (.int .i64 y)) (hyr : InR y) : Ints w (.slice (some ⟨b, 0, none⟩) 1 1) [y] :=
  ⟨some ⟨b, 0, none⟩, 1, rfl, Nat.le_refl _, by decide, by intro q hq; simp only [List.mem_singleton] at hq; subst hq; exact hyr,
      .inr ⟨b, 0, rfl, World.block_lt_of_cell? w _ hy, fun k hk => by have : k = 0 := by simpa using hk
                                                                      subst this; exact hy⟩⟩
/-- out = append(out, y) -/
theorem wpList_appendN1 {ops : Array Oper} {rest : List Oper} {o : Oper} {a : Act} {Q : Exit → Act → World → Prop} (hgd : o.guard = none) (s x : Operand) (t : TypeId)
    (ho : o.op = .call { callee := .builtin .append, args := #[s, x], argTypes := #[t, t] })
    (E : TypeId) (hT : P.underlying t = some (.slice E)) (hE : IntElem P E) (B : Nat) (v : Value) (l : List Int) (y : Int) (b : Nat) (hs : a.eval s = v) (hx : a.eval x = .slice (some ⟨b, 0, none⟩) 1 1)
    (hy : w.cell? ⟨b, 0, none⟩ = some (.int .i64 y))
    (hown : OwnI E B w v l) (hyr : InR y) (hlen : l.length < 17592186044415) (hB : B ≤ w.heap.size)
    (h : ∀ v' w', OwnI E B w' v' (l ++ [y]) → w.grownBy w' v.ownBlock → NearBy w v v' → wpList P ops Q rest (a.put o.dst v') w') : wpList P ops Q (o :: rest) a w :=
  wpList_plain hgd fun _ hK => wp_appendN s x t ho E hT hE B v l hs hown _ [y] hx (Ints.one hy hyr) (by simp; omega) hB fun v' w' h2 h3 h4 => hK _ _ (h v' w' h2 h3 h4)
/-- out = append(out, s...) -/
theorem wpList_appendN {ops : Array Oper} {rest : List Oper} {o : Oper} {a : Act} {Q : Exit → Act → World → Prop} (hgd : o.guard = none) (s x : Operand) (t : TypeId)
    (ho : o.op = .call { callee := .builtin .append, args := #[s, x], argTypes := #[t, t] })
    (E : TypeId) (hT : P.underlying t = some (.slice E)) (hE : IntElem P E) (B : Nat) (v : Value) (l : List Int) (hs : a.eval s = v) (hown : OwnI E B w v l)
    (sv : Value) (m : List Int) (hx : a.eval x = sv) (hsv : Ints w sv m) (hlen : l.length + m.length ≤ 17592186044416) (hB : B ≤ w.heap.size)
    (h : ∀ v' w', OwnI E B w' v' (l ++ m) → w.grownBy w' v.ownBlock → NearBy w v v' → wpList P ops Q rest (a.put o.dst v') w') : wpList P ops Q (o :: rest) a w :=
  wpList_plain hgd fun _ hK => wp_appendN s x t ho E hT hE B v l hs hown sv m hx hsv hlen hB fun v' w' h2 h3 h4 => hK _ _ (h v' w' h2 h3 h4)
end
/-- what is known of another own row where append has grown one that lies apart -/
theorem NearBy.apart {w : World} {v v' u : Value} (h : NearBy w v v') (ha : Apart v u) (hu : ∀ k, u.ownBlock = some k → k < w.heap.size) : Apart v' u := by
  intro k hk hku
  rcases h with h | h
  · exact ha k (h ▸ hk) hku
  · rw [h] at hk
    have e : w.heap.size = k := Option.some.inj hk
    have := hu k hku
    omega
theorem OwnI.growA {E : TypeId} {B : Nat} {w w' : World} {u v : Value} {l : List Int} (h : OwnI E B w u l) (hg : w.grownBy w' v.ownBlock) (ha : Apart v u) : OwnI E B w' u l :=
  h.grow hg (fun k hk hu => ha k hk hu)
theorem OwnW.growA {E : TypeId} {B : Nat} {w w' : World} {u v : Value} {l : List Int} (h : OwnW E B w u l) (hg : w.grownBy w' v.ownBlock) (ha : Apart v u) : OwnW E B w' u l :=
  h.grow hg (fun k hk hu => ha k hk hu)
theorem Apart.nil (c d : Nat) (u : Value) : Apart (.slice none c d) u := fun k hk _ => by simp [Value.ownBlock] at hk
theorem Ints.upto {P : Program} {w : World} {a : Option Addr} {c : Nat} {l : List Int} (h : Ints w (.slice a l.length c) l) (T E : TypeId) (hT : P.underlying T = some (.slice E)) (hE : IntElem P E) (k : Nat) (hk : k ≤ l.length) :
    (∀ (kk : IntKind) (w' : World), (Instr.slice T (.slice a l.length c) none (some (.int kk (k : Int))) none).run P w' = .ok (.slice a k c) w') ∧ Ints w (.slice a k c) (l.take k) := by
  obtain ⟨i, hi, _, h1, _⟩ := hE.get
  have hEl : P.elem T = E := by simp [Program.elem, hT]
  obtain ⟨hl, hcl, hcm⟩ := h.capLe
  have hlen : (l.take k).length = k := by simp; omega
  refine ⟨fun kk w' => ?_, ?_⟩
  · rw [run_slice_h w' T a l.length c (by rw [hEl]; exact hT) kk k (by omega) (by omega)]
    simp [sizeOf, typeInfo, hEl, hi, h1, Result.andThen, sliced]
    cases a with
    | none => simp
    | some x => simp [Addr.add]
  · obtain ⟨a1, c1, he, q1, q2, q3, h4⟩ := h
    simp only [Value.slice.injEq] at he
    obtain ⟨rfl, _, rfl⟩ := he
    refine ⟨a, c, by rw [hlen], by omega, q2, fun x hx => q3 x (List.mem_of_mem_take hx), ?_⟩
    rcases h4 with e | ⟨b, off, rfl, hb, hk'⟩
    · rw [e]; exact .inl (by simp)
    · exact .inr ⟨b, off, rfl, hb, fun j hj => by rw [hk' j (by omega), List.getElem_take]⟩
theorem OwnI.drew' {E : TypeId} {B : Nat} {w : World} {v : Value} {l : List Int} (h : OwnI E B w v l) : OwnI E B w.drew v l := h.drewN 1
theorem Ints.drew' {w : World} {v : Value} {l : List Int} (h : Ints w v l) : Ints w.drew v l := h.drewN 1

/-- a step of a region that draws its order: append of a slice, told of the world in which the walk began -/
theorem step_put {P : Program} {w : World} {ops : Array Oper} {o : Oper} {a : Act} {K : Act → World → Prop} {Q : Exit → Act → World → Prop} {F : Prop} (hgd : o.guard = none) (s x : Operand) (t : TypeId)
    (ho : o.op = .call { callee := .builtin .append, args := #[s, x], argTypes := #[t, t] })
    (E : TypeId) (hT : P.underlying t = some (.slice E)) (hE : IntElem P E) (B : Nat) (v : Value) (l : List Int) (hs : a.eval s = v)
    (sv : Value) (m : List Int) (hx : a.eval x = sv) (hown : OwnI E B w v l) (hsv : Ints w sv m) (hlen : l.length + m.length ≤ 17592186044416) (w0 : World) (hb : Below B w0 w) (hB0 : B ≤ w0.heap.size)
    (h : ∀ v' w', OwnI E B w' v' (l ++ m) → Below B w0 w' → (∀ b u, w.cell? ⟨b, 0, none⟩ = some u → some b ≠ v.ownBlock → w'.cell? ⟨b, 0, none⟩ = some u) → K (a.put o.dst v') w') : if Region.wanted o (yielded ops a.tmps) = true then Oper.wp P o a w K Q else F := by
  have hB := Nat.le_trans hB0 hb.size
  refine step_appendS hgd s x t ho E hT hE B v l hs hown sv m hx hsv hlen hB fun v' w' h1 h2 => h v' w' h1 (hb.grown h2 hB (fun q hq => (hown.lt q hq).1)) fun b u hc hne => ?_
  have hlt := World.block_lt_of_cell? w _ hc
  have e := h2.block b hlt hne
  unfold World.cell? at hc ⊢
  simp only at hc ⊢
  rw [e]; exact hc
theorem cell_newD (w : World) (T : TypeId) (u : Value) : (w.alloc (.cells #[u] T)).drew.cell? ⟨w.heap.size, 0, none⟩ = some u := cell_new w #[u] T 0 u rfl
theorem cell_second (w : World) (o : Obj) (T : TypeId) (u : Value) : ((w.alloc o).alloc (.cells #[u] T)).drew.cell? ⟨w.heap.size + 1, 0, none⟩ = some u := by
  have h := cell_new (w.alloc o) #[u] T 0 u rfl
  have e : (w.alloc o).heap.size = w.heap.size + 1 := by simp
  rw [e] at h
  exact h
theorem cell_first (w : World) (o : Obj) (T : TypeId) (u : Value) : ((w.alloc (.cells #[u] T)).alloc o).drew.cell? ⟨w.heap.size, 0, none⟩ = some u := cell_old (cell_new w #[u] T 0 u rfl) o
theorem own_ne1 (n : Nat) (a b : Nat) : some (n + 1) ≠ (Value.slice (some ⟨n, 0, none⟩) a b).ownBlock := by intro e; have h : n + 1 = n := Option.some.inj e; omega
theorem own_ne2 (n : Nat) (a b : Nat) : some n ≠ (Value.slice (some ⟨n + 1, 0, none⟩) a b).ownBlock := by intro e; have h : n = n + 1 := Option.some.inj e; omega
theorem OwnI.lit0' {E : TypeId} (w : World) (o : Obj) : OwnI E w.heap.size ((w.alloc o).alloc (.cells #[] E)) (.slice (some ⟨w.heap.size + 1, 0, none⟩) 0 0) [] := by
  have := OwnI.lit0 (E := E) (B := w.heap.size) (w.alloc o) (by simp)
  simpa using this
/-- as step_put; whole blocks apart from the row are as they were -/
theorem step_putB {P : Program} {w : World} {ops : Array Oper} {o : Oper} {a : Act} {K : Act → World → Prop} {Q : Exit → Act → World → Prop} {F : Prop} (hgd : o.guard = none) (s x : Operand) (t : TypeId)
    (ho : o.op = .call { callee := .builtin .append, args := #[s, x], argTypes := #[t, t] })
    (E : TypeId) (hT : P.underlying t = some (.slice E)) (hE : IntElem P E) (B : Nat) (v : Value) (l : List Int) (hs : a.eval s = v)
    (sv : Value) (m : List Int) (hx : a.eval x = sv) (hown : OwnI E B w v l) (hsv : Ints w sv m) (hlen : l.length + m.length ≤ 17592186044416) (w0 : World) (hb : Below B w0 w) (hB0 : B ≤ w0.heap.size)
    (h : ∀ v' w', OwnI E B w' v' (l ++ m) → Below B w0 w' → (∀ b t cs, Blk w b t cs → some b ≠ v.ownBlock → Blk w' b t cs ∧ v'.ownBlock ≠ some b) → K (a.put o.dst v') w') : if Region.wanted o (yielded ops a.tmps) = true then Oper.wp P o a w K Q else F := by
  have hB := Nat.le_trans hB0 hb.size
  have hw : Region.wanted o (yielded ops a.tmps) = true := by simp [Region.wanted, hgd]
  rw [if_pos hw]
  refine wp_appendN s x t ho E hT hE B v l hs hown sv m hx hsv hlen hB fun v' w' h1 h2 h3 => h v' w' h1 (hb.grown h2 hB (fun q hq => (hown.lt q hq).1)) fun b t cs hc hne => ⟨hc.grow h2 (fun e => hne e.symm), ?_⟩
  rcases h3 with h3 | h3
  · rw [h3]; exact fun e => hne e.symm
  · rw [h3]; intro e; have := Option.some.inj e; have := hc.lt; omega
theorem grown_setCell (w : World) (a : Addr) (u : Value) : w.grownBy (w.setCell a u) (some a.block) :=
  ⟨rfl, rfl, rfl, by simp, fun b _ hne => Below.heap_setCell w _ _ b (fun e => hne (by rw [e]))⟩
theorem grow_set {w w' : World} {g : Nat} (h : w.grownBy w' (some g)) (i : Nat) (u : Value) : w.grownBy (w'.setCell ⟨g, i, none⟩ u) (some g) := gr_trans h (grown_setCell w' ⟨g, i, none⟩ u)
theorem OwnI.setFar {E : TypeId} {B : Nat} {w : World} {v : Value} {l : List Int} (h : OwnI E B w v l) (a : Addr) (ha : v.ownBlock ≠ some a.block) (u : Value) : OwnI E B (w.setCell a u) v l :=
  h.grow (grown_setCell w a u) (fun _ hk hv => ha (hv.trans hk.symm))
theorem far_of {v v' : Value} {F n : Nat} (h : ∀ k, v'.ownBlock = some k → v.ownBlock = some k ∨ n ≤ k) (h1 : v.ownBlock ≠ some F) (h2 : F < n) : v'.ownBlock ≠ some F := fun e => by
  rcases h F e with h | h
  · exact h1 h
  · omega
theorem own_neF {E : TypeId} {B F : Nat} {w : World} {v : Value} {l : List Int} (h : OwnI E B w v l) (hF : w.heap.size ≤ F) : v.ownBlock ≠ some F := fun e => by have := (h.lt F e).2; omega
theorem size_ne {B g : Nat} {w w' : World} (h : Below B w w') (hg : g < w.heap.size) : ¬ w'.heap.size = g := by have := h.size; omega
theorem Blk.drew' {w : World} {g : Nat} {t : TypeId} {cs : Array Value} (h : Blk w g t cs) : Blk w.drew g t cs := h
theorem Blk.second (w : World) (o : Obj) (t : TypeId) (cs : Array Value) : Blk ((w.alloc o).alloc (.cells cs t)).drew (w.heap.size + 1) t cs := by
  have h := Blk.new (w.alloc o) t cs
  have e : (w.alloc o).heap.size = w.heap.size + 1 := by simp
  rw [e] at h
  exact h
theorem Blk.first (w : World) (o : Obj) (t : TypeId) (cs : Array Value) : Blk ((w.alloc (.cells cs t)).alloc o).drew w.heap.size t cs := (Blk.new w t cs).alloc o
end Go.G5
end
section
namespace Go.Proofs.YtpaoiiiceekkkaaGreatDoor
open Go.RowKit Go.G5

theorem ibit_zero' (c s : Nat) : (ibit (c : Int) s == 0) = !nbit c s := by
  have h := nbit_is c s
  have h2 : ibit (c : Int) s = 0 ∨ ibit (c : Int) s = 1 := by
    unfold ibit
    omega
  rcases h2 with h2 | h2
  · rw [h2] at h ⊢; rw [← h]; rfl
  · rw [h2] at h ⊢; rw [← h]; rfl

set_option maxHeartbeats 4000000 in
set_option maxRecDepth 100000 in
theorem visitPairs_any {α : Type} (n : Nat) (hn : n ≤ 5) (l : List Int) (lv : Value) (hl : l.length = 2 ^ n) (c : FuncId) (he : ∀ args w, (callFunc c args).run Tryz.prog w = .ok (.enter c args) w) (g1 g2 : Nat)
    (step : α → Tri → α × Bool) (Rel : α → World → Prop) (P : Nat → Prop) (hmono : ∀ a W W', Rel a W → Below W.heap.size W W' → Rel a W')
    (w : World) (hlv : ∃ a c, lv = .slice a l.length c) (hP : ∀ b, P b → b < w.heap.size)
    (hcl : ∀ a (s i k : Nat) W, s < 2 ^ n → i < k → k < n → nbit s i = false → nbit s k = false → Rel a W → GrownIn w W P → Calls Tryz.prog c #[.int .i64 s, .int .i64 i, .int .i64 k, .pointer (some ⟨g1, 0, none⟩), .pointer (some ⟨g2, 0, none⟩)] W fun e w' => e = .returned (.bool (step a (s, i, k)).2) ∧ Rel (step a (s, i, k)).1 w' ∧ GrownIn W w' P)
    (a0 : α) (h0 : Rel a0 w) :
    Calls Tryz.prog 108 #[.agg #[.int .i64 n, lv], .func (.func c) #[] #[.pointer (some ⟨g1, 0, none⟩), .pointer (some ⟨g2, 0, none⟩)]] w fun e w' => e = .returned (.tuple #[]) ∧ Rel (runT step (tri3 n (2 ^ n)) a0).1 w' ∧ GrownIn w w' P := by
  obtain ⟨a, cp, rfl⟩ := hlv
  have hp5 : (2 : Nat) ^ n ≤ 32 := Nat.pow_le_pow_right (n := 2) (by decide) hn
  obtain ⟨N, hN⟩ : ∃ N : Nat, N = 2 ^ n := ⟨_, rfl⟩
  rw [← hN] at hl hp5 hcl ⊢
  obtain ⟨T, hT⟩ : ∃ T, T = tri3 n N := ⟨_, rfl⟩
  rw [← hT]
  have hcell : l.length ≤ 32 := by omega
  have K0 := Blk.new w 27 #[.int .i64 n, .slice a l.length cp]
  have R0 := hmono a0 w _ h0 (bl1 w (.cells #[.int .i64 n, .slice a l.length cp] 27))
  have GR0 : GrownIn w (w.alloc (.cells #[.int .i64 n, .slice a l.length cp] 27)) P := GrownIn.of_below (bl1 _ _)
  have HT := Lib.hid hT
  have HL := Lib.hid hl
  have HCL := Lib.hid hcl
  have HM := Lib.hid hmono
  have HP := Lib.hid hP
  clear hT hl hcl hmono hP hN
  go_enter Tryz.func108, Tryz.ntmps108
  go_wp2_with fail
  go_loopw [10] (fun s wr => ∃ (k : Nat) (b : α), k ≤ l.length ∧ s = .int .i64 k ∧ runT step (tri3 n k) a0 = (b, true) ∧ Rel b wr ∧ GrownIn w wr P ∧ Blk wr w.heap.size 27 #[.int .i64 n, .slice a l.length cp]) (fun s _ => l.length - (intOf s).toNat)
  case atStart => exact ⟨0, a0, Nat.zero_le _, rfl, rfl, R0, GR0, K0⟩
  case round =>
    obtain ⟨s, b, hs, rfl, hrun, hrel1, hgr, K⟩ := hrel
    obtain ⟨wo, rfl⟩ : ∃ wo : World, wo = wr := ⟨_, rfl⟩
    have HR := Lib.hid hrun
    have HREL := Lib.hid hrel1
    have HGR := Lib.hid hgr
    clear hrun hrel1 hgr R0 GR0 K0
    by_cases hsl : s < l.length
    · have hsN : s < N := by rw [← HL.out]; exact hsl
      have HSN := Lib.hid hsN
      have G1 := K.cell
      clear hsN
      go_wp2_with fail
      go_loopw [15] (fun i wr => ∃ (k : Nat) (b : α), k ≤ n ∧ i = .int .i64 k ∧ runT step (tri3 n s ++ tri2 n s k) a0 = (b, true) ∧ Rel b wr ∧ GrownIn w wr P ∧ Blk wr w.heap.size 27 #[.int .i64 n, .slice a l.length cp]) (fun i _ => n - (intOf i).toNat)
      case atStart => exact ⟨0, b, Nat.zero_le _, rfl, by rw [show tri2 n s 0 = [] from rfl, List.append_nil]; exact HR.out, HREL.out, HGR.out, K⟩
      case round =>
        obtain ⟨i, b2, hi, rfl, hrun, hrel1, hgr, K⟩ := hrel
        obtain ⟨wi, rfl⟩ : ∃ wo : World, wo = wr := ⟨_, rfl⟩
        have HR2 := Lib.hid hrun
        have HREL2 := Lib.hid hrel1
        have HGR2 := Lib.hid hgr
        clear hrun hrel1 hgr G1
        by_cases hin : i < n
        · have hst := tri_start s i (i + 1) (Nat.le_refl _)
          have HST := Lib.hid hst
          clear hst
          go_wp2_with fail
          go_loopw [6] (fun i' wr => ∃ (k : Nat) (b : α), i < k ∧ k ≤ n ∧ i' = .int .i64 k ∧ runT step ((tri3 n s ++ tri2 n s i) ++ tri s i k) a0 = (b, true) ∧ Rel b wr ∧ GrownIn w wr P ∧ Blk wr w.heap.size 27 #[.int .i64 n, .slice a l.length cp]) (fun i' _ => n - (intOf i').toNat)
          case atStart => exact ⟨i + 1, b2, by omega, by omega, by go_num, by rw [HST.out, List.append_nil]; exact HR2.out, HREL2.out, HGR2.out, K⟩
          case round =>
            obtain ⟨k, b3, hik, hk, rfl, hrun, hrel1, hgr, K⟩ := hrel
            obtain ⟨wk, rfl⟩ : ∃ wo : World, wo = wr := ⟨_, rfl⟩
            have HR3 := Lib.hid hrun
            have HREL3 := Lib.hid hrel1
            have HGR3 := Lib.hid hgr
            have G1 := K.cell
            clear hrun hrel1 hgr
            by_cases hkn : k < n
            · have hbi := bit_is (s : Int) i (by omega) (by omega)
              have hbk := bit_is (s : Int) k (by omega) (by omega)
              have hni := ibit_zero' s i
              have hnk := ibit_zero' s k
              obtain ⟨y, hy⟩ : ∃ y, y = ibit (s : Int) i := ⟨_, rfl⟩
              obtain ⟨z, hz⟩ : ∃ y, y = ibit (s : Int) k := ⟨_, rfl⟩
              rw [← hy] at hbi hni
              rw [← hz] at hbk hnk
              have htk : tri s i (k + 1) = tri s i k ++ (if (decide (i < k) && (!nbit s i && !nbit s k)) then [(s, i, k)] else []) := rfl
              rw [decide_eq_true hik, Bool.true_and] at htk
              have HTK := Lib.hid htk
              clear hy hz htk
              cases h1 : nbit s i with
              | true =>
                have hy1 : (y == 0) = false := by rw [hni, h1]; rfl
                have H1 := Lib.hid h1
                clear h1 hni hnk
                go_wp2
                go_roundw
                case rel => exact ⟨k + 1, b3, by omega, by omega, by go_num, by rw [HTK.out, H1.out]; simpa using HR3.out, HREL3.out, HGR3.out, K⟩
                case measure => simp [intOf]; omega
              | false =>
                have hy1 : (y == 0) = true := by rw [hni, h1]; rfl
                cases h2 : nbit s k with
                | true =>
                  have hz1 : (z == 0) = false := by rw [hnk, h2]; rfl
                  have H2 := Lib.hid h2
                  clear h1 h2 hni hnk
                  go_wp2
                  go_roundw
                  case rel => exact ⟨k + 1, b3, by omega, by omega, by go_num, by rw [HTK.out, H2.out]; simpa using HR3.out, HREL3.out, HGR3.out, K⟩
                  case measure => simp [intOf]; omega
                | false =>
                  have hz1 : (z == 0) = true := by rw [hnk, h2]; rfl
                  have hc1 := HCL.out b3 s i k wk HSN.out hik hkn h1 h2 HREL3.out HGR3.out
                  have htk2 : tri s i (k + 1) = tri s i k ++ [(s, i, k)] := by rw [HTK.out, h1, h2]; rfl
                  obtain ⟨r, hr⟩ : ∃ r, r = step b3 (s, i, k) := ⟨_, rfl⟩
                  have hone : runT step [(s, i, k)] b3 = r := by rw [runT_one, hr]
                  rw [← hr] at hc1
                  have hrun2 : runT step (((tri3 n s ++ tri2 n s i) ++ tri s i k) ++ [(s, i, k)]) a0 = r := by rw [runT_go HR3.out]; exact hone
                  obtain ⟨ra, rb⟩ := r
                  have HC1 := Lib.hid hc1
                  have HT2 := Lib.hid htk2
                  have HRUN := Lib.hid hrun2
                  clear h1 h2 hni hnk hc1 htk2 hone hrun2 hr
                  cases rb with
                  | true =>
                    go_wp2_with (go_at_fn c; refine HC1.out.mono ?_; rintro e w4 ⟨rfl, hR4, hG4⟩)
                    have K4 := K.growIn hG4 (fun h => by have := HP.out _ h; omega)
                    have GG := HGR3.out.trans hG4
                    go_roundw
                    case rel => exact ⟨k + 1, ra, by omega, by omega, by go_num, by rw [HT2.out, ← List.append_assoc]; exact HRUN.out, hR4, GG, K4⟩
                    case measure => simp [intOf]; omega
                  | false =>
                    go_wp2_with (go_at_fn c; refine HC1.out.mono ?_; rintro e w4 ⟨rfl, hR4, hG4⟩)
                    refine bodyPost_ret (v := .tuple #[]) (results_none rfl _ _ _) rfl ⟨rfl, ?_, HGR3.out.trans hG4⟩
                    have hT : (runT step T a0).1 = ra := by
                      obtain ⟨r, hr⟩ := tri_front n N s i (k + 1) HSN.out hin hkn
                      rw [HT.out, hr, HT2.out, ← List.append_assoc, runT_stop HRUN.out]
                    rw [hT]; exact hR4
            · have hkn' : k = n := by omega
              subst hkn'
              go_wp2
              go_roundw
              case rel => exact ⟨i + 1, b3, by omega, by go_num, by rw [show tri2 k s (i + 1) = tri2 k s i ++ tri s i k from rfl, ← List.append_assoc]; exact HR3.out, HREL3.out, HGR3.out, K⟩
              case measure => simp [intOf]; omega
        · have hin' : i = n := by omega
          subst hin'
          have G1 := K.cell
          go_wp2
          go_roundw
          case rel => exact ⟨s + 1, b2, by omega, by go_num, HR2.out, HREL2.out, HGR2.out, K⟩
          case measure => simp [intOf]; omega
    · have hsl' : s = l.length := by omega
      subst hsl'
      go_wp2
      go_end0
      refine ⟨rfl, ?_, HGR.out⟩
      rw [HT.out, ← HL.out, HR.out]
      exact HREL.out
end Go.Proofs.YtpaoiiiceekkkaaGreatDoor
end
section
namespace Go.Proofs.YtpaoiiiceekkkaaGreatDoor
open Go.RowKit Go.G5

set_option maxHeartbeats 2000000 in
set_option maxRecDepth 100000 in
theorem excess_any (n : Nat) (hn : n ≤ 5) (l : List Int) (v : Value) (w : World) (hv : Ints w v l) (hl : l.length = 2 ^ n) (hlb : ∀ k, (hk : k < l.length) → -1000 ≤ l[k] ∧ l[k] ≤ 1000) (s i k : Nat) (hs : s < 2 ^ n) (hi : i < n) (hk : k < n) :
    Calls Tryz.prog 110 #[.agg #[.int .i64 n, v], .int .i64 s, .int .i64 i, .int .i64 k] w fun e w' => e = .returned (.int .i64 (exL l s i k)) ∧ Below w.heap.size w w' := by
  obtain ⟨a, b, off, c, rfl, hlen, hix, hc, hb⟩ := hv.view Tryz.prog 22 3 Tryz.underlying22 intElem
  have hc := cells_below hc hb (bl1 w (.cells #[.int .i64 n, .slice a l.length c] 27)) (Nat.le_refl _)
  have h1 := setBit_lt s i n hs hi
  have h2 := setBit_lt s k n hs hk
  have h3 := setBit_lt (setBit s i) k n h1 hk
  rw [← setBit_or] at h3
  have p5 : (2 : Nat) ^ n ≤ 32 := Nat.pow_le_pow_right (n := 2) (by decide) hn
  rw [← hl] at h1 h2 h3 hs p5
  have c0 := hc s hs
  have c1 := hc _ h1
  have c2 := hc _ h2
  have c3 := hc _ h3
  have i0 := fun W => hix W s hs
  have i1 := fun W => hix W _ h1
  have i2 := fun W => hix W _ h2
  have i3 := fun W => hix W _ h3
  have b0 := hlb s hs
  have b1 := hlb _ h1
  have b2 := hlb _ h2
  have b3 := hlb _ h3
  have hex : exL l s i k = l[setBit s i ||| setBit s k] + l[s] - l[setBit s i] - l[setBit s k] := by
    unfold exL
    rw [getD_at l _ h3, getD_at l _ hs, getD_at l _ h1, getD_at l _ h2]
  have q1 := setBit_is s i (by omega) (by omega)
  have q2 := setBit_is s k (by omega) (by omega)
  have q3 := bitsO (setBit s i) (setBit s k) (by omega) (by omega)
  have q4 := setBit_is (setBit s i) k (by omega) (by omega)
  rw [← setBit_or] at q4
  obtain ⟨u1, hu1⟩ : ∃ u, u = setBit s i := ⟨_, rfl⟩
  obtain ⟨u2, hu2⟩ : ∃ u, u = setBit s k := ⟨_, rfl⟩
  simp only [← hu1, ← hu2] at c1 c2 c3 i1 i2 i3 b1 b2 b3 hex q1 q2 q3 q4 h1 h2 h3
  obtain ⟨u3, hu3⟩ : ∃ u, u = u1 ||| u2 := ⟨_, rfl⟩
  simp only [← hu3] at c3 i3 b3 hex q3 q4 h3
  obtain ⟨x0, hx0⟩ : ∃ x, x = l[s] := ⟨_, rfl⟩
  obtain ⟨x1, hx1⟩ : ∃ x, x = l[u1] := ⟨_, rfl⟩
  obtain ⟨x2, hx2⟩ : ∃ x, x = l[u2] := ⟨_, rfl⟩
  obtain ⟨x3, hx3⟩ : ∃ x, x = l[u3] := ⟨_, rfl⟩
  rw [← hx0] at c0 b0 hex
  rw [← hx1] at c1 b1 hex
  rw [← hx2] at c2 b2 hex
  rw [← hx3] at c3 b3 hex
  have pi := two_pow i 6 (by omega)
  have pk := two_pow k 6 (by omega)
  have pi1 : (2 : Int) ^ i ≤ 64 := by simpa using pi.1
  have pk1 : (2 : Int) ^ k ≤ 64 := by simpa using pk.1
  have pi2 := pi.2
  have pk2 := pk.2
  have wi : IntKind.i64.wrap ((2 : Int) ^ i) = 2 ^ i := by rw [IntKind.wrap_i64]; omega
  have wk : IntKind.i64.wrap ((2 : Int) ^ k) = 2 ^ k := by rw [IntKind.wrap_i64]; omega
  have w1 : IntKind.i64.wrap (x3 + x0) = x3 + x0 := by rw [IntKind.wrap_i64]; omega
  have w2 : IntKind.i64.wrap (x3 + x0 - x1) = x3 + x0 - x1 := by rw [IntKind.wrap_i64]; omega
  have w3 : IntKind.i64.wrap (x3 + x0 - x1 - x2) = x3 + x0 - x1 - x2 := by rw [IntKind.wrap_i64]; omega
  have HEX := Lib.hid hex
  have z0 : (0 : Int) ≤ (s : Int) := by omega
  clear hix hb hlb hex hu1 hu2 hu3 hx0 hx1 hx2 hx3 pi pk q4 hc hl
  go_enter Tryz.func110, Tryz.ntmps110
  go_wp2_with fail
  go_quiet (fail)
  go_wp2
  go_ret
  exact ⟨ret_int HEX.out.symm, (bl1 _ _).drewN' _⟩
end Go.Proofs.YtpaoiiiceekkkaaGreatDoor
end
