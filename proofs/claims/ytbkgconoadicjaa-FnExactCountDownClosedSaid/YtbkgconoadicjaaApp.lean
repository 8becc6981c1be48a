/- append, told with where the result lies. -/
import Derived.Test.YtbkgconoadicjaaClone
import Derived.Test.YtbkgconoadicjaaOwnW
namespace Go.G5
open Go Go.RowKit

section
variable {P : Program} {w : World}
/-- where a result of append lies: where the slice lay, or in a new block -/
def NearBy (w : World) (v v' : Value) : Prop := v'.ownBlock = v.ownBlock ∨ v'.ownBlock = some w.heap.size
theorem run_appendN (T E ty : TypeId) (hT : P.underlying T = some (.slice E)) (hE : IntElem P E) (B : Nat) (v : Value) (l : List Int) (hown : OwnI E B w v l)
    (sv : Value) (m : List Int) (hs : Ints w sv m) (hlen : l.length + m.length ≤ 17592186044416) (hB : B ≤ w.heap.size) :
    ∃ v' w', (Builtin.append_ #[T, T] ty #[v, sv]).run P w = .ok v' w' ∧ OwnI E B w' v' (l ++ m) ∧ w.grownBy w' v.ownBlock ∧ NearBy w v v' := by
  obtain ⟨i, hi, hz, h1, h8⟩ := hE.get
  obtain ⟨ad, c, rfl, hmc, hcm, hr, h4⟩ := hs
  have hall : ∀ q ∈ l ++ m, InR q := fun q hq => (List.mem_append.1 hq).elim (hown.2 q) (hr q)
  have hempty : ad = none → m = [] := by
    intro e
    rcases h4 with h | ⟨b, off, hb, _⟩
    · exact h
    · rw [e] at hb; cases hb
  cases ad with
  | none =>
    have := hempty rfl
    subst this
    refine ⟨v, w, ?_, by simpa using hown, World.grownBy.refl w _, .inl rfl⟩
    rcases hown.1.2 with ⟨rfl, hn⟩ | ⟨g, cap, cur, rfl, _, _, hnc, _⟩
    · simp [Builtin.append_, run_underlying hT, sizeOf, typeInfo, hi, Builtin.lenOf, Builtin.firstCells]
    · simp [Builtin.append_, run_underlying hT, sizeOf, typeInfo, hi, Builtin.lenOf, Builtin.firstCells, hnc, storeCells]
  | some ad =>
    have hcells : ∀ j u, (m.map (Value.int .i64))[j]? = some u → w.cell? (ad.add j) = some u := by
      intro j u hu
      rcases h4 with h | ⟨b, off, hb, _, hc⟩
      · subst h; simp at hu
      · simp only [Option.some.injEq] at hb
        subst hb
        have hj : j < m.length := by
          rcases Nat.lt_or_ge j m.length with h | h
          · exact h
          · rw [List.getElem?_eq_none (by simpa using h)] at hu; cases hu
        have := hc j hj
        have e : (⟨b, off, none⟩ : Addr).add j = ⟨b, off + j, none⟩ := by
          unfold Addr.add; split
          · rename_i h0; rw [h0]; rfl
          · rfl
        rw [e, this]
        rw [List.getElem?_map, List.getElem?_eq_getElem hj] at hu
        exact hu
    obtain ⟨v', w', hrun, h2, h3, _, h5⟩ := run_append_own_at (P := P) w B T ty E i (.int .i64 0) 1 8 hT hi hz h1 h8 rfl (by decide) v l.length (l.map (Value.int .i64)) hown.1 ad m.length c (m.map (Value.int .i64)) (by simp) hcells
      (by intro u hu; obtain ⟨q, _, rfl⟩ := List.mem_map.1 hu; rfl) (by unfold maxLen; omega) (by omega) hB
    exact ⟨v', w', hrun, ⟨by simpa using h2, hall⟩, h3, h5⟩
theorem wp_appendN {o : Oper} {a : Act} {K : Act → World → Prop} {Q : Exit → Act → World → Prop} (s x : Operand) (t : TypeId)
    (ho : o.op = .call { callee := .builtin .append, args := #[s, x], argTypes := #[t, t] })
    (E : TypeId) (hT : P.underlying t = some (.slice E)) (hE : IntElem P E) (B : Nat) (v : Value) (l : List Int) (hs : a.eval s = v) (hown : OwnI E B w v l)
    (sv : Value) (m : List Int) (hx : a.eval x = sv) (hsv : Ints w sv m) (hlen : l.length + m.length ≤ 17592186044416) (hB : B ≤ w.heap.size)
    (h : ∀ v' w', OwnI E B w' v' (l ++ m) → w.grownBy w' v.ownBlock → NearBy w v v' → K (a.put o.dst v') w') : o.wp P a w K Q := by
  obtain ⟨v', w', hrun, h2, h3, h4⟩ := run_appendN (P := P) t E o.type hT hE B v l hown sv m hsv hlen hB
  unfold Oper.wp execOp
  simp only [ho, resolve, invoke, builtin, Sem.run_bind, Sem.run_pure, Result.andThen_ok, List.map_toArray, List.map_cons, List.map_nil, hs, hx, hrun]
  exact h v' w' h2 h3 h4
theorem Ints.one {w : World} {b : Nat} {y : Int} (hy : w.cell? ⟨b, 0, none⟩ = some (.int .i64 y)) (hyr : InR y) : Ints w (.slice (some ⟨b, 0, none⟩) 1 1) [y] :=
  ⟨some ⟨b, 0, none⟩, 1, rfl, Nat.le_refl _, by decide, by intro q hq; simp only [List.mem_singleton] at hq; subst hq; exact hyr,
      .inr ⟨b, 0, rfl, World.block_lt_of_cell? w _ hy, fun k hk => by have : k = 0 := by simpa using hk
                                                                      subst this; exact hy⟩⟩
/-- out = append(out, y) -/
theorem wpList_appendN1 {ops : Array Oper} {rest : List Oper} {o : Oper} {a : Act} {Q : Exit → Act → World → Prop} (hgd : o.guard = none) (s x : Operand) (t : TypeId)
    (ho : o.op = .call { callee := .builtin .append, args := #[s, x], argTypes := #[t, t] })
    (E : TypeId) (hT : P.underlying t = some (.slice E)) (hE : IntElem P E) (B : Nat) (v : Value) (l : List Int) (y : Int) (b : Nat) (hs : a.eval s = v) (hx : a.eval x = .slice (some ⟨b, 0, none⟩) 1 1)
    (hy : w.cell? ⟨b, 0, none⟩ = some (.int .i64 y))
    (hown : OwnI E B w v l) (hyr : InR y) (hlen : l.length < 17592186044415) (hB : B ≤ w.heap.size)
    (h : ∀ v' w', OwnI E B w' v' (l ++ [y]) → w.grownBy w' v.ownBlock → NearBy w v v' → wpList P ops Q rest (a.put o.dst v') w') : wpList P ops Q (o :: rest) a w :=
  wpList_plain hgd fun _ hK => wp_appendN s x t ho E hT hE B v l hs hown _ [y] hx (Ints.one hy hyr) (by simp; omega) hB fun v' w' h2 h3 h4 => hK _ _ (h v' w' h2 h3 h4)
/-- out = append(out, s...) -/
theorem wpList_appendN {ops : Array Oper} {rest : List Oper} {o : Oper} {a : Act} {Q : Exit → Act → World → Prop} (hgd : o.guard = none) (s x : Operand) (t : TypeId)
    (ho : o.op = .call { callee := .builtin .append, args := #[s, x], argTypes := #[t, t] })
    (E : TypeId) (hT : P.underlying t = some (.slice E)) (hE : IntElem P E) (B : Nat) (v : Value) (l : List Int) (hs : a.eval s = v) (hown : OwnI E B w v l)
    (sv : Value) (m : List Int) (hx : a.eval x = sv) (hsv : Ints w sv m) (hlen : l.length + m.length ≤ 17592186044416) (hB : B ≤ w.heap.size)
    (h : ∀ v' w', OwnI E B w' v' (l ++ m) → w.grownBy w' v.ownBlock → NearBy w v v' → wpList P ops Q rest (a.put o.dst v') w') : wpList P ops Q (o :: rest) a w :=
  wpList_plain hgd fun _ hK => wp_appendN s x t ho E hT hE B v l hs hown sv m hx hsv hlen hB fun v' w' h2 h3 h4 => hK _ _ (h v' w' h2 h3 h4)
end
/-- what is known of another own row where append has grown one that lies apart -/
theorem NearBy.apart {w : World} {v v' u : Value} (h : NearBy w v v') (ha : Apart v u) (hu : ∀ k, u.ownBlock = some k → k < w.heap.size) : Apart v' u := by
  intro k hk hku
  rcases h with h | h
  · exact ha k (h ▸ hk) hku
  · rw [h] at hk
    have e : w.heap.size = k := Option.some.inj hk
    have := hu k hku
    omega
theorem OwnI.growA {E : TypeId} {B : Nat} {w w' : World} {u v : Value} {l : List Int} (h : OwnI E B w u l) (hg : w.grownBy w' v.ownBlock) (ha : Apart v u) : OwnI E B w' u l :=
  h.grow hg (fun k hk hu => ha k hk hu)
theorem OwnW.growA {E : TypeId} {B : Nat} {w w' : World} {u v : Value} {l : List Int} (h : OwnW E B w u l) (hg : w.grownBy w' v.ownBlock) (ha : Apart v u) : OwnW E B w' u l :=
  h.grow hg (fun k hk hu => ha k hk hu)
theorem Apart.nil (c d : Nat) (u : Value) : Apart (.slice none c d) u := fun k hk _ => by simp [Value.ownBlock] at hk
end Go.G5
