/- Ranks of matroids of few elements: what is computed. Slices of functions that a call owns, by their length. -/
import Derived.Test.YtdagcdgbdhecgaaGreatQ20
section
namespace Go.Proofs.YtdagcdgbdhecgaaGreat
open Go.RowKit Go.G5

/-- the ranks that go on from values, m more of them -/
def growL (n : Nat) : Nat → List Int → List (List Int)
  | 0, v => if rankB (n : Int) v then [v] else []
  | m + 1, v => (List.range (pop v.length + 1)).flatMap (fun x : Nat => growL n m (v ++ [Int.ofNat x]))
def matL (n : Int) : List (List Int) := if inB n 0 3 then growL n.toNat (2 ^ n.toNat) [] else []
theorem growL_first (n m : Nat) : growL n (m + 1) [] = growL n m [0] := by
  rw [growL]
  have : pop ([] : List Int).length = 0 := pop_zero
  rw [this]
  simp [List.range_succ]
theorem pop_le3 : ∀ k : Nat, k < 8 → pop k ≤ 3 := by decide +kernel
theorem flat_len {α β : Type} (F : α → List β) (b : Nat) (h : ∀ a, (F a).length ≤ b) (l : List α) : (l.flatMap F).length ≤ l.length * b := by
  induction l with
  | nil => simp
  | cons a l ih =>
    rw [List.flatMap_cons, List.length_append, List.length_cons, Nat.succ_mul]
    have := h a
    omega
theorem growL_len (n : Nat) : ∀ (m : Nat) (v : List Int), v.length + m ≤ 8 → (growL n m v).length ≤ 4 ^ m := by
  intro m
  induction m with
  | zero => intro v _; rw [growL]; split <;> simp
  | succ m ih =>
    intro v hv
    rw [growL]
    have hp := pop_le3 v.length (by omega)
    have h1 := flat_len (fun x : Nat => growL n m (v ++ [Int.ofNat x])) (4 ^ m) (fun x => ih _ (by rw [List.length_append, List.length_singleton]; omega)) (List.range (pop v.length + 1))
    rw [List.length_range] at h1
    have h2 : (pop v.length + 1) * 4 ^ m ≤ 4 * 4 ^ m := Nat.mul_le_mul_right _ (by omega)
    rw [Nat.pow_succ]
    omega
end Go.Proofs.YtdagcdgbdhecgaaGreat
end
section
namespace Go.G5
open Go Go.RowKit

/-- what the program's tables say of an element type of a number and a slice -/
structure FunElem (P : Program) (E : TypeId) : Prop where
  info : (P.info? E).map (fun i => (i.zero, i.size, i.bytes)) = some (some (.agg #[.int .i64 0, .slice none 0 0]), 2, 32)
theorem FunElem.get {P : Program} {E : TypeId} (h : FunElem P E) : ∃ i, P.info? E = some i ∧ i.zero = some (.agg #[.int .i64 0, .slice none 0 0]) ∧ i.size = 2 ∧ i.bytes = 32 := by
  have h := h.info
  cases hx : P.info? E with
  | none => rw [hx] at h; simp at h
  | some i => rw [hx] at h; simp at h; exact ⟨i, rfl, h.1, h.2.1, h.2.2⟩
/-- v owns a row of n elements of two cells from block B on -/
def OwnR (E : TypeId) (B : Nat) (w : World) (v : Value) (n : Nat) : Prop := ∃ xs, w.ownsRow B E 2 v n xs ∧ ∀ u ∈ xs, u.oneCell' = true
theorem OwnR.nil (E : TypeId) (B : Nat) (w : World) : OwnR E B w (.slice none 0 0) 0 := ⟨[], World.ownsRow_nil _ _ _ _, by simp⟩
theorem OwnR.lit0 {E : TypeId} {B : Nat} (w : World) (hB : B ≤ w.heap.size) : OwnR E B (w.alloc (.cells #[] E)) (.slice (some ⟨w.heap.size, 0, none⟩) 0 0) 0 :=
  ⟨[], World.ownsRow_lit w #[] 0 hB (Nat.zero_le _) rfl, by simp⟩
theorem OwnR.keep {E : TypeId} {B : Nat} {w w' : World} {v : Value} {n : Nat} (h : OwnR E B w v n) (hb : Below w.heap.size w w') : OwnR E B w' v n := by
  obtain ⟨xs, ⟨h0, h1⟩, h2⟩ := h
  refine ⟨xs, ⟨h0, ?_⟩, h2⟩
  rcases h1 with h1 | ⟨g, cap, cur, rfl, hBg, hg, r⟩
  · exact .inl h1
  · exact .inr ⟨g, cap, cur, rfl, hBg, by rw [hb.block g (Array.getElem?_eq_some_iff.1 hg).1]; exact hg, r⟩
theorem OwnR.mono {E : TypeId} {B B' : Nat} {w : World} {v : Value} {n : Nat} (h : OwnR E B w v n) (hB : B' ≤ B) : OwnR E B' w v n := by
  obtain ⟨xs, ⟨h0, h1⟩, h2⟩ := h
  refine ⟨xs, ⟨h0, ?_⟩, h2⟩
  rcases h1 with h1 | ⟨g, cap, cur, rfl, hBg, r⟩
  · exact .inl h1
  · exact .inr ⟨g, cap, cur, rfl, by omega, r⟩
theorem OwnR.lt {E : TypeId} {B : Nat} {w : World} {v : Value} {n : Nat} (h : OwnR E B w v n) : ∀ k, v.ownBlock = some k → B ≤ k ∧ k < w.heap.size := by
  obtain ⟨xs, h1, _⟩ := h
  exact h1.lt
theorem OwnR.shape {E : TypeId} {B : Nat} {w : World} {v : Value} {n : Nat} (h : OwnR E B w v n) : ∃ a c, v = .slice a n c := by
  obtain ⟨xs, ⟨_, h1⟩, _⟩ := h
  rcases h1 with ⟨rfl, hn⟩ | ⟨g, cap, cur, rfl, _⟩
  · exact ⟨none, 0, by rw [hn]⟩
  · exact ⟨_, cap, rfl⟩
theorem OwnR.grow {E : TypeId} {B : Nat} {w w' : World} {row : Option Nat} {v : Value} {n : Nat} (h : OwnR E B w v n) (hg : w.grownBy w' row) (hne : ∀ k, row = some k → v.ownBlock ≠ some k) : OwnR E B w' v n := by
  obtain ⟨xs, h1, h2⟩ := h
  refine ⟨xs, h1.kept hg ?_, h2⟩
  cases hv : v.ownBlock with
  | none => exact .inl rfl
  | some k => right; intro e; exact hne k e.symm hv
/-- out = append(out, f), f laid as a row of one -/
theorem run_appendR1 {P : Program} {w : World} (T E ty : TypeId) (hT : P.underlying T = some (.slice E)) (hE : FunElem P E) (B : Nat) (v : Value) (n : Nat) (hown : OwnR E B w v n)
    (b : Nat) (x y : Value) (hx : w.cell? ⟨b, 0, none⟩ = some x) (hy : w.cell? ⟨b, 1, none⟩ = some y) (h1x : x.oneCell' = true) (h1y : y.oneCell' = true) (hlen : n ≤ 1099511627776) (hB : B ≤ w.heap.size) :
    ∃ v' w', (Builtin.append_ #[T, T] ty #[v, .slice (some ⟨b, 0, none⟩) 1 1]).run P w = .ok v' w' ∧ OwnR E B w' v' (n + 1) ∧ w.grownBy w' v.ownBlock ∧ NearBy w v v' := by
  obtain ⟨i, hi, hz, h1, h8⟩ := hE.get
  obtain ⟨xs, ho, hone⟩ := hown
  obtain ⟨v', w', hrun, h2, h3, _, h5⟩ := run_append_own_at (P := P) w B T ty E i (.agg #[.int .i64 0, .slice none 0 0]) 2 32 hT hi hz h1 h8 rfl (by decide) v n xs ho ⟨b, 0, none⟩ 1 1 [x, y] (by simp)
    (by
      intro j u hj
      match j, hj with
      | 0, hj => simp only [List.getElem?_cons_zero, Option.some.injEq] at hj; subst hj; simpa [Addr.add] using hx
      | 1, hj => simp only [List.getElem?_cons_succ, List.getElem?_cons_zero, Option.some.injEq] at hj; subst hj; simpa [Addr.add] using hy
      | j + 2, hj => simp at hj)
    (by intro u hu; simp only [List.mem_cons, List.not_mem_nil, or_false] at hu; rcases hu with rfl | rfl <;> assumption) (by unfold maxLen; omega) (by omega) hB
  exact ⟨v', w', hrun, ⟨_, h2, by
    intro u hu
    rcases List.mem_append.1 hu with hu | hu
    · exact hone u hu
    · simp only [List.mem_cons, List.not_mem_nil, or_false] at hu
      rcases hu with rfl | rfl <;> assumption⟩, h3, h5⟩
/-- out = append(out, s...) -/
theorem run_appendRR {P : Program} {w : World} (T E ty : TypeId) (hT : P.underlying T = some (.slice E)) (hE : FunElem P E) (B : Nat) (v : Value) (n : Nat) (hown : OwnR E B w v n)
    (B' : Nat) (sv : Value) (m : Nat) (hs : OwnR E B' w sv m) (hlen : n + m ≤ 1099511627776) (hB : B ≤ w.heap.size) :
    ∃ v' w', (Builtin.append_ #[T, T] ty #[v, sv]).run P w = .ok v' w' ∧ OwnR E B w' v' (n + m) ∧ w.grownBy w' v.ownBlock ∧ NearBy w v v' := by
  obtain ⟨i, hi, hz, h1, h8⟩ := hE.get
  obtain ⟨ys, hso, hsone⟩ := hs
  have hso0 := hso
  rcases hso.2 with ⟨rfl, rfl⟩ | ⟨g, cap, cur, rfl, hBg, hg, hmc, hmm, hcs, ht⟩
  · refine ⟨v, w, ?_, hown, World.grownBy.refl w _, .inl rfl⟩
    obtain ⟨xs, ho, _⟩ := hown
    rcases ho.2 with ⟨rfl, hn⟩ | ⟨g, cap, cur, rfl, _, _, hnc, _⟩
    · simp [Builtin.append_, run_underlying hT, sizeOf, typeInfo, hi, Builtin.lenOf, Builtin.firstCells]
    · simp [Builtin.append_, run_underlying hT, sizeOf, typeInfo, hi, Builtin.lenOf, Builtin.firstCells, hnc, storeCells]
  · obtain ⟨xs, ho, hone⟩ := hown
    obtain ⟨v', w', hrun, h2, h3, _, h5⟩ := run_append_own_at (P := P) w B T ty E i (.agg #[.int .i64 0, .slice none 0 0]) 2 32 hT hi hz h1 h8 rfl (by decide) v n xs ho ⟨g, 0, none⟩ m cap ys hso.1
      (by
        intro j u hj
        have hjl : j < m * 2 := by
          rcases Nat.lt_or_ge j ys.length with h | h
          · rw [hso.1] at h; exact h
          · rw [List.getElem?_eq_none h] at hj; cases hj
        have e : (⟨g, 0, none⟩ : Addr).add j = ⟨g, j, none⟩ := by
          unfold Addr.add; split
          · rename_i h0; rw [h0]
          · simp
        rw [e, hso0.cellAt j hjl]
        exact hj)
      hsone (by unfold maxLen; omega) (by omega) hB
    exact ⟨v', w', hrun, ⟨_, h2, by
      intro u hu
      rcases List.mem_append.1 hu with hu | hu
      · exact hone u hu
      · exact hsone u hu⟩, h3, h5⟩
theorem wp_appendRR {P : Program} {w : World} {o : Oper} {a : Act} {K : Act → World → Prop} {Q : Exit → Act → World → Prop} (s x : Operand) (t : TypeId)
    (ho : o.op = .call { callee := .builtin .append, args := #[s, x], argTypes := #[t, t] })
    (E : TypeId) (hT : P.underlying t = some (.slice E)) (hE : FunElem P E) (B : Nat) (v : Value) (n : Nat) (hs : a.eval s = v) (hown : OwnR E B w v n)
    (B' : Nat) (sv : Value) (m : Nat) (hx : a.eval x = sv) (hsv : OwnR E B' w sv m) (hlen : n + m ≤ 1099511627776) (hB : B ≤ w.heap.size)
    (h : ∀ v' w', OwnR E B w' v' (n + m) → w.grownBy w' v.ownBlock → NearBy w v v' → K (a.put o.dst v') w') : o.wp P a w K Q := by
  obtain ⟨v', w', hrun, h2, h3, h4⟩ := run_appendRR (P := P) t E o.type hT hE B v n hown B' sv m hsv hlen hB
  unfold Oper.wp execOp
  simp only [ho, resolve, invoke, builtin, Sem.run_bind, Sem.run_pure, Result.andThen_ok, List.map_toArray, List.map_cons, List.map_nil, hs, hx, hrun]
  exact h v' w' h2 h3 h4
theorem wpList_appendRR {P : Program} {w : World} {ops : Array Oper} {rest : List Oper} {o : Oper} {a : Act} {Q : Exit → Act → World → Prop} (hgd : o.guard = none) (s x : Operand) (t : TypeId)
    (ho : o.op = .call { callee := .builtin .append, args := #[s, x], argTypes := #[t, t] })
    (E : TypeId) (hT : P.underlying t = some (.slice E)) (hE : FunElem P E) (B : Nat) (v : Value) (n : Nat) (hs : a.eval s = v) (hown : OwnR E B w v n)
    (B' : Nat) (sv : Value) (m : Nat) (hx : a.eval x = sv) (hsv : OwnR E B' w sv m) (hlen : n + m ≤ 1099511627776) (hB : B ≤ w.heap.size)
    (h : ∀ v' w', OwnR E B w' v' (n + m) → w.grownBy w' v.ownBlock → NearBy w v v' → wpList P ops Q rest (a.put o.dst v') w') : wpList P ops Q (o :: rest) a w :=
  wpList_plain hgd fun _ hK => wp_appendRR s x t ho E hT hE B v n hs hown B' sv m hx hsv hlen hB fun v' w' h2 h3 h4 => hK _ _ (h v' w' h2 h3 h4)
theorem wp_appendR1 {P : Program} {w : World} {o : Oper} {a : Act} {K : Act → World → Prop} {Q : Exit → Act → World → Prop} (s x : Operand) (t : TypeId)
    (ho : o.op = .call { callee := .builtin .append, args := #[s, x], argTypes := #[t, t] })
    (E : TypeId) (hT : P.underlying t = some (.slice E)) (hE : FunElem P E) (B : Nat) (v : Value) (n : Nat) (hs : a.eval s = v) (hown : OwnR E B w v n)
    (b : Nat) (p q : Value) (hx : a.eval x = .slice (some ⟨b, 0, none⟩) 1 1) (hp : w.cell? ⟨b, 0, none⟩ = some p) (hq : w.cell? ⟨b, 1, none⟩ = some q) (h1p : p.oneCell' = true) (h1q : q.oneCell' = true) (hlen : n ≤ 1099511627776) (hB : B ≤ w.heap.size)
    (h : ∀ v' w', OwnR E B w' v' (n + 1) → w.grownBy w' v.ownBlock → NearBy w v v' → K (a.put o.dst v') w') : o.wp P a w K Q := by
  obtain ⟨v', w', hrun, h2, h3, h4⟩ := run_appendR1 (P := P) t E o.type hT hE B v n hown b p q hp hq h1p h1q hlen hB
  unfold Oper.wp execOp
  simp only [ho, resolve, invoke, builtin, Sem.run_bind, Sem.run_pure, Result.andThen_ok, List.map_toArray, List.map_cons, List.map_nil, hs, hx, hrun]
  exact h v' w' h2 h3 h4
theorem wpList_appendR1 {P : Program} {w : World} {ops : Array Oper} {rest : List Oper} {o : Oper} {a : Act} {Q : Exit → Act → World → Prop} (hgd : o.guard = none) (s x : Operand) (t : TypeId)
    (ho : o.op = .call { callee := .builtin .append, args := #[s, x], argTypes := #[t, t] })
    (E : TypeId) (hT : P.underlying t = some (.slice E)) (hE : FunElem P E) (B : Nat) (v : Value) (n : Nat) (hs : a.eval s = v) (hown : OwnR E B w v n)
    (b : Nat) (p q : Value) (hx : a.eval x = .slice (some ⟨b, 0, none⟩) 1 1) (hp : w.cell? ⟨b, 0, none⟩ = some p) (hq : w.cell? ⟨b, 1, none⟩ = some q) (h1p : p.oneCell' = true) (h1q : q.oneCell' = true) (hlen : n ≤ 1099511627776) (hB : B ≤ w.heap.size)
    (h : ∀ v' w', OwnR E B w' v' (n + 1) → w.grownBy w' v.ownBlock → NearBy w v v' → wpList P ops Q rest (a.put o.dst v') w') : wpList P ops Q (o :: rest) a w :=
  wpList_plain hgd fun _ hK => wp_appendR1 s x t ho E hT hE B v n hs hown b p q hx hp hq h1p h1q hlen hB fun v' w' h2 h3 h4 => hK _ _ (h v' w' h2 h3 h4)
end Go.G5
end
