/- Slices of functions that a call owns, with what they hold. -/
import Derived.Test.YtdagcdgbdhecgaaGreatQ22
section
namespace Go.G5
open Go Go.RowKit

/-- one function of a slice: its number, the slice of its values, what that reads as -/
abbrev FIt := Int × Value × List Int
def fcells : List FIt → List Value
  | [] => []
  | t :: its => .int .i64 t.1 :: t.2.1 :: fcells its
def readF (its : List FIt) : List (Int × List Int) := its.map fun t => (t.1, t.2.2)
theorem fcells_app : ∀ (a b : List FIt), fcells (a ++ b) = fcells a ++ fcells b := by
  intro a b
  induction a with
  | nil => rfl
  | cons t a ih => rw [List.cons_append, fcells, fcells, ih]; rfl
theorem fcells_at : ∀ (its : List FIt) (i : Nat) (h : i < its.length), (fcells its)[2 * i]? = some (.int .i64 its[i].1) ∧ (fcells its)[2 * i + 1]? = some its[i].2.1 := by
  intro its
  induction its with
  | nil => intro i h; simp at h
  | cons t its ih =>
    intro i h
    cases i with
    | zero => exact ⟨rfl, rfl⟩
    | succ i =>
      have := ih i (by simpa using h)
      rw [fcells, show 2 * (i + 1) = 2 * i + 1 + 1 by omega]
      simpa using this
theorem fcells_len (its : List FIt) : (fcells its).length = its.length * 2 := by
  induction its with
  | nil => rfl
  | cons t its ih => rw [fcells, List.length_cons, List.length_cons, List.length_cons, ih]; omega
theorem readF_len (its : List FIt) : (readF its).length = its.length := by unfold readF; rw [List.length_map]
theorem readF_app (a b : List FIt) : readF (a ++ b) = readF a ++ readF b := by unfold readF; rw [List.map_append]
theorem readF_at (its : List FIt) (i : Nat) (h : i < its.length) : (readF its)[i]? = some (its[i].1, its[i].2.2) := by
  unfold readF; rw [List.getElem?_map, List.getElem?_eq_getElem h]; rfl
/-- two rows of different types lie apart -/
theorem own_types {w : World} {B B' n : Nat} {F I : TypeId} {v r : Value} {xs : List Value} {l : List Int} (hr : w.ownsRow B F 2 v n xs) (ho : OwnW I B' w r l) (hne : F ≠ I) : ∀ k, v.ownBlock = some k → r.ownBlock ≠ some k := by
  intro k hk hk2
  rcases hr.2 with ⟨rfl, _⟩ | ⟨g, cap, cur, rfl, _, hg, _⟩
  · simp [Value.ownBlock] at hk
  · have e1 : g = k := by simpa [Value.ownBlock] using hk
    rcases ho.2 with ⟨rfl, _⟩ | ⟨g', cap', cur', rfl, _, hg', _⟩
    · simp [Value.ownBlock] at hk2
    · have e2 : g' = k := by simpa [Value.ownBlock] using hk2
      subst e1 e2
      rw [hg] at hg'
      simp only [Option.some.injEq, Obj.cells.injEq] at hg'
      exact hne hg'.2.1
theorem row_blk {w : World} {B n bo : Nat} {F t : TypeId} {v : Value} {xs : List Value} {cs : Array Value} (hr : w.ownsRow B F 2 v n xs) (K : Blk w bo t cs) (hne : F ≠ t) : v.ownBlock ≠ some bo := by
  intro hk
  rcases hr.2 with ⟨rfl, _⟩ | ⟨g, cap, cur, rfl, _, hg, _⟩
  · simp [Value.ownBlock] at hk
  · have e1 : g = bo := by simpa [Value.ownBlock] using hk
    subst e1
    unfold Blk at K
    rw [hg] at K
    simp only [Option.some.injEq, Obj.cells.injEq] at K
    exact hne K.2.1
theorem own_blk {w : World} {B bo : Nat} {I t : TypeId} {r : Value} {l : List Int} {cs : Array Value} (ho : OwnW I B w r l) (K : Blk w bo t cs) (hne : I ≠ t) : r.ownBlock ≠ some bo := by
  intro hk
  rcases ho.2 with ⟨rfl, _⟩ | ⟨g, cap, cur, rfl, _, hg, _⟩
  · simp [Value.ownBlock] at hk
  · have e1 : g = bo := by simpa [Value.ownBlock] using hk
    subst e1
    unfold Blk at K
    rw [hg] at K
    simp only [Option.some.injEq, Obj.cells.injEq] at K
    exact hne K.2.1
/-- v owns a row of functions from block B on, each with a row of its own -/
structure FunsW (F I : TypeId) (B : Nat) (w : World) (v : Value) (its : List FIt) : Prop where
  row : w.ownsRow B F 2 v its.length (fcells its)
  els : ∀ t ∈ its, InR t.1 ∧ OwnW I 0 w t.2.1 t.2.2
section
variable {F I : TypeId} {B : Nat} {w w' : World} {v : Value} {its : List FIt}
theorem FunsW.nil (F I : TypeId) (B : Nat) (w : World) : FunsW F I B w (.slice none 0 0) [] := ⟨World.ownsRow_nil _ _ _ _, by simp⟩
theorem FunsW.lit0 (w : World) (hB : B ≤ w.heap.size) : FunsW F I B (w.alloc (.cells #[] F)) (.slice (some ⟨w.heap.size, 0, none⟩) 0 0) [] :=
  ⟨World.ownsRow_lit w #[] 0 hB (Nat.zero_le _) rfl, by simp⟩
theorem FunsW.one (h : FunsW F I B w v its) : ∀ u ∈ fcells its, u.oneCell' = true := by
  intro u hu
  obtain ⟨j, hj, rfl⟩ := List.getElem_of_mem hu
  rw [fcells_len] at hj
  have hi : j / 2 < its.length := by omega
  have := fcells_at its (j / 2) hi
  rcases Nat.mod_two_eq_zero_or_one j with h0 | h0
  · have e : 2 * (j / 2) = j := by omega
    have t := this.1
    rw [e, List.getElem?_eq_getElem (by rw [fcells_len]; omega)] at t
    rw [Option.some.inj t]; rfl
  · have e : 2 * (j / 2) + 1 = j := by omega
    have t := this.2
    rw [e, List.getElem?_eq_getElem (by rw [fcells_len]; omega)] at t
    rw [Option.some.inj t]
    obtain ⟨a, c, hs⟩ := (h.els _ (List.getElem_mem hi)).2.shape
    rw [hs]; rfl
theorem FunsW.keep (h : FunsW F I B w v its) (hb : Below w.heap.size w w') : FunsW F I B w' v its := by
  refine ⟨⟨h.row.1, ?_⟩, fun t ht => ⟨(h.els t ht).1, (h.els t ht).2.keep hb⟩⟩
  rcases h.row.2 with h1 | ⟨g, cap, cur, rfl, hBg, hg, r⟩
  · exact .inl h1
  · exact .inr ⟨g, cap, cur, rfl, hBg, by rw [hb.block g (Array.getElem?_eq_some_iff.1 hg).1]; exact hg, r⟩
theorem FunsW.rebase {B' : Nat} (h : FunsW F I B w v its) (hB : ∀ k, v.ownBlock = some k → B' ≤ k) : FunsW F I B' w v its := by
  refine ⟨⟨h.row.1, ?_⟩, h.els⟩
  rcases h.row.2 with h1 | ⟨g, cap, cur, rfl, hBg, r⟩
  · exact .inl h1
  · exact .inr ⟨g, cap, cur, rfl, hB g rfl, r⟩
theorem FunsW.mono {B' : Nat} (h : FunsW F I B w v its) (hB : B' ≤ B) : FunsW F I B' w v its := by
  refine ⟨⟨h.row.1, ?_⟩, h.els⟩
  rcases h.row.2 with h1 | ⟨g, cap, cur, rfl, hBg, r⟩
  · exact .inl h1
  · exact .inr ⟨g, cap, cur, rfl, by omega, r⟩
theorem FunsW.lt (h : FunsW F I B w v its) : ∀ k, v.ownBlock = some k → B ≤ k ∧ k < w.heap.size := h.row.lt
theorem FunsW.shape (h : FunsW F I B w v its) : ∃ a c, v = .slice a its.length c := by
  rcases h.row.2 with ⟨rfl, hn⟩ | ⟨g, cap, cur, rfl, _⟩
  · exact ⟨none, 0, by rw [hn]⟩
  · exact ⟨_, cap, rfl⟩
theorem FunsW.growIn {P : Nat → Prop} (h : FunsW F I B w v its) (hg : GrownIn w w' P) (hn : ∀ k, v.ownBlock = some k → ¬ P k) (he : ∀ t ∈ its, ∀ k, t.2.1.ownBlock = some k → ¬ P k) : FunsW F I B w' v its := by
  refine ⟨⟨h.row.1, ?_⟩, fun t ht => ⟨(h.els t ht).1, (h.els t ht).2.growIn hg (he t ht)⟩⟩
  rcases h.row.2 with h1 | ⟨g, cap, cur, rfl, hBg, hh, r⟩
  · exact .inl h1
  · exact .inr ⟨g, cap, cur, rfl, hBg, by rw [hg.block g (Array.getElem?_eq_some_iff.1 hh).1 (hn g rfl)]; exact hh, r⟩
/-- a box of another type changes nothing -/
theorem FunsW.box {bo : Nat} {t : TypeId} {cs : Array Value} (h : FunsW F I B w v its) (K : Blk w bo t cs) (h1 : F ≠ t) (h2 : I ≠ t) (hg : w.grownBy w' (some bo)) : FunsW F I B w' v its :=
  h.growIn (GrownIn.of_row (P := fun k => k = bo) hg (fun k hk => (Option.some.inj hk).symm)) (fun k hk e => row_blk h.row K h1 (by rw [hk, e])) (fun t ht k hk e => own_blk (h.els t ht).2 K h2 (by rw [hk, e]))
theorem FunsW.apart (h : FunsW F I B w v its) (hne : F ≠ I) : ∀ t ∈ its, ∀ k, v.ownBlock = some k → t.2.1.ownBlock ≠ some k := fun t ht => own_types h.row (h.els t ht).2 hne
theorem FunsW.view (h : FunsW F I B w v its) (P : Program) (T : TypeId) (hT : P.underlying T = some (.slice F)) (hE : FunElem P F) :
    ∃ a b c, v = .slice a its.length c ∧ (∀ (W : World) (k : Nat), k < its.length → (Instr.indexAt T (.slice a its.length c) (.int .i64 (k : Int))).run P W = .ok (.pointer (some ⟨b, 2 * k, none⟩)) W) ∧
      (∀ k, (h : k < its.length) → w.cell? ⟨b, 2 * k, none⟩ = some (.int .i64 its[k].1) ∧ w.cell? ⟨b, 2 * k + 1, none⟩ = some its[k].2.1) ∧ (∀ k, k < its.length → a = some ⟨b, 0, none⟩) ∧ (∀ k o, k < its.length → w.frozen? ⟨b, o, none⟩ = false) := by
  obtain ⟨i, hi, _, hi', _⟩ := hE.get
  have hEl : P.elem T = F := by simp [Program.elem, hT]
  rcases h.row.2 with ⟨hv, hn⟩ | ⟨g, cap, cur, hv, hBg, hg, hnc, hm, _⟩
  · exact ⟨none, 0, 0, by rw [hv, hn], fun W k hk => by omega, fun k hk => by omega, fun k hk => by omega, fun k o hk => by omega⟩
  · refine ⟨some ⟨g, 0, none⟩, g, cap, hv, fun W k hk => ?_, fun k hk => ?_, fun _ _ => rfl, fun k o _ => by simp [World.frozen?, hg]⟩
    · rw [run_indexAt_slice W T ⟨g, 0, none⟩ its.length cap .i64 k (by rw [hEl]; exact hT), if_pos ⟨by omega, by omega⟩, hEl]
      simp [sizeOf, typeInfo, hi, hi', Addr.add, Nat.mul_comm]
      intro h; exact h.symm
    · have hrow := h.row
      rw [hv] at hrow
      have hc := fcells_at its k hk
      exact ⟨by rw [hrow.cellAt (2 * k) (by omega)]; exact hc.1, by rw [hrow.cellAt (2 * k + 1) (by omega)]; exact hc.2⟩
end
section
variable {P : Program} {w : World} {F I : TypeId}
theorem run_appendF1 (T ty : TypeId) (hT : P.underlying T = some (.slice F)) (hE : FunElem P F) (hne : F ≠ I) (B : Nat) (v : Value) (its : List FIt) (hown : FunsW F I B w v its)
    (b : Nat) (x : Int) (r : Value) (l : List Int) (hx : w.cell? ⟨b, 0, none⟩ = some (.int .i64 x)) (hy : w.cell? ⟨b, 1, none⟩ = some r) (hxr : InR x) (ho : OwnW I 0 w r l) (hlen : its.length ≤ 1099511627776) (hB : B ≤ w.heap.size) :
    ∃ v' w', (Builtin.append_ #[T, T] ty #[v, .slice (some ⟨b, 0, none⟩) 1 1]).run P w = .ok v' w' ∧ FunsW F I B w' v' (its ++ [(x, r, l)]) ∧ w.grownBy w' v.ownBlock ∧ NearBy w v v' := by
  obtain ⟨i, hi, hz, h1, h8⟩ := hE.get
  obtain ⟨ar, cr, hrs⟩ := ho.shape
  obtain ⟨v', w', hrun, h2, h3, _, h5⟩ := run_append_own_at (P := P) w B T ty F i (.agg #[.int .i64 0, .slice none 0 0]) 2 32 hT hi hz h1 h8 rfl (by decide) v its.length (fcells its) hown.row ⟨b, 0, none⟩ 1 1 [.int .i64 x, r] (by simp)
    (by
      intro j u hj
      match j, hj with
      | 0, hj => simp only [List.getElem?_cons_zero, Option.some.injEq] at hj; subst hj; simpa [Addr.add] using hx
      | 1, hj => simp only [List.getElem?_cons_succ, List.getElem?_cons_zero, Option.some.injEq] at hj; subst hj; simpa [Addr.add] using hy
      | j + 2, hj => simp at hj)
    (by intro u hu; simp only [List.mem_cons, List.not_mem_nil, or_false] at hu; rcases hu with rfl | rfl; · rfl
        · rw [hrs]; rfl) (by unfold maxLen; omega) (by omega) hB
  have hap := own_types hown.row ho hne
  refine ⟨v', w', hrun, ⟨?_, ?_⟩, h3, h5⟩
  · rw [fcells_app, List.length_append]; exact h2
  · intro t ht
    rcases List.mem_append.1 ht with ht | ht
    · exact ⟨(hown.els t ht).1, (hown.els t ht).2.grow h3 (fun k hk => hown.apart hne t ht k hk)⟩
    · simp only [List.mem_cons, List.not_mem_nil, or_false] at ht
      subst ht
      exact ⟨hxr, ho.grow h3 (fun k hk => hap k hk)⟩
theorem run_appendFF (T ty : TypeId) (hT : P.underlying T = some (.slice F)) (hE : FunElem P F) (hne : F ≠ I) (B : Nat) (v : Value) (its : List FIt) (hown : FunsW F I B w v its)
    (B' : Nat) (sv : Value) (jts : List FIt) (hs : FunsW F I B' w sv jts) (hlen : its.length + jts.length ≤ 1099511627776) (hB : B ≤ w.heap.size) :
    ∃ v' w', (Builtin.append_ #[T, T] ty #[v, sv]).run P w = .ok v' w' ∧ FunsW F I B w' v' (its ++ jts) ∧ w.grownBy w' v.ownBlock ∧ NearBy w v v' := by
  obtain ⟨i, hi, hz, h1, h8⟩ := hE.get
  have hso0 := hs.row
  have hone := hs.one
  rcases hs.row.2 with ⟨rfl, hn0⟩ | ⟨g, cap, cur, rfl, hBg, hg, hmc, hmm, hcs, ht⟩
  · have : jts = [] := List.eq_nil_of_length_eq_zero hn0
    subst this
    refine ⟨v, w, ?_, by rw [List.append_nil]; exact hown, World.grownBy.refl w _, .inl rfl⟩
    rcases hown.row.2 with ⟨rfl, hn⟩ | ⟨g, cap, cur, rfl, _, _, hnc, _⟩
    · simp [Builtin.append_, run_underlying hT, sizeOf, typeInfo, hi, Builtin.lenOf, Builtin.firstCells]
    · simp [Builtin.append_, run_underlying hT, sizeOf, typeInfo, hi, Builtin.lenOf, Builtin.firstCells, hnc, storeCells]
  · obtain ⟨v', w', hrun, h2, h3, _, h5⟩ := run_append_own_at (P := P) w B T ty F i (.agg #[.int .i64 0, .slice none 0 0]) 2 32 hT hi hz h1 h8 rfl (by decide) v its.length (fcells its) hown.row ⟨g, 0, none⟩ jts.length cap (fcells jts) (fcells_len jts)
      (by
        intro j u hj
        have hjl : j < jts.length * 2 := by
          rcases Nat.lt_or_ge j (fcells jts).length with h | h
          · rw [fcells_len] at h; exact h
          · rw [List.getElem?_eq_none h] at hj; cases hj
        have e : (⟨g, 0, none⟩ : Addr).add j = ⟨g, j, none⟩ := by
          unfold Addr.add; split
          · rename_i h0; rw [h0]
          · simp
        rw [e, hso0.cellAt j hjl]
        exact hj)
      hone (by unfold maxLen; omega) (by omega) hB
    refine ⟨v', w', hrun, ⟨?_, ?_⟩, h3, h5⟩
    · rw [fcells_app, List.length_append]; exact h2
    · intro t ht
      rcases List.mem_append.1 ht with ht | ht
      · exact ⟨(hown.els t ht).1, (hown.els t ht).2.grow h3 (fun k hk => hown.apart hne t ht k hk)⟩
      · exact ⟨(hs.els t ht).1, (hs.els t ht).2.grow h3 (fun k hk => own_types hown.row (hs.els t ht).2 hne k hk)⟩
theorem wp_appendFF {o : Oper} {a : Act} {K : Act → World → Prop} {Q : Exit → Act → World → Prop} (s x : Operand) (t : TypeId)
    (ho : o.op = .call { callee := .builtin .append, args := #[s, x], argTypes := #[t, t] })
    (hT : P.underlying t = some (.slice F)) (hE : FunElem P F) (hne : F ≠ I) (B : Nat) (v : Value) (its : List FIt) (hs : a.eval s = v) (hown : FunsW F I B w v its)
    (B' : Nat) (sv : Value) (jts : List FIt) (hx : a.eval x = sv) (hsv : FunsW F I B' w sv jts) (hlen : its.length + jts.length ≤ 1099511627776) (hB : B ≤ w.heap.size)
    (h : ∀ v' w', FunsW F I B w' v' (its ++ jts) → w.grownBy w' v.ownBlock → NearBy w v v' → K (a.put o.dst v') w') : o.wp P a w K Q := by
  obtain ⟨v', w', hrun, h2, h3, h4⟩ := run_appendFF (P := P) t o.type hT hE hne B v its hown B' sv jts hsv hlen hB
  unfold Oper.wp execOp
  simp only [ho, resolve, invoke, builtin, Sem.run_bind, Sem.run_pure, Result.andThen_ok, List.map_toArray, List.map_cons, List.map_nil, hs, hx, hrun]
  exact h v' w' h2 h3 h4
theorem wpList_appendFF {ops : Array Oper} {rest : List Oper} {o : Oper} {a : Act} {Q : Exit → Act → World → Prop} (hgd : o.guard = none) (s x : Operand) (t : TypeId)
    (ho : o.op = .call { callee := .builtin .append, args := #[s, x], argTypes := #[t, t] })
    (hT : P.underlying t = some (.slice F)) (hE : FunElem P F) (hne : F ≠ I) (B : Nat) (v : Value) (its : List FIt) (hs : a.eval s = v) (hown : FunsW F I B w v its)
    (B' : Nat) (sv : Value) (jts : List FIt) (hx : a.eval x = sv) (hsv : FunsW F I B' w sv jts) (hlen : its.length + jts.length ≤ 1099511627776) (hB : B ≤ w.heap.size)
    (h : ∀ v' w', FunsW F I B w' v' (its ++ jts) → w.grownBy w' v.ownBlock → NearBy w v v' → wpList P ops Q rest (a.put o.dst v') w') : wpList P ops Q (o :: rest) a w :=
  wpList_plain hgd fun _ hK => wp_appendFF s x t ho hT hE hne B v its hs hown B' sv jts hx hsv hlen hB fun v' w' h2 h3 h4 => hK _ _ (h v' w' h2 h3 h4)
theorem wp_appendF1 {o : Oper} {a : Act} {K : Act → World → Prop} {Q : Exit → Act → World → Prop} (s x : Operand) (t : TypeId)
    (ho : o.op = .call { callee := .builtin .append, args := #[s, x], argTypes := #[t, t] })
    (hT : P.underlying t = some (.slice F)) (hE : FunElem P F) (hne : F ≠ I) (B : Nat) (v : Value) (its : List FIt) (hs : a.eval s = v) (b : Nat) (y : Int) (r : Value) (l : List Int) (hx : a.eval x = .slice (some ⟨b, 0, none⟩) 1 1)
    (hown : FunsW F I B w v its) (hp : w.cell? ⟨b, 0, none⟩ = some (.int .i64 y)) (hq : w.cell? ⟨b, 1, none⟩ = some r) (hyr : InR y) (hor : OwnW I 0 w r l) (hlen : its.length ≤ 1099511627776) (hB : B ≤ w.heap.size)
    (h : ∀ v' w', FunsW F I B w' v' (its ++ [(y, r, l)]) → w.grownBy w' v.ownBlock → NearBy w v v' → K (a.put o.dst v') w') : o.wp P a w K Q := by
  obtain ⟨v', w', hrun, h2, h3, h4⟩ := run_appendF1 (P := P) t o.type hT hE hne B v its hown b y r l hp hq hyr hor hlen hB
  unfold Oper.wp execOp
  simp only [ho, resolve, invoke, builtin, Sem.run_bind, Sem.run_pure, Result.andThen_ok, List.map_toArray, List.map_cons, List.map_nil, hs, hx, hrun]
  exact h v' w' h2 h3 h4
theorem wpList_appendF1 {ops : Array Oper} {rest : List Oper} {o : Oper} {a : Act} {Q : Exit → Act → World → Prop} (hgd : o.guard = none) (s x : Operand) (t : TypeId)
    (ho : o.op = .call { callee := .builtin .append, args := #[s, x], argTypes := #[t, t] })
    (hT : P.underlying t = some (.slice F)) (hE : FunElem P F) (hne : F ≠ I) (B : Nat) (v : Value) (its : List FIt) (hs : a.eval s = v) (b : Nat) (y : Int) (r : Value) (l : List Int) (hx : a.eval x = .slice (some ⟨b, 0, none⟩) 1 1)
    (hown : FunsW F I B w v its) (hp : w.cell? ⟨b, 0, none⟩ = some (.int .i64 y)) (hq : w.cell? ⟨b, 1, none⟩ = some r) (hyr : InR y) (hor : OwnW I 0 w r l) (hlen : its.length ≤ 1099511627776) (hB : B ≤ w.heap.size)
    (h : ∀ v' w', FunsW F I B w' v' (its ++ [(y, r, l)]) → w.grownBy w' v.ownBlock → NearBy w v v' → wpList P ops Q rest (a.put o.dst v') w') : wpList P ops Q (o :: rest) a w :=
  wpList_plain hgd fun _ hK => wp_appendF1 s x t ho hT hE hne B v its hs b y r l hx hown hp hq hyr hor hlen hB fun v' w' h2 h3 h4 => hK _ _ (h v' w' h2 h3 h4)
theorem step_putF {ops : Array Oper} {o : Oper} {a : Act} {K : Act → World → Prop} {Q : Exit → Act → World → Prop} {X : Prop} (hgd : o.guard = none) (s x : Operand) (t : TypeId)
    (ho : o.op = .call { callee := .builtin .append, args := #[s, x], argTypes := #[t, t] })
    (hT : P.underlying t = some (.slice F)) (hE : FunElem P F) (hne : F ≠ I) (B : Nat) (v : Value) (its : List FIt) (hs : a.eval s = v) (b : Nat) (y : Int) (r : Value) (l : List Int) (hx : a.eval x = .slice (some ⟨b, 0, none⟩) 1 1)
    (hown : FunsW F I B w v its) (hp : w.cell? ⟨b, 0, none⟩ = some (.int .i64 y)) (hq : w.cell? ⟨b, 1, none⟩ = some r) (hyr : InR y) (hor : OwnW I 0 w r l) (hlen : its.length ≤ 1099511627776) (hB : B ≤ w.heap.size)
    (h : ∀ v' w', FunsW F I B w' v' (its ++ [(y, r, l)]) → w.grownBy w' v.ownBlock → NearBy w v v' → K (a.put o.dst v') w') : if Region.wanted o (yielded ops a.tmps) = true then Oper.wp P o a w K Q else X := by
  have hw : Region.wanted o (yielded ops a.tmps) = true := by simp [Region.wanted, hgd]
  rw [if_pos hw]
  exact wp_appendF1 s x t ho hT hE hne B v its hs b y r l hx hown hp hq hyr hor hlen hB h
end
end Go.G5
end
