/- Plain words for slices of ints, and the laws of make and append at them. -/
import Derived.WalkKit
import Derived.WalkSpells
import Derived.Lib.Hide
import Derived.BigQuiet
import Derived.Deep.QuietTactic
section
namespace Go.RowKit
theorem Below.drewN' {B : Nat} {a w : World} (h : Below B a w) (n : Nat) : Below B a (w.drewN n) := ⟨h.os, h.tape, h.output, h.size, h.block⟩
theorem Below.after {B B' : Nat} {a W w1 : World} (h : Below B a W) (hb : Below B' W w1) (hB : B ≤ B') : Below B a w1 := h.trans (hb.mono hB)
end Go.RowKit
namespace Go.G5
open Go Go.RowKit

def InR (x : Int) : Prop := -9223372036854775808 ≤ x ∧ x ≤ 9223372036854775807

/-- the slice value v reads as the list l in w -/
def Ints (w : World) (v : Value) (l : List Int) : Prop :=
  ∃ a c, v = .slice a l.length c ∧ l.length ≤ c ∧ c ≤ maxLen ∧ (∀ x ∈ l, InR x) ∧
    (l = [] ∨ ∃ b off, a = some ⟨b, off, none⟩ ∧ b < w.heap.size ∧
      ∀ k, (h : k < l.length) → w.cell? ⟨b, off + k, none⟩ = some (.int .i64 l[k]))

/-- what the program's tables say of an element type of one int -/
structure IntElem (P : Program) (E : TypeId) : Prop where
  info : (P.info? E).map (fun i => (i.zero, i.size, i.bytes)) = some (some (.int .i64 0), 1, 8)

theorem IntElem.get {P : Program} {E : TypeId} (h : IntElem P E) : ∃ i, P.info? E = some i ∧ i.zero = some (.int .i64 0) ∧ i.size = 1 ∧ i.bytes = 8 := by
  have h := h.info
  cases hx : P.info? E with
  | none => rw [hx] at h; simp at h
  | some i => rw [hx] at h; simp at h; exact ⟨i, rfl, h.1, h.2.1, h.2.2⟩

theorem Ints.view {w : World} {v : Value} {l : List Int} (h : Ints w v l) (P : Program) (T E : TypeId) (hT : P.underlying T = some (.slice E))
    (hs : IntElem P E) :
    ∃ a b off c, v = .slice a l.length c ∧ l.length ≤ 9223372036854775807 ∧
      (∀ (w' : World) (k : Nat), k < l.length → (Instr.indexAt T (.slice a l.length c) (.int .i64 (k : Int))).run P w' = .ok (.pointer (some ⟨b, off + k, none⟩)) w') ∧
      (∀ k, (h : k < l.length) → w.cell? ⟨b, off + k, none⟩ = some (.int .i64 l[k])) ∧ (l ≠ [] → b < w.heap.size) := by
  obtain ⟨a, c, rfl, h1, h2, h3, h4⟩ := h
  have hE : P.elem T = E := by simp [Program.elem, hT]
  obtain ⟨i, hi, _, hi', _⟩ := hs.get
  rcases h4 with rfl | ⟨b, off, rfl, hb, hc⟩
  · exact ⟨a, 0, 0, c, rfl, by simp, fun w' k hk => by simp at hk, fun k hk => by simp at hk, fun h => absurd rfl h⟩
  · refine ⟨_, b, off, c, rfl, by unfold maxLen at h2; omega, fun w' k hk => ?_, hc, fun _ => hb⟩
    rw [run_indexAt_slice w' T ⟨b, off, none⟩ l.length c .i64 k (by rw [hE]; exact hT), if_pos ⟨by omega, by omega⟩, hE]
    simp [sizeOf, typeInfo, hi, hi', Addr.add]

theorem Ints.below {B : Nat} {w w' : World} {v : Value} {l : List Int} (h : Ints w v l) (hb : Below B w w') (hB : w.heap.size ≤ B) : Ints w' v l := by
  obtain ⟨a, c, rfl, h1, h2, h3, h4⟩ := h
  refine ⟨a, c, rfl, h1, h2, h3, ?_⟩
  rcases h4 with rfl | ⟨b, off, rfl, hlt, hc⟩
  · exact .inl rfl
  · refine .inr ⟨b, off, rfl, Nat.lt_of_lt_of_le hlt hb.size, fun k hk => ?_⟩
    rw [hb.cell (p := ⟨b, off + k, none⟩) (by show b < B; omega)]
    exact hc k hk

theorem Ints.inR {w : World} {v : Value} {l : List Int} (h : Ints w v l) : ∀ x ∈ l, InR x := h.choose_spec.choose_spec.2.2.2.1

/-- the slice value v owns a row from block B on, that reads as l -/
def OwnI (E : TypeId) (B : Nat) (w : World) (v : Value) (l : List Int) : Prop :=
  w.ownsRow B E 1 v l.length (l.map (Value.int .i64)) ∧ ∀ x ∈ l, InR x

theorem OwnI.ints {E : TypeId} {B : Nat} {w : World} {v : Value} {l : List Int} (h : OwnI E B w v l) : Ints w v l := by
  obtain ⟨⟨h0, h1⟩, h2⟩ := h
  rcases h1 with ⟨rfl, hn⟩ | ⟨g, cap, cur, rfl, hB, hg, hn, hm, hcs, ht⟩
  · have : l = [] := List.eq_nil_of_length_eq_zero hn
    subst this
    exact ⟨none, 0, rfl, Nat.le_refl _, Nat.zero_le _, by simp, .inl rfl⟩
  · refine ⟨_, cap, rfl, hn, hm, h2, .inr ⟨g, 0, rfl, (Array.getElem?_eq_some_iff.1 hg).1, fun k hk => ?_⟩⟩
    have hrow : w.ownsRow B E 1 (.slice (some ⟨g, 0, none⟩) l.length cap) l.length (l.map (Value.int .i64)) := ⟨h0, .inr ⟨g, cap, cur, rfl, hB, hg, hn, hm, hcs, ht⟩⟩
    have := hrow.cellAt k (by omega)
    rw [Nat.zero_add, this]
    simp [hk]

theorem OwnI.nil (E : TypeId) (B : Nat) (w : World) : OwnI E B w (.slice none 0 0) [] := ⟨World.ownsRow_nil _ _ _ _, by simp⟩

theorem OwnI.cases {E : TypeId} {B : Nat} {w : World} {v : Value} {l : List Int} (h : OwnI E B w v l) : (v = .slice none 0 0 ∧ l = []) ∨ ∃ g cap, v = .slice (some ⟨g, 0, none⟩) l.length cap ∧ B ≤ g ∧ g < w.heap.size := by
  rcases h.1.2 with ⟨rfl, hn⟩ | ⟨g, cap, cur, rfl, hB, hg, _⟩
  · exact .inl ⟨rfl, List.eq_nil_of_length_eq_zero hn⟩
  · exact .inr ⟨g, cap, rfl, hB, (Array.getElem?_eq_some_iff.1 hg).1⟩

theorem OwnI.lit0 {E : TypeId} {B : Nat} (w : World) (hB : B ≤ w.heap.size) : OwnI E B (w.alloc (.cells #[] E)) (.slice (some ⟨w.heap.size, 0, none⟩) 0 0) [] :=
  ⟨World.ownsRow_lit w #[] 0 hB (Nat.zero_le _) rfl, by simp⟩

theorem OwnI.below {E : TypeId} {B B' : Nat} {w w' : World} {v : Value} {l : List Int} (h : OwnI E B w v l) (hb : Below B' w w') (hB : w.heap.size ≤ B') : OwnI E B w' v l := by
  obtain ⟨⟨h0, h1⟩, h2⟩ := h
  refine ⟨⟨h0, ?_⟩, h2⟩
  rcases h1 with h1 | ⟨g, cap, cur, rfl, hBg, hg, r⟩
  · exact .inl h1
  · exact .inr ⟨g, cap, cur, rfl, hBg, by rw [hb.block g (by have := (Array.getElem?_eq_some_iff.1 hg).1; omega)]; exact hg, r⟩

theorem OwnI.lt {E : TypeId} {B : Nat} {w : World} {v : Value} {l : List Int} (h : OwnI E B w v l) : ∀ k, v.ownBlock = some k → B ≤ k ∧ k < w.heap.size := h.1.lt

theorem OwnI.mono {E : TypeId} {B B' : Nat} {w : World} {v : Value} {l : List Int} (h : OwnI E B w v l) (hB : B' ≤ B) : OwnI E B' w v l := by
  obtain ⟨⟨h0, h1⟩, h2⟩ := h
  refine ⟨⟨h0, ?_⟩, h2⟩
  rcases h1 with h1 | ⟨g, cap, cur, rfl, hBg, r⟩
  · exact .inl h1
  · exact .inr ⟨g, cap, cur, rfl, by omega, r⟩

theorem OwnI.grown {E : TypeId} {B : Nat} {w w' : World} {row : Option Nat} {v : Value} {l : List Int} (h : OwnI E B w v l) (hg : w.grownBy w' row) (hne : v.ownBlock = none ∨ v.ownBlock ≠ row) : OwnI E B w' v l :=
  ⟨h.1.kept hg hne, h.2⟩

theorem OwnI.alloc {E : TypeId} {B : Nat} {w : World} {v : Value} {l : List Int} (h : OwnI E B w v l) (o : Obj) : OwnI E B (w.alloc o) v l := ⟨h.1.alloc o, h.2⟩

/-- out = append(out, y), out the call's own -/
theorem wpList_appendI {P : Program} {w : World} {ops : Array Oper} {rest : List Oper} {o : Oper} {a : Act} {Q : Exit → Act → World → Prop} (hgd : o.guard = none) (s x : Operand) (t : TypeId)
    (ho : o.op = .call { callee := .builtin .append, args := #[s, x], argTypes := #[t, t] })
    (E : TypeId) (ht : P.underlying t = some (.slice E)) (hE : IntElem P E) (B : Nat) (v : Value) (l : List Int) (y : Int) (b : Nat) (hs : a.eval s = v) (hx : a.eval x = .slice (some ⟨b, 0, none⟩) 1 1)
    (hy : w.cell? ⟨b, 0, none⟩ = some (.int .i64 y))
    (hown : OwnI E B w v l) (hyr : InR y) (hlen : l.length < 17592186044416) (hB : B ≤ w.heap.size)
    (h : ∀ v' w', OwnI E B w' v' (l ++ [y]) → w.grownBy w' v.ownBlock → wpList P ops Q rest (a.put o.dst v') w') : wpList P ops Q (o :: rest) a w := by
  obtain ⟨i, hi, hz, h1, h8⟩ := hE.get
  refine wpList_append_own w hgd s x t ho B E i (.int .i64 0) 1 8 ht hi hz h1 h8 rfl (by decide) v l.length (l.map (Value.int .i64)) hs hown.1 ⟨b, 0, none⟩ 1 1 [.int .i64 y] hx rfl ?_ ?_ ?_ ?_ hB ?_
  · intro j u hj
    match j, hj with
    | 0, hj => simp at hj; subst hj; simpa [Addr.add] using hy
    | j + 1, hj => simp at hj
  · intro u hu; simp at hu; subst hu; rfl
  · unfold maxLen; omega
  · omega
  · intro v' w' hown' hg _
    refine h v' w' ⟨?_, ?_⟩ hg
    · simpa using hown'
    · intro z hz'
      rcases List.mem_append.1 hz' with hz' | hz'
      · exact hown.2 z hz'
      · simp at hz'; subst hz'; exact hyr

/-- make([]int, n) -/
theorem wpList_makeI {P : Program} {w : World} {ops : Array Oper} {rest : List Oper} {o : Oper} {a : Act} {Q : Exit → Act → World → Prop}
    (hg : o.guard = none) (x c : Operand) (t : TypeId) (hop : o.op = Op.makeSlice t x c)
    (E : TypeId) (ht : P.underlying t = some (.slice E)) (hE : IntElem P E) (n : Nat) (L C : Int) (hl : a.eval x = .int .i64 L) (hc : a.eval c = .int .i64 C) (hL : L = (n : Int)) (hC : C = (n : Int)) (hn : n ≤ 17592186044416)
    (hK : ∀ w', OwnI E w.heap.size w' (.slice (some ⟨w.heap.size, 0, none⟩) n n) (List.replicate n 0) → w.grownBy w' none → wpList P ops Q rest (a.put o.dst (.slice (some ⟨w.heap.size, 0, none⟩) n n)) w') :
    wpList P ops Q (o :: rest) a w := by
  obtain ⟨i, hi, hz, h1, h8⟩ := hE.get
  refine wpList_make_full w hg x c t hop w.heap.size E i (.int .i64 0) 1 ht hi hz h1 .i64 .i64 L C n hl hc hL hC (by rw [h8]; omega) (by unfold maxLen; omega) (Nat.le_refl _) ?_
  intro w' hown hg'
  refine hK w' ⟨?_, by intro y hy; have := List.eq_of_mem_replicate hy; subst this; exact ⟨by omega, by omega⟩⟩ hg'
  have e : (madeCells (Value.int IntKind.i64 0).cells (n * 1)).toList = (List.replicate n (0 : Int)).map (Value.int .i64) := by
    rw [show (Value.int IntKind.i64 0).cells = #[Value.int .i64 0] from rfl, toList_madeCells_one]; simp
  rw [e] at hown
  simpa using hown

/-- out[k] = y behind make -/
theorem OwnI.stored {E : TypeId} {B : Nat} {w : World} {g n cap : Nat} {l : List Int} (h : OwnI E B w (.slice (some ⟨g, 0, none⟩) n cap) l) (hn : n = l.length) (j : Nat) (y : Int) (hy : InR y) :
    OwnI E B (w.setCell ⟨g, j, none⟩ (.int .i64 y)) (.slice (some ⟨g, 0, none⟩) n cap) (l.set j y) ∧ w.grownBy (w.setCell ⟨g, j, none⟩ (.int .i64 y)) (some g) := by
  subst hn
  have := h.1.stored j (.int .i64 y)
  refine ⟨⟨?_, ?_⟩, this.2⟩
  · simpa [List.map_set] using this.1
  · intro z hz
    rcases List.mem_or_eq_of_mem_set hz with hz | hz
    · exact h.2 z hz
    · subst hz; exact hy

theorem OwnI.cellAt {E : TypeId} {B : Nat} {w : World} {g n cap : Nat} {l : List Int} (h : OwnI E B w (.slice (some ⟨g, 0, none⟩) n cap) l) (hn : n = l.length) (j : Nat) (hj : j < l.length) :
    w.cell? ⟨g, j, none⟩ = some (.int .i64 l[j]) := by
  subst hn
  rw [h.1.cellAt j (by omega)]; simp [hj]

theorem OwnI.frozenAt {E : TypeId} {B : Nat} {w : World} {g n cap : Nat} {l : List Int} (h : OwnI E B w (.slice (some ⟨g, 0, none⟩) n cap) l) (hn : n = l.length) (j : Nat) : w.frozen? ⟨g, j, none⟩ = false := by
  subst hn
  exact h.1.frozenAt j

theorem bcellN {B : Nat} {W w1 : World} (hb : Below B W w1) (n : Nat) (h : n ≤ B) : (∀ b o, b < n → w1.cell? ⟨b, o, none⟩ = W.cell? ⟨b, o, none⟩) ∧ (∀ b o, b < n → w1.frozen? ⟨b, o, none⟩ = W.frozen? ⟨b, o, none⟩) :=
  ⟨fun b o h' => hb.cell (p := ⟨b, o, none⟩) (Nat.lt_of_lt_of_le h' h), fun b o h' => hb.frozen (p := ⟨b, o, none⟩) (Nat.lt_of_lt_of_le h' h)⟩

@[simp, go_sem] theorem lt_plus2 (n : Nat) : n < n + 1 + 1 := by omega
@[simp, go_sem] theorem le_plus2 (n : Nat) : n ≤ n + 1 + 1 := by omega
@[simp, go_sem] theorem lt_plus3 (n : Nat) : n < n + 1 + 1 + 1 := by omega
@[simp, go_sem] theorem le_plus3 (n : Nat) : n ≤ n + 1 + 1 + 1 := by omega
@[simp, go_sem] theorem lt_plus4 (n : Nat) : n < n + 1 + 1 + 1 + 1 := by omega
@[simp, go_sem] theorem le_plus4 (n : Nat) : n ≤ n + 1 + 1 + 1 + 1 := by omega
@[simp, go_sem] theorem lt_plus5 (n : Nat) : n < n + 1 + 1 + 1 + 1 + 1 := by omega
@[simp, go_sem] theorem le_plus5 (n : Nat) : n ≤ n + 1 + 1 + 1 + 1 + 1 := by omega
@[simp, go_sem] theorem lt_plus6 (n : Nat) : n < n + 1 + 1 + 1 + 1 + 1 + 1 := by omega
@[simp, go_sem] theorem le_plus6 (n : Nat) : n ≤ n + 1 + 1 + 1 + 1 + 1 + 1 := by omega
@[simp, go_sem] theorem lt_plus7 (n : Nat) : n < n + 1 + 1 + 1 + 1 + 1 + 1 + 1 := by omega
@[simp, go_sem] theorem le_plus7 (n : Nat) : n ≤ n + 1 + 1 + 1 + 1 + 1 + 1 + 1 := by omega
@[simp, go_sem] theorem lt_plus8 (n : Nat) : n < n + 1 + 1 + 1 + 1 + 1 + 1 + 1 + 1 := by omega
@[simp, go_sem] theorem le_plus8 (n : Nat) : n ≤ n + 1 + 1 + 1 + 1 + 1 + 1 + 1 + 1 := by omega
theorem bl1 (w : World) (o : Obj) : Below w.heap.size w (w.alloc o) := (Below.refl _ _).alloc (Nat.le_refl _) _
theorem bl2 (w : World) (o o' : Obj) : Below w.heap.size w ((w.alloc o).alloc o') := (bl1 w o).alloc (by simp) _
theorem bl3 (w : World) (o o' o'' : Obj) : Below w.heap.size w (((w.alloc o).alloc o').alloc o'') := (bl2 w o o').alloc (by first | omega | (simp; done) | (simp; omega)) _
theorem Ints.alloc {w : World} {v : Value} {l : List Int} (h : Ints w v l) (o : Obj) : Ints (w.alloc o) v l := h.below (bl1 w o) (Nat.le_refl _)
theorem Ints.drewN {w : World} {v : Value} {l : List Int} (h : Ints w v l) (n : Nat) : Ints (w.drewN n) v l := h.below ((Below.refl w.heap.size w).drewN' n) (Nat.le_refl _)
theorem OwnI.drewN {E : TypeId} {B : Nat} {w : World} {v : Value} {l : List Int} (h : OwnI E B w v l) (n : Nat) : OwnI E B (w.drewN n) v l := h.below ((Below.refl w.heap.size w).drewN' n) (Nat.le_refl _)

theorem Ints.empty (w : World) (a : Option Addr) (n c : Nat) (hn : n = 0) (hc : c ≤ maxLen) : Ints w (.slice a n c) [] := by
  subst hn
  exact ⟨a, c, rfl, Nat.zero_le _, hc, by simp, .inl rfl⟩
theorem Ints.capLe {w : World} {a : Option Addr} {n c : Nat} {l : List Int} (h : Ints w (.slice a n c) l) : n = l.length ∧ n ≤ c ∧ c ≤ maxLen := by
  obtain ⟨a', c', he, h1, h2, _⟩ := h
  simp only [Value.slice.injEq] at he
  obtain ⟨_, rfl, rfl⟩ := he
  exact ⟨rfl, h1, h2⟩
theorem Ints.dropK {w : World} {b off n c : Nat} {l : List Int} (h : Ints w (.slice (some ⟨b, off, none⟩) n c) l) (k : Nat) (hk : k ≤ l.length) : Ints w (.slice (some ⟨b, off + k, none⟩) (n - k) (c - k)) (l.drop k) := by
  obtain ⟨a', c', he, h1, h2, h3, h4⟩ := h
  simp only [Value.slice.injEq] at he
  obtain ⟨rfl, rfl, rfl⟩ := he
  refine ⟨_, c - k, by rw [List.length_drop], by rw [List.length_drop]; omega, by omega, fun x hx => h3 x (List.mem_of_mem_drop hx), ?_⟩
  rcases h4 with rfl | ⟨b', off', hab, hlt, hc⟩
  · left; simp
  · simp only [Option.some.injEq, Addr.mk.injEq, and_true] at hab
    obtain ⟨rfl, rfl⟩ := hab
    right
    refine ⟨b, off + k, rfl, hlt, fun j hj => ?_⟩
    rw [List.length_drop] at hj
    have := hc (k + j) (by omega)
    rw [Nat.add_assoc, this]
    simp

theorem OwnI.setBelow {E : TypeId} {B : Nat} {w : World} {v : Value} {l : List Int} (h : OwnI E B w v l) {a : Addr} (ha : a.block < B) (u : Value) : OwnI E B (w.setCell a u) v l :=
  ⟨ownsRow_setCell_below h.1 ha u, h.2⟩

theorem OwnI.shape {E : TypeId} {B : Nat} {w : World} {v : Value} {l : List Int} (h : OwnI E B w v l) : ∃ a c, v = .slice a l.length c := by
  obtain ⟨a, c, rfl, _⟩ := h.ints
  exact ⟨a, c, rfl⟩

theorem OwnI.shape3 {E : TypeId} {B : Nat} {w : World} {v : Value} {l : List Int} (h : OwnI E B w v l) : ∃ a n c, v = .slice a n c := by
  obtain ⟨a, c, rfl, _⟩ := h.ints
  exact ⟨a, _, c, rfl⟩

theorem Ints.shape {w : World} {v : Value} {l : List Int} (h : Ints w v l) : ∃ a c, v = .slice a l.length c := by
  obtain ⟨a, c, rfl, _⟩ := h
  exact ⟨a, c, rfl⟩

theorem keep {W w1 : World} (hb : Below W.heap.size W w1) {p : Addr} {v : Value} (d : W.cell? p = some v) : w1.cell? p = some v := (hb.cell (World.block_lt_of_cell? W p d)).trans d
theorem cell_new (w : World) (cs : Array Value) (T : TypeId) (j : Nat) (v : Value) (h : cs[j]? = some v) : (w.alloc (.cells cs T)).cell? ⟨w.heap.size, j, none⟩ = some v := by
  have e := heap_alloc_new w (.cells cs T)
  unfold World.cell?
  simp only [e]
  simpa using h
theorem OwnI.keep {E : TypeId} {B : Nat} {W w1 : World} {v : Value} {l : List Int} (h : OwnI E B W v l) (hb : Below W.heap.size W w1) : OwnI E B w1 v l := h.below hb (Nat.le_refl _)
theorem Ints.keep {W w1 : World} {v : Value} {l : List Int} (h : Ints W v l) (hb : Below W.heap.size W w1) : Ints w1 v l := h.below hb (Nat.le_refl _)
theorem grown_keep {W w1 : World} {row : Option Nat} (hg : W.grownBy w1 row) {p : Addr} {v : Value} (d : W.cell? p = some v) (hne : ∀ k, row = some k → p.block ≠ k) : w1.cell? p = some v :=
  hg.cell d (fun e => hne _ e.symm rfl)
theorem OwnI.grow {E : TypeId} {B : Nat} {w w' : World} {row : Option Nat} {v : Value} {l : List Int} (h : OwnI E B w v l) (hg : w.grownBy w' row) (hne : ∀ k, row = some k → v.ownBlock ≠ some k) : OwnI E B w' v l := by
  refine h.grown hg ?_
  cases hv : v.ownBlock with
  | none => exact .inl rfl
  | some k => right; intro e; exact hne k e.symm hv
theorem below_grow {B : Nat} {a w w' : World} {row : Option Nat} (h : Below B a w) (hg : w.grownBy w' row) (hB : B ≤ w.heap.size) (hr : ∀ k, row = some k → B ≤ k) : Below B a w' := h.grown hg hB hr
theorem gr_trans {w w' w'' : World} {row : Option Nat} (h : w.grownBy w' row) (k : w'.grownBy w'' row) : w.grownBy w'' row :=
  ⟨k.os.trans h.os, k.tape.trans h.tape, k.output.trans h.output, Nat.le_trans h.size k.size, fun b hb hr => (k.block b (Nat.lt_of_lt_of_le hb h.size) hr).trans (h.block b hb hr)⟩
theorem calls_named {P : Program} {f : FuncId} {args : Array Value} {W : World} {R : Ending → World → Prop} (h : ∀ W', W' = W → Calls P f args W' R) : Calls P f args W R := h W rfl

/-- the first block of a call's own holds a struct of a number and a slice -/
structure Box2 (w wr : World) (n : Int) (sv : Value) : Prop where
  d0 : wr.cell? ⟨w.heap.size, 0, none⟩ = some (.int .i64 n)
  d1 : wr.cell? ⟨w.heap.size, 1, none⟩ = some sv
  B : Below w.heap.size w wr
  z : w.heap.size < wr.heap.size
theorem Box2.new (w : World) (n : Int) (sv : Value) (T : TypeId) : Box2 w (w.alloc (.cells #[.int .i64 n, sv] T)) n sv :=
  ⟨cell_new w #[.int .i64 n, sv] T 0 _ rfl, cell_new w #[.int .i64 n, sv] T 1 _ rfl, bl1 _ _, by simp⟩
theorem Box2.after {w wr w2 : World} {n : Int} {sv : Value} (h : Box2 w wr n sv) (hb : Below wr.heap.size wr w2) : Box2 w w2 n sv :=
  ⟨G5.keep hb h.d0, G5.keep hb h.d1, h.B.after hb h.B.size, Nat.lt_of_lt_of_le h.z hb.size⟩
theorem Box2.drewN {w wr : World} {n : Int} {sv : Value} (h : Box2 w wr n sv) (k : Nat) : Box2 w (wr.drewN k) n sv := ⟨h.d0, h.d1, h.B.drewN' k, h.z⟩
theorem Box2.grow {w wr w2 : World} {row : Option Nat} {n : Int} {sv : Value} (h : Box2 w wr n sv) (hg : wr.grownBy w2 row) (hr : ∀ k, row = some k → w.heap.size < k) : Box2 w w2 n sv :=
  ⟨G5.grown_keep hg h.d0 (fun k hk => by have := hr k hk; simp only []; omega), G5.grown_keep hg h.d1 (fun k hk => by have := hr k hk; simp only []; omega), h.B.grown hg h.B.size (fun k hk => by have := hr k hk; omega), Nat.lt_of_lt_of_le h.z hg.size⟩

theorem cells_below {B : Nat} {w w' : World} {b off : Nat} {l : List Int} (hc : ∀ k, (h : k < l.length) → w.cell? ⟨b, off + k, none⟩ = some (.int .i64 l[k])) (hb : l ≠ [] → b < w.heap.size)
    (h : Below B w w') (hB : w.heap.size ≤ B) : ∀ k, (h : k < l.length) → w'.cell? ⟨b, off + k, none⟩ = some (.int .i64 l[k]) := fun k hk => by
  have hne : l ≠ [] := by intro e; subst e; simp at hk
  have := hb hne
  rw [h.cell (p := ⟨b, off + k, none⟩) (by show b < B; omega)]
  exact hc k hk

/-- make and fill: the first k cells are laid -/
theorem fill_step (l : List Int) (k : Nat) (h : k < l.length) : (l.take k ++ List.replicate (l.length - k) 0).set k l[k] = l.take (k + 1) ++ List.replicate (l.length - (k + 1)) 0 := by
  apply List.ext_getElem
  · simp; omega
  · intro i h1 h2
    simp only [List.length_set, List.length_append, List.length_take, List.length_replicate] at h1 h2
    rw [List.getElem_set]
    by_cases hi : k = i
    · subst hi
      rw [if_pos rfl, List.getElem_append_left (by simp; omega)]; simp
    · by_cases hik : i < k
      · rw [if_neg hi, List.getElem_append_left (by simp; omega), List.getElem_append_left (by simp; omega)]; simp
      · rw [if_neg hi, List.getElem_append_right (by simp; omega), List.getElem_append_right (by simp; omega)]; simp
theorem fill_len (l : List Int) (k : Nat) (h : k ≤ l.length) : (l.take k ++ List.replicate (l.length - k) 0).length = l.length := by simp; omega
theorem q_same {P : Program} {f : FuncId} {args : Array Value} {w : World} {n : Nat} {v : Value}
    (h : Calls P f args (w.drewN n) fun e w' => e = .returned v ∧ w.drewN n = w') : Calls P f args (w.drewN n) fun e w'' => e = .returned v ∧ ∃ m, w'' = w.drewN m :=
  h.mono fun _ _ ⟨he, hm⟩ => ⟨he, n, hm.symm⟩
theorem q_bool {P : Program} {f : FuncId} {args : Array Value} {w : World} {n : Nat} {b b' : Bool}
    (h : Calls P f args (w.drewN n) fun e w' => e = .returned (.bool b) ∧ w.drewN n = w') (hb : b = b') : Calls P f args (w.drewN n) fun e w'' => e = .returned (.bool b') ∧ ∃ m, w'' = w.drewN m := by
  subst hb; exact q_same h
theorem q_same2 {P : Program} {f : FuncId} {args : Array Value} {w : World} {m n : Nat} {v : Value}
    (h : Calls P f args (w.drewN (m + n)) fun e w' => e = .returned v ∧ w.drewN (m + n) = w') : Calls P f args (w.drewN (m + n)) fun e w'' => e = .returned v ∧ ∃ k, w'' = w.drewN (m + k) :=
  h.mono fun _ _ ⟨he, hm⟩ => ⟨he, n, hm.symm⟩
theorem q_bool2 {P : Program} {f : FuncId} {args : Array Value} {w : World} {m n : Nat} {b b' : Bool}
    (h : Calls P f args (w.drewN (m + n)) fun e w' => e = .returned (.bool b) ∧ w.drewN (m + n) = w') (hb : b = b') : Calls P f args (w.drewN (m + n)) fun e w'' => e = .returned (.bool b') ∧ ∃ k, w'' = w.drewN (m + k) := by
  subst hb; exact q_same2 h
theorem ret_int {k : IntKind} {a b : Int} (h : a = b) : Ending.returned (.int k a) = .returned (.int k b) := by rw [h]
theorem ret_bool {a b : Bool} (h : a = b) : Ending.returned (.bool a) = .returned (.bool b) := by rw [h]

/-- a world in which all that W had is as it was -/
structure Ext (W : World) where
  w : World
  b : Below W.heap.size W w
instance Ext.one (W : World) : Nonempty (Ext W) := ⟨⟨W, Below.refl _ _⟩⟩
/-- A REGION THAT DRAWS ITS ORDER, whose calls make new memory at most and hand back numbers and bools: one walk in the text's order. -/
theorem wp_region_ext {P : Program} {id : Nat} {Q : Exit → Act → World → Prop} {a : Act} (W : World) {l : List Oper} (hm : P.follows .mixedOrders = true) (hB : Region.lexB .any l.toArray = true)
    (h : wpQuiet P l.toArray (fun w' => ∃ x : Ext W, w' = x.w) (fun a' => ∀ w', (∃ x : Ext W, w' = x.w) → Q .normal a' w') l a) : (Code.region id l.toArray true).wp P Q a W :=
  wp_region_quiet (C := fun w' => ∃ x : Ext W, w' = x.w) hm hB ⟨⟨W.drew, (Below.refl _ _).drew⟩, rfl⟩ (by simpa using h)
theorem ext_call {P : Program} {f : FuncId} {args : Array Value} {W : World} {x : Ext W} {v : Value}
    (h : Calls P f args x.w fun e w' => e = .returned v ∧ Below x.w.heap.size x.w w') : Calls P f args x.w fun e w'' => e = .returned v ∧ ∃ y : Ext W, w'' = y.w :=
  h.mono fun _ w'' ⟨he, hb⟩ => ⟨he, ⟨w'', x.b.after hb x.b.size⟩, rfl⟩
theorem ext_same {P : Program} {f : FuncId} {args : Array Value} {W : World} {x : Ext W} {v : Value}
    (h : Calls P f args x.w fun e w' => e = .returned v ∧ x.w = w') : Calls P f args x.w fun e w'' => e = .returned v ∧ ∃ y : Ext W, w'' = y.w :=
  h.mono fun _ _ ⟨he, hb⟩ => ⟨he, x, hb.symm⟩
theorem Ext.cell {W : World} (x : Ext W) {p : Addr} {v : Value} (d : W.cell? p = some v) : x.w.cell? p = some v := G5.keep x.b d
theorem Ext.ints {W : World} (x : Ext W) {v : Value} {l : List Int} (h : Ints W v l) : Ints x.w v l := h.keep x.b
end Go.G5
end
