/- Rows of ints that a call owns, their slice perhaps shorter in capacity than the block; sorting. -/
import Derived.Test.YtpaoiiiceekkkaaDoorTab
import Derived.Test.YtpaoiiiceekkkaaDoorClone
import Derived.Test.YtpaoiiiceekkkaaDoorBlk
import Derived.Sort.Grow
namespace Go.G5
open Go Go.RowKit

/-- as OwnI, but the slice's capacity may be less than its block has -/
def OwnW (E : TypeId) (B : Nat) (w : World) (v : Value) (l : List Int) : Prop :=
  (∀ x ∈ l, InR x) ∧ ((v = .slice none 0 0 ∧ l = []) ∨ ∃ g cap cur, v = .slice (some ⟨g, 0, none⟩) l.length cap ∧ B ≤ g ∧ w.heap[g]? = some (.cells cur E (0, 0)) ∧ l.length ≤ cap ∧ cap ≤ cur.size ∧ cap ≤ maxLen ∧ cur.toList.take l.length = l.map (Value.int .i64))
section
variable {E : TypeId} {B : Nat} {w w' : World} {v : Value} {l : List Int}
theorem OwnI.toW (h : OwnI E B w v l) : OwnW E B w v l := by
  obtain ⟨⟨h0, h1⟩, h2⟩ := h
  refine ⟨h2, ?_⟩
  rcases h1 with ⟨rfl, hn⟩ | ⟨g, cap, cur, rfl, hB, hg, hn, hm, hcs, ht⟩
  · exact .inl ⟨rfl, List.eq_nil_of_length_eq_zero hn⟩
  · exact .inr ⟨g, cap, cur, rfl, hB, hg, hn, by omega, hm, by simpa using ht⟩
theorem OwnW.toW (h : OwnW E B w v l) : OwnW E B w v l := h
theorem OwnW.nil (E : TypeId) (B : Nat) (w : World) : OwnW E B w (.slice none 0 0) [] := ⟨by simp, .inl ⟨rfl, rfl⟩⟩
theorem OwnW.below {B' : Nat} (h : OwnW E B w v l) (hb : Below B' w w') (hB : w.heap.size ≤ B') : OwnW E B w' v l := by
  refine ⟨h.1, ?_⟩
  rcases h.2 with h1 | ⟨g, cap, cur, rfl, hBg, hg, r⟩
  · exact .inl h1
  · exact .inr ⟨g, cap, cur, rfl, hBg, by rw [hb.block g (by have := (Array.getElem?_eq_some_iff.1 hg).1; omega)]; exact hg, r⟩
theorem OwnW.keep (h : OwnW E B w v l) (hb : Below w.heap.size w w') : OwnW E B w' v l := h.below hb (Nat.le_refl _)
theorem OwnW.alloc (h : OwnW E B w v l) (o : Obj) : OwnW E B (w.alloc o) v l := h.keep (bl1 w o)
theorem OwnW.drewN (h : OwnW E B w v l) (n : Nat) : OwnW E B (w.drewN n) v l := h.below ((Below.refl w.heap.size w).drewN' n) (Nat.le_refl _)
theorem OwnW.mono {B' : Nat} (h : OwnW E B w v l) (hB : B' ≤ B) : OwnW E B' w v l := by
  refine ⟨h.1, ?_⟩
  rcases h.2 with h1 | ⟨g, cap, cur, rfl, hBg, r⟩
  · exact .inl h1
  · exact .inr ⟨g, cap, cur, rfl, by omega, r⟩
theorem OwnW.lt (h : OwnW E B w v l) : ∀ k, v.ownBlock = some k → B ≤ k ∧ k < w.heap.size := by
  intro k hk
  rcases h.2 with ⟨rfl, _⟩ | ⟨g, cap, cur, rfl, hBg, hg, _⟩
  · simp [Value.ownBlock] at hk
  · have : g = k := by simpa [Value.ownBlock] using hk
    subst this
    exact ⟨hBg, (Array.getElem?_eq_some_iff.1 hg).1⟩
theorem OwnW.grow {row : Option Nat} (h : OwnW E B w v l) (hg : w.grownBy w' row) (hne : ∀ k, row = some k → v.ownBlock ≠ some k) : OwnW E B w' v l := by
  refine ⟨h.1, ?_⟩
  rcases h.2 with h1 | ⟨g, cap, cur, rfl, hBg, hh, r⟩
  · exact .inl h1
  · refine .inr ⟨g, cap, cur, rfl, hBg, ?_, r⟩
    rw [hg.block g (Array.getElem?_eq_some_iff.1 hh).1 (fun e => hne g e.symm rfl)]
    exact hh
theorem OwnW.setBelow (h : OwnW E B w v l) {a : Addr} (ha : a.block < B) (u : Value) : OwnW E B (w.setCell a u) v l := by
  refine ⟨h.1, ?_⟩
  rcases h.2 with h1 | ⟨g, cap, cur, rfl, hBg, hh, r⟩
  · exact .inl h1
  · refine .inr ⟨g, cap, cur, rfl, hBg, ?_, r⟩
    rw [Below.heap_setCell w a u g (by omega)]
    exact hh
theorem OwnW.cases (h : OwnW E B w v l) : (v = .slice none 0 0 ∧ l = []) ∨ ∃ g cap, v = .slice (some ⟨g, 0, none⟩) l.length cap ∧ B ≤ g ∧ g < w.heap.size := by
  rcases h.2 with h1 | ⟨g, cap, cur, rfl, hBg, hg, _⟩
  · exact .inl h1
  · exact .inr ⟨g, cap, rfl, hBg, (Array.getElem?_eq_some_iff.1 hg).1⟩
theorem OwnW.cell' {g n cap : Nat} (h : OwnW E B w (.slice (some ⟨g, 0, none⟩) n cap) l) (j : Nat) (hj : j < l.length) : w.cell? ⟨g, j, none⟩ = some (.int .i64 l[j]) := by
  rcases h.2 with ⟨e, _⟩ | ⟨g', cap', cur, e, _, hg, hlc, hcc, _, ht⟩
  · simp at e
  · simp only [Value.slice.injEq, Option.some.injEq, Addr.mk.injEq, and_true] at e
    obtain ⟨rfl, _, rfl⟩ := e
    have hc : w.cell? ⟨g, j, none⟩ = cur[j]? := cell_of_row w g j cur E (0, 0) hg
    rw [hc]
    have h1 : (cur.toList.take l.length)[j]? = some (.int .i64 l[j]) := by rw [ht, List.getElem?_map, List.getElem?_eq_getElem hj]; rfl
    rw [List.getElem?_take_of_lt hj] at h1
    rw [← Array.getElem?_toList]
    exact h1
theorem OwnW.ints (h : OwnW E B w v l) : Ints w v l := by
  rcases h.2 with ⟨rfl, rfl⟩ | ⟨g, cap, cur, rfl, hBg, hg, hlc, hcc, hm, ht⟩
  · exact ⟨none, 0, rfl, Nat.le_refl _, Nat.zero_le _, by simp, .inl rfl⟩
  · exact ⟨_, cap, rfl, hlc, hm, h.1, .inr ⟨g, 0, rfl, (Array.getElem?_eq_some_iff.1 hg).1, fun k hk => by rw [Nat.zero_add]; exact h.cell' k hk⟩⟩
theorem OwnW.shape (h : OwnW E B w v l) : ∃ a c, v = .slice a l.length c := by
  obtain ⟨a, c, rfl, _⟩ := h.ints
  exact ⟨a, c, rfl⟩
theorem OwnW.shape3 (h : OwnW E B w v l) : ∃ a n c, v = .slice a n c := by
  obtain ⟨a, c, rfl, _⟩ := h.ints
  exact ⟨a, _, c, rfl⟩
theorem OwnW.cellAt {g n cap : Nat} (h : OwnW E B w (.slice (some ⟨g, 0, none⟩) n cap) l) (_ : n = l.length) (j : Nat) (hj : j < l.length) : w.cell? ⟨g, j, none⟩ = some (.int .i64 l[j]) := h.cell' j hj
theorem OwnW.frozenAt {g n cap : Nat} (h : OwnW E B w (.slice (some ⟨g, 0, none⟩) n cap) l) (_ : n = l.length) (j : Nat) : w.frozen? ⟨g, j, none⟩ = false := by
  rcases h.2 with ⟨e, _⟩ | ⟨g', cap', cur, e, _, hg, _⟩
  · simp at e
  · simp only [Value.slice.injEq, Option.some.injEq, Addr.mk.injEq, and_true] at e
    obtain ⟨rfl, _, rfl⟩ := e
    simp [World.frozen?, hg]
theorem OwnW.stored {g n cap : Nat} (h : OwnW E B w (.slice (some ⟨g, 0, none⟩) n cap) l) (hn : n = l.length) (j : Nat) (y : Int) (hy : InR y) :
    OwnW E B (w.setCell ⟨g, j, none⟩ (.int .i64 y)) (.slice (some ⟨g, 0, none⟩) n cap) (l.set j y) ∧ w.grownBy (w.setCell ⟨g, j, none⟩ (.int .i64 y)) (some g) := by
  subst hn
  refine ⟨⟨?_, ?_⟩, ⟨rfl, rfl, rfl, by simp, fun b hb hne => Below.heap_setCell w _ _ b (by intro e; exact hne (by rw [e]))⟩⟩
  · intro z hz
    rcases List.mem_or_eq_of_mem_set hz with hz | hz
    · exact h.1 z hz
    · subst hz; exact hy
  · right
    rcases h.2 with ⟨e, _⟩ | ⟨g', cap', cur, e, hB, hg, hlc, hcc, hm, ht⟩
    · simp at e
    · simp only [Value.slice.injEq, Option.some.injEq, Addr.mk.injEq, and_true] at e
      obtain ⟨rfl, _, rfl⟩ := e
      refine ⟨g, cap, cur.setIfInBounds j (.int .i64 y), by simp, hB, ?_, by simpa using hlc, by simpa using hcc, hm, ?_⟩
      · simp [World.setCell, Array.getElem?_modify, hg]
      · rw [List.length_set, Array.toList_setIfInBounds, List.take_set, ht, List.map_set]
end

def Apart (u v : Value) : Prop := ∀ k, u.ownBlock = some k → v.ownBlock ≠ some k
theorem Apart.symm {u v : Value} (h : Apart u v) : Apart v u := fun k hk hu => h k hu hk
theorem Apart.of_lt {E E' : TypeId} {B B' : Nat} {w w' : World} {u v : Value} {l m : List Int} (h : OwnW E B w u l) (h' : OwnW E' B' w' v m) (hB : w.heap.size ≤ B') : Apart u v := fun k hk hv => by
  have := (h.lt k hk).2
  have := (h'.lt k hv).1
  omega

/-! sorting -/
theorem OwnI.cut {E : TypeId} {B : Nat} {w : World} {g n cap : Nat} {l : List Int} (h : OwnI E B w (.slice (some ⟨g, 0, none⟩) n cap) l) (k : Nat) (hk : k ≤ l.length) : OwnI E B w (.slice (some ⟨g, 0, none⟩) k cap) (l.take k) := by
  obtain ⟨⟨h0, h1⟩, h2⟩ := h
  rcases h1 with ⟨e, _⟩ | ⟨g', cap', cur, e, hB, hg, hn, hm, hcs, ht⟩
  · simp at e
  · simp only [Value.slice.injEq, Option.some.injEq, Addr.mk.injEq, and_true] at e
    obtain ⟨rfl, rfl, rfl⟩ := e
    have hl : (l.take k).length = k := by simp; omega
    refine ⟨⟨by rw [List.length_map, hl]; omega, .inr ⟨g, cap, cur, by rw [hl], hB, hg, by omega, hm, hcs, ?_⟩⟩, fun x hx => h2 x (List.mem_of_mem_take hx)⟩
    rw [hl, Nat.mul_one]
    rw [Nat.mul_one] at ht
    rw [List.map_take, ← ht, List.take_take, Nat.min_eq_left hk]
theorem OwnI.holds {E : TypeId} {B : Nat} {w : World} {g n cap : Nat} {l : List Int} (h : OwnI E B w (.slice (some ⟨g, 0, none⟩) n cap) l) (hn : n = l.length) : Go.Sort.Holds (Value.int .i64) w g 0 l.toArray := by
  intro j hj
  have hj' : j < l.length := by simpa using hj
  refine ⟨?_, ?_⟩
  · rw [Nat.zero_add, h.cellAt hn j hj', getElem!_pos l.toArray j hj]; simp
  · rw [Nat.zero_add]; exact h.frozenAt hn j
theorem OwnI.put {E : TypeId} {B : Nat} {w : World} {g n cap : Nat} {l : List Int} (h : OwnI E B w (.slice (some ⟨g, 0, none⟩) n cap) l) (l' : List Int) (hl : l'.length = l.length) (hr : ∀ x ∈ l', InR x) (q : Nat) (os : Array Obj) :
    OwnI E B (Go.Sort.grow (Go.Sort.putRow (Value.int .i64) (Go.Sort.ahead w q) g 0 l'.toArray) os) (.slice (some ⟨g, 0, none⟩) n cap) l' ∧ w.grownBy (Go.Sort.grow (Go.Sort.putRow (Value.int .i64) (Go.Sort.ahead w q) g 0 l'.toArray) os) (some g) := by
  obtain ⟨⟨h0, h1⟩, h2⟩ := h
  rcases h1 with ⟨e, _⟩ | ⟨g', cap', cur, e, hB, hg, hn, hm, hcs, ht⟩
  · simp at e
  · simp only [Value.slice.injEq, Option.some.injEq, Addr.mk.injEq, and_true] at e
    obtain ⟨rfl, rfl, rfl⟩ := e
    have hlt := (Array.getElem?_eq_some_iff.1 hg).1
    have hblock : ∀ b, b < w.heap.size → (Go.Sort.grow (Go.Sort.putRow (Value.int .i64) (Go.Sort.ahead w q) g 0 l'.toArray) os).heap[b]? = (w.heap.modify g (Go.Sort.onCells (Go.Sort.putCells (Value.int .i64) 0 l'.toArray)))[b]? := by
      intro b hb
      unfold Go.Sort.grow Go.Sort.putRow Go.Sort.mapBlock Go.Sort.ahead
      simp only
      rw [Array.getElem?_append_left (by simpa using hb)]
    refine ⟨⟨⟨by rw [List.length_map, Nat.mul_one], .inr ⟨g, cap, Go.Sort.putCells (Value.int .i64) 0 l'.toArray cur, by rw [hl], hB, ?_, by omega, hm, ?_, ?_⟩⟩, hr⟩, ⟨rfl, rfl, rfl, ?_, ?_⟩⟩
    · rw [hblock g hlt, Array.getElem?_modify, if_pos rfl, hg]; rfl
    · unfold Go.Sort.putCells; simpa using hcs
    · rw [Nat.mul_one]
      have hcl : l.length ≤ cur.size := by omega
      apply List.ext_getElem?
      intro k
      by_cases hk : k < l'.length
      · rw [List.getElem?_take_of_lt hk, Array.getElem?_toList]
        unfold Go.Sort.putCells
        rw [Array.getElem?_mapIdx, Array.getElem?_eq_getElem (show k < cur.size by omega), Option.map_some, if_pos ⟨by omega, by simpa using hk⟩, Nat.sub_zero, getElem!_pos l'.toArray k (by simpa using hk), List.getElem?_map, List.getElem?_eq_getElem hk]
        simp
      · rw [List.getElem?_eq_none (by simp; omega), List.getElem?_eq_none (by simpa using hk)]
    · simp [Go.Sort.grow, Go.Sort.putRow, Go.Sort.mapBlock, Go.Sort.ahead]
    · intro b hb hne
      rw [hblock b hb, Array.getElem?_modify, if_neg (fun e => hne (by rw [e]))]
end Go.G5
