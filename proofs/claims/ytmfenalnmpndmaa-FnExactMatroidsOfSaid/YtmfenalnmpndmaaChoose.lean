/- choose: the family of the sets that a function wants. -/
import Derived.Test.YtmfenalnmpndmaaFam
import Derived.Shelf.Abstract
namespace Go.Proofs.Ytmfenalnmpndmaa
open Go.RowKit Go.G5

/-- block B holds a struct of two cells that may be written -/
structure BoxAt (wr : World) (B : Nat) (x y : Value) : Prop where
  d0 : wr.cell? ⟨B, 0, none⟩ = some x
  d1 : wr.cell? ⟨B, 1, none⟩ = some y
  f0 : wr.frozen? ⟨B, 0, none⟩ = false
  f1 : wr.frozen? ⟨B, 1, none⟩ = false
theorem BoxAt.lt {wr : World} {B : Nat} {x y : Value} (h : BoxAt wr B x y) : B < wr.heap.size := World.block_lt_of_cell? wr _ h.d0
theorem BoxAt.keep {wr w2 : World} {B : Nat} {x y : Value} (h : BoxAt wr B x y) (hb : Below wr.heap.size wr w2) : BoxAt w2 B x y :=
  ⟨G5.keep hb h.d0, G5.keep hb h.d1, (hb.frozen (p := ⟨B, 0, none⟩) h.lt).trans h.f0, (hb.frozen (p := ⟨B, 1, none⟩) h.lt).trans h.f1⟩
theorem BoxAt.grow {wr w2 : World} {row : Option Nat} {B : Nat} {x y : Value} (h : BoxAt wr B x y) (hg : wr.grownBy w2 row) (hne : row ≠ some B) : BoxAt w2 B x y :=
  ⟨G5.grown_keep hg h.d0 (fun k hk e => hne (by rw [hk, ← e])), G5.grown_keep hg h.d1 (fun k hk e => hne (by rw [hk, ← e])),
   by rw [World.frozen?_of_block (hg.block B h.lt (fun e => hne e.symm))]; exact h.f0, by rw [World.frozen?_of_block (hg.block B h.lt (fun e => hne e.symm))]; exact h.f1⟩
theorem BoxAt.set1 {wr : World} {B : Nat} {x y : Value} (h : BoxAt wr B x y) (v : Value) : BoxAt (wr.setCell ⟨B, 1, none⟩ v) B x v :=
  ⟨by rw [World.cell?_setCell_other _ _ _ _ (by simp)]; exact h.d0, World.cell?_setCell_same _ _ _ h.d1, by rw [World.frozen?_setCell]; exact h.f0, by rw [World.frozen?_setCell]; exact h.f1⟩
theorem BoxAt.other {wr : World} {B B' j : Nat} {x y : Value} (h : BoxAt wr B x y) (hne : B' ≠ B) (v : Value) : BoxAt (wr.setCell ⟨B', j, none⟩ v) B x y :=
  ⟨by rw [World.cell?_setCell_other _ _ _ _ (fun e => hne (congrArg Addr.block e))]; exact h.d0, by rw [World.cell?_setCell_other _ _ _ _ (fun e => hne (congrArg Addr.block e))]; exact h.d1, by rw [World.frozen?_setCell]; exact h.f0, by rw [World.frozen?_setCell]; exact h.f1⟩
theorem BoxAt.new (w : World) (x y : Value) (T : TypeId) : BoxAt (w.alloc (.cells #[x, y] T)) w.heap.size x y :=
  ⟨cell_new w #[x, y] T 0 _ rfl, cell_new w #[x, y] T 1 _ rfl, World.frozen?_alloc_at _ _ _ _ rfl, World.frozen?_alloc_at _ _ _ _ rfl⟩

/-- the chosen sets below a bound -/
def chosen (P : Nat → Bool) (k : Nat) : List Int := ((List.range k).filter P).map Int.ofNat
theorem chosen_succ (P : Nat → Bool) (k : Nat) : chosen P (k + 1) = if P k then chosen P k ++ [(k : Int)] else chosen P k := by
  unfold chosen
  rw [List.range_succ, List.filter_append, List.map_append]
  by_cases h : P k = true
  · simp [h]
  · simp [h]
theorem chosen_len (P : Nat → Bool) (k : Nat) : (chosen P k).length ≤ k := by
  unfold chosen; rw [List.length_map]; have := List.length_filter_le P (List.range k); simpa using this

end Go.Proofs.Ytmfenalnmpndmaa
