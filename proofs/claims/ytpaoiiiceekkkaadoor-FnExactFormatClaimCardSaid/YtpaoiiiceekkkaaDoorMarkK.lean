/- Marks of values with several lists. -/
import Derived.Test.YtpaoiiiceekkkaaDoorMark
namespace Go.G5
open Go Go.RowKit
/-- w' is w with new blocks and changes to blocks of P alone -/
structure GrownIn (w w' : World) (P : Nat → Prop) : Prop where
  os : w'.os = w.os
  tape : w'.tape = w.tape
  output : w'.output = w.output
  size : w.heap.size ≤ w'.heap.size
  block : ∀ b, b < w.heap.size → ¬ P b → w'.heap[b]? = w.heap[b]?
section
variable {w w' w'' : World} {P : Nat → Prop}
theorem GrownIn.refl (w : World) (P : Nat → Prop) : GrownIn w w P := ⟨rfl, rfl, rfl, Nat.le_refl _, fun _ _ _ => rfl⟩
theorem GrownIn.trans (h : GrownIn w w' P) (k : GrownIn w' w'' P) : GrownIn w w'' P :=
  ⟨k.os.trans h.os, k.tape.trans h.tape, k.output.trans h.output, Nat.le_trans h.size k.size, fun b hb hr => (k.block b (Nat.lt_of_lt_of_le hb h.size) hr).trans (h.block b hb hr)⟩
theorem GrownIn.of_row {row : Option Nat} (h : w.grownBy w' row) (hP : ∀ k, row = some k → P k) : GrownIn w w' P := ⟨h.os, h.tape, h.output, h.size, fun b hb hn => h.block b hb (fun e => hn (hP b e.symm))⟩
theorem GrownIn.of_below (h : Below w.heap.size w w') : GrownIn w w' P := ⟨h.os, h.tape, h.output, h.size, fun b hb _ => h.block b hb⟩
theorem Blk.growIn {g : Nat} {t : TypeId} {cs : Array Value} (h : Blk w g t cs) (hg : GrownIn w w' P) (hn : ¬ P g) : Blk w' g t cs := (hg.block g h.lt hn).trans h
theorem OwnW.growIn {E : TypeId} {B : Nat} {v : Value} {l : List Int} (h : OwnW E B w v l) (hg : GrownIn w w' P) (hn : ∀ k, v.ownBlock = some k → ¬ P k) : OwnW E B w' v l := by
  refine ⟨h.1, ?_⟩
  rcases h.2 with h1 | ⟨g, cap, cur, rfl, hBg, hh, r⟩
  · exact .inl h1
  · refine .inr ⟨g, cap, cur, rfl, hBg, ?_, r⟩
    rw [hg.block g (Array.getElem?_eq_some_iff.1 hh).1 (hn g rfl)]
    exact hh
theorem Below.growIn {B : Nat} {a : World} (h : Below B a w) (hg : GrownIn w w' P) (hB : B ≤ w.heap.size) (hn : ∀ k, P k → B ≤ k) : Below B a w' :=
  ⟨hg.os.trans h.os, hg.tape.trans h.tape, hg.output.trans h.output, Nat.le_trans h.size hg.size, fun b hb => (hg.block b (by omega) (fun hp => by have := hn b hp; omega)).trans (h.block b hb)⟩
end
end Go.G5
namespace Go.Proofs.YtpaoiiiceekkkaaDoor
open Go.RowKit Go.G5

end Go.Proofs.YtpaoiiiceekkkaaDoor
