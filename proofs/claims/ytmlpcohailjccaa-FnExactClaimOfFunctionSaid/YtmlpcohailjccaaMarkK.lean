/- Marks of values with several lists. -/
import Derived.Test.YtmlpcohailjccaaMark
namespace Go.G5
open Go Go.RowKit
/-- w' is w with new blocks and changes to blocks of P alone -/
structure GrownIn (w w' : World) (P : Nat → Prop) : Prop where
  os : w'.os = w.os
  tape : w'.tape = w.tape
  output : w'.output = w.output
  size : w.heap.size ≤ w'.heap.size
  block : ∀ b, b < w.heap.size → ¬ P b → w'.heap[b]? = w.heap[b]?
section
variable {w w' w'' : World} {P : Nat → Prop}
theorem GrownIn.refl (w : World) (P : Nat → Prop) : GrownIn w w P := ⟨rfl, rfl, rfl, Nat.le_refl _, fun _ _ _ => rfl⟩
theorem GrownIn.trans (h : GrownIn w w' P) (k : GrownIn w' w'' P) : GrownIn w w'' P :=
  ⟨k.os.trans h.os, k.tape.trans h.tape, k.output.trans h.output, Nat.le_trans h.size k.size, fun b hb hr => (k.block b (Nat.lt_of_lt_of_le hb h.size) hr).trans (h.block b hb hr)⟩
theorem GrownIn.of_row {row : Option Nat} (h : w.grownBy w' row) (hP : ∀ k, row = some k → P k) : GrownIn w w' P := ⟨h.os, h.tape, h.output, h.size, fun b hb hn => h.block b hb (fun e => hn (hP b e.symm))⟩
theorem GrownIn.of_below (h : Below w.heap.size w w') : GrownIn w w' P := ⟨h.os, h.tape, h.output, h.size, fun b hb _ => h.block b hb⟩
theorem Blk.growIn {g : Nat} {t : TypeId} {cs : Array Value} (h : Blk w g t cs) (hg : GrownIn w w' P) (hn : ¬ P g) : Blk w' g t cs := (hg.block g h.lt hn).trans h
theorem OwnW.growIn {E : TypeId} {B : Nat} {v : Value} {l : List Int} (h : OwnW E B w v l) (hg : GrownIn w w' P) (hn : ∀ k, v.ownBlock = some k → ¬ P k) : OwnW E B w' v l := by
  refine ⟨h.1, ?_⟩
  rcases h.2 with h1 | ⟨g, cap, cur, rfl, hBg, hh, r⟩
  · exact .inl h1
  · refine .inr ⟨g, cap, cur, rfl, hBg, ?_, r⟩
    rw [hg.block g (Array.getElem?_eq_some_iff.1 hh).1 (hn g rfl)]
    exact hh
theorem Below.growIn {B : Nat} {a : World} (h : Below B a w) (hg : GrownIn w w' P) (hB : B ≤ w.heap.size) (hn : ∀ k, P k → B ≤ k) : Below B a w' :=
  ⟨hg.os.trans h.os, hg.tape.trans h.tape, hg.output.trans h.output, Nat.le_trans h.size hg.size, fun b hb => (hg.block b (by omega) (fun hp => by have := hn b hp; omega)).trans (h.block b hb)⟩
end
end Go.G5
namespace Go.Proofs.Ytmlpcohailjccaa
open Go.RowKit Go.G5

set_option maxHeartbeats 2000000 in
set_option maxRecDepth 100000 in
theorem markClaim_c (w : World) (k n1 : Int) (v1 : Value) (l1 : List Int) (B1 : Nat) (o1 : OwnW 3 B1 w v1 l1) (n2 : Int) (v2 : Value) (l2 : List Int) (B2 : Nat) (o2 : OwnW 3 B2 w v2 l2) (n3 : Int) (v3 : Value) (l3 : List Int) (B3 : Nat) (o3 : OwnW 3 B3 w v3 l3) (q st : Int) (v4 : Value) (l4 : List Int) (B4 : Nat) (o4 : OwnW 3 B4 w v4 l4) (a12 : Apart v1 v2) (a13 : Apart v1 v3) (a14 : Apart v1 v4) (a23 : Apart v2 v3) (a24 : Apart v2 v4) (a34 : Apart v3 v4) (k0 : Int) (h0 : 0 ≤ k0) (h1 : k0 ≤ 1048576) (hl1 : l1.length ≤ 1048576) (hl2 : l2.length ≤ 1048576) (hl3 : l3.length ≤ 1048576) (hl4 : l4.length ≤ 1048576) :
    Calls Try.prog 15 #[.agg #[.int .i64 k, .int .i64 n1, v1, .int .i64 n2, v2, .int .i64 n3, v3, .int .i64 q, .int .i64 st, v4], .int .i64 k0] w fun e w' => e = .returned (.int .i64 (k0 + l1.length + l2.length + l3.length + l4.length)) ∧ OwnW 3 B1 w' v1 (ramp k0 l1.length) ∧ OwnW 3 B2 w' v2 (ramp (k0 + l1.length) l2.length) ∧ OwnW 3 B3 w' v3 (ramp (k0 + l1.length + l2.length) l3.length) ∧ OwnW 3 B4 w' v4 (ramp (k0 + l1.length + l2.length + l3.length) l4.length) ∧ GrownIn w w' (fun k => v1.ownBlock = some k ∨ v2.ownBlock = some k ∨ v3.ownBlock = some k ∨ v4.ownBlock = some k) := by
  obtain ⟨p1, c1, rfl⟩ := o1.shape
  obtain ⟨p2, c2, rfl⟩ := o2.shape
  obtain ⟨p3, c3, rfl⟩ := o3.shape
  obtain ⟨p4, c4, rfl⟩ := o4.shape
  have r1 := o1.lt
  have r2 := o2.lt
  have r3 := o3.lt
  have r4 := o4.lt
  go_enter Try.func15, Try.ntmps15
  go_wp2_with fail
  refine calls_named ?_
  intro V hV
  have g : GrownIn w V (fun k => (Value.slice p1 l1.length c1).ownBlock = some k ∨ (Value.slice p2 l2.length c2).ownBlock = some k ∨ (Value.slice p3 l3.length c3).ownBlock = some k ∨ (Value.slice p4 l4.length c4).ownBlock = some k) := by rw [hV]; exact GrownIn.of_below (bl1 w _)
  have K : Blk V w.heap.size 30 #[.int .i64 k, .int .i64 n1, .slice p1 l1.length c1, .int .i64 n2, .slice p2 l2.length c2, .int .i64 n3, .slice p3 l3.length c3, .int .i64 q, .int .i64 st, .slice p4 l4.length c4] := by rw [hV]; exact Blk.new _ _ _
  have o1 : OwnW 3 B1 V (.slice p1 l1.length c1) l1 := by rw [hV]; exact o1.alloc _
  have o2 : OwnW 3 B2 V (.slice p2 l2.length c2) l2 := by rw [hV]; exact o2.alloc _
  have o3 : OwnW 3 B3 V (.slice p3 l3.length c3) l3 := by rw [hV]; exact o3.alloc _
  have o4 : OwnW 3 B4 V (.slice p4 l4.length c4) l4 := by rw [hV]; exact o4.alloc _
  clear hV
  refine (markFunction_any _ _ _ l1 _ o1 k0 (by omega) (by omega) (by omega)).mono ?_
  rintro e W1 ⟨rfl, o1x, hg⟩
  have o2 := o2.grow hg a12
  have o3 := o3.grow hg a13
  have o4 := o4.grow hg a14
  have o1 := o1x
  have K := K.grow hg (by intro hk; have := (r1 _ hk).2; omega)
  have g := g.trans (GrownIn.of_row hg (fun k hk => .inl hk))
  have G := K.cell
  clear hg
  go_wp2_with fail
  clear G
  refine (markFunction_any _ _ _ l2 _ o2 (k0 + l1.length) (by omega) (by omega) (by omega)).mono ?_
  rintro e W2 ⟨rfl, o2x, hg⟩
  have o1 := o1.grow hg a12.symm
  have o3 := o3.grow hg a23
  have o4 := o4.grow hg a24
  have o2 := o2x
  have K := K.grow hg (by intro hk; have := (r2 _ hk).2; omega)
  have g := g.trans (GrownIn.of_row hg (fun k hk => .inr (.inl hk)))
  have G := K.cell
  clear hg
  go_wp2_with fail
  clear G
  refine (markFamily_any _ _ _ l3 _ o3 (k0 + l1.length + l2.length) (by omega) (by omega) (by omega)).mono ?_
  rintro e W3 ⟨rfl, o3x, hg⟩
  have o1 := o1.grow hg a13.symm
  have o2 := o2.grow hg a23.symm
  have o4 := o4.grow hg a34
  have o3 := o3x
  have K := K.grow hg (by intro hk; have := (r3 _ hk).2; omega)
  have g := g.trans (GrownIn.of_row hg (fun k hk => .inr (.inr (.inl hk))))
  have G := K.cell
  clear hg
  go_wp2_with fail
  clear G
  refine (markIntS_any _ _ l4 _ o4 (k0 + l1.length + l2.length + l3.length) (by omega) (by omega) (by omega)).mono ?_
  rintro e W4 ⟨rfl, o4x, hg⟩
  have o1 := o1.grow hg a14.symm
  have o2 := o2.grow hg a24.symm
  have o3 := o3.grow hg a34.symm
  have o4 := o4x
  have K := K.grow hg (by intro hk; have := (r4 _ hk).2; omega)
  have g := g.trans (GrownIn.of_row hg (fun k hk => .inr (.inr (.inr hk))))
  have G := K.cell
  clear hg
  go_wp2
  go_ret
  exact ⟨rfl, o1, o2, o3, o4, g⟩

set_option maxHeartbeats 2000000 in
set_option maxRecDepth 100000 in
theorem heldClaim_c (w : World) (k n1 : Int) (v1 : Value) (m1 : Nat) (n2 : Int) (v2 : Value) (m2 : Nat) (n3 : Int) (v3 : Value) (m3 : Nat) (q st : Int) (v4 : Value) (m4 : Nat) (k0 : Int) (i1 : Ints w v1 (ramp k0 m1)) (i2 : Ints w v2 (ramp (k0 + m1) m2)) (i3 : Ints w v3 (ramp (k0 + m1 + m2) m3)) (i4 : Ints w v4 (ramp (k0 + m1 + m2 + m3) m4)) (h0 : 0 ≤ k0) (h1 : k0 ≤ 1048576) (hl1 : m1 ≤ 1048576) (hl2 : m2 ≤ 1048576) (hl3 : m3 ≤ 1048576) (hl4 : m4 ≤ 1048576) :
    Calls Try.prog 16 #[.agg #[.int .i64 k, .int .i64 n1, v1, .int .i64 n2, v2, .int .i64 n3, v3, .int .i64 q, .int .i64 st, v4], .int .i64 k0] w fun e w' => e = .returned (.int .i64 (k0 + m1 + m2 + m3 + m4)) ∧ Below w.heap.size w w' := by
  obtain ⟨p1, c1, rfl⟩ := i1.shape
  obtain ⟨p2, c2, rfl⟩ := i2.shape
  obtain ⟨p3, c3, rfl⟩ := i3.shape
  obtain ⟨p4, c4, rfl⟩ := i4.shape
  go_enter Try.func16, Try.ntmps16
  go_wp2_with fail
  refine calls_named ?_
  intro V hV
  have B : Below w.heap.size w V := by rw [hV]; exact bl1 w _
  have K : Blk V w.heap.size 30 #[.int .i64 k, .int .i64 n1, .slice p1 (ramp k0 m1).length c1, .int .i64 n2, .slice p2 (ramp (k0 + m1) m2).length c2, .int .i64 n3, .slice p3 (ramp (k0 + m1 + m2) m3).length c3, .int .i64 q, .int .i64 st, .slice p4 (ramp (k0 + m1 + m2 + m3) m4).length c4] := by rw [hV]; exact Blk.new _ _ _
  clear hV
  refine (heldFunction_any _ _ _ k0 m1 (i1.below B (Nat.le_refl _)) (by omega) (by omega) (by omega)).mono ?_
  rintro e W1 ⟨rfl, hb⟩
  have B := B.after hb B.size
  have K := K.keep hb
  have G := K.cell
  clear hb
  go_wp2_with fail
  clear G
  refine (heldFunction_any _ _ _ (k0 + m1) m2 (i2.below B (Nat.le_refl _)) (by omega) (by omega) (by omega)).mono ?_
  rintro e W2 ⟨rfl, hb⟩
  have B := B.after hb B.size
  have K := K.keep hb
  have G := K.cell
  clear hb
  go_wp2_with fail
  clear G
  refine (heldFamily_any _ _ _ (k0 + m1 + m2) m3 (i3.below B (Nat.le_refl _)) (by omega) (by omega) (by omega)).mono ?_
  rintro e W3 ⟨rfl, hb⟩
  have B := B.after hb B.size
  have K := K.keep hb
  have G := K.cell
  clear hb
  go_wp2_with fail
  clear G
  refine (heldIntS_any _ _ (k0 + m1 + m2 + m3) m4 (i4.below B (Nat.le_refl _)) (by omega) (by omega) (by omega)).mono ?_
  rintro e W4 ⟨rfl, hb⟩
  have B := B.after hb B.size
  have K := K.keep hb
  have G := K.cell
  clear hb
  go_wp2
  go_ret
  exact ⟨rfl, B⟩
end Go.Proofs.Ytmlpcohailjccaa
