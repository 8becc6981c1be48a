/- Claims: the laws' own copies, sizes and equalities. -/
import Derived.Test.YtmlpcohailjccaaTo
import Derived.Test.YtmlpcohailjccaaEq
import Derived.Test.YtmlpcohailjccaaBlk
namespace Go.Proofs.Ytmlpcohailjccaa
open Go.RowKit Go.G5

/-- a claim's value -/
@[reducible] def clV (k n1 : Int) (v1 : Value) (n2 : Int) (v2 : Value) (n3 : Int) (v3 : Value) (q st : Int) (v4 : Value) : Value :=
  .agg #[.int .i64 k, .int .i64 n1, v1, .int .i64 n2, v2, .int .i64 n3, v3, .int .i64 q, .int .i64 st, v4]
@[reducible] def clC (k n1 : Int) (v1 : Value) (n2 : Int) (v2 : Value) (n3 : Int) (v3 : Value) (q st : Int) (v4 : Value) : Array Value :=
  #[.int .i64 k, .int .i64 n1, v1, .int .i64 n2, v2, .int .i64 n3, v3, .int .i64 q, .int .i64 st, v4]

set_option maxHeartbeats 1000000 in
set_option maxRecDepth 100000 in
theorem eqClaim_c (w : World) (k n1 : Int) (v1 : Value) (l1 : List Int) (h1 : Ints w v1 l1) (n2 : Int) (v2 : Value) (l2 : List Int) (h2 : Ints w v2 l2) (n3 : Int) (v3 : Value) (l3 : List Int) (h3 : Ints w v3 l3) (q st : Int) (v4 : Value) (l4 : List Int) (h4 : Ints w v4 l4)
    (v1' : Value) (h1' : Ints w v1' l1) (v2' : Value) (h2' : Ints w v2' l2) (v3' : Value) (h3' : Ints w v3' l3) (v4' : Value) (h4' : Ints w v4' l4) :
    Calls Try.prog 12 #[clV k n1 v1 n2 v2 n3 v3 q st v4, clV k n1 v1' n2 v2' n3 v3' q st v4'] w fun e w' => e = .returned (.bool true) ∧ Below w.heap.size w w' := by
  obtain ⟨a1, c1, rfl⟩ := h1.shape
  obtain ⟨a2, c2, rfl⟩ := h2.shape
  obtain ⟨a3, c3, rfl⟩ := h3.shape
  obtain ⟨a4, c4, rfl⟩ := h4.shape
  obtain ⟨a1', c1', rfl⟩ := h1'.shape
  obtain ⟨a2', c2', rfl⟩ := h2'.shape
  obtain ⟨a3', c3', rfl⟩ := h3'.shape
  obtain ⟨a4', c4', rfl⟩ := h4'.shape
  go_enter Try.func12, Try.ntmps12
  go_wp2_with fail
  refine calls_named ?_
  intro W0 hW0
  have B0 : Below w.heap.size w W0 := by rw [hW0]; exact bl2 _ _ _
  have K1 : Blk W0 w.heap.size 30 (clC k n1 (.slice a1 l1.length c1) n2 (.slice a2 l2.length c2) n3 (.slice a3 l3.length c3) q st (.slice a4 l4.length c4)) := by rw [hW0]; exact (Blk.new _ _ _).alloc _
  have K2 : Blk W0 (w.heap.size + 1) 30 (clC k n1 (.slice a1' l1.length c1') n2 (.slice a2' l2.length c2') n3 (.slice a3' l3.length c3') q st (.slice a4' l4.length c4')) := by rw [hW0]; have := Blk.new (w.alloc (.cells (clC k n1 (.slice a1 l1.length c1) n2 (.slice a2 l2.length c2) n3 (.slice a3 l3.length c3) q st (.slice a4 l4.length c4)) 30)) 30 (clC k n1 (.slice a1' l1.length c1') n2 (.slice a2' l2.length c2') n3 (.slice a3' l3.length c3') q st (.slice a4' l4.length c4')); simpa using this
  clear hW0
  refine (eqFunction_any n1 n1 _ _ l1 l1 _ (h1.below B0 (Nat.le_refl _)) (h1'.below B0 (Nat.le_refl _))).mono ?_
  rintro e W1 ⟨rfl, hb⟩
  simp only [decide_true, Bool.and_self]
  have B1 := B0.after hb B0.size
  have K1 := K1.keep hb
  have K2 := K2.keep hb
  have G1 := K1.cell
  have G2 := K2.cell
  clear hb
  go_wp2_with fail
  clear G1 G2
  refine (eqFunction_any n2 n2 _ _ l2 l2 _ (h2.below B1 (Nat.le_refl _)) (h2'.below B1 (Nat.le_refl _))).mono ?_
  rintro e W2 ⟨rfl, hb⟩
  simp only [decide_true, Bool.and_self]
  have B2 := B1.after hb B1.size
  have K1 := K1.keep hb
  have K2 := K2.keep hb
  have G1 := K1.cell
  have G2 := K2.cell
  clear hb
  go_wp2_with fail
  clear G1 G2
  refine (eqFamily_any n3 n3 _ _ l3 l3 _ (h3.below B2 (Nat.le_refl _)) (h3'.below B2 (Nat.le_refl _))).mono ?_
  rintro e W3 ⟨rfl, hb⟩
  simp only [decide_true, Bool.and_self]
  have B3 := B2.after hb B2.size
  have K1 := K1.keep hb
  have K2 := K2.keep hb
  have G1 := K1.cell
  have G2 := K2.cell
  clear hb
  go_wp2_with fail
  clear G1 G2
  refine (eqIntS_any _ _ l4 l4 _ (h4.below B3 (Nat.le_refl _)) (h4'.below B3 (Nat.le_refl _))).mono ?_
  rintro e W9 ⟨rfl, nq, rfl⟩
  simp only [decide_true]
  go_wp2
  go_ret
  exact ⟨rfl, B3.drewN' _⟩

end Go.Proofs.Ytmlpcohailjccaa
