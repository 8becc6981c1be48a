/- Claims: the laws' own copies, sizes and equalities. -/
import Derived.Test.YtelmokapdkepbaaGreatQ04
section
namespace Go.Proofs.YtelmokapdkepbaaGreat
open Go.RowKit Go.G5

/-- a claim's value -/
@[reducible] def clV (k n1 : Int) (v1 : Value) (n2 : Int) (v2 : Value) (n3 : Int) (v3 : Value) (q st : Int) (v4 : Value) : Value :=
  .agg #[.int .i64 k, .int .i64 n1, v1, .int .i64 n2, v2, .int .i64 n3, v3, .int .i64 q, .int .i64 st, v4]
@[reducible] def clC (k n1 : Int) (v1 : Value) (n2 : Int) (v2 : Value) (n3 : Int) (v3 : Value) (q st : Int) (v4 : Value) : Array Value :=
  #[.int .i64 k, .int .i64 n1, v1, .int .i64 n2, v2, .int .i64 n3, v3, .int .i64 q, .int .i64 st, v4]

set_option maxHeartbeats 1000000 in
set_option maxRecDepth 100000 in
theorem eqClaim_c (w : World) (k n1 : Int) (v1 : Value) (l1 : List Int) (h1 : Ints w v1 l1) (n2 : Int) (v2 : Value) (l2 : List Int) (h2 : Ints w v2 l2) (n3 : Int) (v3 : Value) (l3 : List Int) (h3 : Ints w v3 l3) (q st : Int) (v4 : Value) (l4 : List Int) (h4 : Ints w v4 l4)
    (v1' : Value) (h1' : Ints w v1' l1) (v2' : Value) (h2' : Ints w v2' l2) (v3' : Value) (h3' : Ints w v3' l3) (v4' : Value) (h4' : Ints w v4' l4) :
    Calls Tryz.prog 8 #[clV k n1 v1 n2 v2 n3 v3 q st v4, clV k n1 v1' n2 v2' n3 v3' q st v4'] w fun e w' => e = .returned (.bool true) ∧ Below w.heap.size w w' := by
  obtain ⟨a1, c1, rfl⟩ := h1.shape
  obtain ⟨a2, c2, rfl⟩ := h2.shape
  obtain ⟨a3, c3, rfl⟩ := h3.shape
  obtain ⟨a4, c4, rfl⟩ := h4.shape
  obtain ⟨a1', c1', rfl⟩ := h1'.shape
  obtain ⟨a2', c2', rfl⟩ := h2'.shape
  obtain ⟨a3', c3', rfl⟩ := h3'.shape
  obtain ⟨a4', c4', rfl⟩ := h4'.shape
  go_enter Tryz.func8, Tryz.ntmps8
  go_wp2_with fail
  refine calls_named ?_
  intro W0 hW0
  have B0 : Below w.heap.size w W0 := by rw [hW0]; exact bl2 _ _ _
  have K1 : Blk W0 w.heap.size 34 (clC k n1 (.slice a1 l1.length c1) n2 (.slice a2 l2.length c2) n3 (.slice a3 l3.length c3) q st (.slice a4 l4.length c4)) := by rw [hW0]; exact (Blk.new _ _ _).alloc _
  have K2 : Blk W0 (w.heap.size + 1) 34 (clC k n1 (.slice a1' l1.length c1') n2 (.slice a2' l2.length c2') n3 (.slice a3' l3.length c3') q st (.slice a4' l4.length c4')) := by rw [hW0]; have := Blk.new (w.alloc (.cells (clC k n1 (.slice a1 l1.length c1) n2 (.slice a2 l2.length c2) n3 (.slice a3 l3.length c3) q st (.slice a4 l4.length c4)) 34)) 34 (clC k n1 (.slice a1' l1.length c1') n2 (.slice a2' l2.length c2') n3 (.slice a3' l3.length c3') q st (.slice a4' l4.length c4')); simpa using this
  clear hW0
  refine (eqFunction_any n1 n1 _ _ l1 l1 _ (h1.below B0 (Nat.le_refl _)) (h1'.below B0 (Nat.le_refl _))).mono ?_
  rintro e W1 ⟨rfl, hb⟩
  simp only [decide_true, Bool.and_self]
  have B1 := B0.after hb B0.size
  have K1 := K1.keep hb
  have K2 := K2.keep hb
  have G1 := K1.cell
  have G2 := K2.cell
  clear hb
  go_wp2_with fail
  clear G1 G2
  refine (eqFunction_any n2 n2 _ _ l2 l2 _ (h2.below B1 (Nat.le_refl _)) (h2'.below B1 (Nat.le_refl _))).mono ?_
  rintro e W2 ⟨rfl, hb⟩
  simp only [decide_true, Bool.and_self]
  have B2 := B1.after hb B1.size
  have K1 := K1.keep hb
  have K2 := K2.keep hb
  have G1 := K1.cell
  have G2 := K2.cell
  clear hb
  go_wp2_with fail
  clear G1 G2
  refine (eqFamily_any n3 n3 _ _ l3 l3 _ (h3.below B2 (Nat.le_refl _)) (h3'.below B2 (Nat.le_refl _))).mono ?_
  rintro e W3 ⟨rfl, hb⟩
  simp only [decide_true, Bool.and_self]
  have B3 := B2.after hb B2.size
  have K1 := K1.keep hb
  have K2 := K2.keep hb
  have G1 := K1.cell
  have G2 := K2.cell
  clear hb
  go_wp2_with fail
  clear G1 G2
  refine (eqIntS_any _ _ l4 l4 _ (h4.below B3 (Nat.le_refl _)) (h4'.below B3 (Nat.le_refl _))).mono ?_
  rintro e W9 ⟨rfl, nq, rfl⟩
  simp only [decide_true]
  go_wp2
  go_ret
  exact ⟨rfl, B3.drewN' _⟩

set_option maxHeartbeats 1000000 in
set_option maxRecDepth 100000 in
theorem szClaim_c (left : Int) (g0 : 0 ≤ left) (g1 : left ≤ 1048576) (w : World) (k n1 : Int) (v1 : Value) (l1 : List Int) (h1 : Ints w v1 l1) (n2 : Int) (v2 : Value) (l2 : List Int) (h2 : Ints w v2 l2) (n3 : Int) (v3 : Value) (l3 : List Int) (h3 : Ints w v3 l3) (q st : Int) (v4 : Value) (l4 : List Int) (h4 : Ints w v4 l4) :
    Calls Tryz.prog 4 #[clV k n1 v1 n2 v2 n3 v3 q st v4, .int .i64 left] w fun e w' => (∃ r, e = .returned (.int .i64 r) ∧ (r < 0 ∨ (0 ≤ r ∧ r ≤ left ∧ l1.length ≤ left ∧ l2.length ≤ left ∧ l3.length ≤ left ∧ l4.length ≤ left))) ∧ Below w.heap.size w w' := by
  obtain ⟨a1, c1, rfl⟩ := h1.shape
  obtain ⟨a2, c2, rfl⟩ := h2.shape
  obtain ⟨a3, c3, rfl⟩ := h3.shape
  obtain ⟨a4, c4, rfl⟩ := h4.shape
  go_enter Tryz.func4, Tryz.ntmps4
  go_wp2_with fail
  refine calls_named ?_
  intro W0 hW0
  have B0 : Below w.heap.size w W0 := by rw [hW0]; exact bl1 _ _
  have K1 : Blk W0 w.heap.size 28 (clC k n1 (.slice a1 l1.length c1) n2 (.slice a2 l2.length c2) n3 (.slice a3 l3.length c3) q st (.slice a4 l4.length c4)) := by rw [hW0]; exact Blk.new _ _ _
  clear hW0
  refine (szFunction_c n1 _ l1 left _ (h1.below B0 (Nat.le_refl _)) (by omega) (by omega)).mono ?_
  rintro e W1 ⟨⟨r1, rfl, hr⟩, hb⟩
  have B1 := B0.after hb B0.size
  have K1 := K1.keep hb
  have G1 := K1.cell
  clear hb
  rcases hr with hr | ⟨r1a, r1b, r1c⟩
  · go_wp2
    go_ret
    exact ⟨⟨_, rfl, .inl (by omega)⟩, B1⟩
  go_wp2_with fail
  clear G1
  refine (szFunction_c n2 _ l2 r1 _ (h2.below B1 (Nat.le_refl _)) (by omega) (by omega)).mono ?_
  rintro e W2 ⟨⟨r2, rfl, hr⟩, hb⟩
  have B2 := B1.after hb B1.size
  have K1 := K1.keep hb
  have G1 := K1.cell
  clear hb
  rcases hr with hr | ⟨r2a, r2b, r2c⟩
  · go_wp2
    go_ret
    exact ⟨⟨_, rfl, .inl (by omega)⟩, B2⟩
  go_wp2_with fail
  clear G1
  refine (szFamily_c n3 _ l3 r2 _ (h3.below B2 (Nat.le_refl _)) (by omega) (by omega)).mono ?_
  rintro e W3 ⟨⟨r3, rfl, hr⟩, hb⟩
  have B3 := B2.after hb B2.size
  have K1 := K1.keep hb
  have G1 := K1.cell
  clear hb
  rcases hr with hr | ⟨r3a, r3b, r3c⟩
  · go_wp2
    go_ret
    exact ⟨⟨_, rfl, .inl (by omega)⟩, B3⟩
  go_wp2_with fail
  clear G1
  refine (szIntS_any _ l4 r3 _ (h4.below B3 (Nat.le_refl _)) (by omega) (by omega)).mono ?_
  rintro e W4 ⟨rfl, rfl⟩
  have hx : szL r3 l4.length < 0 ∨ (0 ≤ szL r3 l4.length ∧ szL r3 l4.length ≤ r3 ∧ (l4.length : Int) ≤ r3) := by unfold szL; split <;> omega
  obtain ⟨y, hy⟩ : ∃ y, y = szL r3 l4.length := ⟨_, rfl⟩
  rw [← hy] at hx ⊢
  clear hy
  rcases hx with hx | ⟨x1, x2, x3⟩
  · go_wp2
    go_ret
    exact ⟨⟨_, rfl, .inl (by omega)⟩, B3⟩
  · go_wp2
    go_ret
    exact ⟨⟨_, rfl, .inr ⟨x1, by omega, by omega, by omega, by omega, by omega⟩⟩, B3⟩

set_option maxHeartbeats 2000000 in
set_option maxRecDepth 100000 in
theorem toClaim_c (w : World) (k n1 : Int) (v1 : Value) (l1 : List Int) (h1 : Ints w v1 l1) (hl1 : l1.length ≤ 1048576) (n2 : Int) (v2 : Value) (l2 : List Int) (h2 : Ints w v2 l2) (hl2 : l2.length ≤ 1048576) (n3 : Int) (v3 : Value) (l3 : List Int) (h3 : Ints w v3 l3) (hl3 : l3.length ≤ 1048576) (q st : Int) (v4 : Value) (l4 : List Int) (h4 : Ints w v4 l4) (hl4 : l4.length ≤ 1048576) :
    Calls Tryz.prog 6 #[clV k n1 v1 n2 v2 n3 v3 q st v4] w fun e w' => ∃ p1 i1 q1 p2 i2 q2 p3 i3 q3 p4 i4 q4, e = .returned (clV k n1 (.slice p1 i1 q1) n2 (.slice p2 i2 q2) n3 (.slice p3 i3 q3) q st (.slice p4 i4 q4)) ∧
      OwnI 3 w.heap.size w' (.slice p1 i1 q1) l1 ∧ OwnI 3 w.heap.size w' (.slice p2 i2 q2) l2 ∧ OwnI 3 w.heap.size w' (.slice p3 i3 q3) l3 ∧ OwnI 3 w.heap.size w' (.slice p4 i4 q4) l4 ∧ Below w.heap.size w w' := by
  obtain ⟨a1, c1, rfl⟩ := h1.shape
  obtain ⟨a2, c2, rfl⟩ := h2.shape
  obtain ⟨a3, c3, rfl⟩ := h3.shape
  obtain ⟨a4, c4, rfl⟩ := h4.shape
  go_enter Tryz.func6, Tryz.ntmps6
  go_wp2_with fail
  refine calls_named ?_
  intro V0 hV0
  have B0 : Below w.heap.size w V0 := by rw [hV0]; exact (by repeat (first | exact Below.refl _ _ | (with_reducible refine Below.setCell ?_ (by first | omega | (simp; done) | (simp; omega)) _) | (with_reducible refine Below.alloc ?_ (by first | omega | (simp; done) | (simp; omega)) _) | (with_reducible refine Below.drewN' ?_ _) | (with_reducible refine Below.drew ?_) | (with_reducible assumption) | refine Below.trans ?_ (Below.mono (by assumption) (by first | omega | (simp; done) | (simp; omega)))))
  have K1 : Blk V0 w.heap.size 28 (clC k n1 (.slice a1 l1.length c1) n2 (.slice a2 l2.length c2) n3 (.slice a3 l3.length c3) q st (.slice a4 l4.length c4)) := by rw [hV0]; exact ((Blk.new _ _ _).alloc _).alloc _
  have K2 : Blk V0 (w.heap.size + 1) 34 (clC 0 0 (.slice none 0 0) 0 (.slice none 0 0) 0 (.slice none 0 0) 0 0 (.slice none 0 0)) := by
    rw [hV0]
    have := (Blk.new (w.alloc (.cells (clC k n1 (.slice a1 l1.length c1) n2 (.slice a2 l2.length c2) n3 (.slice a3 l3.length c3) q st (.slice a4 l4.length c4)) 28)) 34 (clC 0 0 (.slice none 0 0) 0 (.slice none 0 0) 0 (.slice none 0 0) 0 0 (.slice none 0 0))).alloc (.cells (clC k 0 (.slice none 0 0) 0 (.slice none 0 0) 0 (.slice none 0 0) 0 0 (.slice none 0 0)) 34)
    simpa using this
  have K3 : Blk V0 (w.heap.size + 1 + 1) 34 (clC k 0 (.slice none 0 0) 0 (.slice none 0 0) 0 (.slice none 0 0) 0 0 (.slice none 0 0)) := by
    rw [hV0]
    have := Blk.new ((w.alloc (.cells (clC k n1 (.slice a1 l1.length c1) n2 (.slice a2 l2.length c2) n3 (.slice a3 l3.length c3) q st (.slice a4 l4.length c4)) 28)).alloc (.cells (clC 0 0 (.slice none 0 0) 0 (.slice none 0 0) 0 (.slice none 0 0) 0 0 (.slice none 0 0)) 34)) 34 (clC k 0 (.slice none 0 0) 0 (.slice none 0 0) 0 (.slice none 0 0) 0 0 (.slice none 0 0))
    simpa using this
  clear hV0
  have zv1 := K3.lt
  refine (toFunction_any n1 _ l1 _ (h1.below B0 (Nat.le_refl _)) hl1).mono ?_
  rintro e W1 ⟨p1, i1, q1, rfl, o1, hb⟩
  have BW := B0.after hb B0.size
  have zs1 := hb.size
  have K1 := K1.keep hb
  have K2 := K2.keep hb
  have K3 := K3.keep hb
  have G1 := K1.cell
  have G3 := K3.cell
  have F3 := K3.frozen
  clear hb
  go_wp2_with fail
  clear G1 G3 F3
  refine calls_named ?_
  intro V1 hV1
  have B1 : Below w.heap.size w V1 := by rw [hV1]; exact (by repeat (first | exact Below.refl _ _ | (with_reducible refine Below.setCell ?_ (by first | omega | (simp; done) | (simp; omega)) _) | (with_reducible refine Below.alloc ?_ (by first | omega | (simp; done) | (simp; omega)) _) | (with_reducible refine Below.drewN' ?_ _) | (with_reducible refine Below.drew ?_) | (with_reducible assumption) | refine Below.trans ?_ (Below.mono (by assumption) (by first | omega | (simp; done) | (simp; omega)))))
  have K1 : Blk V1 w.heap.size 28 (clC k n1 (.slice a1 l1.length c1) n2 (.slice a2 l2.length c2) n3 (.slice a3 l3.length c3) q st (.slice a4 l4.length c4)) := by rw [hV1]; exact ((K1.far (by first | omega | (simp; done) | (simp; omega)) _).far (by first | omega | (simp; done) | (simp; omega)) _)
  have K2 : Blk V1 (w.heap.size + 1) 34 (clC 0 0 (.slice none 0 0) 0 (.slice none 0 0) 0 (.slice none 0 0) 0 0 (.slice none 0 0)) := by rw [hV1]; exact ((K2.far (by first | omega | (simp; done) | (simp; omega)) _).far (by first | omega | (simp; done) | (simp; omega)) _)
  have K3 : Blk V1 (w.heap.size + 1 + 1) 34 (clC k n1 (.slice p1 i1 q1) 0 (.slice none 0 0) 0 (.slice none 0 0) 0 0 (.slice none 0 0)) := by rw [hV1]; have := ((K3.set 1 (.int .i64 n1)).set 2 (.slice p1 i1 q1)); simpa using this
  have o1 : OwnI 3 V0.heap.size V1 (.slice p1 i1 q1) l1 := by rw [hV1]; exact ((o1.setBelow (by first | omega | (simp; done) | (simp; omega)) _).setBelow (by first | omega | (simp; done) | (simp; omega)) _)
  clear hV1 BW
  have zv2 := K3.lt
  refine (toFunction_any n2 _ l2 _ (h2.below B1 (Nat.le_refl _)) hl2).mono ?_
  rintro e W2 ⟨p2, i2, q2, rfl, o2, hb⟩
  have BW := B1.after hb B1.size
  have zs2 := hb.size
  have K1 := K1.keep hb
  have K2 := K2.keep hb
  have K3 := K3.keep hb
  have o1 := o1.keep hb
  have G1 := K1.cell
  have G3 := K3.cell
  have F3 := K3.frozen
  clear hb
  go_wp2_with fail
  clear G1 G3 F3
  refine calls_named ?_
  intro V2 hV2
  have B2 : Below w.heap.size w V2 := by rw [hV2]; exact (by repeat (first | exact Below.refl _ _ | (with_reducible refine Below.setCell ?_ (by first | omega | (simp; done) | (simp; omega)) _) | (with_reducible refine Below.alloc ?_ (by first | omega | (simp; done) | (simp; omega)) _) | (with_reducible refine Below.drewN' ?_ _) | (with_reducible refine Below.drew ?_) | (with_reducible assumption) | refine Below.trans ?_ (Below.mono (by assumption) (by first | omega | (simp; done) | (simp; omega)))))
  have K1 : Blk V2 w.heap.size 28 (clC k n1 (.slice a1 l1.length c1) n2 (.slice a2 l2.length c2) n3 (.slice a3 l3.length c3) q st (.slice a4 l4.length c4)) := by rw [hV2]; exact ((K1.far (by first | omega | (simp; done) | (simp; omega)) _).far (by first | omega | (simp; done) | (simp; omega)) _)
  have K2 : Blk V2 (w.heap.size + 1) 34 (clC 0 0 (.slice none 0 0) 0 (.slice none 0 0) 0 (.slice none 0 0) 0 0 (.slice none 0 0)) := by rw [hV2]; exact ((K2.far (by first | omega | (simp; done) | (simp; omega)) _).far (by first | omega | (simp; done) | (simp; omega)) _)
  have K3 : Blk V2 (w.heap.size + 1 + 1) 34 (clC k n1 (.slice p1 i1 q1) n2 (.slice p2 i2 q2) 0 (.slice none 0 0) 0 0 (.slice none 0 0)) := by rw [hV2]; have := ((K3.set 3 (.int .i64 n2)).set 4 (.slice p2 i2 q2)); simpa using this
  have o1 : OwnI 3 V0.heap.size V2 (.slice p1 i1 q1) l1 := by rw [hV2]; exact ((o1.setBelow (by first | omega | (simp; done) | (simp; omega)) _).setBelow (by first | omega | (simp; done) | (simp; omega)) _)
  have o2 : OwnI 3 V1.heap.size V2 (.slice p2 i2 q2) l2 := by rw [hV2]; exact ((o2.setBelow (by first | omega | (simp; done) | (simp; omega)) _).setBelow (by first | omega | (simp; done) | (simp; omega)) _)
  clear hV2 BW
  have zv3 := K3.lt
  refine (toFamily_any n3 _ l3 _ (h3.below B2 (Nat.le_refl _)) hl3).mono ?_
  rintro e W3 ⟨p3, i3, q3, rfl, o3, hb⟩
  have BW := B2.after hb B2.size
  have zs3 := hb.size
  have K1 := K1.keep hb
  have K2 := K2.keep hb
  have K3 := K3.keep hb
  have o1 := o1.keep hb
  have o2 := o2.keep hb
  have G1 := K1.cell
  have G3 := K3.cell
  have F3 := K3.frozen
  clear hb
  go_wp2_with fail
  clear G1 G3 F3
  refine calls_named ?_
  intro V3 hV3
  have B3 : Below w.heap.size w V3 := by rw [hV3]; exact (by repeat (first | exact Below.refl _ _ | (with_reducible refine Below.setCell ?_ (by first | omega | (simp; done) | (simp; omega)) _) | (with_reducible refine Below.alloc ?_ (by first | omega | (simp; done) | (simp; omega)) _) | (with_reducible refine Below.drewN' ?_ _) | (with_reducible refine Below.drew ?_) | (with_reducible assumption) | refine Below.trans ?_ (Below.mono (by assumption) (by first | omega | (simp; done) | (simp; omega)))))
  have K1 : Blk V3 w.heap.size 28 (clC k n1 (.slice a1 l1.length c1) n2 (.slice a2 l2.length c2) n3 (.slice a3 l3.length c3) q st (.slice a4 l4.length c4)) := by rw [hV3]; exact ((((K1.far (by first | omega | (simp; done) | (simp; omega)) _).far (by first | omega | (simp; done) | (simp; omega)) _).far (by first | omega | (simp; done) | (simp; omega)) _).far (by first | omega | (simp; done) | (simp; omega)) _)
  have K2 : Blk V3 (w.heap.size + 1) 34 (clC 0 0 (.slice none 0 0) 0 (.slice none 0 0) 0 (.slice none 0 0) 0 0 (.slice none 0 0)) := by rw [hV3]; exact ((((K2.far (by first | omega | (simp; done) | (simp; omega)) _).far (by first | omega | (simp; done) | (simp; omega)) _).far (by first | omega | (simp; done) | (simp; omega)) _).far (by first | omega | (simp; done) | (simp; omega)) _)
  have K3 : Blk V3 (w.heap.size + 1 + 1) 34 (clC k n1 (.slice p1 i1 q1) n2 (.slice p2 i2 q2) n3 (.slice p3 i3 q3) q st (.slice none 0 0)) := by rw [hV3]; have := ((((K3.set 5 (.int .i64 n3)).set 6 (.slice p3 i3 q3)).set 7 (.int .i64 q)).set 8 (.int .i64 st)); simpa using this
  have o1 : OwnI 3 V0.heap.size V3 (.slice p1 i1 q1) l1 := by rw [hV3]; exact ((((o1.setBelow (by first | omega | (simp; done) | (simp; omega)) _).setBelow (by first | omega | (simp; done) | (simp; omega)) _).setBelow (by first | omega | (simp; done) | (simp; omega)) _).setBelow (by first | omega | (simp; done) | (simp; omega)) _)
  have o2 : OwnI 3 V1.heap.size V3 (.slice p2 i2 q2) l2 := by rw [hV3]; exact ((((o2.setBelow (by first | omega | (simp; done) | (simp; omega)) _).setBelow (by first | omega | (simp; done) | (simp; omega)) _).setBelow (by first | omega | (simp; done) | (simp; omega)) _).setBelow (by first | omega | (simp; done) | (simp; omega)) _)
  have o3 : OwnI 3 V2.heap.size V3 (.slice p3 i3 q3) l3 := by rw [hV3]; exact ((((o3.setBelow (by first | omega | (simp; done) | (simp; omega)) _).setBelow (by first | omega | (simp; done) | (simp; omega)) _).setBelow (by first | omega | (simp; done) | (simp; omega)) _).setBelow (by first | omega | (simp; done) | (simp; omega)) _)
  clear hV3 BW
  have zv4 := K3.lt
  refine (toIntS_any _ l4 _ (h4.below B3 (Nat.le_refl _)) hl4).mono ?_
  rintro e W4 ⟨p4, i4, q4, rfl, o4, hb⟩
  have B4 := B3.after hb B3.size
  have zs4 := hb.size
  have K2 := K2.keep hb
  have K3 := K3.keep hb
  have o1 := o1.keep hb
  have o2 := o2.keep hb
  have o3 := o3.keep hb
  have G2 := K2.cell
  have G3 := K3.cell
  have F2 := K2.frozen
  have F3 := K3.frozen
  have z2 := K2.lt
  have z3 := K3.lt
  have y0 := B0.size
  have y1 := B1.size
  have y2 := B2.size
  have y3 := B3.size
  clear hb K1 B0 B1 B2 B3
  go_wp2
  refine post_named ?_
  intro Wf hWf
  have K2f : Blk Wf (w.heap.size + 1) 34 (clC k n1 (.slice p1 i1 q1) n2 (.slice p2 i2 q2) n3 (.slice p3 i3 q3) q st (.slice p4 i4 q4)) := by
    rw [hWf]
    have := ((((((((((K2.far (p := ⟨w.heap.size + 1 + 1, 9, none⟩) (by first | omega | (simp; done) | (simp; omega)) (.slice p4 i4 q4)).set 0 (.int .i64 k)).set 1 (.int .i64 n1)).set 2 (.slice p1 i1 q1)).set 3 (.int .i64 n2)).set 4 (.slice p2 i2 q2)).set 5 (.int .i64 n3)).set 6 (.slice p3 i3 q3)).set 7 (.int .i64 q)).set 8 (.int .i64 st)).set 9 (.slice p4 i4 q4)
    simpa using this
  have Bf : Below w.heap.size w Wf := by
    rw [hWf]
    repeat (with_reducible refine Below.setCell ?_ (by first | omega | (simp; done) | (simp; omega)) _)
    exact B4
  have f1 : OwnI 3 w.heap.size Wf (.slice p1 i1 q1) l1 := by
    rw [hWf]
    refine OwnI.mono (B := V0.heap.size) ?_ (by first | omega | (simp; done) | (simp; omega))
    repeat (with_reducible refine OwnI.setBelow ?_ (by first | omega | (simp; done) | (simp; omega)) _)
    exact o1
  have f2 : OwnI 3 w.heap.size Wf (.slice p2 i2 q2) l2 := by
    rw [hWf]
    refine OwnI.mono (B := V1.heap.size) ?_ (by first | omega | (simp; done) | (simp; omega))
    repeat (with_reducible refine OwnI.setBelow ?_ (by first | omega | (simp; done) | (simp; omega)) _)
    exact o2
  have f3 : OwnI 3 w.heap.size Wf (.slice p3 i3 q3) l3 := by
    rw [hWf]
    refine OwnI.mono (B := V2.heap.size) ?_ (by first | omega | (simp; done) | (simp; omega))
    repeat (with_reducible refine OwnI.setBelow ?_ (by first | omega | (simp; done) | (simp; omega)) _)
    exact o3
  have f4 : OwnI 3 w.heap.size Wf (.slice p4 i4 q4) l4 := by
    rw [hWf]
    refine OwnI.mono (B := V3.heap.size) ?_ (by first | omega | (simp; done) | (simp; omega))
    repeat (with_reducible refine OwnI.setBelow ?_ (by first | omega | (simp; done) | (simp; omega)) _)
    exact o4
  have Gf := K2f.cell
  clear hWf K2 K3 G2 G3 F2 F3 o1 o2 o3 o4
  refine bodyPost_ret (v := clV k n1 (.slice p1 i1 q1) n2 (.slice p2 i2 q2) n3 (.slice p3 i3 q3) q st (.slice p4 i4 q4)) (by simp [results, Tryz.results6, go_sem, Gf]) rfl ⟨_, _, _, _, _, _, _, _, _, _, _, _, rfl, f1, f2, f3, f4, Bf⟩
end Go.Proofs.YtelmokapdkepbaaGreat
end
