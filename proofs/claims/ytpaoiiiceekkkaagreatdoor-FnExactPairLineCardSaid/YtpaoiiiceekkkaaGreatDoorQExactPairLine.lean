/- The statement FnExactPairLine: for every input the call returns true and each argument reads as it did. No condition. -/
import Derived.Test.YtpaoiiiceekkkaaGreatDoorQ39
import Derived.Deep.RegionHeld3
import Derived.Test.YtpaoiiiceekkkaaGreatDoorCards
import Derived.Test.YtpaoiiiceekkkaaGreatDoorTie
import Derived.SevenTiedAt
section
namespace Go.Proofs.YtpaoiiiceekkkaaGreatDoor
open Go.ChangeShapes Go.WideShapes Go.ChangeAt Go.RowKit Go.G5
set_option maxHeartbeats 4000000 in
set_option maxRecDepth 100000 in
theorem pair_walk (w : World) (n0_0 : Int) (v0_1 : Value) (l0_1 : List Int) (_ : InR n0_0) (hv0_1 : Ints w v0_1 l0_1) (n1_0 : Int) (v1_1 : Value) (l1_1 : List Int) (_ : InR n1_0) (hv1_1 : Ints w v1_1 l1_1) (hp : Pow w) :
    Calls Tryz.prog 3 #[.agg #[.int .i64 n0_0, v0_1], .agg #[.int .i64 n1_0, v1_1]] w fun e w' => e = .returned (.bool true) ∧ Below w.heap.size w w' := by
  obtain ⟨av0_1, cv0_1, rfl⟩ := hv0_1.shape
  obtain ⟨av1_1, cv1_1, rfl⟩ := hv1_1.shape
  go_enter Tryz.func3, Tryz.ntmps3
  go_wp2_with fail
  refine calls_named ?_
  intro V1 hV
  have B : Below w.heap.size w V1 := by rw [hV]; exact (by repeat (first | exact Below.refl _ _ | (with_reducible refine Below.setCell ?_ (by first | omega | (simp; done) | (simp; omega)) _) | (with_reducible refine Below.alloc ?_ (by first | omega | (simp; done) | (simp; omega)) _) | (with_reducible refine Below.drewN' ?_ _) | (with_reducible refine Below.drew ?_) | (with_reducible assumption) | refine Below.trans ?_ (Below.mono (by assumption) (by first | omega | (simp; done) | (simp; omega)))))
  have zV1 : w.heap.size + 2 ≤ V1.heap.size := by rw [hV]; (first | simp | omega)
  have K0 : Blk V1 (w.heap.size) 24 #[.int .i64 n0_0, .slice av0_1 l0_1.length cv0_1] := by rw [hV]; have := (Blk.new (w) 24 #[.int .i64 n0_0, .slice av0_1 l0_1.length cv0_1]).alloc (.cells #[.int .i64 n1_0, .slice av1_1 l1_1.length cv1_1] 24); simpa using this
  have K1 : Blk V1 (w.heap.size + 1) 24 #[.int .i64 n1_0, .slice av1_1 l1_1.length cv1_1] := by rw [hV]; have := (Blk.new (w.alloc (.cells #[.int .i64 n0_0, .slice av0_1 l0_1.length cv0_1] 24)) 24 #[.int .i64 n1_0, .slice av1_1 l1_1.length cv1_1]); simpa using this
  clear hV
  refine (szFunction_c n0_0 _ l0_1 _ _ (hv0_1.below B (Nat.le_refl _)) (by omega) (by omega)).mono ?_
  rintro e W2 ⟨⟨s0, rfl, hs0⟩, hb⟩
  have zW2 : V1.heap.size ≤ W2.heap.size := hb.size
  have B1 := B.after hb B.size
  have K0x := K0.keep hb
  have K1x := K1.keep hb
  clear B K0 K1
  have B := B1
  have K0 := K0x
  have K1 := K1x
  clear B1 K0x K1x
  clear hb
  rcases hs0 with hs0 | ⟨g0_0, g0_1, hlv0_1'⟩
  · go_wp2
    go_ret
    exact ⟨rfl, B⟩
  have hlv0_1 : l0_1.length ≤ 1048576 := by omega
  have GK0 := K0.cell
  have ZK0 := K0.lt
  have GK1 := K1.cell
  have ZK1 := K1.lt
  go_wp2_with fail
  clear GK0 ZK0 GK1 ZK1
  refine calls_named ?_
  intro V3 hV
  have zV3 : W2.heap.size + 0 ≤ V3.heap.size := by rw [hV]; (first | exact Nat.le_refl _ | simp)
  have B1 : Below w.heap.size w V3 := by rw [hV]; first | exact B | exact B.alloc B.size _ | exact (B.alloc B.size _).alloc (by have := B.size; simp; omega) _
  have K0x : Blk V3 (w.heap.size) 24 #[.int .i64 n0_0, .slice av0_1 l0_1.length cv0_1] := by rw [hV]; first | exact K0 | exact K0.alloc _ | exact (K0.alloc _).alloc _
  have K1x : Blk V3 (w.heap.size + 1) 24 #[.int .i64 n1_0, .slice av1_1 l1_1.length cv1_1] := by rw [hV]; first | exact K1 | exact K1.alloc _ | exact (K1.alloc _).alloc _
  clear B K0 K1
  have B := B1
  have K0 := K0x
  have K1 := K1x
  clear B1 K0x K1x
  clear hV
  refine (szFunction_c n1_0 _ l1_1 _ _ (hv1_1.below B (Nat.le_refl _)) (by omega) (by omega)).mono ?_
  rintro e W4 ⟨⟨s1, rfl, hs1⟩, hb⟩
  have zW4 : V3.heap.size ≤ W4.heap.size := hb.size
  have B1 := B.after hb B.size
  have K0x := K0.keep hb
  have K1x := K1.keep hb
  clear B K0 K1
  have B := B1
  have K0 := K0x
  have K1 := K1x
  clear B1 K0x K1x
  clear hb
  rcases hs1 with hs1 | ⟨g1_0, g1_1, hlv1_1'⟩
  · go_wp2
    go_ret
    exact ⟨rfl, B⟩
  have hlv1_1 : l1_1.length ≤ 1048576 := by omega
  have GK0 := K0.cell
  have ZK0 := K0.lt
  have GK1 := K1.cell
  have ZK1 := K1.lt
  go_wp2_with fail
  clear GK0 ZK0 GK1 ZK1
  have yK0 := K0.lt
  have yK1 := K1.lt
  have GK0 := K0.cell
  have GK1 := K1.cell
  go_region_held3 (fun w' => (∀ i, w'.cell? ⟨w.heap.size, i, none⟩ = (#[.int .i64 n0_0, .slice av0_1 l0_1.length cv0_1] : Array Value)[i]?) ∧ (∀ i, w'.cell? ⟨w.heap.size + 1, i, none⟩ = (#[.int .i64 n1_0, .slice av1_1 l1_1.length cv1_1] : Array Value)[i]?)) (go_keep)
    (first
      | (go_at_call_of 9 (Value.slice av0_1 l0_1.length cv0_1); refine (toFunction_any n0_0 _ l0_1 _ (hv0_1.below (B := w.heap.size) (by repeat (first | exact Below.refl _ _ | (with_reducible refine Below.setCell ?_ (by first | omega | (simp; done) | (simp; omega)) _) | (with_reducible refine Below.alloc ?_ (by first | omega | (simp; done) | (simp; omega)) _) | (with_reducible refine Below.drewN' ?_ _) | (with_reducible refine Below.drew ?_) | (with_reducible assumption) | refine Below.trans ?_ (Below.mono (by assumption) (by first | omega | (simp; done) | (simp; omega))))) (Nat.le_refl _)) hlv0_1).mono ?_; rintro e W5 ⟨pwx00, iwx00, qwx00, rfl, owx00, hbW5⟩; obtain ⟨hchbW5, hfhbW5⟩ := bcellN hbW5 (W4.heap.size) (by first | omega | (simp; done) | (simp; omega)); have zhbW5 := hbW5.size; (try simp at zhbW5))
      | (go_at_call_of 9 (Value.slice av1_1 l1_1.length cv1_1); refine (toFunction_any n1_0 _ l1_1 _ (hv1_1.below (B := w.heap.size) (by repeat (first | exact Below.refl _ _ | (with_reducible refine Below.setCell ?_ (by first | omega | (simp; done) | (simp; omega)) _) | (with_reducible refine Below.alloc ?_ (by first | omega | (simp; done) | (simp; omega)) _) | (with_reducible refine Below.drewN' ?_ _) | (with_reducible refine Below.drew ?_) | (with_reducible assumption) | refine Below.trans ?_ (Below.mono (by assumption) (by first | omega | (simp; done) | (simp; omega))))) (Nat.le_refl _)) hlv1_1).mono ?_; rintro e W6 ⟨pwx10, iwx10, qwx10, rfl, owx10, hbW6⟩; obtain ⟨hchbW6, hfhbW6⟩ := bcellN hbW6 (W4.heap.size) (by first | omega | (simp; done) | (simp; omega)); have zhbW6 := hbW6.size; (try simp at zhbW6))
      | (go_at_call 8; refine (plLineS_c _ n0_0 _ l0_1 (owx00.below hbW6 (by first | omega | (simp; done) | (simp; omega))).ints hlv0_1 n1_0 _ l1_1 owx10.ints hlv1_1).mono ?_; rintro e W7 ⟨rfl, hbW7⟩; obtain ⟨hchbW7, hfhbW7⟩ := bcellN hbW7 (W4.heap.size) (by first | omega | (simp; done) | (simp; omega)); have zhbW7 := hbW7.size; (try simp at zhbW7))
    )
  have B1 : Below w.heap.size w W7 := (by repeat (first | exact Below.refl _ _ | (with_reducible refine Below.setCell ?_ (by first | omega | (simp; done) | (simp; omega)) _) | (with_reducible refine Below.alloc ?_ (by first | omega | (simp; done) | (simp; omega)) _) | (with_reducible refine Below.drewN' ?_ _) | (with_reducible refine Below.drew ?_) | (with_reducible assumption) | refine Below.trans ?_ (Below.mono (by assumption) (by first | omega | (simp; done) | (simp; omega)))))
  have zzW7 : W4.heap.size ≤ W7.heap.size := by omega
  have K0x : Blk W7 (w.heap.size) 24 #[.int .i64 n0_0, .slice av0_1 l0_1.length cv0_1] := ((((K0.drewN 1).keep hbW5).keep hbW6).keep hbW7)
  have K1x : Blk W7 (w.heap.size + 1) 24 #[.int .i64 n1_0, .slice av1_1 l1_1.length cv1_1] := ((((K1.drewN 1).keep hbW5).keep hbW6).keep hbW7)
  clear B K0 K1 GK0 GK1 yK0 yK1 hchbW5 hfhbW5 hchbW6 hfhbW6 hchbW7 hfhbW7
  have B := B1
  have K0 := K0x
  have K1 := K1x
  clear B1 K0x K1x
  have GK0 := K0.cell
  have ZK0 := K0.lt
  have GK1 := K1.cell
  have ZK1 := K1.lt
  go_wp2_with fail
  clear GK0 ZK0 GK1 ZK1
  refine calls_named ?_
  intro V8 hV
  have zV8 : W7.heap.size + 0 ≤ V8.heap.size := by rw [hV]; (first | exact Nat.le_refl _ | simp)
  have B1 : Below w.heap.size w V8 := by rw [hV]; first | exact B | exact B.alloc B.size _ | exact (B.alloc B.size _).alloc (by have := B.size; simp; omega) _
  have K0x : Blk V8 (w.heap.size) 24 #[.int .i64 n0_0, .slice av0_1 l0_1.length cv0_1] := by rw [hV]; first | exact K0 | exact K0.alloc _ | exact (K0.alloc _).alloc _
  have K1x : Blk V8 (w.heap.size + 1) 24 #[.int .i64 n1_0, .slice av1_1 l1_1.length cv1_1] := by rw [hV]; first | exact K1 | exact K1.alloc _ | exact (K1.alloc _).alloc _
  clear B K0 K1
  have B := B1
  have K0 := K0x
  have K1 := K1x
  clear B1 K0x K1x
  clear hV
  refine (toFunction_any n0_0 _ l0_1 _ (hv0_1.below B (Nat.le_refl _)) hlv0_1).mono ?_
  rintro e W9 ⟨px00, ix00, qx00, rfl, ox00x, hb⟩
  have zW9 : V8.heap.size ≤ W9.heap.size := hb.size
  have B1 := B.after hb B.size
  have K0x := K0.keep hb
  have K1x := K1.keep hb
  clear B K0 K1
  have B := B1
  have K0 := K0x
  have K1 := K1x
  clear B1 K0x K1x
  clear hb
  have ox00 := ox00x.toW
  clear ox00x
  have r_x00 := ox00.lt
  have GK0 := K0.cell
  have ZK0 := K0.lt
  have GK1 := K1.cell
  have ZK1 := K1.lt
  go_wp2_with fail
  clear GK0 ZK0 GK1 ZK1
  refine calls_named ?_
  intro V10 hV
  have zV10 : W9.heap.size + 1 ≤ V10.heap.size := by rw [hV]; (first | exact Nat.le_refl _ | simp)
  have B1 : Below w.heap.size w V10 := by rw [hV]; first | exact B | exact B.alloc B.size _ | exact (B.alloc B.size _).alloc (by have := B.size; simp; omega) _
  have K0x : Blk V10 (w.heap.size) 24 #[.int .i64 n0_0, .slice av0_1 l0_1.length cv0_1] := by rw [hV]; first | exact K0 | exact K0.alloc _ | exact (K0.alloc _).alloc _
  have K1x : Blk V10 (w.heap.size + 1) 24 #[.int .i64 n1_0, .slice av1_1 l1_1.length cv1_1] := by rw [hV]; first | exact K1 | exact K1.alloc _ | exact (K1.alloc _).alloc _
  have ox00x : OwnW 3 V8.heap.size V10 (.slice px00 ix00 qx00) (l0_1) := by rw [hV]; first | exact ox00 | exact ox00.alloc _ | exact (ox00.alloc _).alloc _
  have K2x : Blk V10 (W9.heap.size) 27 #[.int .i64 n0_0, .slice px00 ix00 qx00] := by rw [hV]; exact Blk.new _ _ _
  clear B K0 K1 ox00
  have B := B1
  have K0 := K0x
  have K1 := K1x
  have K2 := K2x
  have ox00 := ox00x
  clear B1 K0x K1x K2x ox00x
  clear hV
  refine (toFunction_any n1_0 _ l1_1 _ (hv1_1.below B (Nat.le_refl _)) hlv1_1).mono ?_
  rintro e W11 ⟨px10, ix10, qx10, rfl, ox10x, hb⟩
  have zW11 : V10.heap.size ≤ W11.heap.size := hb.size
  have B1 := B.after hb B.size
  have K0x := K0.keep hb
  have K1x := K1.keep hb
  have K2x := K2.keep hb
  have ox00x := ox00.keep hb
  clear B K0 K1 K2 ox00
  have B := B1
  have K0 := K0x
  have K1 := K1x
  have K2 := K2x
  have ox00 := ox00x
  clear B1 K0x K1x K2x ox00x
  clear hb
  have ox10 := ox10x.toW
  clear ox10x
  have r_x10 := ox10.lt
  have GK0 := K0.cell
  have ZK0 := K0.lt
  have GK1 := K1.cell
  have ZK1 := K1.lt
  have GK2 := K2.cell
  have ZK2 := K2.lt
  go_wp2_with fail
  clear GK0 ZK0 GK1 ZK1 GK2 ZK2
  refine calls_named ?_
  intro V12 hV
  have zV12 : W11.heap.size + 1 ≤ V12.heap.size := by rw [hV]; (first | exact Nat.le_refl _ | simp)
  have B1 : Below w.heap.size w V12 := by rw [hV]; first | exact B | exact B.alloc B.size _ | exact (B.alloc B.size _).alloc (by have := B.size; simp; omega) _
  have K0x : Blk V12 (w.heap.size) 24 #[.int .i64 n0_0, .slice av0_1 l0_1.length cv0_1] := by rw [hV]; first | exact K0 | exact K0.alloc _ | exact (K0.alloc _).alloc _
  have K1x : Blk V12 (w.heap.size + 1) 24 #[.int .i64 n1_0, .slice av1_1 l1_1.length cv1_1] := by rw [hV]; first | exact K1 | exact K1.alloc _ | exact (K1.alloc _).alloc _
  have K2x : Blk V12 (W9.heap.size) 27 #[.int .i64 n0_0, .slice px00 ix00 qx00] := by rw [hV]; first | exact K2 | exact K2.alloc _ | exact (K2.alloc _).alloc _
  have ox00x : OwnW 3 V8.heap.size V12 (.slice px00 ix00 qx00) (l0_1) := by rw [hV]; first | exact ox00 | exact ox00.alloc _ | exact (ox00.alloc _).alloc _
  have ox10x : OwnW 3 V10.heap.size V12 (.slice px10 ix10 qx10) (l1_1) := by rw [hV]; first | exact ox10 | exact ox10.alloc _ | exact (ox10.alloc _).alloc _
  have K3x : Blk V12 (W11.heap.size) 27 #[.int .i64 n1_0, .slice px10 ix10 qx10] := by rw [hV]; exact Blk.new _ _ _
  clear B K0 K1 K2 ox00 ox10
  have B := B1
  have K0 := K0x
  have K1 := K1x
  have K2 := K2x
  have K3 := K3x
  have ox00 := ox00x
  have ox10 := ox10x
  clear B1 K0x K1x K2x K3x ox00x ox10x
  clear hV
  refine (plLineI_c _ n0_0 _ l0_1 ox00.ints hlv0_1 n1_0 _ l1_1 ox10.ints hlv1_1 (hp.keep B)).mono ?_
  rintro e W13 ⟨rfl, hb⟩
  have zW13 : V12.heap.size ≤ W13.heap.size := hb.size
  have B1 := B.after hb B.size
  have K0x := K0.keep hb
  have K1x := K1.keep hb
  have K2x := K2.keep hb
  have K3x := K3.keep hb
  have ox00x := ox00.keep hb
  have ox10x := ox10.keep hb
  clear B K0 K1 K2 K3 ox00 ox10
  have B := B1
  have K0 := K0x
  have K1 := K1x
  have K2 := K2x
  have K3 := K3x
  have ox00 := ox00x
  have ox10 := ox10x
  clear B1 K0x K1x K2x K3x ox00x ox10x
  clear hb
  have GK0 := K0.cell
  have ZK0 := K0.lt
  have GK1 := K1.cell
  have ZK1 := K1.lt
  have GK2 := K2.cell
  have ZK2 := K2.lt
  have GK3 := K3.cell
  have ZK3 := K3.lt
  go_wp2_with fail
  clear GK0 ZK0 GK1 ZK1 GK2 ZK2 GK3 ZK3
  have yK0 := K0.lt
  have yK1 := K1.lt
  have yK2 := K2.lt
  have yK3 := K3.lt
  have GK0 := K0.cell
  have GK2 := K2.cell
  go_region_held3 (fun w' => (∀ i, w'.cell? ⟨w.heap.size, i, none⟩ = (#[.int .i64 n0_0, .slice av0_1 l0_1.length cv0_1] : Array Value)[i]?) ∧ (∀ i, w'.cell? ⟨W9.heap.size, i, none⟩ = (#[.int .i64 n0_0, .slice px00 ix00 qx00] : Array Value)[i]?)) (go_keep)
    (first
      | (go_at_call 9; refine (toFunction_any n0_0 _ l0_1 _ (hv0_1.below (B := w.heap.size) (by repeat (first | exact Below.refl _ _ | (with_reducible refine Below.setCell ?_ (by first | omega | (simp; done) | (simp; omega)) _) | (with_reducible refine Below.alloc ?_ (by first | omega | (simp; done) | (simp; omega)) _) | (with_reducible refine Below.drewN' ?_ _) | (with_reducible refine Below.drew ?_) | (with_reducible assumption) | refine Below.trans ?_ (Below.mono (by assumption) (by first | omega | (simp; done) | (simp; omega))))) (Nat.le_refl _)) hlv0_1).mono ?_; rintro e W14 ⟨pyW14x0, iyW14x0, qyW14x0, rfl, oyW14x0, hbW14⟩; obtain ⟨hchbW14, hfhbW14⟩ := bcellN hbW14 (W13.heap.size) (by first | omega | (simp; done) | (simp; omega)); have zhbW14 := hbW14.size; (try simp at zhbW14))
      | (go_at_call 11; refine (eqFunction_any _ _ _ _ _ _ _ ((ox00.drewN 1).below hbW14 (by first | omega | (simp; done) | (simp; omega))).ints oyW14x0.ints).mono ?_; rintro e W15 ⟨rfl, hbW15⟩; obtain ⟨hchbW15, hfhbW15⟩ := bcellN hbW15 (W13.heap.size) (by first | omega | (simp; done) | (simp; omega)); have zhbW15 := hbW15.size; (try simp at zhbW15))
    )
  have B1 : Below w.heap.size w W15 := (by repeat (first | exact Below.refl _ _ | (with_reducible refine Below.setCell ?_ (by first | omega | (simp; done) | (simp; omega)) _) | (with_reducible refine Below.alloc ?_ (by first | omega | (simp; done) | (simp; omega)) _) | (with_reducible refine Below.drewN' ?_ _) | (with_reducible refine Below.drew ?_) | (with_reducible assumption) | refine Below.trans ?_ (Below.mono (by assumption) (by first | omega | (simp; done) | (simp; omega)))))
  have zzW15 : W13.heap.size ≤ W15.heap.size := by omega
  have K0x : Blk W15 (w.heap.size) 24 #[.int .i64 n0_0, .slice av0_1 l0_1.length cv0_1] := (((K0.drewN 1).keep hbW14).keep hbW15)
  have K1x : Blk W15 (w.heap.size + 1) 24 #[.int .i64 n1_0, .slice av1_1 l1_1.length cv1_1] := (((K1.drewN 1).keep hbW14).keep hbW15)
  have K2x : Blk W15 (W9.heap.size) 27 #[.int .i64 n0_0, .slice px00 ix00 qx00] := (((K2.drewN 1).keep hbW14).keep hbW15)
  have K3x : Blk W15 (W11.heap.size) 27 #[.int .i64 n1_0, .slice px10 ix10 qx10] := (((K3.drewN 1).keep hbW14).keep hbW15)
  have ox00x : OwnW 3 V8.heap.size W15 (.slice px00 ix00 qx00) (l0_1) := (((ox00.drewN 1).keep hbW14).keep hbW15)
  have ox10x : OwnW 3 V10.heap.size W15 (.slice px10 ix10 qx10) (l1_1) := (((ox10.drewN 1).keep hbW14).keep hbW15)
  clear B K0 K1 K2 K3 ox00 ox10 GK0 GK2 yK0 yK1 yK2 yK3 hchbW14 hfhbW14 hchbW15 hfhbW15
  have B := B1
  have K0 := K0x
  have K1 := K1x
  have K2 := K2x
  have K3 := K3x
  have ox00 := ox00x
  have ox10 := ox10x
  clear B1 K0x K1x K2x K3x ox00x ox10x
  try simp only [decide_true, Bool.and_self]
  have GK0 := K0.cell
  have ZK0 := K0.lt
  have GK1 := K1.cell
  have ZK1 := K1.lt
  have GK2 := K2.cell
  have ZK2 := K2.lt
  have GK3 := K3.cell
  have ZK3 := K3.lt
  go_wp2_with fail
  clear GK0 ZK0 GK1 ZK1 GK2 ZK2 GK3 ZK3
  have yK0 := K0.lt
  have yK1 := K1.lt
  have yK2 := K2.lt
  have yK3 := K3.lt
  have GK1 := K1.cell
  have GK3 := K3.cell
  go_region_held3 (fun w' => (∀ i, w'.cell? ⟨w.heap.size + 1, i, none⟩ = (#[.int .i64 n1_0, .slice av1_1 l1_1.length cv1_1] : Array Value)[i]?) ∧ (∀ i, w'.cell? ⟨W11.heap.size, i, none⟩ = (#[.int .i64 n1_0, .slice px10 ix10 qx10] : Array Value)[i]?)) (go_keep)
    (first
      | (go_at_call 9; refine (toFunction_any n1_0 _ l1_1 _ (hv1_1.below (B := w.heap.size) (by repeat (first | exact Below.refl _ _ | (with_reducible refine Below.setCell ?_ (by first | omega | (simp; done) | (simp; omega)) _) | (with_reducible refine Below.alloc ?_ (by first | omega | (simp; done) | (simp; omega)) _) | (with_reducible refine Below.drewN' ?_ _) | (with_reducible refine Below.drew ?_) | (with_reducible assumption) | refine Below.trans ?_ (Below.mono (by assumption) (by first | omega | (simp; done) | (simp; omega))))) (Nat.le_refl _)) hlv1_1).mono ?_; rintro e W16 ⟨pyW16x0, iyW16x0, qyW16x0, rfl, oyW16x0, hbW16⟩; obtain ⟨hchbW16, hfhbW16⟩ := bcellN hbW16 (W15.heap.size) (by first | omega | (simp; done) | (simp; omega)); have zhbW16 := hbW16.size; (try simp at zhbW16))
      | (go_at_call 11; refine (eqFunction_any _ _ _ _ _ _ _ ((ox10.drewN 1).below hbW16 (by first | omega | (simp; done) | (simp; omega))).ints oyW16x0.ints).mono ?_; rintro e W17 ⟨rfl, hbW17⟩; obtain ⟨hchbW17, hfhbW17⟩ := bcellN hbW17 (W15.heap.size) (by first | omega | (simp; done) | (simp; omega)); have zhbW17 := hbW17.size; (try simp at zhbW17))
    )
  have B1 : Below w.heap.size w W17 := (by repeat (first | exact Below.refl _ _ | (with_reducible refine Below.setCell ?_ (by first | omega | (simp; done) | (simp; omega)) _) | (with_reducible refine Below.alloc ?_ (by first | omega | (simp; done) | (simp; omega)) _) | (with_reducible refine Below.drewN' ?_ _) | (with_reducible refine Below.drew ?_) | (with_reducible assumption) | refine Below.trans ?_ (Below.mono (by assumption) (by first | omega | (simp; done) | (simp; omega)))))
  have zzW17 : W15.heap.size ≤ W17.heap.size := by omega
  have K0x : Blk W17 (w.heap.size) 24 #[.int .i64 n0_0, .slice av0_1 l0_1.length cv0_1] := (((K0.drewN 1).keep hbW16).keep hbW17)
  have K1x : Blk W17 (w.heap.size + 1) 24 #[.int .i64 n1_0, .slice av1_1 l1_1.length cv1_1] := (((K1.drewN 1).keep hbW16).keep hbW17)
  have K2x : Blk W17 (W9.heap.size) 27 #[.int .i64 n0_0, .slice px00 ix00 qx00] := (((K2.drewN 1).keep hbW16).keep hbW17)
  have K3x : Blk W17 (W11.heap.size) 27 #[.int .i64 n1_0, .slice px10 ix10 qx10] := (((K3.drewN 1).keep hbW16).keep hbW17)
  have ox00x : OwnW 3 V8.heap.size W17 (.slice px00 ix00 qx00) (l0_1) := (((ox00.drewN 1).keep hbW16).keep hbW17)
  have ox10x : OwnW 3 V10.heap.size W17 (.slice px10 ix10 qx10) (l1_1) := (((ox10.drewN 1).keep hbW16).keep hbW17)
  clear B K0 K1 K2 K3 ox00 ox10 GK1 GK3 yK0 yK1 yK2 yK3 hchbW16 hfhbW16 hchbW17 hfhbW17
  have B := B1
  have K0 := K0x
  have K1 := K1x
  have K2 := K2x
  have K3 := K3x
  have ox00 := ox00x
  have ox10 := ox10x
  clear B1 K0x K1x K2x K3x ox00x ox10x
  try simp only [decide_true, Bool.and_self]
  have GK0 := K0.cell
  have ZK0 := K0.lt
  have GK1 := K1.cell
  have ZK1 := K1.lt
  have GK2 := K2.cell
  have ZK2 := K2.lt
  have GK3 := K3.cell
  have ZK3 := K3.lt
  go_wp2
  go_ret
  exact ⟨rfl, B⟩

theorem fnExactPairLine_params : Tryz.f3.params = #[24, 24] := by kernel_rfl
theorem fnExactPairLine_door (os : Os) (args : Array Value) : laidMetH Tryz.prog Rows.fnExactPairLineRow.laid ((World.doorLaid Tryz.prog 24 os).forCall (fun _ _ => 0) ⟨#[], args, []⟩).memory := by
  rw [MakeChecks.laidMetH_plain _ _ _ (by kernel_rfl)]
  exact laidMet_of_run' 8 (by kernel_rfl) (by kernel_rfl)
theorem fnExactPairLine_pow {W : World} (h : laidMetH Tryz.prog Rows.fnExactPairLineRow.laid W) : Pow W := by
  rw [MakeChecks.laidMetH_plain _ _ _ (by kernel_rfl)] at h
  exact pow_of_third h
set_option maxRecDepth 100000 in
theorem fnExactPairLine_lifted (os : Os) (started : os.Started) (H : Type) (enc : TypeId × Value → H) :
    ReturnsInHanded {} Tryz.checked os 3 .any (fun w args => (Rows.fnExactPairLineSpec.pre enc Tryz.prog Tryz.f3 Rows.fnExactPairLineRow.domain false w args ∧ laidMetH Tryz.prog Rows.fnExactPairLineRow.laid w) ∧ sizedMet enc Tryz.prog Tryz.f3 (OpenSpec.ofChange Rows.fnExactPairLineSpec) false w args) (Rows.fnExactPairLineSpec.post enc Tryz.prog Tryz.f3 false true false false) := by
  refine law_lift_laid Rows.fnExactPairLineRow.laid os started H enc Tryz.func3 (by kernel_rfl) rfl (by kernel_rfl) (by kernel_rfl) ?_
    (ChangeSpec.witness_shaped (enc := enc) (C := Tryz.checked) (os := os) (X := fun w _ => laidMetH Tryz.prog Rows.fnExactPairLineRow.laid w) false (World.doorLaid Tryz.prog 24 os) #[.agg #[.int .i64 0, .slice none 0 0], .agg #[.int .i64 0, .slice none 0 0]] 8 rfl (World.shaped_of_RefB (by kernel_rfl) (by kernel_rfl)) (by kernel_rfl) (by kernel_rfl) (by kernel_rfl) (fnExactPairLine_door os _)) ?_
  · intro ds hds
    rw [fnExactPairLine_params] at hds
    match ds, hds with
    | [d0, d1], _ => rfl
  · intro W base args ds p hval hA hL
    rw [fnExactPairLine_params] at hA hval
    obtain ⟨v0, vs0, d0, ds0, p0, q0, hargs, rfl, rfl, h0, r0⟩ := trodAll_cons hA
    obtain ⟨v1, vs1, d1, ds1, p1, q1, rfl, rfl, rfl, h1, r1⟩ := trodAll_cons r0
    obtain ⟨rfl, rfl, rfl⟩ := trodAll_nil r1
    obtain rfl : args = #[v0, v1] := by cases args; simp_all
    obtain ⟨n0, u0, l0, rfl, w0, x0⟩ := rd_fun (hval 0 24 v0 rfl rfl) h0
    obtain ⟨n1, u1, l1, rfl, w1, x1⟩ := rd_fun (hval 1 24 v1 rfl rfl) h1
    exact pair_walk W n0 u0 l0 w0 x0 n1 u1 l1 w1 x1 (fnExactPairLine_pow hL)

theorem fnExactPairLine_holds : Rows.FnExactPairLineSaid :=
  OpenClaim.holds_of_wide 3 Tryz.f3 rfl rfl rfl rfl rfl rfl rfl ⟨rfl, rfl, rfl, rfl, rfl⟩ rfl rfl rfl rfl rfl (by kernel_rfl) Tryz.func3 (by kernel_rfl)
    (of_decide_eq_true (by kernel_rfl)) (by unfold Func.isWrapper; first | (rw [if_pos (by decide +kernel)]; kernel_rfl) | (rw [if_neg (by decide +kernel)]; exact ⟨rfl, rfl⟩))
    (fun os started H enc _ => fnExactPairLine_lifted os started H enc)

theorem fnExactPairLine_card : Rows.FnExactPairLineCardSaid :=
  Claim7.holds_tied_plain_at .later [] [.data, .data, .data] true _ false
    fnExactPairLine_holds (fun _ h => by cases h) (by kernel_rfl) (fun _ h => by cases h) fnExactPairLine_row_tie rfl ⟨rfl, rfl⟩ (by kernel_rfl) rfl
    (fun f fn hf hfn => by
      obtain rfl : f = 3 := Option.some.inj ((show Tryz.prog.funcNamed "loop.example/g03405/laws.FnExactPairLine" = some 3 by kernel_rfl).symm.trans hf) |>.symm
      obtain rfl : fn = Tryz.f3 := (Option.some.inj (Tryz.func3.symm.trans hfn)).symm
      exact ⟨by kernel_rfl, fun j t ht => by
        rw [fnExactPairLine_params] at ht
        have hm : t ∈ [24, 24] := by simpa using Array.mem_of_getElem? ht
        have hall : ([24, 24].all fun u => !Tryz.prog.wantsStandIn u) = true := by kernel_rfl
        exact (show Tryz.prog.wantsStandIn t = false by simpa using List.all_eq_true.1 hall t hm)⟩)
    (by kernel_rfl)
end Go.Proofs.YtpaoiiiceekkkaaGreatDoor
end
