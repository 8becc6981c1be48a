/- The statement FnExactClaimOfCommon: for every input the call returns true and each argument reads as it did. No condition. -/
import Derived.Test.YtmlpcohailjccaaRead
import Derived.Test.YtmlpcohailjccaaTo
import Derived.Test.YtmlpcohailjccaaEq
import Derived.Test.YtmlpcohailjccaaMark
import Derived.Deep.RegionHeld3
import Derived.Deep.CutRange
import Derived.Test.YtmlpcohailjccaaMarkK
import Derived.Test.YtmlpcohailjccaaBlk
import Derived.Test.YtmlpcohailjccaaClaimCom
import Derived.Test.YtmlpcohailjccaaClaim
import Derived.Test.YtmlpcohailjccaaClaimEq
namespace Go.Proofs.Ytmlpcohailjccaa
open Go.ChangeShapes Go.WideShapes Go.ChangeAt Go.RowKit Go.G5
theorem ownW_apart {w : World} {B b : Nat} {v : Value} {l : List Int} {cs : Array Value} (h : OwnW 3 B w v l) (K : Blk w b 30 cs) : v.ownBlock ≠ some b := by
  intro e
  rcases h.2 with ⟨rfl, _⟩ | ⟨q, cap, cur, rfl, _, hq, _⟩
  · simp [Value.ownBlock] at e
  · have hqb : q = b := by simpa [Value.ownBlock] using e
    subst hqb
    have hK : w.heap[q]? = some (.cells cs 30 (0, 0)) := K
    rw [hq] at hK
    simp at hK
theorem claim_cut {W4 X7 : World} {g : Nat} {v0 v1 v2 v3 : Value} {l0 l1 l2 l3 : List Int} (k a b z p c : Int) (KB : Blk X7 g 30 #[.int .i64 0, .int .i64 0, .slice none 0 0, .int .i64 0, .slice none 0 0, .int .i64 0, .slice none 0 0, .int .i64 0, .int .i64 0, .slice none 0 0])
    (t0 : OwnW 3 W4.heap.size X7 v0 l0) (t1 : OwnW 3 W4.heap.size X7 v1 l1) (t2 : OwnW 3 W4.heap.size X7 v2 l2) (t3 : OwnW 3 W4.heap.size X7 v3 l3) (B : Below W4.heap.size W4 X7) (hg : W4.heap.size ≤ g) :
    Blk ((((((((((X7.setCell ⟨g, 0, none⟩ (.int .i64 k)).setCell ⟨g, 1, none⟩ (.int .i64 a)).setCell ⟨g, 2, none⟩ v0).setCell ⟨g, 3, none⟩ (.int .i64 b)).setCell ⟨g, 4, none⟩ v1).setCell ⟨g, 5, none⟩ (.int .i64 z)).setCell ⟨g, 6, none⟩ v2).setCell ⟨g, 7, none⟩ (.int .i64 p)).setCell ⟨g, 8, none⟩ (.int .i64 c)).setCell ⟨g, 9, none⟩ v3) g 30 #[.int .i64 k, .int .i64 a, v0, .int .i64 b, v1, .int .i64 z, v2, .int .i64 p, .int .i64 c, v3] ∧
    OwnW 3 W4.heap.size ((((((((((X7.setCell ⟨g, 0, none⟩ (.int .i64 k)).setCell ⟨g, 1, none⟩ (.int .i64 a)).setCell ⟨g, 2, none⟩ v0).setCell ⟨g, 3, none⟩ (.int .i64 b)).setCell ⟨g, 4, none⟩ v1).setCell ⟨g, 5, none⟩ (.int .i64 z)).setCell ⟨g, 6, none⟩ v2).setCell ⟨g, 7, none⟩ (.int .i64 p)).setCell ⟨g, 8, none⟩ (.int .i64 c)).setCell ⟨g, 9, none⟩ v3) v0 l0 ∧
    OwnW 3 W4.heap.size ((((((((((X7.setCell ⟨g, 0, none⟩ (.int .i64 k)).setCell ⟨g, 1, none⟩ (.int .i64 a)).setCell ⟨g, 2, none⟩ v0).setCell ⟨g, 3, none⟩ (.int .i64 b)).setCell ⟨g, 4, none⟩ v1).setCell ⟨g, 5, none⟩ (.int .i64 z)).setCell ⟨g, 6, none⟩ v2).setCell ⟨g, 7, none⟩ (.int .i64 p)).setCell ⟨g, 8, none⟩ (.int .i64 c)).setCell ⟨g, 9, none⟩ v3) v1 l1 ∧
    OwnW 3 W4.heap.size ((((((((((X7.setCell ⟨g, 0, none⟩ (.int .i64 k)).setCell ⟨g, 1, none⟩ (.int .i64 a)).setCell ⟨g, 2, none⟩ v0).setCell ⟨g, 3, none⟩ (.int .i64 b)).setCell ⟨g, 4, none⟩ v1).setCell ⟨g, 5, none⟩ (.int .i64 z)).setCell ⟨g, 6, none⟩ v2).setCell ⟨g, 7, none⟩ (.int .i64 p)).setCell ⟨g, 8, none⟩ (.int .i64 c)).setCell ⟨g, 9, none⟩ v3) v2 l2 ∧
    OwnW 3 W4.heap.size ((((((((((X7.setCell ⟨g, 0, none⟩ (.int .i64 k)).setCell ⟨g, 1, none⟩ (.int .i64 a)).setCell ⟨g, 2, none⟩ v0).setCell ⟨g, 3, none⟩ (.int .i64 b)).setCell ⟨g, 4, none⟩ v1).setCell ⟨g, 5, none⟩ (.int .i64 z)).setCell ⟨g, 6, none⟩ v2).setCell ⟨g, 7, none⟩ (.int .i64 p)).setCell ⟨g, 8, none⟩ (.int .i64 c)).setCell ⟨g, 9, none⟩ v3) v3 l3 ∧
    Below W4.heap.size W4 ((((((((((X7.setCell ⟨g, 0, none⟩ (.int .i64 k)).setCell ⟨g, 1, none⟩ (.int .i64 a)).setCell ⟨g, 2, none⟩ v0).setCell ⟨g, 3, none⟩ (.int .i64 b)).setCell ⟨g, 4, none⟩ v1).setCell ⟨g, 5, none⟩ (.int .i64 z)).setCell ⟨g, 6, none⟩ v2).setCell ⟨g, 7, none⟩ (.int .i64 p)).setCell ⟨g, 8, none⟩ (.int .i64 c)).setCell ⟨g, 9, none⟩ v3) := by
  have n0 := ownW_apart t0 KB
  have n1 := ownW_apart t1 KB
  have n2 := ownW_apart t2 KB
  have n3 := ownW_apart t3 KB
  have KF := (((((((((KB.set 0 (.int .i64 k)).set 1 (.int .i64 a)).set 2 v0).set 3 (.int .i64 b)).set 4 v1).set 5 (.int .i64 z)).set 6 v2).set 7 (.int .i64 p)).set 8 (.int .i64 c)).set 9 v3
  have gs := grow_set (grow_set (grow_set (grow_set (grow_set (grow_set (grow_set (grow_set (grow_set (grow_set (World.grownBy.refl X7 (some g)) 0 (.int .i64 k)) 1 (.int .i64 a)) 2 v0) 3 (.int .i64 b)) 4 v1) 5 (.int .i64 z)) 6 v2) 7 (.int .i64 p)) 8 (.int .i64 c)) 9 v3
  exact ⟨by simpa using KF, t0.grow gs (fun q hq e => n0 (by rw [e, Option.some.inj hq])), t1.grow gs (fun q hq e => n1 (by rw [e, Option.some.inj hq])), t2.grow gs (fun q hq e => n2 (by rw [e, Option.some.inj hq])), t3.grow gs (fun q hq e => n3 (by rw [e, Option.some.inj hq])), B.grown gs B.size (fun q hq => by have := Option.some.inj hq; omega)⟩
set_option maxHeartbeats 16000000 in
set_option maxRecDepth 100000 in
theorem claimcom_walk (w : World) (n0_0 : Int) (v0_1 : Value) (l0_1 : List Int) (_ : InR n0_0) (hv0_1 : Ints w v0_1 l0_1) (n1_0 : Int) (v1_1 : Value) (l1_1 : List Int) (_ : InR n1_0) (hv1_1 : Ints w v1_1 l1_1) :
    Calls Try.prog 3 #[.agg #[.int .i64 n0_0, v0_1], .agg #[.int .i64 n1_0, v1_1]] w fun e w' => e = .returned (.bool true) ∧ Below w.heap.size w w' := by
  obtain ⟨av0_1, cv0_1, rfl⟩ := hv0_1.shape
  obtain ⟨av1_1, cv1_1, rfl⟩ := hv1_1.shape
  go_enter Try.func3, Try.ntmps3
  go_wp2_with fail
  refine calls_named ?_
  intro V1 hV
  have B : Below w.heap.size w V1 := by rw [hV]; exact (by repeat (first | exact Below.refl _ _ | (with_reducible refine Below.setCell ?_ (by first | omega | (simp; done) | (simp; omega)) _) | (with_reducible refine Below.alloc ?_ (by first | omega | (simp; done) | (simp; omega)) _) | (with_reducible refine Below.drewN' ?_ _) | (with_reducible refine Below.drew ?_) | (with_reducible assumption) | refine Below.trans ?_ (Below.mono (by assumption) (by first | omega | (simp; done) | (simp; omega)))))
  have zV1 : w.heap.size + 2 ≤ V1.heap.size := by rw [hV]; (first | simp | omega)
  have K0 : Blk V1 (w.heap.size) 24 #[.int .i64 n0_0, .slice av0_1 l0_1.length cv0_1] := by rw [hV]; have := (Blk.new (w) 24 #[.int .i64 n0_0, .slice av0_1 l0_1.length cv0_1]).alloc (.cells #[.int .i64 n1_0, .slice av1_1 l1_1.length cv1_1] 24); simpa using this
  have K1 : Blk V1 (w.heap.size + 1) 24 #[.int .i64 n1_0, .slice av1_1 l1_1.length cv1_1] := by rw [hV]; have := (Blk.new (w.alloc (.cells #[.int .i64 n0_0, .slice av0_1 l0_1.length cv0_1] 24)) 24 #[.int .i64 n1_0, .slice av1_1 l1_1.length cv1_1]); simpa using this
  clear hV
  refine (szFunction_c n0_0 _ l0_1 _ _ (hv0_1.below B (Nat.le_refl _)) (by omega) (by omega)).mono ?_
  rintro e W2 ⟨⟨s0, rfl, hs0⟩, hb⟩
  have zW2 : V1.heap.size ≤ W2.heap.size := hb.size
  have B1 := B.after hb B.size
  have K0x := K0.keep hb
  have K1x := K1.keep hb
  clear B K0 K1
  have B := B1
  have K0 := K0x
  have K1 := K1x
  clear B1 K0x K1x
  clear hb
  rcases hs0 with hs0 | ⟨g0_0, g0_1, hlv0_1'⟩
  · go_wp2
    go_ret
    exact ⟨rfl, B⟩
  have hlv0_1 : l0_1.length ≤ 1048576 := by omega
  have GK0 := K0.cell
  have ZK0 := K0.lt
  have GK1 := K1.cell
  have ZK1 := K1.lt
  go_wp2_with fail
  clear GK0 ZK0 GK1 ZK1
  refine calls_named ?_
  intro V3 hV
  have zV3 : W2.heap.size + 0 ≤ V3.heap.size := by rw [hV]; (first | exact Nat.le_refl _ | simp)
  have B1 : Below w.heap.size w V3 := by rw [hV]; first | exact B | exact B.alloc B.size _ | exact (B.alloc B.size _).alloc (by have := B.size; simp; omega) _
  have K0x : Blk V3 (w.heap.size) 24 #[.int .i64 n0_0, .slice av0_1 l0_1.length cv0_1] := by rw [hV]; first | exact K0 | exact K0.alloc _ | exact (K0.alloc _).alloc _
  have K1x : Blk V3 (w.heap.size + 1) 24 #[.int .i64 n1_0, .slice av1_1 l1_1.length cv1_1] := by rw [hV]; first | exact K1 | exact K1.alloc _ | exact (K1.alloc _).alloc _
  clear B K0 K1
  have B := B1
  have K0 := K0x
  have K1 := K1x
  clear B1 K0x K1x
  clear hV
  refine (szFunction_c n1_0 _ l1_1 _ _ (hv1_1.below B (Nat.le_refl _)) (by omega) (by omega)).mono ?_
  rintro e W4 ⟨⟨s1, rfl, hs1⟩, hb⟩
  have zW4 : V3.heap.size ≤ W4.heap.size := hb.size
  have B1 := B.after hb B.size
  have K0x := K0.keep hb
  have K1x := K1.keep hb
  clear B K0 K1
  have B := B1
  have K0 := K0x
  have K1 := K1x
  clear B1 K0x K1x
  clear hb
  rcases hs1 with hs1 | ⟨g1_0, g1_1, hlv1_1'⟩
  · go_wp2
    go_ret
    exact ⟨rfl, B⟩
  have hlv1_1 : l1_1.length ≤ 1048576 := by omega
  have GK0 := K0.cell
  have ZK0 := K0.lt
  have GK1 := K1.cell
  have ZK1 := K1.lt
  go_wp2_with fail
  clear GK0 ZK0 GK1 ZK1
  have yK0 := K0.lt
  have yK1 := K1.lt
  have GK0 := K0.cell
  have GK1 := K1.cell
  go_cut [6, 7] from 27 (fun fp ok wc => ∃ (gb_w : Nat) (pw0_0 : Option Addr) (iw0_0 qw0_0 : Nat) (pw0_1 : Option Addr) (iw0_1 qw0_1 : Nat) (pw0_2 : Option Addr) (iw0_2 qw0_2 : Nat) (pw0_3 : Option Addr) (iw0_3 qw0_3 : Nat), fp = .pointer (some ⟨gb_w, 0, none⟩) ∧ ok = .bool (comB n0_0 l0_1 n1_0 l1_1) ∧ W4.heap.size ≤ gb_w ∧ Blk wc gb_w 30 #[.int .i64 (cmK n0_0 l0_1 n1_0 l1_1), .int .i64 (cmA n0_0 l0_1 n1_0 l1_1), .slice pw0_0 iw0_0 qw0_0, .int .i64 (cmB n0_0 l0_1 n1_0 l1_1), .slice pw0_1 iw0_1 qw0_1, .int .i64 (0), .slice pw0_2 iw0_2 qw0_2, .int .i64 (cmP n0_0 l0_1 n1_0 l1_1), .int .i64 (cbS n0_0 l0_1 n1_0 l1_1), .slice pw0_3 iw0_3 qw0_3] ∧ OwnW 3 W4.heap.size wc (.slice pw0_0 iw0_0 qw0_0) (cmL n0_0 l0_1 n1_0 l1_1) ∧ OwnW 3 W4.heap.size wc (.slice pw0_1 iw0_1 qw0_1) (cmM n0_0 l0_1 n1_0 l1_1) ∧ OwnW 3 W4.heap.size wc (.slice pw0_2 iw0_2 qw0_2) (([] : List Int)) ∧ OwnW 3 W4.heap.size wc (.slice pw0_3 iw0_3 qw0_3) (cmE n0_0 l0_1 n1_0 l1_1) ∧ (Apart (.slice pw0_0 iw0_0 qw0_0) (.slice pw0_1 iw0_1 qw0_1) ∧ Apart (.slice pw0_0 iw0_0 qw0_0) (.slice pw0_2 iw0_2 qw0_2) ∧ Apart (.slice pw0_0 iw0_0 qw0_0) (.slice pw0_3 iw0_3 qw0_3) ∧ Apart (.slice pw0_1 iw0_1 qw0_1) (.slice pw0_2 iw0_2 qw0_2) ∧ Apart (.slice pw0_1 iw0_1 qw0_1) (.slice pw0_3 iw0_3 qw0_3) ∧ Apart (.slice pw0_2 iw0_2 qw0_2) (.slice pw0_3 iw0_3 qw0_3)) ∧ Below W4.heap.size W4 wc)
  case first =>
    have bd : Below W4.heap.size W4 W4.drew := (Below.refl _ _).drew
    have hA0 : Ints W4.drew (.slice av0_1 l0_1.length cv0_1) l0_1 := (hv0_1.below B (Nat.le_refl _)).keep bd
    have hI0 : Ints W4 (.slice av0_1 l0_1.length cv0_1) l0_1 := hv0_1.below B (Nat.le_refl _)
    have hI1 : Ints W4 (.slice av1_1 l1_1.length cv1_1) l1_1 := hv1_1.below B (Nat.le_refl _)
    have KD0 : Blk W4.drew (w.heap.size) 24 #[.int .i64 n0_0, .slice av0_1 l0_1.length cv0_1] := K0
    have KD1 : Blk W4.drew (w.heap.size + 1) 24 #[.int .i64 n1_0, .slice av1_1 l1_1.length cv1_1] := K1
    have GA0 := fun o => (K0.alloc o).cell
    have GA1 := fun o => (K1.alloc o).cell
    go_region_law
      (first
        | (go_simp; go_at_call_of 10 (Value.slice av0_1 l0_1.length cv0_1); refine (toFunction_any n0_0 _ l0_1 _ ?_ hlv0_1).mono ?_; (first | (with_reducible exact hA0) | (with_reducible exact hA0.alloc _) | (with_reducible exact (hI0.alloc _).drew')); rintro e X5 ⟨px5, ix5, qx5, rfl, o5, hb5⟩; (first | (have Bx5 := bd.after hb5 (Nat.le_refl _)) | (have Bx5 := (bd.alloc bd.size _).after hb5 (bd.alloc bd.size _).size) | (have Bx5 := ((bl1 W4 _).drew).after hb5 ((bl1 W4 _).drew).size)); have i5 := hI1.keep Bx5; have KX1 := K1.keep Bx5; have GX1 := KX1.cell; have GY1 := fun o => (KX1.alloc o).cell; (first | (have KB : Blk X5 W4.heap.size 30 #[.int .i64 0, .int .i64 0, .slice none 0 0, .int .i64 0, .slice none 0 0, .int .i64 0, .slice none 0 0, .int .i64 0, .int .i64 0, .slice none 0 0] := ((Blk.new W4 30 #[.int .i64 0, .int .i64 0, .slice none 0 0, .int .i64 0, .slice none 0 0, .int .i64 0, .slice none 0 0, .int .i64 0, .int .i64 0, .slice none 0 0]).drew').keep hb5) | (have KB : Blk X5 W4.heap.size 30 #[.int .i64 0, .int .i64 0, .slice none 0 0, .int .i64 0, .slice none 0 0, .int .i64 0, .slice none 0 0, .int .i64 0, .int .i64 0, .slice none 0 0] := (Blk.new W4.drew 30 #[.int .i64 0, .int .i64 0, .slice none 0 0, .int .i64 0, .slice none 0 0, .int .i64 0, .slice none 0 0, .int .i64 0, .int .i64 0, .slice none 0 0]).keep hb5) | (have KB := True.intro)))
        | (go_simp; go_at_call_of 10 (Value.slice av1_1 l1_1.length cv1_1); refine (toFunction_any n1_0 _ l1_1 _ ?_ hlv1_1).mono ?_; (first | (with_reducible exact i5) | (with_reducible exact i5.alloc _)); rintro e X6 ⟨px6, ix6, qx6, rfl, o6, hb6⟩; (first | (have Bx6 := Bx5.after hb6 Bx5.size) | (have Bx6 := (Bx5.alloc Bx5.size _).after hb6 (Bx5.alloc Bx5.size _).size)); (first | (have o56 := o5.keep hb6) | (have o56 := (o5.alloc _).keep hb6)); (first | (have KB := KB.keep hb6) | (have KB := (Blk.new X5 30 #[.int .i64 0, .int .i64 0, .slice none 0 0, .int .i64 0, .slice none 0 0, .int .i64 0, .slice none 0 0, .int .i64 0, .int .i64 0, .slice none 0 0]).keep hb6) | (have KB := True.intro)))
        | (go_simp; go_at_call 9; refine (claimComS_c _ n0_0 _ l0_1 ?_ hlv0_1 n1_0 _ l1_1 ?_ hlv1_1).mono ?_; (first | (with_reducible exact o56.ints) | (with_reducible exact (o56.alloc _).ints)); (first | (with_reducible exact o6.ints) | (with_reducible exact (o6.alloc _).ints)); rintro e X7 ⟨pw0_0, iw0_0, qw0_0, pw0_1, iw0_1, qw0_1, pw0_2, iw0_2, qw0_2, pw0_3, iw0_3, qw0_3, rfl, y0, y1, y2, y3, ap, hb7⟩; (first | (have Bx7 := Bx6.after hb7 Bx6.size) | (have Bx7 := (Bx6.alloc Bx6.size _).after hb7 (Bx6.alloc Bx6.size _).size)); (first | (have KB := KB.keep hb7) | (have KB := (Blk.new X6 30 #[.int .i64 0, .int .i64 0, .slice none 0 0, .int .i64 0, .slice none 0 0, .int .i64 0, .slice none 0 0, .int .i64 0, .int .i64 0, .slice none 0 0]).keep hb7) | (have KB := True.intro)); (first | (have GB := KB.cell; have FB := KB.frozen) | skip)))
    all_goals
      have bs6 := Bx6.size
      have t0 : OwnW 3 W4.heap.size X7 (.slice pw0_0 iw0_0 qw0_0) (cmL n0_0 l0_1 n1_0 l1_1) := y0.mono (by first | exact bs6 | (simp; omega))
      have t1 : OwnW 3 W4.heap.size X7 (.slice pw0_1 iw0_1 qw0_1) (cmM n0_0 l0_1 n1_0 l1_1) := y1.mono (by first | exact bs6 | (simp; omega))
      have t2 : OwnW 3 W4.heap.size X7 (.slice pw0_2 iw0_2 qw0_2) (([] : List Int)) := y2.mono (by first | exact bs6 | (simp; omega))
      have t3 : OwnW 3 W4.heap.size X7 (.slice pw0_3 iw0_3 qw0_3) (cmE n0_0 l0_1 n1_0 l1_1) := y3.mono (by first | exact bs6 | (simp; omega))
      go_wp2
      go_meet
      case rel =>
        first
          | (have hcc := claim_cut (cmK n0_0 l0_1 n1_0 l1_1) (cmA n0_0 l0_1 n1_0 l1_1) (cmB n0_0 l0_1 n1_0 l1_1) 0 (cmP n0_0 l0_1 n1_0 l1_1) (cbS n0_0 l0_1 n1_0 l1_1) KB t0 t1 t2 t3 Bx7 (by first | exact Nat.le_refl _ | exact Bx5.size | exact Bx6.size)
             obtain ⟨KF, f0, f1, f2, f3, BF⟩ := hcc
             exact ⟨_, pw0_0, iw0_0, qw0_0, pw0_1, iw0_1, qw0_1, pw0_2, iw0_2, qw0_2, pw0_3, iw0_3, qw0_3, rfl, rfl, (by first | exact Nat.le_refl _ | exact Bx5.size | exact Bx6.size), KF, f0, f1, f2, f3, ap, BF⟩)
          | exact ⟨_, pw0_0, iw0_0, qw0_0, pw0_1, iw0_1, qw0_1, pw0_2, iw0_2, qw0_2, pw0_3, iw0_3, qw0_3, rfl, rfl, Bx7.size, Blk.new _ _ _, t0.alloc _, t1.alloc _, t2.alloc _, t3.alloc _, ap, Bx7.alloc Bx7.size _⟩
  case rest =>
  obtain ⟨gb_w, pw0_0, iw0_0, qw0_0, pw0_1, iw0_1, qw0_1, pw0_2, iw0_2, qw0_2, pw0_3, iw0_3, qw0_3, rfl, rfl, hgb_w, KC_w, ow0_0, ow0_1, ow0_2, ow0_3, ap_w, Bc⟩ := hcut
  replace B := B.after Bc B.size
  replace K0 := K0.keep Bc
  replace K1 := K1.keep Bc
  have zc_w := Bc.size
  have zk_w := KC_w.lt
  have zzW7 : W4.heap.size ≤ wc.heap.size := Bc.size
  obtain ⟨W7, hWw⟩ : ∃ W : World, W = wc := ⟨_, rfl⟩
  subst hWw
  clear Bc GK0 GK1
  have r_w0_0 := ow0_0.lt
  have r_w0_1 := ow0_1.lt
  have r_w0_2 := ow0_2.lt
  have r_w0_3 := ow0_3.lt
  have GK0 := K0.cell
  have ZK0 := K0.lt
  have GK1 := K1.cell
  have ZK1 := K1.lt
  go_wp2_with fail
  clear GK0 ZK0 GK1 ZK1
  refine calls_named ?_
  intro V8 hV
  have zV8 : gb_w + 1 ≤ V8.heap.size := by rw [hV]; exact zk_w
  have zV8b : W7.heap.size ≤ V8.heap.size := by rw [hV]; exact Nat.le_refl _
  have B1 : Below w.heap.size w V8 := by rw [hV]; first | exact B | exact B.alloc B.size _ | exact (B.alloc B.size _).alloc (by have := B.size; simp; omega) _
  have K0x : Blk V8 (w.heap.size) 24 #[.int .i64 n0_0, .slice av0_1 l0_1.length cv0_1] := by rw [hV]; first | exact K0 | exact K0.alloc _ | exact (K0.alloc _).alloc _
  have K1x : Blk V8 (w.heap.size + 1) 24 #[.int .i64 n1_0, .slice av1_1 l1_1.length cv1_1] := by rw [hV]; first | exact K1 | exact K1.alloc _ | exact (K1.alloc _).alloc _
  have ow0_0x : OwnW 3 W4.heap.size V8 (.slice pw0_0 iw0_0 qw0_0) (cmL n0_0 l0_1 n1_0 l1_1) := by rw [hV]; first | exact ow0_0 | exact ow0_0.alloc _ | exact (ow0_0.alloc _).alloc _
  have ow0_1x : OwnW 3 W4.heap.size V8 (.slice pw0_1 iw0_1 qw0_1) (cmM n0_0 l0_1 n1_0 l1_1) := by rw [hV]; first | exact ow0_1 | exact ow0_1.alloc _ | exact (ow0_1.alloc _).alloc _
  have ow0_2x : OwnW 3 W4.heap.size V8 (.slice pw0_2 iw0_2 qw0_2) (([] : List Int)) := by rw [hV]; first | exact ow0_2 | exact ow0_2.alloc _ | exact (ow0_2.alloc _).alloc _
  have ow0_3x : OwnW 3 W4.heap.size V8 (.slice pw0_3 iw0_3 qw0_3) (cmE n0_0 l0_1 n1_0 l1_1) := by rw [hV]; first | exact ow0_3 | exact ow0_3.alloc _ | exact (ow0_3.alloc _).alloc _
  have K2x : Blk V8 (gb_w) 30 #[.int .i64 (cmK n0_0 l0_1 n1_0 l1_1), .int .i64 (cmA n0_0 l0_1 n1_0 l1_1), .slice pw0_0 iw0_0 qw0_0, .int .i64 (cmB n0_0 l0_1 n1_0 l1_1), .slice pw0_1 iw0_1 qw0_1, .int .i64 (0), .slice pw0_2 iw0_2 qw0_2, .int .i64 (cmP n0_0 l0_1 n1_0 l1_1), .int .i64 (cbS n0_0 l0_1 n1_0 l1_1), .slice pw0_3 iw0_3 qw0_3] := by rw [hV]; exact KC_w
  clear B K0 K1 ow0_0 ow0_1 ow0_2 ow0_3
  have B := B1
  have K0 := K0x
  have K1 := K1x
  have K2 := K2x
  have ow0_0 := ow0_0x
  have ow0_1 := ow0_1x
  have ow0_2 := ow0_2x
  have ow0_3 := ow0_3x
  clear B1 K0x K1x K2x ow0_0x ow0_1x ow0_2x ow0_3x
  clear hV
  refine (toFunction_any n0_0 _ l0_1 _ (hv0_1.below B (Nat.le_refl _)) hlv0_1).mono ?_
  rintro e W9 ⟨px00, ix00, qx00, rfl, ox00x, hb⟩
  have zW9 : V8.heap.size ≤ W9.heap.size := hb.size
  have B1 := B.after hb B.size
  have K0x := K0.keep hb
  have K1x := K1.keep hb
  have K2x := K2.keep hb
  have ow0_0x := ow0_0.keep hb
  have ow0_1x := ow0_1.keep hb
  have ow0_2x := ow0_2.keep hb
  have ow0_3x := ow0_3.keep hb
  clear B K0 K1 K2 ow0_0 ow0_1 ow0_2 ow0_3
  have B := B1
  have K0 := K0x
  have K1 := K1x
  have K2 := K2x
  have ow0_0 := ow0_0x
  have ow0_1 := ow0_1x
  have ow0_2 := ow0_2x
  have ow0_3 := ow0_3x
  clear B1 K0x K1x K2x ow0_0x ow0_1x ow0_2x ow0_3x
  clear hb
  have ox00 := ox00x.toW
  clear ox00x
  have r_x00 := ox00.lt
  have GK0 := K0.cell
  have ZK0 := K0.lt
  have GK1 := K1.cell
  have ZK1 := K1.lt
  have GK2 := K2.cell
  have ZK2 := K2.lt
  go_wp2_with fail
  clear GK0 ZK0 GK1 ZK1 GK2 ZK2
  refine calls_named ?_
  intro V10 hV
  have zV10 : W9.heap.size + 1 ≤ V10.heap.size := by rw [hV]; (first | exact Nat.le_refl _ | simp)
  have B1 : Below w.heap.size w V10 := by rw [hV]; first | exact B | exact B.alloc B.size _ | exact (B.alloc B.size _).alloc (by have := B.size; simp; omega) _
  have K0x : Blk V10 (w.heap.size) 24 #[.int .i64 n0_0, .slice av0_1 l0_1.length cv0_1] := by rw [hV]; first | exact K0 | exact K0.alloc _ | exact (K0.alloc _).alloc _
  have K1x : Blk V10 (w.heap.size + 1) 24 #[.int .i64 n1_0, .slice av1_1 l1_1.length cv1_1] := by rw [hV]; first | exact K1 | exact K1.alloc _ | exact (K1.alloc _).alloc _
  have K2x : Blk V10 (gb_w) 30 #[.int .i64 (cmK n0_0 l0_1 n1_0 l1_1), .int .i64 (cmA n0_0 l0_1 n1_0 l1_1), .slice pw0_0 iw0_0 qw0_0, .int .i64 (cmB n0_0 l0_1 n1_0 l1_1), .slice pw0_1 iw0_1 qw0_1, .int .i64 (0), .slice pw0_2 iw0_2 qw0_2, .int .i64 (cmP n0_0 l0_1 n1_0 l1_1), .int .i64 (cbS n0_0 l0_1 n1_0 l1_1), .slice pw0_3 iw0_3 qw0_3] := by rw [hV]; first | exact K2 | exact K2.alloc _ | exact (K2.alloc _).alloc _
  have ow0_0x : OwnW 3 W4.heap.size V10 (.slice pw0_0 iw0_0 qw0_0) (cmL n0_0 l0_1 n1_0 l1_1) := by rw [hV]; first | exact ow0_0 | exact ow0_0.alloc _ | exact (ow0_0.alloc _).alloc _
  have ow0_1x : OwnW 3 W4.heap.size V10 (.slice pw0_1 iw0_1 qw0_1) (cmM n0_0 l0_1 n1_0 l1_1) := by rw [hV]; first | exact ow0_1 | exact ow0_1.alloc _ | exact (ow0_1.alloc _).alloc _
  have ow0_2x : OwnW 3 W4.heap.size V10 (.slice pw0_2 iw0_2 qw0_2) (([] : List Int)) := by rw [hV]; first | exact ow0_2 | exact ow0_2.alloc _ | exact (ow0_2.alloc _).alloc _
  have ow0_3x : OwnW 3 W4.heap.size V10 (.slice pw0_3 iw0_3 qw0_3) (cmE n0_0 l0_1 n1_0 l1_1) := by rw [hV]; first | exact ow0_3 | exact ow0_3.alloc _ | exact (ow0_3.alloc _).alloc _
  have ox00x : OwnW 3 V8.heap.size V10 (.slice px00 ix00 qx00) (l0_1) := by rw [hV]; first | exact ox00 | exact ox00.alloc _ | exact (ox00.alloc _).alloc _
  have K3x : Blk V10 (W9.heap.size) 26 #[.int .i64 n0_0, .slice px00 ix00 qx00] := by rw [hV]; exact Blk.new _ _ _
  clear B K0 K1 K2 ow0_0 ow0_1 ow0_2 ow0_3 ox00
  have B := B1
  have K0 := K0x
  have K1 := K1x
  have K2 := K2x
  have K3 := K3x
  have ow0_0 := ow0_0x
  have ow0_1 := ow0_1x
  have ow0_2 := ow0_2x
  have ow0_3 := ow0_3x
  have ox00 := ox00x
  clear B1 K0x K1x K2x K3x ow0_0x ow0_1x ow0_2x ow0_3x ox00x
  clear hV
  refine (toFunction_any n1_0 _ l1_1 _ (hv1_1.below B (Nat.le_refl _)) hlv1_1).mono ?_
  rintro e W11 ⟨px10, ix10, qx10, rfl, ox10x, hb⟩
  have zW11 : V10.heap.size ≤ W11.heap.size := hb.size
  have B1 := B.after hb B.size
  have K0x := K0.keep hb
  have K1x := K1.keep hb
  have K2x := K2.keep hb
  have K3x := K3.keep hb
  have ow0_0x := ow0_0.keep hb
  have ow0_1x := ow0_1.keep hb
  have ow0_2x := ow0_2.keep hb
  have ow0_3x := ow0_3.keep hb
  have ox00x := ox00.keep hb
  clear B K0 K1 K2 K3 ow0_0 ow0_1 ow0_2 ow0_3 ox00
  have B := B1
  have K0 := K0x
  have K1 := K1x
  have K2 := K2x
  have K3 := K3x
  have ow0_0 := ow0_0x
  have ow0_1 := ow0_1x
  have ow0_2 := ow0_2x
  have ow0_3 := ow0_3x
  have ox00 := ox00x
  clear B1 K0x K1x K2x K3x ow0_0x ow0_1x ow0_2x ow0_3x ox00x
  clear hb
  have ox10 := ox10x.toW
  clear ox10x
  have r_x10 := ox10.lt
  have GK0 := K0.cell
  have ZK0 := K0.lt
  have GK1 := K1.cell
  have ZK1 := K1.lt
  have GK2 := K2.cell
  have ZK2 := K2.lt
  have GK3 := K3.cell
  have ZK3 := K3.lt
  go_wp2_with fail
  clear GK0 ZK0 GK1 ZK1 GK2 ZK2 GK3 ZK3
  refine calls_named ?_
  intro V12 hV
  have zV12 : W11.heap.size + 1 ≤ V12.heap.size := by rw [hV]; (first | exact Nat.le_refl _ | simp)
  have B1 : Below w.heap.size w V12 := by rw [hV]; first | exact B | exact B.alloc B.size _ | exact (B.alloc B.size _).alloc (by have := B.size; simp; omega) _
  have K0x : Blk V12 (w.heap.size) 24 #[.int .i64 n0_0, .slice av0_1 l0_1.length cv0_1] := by rw [hV]; first | exact K0 | exact K0.alloc _ | exact (K0.alloc _).alloc _
  have K1x : Blk V12 (w.heap.size + 1) 24 #[.int .i64 n1_0, .slice av1_1 l1_1.length cv1_1] := by rw [hV]; first | exact K1 | exact K1.alloc _ | exact (K1.alloc _).alloc _
  have K2x : Blk V12 (gb_w) 30 #[.int .i64 (cmK n0_0 l0_1 n1_0 l1_1), .int .i64 (cmA n0_0 l0_1 n1_0 l1_1), .slice pw0_0 iw0_0 qw0_0, .int .i64 (cmB n0_0 l0_1 n1_0 l1_1), .slice pw0_1 iw0_1 qw0_1, .int .i64 (0), .slice pw0_2 iw0_2 qw0_2, .int .i64 (cmP n0_0 l0_1 n1_0 l1_1), .int .i64 (cbS n0_0 l0_1 n1_0 l1_1), .slice pw0_3 iw0_3 qw0_3] := by rw [hV]; first | exact K2 | exact K2.alloc _ | exact (K2.alloc _).alloc _
  have K3x : Blk V12 (W9.heap.size) 26 #[.int .i64 n0_0, .slice px00 ix00 qx00] := by rw [hV]; first | exact K3 | exact K3.alloc _ | exact (K3.alloc _).alloc _
  have ow0_0x : OwnW 3 W4.heap.size V12 (.slice pw0_0 iw0_0 qw0_0) (cmL n0_0 l0_1 n1_0 l1_1) := by rw [hV]; first | exact ow0_0 | exact ow0_0.alloc _ | exact (ow0_0.alloc _).alloc _
  have ow0_1x : OwnW 3 W4.heap.size V12 (.slice pw0_1 iw0_1 qw0_1) (cmM n0_0 l0_1 n1_0 l1_1) := by rw [hV]; first | exact ow0_1 | exact ow0_1.alloc _ | exact (ow0_1.alloc _).alloc _
  have ow0_2x : OwnW 3 W4.heap.size V12 (.slice pw0_2 iw0_2 qw0_2) (([] : List Int)) := by rw [hV]; first | exact ow0_2 | exact ow0_2.alloc _ | exact (ow0_2.alloc _).alloc _
  have ow0_3x : OwnW 3 W4.heap.size V12 (.slice pw0_3 iw0_3 qw0_3) (cmE n0_0 l0_1 n1_0 l1_1) := by rw [hV]; first | exact ow0_3 | exact ow0_3.alloc _ | exact (ow0_3.alloc _).alloc _
  have ox00x : OwnW 3 V8.heap.size V12 (.slice px00 ix00 qx00) (l0_1) := by rw [hV]; first | exact ox00 | exact ox00.alloc _ | exact (ox00.alloc _).alloc _
  have ox10x : OwnW 3 V10.heap.size V12 (.slice px10 ix10 qx10) (l1_1) := by rw [hV]; first | exact ox10 | exact ox10.alloc _ | exact (ox10.alloc _).alloc _
  have K4x : Blk V12 (W11.heap.size) 26 #[.int .i64 n1_0, .slice px10 ix10 qx10] := by rw [hV]; exact Blk.new _ _ _
  clear B K0 K1 K2 K3 ow0_0 ow0_1 ow0_2 ow0_3 ox00 ox10
  have B := B1
  have K0 := K0x
  have K1 := K1x
  have K2 := K2x
  have K3 := K3x
  have K4 := K4x
  have ow0_0 := ow0_0x
  have ow0_1 := ow0_1x
  have ow0_2 := ow0_2x
  have ow0_3 := ow0_3x
  have ox00 := ox00x
  have ox10 := ox10x
  clear B1 K0x K1x K2x K3x K4x ow0_0x ow0_1x ow0_2x ow0_3x ox00x ox10x
  clear hV
  refine (claimComI_c _ n0_0 _ l0_1 ox00.ints hlv0_1 n1_0 _ l1_1 ox10.ints hlv1_1).mono ?_
  rintro e W13 ⟨pg0_0, ig0_0, qg0_0, pg0_1, ig0_1, qg0_1, pg0_2, ig0_2, qg0_2, pg0_3, ig0_3, qg0_3, rfl, og0_0x, og0_1x, og0_2x, og0_3x, ap_g, hb⟩
  have zW13 : V12.heap.size ≤ W13.heap.size := hb.size
  have B1 := B.after hb B.size
  have K0x := K0.keep hb
  have K1x := K1.keep hb
  have K2x := K2.keep hb
  have K3x := K3.keep hb
  have K4x := K4.keep hb
  have ow0_0x := ow0_0.keep hb
  have ow0_1x := ow0_1.keep hb
  have ow0_2x := ow0_2.keep hb
  have ow0_3x := ow0_3.keep hb
  have ox00x := ox00.keep hb
  have ox10x := ox10.keep hb
  clear B K0 K1 K2 K3 K4 ow0_0 ow0_1 ow0_2 ow0_3 ox00 ox10
  have B := B1
  have K0 := K0x
  have K1 := K1x
  have K2 := K2x
  have K3 := K3x
  have K4 := K4x
  have ow0_0 := ow0_0x
  have ow0_1 := ow0_1x
  have ow0_2 := ow0_2x
  have ow0_3 := ow0_3x
  have ox00 := ox00x
  have ox10 := ox10x
  clear B1 K0x K1x K2x K3x K4x ow0_0x ow0_1x ow0_2x ow0_3x ox00x ox10x
  clear hb
  have og0_0 := og0_0x.toW
  clear og0_0x
  have r_g0_0 := og0_0.lt
  have og0_1 := og0_1x.toW
  clear og0_1x
  have r_g0_1 := og0_1.lt
  have og0_2 := og0_2x.toW
  clear og0_2x
  have r_g0_2 := og0_2.lt
  have og0_3 := og0_3x.toW
  clear og0_3x
  have r_g0_3 := og0_3.lt
  have GK0 := K0.cell
  have ZK0 := K0.lt
  have GK1 := K1.cell
  have ZK1 := K1.lt
  have GK2 := K2.cell
  have ZK2 := K2.lt
  have GK3 := K3.cell
  have ZK3 := K3.lt
  have GK4 := K4.cell
  have ZK4 := K4.lt
  go_wp2_with fail
  clear GK0 ZK0 GK1 ZK1 GK2 ZK2 GK3 ZK3 GK4 ZK4
  refine calls_named ?_
  intro V14 hV
  have zV14 : W13.heap.size + 1 ≤ V14.heap.size := by rw [hV]; (first | exact Nat.le_refl _ | simp)
  have B1 : Below w.heap.size w V14 := by rw [hV]; first | exact B | exact B.alloc B.size _ | exact (B.alloc B.size _).alloc (by have := B.size; simp; omega) _
  have K0x : Blk V14 (w.heap.size) 24 #[.int .i64 n0_0, .slice av0_1 l0_1.length cv0_1] := by rw [hV]; first | exact K0 | exact K0.alloc _ | exact (K0.alloc _).alloc _
  have K1x : Blk V14 (w.heap.size + 1) 24 #[.int .i64 n1_0, .slice av1_1 l1_1.length cv1_1] := by rw [hV]; first | exact K1 | exact K1.alloc _ | exact (K1.alloc _).alloc _
  have K2x : Blk V14 (gb_w) 30 #[.int .i64 (cmK n0_0 l0_1 n1_0 l1_1), .int .i64 (cmA n0_0 l0_1 n1_0 l1_1), .slice pw0_0 iw0_0 qw0_0, .int .i64 (cmB n0_0 l0_1 n1_0 l1_1), .slice pw0_1 iw0_1 qw0_1, .int .i64 (0), .slice pw0_2 iw0_2 qw0_2, .int .i64 (cmP n0_0 l0_1 n1_0 l1_1), .int .i64 (cbS n0_0 l0_1 n1_0 l1_1), .slice pw0_3 iw0_3 qw0_3] := by rw [hV]; first | exact K2 | exact K2.alloc _ | exact (K2.alloc _).alloc _
  have K3x : Blk V14 (W9.heap.size) 26 #[.int .i64 n0_0, .slice px00 ix00 qx00] := by rw [hV]; first | exact K3 | exact K3.alloc _ | exact (K3.alloc _).alloc _
  have K4x : Blk V14 (W11.heap.size) 26 #[.int .i64 n1_0, .slice px10 ix10 qx10] := by rw [hV]; first | exact K4 | exact K4.alloc _ | exact (K4.alloc _).alloc _
  have ow0_0x : OwnW 3 W4.heap.size V14 (.slice pw0_0 iw0_0 qw0_0) (cmL n0_0 l0_1 n1_0 l1_1) := by rw [hV]; first | exact ow0_0 | exact ow0_0.alloc _ | exact (ow0_0.alloc _).alloc _
  have ow0_1x : OwnW 3 W4.heap.size V14 (.slice pw0_1 iw0_1 qw0_1) (cmM n0_0 l0_1 n1_0 l1_1) := by rw [hV]; first | exact ow0_1 | exact ow0_1.alloc _ | exact (ow0_1.alloc _).alloc _
  have ow0_2x : OwnW 3 W4.heap.size V14 (.slice pw0_2 iw0_2 qw0_2) (([] : List Int)) := by rw [hV]; first | exact ow0_2 | exact ow0_2.alloc _ | exact (ow0_2.alloc _).alloc _
  have ow0_3x : OwnW 3 W4.heap.size V14 (.slice pw0_3 iw0_3 qw0_3) (cmE n0_0 l0_1 n1_0 l1_1) := by rw [hV]; first | exact ow0_3 | exact ow0_3.alloc _ | exact (ow0_3.alloc _).alloc _
  have ox00x : OwnW 3 V8.heap.size V14 (.slice px00 ix00 qx00) (l0_1) := by rw [hV]; first | exact ox00 | exact ox00.alloc _ | exact (ox00.alloc _).alloc _
  have ox10x : OwnW 3 V10.heap.size V14 (.slice px10 ix10 qx10) (l1_1) := by rw [hV]; first | exact ox10 | exact ox10.alloc _ | exact (ox10.alloc _).alloc _
  have og0_0x : OwnW 3 V12.heap.size V14 (.slice pg0_0 ig0_0 qg0_0) (cmL n0_0 l0_1 n1_0 l1_1) := by rw [hV]; first | exact og0_0 | exact og0_0.alloc _ | exact (og0_0.alloc _).alloc _
  have og0_1x : OwnW 3 V12.heap.size V14 (.slice pg0_1 ig0_1 qg0_1) (cmM n0_0 l0_1 n1_0 l1_1) := by rw [hV]; first | exact og0_1 | exact og0_1.alloc _ | exact (og0_1.alloc _).alloc _
  have og0_2x : OwnW 3 V12.heap.size V14 (.slice pg0_2 ig0_2 qg0_2) (([] : List Int)) := by rw [hV]; first | exact og0_2 | exact og0_2.alloc _ | exact (og0_2.alloc _).alloc _
  have og0_3x : OwnW 3 V12.heap.size V14 (.slice pg0_3 ig0_3 qg0_3) (cmE n0_0 l0_1 n1_0 l1_1) := by rw [hV]; first | exact og0_3 | exact og0_3.alloc _ | exact (og0_3.alloc _).alloc _
  have K5x : Blk V14 (W13.heap.size) 30 #[.int .i64 (cmK n0_0 l0_1 n1_0 l1_1), .int .i64 (cmA n0_0 l0_1 n1_0 l1_1), .slice pg0_0 ig0_0 qg0_0, .int .i64 (cmB n0_0 l0_1 n1_0 l1_1), .slice pg0_1 ig0_1 qg0_1, .int .i64 (0), .slice pg0_2 ig0_2 qg0_2, .int .i64 (cmP n0_0 l0_1 n1_0 l1_1), .int .i64 (cbS n0_0 l0_1 n1_0 l1_1), .slice pg0_3 ig0_3 qg0_3] := by rw [hV]; exact Blk.new _ _ _
  clear B K0 K1 K2 K3 K4 ow0_0 ow0_1 ow0_2 ow0_3 ox00 ox10 og0_0 og0_1 og0_2 og0_3
  have B := B1
  have K0 := K0x
  have K1 := K1x
  have K2 := K2x
  have K3 := K3x
  have K4 := K4x
  have K5 := K5x
  have ow0_0 := ow0_0x
  have ow0_1 := ow0_1x
  have ow0_2 := ow0_2x
  have ow0_3 := ow0_3x
  have ox00 := ox00x
  have ox10 := ox10x
  have og0_0 := og0_0x
  have og0_1 := og0_1x
  have og0_2 := og0_2x
  have og0_3 := og0_3x
  clear B1 K0x K1x K2x K3x K4x K5x ow0_0x ow0_1x ow0_2x ow0_3x ox00x ox10x og0_0x og0_1x og0_2x og0_3x
  clear hV
  refine (eqClaim_c _ _ _ _ _ og0_0.ints _ _ _ og0_1.ints _ _ _ og0_2.ints _ _ _ _ og0_3.ints _ ow0_0.ints _ ow0_1.ints _ ow0_2.ints _ ow0_3.ints).mono ?_
  rintro e W15 ⟨rfl, hb⟩
  have zW15 : V14.heap.size ≤ W15.heap.size := hb.size
  have B1 := B.after hb B.size
  have K0x := K0.keep hb
  have K1x := K1.keep hb
  have K2x := K2.keep hb
  have K3x := K3.keep hb
  have K4x := K4.keep hb
  have K5x := K5.keep hb
  have ow0_0x := ow0_0.keep hb
  have ow0_1x := ow0_1.keep hb
  have ow0_2x := ow0_2.keep hb
  have ow0_3x := ow0_3.keep hb
  have ox00x := ox00.keep hb
  have ox10x := ox10.keep hb
  have og0_0x := og0_0.keep hb
  have og0_1x := og0_1.keep hb
  have og0_2x := og0_2.keep hb
  have og0_3x := og0_3.keep hb
  clear B K0 K1 K2 K3 K4 K5 ow0_0 ow0_1 ow0_2 ow0_3 ox00 ox10 og0_0 og0_1 og0_2 og0_3
  have B := B1
  have K0 := K0x
  have K1 := K1x
  have K2 := K2x
  have K3 := K3x
  have K4 := K4x
  have K5 := K5x
  have ow0_0 := ow0_0x
  have ow0_1 := ow0_1x
  have ow0_2 := ow0_2x
  have ow0_3 := ow0_3x
  have ox00 := ox00x
  have ox10 := ox10x
  have og0_0 := og0_0x
  have og0_1 := og0_1x
  have og0_2 := og0_2x
  have og0_3 := og0_3x
  clear B1 K0x K1x K2x K3x K4x K5x ow0_0x ow0_1x ow0_2x ow0_3x ox00x ox10x og0_0x og0_1x og0_2x og0_3x
  clear hb
  have GK0 := K0.cell
  have ZK0 := K0.lt
  have GK1 := K1.cell
  have ZK1 := K1.lt
  have GK2 := K2.cell
  have ZK2 := K2.lt
  have GK3 := K3.cell
  have ZK3 := K3.lt
  have GK4 := K4.cell
  have ZK4 := K4.lt
  have GK5 := K5.cell
  have ZK5 := K5.lt
  go_wp2_with fail
  clear GK0 ZK0 GK1 ZK1 GK2 ZK2 GK3 ZK3 GK4 ZK4 GK5 ZK5
  have yK0 := K0.lt
  have yK1 := K1.lt
  have yK2 := K2.lt
  have yK3 := K3.lt
  have yK4 := K4.lt
  have yK5 := K5.lt
  have GK0 := K0.cell
  have GK3 := K3.cell
  go_region_held3 (fun w' => (w'.cell? ⟨w.heap.size, 0, none⟩ = some (.int .i64 n0_0) ∧ w'.cell? ⟨w.heap.size, 1, none⟩ = some (.slice av0_1 l0_1.length cv0_1)) ∧ (w'.cell? ⟨W9.heap.size, 0, none⟩ = some (.int .i64 n0_0) ∧ w'.cell? ⟨W9.heap.size, 1, none⟩ = some (.slice px00 ix00 qx00))) (go_keep)
    (first
      | (go_at_call 10; refine (toFunction_any n0_0 _ l0_1 _ (hv0_1.below (B := w.heap.size) (by repeat (first | exact Below.refl _ _ | (with_reducible refine Below.setCell ?_ (by first | omega | (simp; done) | (simp; omega)) _) | (with_reducible refine Below.alloc ?_ (by first | omega | (simp; done) | (simp; omega)) _) | (with_reducible refine Below.drewN' ?_ _) | (with_reducible refine Below.drew ?_) | (with_reducible assumption) | refine Below.trans ?_ (Below.mono (by assumption) (by first | omega | (simp; done) | (simp; omega))))) (Nat.le_refl _)) hlv0_1).mono ?_; rintro e W16 ⟨pyW16x0, iyW16x0, qyW16x0, rfl, oyW16x0, hbW16⟩; obtain ⟨hchbW16, hfhbW16⟩ := bcellN hbW16 (W15.heap.size) (by first | omega | (simp; done) | (simp; omega)); have zhbW16 := hbW16.size; (try simp at zhbW16))
      | (go_at_call 13; refine (eqFunction_any _ _ _ _ _ _ _ ((ox00.drewN 1).below hbW16 (by first | omega | (simp; done) | (simp; omega))).ints oyW16x0.ints).mono ?_; rintro e W17 ⟨rfl, hbW17⟩; obtain ⟨hchbW17, hfhbW17⟩ := bcellN hbW17 (W15.heap.size) (by first | omega | (simp; done) | (simp; omega)); have zhbW17 := hbW17.size; (try simp at zhbW17))
    )
  have B1 : Below w.heap.size w W17 := (by repeat (first | exact Below.refl _ _ | (with_reducible refine Below.setCell ?_ (by first | omega | (simp; done) | (simp; omega)) _) | (with_reducible refine Below.alloc ?_ (by first | omega | (simp; done) | (simp; omega)) _) | (with_reducible refine Below.drewN' ?_ _) | (with_reducible refine Below.drew ?_) | (with_reducible assumption) | refine Below.trans ?_ (Below.mono (by assumption) (by first | omega | (simp; done) | (simp; omega)))))
  have zzW17 : W15.heap.size ≤ W17.heap.size := by omega
  have K0x : Blk W17 (w.heap.size) 24 #[.int .i64 n0_0, .slice av0_1 l0_1.length cv0_1] := (((K0.drewN 1).keep hbW16).keep hbW17)
  have K1x : Blk W17 (w.heap.size + 1) 24 #[.int .i64 n1_0, .slice av1_1 l1_1.length cv1_1] := (((K1.drewN 1).keep hbW16).keep hbW17)
  have K2x : Blk W17 (gb_w) 30 #[.int .i64 (cmK n0_0 l0_1 n1_0 l1_1), .int .i64 (cmA n0_0 l0_1 n1_0 l1_1), .slice pw0_0 iw0_0 qw0_0, .int .i64 (cmB n0_0 l0_1 n1_0 l1_1), .slice pw0_1 iw0_1 qw0_1, .int .i64 (0), .slice pw0_2 iw0_2 qw0_2, .int .i64 (cmP n0_0 l0_1 n1_0 l1_1), .int .i64 (cbS n0_0 l0_1 n1_0 l1_1), .slice pw0_3 iw0_3 qw0_3] := (((K2.drewN 1).keep hbW16).keep hbW17)
  have K3x : Blk W17 (W9.heap.size) 26 #[.int .i64 n0_0, .slice px00 ix00 qx00] := (((K3.drewN 1).keep hbW16).keep hbW17)
  have K4x : Blk W17 (W11.heap.size) 26 #[.int .i64 n1_0, .slice px10 ix10 qx10] := (((K4.drewN 1).keep hbW16).keep hbW17)
  have K5x : Blk W17 (W13.heap.size) 30 #[.int .i64 (cmK n0_0 l0_1 n1_0 l1_1), .int .i64 (cmA n0_0 l0_1 n1_0 l1_1), .slice pg0_0 ig0_0 qg0_0, .int .i64 (cmB n0_0 l0_1 n1_0 l1_1), .slice pg0_1 ig0_1 qg0_1, .int .i64 (0), .slice pg0_2 ig0_2 qg0_2, .int .i64 (cmP n0_0 l0_1 n1_0 l1_1), .int .i64 (cbS n0_0 l0_1 n1_0 l1_1), .slice pg0_3 ig0_3 qg0_3] := (((K5.drewN 1).keep hbW16).keep hbW17)
  have ow0_0x : OwnW 3 W4.heap.size W17 (.slice pw0_0 iw0_0 qw0_0) (cmL n0_0 l0_1 n1_0 l1_1) := (((ow0_0.drewN 1).keep hbW16).keep hbW17)
  have ow0_1x : OwnW 3 W4.heap.size W17 (.slice pw0_1 iw0_1 qw0_1) (cmM n0_0 l0_1 n1_0 l1_1) := (((ow0_1.drewN 1).keep hbW16).keep hbW17)
  have ow0_2x : OwnW 3 W4.heap.size W17 (.slice pw0_2 iw0_2 qw0_2) (([] : List Int)) := (((ow0_2.drewN 1).keep hbW16).keep hbW17)
  have ow0_3x : OwnW 3 W4.heap.size W17 (.slice pw0_3 iw0_3 qw0_3) (cmE n0_0 l0_1 n1_0 l1_1) := (((ow0_3.drewN 1).keep hbW16).keep hbW17)
  have ox00x : OwnW 3 V8.heap.size W17 (.slice px00 ix00 qx00) (l0_1) := (((ox00.drewN 1).keep hbW16).keep hbW17)
  have ox10x : OwnW 3 V10.heap.size W17 (.slice px10 ix10 qx10) (l1_1) := (((ox10.drewN 1).keep hbW16).keep hbW17)
  have og0_0x : OwnW 3 V12.heap.size W17 (.slice pg0_0 ig0_0 qg0_0) (cmL n0_0 l0_1 n1_0 l1_1) := (((og0_0.drewN 1).keep hbW16).keep hbW17)
  have og0_1x : OwnW 3 V12.heap.size W17 (.slice pg0_1 ig0_1 qg0_1) (cmM n0_0 l0_1 n1_0 l1_1) := (((og0_1.drewN 1).keep hbW16).keep hbW17)
  have og0_2x : OwnW 3 V12.heap.size W17 (.slice pg0_2 ig0_2 qg0_2) (([] : List Int)) := (((og0_2.drewN 1).keep hbW16).keep hbW17)
  have og0_3x : OwnW 3 V12.heap.size W17 (.slice pg0_3 ig0_3 qg0_3) (cmE n0_0 l0_1 n1_0 l1_1) := (((og0_3.drewN 1).keep hbW16).keep hbW17)
  clear B K0 K1 K2 K3 K4 K5 ow0_0 ow0_1 ow0_2 ow0_3 ox00 ox10 og0_0 og0_1 og0_2 og0_3 GK0 GK3 yK0 yK1 yK2 yK3 yK4 yK5 hchbW16 hfhbW16 hchbW17 hfhbW17
  have B := B1
  have K0 := K0x
  have K1 := K1x
  have K2 := K2x
  have K3 := K3x
  have K4 := K4x
  have K5 := K5x
  have ow0_0 := ow0_0x
  have ow0_1 := ow0_1x
  have ow0_2 := ow0_2x
  have ow0_3 := ow0_3x
  have ox00 := ox00x
  have ox10 := ox10x
  have og0_0 := og0_0x
  have og0_1 := og0_1x
  have og0_2 := og0_2x
  have og0_3 := og0_3x
  clear B1 K0x K1x K2x K3x K4x K5x ow0_0x ow0_1x ow0_2x ow0_3x ox00x ox10x og0_0x og0_1x og0_2x og0_3x
  try simp only [decide_true, Bool.and_self]
  have GK0 := K0.cell
  have ZK0 := K0.lt
  have GK1 := K1.cell
  have ZK1 := K1.lt
  have GK2 := K2.cell
  have ZK2 := K2.lt
  have GK3 := K3.cell
  have ZK3 := K3.lt
  have GK4 := K4.cell
  have ZK4 := K4.lt
  have GK5 := K5.cell
  have ZK5 := K5.lt
  go_wp2_with fail
  clear GK0 ZK0 GK1 ZK1 GK2 ZK2 GK3 ZK3 GK4 ZK4 GK5 ZK5
  have yK0 := K0.lt
  have yK1 := K1.lt
  have yK2 := K2.lt
  have yK3 := K3.lt
  have yK4 := K4.lt
  have yK5 := K5.lt
  have GK1 := K1.cell
  have GK4 := K4.cell
  go_region_held3 (fun w' => (w'.cell? ⟨w.heap.size + 1, 0, none⟩ = some (.int .i64 n1_0) ∧ w'.cell? ⟨w.heap.size + 1, 1, none⟩ = some (.slice av1_1 l1_1.length cv1_1)) ∧ (w'.cell? ⟨W11.heap.size, 0, none⟩ = some (.int .i64 n1_0) ∧ w'.cell? ⟨W11.heap.size, 1, none⟩ = some (.slice px10 ix10 qx10))) (go_keep)
    (first
      | (go_at_call 10; refine (toFunction_any n1_0 _ l1_1 _ (hv1_1.below (B := w.heap.size) (by repeat (first | exact Below.refl _ _ | (with_reducible refine Below.setCell ?_ (by first | omega | (simp; done) | (simp; omega)) _) | (with_reducible refine Below.alloc ?_ (by first | omega | (simp; done) | (simp; omega)) _) | (with_reducible refine Below.drewN' ?_ _) | (with_reducible refine Below.drew ?_) | (with_reducible assumption) | refine Below.trans ?_ (Below.mono (by assumption) (by first | omega | (simp; done) | (simp; omega))))) (Nat.le_refl _)) hlv1_1).mono ?_; rintro e W18 ⟨pyW18x0, iyW18x0, qyW18x0, rfl, oyW18x0, hbW18⟩; obtain ⟨hchbW18, hfhbW18⟩ := bcellN hbW18 (W17.heap.size) (by first | omega | (simp; done) | (simp; omega)); have zhbW18 := hbW18.size; (try simp at zhbW18))
      | (go_at_call 13; refine (eqFunction_any _ _ _ _ _ _ _ ((ox10.drewN 1).below hbW18 (by first | omega | (simp; done) | (simp; omega))).ints oyW18x0.ints).mono ?_; rintro e W19 ⟨rfl, hbW19⟩; obtain ⟨hchbW19, hfhbW19⟩ := bcellN hbW19 (W17.heap.size) (by first | omega | (simp; done) | (simp; omega)); have zhbW19 := hbW19.size; (try simp at zhbW19))
    )
  have B1 : Below w.heap.size w W19 := (by repeat (first | exact Below.refl _ _ | (with_reducible refine Below.setCell ?_ (by first | omega | (simp; done) | (simp; omega)) _) | (with_reducible refine Below.alloc ?_ (by first | omega | (simp; done) | (simp; omega)) _) | (with_reducible refine Below.drewN' ?_ _) | (with_reducible refine Below.drew ?_) | (with_reducible assumption) | refine Below.trans ?_ (Below.mono (by assumption) (by first | omega | (simp; done) | (simp; omega)))))
  have zzW19 : W17.heap.size ≤ W19.heap.size := by omega
  have K0x : Blk W19 (w.heap.size) 24 #[.int .i64 n0_0, .slice av0_1 l0_1.length cv0_1] := (((K0.drewN 1).keep hbW18).keep hbW19)
  have K1x : Blk W19 (w.heap.size + 1) 24 #[.int .i64 n1_0, .slice av1_1 l1_1.length cv1_1] := (((K1.drewN 1).keep hbW18).keep hbW19)
  have K2x : Blk W19 (gb_w) 30 #[.int .i64 (cmK n0_0 l0_1 n1_0 l1_1), .int .i64 (cmA n0_0 l0_1 n1_0 l1_1), .slice pw0_0 iw0_0 qw0_0, .int .i64 (cmB n0_0 l0_1 n1_0 l1_1), .slice pw0_1 iw0_1 qw0_1, .int .i64 (0), .slice pw0_2 iw0_2 qw0_2, .int .i64 (cmP n0_0 l0_1 n1_0 l1_1), .int .i64 (cbS n0_0 l0_1 n1_0 l1_1), .slice pw0_3 iw0_3 qw0_3] := (((K2.drewN 1).keep hbW18).keep hbW19)
  have K3x : Blk W19 (W9.heap.size) 26 #[.int .i64 n0_0, .slice px00 ix00 qx00] := (((K3.drewN 1).keep hbW18).keep hbW19)
  have K4x : Blk W19 (W11.heap.size) 26 #[.int .i64 n1_0, .slice px10 ix10 qx10] := (((K4.drewN 1).keep hbW18).keep hbW19)
  have K5x : Blk W19 (W13.heap.size) 30 #[.int .i64 (cmK n0_0 l0_1 n1_0 l1_1), .int .i64 (cmA n0_0 l0_1 n1_0 l1_1), .slice pg0_0 ig0_0 qg0_0, .int .i64 (cmB n0_0 l0_1 n1_0 l1_1), .slice pg0_1 ig0_1 qg0_1, .int .i64 (0), .slice pg0_2 ig0_2 qg0_2, .int .i64 (cmP n0_0 l0_1 n1_0 l1_1), .int .i64 (cbS n0_0 l0_1 n1_0 l1_1), .slice pg0_3 ig0_3 qg0_3] := (((K5.drewN 1).keep hbW18).keep hbW19)
  have ow0_0x : OwnW 3 W4.heap.size W19 (.slice pw0_0 iw0_0 qw0_0) (cmL n0_0 l0_1 n1_0 l1_1) := (((ow0_0.drewN 1).keep hbW18).keep hbW19)
  have ow0_1x : OwnW 3 W4.heap.size W19 (.slice pw0_1 iw0_1 qw0_1) (cmM n0_0 l0_1 n1_0 l1_1) := (((ow0_1.drewN 1).keep hbW18).keep hbW19)
  have ow0_2x : OwnW 3 W4.heap.size W19 (.slice pw0_2 iw0_2 qw0_2) (([] : List Int)) := (((ow0_2.drewN 1).keep hbW18).keep hbW19)
  have ow0_3x : OwnW 3 W4.heap.size W19 (.slice pw0_3 iw0_3 qw0_3) (cmE n0_0 l0_1 n1_0 l1_1) := (((ow0_3.drewN 1).keep hbW18).keep hbW19)
  have ox00x : OwnW 3 V8.heap.size W19 (.slice px00 ix00 qx00) (l0_1) := (((ox00.drewN 1).keep hbW18).keep hbW19)
  have ox10x : OwnW 3 V10.heap.size W19 (.slice px10 ix10 qx10) (l1_1) := (((ox10.drewN 1).keep hbW18).keep hbW19)
  have og0_0x : OwnW 3 V12.heap.size W19 (.slice pg0_0 ig0_0 qg0_0) (cmL n0_0 l0_1 n1_0 l1_1) := (((og0_0.drewN 1).keep hbW18).keep hbW19)
  have og0_1x : OwnW 3 V12.heap.size W19 (.slice pg0_1 ig0_1 qg0_1) (cmM n0_0 l0_1 n1_0 l1_1) := (((og0_1.drewN 1).keep hbW18).keep hbW19)
  have og0_2x : OwnW 3 V12.heap.size W19 (.slice pg0_2 ig0_2 qg0_2) (([] : List Int)) := (((og0_2.drewN 1).keep hbW18).keep hbW19)
  have og0_3x : OwnW 3 V12.heap.size W19 (.slice pg0_3 ig0_3 qg0_3) (cmE n0_0 l0_1 n1_0 l1_1) := (((og0_3.drewN 1).keep hbW18).keep hbW19)
  clear B K0 K1 K2 K3 K4 K5 ow0_0 ow0_1 ow0_2 ow0_3 ox00 ox10 og0_0 og0_1 og0_2 og0_3 GK1 GK4 yK0 yK1 yK2 yK3 yK4 yK5 hchbW18 hfhbW18 hchbW19 hfhbW19
  have B := B1
  have K0 := K0x
  have K1 := K1x
  have K2 := K2x
  have K3 := K3x
  have K4 := K4x
  have K5 := K5x
  have ow0_0 := ow0_0x
  have ow0_1 := ow0_1x
  have ow0_2 := ow0_2x
  have ow0_3 := ow0_3x
  have ox00 := ox00x
  have ox10 := ox10x
  have og0_0 := og0_0x
  have og0_1 := og0_1x
  have og0_2 := og0_2x
  have og0_3 := og0_3x
  clear B1 K0x K1x K2x K3x K4x K5x ow0_0x ow0_1x ow0_2x ow0_3x ox00x ox10x og0_0x og0_1x og0_2x og0_3x
  try simp only [decide_true, Bool.and_self]
  have hlen0 := cmL_len n0_0 l0_1 n1_0 l1_1 hlv0_1
  have hlen1 := cmM_len n0_0 l0_1 n1_0 l1_1 hlv1_1
  have hlen2 := cmE_len n0_0 l0_1 n1_0 l1_1
  have hlen3 : ([] : List Int).length ≤ 1048576 := Nat.zero_le _
  have GK0 := K0.cell
  have ZK0 := K0.lt
  have GK1 := K1.cell
  have ZK1 := K1.lt
  have GK2 := K2.cell
  have ZK2 := K2.lt
  have GK3 := K3.cell
  have ZK3 := K3.lt
  have GK4 := K4.cell
  have ZK4 := K4.lt
  have GK5 := K5.cell
  have ZK5 := K5.lt
  go_wp2_with fail
  clear GK0 ZK0 GK1 ZK1 GK2 ZK2 GK3 ZK3 GK4 ZK4 GK5 ZK5
  refine calls_named ?_
  intro V20 hV
  have zV20 : W19.heap.size + 0 ≤ V20.heap.size := by rw [hV]; (first | exact Nat.le_refl _ | simp)
  have B1 : Below w.heap.size w V20 := by rw [hV]; first | exact B | exact B.alloc B.size _ | exact (B.alloc B.size _).alloc (by have := B.size; simp; omega) _
  have K0x : Blk V20 (w.heap.size) 24 #[.int .i64 n0_0, .slice av0_1 l0_1.length cv0_1] := by rw [hV]; first | exact K0 | exact K0.alloc _ | exact (K0.alloc _).alloc _
  have K1x : Blk V20 (w.heap.size + 1) 24 #[.int .i64 n1_0, .slice av1_1 l1_1.length cv1_1] := by rw [hV]; first | exact K1 | exact K1.alloc _ | exact (K1.alloc _).alloc _
  have K2x : Blk V20 (gb_w) 30 #[.int .i64 (cmK n0_0 l0_1 n1_0 l1_1), .int .i64 (cmA n0_0 l0_1 n1_0 l1_1), .slice pw0_0 iw0_0 qw0_0, .int .i64 (cmB n0_0 l0_1 n1_0 l1_1), .slice pw0_1 iw0_1 qw0_1, .int .i64 (0), .slice pw0_2 iw0_2 qw0_2, .int .i64 (cmP n0_0 l0_1 n1_0 l1_1), .int .i64 (cbS n0_0 l0_1 n1_0 l1_1), .slice pw0_3 iw0_3 qw0_3] := by rw [hV]; first | exact K2 | exact K2.alloc _ | exact (K2.alloc _).alloc _
  have K3x : Blk V20 (W9.heap.size) 26 #[.int .i64 n0_0, .slice px00 ix00 qx00] := by rw [hV]; first | exact K3 | exact K3.alloc _ | exact (K3.alloc _).alloc _
  have K4x : Blk V20 (W11.heap.size) 26 #[.int .i64 n1_0, .slice px10 ix10 qx10] := by rw [hV]; first | exact K4 | exact K4.alloc _ | exact (K4.alloc _).alloc _
  have K5x : Blk V20 (W13.heap.size) 30 #[.int .i64 (cmK n0_0 l0_1 n1_0 l1_1), .int .i64 (cmA n0_0 l0_1 n1_0 l1_1), .slice pg0_0 ig0_0 qg0_0, .int .i64 (cmB n0_0 l0_1 n1_0 l1_1), .slice pg0_1 ig0_1 qg0_1, .int .i64 (0), .slice pg0_2 ig0_2 qg0_2, .int .i64 (cmP n0_0 l0_1 n1_0 l1_1), .int .i64 (cbS n0_0 l0_1 n1_0 l1_1), .slice pg0_3 ig0_3 qg0_3] := by rw [hV]; first | exact K5 | exact K5.alloc _ | exact (K5.alloc _).alloc _
  have ow0_0x : OwnW 3 W4.heap.size V20 (.slice pw0_0 iw0_0 qw0_0) (cmL n0_0 l0_1 n1_0 l1_1) := by rw [hV]; first | exact ow0_0 | exact ow0_0.alloc _ | exact (ow0_0.alloc _).alloc _
  have ow0_1x : OwnW 3 W4.heap.size V20 (.slice pw0_1 iw0_1 qw0_1) (cmM n0_0 l0_1 n1_0 l1_1) := by rw [hV]; first | exact ow0_1 | exact ow0_1.alloc _ | exact (ow0_1.alloc _).alloc _
  have ow0_2x : OwnW 3 W4.heap.size V20 (.slice pw0_2 iw0_2 qw0_2) (([] : List Int)) := by rw [hV]; first | exact ow0_2 | exact ow0_2.alloc _ | exact (ow0_2.alloc _).alloc _
  have ow0_3x : OwnW 3 W4.heap.size V20 (.slice pw0_3 iw0_3 qw0_3) (cmE n0_0 l0_1 n1_0 l1_1) := by rw [hV]; first | exact ow0_3 | exact ow0_3.alloc _ | exact (ow0_3.alloc _).alloc _
  have ox00x : OwnW 3 V8.heap.size V20 (.slice px00 ix00 qx00) (l0_1) := by rw [hV]; first | exact ox00 | exact ox00.alloc _ | exact (ox00.alloc _).alloc _
  have ox10x : OwnW 3 V10.heap.size V20 (.slice px10 ix10 qx10) (l1_1) := by rw [hV]; first | exact ox10 | exact ox10.alloc _ | exact (ox10.alloc _).alloc _
  have og0_0x : OwnW 3 V12.heap.size V20 (.slice pg0_0 ig0_0 qg0_0) (cmL n0_0 l0_1 n1_0 l1_1) := by rw [hV]; first | exact og0_0 | exact og0_0.alloc _ | exact (og0_0.alloc _).alloc _
  have og0_1x : OwnW 3 V12.heap.size V20 (.slice pg0_1 ig0_1 qg0_1) (cmM n0_0 l0_1 n1_0 l1_1) := by rw [hV]; first | exact og0_1 | exact og0_1.alloc _ | exact (og0_1.alloc _).alloc _
  have og0_2x : OwnW 3 V12.heap.size V20 (.slice pg0_2 ig0_2 qg0_2) (([] : List Int)) := by rw [hV]; first | exact og0_2 | exact og0_2.alloc _ | exact (og0_2.alloc _).alloc _
  have og0_3x : OwnW 3 V12.heap.size V20 (.slice pg0_3 ig0_3 qg0_3) (cmE n0_0 l0_1 n1_0 l1_1) := by rw [hV]; first | exact og0_3 | exact og0_3.alloc _ | exact (og0_3.alloc _).alloc _
  clear B K0 K1 K2 K3 K4 K5 ow0_0 ow0_1 ow0_2 ow0_3 ox00 ox10 og0_0 og0_1 og0_2 og0_3
  have B := B1
  have K0 := K0x
  have K1 := K1x
  have K2 := K2x
  have K3 := K3x
  have K4 := K4x
  have K5 := K5x
  have ow0_0 := ow0_0x
  have ow0_1 := ow0_1x
  have ow0_2 := ow0_2x
  have ow0_3 := ow0_3x
  have ox00 := ox00x
  have ox10 := ox10x
  have og0_0 := og0_0x
  have og0_1 := og0_1x
  have og0_2 := og0_2x
  have og0_3 := og0_3x
  clear B1 K0x K1x K2x K3x K4x K5x ow0_0x ow0_1x ow0_2x ow0_3x ox00x ox10x og0_0x og0_1x og0_2x og0_3x
  clear hV
  refine (markFunction_any _ _ _ _ _ ox00 _ (by omega) (by omega) (by omega)).mono ?_
  rintro e W21 ⟨rfl, ox00x, hg⟩
  have zW21 : V20.heap.size ≤ W21.heap.size := hg.size
  have B1 := below_grow B hg B.size (by intro kk hk; have := r_x00 kk hk; omega)
  have K0x := K0.grow hg (by intro hk; have := r_x00 _ hk; omega)
  have K1x := K1.grow hg (by intro hk; have := r_x00 _ hk; omega)
  have K2x := K2.grow hg (by intro hk; have := r_x00 _ hk; omega)
  have K3x := K3.grow hg (by intro hk; have := r_x00 _ hk; omega)
  have K4x := K4.grow hg (by intro hk; have := r_x00 _ hk; omega)
  have K5x := K5.grow hg (by intro hk; have := r_x00 _ hk; omega)
  have ow0_0x := ow0_0.grow hg (by intro kk hk hk2; have := r_x00 kk hk; have := r_w0_0 kk hk2; omega)
  have ow0_1x := ow0_1.grow hg (by intro kk hk hk2; have := r_x00 kk hk; have := r_w0_1 kk hk2; omega)
  have ow0_2x := ow0_2.grow hg (by intro kk hk hk2; have := r_x00 kk hk; have := r_w0_2 kk hk2; omega)
  have ow0_3x := ow0_3.grow hg (by intro kk hk hk2; have := r_x00 kk hk; have := r_w0_3 kk hk2; omega)
  have ox10x := ox10.grow hg (by intro kk hk hk2; have := r_x00 kk hk; have := r_x10 kk hk2; omega)
  have og0_0x := og0_0.grow hg (by intro kk hk hk2; have := r_x00 kk hk; have := r_g0_0 kk hk2; omega)
  have og0_1x := og0_1.grow hg (by intro kk hk hk2; have := r_x00 kk hk; have := r_g0_1 kk hk2; omega)
  have og0_2x := og0_2.grow hg (by intro kk hk hk2; have := r_x00 kk hk; have := r_g0_2 kk hk2; omega)
  have og0_3x := og0_3.grow hg (by intro kk hk hk2; have := r_x00 kk hk; have := r_g0_3 kk hk2; omega)
  clear B hg K0 K1 K2 K3 K4 K5 ow0_0 ow0_1 ow0_2 ow0_3 ox00 ox10 og0_0 og0_1 og0_2 og0_3
  have B := B1
  have K0 := K0x
  have K1 := K1x
  have K2 := K2x
  have K3 := K3x
  have K4 := K4x
  have K5 := K5x
  have ow0_0 := ow0_0x
  have ow0_1 := ow0_1x
  have ow0_2 := ow0_2x
  have ow0_3 := ow0_3x
  have ox00 := ox00x
  have ox10 := ox10x
  have og0_0 := og0_0x
  have og0_1 := og0_1x
  have og0_2 := og0_2x
  have og0_3 := og0_3x
  clear B1 K0x K1x K2x K3x K4x K5x ow0_0x ow0_1x ow0_2x ow0_3x ox00x ox10x og0_0x og0_1x og0_2x og0_3x
  have GK0 := K0.cell
  have ZK0 := K0.lt
  have GK1 := K1.cell
  have ZK1 := K1.lt
  have GK2 := K2.cell
  have ZK2 := K2.lt
  have GK3 := K3.cell
  have ZK3 := K3.lt
  have GK4 := K4.cell
  have ZK4 := K4.lt
  have GK5 := K5.cell
  have ZK5 := K5.lt
  go_wp2_with fail
  clear GK0 ZK0 GK1 ZK1 GK2 ZK2 GK3 ZK3 GK4 ZK4 GK5 ZK5
  refine calls_named ?_
  intro V22 hV
  have zV22 : W21.heap.size + 0 ≤ V22.heap.size := by rw [hV]; (first | exact Nat.le_refl _ | simp)
  have B1 : Below w.heap.size w V22 := by rw [hV]; first | exact B | exact B.alloc B.size _ | exact (B.alloc B.size _).alloc (by have := B.size; simp; omega) _
  have K0x : Blk V22 (w.heap.size) 24 #[.int .i64 n0_0, .slice av0_1 l0_1.length cv0_1] := by rw [hV]; first | exact K0 | exact K0.alloc _ | exact (K0.alloc _).alloc _
  have K1x : Blk V22 (w.heap.size + 1) 24 #[.int .i64 n1_0, .slice av1_1 l1_1.length cv1_1] := by rw [hV]; first | exact K1 | exact K1.alloc _ | exact (K1.alloc _).alloc _
  have K2x : Blk V22 (gb_w) 30 #[.int .i64 (cmK n0_0 l0_1 n1_0 l1_1), .int .i64 (cmA n0_0 l0_1 n1_0 l1_1), .slice pw0_0 iw0_0 qw0_0, .int .i64 (cmB n0_0 l0_1 n1_0 l1_1), .slice pw0_1 iw0_1 qw0_1, .int .i64 (0), .slice pw0_2 iw0_2 qw0_2, .int .i64 (cmP n0_0 l0_1 n1_0 l1_1), .int .i64 (cbS n0_0 l0_1 n1_0 l1_1), .slice pw0_3 iw0_3 qw0_3] := by rw [hV]; first | exact K2 | exact K2.alloc _ | exact (K2.alloc _).alloc _
  have K3x : Blk V22 (W9.heap.size) 26 #[.int .i64 n0_0, .slice px00 ix00 qx00] := by rw [hV]; first | exact K3 | exact K3.alloc _ | exact (K3.alloc _).alloc _
  have K4x : Blk V22 (W11.heap.size) 26 #[.int .i64 n1_0, .slice px10 ix10 qx10] := by rw [hV]; first | exact K4 | exact K4.alloc _ | exact (K4.alloc _).alloc _
  have K5x : Blk V22 (W13.heap.size) 30 #[.int .i64 (cmK n0_0 l0_1 n1_0 l1_1), .int .i64 (cmA n0_0 l0_1 n1_0 l1_1), .slice pg0_0 ig0_0 qg0_0, .int .i64 (cmB n0_0 l0_1 n1_0 l1_1), .slice pg0_1 ig0_1 qg0_1, .int .i64 (0), .slice pg0_2 ig0_2 qg0_2, .int .i64 (cmP n0_0 l0_1 n1_0 l1_1), .int .i64 (cbS n0_0 l0_1 n1_0 l1_1), .slice pg0_3 ig0_3 qg0_3] := by rw [hV]; first | exact K5 | exact K5.alloc _ | exact (K5.alloc _).alloc _
  have ow0_0x : OwnW 3 W4.heap.size V22 (.slice pw0_0 iw0_0 qw0_0) (cmL n0_0 l0_1 n1_0 l1_1) := by rw [hV]; first | exact ow0_0 | exact ow0_0.alloc _ | exact (ow0_0.alloc _).alloc _
  have ow0_1x : OwnW 3 W4.heap.size V22 (.slice pw0_1 iw0_1 qw0_1) (cmM n0_0 l0_1 n1_0 l1_1) := by rw [hV]; first | exact ow0_1 | exact ow0_1.alloc _ | exact (ow0_1.alloc _).alloc _
  have ow0_2x : OwnW 3 W4.heap.size V22 (.slice pw0_2 iw0_2 qw0_2) (([] : List Int)) := by rw [hV]; first | exact ow0_2 | exact ow0_2.alloc _ | exact (ow0_2.alloc _).alloc _
  have ow0_3x : OwnW 3 W4.heap.size V22 (.slice pw0_3 iw0_3 qw0_3) (cmE n0_0 l0_1 n1_0 l1_1) := by rw [hV]; first | exact ow0_3 | exact ow0_3.alloc _ | exact (ow0_3.alloc _).alloc _
  have ox00x : OwnW 3 V8.heap.size V22 (.slice px00 ix00 qx00) (ramp (1) (l0_1).length) := by rw [hV]; first | exact ox00 | exact ox00.alloc _ | exact (ox00.alloc _).alloc _
  have ox10x : OwnW 3 V10.heap.size V22 (.slice px10 ix10 qx10) (l1_1) := by rw [hV]; first | exact ox10 | exact ox10.alloc _ | exact (ox10.alloc _).alloc _
  have og0_0x : OwnW 3 V12.heap.size V22 (.slice pg0_0 ig0_0 qg0_0) (cmL n0_0 l0_1 n1_0 l1_1) := by rw [hV]; first | exact og0_0 | exact og0_0.alloc _ | exact (og0_0.alloc _).alloc _
  have og0_1x : OwnW 3 V12.heap.size V22 (.slice pg0_1 ig0_1 qg0_1) (cmM n0_0 l0_1 n1_0 l1_1) := by rw [hV]; first | exact og0_1 | exact og0_1.alloc _ | exact (og0_1.alloc _).alloc _
  have og0_2x : OwnW 3 V12.heap.size V22 (.slice pg0_2 ig0_2 qg0_2) (([] : List Int)) := by rw [hV]; first | exact og0_2 | exact og0_2.alloc _ | exact (og0_2.alloc _).alloc _
  have og0_3x : OwnW 3 V12.heap.size V22 (.slice pg0_3 ig0_3 qg0_3) (cmE n0_0 l0_1 n1_0 l1_1) := by rw [hV]; first | exact og0_3 | exact og0_3.alloc _ | exact (og0_3.alloc _).alloc _
  clear B K0 K1 K2 K3 K4 K5 ow0_0 ow0_1 ow0_2 ow0_3 ox00 ox10 og0_0 og0_1 og0_2 og0_3
  have B := B1
  have K0 := K0x
  have K1 := K1x
  have K2 := K2x
  have K3 := K3x
  have K4 := K4x
  have K5 := K5x
  have ow0_0 := ow0_0x
  have ow0_1 := ow0_1x
  have ow0_2 := ow0_2x
  have ow0_3 := ow0_3x
  have ox00 := ox00x
  have ox10 := ox10x
  have og0_0 := og0_0x
  have og0_1 := og0_1x
  have og0_2 := og0_2x
  have og0_3 := og0_3x
  clear B1 K0x K1x K2x K3x K4x K5x ow0_0x ow0_1x ow0_2x ow0_3x ox00x ox10x og0_0x og0_1x og0_2x og0_3x
  clear hV
  refine (markFunction_any _ _ _ _ _ ox10 _ (by omega) (by omega) (by omega)).mono ?_
  rintro e W23 ⟨rfl, ox10x, hg⟩
  have zW23 : V22.heap.size ≤ W23.heap.size := hg.size
  have B1 := below_grow B hg B.size (by intro kk hk; have := r_x10 kk hk; omega)
  have K0x := K0.grow hg (by intro hk; have := r_x10 _ hk; omega)
  have K1x := K1.grow hg (by intro hk; have := r_x10 _ hk; omega)
  have K2x := K2.grow hg (by intro hk; have := r_x10 _ hk; omega)
  have K3x := K3.grow hg (by intro hk; have := r_x10 _ hk; omega)
  have K4x := K4.grow hg (by intro hk; have := r_x10 _ hk; omega)
  have K5x := K5.grow hg (by intro hk; have := r_x10 _ hk; omega)
  have ow0_0x := ow0_0.grow hg (by intro kk hk hk2; have := r_x10 kk hk; have := r_w0_0 kk hk2; omega)
  have ow0_1x := ow0_1.grow hg (by intro kk hk hk2; have := r_x10 kk hk; have := r_w0_1 kk hk2; omega)
  have ow0_2x := ow0_2.grow hg (by intro kk hk hk2; have := r_x10 kk hk; have := r_w0_2 kk hk2; omega)
  have ow0_3x := ow0_3.grow hg (by intro kk hk hk2; have := r_x10 kk hk; have := r_w0_3 kk hk2; omega)
  have ox00x := ox00.grow hg (by intro kk hk hk2; have := r_x10 kk hk; have := r_x00 kk hk2; omega)
  have og0_0x := og0_0.grow hg (by intro kk hk hk2; have := r_x10 kk hk; have := r_g0_0 kk hk2; omega)
  have og0_1x := og0_1.grow hg (by intro kk hk hk2; have := r_x10 kk hk; have := r_g0_1 kk hk2; omega)
  have og0_2x := og0_2.grow hg (by intro kk hk hk2; have := r_x10 kk hk; have := r_g0_2 kk hk2; omega)
  have og0_3x := og0_3.grow hg (by intro kk hk hk2; have := r_x10 kk hk; have := r_g0_3 kk hk2; omega)
  clear B hg K0 K1 K2 K3 K4 K5 ow0_0 ow0_1 ow0_2 ow0_3 ox00 ox10 og0_0 og0_1 og0_2 og0_3
  have B := B1
  have K0 := K0x
  have K1 := K1x
  have K2 := K2x
  have K3 := K3x
  have K4 := K4x
  have K5 := K5x
  have ow0_0 := ow0_0x
  have ow0_1 := ow0_1x
  have ow0_2 := ow0_2x
  have ow0_3 := ow0_3x
  have ox00 := ox00x
  have ox10 := ox10x
  have og0_0 := og0_0x
  have og0_1 := og0_1x
  have og0_2 := og0_2x
  have og0_3 := og0_3x
  clear B1 K0x K1x K2x K3x K4x K5x ow0_0x ow0_1x ow0_2x ow0_3x ox00x ox10x og0_0x og0_1x og0_2x og0_3x
  have GK0 := K0.cell
  have ZK0 := K0.lt
  have GK1 := K1.cell
  have ZK1 := K1.lt
  have GK2 := K2.cell
  have ZK2 := K2.lt
  have GK3 := K3.cell
  have ZK3 := K3.lt
  have GK4 := K4.cell
  have ZK4 := K4.lt
  have GK5 := K5.cell
  have ZK5 := K5.lt
  go_wp2_with fail
  clear GK0 ZK0 GK1 ZK1 GK2 ZK2 GK3 ZK3 GK4 ZK4 GK5 ZK5
  refine calls_named ?_
  intro V24 hV
  have zV24 : W23.heap.size + 0 ≤ V24.heap.size := by rw [hV]; (first | exact Nat.le_refl _ | simp)
  have B1 : Below w.heap.size w V24 := by rw [hV]; first | exact B | exact B.alloc B.size _ | exact (B.alloc B.size _).alloc (by have := B.size; simp; omega) _
  have K0x : Blk V24 (w.heap.size) 24 #[.int .i64 n0_0, .slice av0_1 l0_1.length cv0_1] := by rw [hV]; first | exact K0 | exact K0.alloc _ | exact (K0.alloc _).alloc _
  have K1x : Blk V24 (w.heap.size + 1) 24 #[.int .i64 n1_0, .slice av1_1 l1_1.length cv1_1] := by rw [hV]; first | exact K1 | exact K1.alloc _ | exact (K1.alloc _).alloc _
  have K2x : Blk V24 (gb_w) 30 #[.int .i64 (cmK n0_0 l0_1 n1_0 l1_1), .int .i64 (cmA n0_0 l0_1 n1_0 l1_1), .slice pw0_0 iw0_0 qw0_0, .int .i64 (cmB n0_0 l0_1 n1_0 l1_1), .slice pw0_1 iw0_1 qw0_1, .int .i64 (0), .slice pw0_2 iw0_2 qw0_2, .int .i64 (cmP n0_0 l0_1 n1_0 l1_1), .int .i64 (cbS n0_0 l0_1 n1_0 l1_1), .slice pw0_3 iw0_3 qw0_3] := by rw [hV]; first | exact K2 | exact K2.alloc _ | exact (K2.alloc _).alloc _
  have K3x : Blk V24 (W9.heap.size) 26 #[.int .i64 n0_0, .slice px00 ix00 qx00] := by rw [hV]; first | exact K3 | exact K3.alloc _ | exact (K3.alloc _).alloc _
  have K4x : Blk V24 (W11.heap.size) 26 #[.int .i64 n1_0, .slice px10 ix10 qx10] := by rw [hV]; first | exact K4 | exact K4.alloc _ | exact (K4.alloc _).alloc _
  have K5x : Blk V24 (W13.heap.size) 30 #[.int .i64 (cmK n0_0 l0_1 n1_0 l1_1), .int .i64 (cmA n0_0 l0_1 n1_0 l1_1), .slice pg0_0 ig0_0 qg0_0, .int .i64 (cmB n0_0 l0_1 n1_0 l1_1), .slice pg0_1 ig0_1 qg0_1, .int .i64 (0), .slice pg0_2 ig0_2 qg0_2, .int .i64 (cmP n0_0 l0_1 n1_0 l1_1), .int .i64 (cbS n0_0 l0_1 n1_0 l1_1), .slice pg0_3 ig0_3 qg0_3] := by rw [hV]; first | exact K5 | exact K5.alloc _ | exact (K5.alloc _).alloc _
  have ow0_0x : OwnW 3 W4.heap.size V24 (.slice pw0_0 iw0_0 qw0_0) (cmL n0_0 l0_1 n1_0 l1_1) := by rw [hV]; first | exact ow0_0 | exact ow0_0.alloc _ | exact (ow0_0.alloc _).alloc _
  have ow0_1x : OwnW 3 W4.heap.size V24 (.slice pw0_1 iw0_1 qw0_1) (cmM n0_0 l0_1 n1_0 l1_1) := by rw [hV]; first | exact ow0_1 | exact ow0_1.alloc _ | exact (ow0_1.alloc _).alloc _
  have ow0_2x : OwnW 3 W4.heap.size V24 (.slice pw0_2 iw0_2 qw0_2) (([] : List Int)) := by rw [hV]; first | exact ow0_2 | exact ow0_2.alloc _ | exact (ow0_2.alloc _).alloc _
  have ow0_3x : OwnW 3 W4.heap.size V24 (.slice pw0_3 iw0_3 qw0_3) (cmE n0_0 l0_1 n1_0 l1_1) := by rw [hV]; first | exact ow0_3 | exact ow0_3.alloc _ | exact (ow0_3.alloc _).alloc _
  have ox00x : OwnW 3 V8.heap.size V24 (.slice px00 ix00 qx00) (ramp (1) (l0_1).length) := by rw [hV]; first | exact ox00 | exact ox00.alloc _ | exact (ox00.alloc _).alloc _
  have ox10x : OwnW 3 V10.heap.size V24 (.slice px10 ix10 qx10) (ramp (1 + ((l0_1).length : Int)) (l1_1).length) := by rw [hV]; first | exact ox10 | exact ox10.alloc _ | exact (ox10.alloc _).alloc _
  have og0_0x : OwnW 3 V12.heap.size V24 (.slice pg0_0 ig0_0 qg0_0) (cmL n0_0 l0_1 n1_0 l1_1) := by rw [hV]; first | exact og0_0 | exact og0_0.alloc _ | exact (og0_0.alloc _).alloc _
  have og0_1x : OwnW 3 V12.heap.size V24 (.slice pg0_1 ig0_1 qg0_1) (cmM n0_0 l0_1 n1_0 l1_1) := by rw [hV]; first | exact og0_1 | exact og0_1.alloc _ | exact (og0_1.alloc _).alloc _
  have og0_2x : OwnW 3 V12.heap.size V24 (.slice pg0_2 ig0_2 qg0_2) (([] : List Int)) := by rw [hV]; first | exact og0_2 | exact og0_2.alloc _ | exact (og0_2.alloc _).alloc _
  have og0_3x : OwnW 3 V12.heap.size V24 (.slice pg0_3 ig0_3 qg0_3) (cmE n0_0 l0_1 n1_0 l1_1) := by rw [hV]; first | exact og0_3 | exact og0_3.alloc _ | exact (og0_3.alloc _).alloc _
  clear B K0 K1 K2 K3 K4 K5 ow0_0 ow0_1 ow0_2 ow0_3 ox00 ox10 og0_0 og0_1 og0_2 og0_3
  have B := B1
  have K0 := K0x
  have K1 := K1x
  have K2 := K2x
  have K3 := K3x
  have K4 := K4x
  have K5 := K5x
  have ow0_0 := ow0_0x
  have ow0_1 := ow0_1x
  have ow0_2 := ow0_2x
  have ow0_3 := ow0_3x
  have ox00 := ox00x
  have ox10 := ox10x
  have og0_0 := og0_0x
  have og0_1 := og0_1x
  have og0_2 := og0_2x
  have og0_3 := og0_3x
  clear B1 K0x K1x K2x K3x K4x K5x ow0_0x ow0_1x ow0_2x ow0_3x ox00x ox10x og0_0x og0_1x og0_2x og0_3x
  clear hV
  refine (eqClaim_c _ _ _ _ _ og0_0.ints _ _ _ og0_1.ints _ _ _ og0_2.ints _ _ _ _ og0_3.ints _ ow0_0.ints _ ow0_1.ints _ ow0_2.ints _ ow0_3.ints).mono ?_
  rintro e W25 ⟨rfl, hb⟩
  have zW25 : V24.heap.size ≤ W25.heap.size := hb.size
  have B1 := B.after hb B.size
  have K0x := K0.keep hb
  have K1x := K1.keep hb
  have K2x := K2.keep hb
  have K3x := K3.keep hb
  have K4x := K4.keep hb
  have K5x := K5.keep hb
  have ow0_0x := ow0_0.keep hb
  have ow0_1x := ow0_1.keep hb
  have ow0_2x := ow0_2.keep hb
  have ow0_3x := ow0_3.keep hb
  have ox00x := ox00.keep hb
  have ox10x := ox10.keep hb
  have og0_0x := og0_0.keep hb
  have og0_1x := og0_1.keep hb
  have og0_2x := og0_2.keep hb
  have og0_3x := og0_3.keep hb
  clear B K0 K1 K2 K3 K4 K5 ow0_0 ow0_1 ow0_2 ow0_3 ox00 ox10 og0_0 og0_1 og0_2 og0_3
  have B := B1
  have K0 := K0x
  have K1 := K1x
  have K2 := K2x
  have K3 := K3x
  have K4 := K4x
  have K5 := K5x
  have ow0_0 := ow0_0x
  have ow0_1 := ow0_1x
  have ow0_2 := ow0_2x
  have ow0_3 := ow0_3x
  have ox00 := ox00x
  have ox10 := ox10x
  have og0_0 := og0_0x
  have og0_1 := og0_1x
  have og0_2 := og0_2x
  have og0_3 := og0_3x
  clear B1 K0x K1x K2x K3x K4x K5x ow0_0x ow0_1x ow0_2x ow0_3x ox00x ox10x og0_0x og0_1x og0_2x og0_3x
  clear hb
  have GK0 := K0.cell
  have ZK0 := K0.lt
  have GK1 := K1.cell
  have ZK1 := K1.lt
  have GK2 := K2.cell
  have ZK2 := K2.lt
  have GK3 := K3.cell
  have ZK3 := K3.lt
  have GK4 := K4.cell
  have ZK4 := K4.lt
  have GK5 := K5.cell
  have ZK5 := K5.lt
  go_wp2_with fail
  clear GK0 ZK0 GK1 ZK1 GK2 ZK2 GK3 ZK3 GK4 ZK4 GK5 ZK5
  refine calls_named ?_
  intro V26 hV
  have zV26 : W25.heap.size + 0 ≤ V26.heap.size := by rw [hV]; (first | exact Nat.le_refl _ | simp)
  have B1 : Below w.heap.size w V26 := by rw [hV]; first | exact B | exact B.alloc B.size _ | exact (B.alloc B.size _).alloc (by have := B.size; simp; omega) _
  have K0x : Blk V26 (w.heap.size) 24 #[.int .i64 n0_0, .slice av0_1 l0_1.length cv0_1] := by rw [hV]; first | exact K0 | exact K0.alloc _ | exact (K0.alloc _).alloc _
  have K1x : Blk V26 (w.heap.size + 1) 24 #[.int .i64 n1_0, .slice av1_1 l1_1.length cv1_1] := by rw [hV]; first | exact K1 | exact K1.alloc _ | exact (K1.alloc _).alloc _
  have K2x : Blk V26 (gb_w) 30 #[.int .i64 (cmK n0_0 l0_1 n1_0 l1_1), .int .i64 (cmA n0_0 l0_1 n1_0 l1_1), .slice pw0_0 iw0_0 qw0_0, .int .i64 (cmB n0_0 l0_1 n1_0 l1_1), .slice pw0_1 iw0_1 qw0_1, .int .i64 (0), .slice pw0_2 iw0_2 qw0_2, .int .i64 (cmP n0_0 l0_1 n1_0 l1_1), .int .i64 (cbS n0_0 l0_1 n1_0 l1_1), .slice pw0_3 iw0_3 qw0_3] := by rw [hV]; first | exact K2 | exact K2.alloc _ | exact (K2.alloc _).alloc _
  have K3x : Blk V26 (W9.heap.size) 26 #[.int .i64 n0_0, .slice px00 ix00 qx00] := by rw [hV]; first | exact K3 | exact K3.alloc _ | exact (K3.alloc _).alloc _
  have K4x : Blk V26 (W11.heap.size) 26 #[.int .i64 n1_0, .slice px10 ix10 qx10] := by rw [hV]; first | exact K4 | exact K4.alloc _ | exact (K4.alloc _).alloc _
  have K5x : Blk V26 (W13.heap.size) 30 #[.int .i64 (cmK n0_0 l0_1 n1_0 l1_1), .int .i64 (cmA n0_0 l0_1 n1_0 l1_1), .slice pg0_0 ig0_0 qg0_0, .int .i64 (cmB n0_0 l0_1 n1_0 l1_1), .slice pg0_1 ig0_1 qg0_1, .int .i64 (0), .slice pg0_2 ig0_2 qg0_2, .int .i64 (cmP n0_0 l0_1 n1_0 l1_1), .int .i64 (cbS n0_0 l0_1 n1_0 l1_1), .slice pg0_3 ig0_3 qg0_3] := by rw [hV]; first | exact K5 | exact K5.alloc _ | exact (K5.alloc _).alloc _
  have ow0_0x : OwnW 3 W4.heap.size V26 (.slice pw0_0 iw0_0 qw0_0) (cmL n0_0 l0_1 n1_0 l1_1) := by rw [hV]; first | exact ow0_0 | exact ow0_0.alloc _ | exact (ow0_0.alloc _).alloc _
  have ow0_1x : OwnW 3 W4.heap.size V26 (.slice pw0_1 iw0_1 qw0_1) (cmM n0_0 l0_1 n1_0 l1_1) := by rw [hV]; first | exact ow0_1 | exact ow0_1.alloc _ | exact (ow0_1.alloc _).alloc _
  have ow0_2x : OwnW 3 W4.heap.size V26 (.slice pw0_2 iw0_2 qw0_2) (([] : List Int)) := by rw [hV]; first | exact ow0_2 | exact ow0_2.alloc _ | exact (ow0_2.alloc _).alloc _
  have ow0_3x : OwnW 3 W4.heap.size V26 (.slice pw0_3 iw0_3 qw0_3) (cmE n0_0 l0_1 n1_0 l1_1) := by rw [hV]; first | exact ow0_3 | exact ow0_3.alloc _ | exact (ow0_3.alloc _).alloc _
  have ox00x : OwnW 3 V8.heap.size V26 (.slice px00 ix00 qx00) (ramp (1) (l0_1).length) := by rw [hV]; first | exact ox00 | exact ox00.alloc _ | exact (ox00.alloc _).alloc _
  have ox10x : OwnW 3 V10.heap.size V26 (.slice px10 ix10 qx10) (ramp (1 + ((l0_1).length : Int)) (l1_1).length) := by rw [hV]; first | exact ox10 | exact ox10.alloc _ | exact (ox10.alloc _).alloc _
  have og0_0x : OwnW 3 V12.heap.size V26 (.slice pg0_0 ig0_0 qg0_0) (cmL n0_0 l0_1 n1_0 l1_1) := by rw [hV]; first | exact og0_0 | exact og0_0.alloc _ | exact (og0_0.alloc _).alloc _
  have og0_1x : OwnW 3 V12.heap.size V26 (.slice pg0_1 ig0_1 qg0_1) (cmM n0_0 l0_1 n1_0 l1_1) := by rw [hV]; first | exact og0_1 | exact og0_1.alloc _ | exact (og0_1.alloc _).alloc _
  have og0_2x : OwnW 3 V12.heap.size V26 (.slice pg0_2 ig0_2 qg0_2) (([] : List Int)) := by rw [hV]; first | exact og0_2 | exact og0_2.alloc _ | exact (og0_2.alloc _).alloc _
  have og0_3x : OwnW 3 V12.heap.size V26 (.slice pg0_3 ig0_3 qg0_3) (cmE n0_0 l0_1 n1_0 l1_1) := by rw [hV]; first | exact og0_3 | exact og0_3.alloc _ | exact (og0_3.alloc _).alloc _
  clear B K0 K1 K2 K3 K4 K5 ow0_0 ow0_1 ow0_2 ow0_3 ox00 ox10 og0_0 og0_1 og0_2 og0_3
  have B := B1
  have K0 := K0x
  have K1 := K1x
  have K2 := K2x
  have K3 := K3x
  have K4 := K4x
  have K5 := K5x
  have ow0_0 := ow0_0x
  have ow0_1 := ow0_1x
  have ow0_2 := ow0_2x
  have ow0_3 := ow0_3x
  have ox00 := ox00x
  have ox10 := ox10x
  have og0_0 := og0_0x
  have og0_1 := og0_1x
  have og0_2 := og0_2x
  have og0_3 := og0_3x
  clear B1 K0x K1x K2x K3x K4x K5x ow0_0x ow0_1x ow0_2x ow0_3x ox00x ox10x og0_0x og0_1x og0_2x og0_3x
  clear hV
  refine (markClaim_c _ _ _ _ _ _ og0_0 _ _ _ _ og0_1 _ _ _ _ og0_2 _ _ _ _ _ og0_3 ap_g.1 ap_g.2.1 ap_g.2.2.1 ap_g.2.2.2.1 ap_g.2.2.2.2.1 ap_g.2.2.2.2.2 _ (by omega) (by omega) (by omega) (by omega) (by omega) (by omega)).mono ?_
  rintro e W27 ⟨rfl, og0_0x, og0_1x, og0_2x, og0_3x, hg⟩
  have zW27 : V26.heap.size ≤ W27.heap.size := hg.size
  have B1 : Below w.heap.size w W27 := Below.growIn B hg B.size (by intro kk hk; rcases hk with h | h | h | h <;> first | (have := r_g0_0 kk h; omega) | (have := r_g0_1 kk h; omega) | (have := r_g0_2 kk h; omega) | (have := r_g0_3 kk h; omega))
  have K0x := K0.growIn hg (by intro hk; rcases hk with h | h | h | h <;> first | (have := r_g0_0 _ h; omega) | (have := r_g0_1 _ h; omega) | (have := r_g0_2 _ h; omega) | (have := r_g0_3 _ h; omega))
  have K1x := K1.growIn hg (by intro hk; rcases hk with h | h | h | h <;> first | (have := r_g0_0 _ h; omega) | (have := r_g0_1 _ h; omega) | (have := r_g0_2 _ h; omega) | (have := r_g0_3 _ h; omega))
  have K2x := K2.growIn hg (by intro hk; rcases hk with h | h | h | h <;> first | (have := r_g0_0 _ h; omega) | (have := r_g0_1 _ h; omega) | (have := r_g0_2 _ h; omega) | (have := r_g0_3 _ h; omega))
  have K3x := K3.growIn hg (by intro hk; rcases hk with h | h | h | h <;> first | (have := r_g0_0 _ h; omega) | (have := r_g0_1 _ h; omega) | (have := r_g0_2 _ h; omega) | (have := r_g0_3 _ h; omega))
  have K4x := K4.growIn hg (by intro hk; rcases hk with h | h | h | h <;> first | (have := r_g0_0 _ h; omega) | (have := r_g0_1 _ h; omega) | (have := r_g0_2 _ h; omega) | (have := r_g0_3 _ h; omega))
  have K5x := K5.growIn hg (by intro hk; rcases hk with h | h | h | h <;> first | (have := r_g0_0 _ h; omega) | (have := r_g0_1 _ h; omega) | (have := r_g0_2 _ h; omega) | (have := r_g0_3 _ h; omega))
  have ow0_0x := ow0_0.growIn hg (by intro kk hk hk2; have := r_w0_0 kk hk; rcases hk2 with h | h | h | h <;> first | (have := r_g0_0 kk h; omega) | (have := r_g0_1 kk h; omega) | (have := r_g0_2 kk h; omega) | (have := r_g0_3 kk h; omega))
  have ow0_1x := ow0_1.growIn hg (by intro kk hk hk2; have := r_w0_1 kk hk; rcases hk2 with h | h | h | h <;> first | (have := r_g0_0 kk h; omega) | (have := r_g0_1 kk h; omega) | (have := r_g0_2 kk h; omega) | (have := r_g0_3 kk h; omega))
  have ow0_2x := ow0_2.growIn hg (by intro kk hk hk2; have := r_w0_2 kk hk; rcases hk2 with h | h | h | h <;> first | (have := r_g0_0 kk h; omega) | (have := r_g0_1 kk h; omega) | (have := r_g0_2 kk h; omega) | (have := r_g0_3 kk h; omega))
  have ow0_3x := ow0_3.growIn hg (by intro kk hk hk2; have := r_w0_3 kk hk; rcases hk2 with h | h | h | h <;> first | (have := r_g0_0 kk h; omega) | (have := r_g0_1 kk h; omega) | (have := r_g0_2 kk h; omega) | (have := r_g0_3 kk h; omega))
  have ox00x := ox00.growIn hg (by intro kk hk hk2; have := r_x00 kk hk; rcases hk2 with h | h | h | h <;> first | (have := r_g0_0 kk h; omega) | (have := r_g0_1 kk h; omega) | (have := r_g0_2 kk h; omega) | (have := r_g0_3 kk h; omega))
  have ox10x := ox10.growIn hg (by intro kk hk hk2; have := r_x10 kk hk; rcases hk2 with h | h | h | h <;> first | (have := r_g0_0 kk h; omega) | (have := r_g0_1 kk h; omega) | (have := r_g0_2 kk h; omega) | (have := r_g0_3 kk h; omega))
  clear B hg K0 K1 K2 K3 K4 K5 ow0_0 ow0_1 ow0_2 ow0_3 ox00 ox10 og0_0 og0_1 og0_2 og0_3
  have B := B1
  have K0 := K0x
  have K1 := K1x
  have K2 := K2x
  have K3 := K3x
  have K4 := K4x
  have K5 := K5x
  have ow0_0 := ow0_0x
  have ow0_1 := ow0_1x
  have ow0_2 := ow0_2x
  have ow0_3 := ow0_3x
  have ox00 := ox00x
  have ox10 := ox10x
  have og0_0 := og0_0x
  have og0_1 := og0_1x
  have og0_2 := og0_2x
  have og0_3 := og0_3x
  clear B1 K0x K1x K2x K3x K4x K5x ow0_0x ow0_1x ow0_2x ow0_3x ox00x ox10x og0_0x og0_1x og0_2x og0_3x
  have GK0 := K0.cell
  have ZK0 := K0.lt
  have GK1 := K1.cell
  have ZK1 := K1.lt
  have GK2 := K2.cell
  have ZK2 := K2.lt
  have GK3 := K3.cell
  have ZK3 := K3.lt
  have GK4 := K4.cell
  have ZK4 := K4.lt
  have GK5 := K5.cell
  have ZK5 := K5.lt
  go_wp2_with fail
  clear GK0 ZK0 GK1 ZK1 GK2 ZK2 GK3 ZK3 GK4 ZK4 GK5 ZK5
  refine calls_named ?_
  intro V28 hV
  have zV28 : W27.heap.size + 0 ≤ V28.heap.size := by rw [hV]; (first | exact Nat.le_refl _ | simp)
  have B1 : Below w.heap.size w V28 := by rw [hV]; first | exact B | exact B.alloc B.size _ | exact (B.alloc B.size _).alloc (by have := B.size; simp; omega) _
  have K0x : Blk V28 (w.heap.size) 24 #[.int .i64 n0_0, .slice av0_1 l0_1.length cv0_1] := by rw [hV]; first | exact K0 | exact K0.alloc _ | exact (K0.alloc _).alloc _
  have K1x : Blk V28 (w.heap.size + 1) 24 #[.int .i64 n1_0, .slice av1_1 l1_1.length cv1_1] := by rw [hV]; first | exact K1 | exact K1.alloc _ | exact (K1.alloc _).alloc _
  have K2x : Blk V28 (gb_w) 30 #[.int .i64 (cmK n0_0 l0_1 n1_0 l1_1), .int .i64 (cmA n0_0 l0_1 n1_0 l1_1), .slice pw0_0 iw0_0 qw0_0, .int .i64 (cmB n0_0 l0_1 n1_0 l1_1), .slice pw0_1 iw0_1 qw0_1, .int .i64 (0), .slice pw0_2 iw0_2 qw0_2, .int .i64 (cmP n0_0 l0_1 n1_0 l1_1), .int .i64 (cbS n0_0 l0_1 n1_0 l1_1), .slice pw0_3 iw0_3 qw0_3] := by rw [hV]; first | exact K2 | exact K2.alloc _ | exact (K2.alloc _).alloc _
  have K3x : Blk V28 (W9.heap.size) 26 #[.int .i64 n0_0, .slice px00 ix00 qx00] := by rw [hV]; first | exact K3 | exact K3.alloc _ | exact (K3.alloc _).alloc _
  have K4x : Blk V28 (W11.heap.size) 26 #[.int .i64 n1_0, .slice px10 ix10 qx10] := by rw [hV]; first | exact K4 | exact K4.alloc _ | exact (K4.alloc _).alloc _
  have K5x : Blk V28 (W13.heap.size) 30 #[.int .i64 (cmK n0_0 l0_1 n1_0 l1_1), .int .i64 (cmA n0_0 l0_1 n1_0 l1_1), .slice pg0_0 ig0_0 qg0_0, .int .i64 (cmB n0_0 l0_1 n1_0 l1_1), .slice pg0_1 ig0_1 qg0_1, .int .i64 (0), .slice pg0_2 ig0_2 qg0_2, .int .i64 (cmP n0_0 l0_1 n1_0 l1_1), .int .i64 (cbS n0_0 l0_1 n1_0 l1_1), .slice pg0_3 ig0_3 qg0_3] := by rw [hV]; first | exact K5 | exact K5.alloc _ | exact (K5.alloc _).alloc _
  have ow0_0x : OwnW 3 W4.heap.size V28 (.slice pw0_0 iw0_0 qw0_0) (cmL n0_0 l0_1 n1_0 l1_1) := by rw [hV]; first | exact ow0_0 | exact ow0_0.alloc _ | exact (ow0_0.alloc _).alloc _
  have ow0_1x : OwnW 3 W4.heap.size V28 (.slice pw0_1 iw0_1 qw0_1) (cmM n0_0 l0_1 n1_0 l1_1) := by rw [hV]; first | exact ow0_1 | exact ow0_1.alloc _ | exact (ow0_1.alloc _).alloc _
  have ow0_2x : OwnW 3 W4.heap.size V28 (.slice pw0_2 iw0_2 qw0_2) (([] : List Int)) := by rw [hV]; first | exact ow0_2 | exact ow0_2.alloc _ | exact (ow0_2.alloc _).alloc _
  have ow0_3x : OwnW 3 W4.heap.size V28 (.slice pw0_3 iw0_3 qw0_3) (cmE n0_0 l0_1 n1_0 l1_1) := by rw [hV]; first | exact ow0_3 | exact ow0_3.alloc _ | exact (ow0_3.alloc _).alloc _
  have ox00x : OwnW 3 V8.heap.size V28 (.slice px00 ix00 qx00) (ramp (1) (l0_1).length) := by rw [hV]; first | exact ox00 | exact ox00.alloc _ | exact (ox00.alloc _).alloc _
  have ox10x : OwnW 3 V10.heap.size V28 (.slice px10 ix10 qx10) (ramp (1 + ((l0_1).length : Int)) (l1_1).length) := by rw [hV]; first | exact ox10 | exact ox10.alloc _ | exact (ox10.alloc _).alloc _
  have og0_0x : OwnW 3 V12.heap.size V28 (.slice pg0_0 ig0_0 qg0_0) (ramp (1) (cmL n0_0 l0_1 n1_0 l1_1).length) := by rw [hV]; first | exact og0_0 | exact og0_0.alloc _ | exact (og0_0.alloc _).alloc _
  have og0_1x : OwnW 3 V12.heap.size V28 (.slice pg0_1 ig0_1 qg0_1) (ramp (1 + ((cmL n0_0 l0_1 n1_0 l1_1).length : Int)) (cmM n0_0 l0_1 n1_0 l1_1).length) := by rw [hV]; first | exact og0_1 | exact og0_1.alloc _ | exact (og0_1.alloc _).alloc _
  have og0_2x : OwnW 3 V12.heap.size V28 (.slice pg0_2 ig0_2 qg0_2) (ramp (1 + ((cmL n0_0 l0_1 n1_0 l1_1).length : Int) + ((cmM n0_0 l0_1 n1_0 l1_1).length : Int)) (([] : List Int)).length) := by rw [hV]; first | exact og0_2 | exact og0_2.alloc _ | exact (og0_2.alloc _).alloc _
  have og0_3x : OwnW 3 V12.heap.size V28 (.slice pg0_3 ig0_3 qg0_3) (ramp (1 + ((cmL n0_0 l0_1 n1_0 l1_1).length : Int) + ((cmM n0_0 l0_1 n1_0 l1_1).length : Int) + ((([] : List Int)).length : Int)) (cmE n0_0 l0_1 n1_0 l1_1).length) := by rw [hV]; first | exact og0_3 | exact og0_3.alloc _ | exact (og0_3.alloc _).alloc _
  clear B K0 K1 K2 K3 K4 K5 ow0_0 ow0_1 ow0_2 ow0_3 ox00 ox10 og0_0 og0_1 og0_2 og0_3
  have B := B1
  have K0 := K0x
  have K1 := K1x
  have K2 := K2x
  have K3 := K3x
  have K4 := K4x
  have K5 := K5x
  have ow0_0 := ow0_0x
  have ow0_1 := ow0_1x
  have ow0_2 := ow0_2x
  have ow0_3 := ow0_3x
  have ox00 := ox00x
  have ox10 := ox10x
  have og0_0 := og0_0x
  have og0_1 := og0_1x
  have og0_2 := og0_2x
  have og0_3 := og0_3x
  clear B1 K0x K1x K2x K3x K4x K5x ow0_0x ow0_1x ow0_2x ow0_3x ox00x ox10x og0_0x og0_1x og0_2x og0_3x
  clear hV
  refine (heldClaim_c _ _ _ _ _ _ _ _ _ _ _ _ _ _ _ _ og0_0.ints og0_1.ints og0_2.ints og0_3.ints (by omega) (by omega) (by omega) (by omega) (by omega) (by omega)).mono ?_
  rintro e W29 ⟨rfl, hb⟩
  have zW29 : V28.heap.size ≤ W29.heap.size := hb.size
  have B1 := B.after hb B.size
  have K0x := K0.keep hb
  have K1x := K1.keep hb
  have K2x := K2.keep hb
  have K3x := K3.keep hb
  have K4x := K4.keep hb
  have K5x := K5.keep hb
  have ow0_0x := ow0_0.keep hb
  have ow0_1x := ow0_1.keep hb
  have ow0_2x := ow0_2.keep hb
  have ow0_3x := ow0_3.keep hb
  have ox00x := ox00.keep hb
  have ox10x := ox10.keep hb
  have og0_0x := og0_0.keep hb
  have og0_1x := og0_1.keep hb
  have og0_2x := og0_2.keep hb
  have og0_3x := og0_3.keep hb
  clear B K0 K1 K2 K3 K4 K5 ow0_0 ow0_1 ow0_2 ow0_3 ox00 ox10 og0_0 og0_1 og0_2 og0_3
  have B := B1
  have K0 := K0x
  have K1 := K1x
  have K2 := K2x
  have K3 := K3x
  have K4 := K4x
  have K5 := K5x
  have ow0_0 := ow0_0x
  have ow0_1 := ow0_1x
  have ow0_2 := ow0_2x
  have ow0_3 := ow0_3x
  have ox00 := ox00x
  have ox10 := ox10x
  have og0_0 := og0_0x
  have og0_1 := og0_1x
  have og0_2 := og0_2x
  have og0_3 := og0_3x
  clear B1 K0x K1x K2x K3x K4x K5x ow0_0x ow0_1x ow0_2x ow0_3x ox00x ox10x og0_0x og0_1x og0_2x og0_3x
  clear hb
  have GK0 := K0.cell
  have ZK0 := K0.lt
  have GK1 := K1.cell
  have ZK1 := K1.lt
  have GK2 := K2.cell
  have ZK2 := K2.lt
  have GK3 := K3.cell
  have ZK3 := K3.lt
  have GK4 := K4.cell
  have ZK4 := K4.lt
  have GK5 := K5.cell
  have ZK5 := K5.lt
  go_wp2_with fail
  clear GK0 ZK0 GK1 ZK1 GK2 ZK2 GK3 ZK3 GK4 ZK4 GK5 ZK5
  have yK0 := K0.lt
  have yK1 := K1.lt
  have yK2 := K2.lt
  have yK3 := K3.lt
  have yK4 := K4.lt
  have yK5 := K5.lt
  have GK0 := K0.cell
  have GK1 := K1.cell
  go_cut [15, 16] from 94 (fun fp ok wc => ∃ (gb_h : Nat) (ph0_0 : Option Addr) (ih0_0 qh0_0 : Nat) (ph0_1 : Option Addr) (ih0_1 qh0_1 : Nat) (ph0_2 : Option Addr) (ih0_2 qh0_2 : Nat) (ph0_3 : Option Addr) (ih0_3 qh0_3 : Nat), fp = .pointer (some ⟨gb_h, 0, none⟩) ∧ ok = .bool (comB n0_0 l0_1 n1_0 l1_1) ∧ W29.heap.size ≤ gb_h ∧ Blk wc gb_h 30 #[.int .i64 (cmK n0_0 l0_1 n1_0 l1_1), .int .i64 (cmA n0_0 l0_1 n1_0 l1_1), .slice ph0_0 ih0_0 qh0_0, .int .i64 (cmB n0_0 l0_1 n1_0 l1_1), .slice ph0_1 ih0_1 qh0_1, .int .i64 (0), .slice ph0_2 ih0_2 qh0_2, .int .i64 (cmP n0_0 l0_1 n1_0 l1_1), .int .i64 (cbS n0_0 l0_1 n1_0 l1_1), .slice ph0_3 ih0_3 qh0_3] ∧ OwnW 3 W29.heap.size wc (.slice ph0_0 ih0_0 qh0_0) (cmL n0_0 l0_1 n1_0 l1_1) ∧ OwnW 3 W29.heap.size wc (.slice ph0_1 ih0_1 qh0_1) (cmM n0_0 l0_1 n1_0 l1_1) ∧ OwnW 3 W29.heap.size wc (.slice ph0_2 ih0_2 qh0_2) (([] : List Int)) ∧ OwnW 3 W29.heap.size wc (.slice ph0_3 ih0_3 qh0_3) (cmE n0_0 l0_1 n1_0 l1_1) ∧ (Apart (.slice ph0_0 ih0_0 qh0_0) (.slice ph0_1 ih0_1 qh0_1) ∧ Apart (.slice ph0_0 ih0_0 qh0_0) (.slice ph0_2 ih0_2 qh0_2) ∧ Apart (.slice ph0_0 ih0_0 qh0_0) (.slice ph0_3 ih0_3 qh0_3) ∧ Apart (.slice ph0_1 ih0_1 qh0_1) (.slice ph0_2 ih0_2 qh0_2) ∧ Apart (.slice ph0_1 ih0_1 qh0_1) (.slice ph0_3 ih0_3 qh0_3) ∧ Apart (.slice ph0_2 ih0_2 qh0_2) (.slice ph0_3 ih0_3 qh0_3)) ∧ Below W29.heap.size W29 wc)
  case first =>
    have bd : Below W29.heap.size W29 W29.drew := (Below.refl _ _).drew
    have hA0 : Ints W29.drew (.slice av0_1 l0_1.length cv0_1) l0_1 := (hv0_1.below B (Nat.le_refl _)).keep bd
    have hI0 : Ints W29 (.slice av0_1 l0_1.length cv0_1) l0_1 := hv0_1.below B (Nat.le_refl _)
    have hI1 : Ints W29 (.slice av1_1 l1_1.length cv1_1) l1_1 := hv1_1.below B (Nat.le_refl _)
    have KD0 : Blk W29.drew (w.heap.size) 24 #[.int .i64 n0_0, .slice av0_1 l0_1.length cv0_1] := K0
    have KD1 : Blk W29.drew (w.heap.size + 1) 24 #[.int .i64 n1_0, .slice av1_1 l1_1.length cv1_1] := K1
    have GA0 := fun o => (K0.alloc o).cell
    have GA1 := fun o => (K1.alloc o).cell
    go_region_law
      (first
        | (go_simp; go_at_call_of 10 (Value.slice av0_1 l0_1.length cv0_1); refine (toFunction_any n0_0 _ l0_1 _ ?_ hlv0_1).mono ?_; (first | (with_reducible exact hA0) | (with_reducible exact hA0.alloc _) | (with_reducible exact (hI0.alloc _).drew')); rintro e X5 ⟨px5, ix5, qx5, rfl, o5, hb5⟩; (first | (have Bx5 := bd.after hb5 (Nat.le_refl _)) | (have Bx5 := (bd.alloc bd.size _).after hb5 (bd.alloc bd.size _).size) | (have Bx5 := ((bl1 W29 _).drew).after hb5 ((bl1 W29 _).drew).size)); have i5 := hI1.keep Bx5; have KX1 := K1.keep Bx5; have GX1 := KX1.cell; have GY1 := fun o => (KX1.alloc o).cell; (first | (have KB : Blk X5 W29.heap.size 30 #[.int .i64 0, .int .i64 0, .slice none 0 0, .int .i64 0, .slice none 0 0, .int .i64 0, .slice none 0 0, .int .i64 0, .int .i64 0, .slice none 0 0] := ((Blk.new W29 30 #[.int .i64 0, .int .i64 0, .slice none 0 0, .int .i64 0, .slice none 0 0, .int .i64 0, .slice none 0 0, .int .i64 0, .int .i64 0, .slice none 0 0]).drew').keep hb5) | (have KB : Blk X5 W29.heap.size 30 #[.int .i64 0, .int .i64 0, .slice none 0 0, .int .i64 0, .slice none 0 0, .int .i64 0, .slice none 0 0, .int .i64 0, .int .i64 0, .slice none 0 0] := (Blk.new W29.drew 30 #[.int .i64 0, .int .i64 0, .slice none 0 0, .int .i64 0, .slice none 0 0, .int .i64 0, .slice none 0 0, .int .i64 0, .int .i64 0, .slice none 0 0]).keep hb5) | (have KB := True.intro)))
        | (go_simp; go_at_call_of 10 (Value.slice av1_1 l1_1.length cv1_1); refine (toFunction_any n1_0 _ l1_1 _ ?_ hlv1_1).mono ?_; (first | (with_reducible exact i5) | (with_reducible exact i5.alloc _)); rintro e X6 ⟨px6, ix6, qx6, rfl, o6, hb6⟩; (first | (have Bx6 := Bx5.after hb6 Bx5.size) | (have Bx6 := (Bx5.alloc Bx5.size _).after hb6 (Bx5.alloc Bx5.size _).size)); (first | (have o56 := o5.keep hb6) | (have o56 := (o5.alloc _).keep hb6)); (first | (have KB := KB.keep hb6) | (have KB := (Blk.new X5 30 #[.int .i64 0, .int .i64 0, .slice none 0 0, .int .i64 0, .slice none 0 0, .int .i64 0, .slice none 0 0, .int .i64 0, .int .i64 0, .slice none 0 0]).keep hb6) | (have KB := True.intro)))
        | (go_simp; go_at_call 11; refine (claimComI_c _ n0_0 _ l0_1 ?_ hlv0_1 n1_0 _ l1_1 ?_ hlv1_1).mono ?_; (first | (with_reducible exact o56.ints) | (with_reducible exact (o56.alloc _).ints)); (first | (with_reducible exact o6.ints) | (with_reducible exact (o6.alloc _).ints)); rintro e X7 ⟨ph0_0, ih0_0, qh0_0, ph0_1, ih0_1, qh0_1, ph0_2, ih0_2, qh0_2, ph0_3, ih0_3, qh0_3, rfl, y0, y1, y2, y3, ap, hb7⟩; (first | (have Bx7 := Bx6.after hb7 Bx6.size) | (have Bx7 := (Bx6.alloc Bx6.size _).after hb7 (Bx6.alloc Bx6.size _).size)); (first | (have KB := KB.keep hb7) | (have KB := (Blk.new X6 30 #[.int .i64 0, .int .i64 0, .slice none 0 0, .int .i64 0, .slice none 0 0, .int .i64 0, .slice none 0 0, .int .i64 0, .int .i64 0, .slice none 0 0]).keep hb7) | (have KB := True.intro)); (first | (have GB := KB.cell; have FB := KB.frozen) | skip)))
    all_goals
      have bs6 := Bx6.size
      have t0 : OwnW 3 W29.heap.size X7 (.slice ph0_0 ih0_0 qh0_0) (cmL n0_0 l0_1 n1_0 l1_1) := y0.mono (by first | exact bs6 | (simp; omega))
      have t1 : OwnW 3 W29.heap.size X7 (.slice ph0_1 ih0_1 qh0_1) (cmM n0_0 l0_1 n1_0 l1_1) := y1.mono (by first | exact bs6 | (simp; omega))
      have t2 : OwnW 3 W29.heap.size X7 (.slice ph0_2 ih0_2 qh0_2) (([] : List Int)) := y2.mono (by first | exact bs6 | (simp; omega))
      have t3 : OwnW 3 W29.heap.size X7 (.slice ph0_3 ih0_3 qh0_3) (cmE n0_0 l0_1 n1_0 l1_1) := y3.mono (by first | exact bs6 | (simp; omega))
      go_wp2
      go_meet
      case rel =>
        first
          | (have hcc := claim_cut (cmK n0_0 l0_1 n1_0 l1_1) (cmA n0_0 l0_1 n1_0 l1_1) (cmB n0_0 l0_1 n1_0 l1_1) 0 (cmP n0_0 l0_1 n1_0 l1_1) (cbS n0_0 l0_1 n1_0 l1_1) KB t0 t1 t2 t3 Bx7 (by first | exact Nat.le_refl _ | exact Bx5.size | exact Bx6.size)
             obtain ⟨KF, f0, f1, f2, f3, BF⟩ := hcc
             exact ⟨_, ph0_0, ih0_0, qh0_0, ph0_1, ih0_1, qh0_1, ph0_2, ih0_2, qh0_2, ph0_3, ih0_3, qh0_3, rfl, rfl, (by first | exact Nat.le_refl _ | exact Bx5.size | exact Bx6.size), KF, f0, f1, f2, f3, ap, BF⟩)
          | exact ⟨_, ph0_0, ih0_0, qh0_0, ph0_1, ih0_1, qh0_1, ph0_2, ih0_2, qh0_2, ph0_3, ih0_3, qh0_3, rfl, rfl, Bx7.size, Blk.new _ _ _, t0.alloc _, t1.alloc _, t2.alloc _, t3.alloc _, ap, Bx7.alloc Bx7.size _⟩
  case rest =>
  obtain ⟨gb_h, ph0_0, ih0_0, qh0_0, ph0_1, ih0_1, qh0_1, ph0_2, ih0_2, qh0_2, ph0_3, ih0_3, qh0_3, rfl, rfl, hgb_h, KC_h, oh0_0, oh0_1, oh0_2, oh0_3, ap_h, Bc⟩ := hcut
  replace B := B.after Bc B.size
  replace K0 := K0.keep Bc
  replace K1 := K1.keep Bc
  replace K2 := K2.keep Bc
  replace K3 := K3.keep Bc
  replace K4 := K4.keep Bc
  replace K5 := K5.keep Bc
  replace ow0_0 := ow0_0.keep Bc
  replace ow0_1 := ow0_1.keep Bc
  replace ow0_2 := ow0_2.keep Bc
  replace ow0_3 := ow0_3.keep Bc
  replace ox00 := ox00.keep Bc
  replace ox10 := ox10.keep Bc
  replace og0_0 := og0_0.keep Bc
  replace og0_1 := og0_1.keep Bc
  replace og0_2 := og0_2.keep Bc
  replace og0_3 := og0_3.keep Bc
  have zc_h := Bc.size
  have zk_h := KC_h.lt
  have zzW32 : W29.heap.size ≤ wc.heap.size := Bc.size
  obtain ⟨W32, hWh⟩ : ∃ W : World, W = wc := ⟨_, rfl⟩
  subst hWh
  clear Bc GK0 GK1
  have r_h0_0 := oh0_0.lt
  have r_h0_1 := oh0_1.lt
  have r_h0_2 := oh0_2.lt
  have r_h0_3 := oh0_3.lt
  have GK0 := K0.cell
  have ZK0 := K0.lt
  have GK1 := K1.cell
  have ZK1 := K1.lt
  have GK2 := K2.cell
  have ZK2 := K2.lt
  have GK3 := K3.cell
  have ZK3 := K3.lt
  have GK4 := K4.cell
  have ZK4 := K4.lt
  have GK5 := K5.cell
  have ZK5 := K5.lt
  have GCH := KC_h.cell
  go_wp2_with fail
  clear GCH
  clear GK0 ZK0 GK1 ZK1 GK2 ZK2 GK3 ZK3 GK4 ZK4 GK5 ZK5
  refine calls_named ?_
  intro V33 hV
  have zV33 : gb_h + 1 ≤ V33.heap.size := by rw [hV]; exact zk_h
  have zV33b : W32.heap.size ≤ V33.heap.size := by rw [hV]; exact Nat.le_refl _
  have B1 : Below w.heap.size w V33 := by rw [hV]; first | exact B | exact B.alloc B.size _ | exact (B.alloc B.size _).alloc (by have := B.size; simp; omega) _
  have K0x : Blk V33 (w.heap.size) 24 #[.int .i64 n0_0, .slice av0_1 l0_1.length cv0_1] := by rw [hV]; first | exact K0 | exact K0.alloc _ | exact (K0.alloc _).alloc _
  have K1x : Blk V33 (w.heap.size + 1) 24 #[.int .i64 n1_0, .slice av1_1 l1_1.length cv1_1] := by rw [hV]; first | exact K1 | exact K1.alloc _ | exact (K1.alloc _).alloc _
  have K2x : Blk V33 (gb_w) 30 #[.int .i64 (cmK n0_0 l0_1 n1_0 l1_1), .int .i64 (cmA n0_0 l0_1 n1_0 l1_1), .slice pw0_0 iw0_0 qw0_0, .int .i64 (cmB n0_0 l0_1 n1_0 l1_1), .slice pw0_1 iw0_1 qw0_1, .int .i64 (0), .slice pw0_2 iw0_2 qw0_2, .int .i64 (cmP n0_0 l0_1 n1_0 l1_1), .int .i64 (cbS n0_0 l0_1 n1_0 l1_1), .slice pw0_3 iw0_3 qw0_3] := by rw [hV]; first | exact K2 | exact K2.alloc _ | exact (K2.alloc _).alloc _
  have K3x : Blk V33 (W9.heap.size) 26 #[.int .i64 n0_0, .slice px00 ix00 qx00] := by rw [hV]; first | exact K3 | exact K3.alloc _ | exact (K3.alloc _).alloc _
  have K4x : Blk V33 (W11.heap.size) 26 #[.int .i64 n1_0, .slice px10 ix10 qx10] := by rw [hV]; first | exact K4 | exact K4.alloc _ | exact (K4.alloc _).alloc _
  have K5x : Blk V33 (W13.heap.size) 30 #[.int .i64 (cmK n0_0 l0_1 n1_0 l1_1), .int .i64 (cmA n0_0 l0_1 n1_0 l1_1), .slice pg0_0 ig0_0 qg0_0, .int .i64 (cmB n0_0 l0_1 n1_0 l1_1), .slice pg0_1 ig0_1 qg0_1, .int .i64 (0), .slice pg0_2 ig0_2 qg0_2, .int .i64 (cmP n0_0 l0_1 n1_0 l1_1), .int .i64 (cbS n0_0 l0_1 n1_0 l1_1), .slice pg0_3 ig0_3 qg0_3] := by rw [hV]; first | exact K5 | exact K5.alloc _ | exact (K5.alloc _).alloc _
  have ow0_0x : OwnW 3 W4.heap.size V33 (.slice pw0_0 iw0_0 qw0_0) (cmL n0_0 l0_1 n1_0 l1_1) := by rw [hV]; first | exact ow0_0 | exact ow0_0.alloc _ | exact (ow0_0.alloc _).alloc _
  have ow0_1x : OwnW 3 W4.heap.size V33 (.slice pw0_1 iw0_1 qw0_1) (cmM n0_0 l0_1 n1_0 l1_1) := by rw [hV]; first | exact ow0_1 | exact ow0_1.alloc _ | exact (ow0_1.alloc _).alloc _
  have ow0_2x : OwnW 3 W4.heap.size V33 (.slice pw0_2 iw0_2 qw0_2) (([] : List Int)) := by rw [hV]; first | exact ow0_2 | exact ow0_2.alloc _ | exact (ow0_2.alloc _).alloc _
  have ow0_3x : OwnW 3 W4.heap.size V33 (.slice pw0_3 iw0_3 qw0_3) (cmE n0_0 l0_1 n1_0 l1_1) := by rw [hV]; first | exact ow0_3 | exact ow0_3.alloc _ | exact (ow0_3.alloc _).alloc _
  have ox00x : OwnW 3 V8.heap.size V33 (.slice px00 ix00 qx00) (ramp (1) (l0_1).length) := by rw [hV]; first | exact ox00 | exact ox00.alloc _ | exact (ox00.alloc _).alloc _
  have ox10x : OwnW 3 V10.heap.size V33 (.slice px10 ix10 qx10) (ramp (1 + ((l0_1).length : Int)) (l1_1).length) := by rw [hV]; first | exact ox10 | exact ox10.alloc _ | exact (ox10.alloc _).alloc _
  have og0_0x : OwnW 3 V12.heap.size V33 (.slice pg0_0 ig0_0 qg0_0) (ramp (1) (cmL n0_0 l0_1 n1_0 l1_1).length) := by rw [hV]; first | exact og0_0 | exact og0_0.alloc _ | exact (og0_0.alloc _).alloc _
  have og0_1x : OwnW 3 V12.heap.size V33 (.slice pg0_1 ig0_1 qg0_1) (ramp (1 + ((cmL n0_0 l0_1 n1_0 l1_1).length : Int)) (cmM n0_0 l0_1 n1_0 l1_1).length) := by rw [hV]; first | exact og0_1 | exact og0_1.alloc _ | exact (og0_1.alloc _).alloc _
  have og0_2x : OwnW 3 V12.heap.size V33 (.slice pg0_2 ig0_2 qg0_2) (ramp (1 + ((cmL n0_0 l0_1 n1_0 l1_1).length : Int) + ((cmM n0_0 l0_1 n1_0 l1_1).length : Int)) (([] : List Int)).length) := by rw [hV]; first | exact og0_2 | exact og0_2.alloc _ | exact (og0_2.alloc _).alloc _
  have og0_3x : OwnW 3 V12.heap.size V33 (.slice pg0_3 ig0_3 qg0_3) (ramp (1 + ((cmL n0_0 l0_1 n1_0 l1_1).length : Int) + ((cmM n0_0 l0_1 n1_0 l1_1).length : Int) + ((([] : List Int)).length : Int)) (cmE n0_0 l0_1 n1_0 l1_1).length) := by rw [hV]; first | exact og0_3 | exact og0_3.alloc _ | exact (og0_3.alloc _).alloc _
  have oh0_0x : OwnW 3 W29.heap.size V33 (.slice ph0_0 ih0_0 qh0_0) (cmL n0_0 l0_1 n1_0 l1_1) := by rw [hV]; first | exact oh0_0 | exact oh0_0.alloc _ | exact (oh0_0.alloc _).alloc _
  have oh0_1x : OwnW 3 W29.heap.size V33 (.slice ph0_1 ih0_1 qh0_1) (cmM n0_0 l0_1 n1_0 l1_1) := by rw [hV]; first | exact oh0_1 | exact oh0_1.alloc _ | exact (oh0_1.alloc _).alloc _
  have oh0_2x : OwnW 3 W29.heap.size V33 (.slice ph0_2 ih0_2 qh0_2) (([] : List Int)) := by rw [hV]; first | exact oh0_2 | exact oh0_2.alloc _ | exact (oh0_2.alloc _).alloc _
  have oh0_3x : OwnW 3 W29.heap.size V33 (.slice ph0_3 ih0_3 qh0_3) (cmE n0_0 l0_1 n1_0 l1_1) := by rw [hV]; first | exact oh0_3 | exact oh0_3.alloc _ | exact (oh0_3.alloc _).alloc _
  have K6x : Blk V33 (gb_h) 30 #[.int .i64 (cmK n0_0 l0_1 n1_0 l1_1), .int .i64 (cmA n0_0 l0_1 n1_0 l1_1), .slice ph0_0 ih0_0 qh0_0, .int .i64 (cmB n0_0 l0_1 n1_0 l1_1), .slice ph0_1 ih0_1 qh0_1, .int .i64 (0), .slice ph0_2 ih0_2 qh0_2, .int .i64 (cmP n0_0 l0_1 n1_0 l1_1), .int .i64 (cbS n0_0 l0_1 n1_0 l1_1), .slice ph0_3 ih0_3 qh0_3] := by rw [hV]; exact KC_h
  clear B K0 K1 K2 K3 K4 K5 ow0_0 ow0_1 ow0_2 ow0_3 ox00 ox10 og0_0 og0_1 og0_2 og0_3 oh0_0 oh0_1 oh0_2 oh0_3
  have B := B1
  have K0 := K0x
  have K1 := K1x
  have K2 := K2x
  have K3 := K3x
  have K4 := K4x
  have K5 := K5x
  have K6 := K6x
  have ow0_0 := ow0_0x
  have ow0_1 := ow0_1x
  have ow0_2 := ow0_2x
  have ow0_3 := ow0_3x
  have ox00 := ox00x
  have ox10 := ox10x
  have og0_0 := og0_0x
  have og0_1 := og0_1x
  have og0_2 := og0_2x
  have og0_3 := og0_3x
  have oh0_0 := oh0_0x
  have oh0_1 := oh0_1x
  have oh0_2 := oh0_2x
  have oh0_3 := oh0_3x
  clear B1 K0x K1x K2x K3x K4x K5x K6x ow0_0x ow0_1x ow0_2x ow0_3x ox00x ox10x og0_0x og0_1x og0_2x og0_3x oh0_0x oh0_1x oh0_2x oh0_3x
  clear hV
  refine (eqClaim_c _ _ _ _ _ oh0_0.ints _ _ _ oh0_1.ints _ _ _ oh0_2.ints _ _ _ _ oh0_3.ints _ ow0_0.ints _ ow0_1.ints _ ow0_2.ints _ ow0_3.ints).mono ?_
  rintro e W34 ⟨rfl, hb⟩
  have zW34 : V33.heap.size ≤ W34.heap.size := hb.size
  have B1 := B.after hb B.size
  have K0x := K0.keep hb
  have K1x := K1.keep hb
  have K2x := K2.keep hb
  have K3x := K3.keep hb
  have K4x := K4.keep hb
  have K5x := K5.keep hb
  have K6x := K6.keep hb
  have ow0_0x := ow0_0.keep hb
  have ow0_1x := ow0_1.keep hb
  have ow0_2x := ow0_2.keep hb
  have ow0_3x := ow0_3.keep hb
  have ox00x := ox00.keep hb
  have ox10x := ox10.keep hb
  have og0_0x := og0_0.keep hb
  have og0_1x := og0_1.keep hb
  have og0_2x := og0_2.keep hb
  have og0_3x := og0_3.keep hb
  have oh0_0x := oh0_0.keep hb
  have oh0_1x := oh0_1.keep hb
  have oh0_2x := oh0_2.keep hb
  have oh0_3x := oh0_3.keep hb
  clear B K0 K1 K2 K3 K4 K5 K6 ow0_0 ow0_1 ow0_2 ow0_3 ox00 ox10 og0_0 og0_1 og0_2 og0_3 oh0_0 oh0_1 oh0_2 oh0_3
  have B := B1
  have K0 := K0x
  have K1 := K1x
  have K2 := K2x
  have K3 := K3x
  have K4 := K4x
  have K5 := K5x
  have K6 := K6x
  have ow0_0 := ow0_0x
  have ow0_1 := ow0_1x
  have ow0_2 := ow0_2x
  have ow0_3 := ow0_3x
  have ox00 := ox00x
  have ox10 := ox10x
  have og0_0 := og0_0x
  have og0_1 := og0_1x
  have og0_2 := og0_2x
  have og0_3 := og0_3x
  have oh0_0 := oh0_0x
  have oh0_1 := oh0_1x
  have oh0_2 := oh0_2x
  have oh0_3 := oh0_3x
  clear B1 K0x K1x K2x K3x K4x K5x K6x ow0_0x ow0_1x ow0_2x ow0_3x ox00x ox10x og0_0x og0_1x og0_2x og0_3x oh0_0x oh0_1x oh0_2x oh0_3x
  clear hb
  have GK0 := K0.cell
  have ZK0 := K0.lt
  have GK1 := K1.cell
  have ZK1 := K1.lt
  have GK2 := K2.cell
  have ZK2 := K2.lt
  have GK3 := K3.cell
  have ZK3 := K3.lt
  have GK4 := K4.cell
  have ZK4 := K4.lt
  have GK5 := K5.cell
  have ZK5 := K5.lt
  have GK6 := K6.cell
  have ZK6 := K6.lt
  go_wp2_with fail
  clear GK0 ZK0 GK1 ZK1 GK2 ZK2 GK3 ZK3 GK4 ZK4 GK5 ZK5 GK6 ZK6
  refine calls_named ?_
  intro V35 hV
  have zV35 : W34.heap.size + 0 ≤ V35.heap.size := by rw [hV]; (first | exact Nat.le_refl _ | simp)
  have B1 : Below w.heap.size w V35 := by rw [hV]; first | exact B | exact B.alloc B.size _ | exact (B.alloc B.size _).alloc (by have := B.size; simp; omega) _
  have K0x : Blk V35 (w.heap.size) 24 #[.int .i64 n0_0, .slice av0_1 l0_1.length cv0_1] := by rw [hV]; first | exact K0 | exact K0.alloc _ | exact (K0.alloc _).alloc _
  have K1x : Blk V35 (w.heap.size + 1) 24 #[.int .i64 n1_0, .slice av1_1 l1_1.length cv1_1] := by rw [hV]; first | exact K1 | exact K1.alloc _ | exact (K1.alloc _).alloc _
  have K2x : Blk V35 (gb_w) 30 #[.int .i64 (cmK n0_0 l0_1 n1_0 l1_1), .int .i64 (cmA n0_0 l0_1 n1_0 l1_1), .slice pw0_0 iw0_0 qw0_0, .int .i64 (cmB n0_0 l0_1 n1_0 l1_1), .slice pw0_1 iw0_1 qw0_1, .int .i64 (0), .slice pw0_2 iw0_2 qw0_2, .int .i64 (cmP n0_0 l0_1 n1_0 l1_1), .int .i64 (cbS n0_0 l0_1 n1_0 l1_1), .slice pw0_3 iw0_3 qw0_3] := by rw [hV]; first | exact K2 | exact K2.alloc _ | exact (K2.alloc _).alloc _
  have K3x : Blk V35 (W9.heap.size) 26 #[.int .i64 n0_0, .slice px00 ix00 qx00] := by rw [hV]; first | exact K3 | exact K3.alloc _ | exact (K3.alloc _).alloc _
  have K4x : Blk V35 (W11.heap.size) 26 #[.int .i64 n1_0, .slice px10 ix10 qx10] := by rw [hV]; first | exact K4 | exact K4.alloc _ | exact (K4.alloc _).alloc _
  have K5x : Blk V35 (W13.heap.size) 30 #[.int .i64 (cmK n0_0 l0_1 n1_0 l1_1), .int .i64 (cmA n0_0 l0_1 n1_0 l1_1), .slice pg0_0 ig0_0 qg0_0, .int .i64 (cmB n0_0 l0_1 n1_0 l1_1), .slice pg0_1 ig0_1 qg0_1, .int .i64 (0), .slice pg0_2 ig0_2 qg0_2, .int .i64 (cmP n0_0 l0_1 n1_0 l1_1), .int .i64 (cbS n0_0 l0_1 n1_0 l1_1), .slice pg0_3 ig0_3 qg0_3] := by rw [hV]; first | exact K5 | exact K5.alloc _ | exact (K5.alloc _).alloc _
  have K6x : Blk V35 (gb_h) 30 #[.int .i64 (cmK n0_0 l0_1 n1_0 l1_1), .int .i64 (cmA n0_0 l0_1 n1_0 l1_1), .slice ph0_0 ih0_0 qh0_0, .int .i64 (cmB n0_0 l0_1 n1_0 l1_1), .slice ph0_1 ih0_1 qh0_1, .int .i64 (0), .slice ph0_2 ih0_2 qh0_2, .int .i64 (cmP n0_0 l0_1 n1_0 l1_1), .int .i64 (cbS n0_0 l0_1 n1_0 l1_1), .slice ph0_3 ih0_3 qh0_3] := by rw [hV]; first | exact K6 | exact K6.alloc _ | exact (K6.alloc _).alloc _
  have ow0_0x : OwnW 3 W4.heap.size V35 (.slice pw0_0 iw0_0 qw0_0) (cmL n0_0 l0_1 n1_0 l1_1) := by rw [hV]; first | exact ow0_0 | exact ow0_0.alloc _ | exact (ow0_0.alloc _).alloc _
  have ow0_1x : OwnW 3 W4.heap.size V35 (.slice pw0_1 iw0_1 qw0_1) (cmM n0_0 l0_1 n1_0 l1_1) := by rw [hV]; first | exact ow0_1 | exact ow0_1.alloc _ | exact (ow0_1.alloc _).alloc _
  have ow0_2x : OwnW 3 W4.heap.size V35 (.slice pw0_2 iw0_2 qw0_2) (([] : List Int)) := by rw [hV]; first | exact ow0_2 | exact ow0_2.alloc _ | exact (ow0_2.alloc _).alloc _
  have ow0_3x : OwnW 3 W4.heap.size V35 (.slice pw0_3 iw0_3 qw0_3) (cmE n0_0 l0_1 n1_0 l1_1) := by rw [hV]; first | exact ow0_3 | exact ow0_3.alloc _ | exact (ow0_3.alloc _).alloc _
  have ox00x : OwnW 3 V8.heap.size V35 (.slice px00 ix00 qx00) (ramp (1) (l0_1).length) := by rw [hV]; first | exact ox00 | exact ox00.alloc _ | exact (ox00.alloc _).alloc _
  have ox10x : OwnW 3 V10.heap.size V35 (.slice px10 ix10 qx10) (ramp (1 + ((l0_1).length : Int)) (l1_1).length) := by rw [hV]; first | exact ox10 | exact ox10.alloc _ | exact (ox10.alloc _).alloc _
  have og0_0x : OwnW 3 V12.heap.size V35 (.slice pg0_0 ig0_0 qg0_0) (ramp (1) (cmL n0_0 l0_1 n1_0 l1_1).length) := by rw [hV]; first | exact og0_0 | exact og0_0.alloc _ | exact (og0_0.alloc _).alloc _
  have og0_1x : OwnW 3 V12.heap.size V35 (.slice pg0_1 ig0_1 qg0_1) (ramp (1 + ((cmL n0_0 l0_1 n1_0 l1_1).length : Int)) (cmM n0_0 l0_1 n1_0 l1_1).length) := by rw [hV]; first | exact og0_1 | exact og0_1.alloc _ | exact (og0_1.alloc _).alloc _
  have og0_2x : OwnW 3 V12.heap.size V35 (.slice pg0_2 ig0_2 qg0_2) (ramp (1 + ((cmL n0_0 l0_1 n1_0 l1_1).length : Int) + ((cmM n0_0 l0_1 n1_0 l1_1).length : Int)) (([] : List Int)).length) := by rw [hV]; first | exact og0_2 | exact og0_2.alloc _ | exact (og0_2.alloc _).alloc _
  have og0_3x : OwnW 3 V12.heap.size V35 (.slice pg0_3 ig0_3 qg0_3) (ramp (1 + ((cmL n0_0 l0_1 n1_0 l1_1).length : Int) + ((cmM n0_0 l0_1 n1_0 l1_1).length : Int) + ((([] : List Int)).length : Int)) (cmE n0_0 l0_1 n1_0 l1_1).length) := by rw [hV]; first | exact og0_3 | exact og0_3.alloc _ | exact (og0_3.alloc _).alloc _
  have oh0_0x : OwnW 3 W29.heap.size V35 (.slice ph0_0 ih0_0 qh0_0) (cmL n0_0 l0_1 n1_0 l1_1) := by rw [hV]; first | exact oh0_0 | exact oh0_0.alloc _ | exact (oh0_0.alloc _).alloc _
  have oh0_1x : OwnW 3 W29.heap.size V35 (.slice ph0_1 ih0_1 qh0_1) (cmM n0_0 l0_1 n1_0 l1_1) := by rw [hV]; first | exact oh0_1 | exact oh0_1.alloc _ | exact (oh0_1.alloc _).alloc _
  have oh0_2x : OwnW 3 W29.heap.size V35 (.slice ph0_2 ih0_2 qh0_2) (([] : List Int)) := by rw [hV]; first | exact oh0_2 | exact oh0_2.alloc _ | exact (oh0_2.alloc _).alloc _
  have oh0_3x : OwnW 3 W29.heap.size V35 (.slice ph0_3 ih0_3 qh0_3) (cmE n0_0 l0_1 n1_0 l1_1) := by rw [hV]; first | exact oh0_3 | exact oh0_3.alloc _ | exact (oh0_3.alloc _).alloc _
  clear B K0 K1 K2 K3 K4 K5 K6 ow0_0 ow0_1 ow0_2 ow0_3 ox00 ox10 og0_0 og0_1 og0_2 og0_3 oh0_0 oh0_1 oh0_2 oh0_3
  have B := B1
  have K0 := K0x
  have K1 := K1x
  have K2 := K2x
  have K3 := K3x
  have K4 := K4x
  have K5 := K5x
  have K6 := K6x
  have ow0_0 := ow0_0x
  have ow0_1 := ow0_1x
  have ow0_2 := ow0_2x
  have ow0_3 := ow0_3x
  have ox00 := ox00x
  have ox10 := ox10x
  have og0_0 := og0_0x
  have og0_1 := og0_1x
  have og0_2 := og0_2x
  have og0_3 := og0_3x
  have oh0_0 := oh0_0x
  have oh0_1 := oh0_1x
  have oh0_2 := oh0_2x
  have oh0_3 := oh0_3x
  clear B1 K0x K1x K2x K3x K4x K5x K6x ow0_0x ow0_1x ow0_2x ow0_3x ox00x ox10x og0_0x og0_1x og0_2x og0_3x oh0_0x oh0_1x oh0_2x oh0_3x
  clear hV
  refine (heldClaim_c _ _ _ _ _ _ _ _ _ _ _ _ _ _ _ _ og0_0.ints og0_1.ints og0_2.ints og0_3.ints (by omega) (by omega) (by omega) (by omega) (by omega) (by omega)).mono ?_
  rintro e W36 ⟨rfl, hb⟩
  have zW36 : V35.heap.size ≤ W36.heap.size := hb.size
  have B1 := B.after hb B.size
  have K0x := K0.keep hb
  have K1x := K1.keep hb
  have K2x := K2.keep hb
  have K3x := K3.keep hb
  have K4x := K4.keep hb
  have K5x := K5.keep hb
  have K6x := K6.keep hb
  have ow0_0x := ow0_0.keep hb
  have ow0_1x := ow0_1.keep hb
  have ow0_2x := ow0_2.keep hb
  have ow0_3x := ow0_3.keep hb
  have ox00x := ox00.keep hb
  have ox10x := ox10.keep hb
  have og0_0x := og0_0.keep hb
  have og0_1x := og0_1.keep hb
  have og0_2x := og0_2.keep hb
  have og0_3x := og0_3.keep hb
  have oh0_0x := oh0_0.keep hb
  have oh0_1x := oh0_1.keep hb
  have oh0_2x := oh0_2.keep hb
  have oh0_3x := oh0_3.keep hb
  clear B K0 K1 K2 K3 K4 K5 K6 ow0_0 ow0_1 ow0_2 ow0_3 ox00 ox10 og0_0 og0_1 og0_2 og0_3 oh0_0 oh0_1 oh0_2 oh0_3
  have B := B1
  have K0 := K0x
  have K1 := K1x
  have K2 := K2x
  have K3 := K3x
  have K4 := K4x
  have K5 := K5x
  have K6 := K6x
  have ow0_0 := ow0_0x
  have ow0_1 := ow0_1x
  have ow0_2 := ow0_2x
  have ow0_3 := ow0_3x
  have ox00 := ox00x
  have ox10 := ox10x
  have og0_0 := og0_0x
  have og0_1 := og0_1x
  have og0_2 := og0_2x
  have og0_3 := og0_3x
  have oh0_0 := oh0_0x
  have oh0_1 := oh0_1x
  have oh0_2 := oh0_2x
  have oh0_3 := oh0_3x
  clear B1 K0x K1x K2x K3x K4x K5x K6x ow0_0x ow0_1x ow0_2x ow0_3x ox00x ox10x og0_0x og0_1x og0_2x og0_3x oh0_0x oh0_1x oh0_2x oh0_3x
  clear hb
  have GK0 := K0.cell
  have ZK0 := K0.lt
  have GK1 := K1.cell
  have ZK1 := K1.lt
  have GK2 := K2.cell
  have ZK2 := K2.lt
  have GK3 := K3.cell
  have ZK3 := K3.lt
  have GK4 := K4.cell
  have ZK4 := K4.lt
  have GK5 := K5.cell
  have ZK5 := K5.lt
  have GK6 := K6.cell
  have ZK6 := K6.lt
  go_wp2
  go_ret
  exact ⟨rfl, B⟩

theorem fnExactClaimOfCommon_params : Try.f3.params = #[24, 24] := by kernel_rfl
set_option maxRecDepth 100000 in
theorem fnExactClaimOfCommon_lifted (os : Os) (started : os.Started) (H : Type) (enc : TypeId × Value → H) :
    ReturnsInHanded {} Try.checked os 3 .any (Rows.fnExactClaimOfCommonSpec.pre6 enc Try.prog Try.f3 Rows.fnExactClaimOfCommonRow.domain false) (Rows.fnExactClaimOfCommonSpec.post enc Try.prog Try.f3 false true false false) := by
  refine law_lift os started H enc Try.func3 (by kernel_rfl) rfl (by kernel_rfl) (by kernel_rfl) ?_
    (ChangeSpec.witness6 (enc := enc) (C := Try.checked) false ⟨#[], #[.agg #[.int .i64 0, .slice none 0 0], .agg #[.int .i64 0, .slice none 0 0]], []⟩ 8 (by kernel_rfl) (by kernel_rfl) (by kernel_rfl) (by kernel_rfl)) ?_
  · intro ds hds
    rw [fnExactClaimOfCommon_params] at hds
    match ds, hds with
    | [d0, d1], _ => rfl
  · intro W base args ds p hval hA
    rw [fnExactClaimOfCommon_params] at hA hval
    obtain ⟨v0, vs0, d0, ds0, p0, q0, hargs, rfl, rfl, h0, r0⟩ := trodAll_cons hA
    obtain ⟨v1, vs1, d1, ds1, p1, q1, rfl, rfl, rfl, h1, r1⟩ := trodAll_cons r0
    obtain ⟨rfl, rfl, rfl⟩ := trodAll_nil r1
    obtain rfl : args = #[v0, v1] := by cases args; simp_all
    obtain ⟨n0, u0, l0, rfl, w0, x0⟩ := rd_fun (hval 0 24 v0 rfl rfl) h0
    obtain ⟨n1, u1, l1, rfl, w1, x1⟩ := rd_fun (hval 1 24 v1 rfl rfl) h1
    exact claimcom_walk W n0 u0 l0 w0 x0 n1 u1 l1 w1 x1

theorem fnExactClaimOfCommon_holds : Rows.FnExactClaimOfCommonSaid :=
  OpenClaim.holds_of_wide 3 Try.f3 rfl rfl rfl rfl rfl rfl rfl ⟨rfl, rfl, rfl, rfl, rfl⟩ rfl rfl rfl rfl rfl (by kernel_rfl) Try.func3 (by kernel_rfl)
    (of_decide_eq_true (by kernel_rfl)) (by unfold Func.isWrapper; first | (rw [if_pos (by decide +kernel)]; kernel_rfl) | (rw [if_neg (by decide +kernel)]; exact ⟨rfl, rfl⟩))
    (fun os started H enc _ => fnExactClaimOfCommon_lifted os started H enc)
end Go.Proofs.Ytmlpcohailjccaa
