/- Claims: which are equal. -/
import Derived.Test.YtmmaleidaghooaaClaim
namespace Go.Proofs.Ytmmaleidaghooaa
open Go.RowKit Go.G5

def eqClB (k n1 : Int) (l1 : List Int) (n2 : Int) (l2 : List Int) (n3 : Int) (l3 : List Int) (q st : Int) (l4 : List Int) (k' n1' : Int) (l1' : List Int) (n2' : Int) (l2' : List Int) (n3' : Int) (l3' : List Int) (q' st' : Int) (l4' : List Int) : Bool :=
  decide (k = k') && ((decide (n1 = n1') && decide (l1 = l1')) && ((decide (n2 = n2') && decide (l2 = l2')) && ((decide (n3 = n3') && decide (l3 = l3')) && (decide (q = q') && (decide (st = st') && decide (l4 = l4'))))))

set_option maxHeartbeats 4000000 in
set_option maxRecDepth 100000 in
theorem equalClaimsI_c (w : World) (k n1 : Int) (v1 : Value) (l1 : List Int) (h1 : Ints w v1 l1) (_ : l1.length ≤ 1048576) (n2 : Int) (v2 : Value) (l2 : List Int) (h2 : Ints w v2 l2) (_ : l2.length ≤ 1048576) (n3 : Int) (v3 : Value) (l3 : List Int) (h3 : Ints w v3 l3) (_ : l3.length ≤ 1048576) (q st : Int) (v4 : Value) (l4 : List Int) (h4 : Ints w v4 l4) (_ : l4.length ≤ 1048576) (k' n1' : Int) (v1' : Value) (l1' : List Int) (h1' : Ints w v1' l1') (_ : l1'.length ≤ 1048576) (n2' : Int) (v2' : Value) (l2' : List Int) (h2' : Ints w v2' l2') (_ : l2'.length ≤ 1048576) (n3' : Int) (v3' : Value) (l3' : List Int) (h3' : Ints w v3' l3') (_ : l3'.length ≤ 1048576) (q' st' : Int) (v4' : Value) (l4' : List Int) (h4' : Ints w v4' l4') (_ : l4'.length ≤ 1048576) :
    Calls Try.prog 41 #[clV k n1 v1 n2 v2 n3 v3 q st v4, clV k' n1' v1' n2' v2' n3' v3' q' st' v4'] w fun e w' => e = .returned (.bool (eqClB k n1 l1 n2 l2 n3 l3 q st l4 k' n1' l1' n2' l2' n3' l3' q' st' l4')) ∧ Below w.heap.size w w' := by
  obtain ⟨a1, c1, rfl⟩ := h1.shape
  obtain ⟨a2, c2, rfl⟩ := h2.shape
  obtain ⟨a3, c3, rfl⟩ := h3.shape
  obtain ⟨a4, c4, rfl⟩ := h4.shape
  obtain ⟨a1', c1', rfl⟩ := h1'.shape
  obtain ⟨a2', c2', rfl⟩ := h2'.shape
  obtain ⟨a3', c3', rfl⟩ := h3'.shape
  obtain ⟨a4', c4', rfl⟩ := h4'.shape
  cases ek : decide (k = k') with
  | false =>
    have hx : eqClB k n1 l1 n2 l2 n3 l3 q st l4 k' n1' l1' n2' l2' n3' l3' q' st' l4' = false := by
      unfold eqClB
      rw [ek]
      first | done | simp
    have HX := Lib.hid hx
    have tk : (k != k') = true := by simpa using ek
    clear hx ek
    go_enter Try.func41, Try.ntmps41
    go_wp2
    go_ret
    exact ⟨by rw [HX.out]; rfl, bl2 _ _ _⟩
  | true =>
    cases eq : decide (q = q') with
    | false =>
      have hx : eqClB k n1 l1 n2 l2 n3 l3 q st l4 k' n1' l1' n2' l2' n3' l3' q' st' l4' = false := by
        unfold eqClB
        rw [ek, eq]
        first | done | simp
      have HX := Lib.hid hx
      have tk : (k != k') = false := by simpa using ek
      have tq : (q != q') = true := by simpa using eq
      clear hx ek eq
      go_enter Try.func41, Try.ntmps41
      go_wp2
      go_ret
      exact ⟨by rw [HX.out]; rfl, bl2 _ _ _⟩
    | true =>
      cases est : decide (st = st') with
      | false =>
        have hx : eqClB k n1 l1 n2 l2 n3 l3 q st l4 k' n1' l1' n2' l2' n3' l3' q' st' l4' = false := by
          unfold eqClB
          rw [ek, eq, est]
          first | done | simp
        have HX := Lib.hid hx
        have tk : (k != k') = false := by simpa using ek
        have tq : (q != q') = false := by simpa using eq
        have tst : (st != st') = true := by simpa using est
        clear hx ek eq est
        go_enter Try.func41, Try.ntmps41
        go_wp2
        go_ret
        exact ⟨by rw [HX.out]; rfl, bl2 _ _ _⟩
      | true =>
        cases e4 : decide (l4 = l4') with
        | false =>
          have hx : eqClB k n1 l1 n2 l2 n3 l3 q st l4 k' n1' l1' n2' l2' n3' l3' q' st' l4' = false := by
            unfold eqClB
            rw [ek, eq, est, e4]
            first | done | simp
          have HX := Lib.hid hx
          have tk : (k != k') = false := by simpa using ek
          have tq : (q != q') = false := by simpa using eq
          have tst : (st != st') = false := by simpa using est
          have E4 := Lib.hid e4
          clear hx ek eq est e4
          go_enter Try.func41, Try.ntmps41
          go_wp2_with fail
          refine calls_named ?_
          intro W0 hW0
          have B : Below w.heap.size w W0 := by rw [hW0]; exact bl2 _ _ _
          have K1 : Blk W0 w.heap.size 55 (clC k n1 (.slice a1 l1.length c1) n2 (.slice a2 l2.length c2) n3 (.slice a3 l3.length c3) q st (.slice a4 l4.length c4)) := by rw [hW0]; exact (Blk.new _ _ _).alloc _
          have K2 : Blk W0 (w.heap.size + 1) 55 (clC k' n1' (.slice a1' l1'.length c1') n2' (.slice a2' l2'.length c2') n3' (.slice a3' l3'.length c3') q' st' (.slice a4' l4'.length c4')) := by rw [hW0]; have := Blk.new (w.alloc (.cells (clC k n1 (.slice a1 l1.length c1) n2 (.slice a2 l2.length c2) n3 (.slice a3 l3.length c3) q st (.slice a4 l4.length c4)) 55)) 55 (clC k' n1' (.slice a1' l1'.length c1') n2' (.slice a2' l2'.length c2') n3' (.slice a3' l3'.length c3') q' st' (.slice a4' l4'.length c4')); simpa using this
          clear hW0
          refine (slicesEqual_any _ _ l4 l4' _ (h4.below B (Nat.le_refl _)) (h4'.below B (Nat.le_refl _))).mono ?_
          rintro e W1 ⟨rfl, nq1, hq⟩
          have hb : Below W0.heap.size W0 W1 := by rw [hq]; exact (Below.refl _ _).drewN' _
          clear hq
          rw [E4.out]
          have B := B.after hb B.size
          have K1 := K1.keep hb
          have K2 := K2.keep hb
          have G1 := K1.cell
          have G2 := K2.cell
          clear hb
          go_wp2
          go_ret
          exact ⟨by rw [HX.out]; rfl, B⟩
        | true =>
          cases e1 : (decide (n1 = n1') && decide (l1 = l1')) with
          | false =>
            have hx : eqClB k n1 l1 n2 l2 n3 l3 q st l4 k' n1' l1' n2' l2' n3' l3' q' st' l4' = false := by
              unfold eqClB
              rw [ek, eq, est, e4, e1]
              first | done | simp
            have HX := Lib.hid hx
            have tk : (k != k') = false := by simpa using ek
            have tq : (q != q') = false := by simpa using eq
            have tst : (st != st') = false := by simpa using est
            have E4 := Lib.hid e4
            have E1 := Lib.hid e1
            clear hx ek eq est e4 e1
            go_enter Try.func41, Try.ntmps41
            go_wp2_with fail
            refine calls_named ?_
            intro W0 hW0
            have B : Below w.heap.size w W0 := by rw [hW0]; exact bl2 _ _ _
            have K1 : Blk W0 w.heap.size 55 (clC k n1 (.slice a1 l1.length c1) n2 (.slice a2 l2.length c2) n3 (.slice a3 l3.length c3) q st (.slice a4 l4.length c4)) := by rw [hW0]; exact (Blk.new _ _ _).alloc _
            have K2 : Blk W0 (w.heap.size + 1) 55 (clC k' n1' (.slice a1' l1'.length c1') n2' (.slice a2' l2'.length c2') n3' (.slice a3' l3'.length c3') q' st' (.slice a4' l4'.length c4')) := by rw [hW0]; have := Blk.new (w.alloc (.cells (clC k n1 (.slice a1 l1.length c1) n2 (.slice a2 l2.length c2) n3 (.slice a3 l3.length c3) q st (.slice a4 l4.length c4)) 55)) 55 (clC k' n1' (.slice a1' l1'.length c1') n2' (.slice a2' l2'.length c2') n3' (.slice a3' l3'.length c3') q' st' (.slice a4' l4'.length c4')); simpa using this
            clear hW0
            refine (slicesEqual_any _ _ l4 l4' _ (h4.below B (Nat.le_refl _)) (h4'.below B (Nat.le_refl _))).mono ?_
            rintro e W1 ⟨rfl, nq1, hq⟩
            have hb : Below W0.heap.size W0 W1 := by rw [hq]; exact (Below.refl _ _).drewN' _
            clear hq
            rw [E4.out]
            have B := B.after hb B.size
            have K1 := K1.keep hb
            have K2 := K2.keep hb
            have G1 := K1.cell
            have G2 := K2.cell
            clear hb
            go_wp2_with fail
            clear G1 G2
            refine (equalFunctionsI_any n1 n1' _ _ l1 l1' _ (h1.below B (Nat.le_refl _)) (h1'.below B (Nat.le_refl _))).mono ?_
            rintro e W2 ⟨rfl, hb⟩
            rw [E1.out]
            have B := B.after hb B.size
            have K1 := K1.keep hb
            have K2 := K2.keep hb
            have G1 := K1.cell
            have G2 := K2.cell
            clear hb
            go_wp2
            go_ret
            exact ⟨by rw [HX.out]; rfl, B⟩
          | true =>
            cases e2 : (decide (n2 = n2') && decide (l2 = l2')) with
            | false =>
              have hx : eqClB k n1 l1 n2 l2 n3 l3 q st l4 k' n1' l1' n2' l2' n3' l3' q' st' l4' = false := by
                unfold eqClB
                rw [ek, eq, est, e4, e1, e2]
                first | done | simp
              have HX := Lib.hid hx
              have tk : (k != k') = false := by simpa using ek
              have tq : (q != q') = false := by simpa using eq
              have tst : (st != st') = false := by simpa using est
              have E4 := Lib.hid e4
              have E1 := Lib.hid e1
              have E2 := Lib.hid e2
              clear hx ek eq est e4 e1 e2
              go_enter Try.func41, Try.ntmps41
              go_wp2_with fail
              refine calls_named ?_
              intro W0 hW0
              have B : Below w.heap.size w W0 := by rw [hW0]; exact bl2 _ _ _
              have K1 : Blk W0 w.heap.size 55 (clC k n1 (.slice a1 l1.length c1) n2 (.slice a2 l2.length c2) n3 (.slice a3 l3.length c3) q st (.slice a4 l4.length c4)) := by rw [hW0]; exact (Blk.new _ _ _).alloc _
              have K2 : Blk W0 (w.heap.size + 1) 55 (clC k' n1' (.slice a1' l1'.length c1') n2' (.slice a2' l2'.length c2') n3' (.slice a3' l3'.length c3') q' st' (.slice a4' l4'.length c4')) := by rw [hW0]; have := Blk.new (w.alloc (.cells (clC k n1 (.slice a1 l1.length c1) n2 (.slice a2 l2.length c2) n3 (.slice a3 l3.length c3) q st (.slice a4 l4.length c4)) 55)) 55 (clC k' n1' (.slice a1' l1'.length c1') n2' (.slice a2' l2'.length c2') n3' (.slice a3' l3'.length c3') q' st' (.slice a4' l4'.length c4')); simpa using this
              clear hW0
              refine (slicesEqual_any _ _ l4 l4' _ (h4.below B (Nat.le_refl _)) (h4'.below B (Nat.le_refl _))).mono ?_
              rintro e W1 ⟨rfl, nq1, hq⟩
              have hb : Below W0.heap.size W0 W1 := by rw [hq]; exact (Below.refl _ _).drewN' _
              clear hq
              rw [E4.out]
              have B := B.after hb B.size
              have K1 := K1.keep hb
              have K2 := K2.keep hb
              have G1 := K1.cell
              have G2 := K2.cell
              clear hb
              go_wp2_with fail
              clear G1 G2
              refine (equalFunctionsI_any n1 n1' _ _ l1 l1' _ (h1.below B (Nat.le_refl _)) (h1'.below B (Nat.le_refl _))).mono ?_
              rintro e W2 ⟨rfl, hb⟩
              rw [E1.out]
              have B := B.after hb B.size
              have K1 := K1.keep hb
              have K2 := K2.keep hb
              have G1 := K1.cell
              have G2 := K2.cell
              clear hb
              go_wp2_with fail
              clear G1 G2
              refine (equalFunctionsI_any n2 n2' _ _ l2 l2' _ (h2.below B (Nat.le_refl _)) (h2'.below B (Nat.le_refl _))).mono ?_
              rintro e W3 ⟨rfl, hb⟩
              rw [E2.out]
              have B := B.after hb B.size
              have K1 := K1.keep hb
              have K2 := K2.keep hb
              have G1 := K1.cell
              have G2 := K2.cell
              clear hb
              go_wp2
              go_ret
              exact ⟨by rw [HX.out]; rfl, B⟩
            | true =>
              cases e3 : (decide (n3 = n3') && decide (l3 = l3')) with
              | false =>
                have hx : eqClB k n1 l1 n2 l2 n3 l3 q st l4 k' n1' l1' n2' l2' n3' l3' q' st' l4' = false := by
                  unfold eqClB
                  rw [ek, eq, est, e4, e1, e2, e3]
                  first | done | simp
                have HX := Lib.hid hx
                have tk : (k != k') = false := by simpa using ek
                have tq : (q != q') = false := by simpa using eq
                have tst : (st != st') = false := by simpa using est
                have E4 := Lib.hid e4
                have E1 := Lib.hid e1
                have E2 := Lib.hid e2
                have E3 := Lib.hid e3
                clear hx ek eq est e4 e1 e2 e3
                go_enter Try.func41, Try.ntmps41
                go_wp2_with fail
                refine calls_named ?_
                intro W0 hW0
                have B : Below w.heap.size w W0 := by rw [hW0]; exact bl2 _ _ _
                have K1 : Blk W0 w.heap.size 55 (clC k n1 (.slice a1 l1.length c1) n2 (.slice a2 l2.length c2) n3 (.slice a3 l3.length c3) q st (.slice a4 l4.length c4)) := by rw [hW0]; exact (Blk.new _ _ _).alloc _
                have K2 : Blk W0 (w.heap.size + 1) 55 (clC k' n1' (.slice a1' l1'.length c1') n2' (.slice a2' l2'.length c2') n3' (.slice a3' l3'.length c3') q' st' (.slice a4' l4'.length c4')) := by rw [hW0]; have := Blk.new (w.alloc (.cells (clC k n1 (.slice a1 l1.length c1) n2 (.slice a2 l2.length c2) n3 (.slice a3 l3.length c3) q st (.slice a4 l4.length c4)) 55)) 55 (clC k' n1' (.slice a1' l1'.length c1') n2' (.slice a2' l2'.length c2') n3' (.slice a3' l3'.length c3') q' st' (.slice a4' l4'.length c4')); simpa using this
                clear hW0
                refine (slicesEqual_any _ _ l4 l4' _ (h4.below B (Nat.le_refl _)) (h4'.below B (Nat.le_refl _))).mono ?_
                rintro e W1 ⟨rfl, nq1, hq⟩
                have hb : Below W0.heap.size W0 W1 := by rw [hq]; exact (Below.refl _ _).drewN' _
                clear hq
                rw [E4.out]
                have B := B.after hb B.size
                have K1 := K1.keep hb
                have K2 := K2.keep hb
                have G1 := K1.cell
                have G2 := K2.cell
                clear hb
                go_wp2_with fail
                clear G1 G2
                refine (equalFunctionsI_any n1 n1' _ _ l1 l1' _ (h1.below B (Nat.le_refl _)) (h1'.below B (Nat.le_refl _))).mono ?_
                rintro e W2 ⟨rfl, hb⟩
                rw [E1.out]
                have B := B.after hb B.size
                have K1 := K1.keep hb
                have K2 := K2.keep hb
                have G1 := K1.cell
                have G2 := K2.cell
                clear hb
                go_wp2_with fail
                clear G1 G2
                refine (equalFunctionsI_any n2 n2' _ _ l2 l2' _ (h2.below B (Nat.le_refl _)) (h2'.below B (Nat.le_refl _))).mono ?_
                rintro e W3 ⟨rfl, hb⟩
                rw [E2.out]
                have B := B.after hb B.size
                have K1 := K1.keep hb
                have K2 := K2.keep hb
                have G1 := K1.cell
                have G2 := K2.cell
                clear hb
                go_wp2_with fail
                clear G1 G2
                refine (equalFamiliesI_any n3 n3' _ _ l3 l3' _ (h3.below B (Nat.le_refl _)) (h3'.below B (Nat.le_refl _))).mono ?_
                rintro e W4 ⟨rfl, hb⟩
                rw [E3.out]
                have B := B.after hb B.size
                have K1 := K1.keep hb
                have K2 := K2.keep hb
                have G1 := K1.cell
                have G2 := K2.cell
                clear hb
                go_wp2
                go_ret
                exact ⟨by rw [HX.out]; rfl, B⟩
              | true =>
                have hx : eqClB k n1 l1 n2 l2 n3 l3 q st l4 k' n1' l1' n2' l2' n3' l3' q' st' l4' = true := by
                  unfold eqClB
                  rw [ek, eq, est, e4, e1, e2, e3]
                  first | done | simp
                have HX := Lib.hid hx
                have tk : (k != k') = false := by simpa using ek
                have tq : (q != q') = false := by simpa using eq
                have tst : (st != st') = false := by simpa using est
                have E4 := Lib.hid e4
                have E1 := Lib.hid e1
                have E2 := Lib.hid e2
                have E3 := Lib.hid e3
                clear hx ek eq est e4 e1 e2 e3
                go_enter Try.func41, Try.ntmps41
                go_wp2_with fail
                refine calls_named ?_
                intro W0 hW0
                have B : Below w.heap.size w W0 := by rw [hW0]; exact bl2 _ _ _
                have K1 : Blk W0 w.heap.size 55 (clC k n1 (.slice a1 l1.length c1) n2 (.slice a2 l2.length c2) n3 (.slice a3 l3.length c3) q st (.slice a4 l4.length c4)) := by rw [hW0]; exact (Blk.new _ _ _).alloc _
                have K2 : Blk W0 (w.heap.size + 1) 55 (clC k' n1' (.slice a1' l1'.length c1') n2' (.slice a2' l2'.length c2') n3' (.slice a3' l3'.length c3') q' st' (.slice a4' l4'.length c4')) := by rw [hW0]; have := Blk.new (w.alloc (.cells (clC k n1 (.slice a1 l1.length c1) n2 (.slice a2 l2.length c2) n3 (.slice a3 l3.length c3) q st (.slice a4 l4.length c4)) 55)) 55 (clC k' n1' (.slice a1' l1'.length c1') n2' (.slice a2' l2'.length c2') n3' (.slice a3' l3'.length c3') q' st' (.slice a4' l4'.length c4')); simpa using this
                clear hW0
                refine (slicesEqual_any _ _ l4 l4' _ (h4.below B (Nat.le_refl _)) (h4'.below B (Nat.le_refl _))).mono ?_
                rintro e W1 ⟨rfl, nq1, hq⟩
                have hb : Below W0.heap.size W0 W1 := by rw [hq]; exact (Below.refl _ _).drewN' _
                clear hq
                rw [E4.out]
                have B := B.after hb B.size
                have K1 := K1.keep hb
                have K2 := K2.keep hb
                have G1 := K1.cell
                have G2 := K2.cell
                clear hb
                go_wp2_with fail
                clear G1 G2
                refine (equalFunctionsI_any n1 n1' _ _ l1 l1' _ (h1.below B (Nat.le_refl _)) (h1'.below B (Nat.le_refl _))).mono ?_
                rintro e W2 ⟨rfl, hb⟩
                rw [E1.out]
                have B := B.after hb B.size
                have K1 := K1.keep hb
                have K2 := K2.keep hb
                have G1 := K1.cell
                have G2 := K2.cell
                clear hb
                go_wp2_with fail
                clear G1 G2
                refine (equalFunctionsI_any n2 n2' _ _ l2 l2' _ (h2.below B (Nat.le_refl _)) (h2'.below B (Nat.le_refl _))).mono ?_
                rintro e W3 ⟨rfl, hb⟩
                rw [E2.out]
                have B := B.after hb B.size
                have K1 := K1.keep hb
                have K2 := K2.keep hb
                have G1 := K1.cell
                have G2 := K2.cell
                clear hb
                go_wp2_with fail
                clear G1 G2
                refine (equalFamiliesI_any n3 n3' _ _ l3 l3' _ (h3.below B (Nat.le_refl _)) (h3'.below B (Nat.le_refl _))).mono ?_
                rintro e W4 ⟨rfl, hb⟩
                rw [E3.out]
                have B := B.after hb B.size
                have K1 := K1.keep hb
                have K2 := K2.keep hb
                have G1 := K1.cell
                have G2 := K2.cell
                clear hb
                go_wp2
                go_ret
                exact ⟨by rw [HX.out]; rfl, B⟩

set_option maxHeartbeats 4000000 in
set_option maxRecDepth 100000 in
theorem equalClaimsS_c (w : World) (k n1 : Int) (v1 : Value) (l1 : List Int) (h1 : Ints w v1 l1) (_ : l1.length ≤ 1048576) (n2 : Int) (v2 : Value) (l2 : List Int) (h2 : Ints w v2 l2) (_ : l2.length ≤ 1048576) (n3 : Int) (v3 : Value) (l3 : List Int) (h3 : Ints w v3 l3) (_ : l3.length ≤ 1048576) (q st : Int) (v4 : Value) (l4 : List Int) (h4 : Ints w v4 l4) (_ : l4.length ≤ 1048576) (k' n1' : Int) (v1' : Value) (l1' : List Int) (h1' : Ints w v1' l1') (_ : l1'.length ≤ 1048576) (n2' : Int) (v2' : Value) (l2' : List Int) (h2' : Ints w v2' l2') (_ : l2'.length ≤ 1048576) (n3' : Int) (v3' : Value) (l3' : List Int) (h3' : Ints w v3' l3') (_ : l3'.length ≤ 1048576) (q' st' : Int) (v4' : Value) (l4' : List Int) (h4' : Ints w v4' l4') (_ : l4'.length ≤ 1048576) :
    Calls Try.prog 39 #[clV k n1 v1 n2 v2 n3 v3 q st v4, clV k' n1' v1' n2' v2' n3' v3' q' st' v4'] w fun e w' => e = .returned (.bool (eqClB k n1 l1 n2 l2 n3 l3 q st l4 k' n1' l1' n2' l2' n3' l3' q' st' l4')) ∧ Below w.heap.size w w' := by
  obtain ⟨a1, c1, rfl⟩ := h1.shape
  obtain ⟨a2, c2, rfl⟩ := h2.shape
  obtain ⟨a3, c3, rfl⟩ := h3.shape
  obtain ⟨a4, c4, rfl⟩ := h4.shape
  obtain ⟨a1', c1', rfl⟩ := h1'.shape
  obtain ⟨a2', c2', rfl⟩ := h2'.shape
  obtain ⟨a3', c3', rfl⟩ := h3'.shape
  obtain ⟨a4', c4', rfl⟩ := h4'.shape
  cases ek : decide (k = k') with
  | false =>
    have hx : eqClB k n1 l1 n2 l2 n3 l3 q st l4 k' n1' l1' n2' l2' n3' l3' q' st' l4' = false := by
      unfold eqClB
      rw [ek]
      first | done | simp
    have HX := Lib.hid hx
    have tk : (k == k') = false := by simpa using ek
    clear hx ek
    go_enter Try.func39, Try.ntmps39
    go_wp2
    go_ret
    exact ⟨by rw [HX.out]; rfl, bl2 _ _ _⟩
  | true =>
    cases e1 : (decide (n1 = n1') && decide (l1 = l1')) with
    | false =>
      have hx : eqClB k n1 l1 n2 l2 n3 l3 q st l4 k' n1' l1' n2' l2' n3' l3' q' st' l4' = false := by
        unfold eqClB
        rw [ek, e1]
        first | done | simp
      have HX := Lib.hid hx
      have tk : (k == k') = true := by simpa using ek
      have E1 := Lib.hid e1
      clear hx ek e1
      go_enter Try.func39, Try.ntmps39
      go_wp2_with fail
      refine calls_named ?_
      intro W0 hW0
      have B : Below w.heap.size w W0 := by rw [hW0]; exact bl2 _ _ _
      have K1 : Blk W0 w.heap.size 55 (clC k n1 (.slice a1 l1.length c1) n2 (.slice a2 l2.length c2) n3 (.slice a3 l3.length c3) q st (.slice a4 l4.length c4)) := by rw [hW0]; exact (Blk.new _ _ _).alloc _
      have K2 : Blk W0 (w.heap.size + 1) 55 (clC k' n1' (.slice a1' l1'.length c1') n2' (.slice a2' l2'.length c2') n3' (.slice a3' l3'.length c3') q' st' (.slice a4' l4'.length c4')) := by rw [hW0]; have := Blk.new (w.alloc (.cells (clC k n1 (.slice a1 l1.length c1) n2 (.slice a2 l2.length c2) n3 (.slice a3 l3.length c3) q st (.slice a4 l4.length c4)) 55)) 55 (clC k' n1' (.slice a1' l1'.length c1') n2' (.slice a2' l2'.length c2') n3' (.slice a3' l3'.length c3') q' st' (.slice a4' l4'.length c4')); simpa using this
      clear hW0
      refine (equalFunctionsS_any n1 n1' _ _ l1 l1' _ (h1.below B (Nat.le_refl _)) (h1'.below B (Nat.le_refl _))).mono ?_
      rintro e W1 ⟨rfl, hb⟩
      rw [E1.out]
      have B := B.after hb B.size
      have K1 := K1.keep hb
      have K2 := K2.keep hb
      have G1 := K1.cell
      have G2 := K2.cell
      clear hb
      go_wp2
      go_ret
      exact ⟨by rw [HX.out]; rfl, B⟩
    | true =>
      cases e2 : (decide (n2 = n2') && decide (l2 = l2')) with
      | false =>
        have hx : eqClB k n1 l1 n2 l2 n3 l3 q st l4 k' n1' l1' n2' l2' n3' l3' q' st' l4' = false := by
          unfold eqClB
          rw [ek, e1, e2]
          first | done | simp
        have HX := Lib.hid hx
        have tk : (k == k') = true := by simpa using ek
        have E1 := Lib.hid e1
        have E2 := Lib.hid e2
        clear hx ek e1 e2
        go_enter Try.func39, Try.ntmps39
        go_wp2_with fail
        refine calls_named ?_
        intro W0 hW0
        have B : Below w.heap.size w W0 := by rw [hW0]; exact bl2 _ _ _
        have K1 : Blk W0 w.heap.size 55 (clC k n1 (.slice a1 l1.length c1) n2 (.slice a2 l2.length c2) n3 (.slice a3 l3.length c3) q st (.slice a4 l4.length c4)) := by rw [hW0]; exact (Blk.new _ _ _).alloc _
        have K2 : Blk W0 (w.heap.size + 1) 55 (clC k' n1' (.slice a1' l1'.length c1') n2' (.slice a2' l2'.length c2') n3' (.slice a3' l3'.length c3') q' st' (.slice a4' l4'.length c4')) := by rw [hW0]; have := Blk.new (w.alloc (.cells (clC k n1 (.slice a1 l1.length c1) n2 (.slice a2 l2.length c2) n3 (.slice a3 l3.length c3) q st (.slice a4 l4.length c4)) 55)) 55 (clC k' n1' (.slice a1' l1'.length c1') n2' (.slice a2' l2'.length c2') n3' (.slice a3' l3'.length c3') q' st' (.slice a4' l4'.length c4')); simpa using this
        clear hW0
        refine (equalFunctionsS_any n1 n1' _ _ l1 l1' _ (h1.below B (Nat.le_refl _)) (h1'.below B (Nat.le_refl _))).mono ?_
        rintro e W1 ⟨rfl, hb⟩
        rw [E1.out]
        have B := B.after hb B.size
        have K1 := K1.keep hb
        have K2 := K2.keep hb
        have G1 := K1.cell
        have G2 := K2.cell
        clear hb
        go_wp2_with fail
        clear G1 G2
        refine (equalFunctionsS_any n2 n2' _ _ l2 l2' _ (h2.below B (Nat.le_refl _)) (h2'.below B (Nat.le_refl _))).mono ?_
        rintro e W2 ⟨rfl, hb⟩
        rw [E2.out]
        have B := B.after hb B.size
        have K1 := K1.keep hb
        have K2 := K2.keep hb
        have G1 := K1.cell
        have G2 := K2.cell
        clear hb
        go_wp2
        go_ret
        exact ⟨by rw [HX.out]; rfl, B⟩
      | true =>
        cases e3 : (decide (n3 = n3') && decide (l3 = l3')) with
        | false =>
          have hx : eqClB k n1 l1 n2 l2 n3 l3 q st l4 k' n1' l1' n2' l2' n3' l3' q' st' l4' = false := by
            unfold eqClB
            rw [ek, e1, e2, e3]
            first | done | simp
          have HX := Lib.hid hx
          have tk : (k == k') = true := by simpa using ek
          have E1 := Lib.hid e1
          have E2 := Lib.hid e2
          have E3 := Lib.hid e3
          clear hx ek e1 e2 e3
          go_enter Try.func39, Try.ntmps39
          go_wp2_with fail
          refine calls_named ?_
          intro W0 hW0
          have B : Below w.heap.size w W0 := by rw [hW0]; exact bl2 _ _ _
          have K1 : Blk W0 w.heap.size 55 (clC k n1 (.slice a1 l1.length c1) n2 (.slice a2 l2.length c2) n3 (.slice a3 l3.length c3) q st (.slice a4 l4.length c4)) := by rw [hW0]; exact (Blk.new _ _ _).alloc _
          have K2 : Blk W0 (w.heap.size + 1) 55 (clC k' n1' (.slice a1' l1'.length c1') n2' (.slice a2' l2'.length c2') n3' (.slice a3' l3'.length c3') q' st' (.slice a4' l4'.length c4')) := by rw [hW0]; have := Blk.new (w.alloc (.cells (clC k n1 (.slice a1 l1.length c1) n2 (.slice a2 l2.length c2) n3 (.slice a3 l3.length c3) q st (.slice a4 l4.length c4)) 55)) 55 (clC k' n1' (.slice a1' l1'.length c1') n2' (.slice a2' l2'.length c2') n3' (.slice a3' l3'.length c3') q' st' (.slice a4' l4'.length c4')); simpa using this
          clear hW0
          refine (equalFunctionsS_any n1 n1' _ _ l1 l1' _ (h1.below B (Nat.le_refl _)) (h1'.below B (Nat.le_refl _))).mono ?_
          rintro e W1 ⟨rfl, hb⟩
          rw [E1.out]
          have B := B.after hb B.size
          have K1 := K1.keep hb
          have K2 := K2.keep hb
          have G1 := K1.cell
          have G2 := K2.cell
          clear hb
          go_wp2_with fail
          clear G1 G2
          refine (equalFunctionsS_any n2 n2' _ _ l2 l2' _ (h2.below B (Nat.le_refl _)) (h2'.below B (Nat.le_refl _))).mono ?_
          rintro e W2 ⟨rfl, hb⟩
          rw [E2.out]
          have B := B.after hb B.size
          have K1 := K1.keep hb
          have K2 := K2.keep hb
          have G1 := K1.cell
          have G2 := K2.cell
          clear hb
          go_wp2_with fail
          clear G1 G2
          refine (equalFamiliesS_any n3 n3' _ _ l3 l3' _ (h3.below B (Nat.le_refl _)) (h3'.below B (Nat.le_refl _))).mono ?_
          rintro e W3 ⟨rfl, hb⟩
          rw [E3.out]
          have B := B.after hb B.size
          have K1 := K1.keep hb
          have K2 := K2.keep hb
          have G1 := K1.cell
          have G2 := K2.cell
          clear hb
          go_wp2
          go_ret
          exact ⟨by rw [HX.out]; rfl, B⟩
        | true =>
          cases eq : decide (q = q') with
          | false =>
            have hx : eqClB k n1 l1 n2 l2 n3 l3 q st l4 k' n1' l1' n2' l2' n3' l3' q' st' l4' = false := by
              unfold eqClB
              rw [ek, e1, e2, e3, eq]
              first | done | simp
            have HX := Lib.hid hx
            have tk : (k == k') = true := by simpa using ek
            have tq : (q == q') = false := by simpa using eq
            have E1 := Lib.hid e1
            have E2 := Lib.hid e2
            have E3 := Lib.hid e3
            clear hx ek e1 e2 e3 eq
            go_enter Try.func39, Try.ntmps39
            go_wp2_with fail
            refine calls_named ?_
            intro W0 hW0
            have B : Below w.heap.size w W0 := by rw [hW0]; exact bl2 _ _ _
            have K1 : Blk W0 w.heap.size 55 (clC k n1 (.slice a1 l1.length c1) n2 (.slice a2 l2.length c2) n3 (.slice a3 l3.length c3) q st (.slice a4 l4.length c4)) := by rw [hW0]; exact (Blk.new _ _ _).alloc _
            have K2 : Blk W0 (w.heap.size + 1) 55 (clC k' n1' (.slice a1' l1'.length c1') n2' (.slice a2' l2'.length c2') n3' (.slice a3' l3'.length c3') q' st' (.slice a4' l4'.length c4')) := by rw [hW0]; have := Blk.new (w.alloc (.cells (clC k n1 (.slice a1 l1.length c1) n2 (.slice a2 l2.length c2) n3 (.slice a3 l3.length c3) q st (.slice a4 l4.length c4)) 55)) 55 (clC k' n1' (.slice a1' l1'.length c1') n2' (.slice a2' l2'.length c2') n3' (.slice a3' l3'.length c3') q' st' (.slice a4' l4'.length c4')); simpa using this
            clear hW0
            refine (equalFunctionsS_any n1 n1' _ _ l1 l1' _ (h1.below B (Nat.le_refl _)) (h1'.below B (Nat.le_refl _))).mono ?_
            rintro e W1 ⟨rfl, hb⟩
            rw [E1.out]
            have B := B.after hb B.size
            have K1 := K1.keep hb
            have K2 := K2.keep hb
            have G1 := K1.cell
            have G2 := K2.cell
            clear hb
            go_wp2_with fail
            clear G1 G2
            refine (equalFunctionsS_any n2 n2' _ _ l2 l2' _ (h2.below B (Nat.le_refl _)) (h2'.below B (Nat.le_refl _))).mono ?_
            rintro e W2 ⟨rfl, hb⟩
            rw [E2.out]
            have B := B.after hb B.size
            have K1 := K1.keep hb
            have K2 := K2.keep hb
            have G1 := K1.cell
            have G2 := K2.cell
            clear hb
            go_wp2_with fail
            clear G1 G2
            refine (equalFamiliesS_any n3 n3' _ _ l3 l3' _ (h3.below B (Nat.le_refl _)) (h3'.below B (Nat.le_refl _))).mono ?_
            rintro e W3 ⟨rfl, hb⟩
            rw [E3.out]
            have B := B.after hb B.size
            have K1 := K1.keep hb
            have K2 := K2.keep hb
            have G1 := K1.cell
            have G2 := K2.cell
            clear hb
            go_wp2
            go_ret
            exact ⟨by rw [HX.out]; rfl, B⟩
          | true =>
            cases est : decide (st = st') with
            | false =>
              have hx : eqClB k n1 l1 n2 l2 n3 l3 q st l4 k' n1' l1' n2' l2' n3' l3' q' st' l4' = false := by
                unfold eqClB
                rw [ek, e1, e2, e3, eq, est]
                first | done | simp
              have HX := Lib.hid hx
              have tk : (k == k') = true := by simpa using ek
              have tq : (q == q') = true := by simpa using eq
              have tst : (st == st') = false := by simpa using est
              have E1 := Lib.hid e1
              have E2 := Lib.hid e2
              have E3 := Lib.hid e3
              clear hx ek e1 e2 e3 eq est
              go_enter Try.func39, Try.ntmps39
              go_wp2_with fail
              refine calls_named ?_
              intro W0 hW0
              have B : Below w.heap.size w W0 := by rw [hW0]; exact bl2 _ _ _
              have K1 : Blk W0 w.heap.size 55 (clC k n1 (.slice a1 l1.length c1) n2 (.slice a2 l2.length c2) n3 (.slice a3 l3.length c3) q st (.slice a4 l4.length c4)) := by rw [hW0]; exact (Blk.new _ _ _).alloc _
              have K2 : Blk W0 (w.heap.size + 1) 55 (clC k' n1' (.slice a1' l1'.length c1') n2' (.slice a2' l2'.length c2') n3' (.slice a3' l3'.length c3') q' st' (.slice a4' l4'.length c4')) := by rw [hW0]; have := Blk.new (w.alloc (.cells (clC k n1 (.slice a1 l1.length c1) n2 (.slice a2 l2.length c2) n3 (.slice a3 l3.length c3) q st (.slice a4 l4.length c4)) 55)) 55 (clC k' n1' (.slice a1' l1'.length c1') n2' (.slice a2' l2'.length c2') n3' (.slice a3' l3'.length c3') q' st' (.slice a4' l4'.length c4')); simpa using this
              clear hW0
              refine (equalFunctionsS_any n1 n1' _ _ l1 l1' _ (h1.below B (Nat.le_refl _)) (h1'.below B (Nat.le_refl _))).mono ?_
              rintro e W1 ⟨rfl, hb⟩
              rw [E1.out]
              have B := B.after hb B.size
              have K1 := K1.keep hb
              have K2 := K2.keep hb
              have G1 := K1.cell
              have G2 := K2.cell
              clear hb
              go_wp2_with fail
              clear G1 G2
              refine (equalFunctionsS_any n2 n2' _ _ l2 l2' _ (h2.below B (Nat.le_refl _)) (h2'.below B (Nat.le_refl _))).mono ?_
              rintro e W2 ⟨rfl, hb⟩
              rw [E2.out]
              have B := B.after hb B.size
              have K1 := K1.keep hb
              have K2 := K2.keep hb
              have G1 := K1.cell
              have G2 := K2.cell
              clear hb
              go_wp2_with fail
              clear G1 G2
              refine (equalFamiliesS_any n3 n3' _ _ l3 l3' _ (h3.below B (Nat.le_refl _)) (h3'.below B (Nat.le_refl _))).mono ?_
              rintro e W3 ⟨rfl, hb⟩
              rw [E3.out]
              have B := B.after hb B.size
              have K1 := K1.keep hb
              have K2 := K2.keep hb
              have G1 := K1.cell
              have G2 := K2.cell
              clear hb
              go_wp2
              go_ret
              exact ⟨by rw [HX.out]; rfl, B⟩
            | true =>
              cases e4 : decide (l4 = l4') with
              | false =>
                have hx : eqClB k n1 l1 n2 l2 n3 l3 q st l4 k' n1' l1' n2' l2' n3' l3' q' st' l4' = false := by
                  unfold eqClB
                  rw [ek, e1, e2, e3, eq, est, e4]
                  first | done | simp
                have HX := Lib.hid hx
                have tk : (k == k') = true := by simpa using ek
                have tq : (q == q') = true := by simpa using eq
                have tst : (st == st') = true := by simpa using est
                have E1 := Lib.hid e1
                have E2 := Lib.hid e2
                have E3 := Lib.hid e3
                have E4 := Lib.hid e4
                clear hx ek e1 e2 e3 eq est e4
                go_enter Try.func39, Try.ntmps39
                go_wp2_with fail
                refine calls_named ?_
                intro W0 hW0
                have B : Below w.heap.size w W0 := by rw [hW0]; exact bl2 _ _ _
                have K1 : Blk W0 w.heap.size 55 (clC k n1 (.slice a1 l1.length c1) n2 (.slice a2 l2.length c2) n3 (.slice a3 l3.length c3) q st (.slice a4 l4.length c4)) := by rw [hW0]; exact (Blk.new _ _ _).alloc _
                have K2 : Blk W0 (w.heap.size + 1) 55 (clC k' n1' (.slice a1' l1'.length c1') n2' (.slice a2' l2'.length c2') n3' (.slice a3' l3'.length c3') q' st' (.slice a4' l4'.length c4')) := by rw [hW0]; have := Blk.new (w.alloc (.cells (clC k n1 (.slice a1 l1.length c1) n2 (.slice a2 l2.length c2) n3 (.slice a3 l3.length c3) q st (.slice a4 l4.length c4)) 55)) 55 (clC k' n1' (.slice a1' l1'.length c1') n2' (.slice a2' l2'.length c2') n3' (.slice a3' l3'.length c3') q' st' (.slice a4' l4'.length c4')); simpa using this
                clear hW0
                refine (equalFunctionsS_any n1 n1' _ _ l1 l1' _ (h1.below B (Nat.le_refl _)) (h1'.below B (Nat.le_refl _))).mono ?_
                rintro e W1 ⟨rfl, hb⟩
                rw [E1.out]
                have B := B.after hb B.size
                have K1 := K1.keep hb
                have K2 := K2.keep hb
                have G1 := K1.cell
                have G2 := K2.cell
                clear hb
                go_wp2_with fail
                clear G1 G2
                refine (equalFunctionsS_any n2 n2' _ _ l2 l2' _ (h2.below B (Nat.le_refl _)) (h2'.below B (Nat.le_refl _))).mono ?_
                rintro e W2 ⟨rfl, hb⟩
                rw [E2.out]
                have B := B.after hb B.size
                have K1 := K1.keep hb
                have K2 := K2.keep hb
                have G1 := K1.cell
                have G2 := K2.cell
                clear hb
                go_wp2_with fail
                clear G1 G2
                refine (equalFamiliesS_any n3 n3' _ _ l3 l3' _ (h3.below B (Nat.le_refl _)) (h3'.below B (Nat.le_refl _))).mono ?_
                rintro e W3 ⟨rfl, hb⟩
                rw [E3.out]
                have B := B.after hb B.size
                have K1 := K1.keep hb
                have K2 := K2.keep hb
                have G1 := K1.cell
                have G2 := K2.cell
                clear hb
                go_wp2_with fail
                clear G1 G2
                refine (l2Same_any _ _ l4 l4' _ (h4.below B (Nat.le_refl _)) (h4'.below B (Nat.le_refl _))).mono ?_
                rintro e W4 ⟨rfl, nq4, hq⟩
                have hb : Below W3.heap.size W3 W4 := by rw [hq]; exact (Below.refl _ _).drewN' _
                clear hq
                rw [E4.out]
                have B := B.after hb B.size
                have K1 := K1.keep hb
                have K2 := K2.keep hb
                have G1 := K1.cell
                have G2 := K2.cell
                clear hb
                go_wp2
                go_ret
                exact ⟨by rw [HX.out]; rfl, B⟩
              | true =>
                have hx : eqClB k n1 l1 n2 l2 n3 l3 q st l4 k' n1' l1' n2' l2' n3' l3' q' st' l4' = true := by
                  unfold eqClB
                  rw [ek, e1, e2, e3, eq, est, e4]
                  first | done | simp
                have HX := Lib.hid hx
                have tk : (k == k') = true := by simpa using ek
                have tq : (q == q') = true := by simpa using eq
                have tst : (st == st') = true := by simpa using est
                have E1 := Lib.hid e1
                have E2 := Lib.hid e2
                have E3 := Lib.hid e3
                have E4 := Lib.hid e4
                clear hx ek e1 e2 e3 eq est e4
                go_enter Try.func39, Try.ntmps39
                go_wp2_with fail
                refine calls_named ?_
                intro W0 hW0
                have B : Below w.heap.size w W0 := by rw [hW0]; exact bl2 _ _ _
                have K1 : Blk W0 w.heap.size 55 (clC k n1 (.slice a1 l1.length c1) n2 (.slice a2 l2.length c2) n3 (.slice a3 l3.length c3) q st (.slice a4 l4.length c4)) := by rw [hW0]; exact (Blk.new _ _ _).alloc _
                have K2 : Blk W0 (w.heap.size + 1) 55 (clC k' n1' (.slice a1' l1'.length c1') n2' (.slice a2' l2'.length c2') n3' (.slice a3' l3'.length c3') q' st' (.slice a4' l4'.length c4')) := by rw [hW0]; have := Blk.new (w.alloc (.cells (clC k n1 (.slice a1 l1.length c1) n2 (.slice a2 l2.length c2) n3 (.slice a3 l3.length c3) q st (.slice a4 l4.length c4)) 55)) 55 (clC k' n1' (.slice a1' l1'.length c1') n2' (.slice a2' l2'.length c2') n3' (.slice a3' l3'.length c3') q' st' (.slice a4' l4'.length c4')); simpa using this
                clear hW0
                refine (equalFunctionsS_any n1 n1' _ _ l1 l1' _ (h1.below B (Nat.le_refl _)) (h1'.below B (Nat.le_refl _))).mono ?_
                rintro e W1 ⟨rfl, hb⟩
                rw [E1.out]
                have B := B.after hb B.size
                have K1 := K1.keep hb
                have K2 := K2.keep hb
                have G1 := K1.cell
                have G2 := K2.cell
                clear hb
                go_wp2_with fail
                clear G1 G2
                refine (equalFunctionsS_any n2 n2' _ _ l2 l2' _ (h2.below B (Nat.le_refl _)) (h2'.below B (Nat.le_refl _))).mono ?_
                rintro e W2 ⟨rfl, hb⟩
                rw [E2.out]
                have B := B.after hb B.size
                have K1 := K1.keep hb
                have K2 := K2.keep hb
                have G1 := K1.cell
                have G2 := K2.cell
                clear hb
                go_wp2_with fail
                clear G1 G2
                refine (equalFamiliesS_any n3 n3' _ _ l3 l3' _ (h3.below B (Nat.le_refl _)) (h3'.below B (Nat.le_refl _))).mono ?_
                rintro e W3 ⟨rfl, hb⟩
                rw [E3.out]
                have B := B.after hb B.size
                have K1 := K1.keep hb
                have K2 := K2.keep hb
                have G1 := K1.cell
                have G2 := K2.cell
                clear hb
                go_wp2_with fail
                clear G1 G2
                refine (l2Same_any _ _ l4 l4' _ (h4.below B (Nat.le_refl _)) (h4'.below B (Nat.le_refl _))).mono ?_
                rintro e W4 ⟨rfl, nq4, hq⟩
                have hb : Below W3.heap.size W3 W4 := by rw [hq]; exact (Below.refl _ _).drewN' _
                clear hq
                rw [E4.out]
                have B := B.after hb B.size
                have K1 := K1.keep hb
                have K2 := K2.keep hb
                have G1 := K1.cell
                have G2 := K2.cell
                clear hb
                go_wp2
                go_ret
                exact ⟨by rw [HX.out]; rfl, B⟩
end Go.Proofs.Ytmmaleidaghooaa
