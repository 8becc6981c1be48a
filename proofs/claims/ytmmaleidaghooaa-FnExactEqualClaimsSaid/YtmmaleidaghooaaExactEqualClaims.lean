/- The statement FnExactEqualClaims: for every input the call returns true and each argument reads as it did. No condition. -/
import Derived.Test.YtmmaleidaghooaaRead
import Derived.Test.YtmmaleidaghooaaTo
import Derived.Test.YtmmaleidaghooaaEq
import Derived.Test.YtmmaleidaghooaaMark
import Derived.Deep.RegionHeld3
import Derived.Test.YtmmaleidaghooaaClaim
import Derived.Test.YtmmaleidaghooaaClaimEq
namespace Go.Proofs.Ytmmaleidaghooaa
open Go.ChangeShapes Go.WideShapes Go.ChangeAt Go.RowKit Go.G5
set_option maxHeartbeats 4000000 in
set_option maxRecDepth 100000 in
theorem eqcl_walk (w : World) (n0_0 : Int) (n0_1 : Int) (v0_2 : Value) (l0_2 : List Int) (hv0_2 : Ints w v0_2 l0_2) (n0_3 : Int) (v0_4 : Value) (l0_4 : List Int) (hv0_4 : Ints w v0_4 l0_4) (n0_5 : Int) (v0_6 : Value) (l0_6 : List Int) (hv0_6 : Ints w v0_6 l0_6) (n0_7 : Int) (n0_8 : Int) (v0_9 : Value) (l0_9 : List Int) (hv0_9 : Ints w v0_9 l0_9) (n1_0 : Int) (n1_1 : Int) (v1_2 : Value) (l1_2 : List Int) (hv1_2 : Ints w v1_2 l1_2) (n1_3 : Int) (v1_4 : Value) (l1_4 : List Int) (hv1_4 : Ints w v1_4 l1_4) (n1_5 : Int) (v1_6 : Value) (l1_6 : List Int) (hv1_6 : Ints w v1_6 l1_6) (n1_7 : Int) (n1_8 : Int) (v1_9 : Value) (l1_9 : List Int) (hv1_9 : Ints w v1_9 l1_9) :
    Calls Try.prog 9 #[.agg #[.int .i64 n0_0, .int .i64 n0_1, v0_2, .int .i64 n0_3, v0_4, .int .i64 n0_5, v0_6, .int .i64 n0_7, .int .i64 n0_8, v0_9], .agg #[.int .i64 n1_0, .int .i64 n1_1, v1_2, .int .i64 n1_3, v1_4, .int .i64 n1_5, v1_6, .int .i64 n1_7, .int .i64 n1_8, v1_9]] w fun e w' => e = .returned (.bool true) ∧ Below w.heap.size w w' := by
  obtain ⟨av0_2, cv0_2, rfl⟩ := hv0_2.shape
  obtain ⟨av0_4, cv0_4, rfl⟩ := hv0_4.shape
  obtain ⟨av0_6, cv0_6, rfl⟩ := hv0_6.shape
  obtain ⟨av0_9, cv0_9, rfl⟩ := hv0_9.shape
  obtain ⟨av1_2, cv1_2, rfl⟩ := hv1_2.shape
  obtain ⟨av1_4, cv1_4, rfl⟩ := hv1_4.shape
  obtain ⟨av1_6, cv1_6, rfl⟩ := hv1_6.shape
  obtain ⟨av1_9, cv1_9, rfl⟩ := hv1_9.shape
  go_enter Try.func9, Try.ntmps9
  go_wp2_with fail
  refine calls_named ?_
  intro V1 hV
  have B : Below w.heap.size w V1 := by rw [hV]; exact (by repeat (first | exact Below.refl _ _ | (with_reducible refine Below.setCell ?_ (by first | omega | (simp; done) | (simp; omega)) _) | (with_reducible refine Below.alloc ?_ (by first | omega | (simp; done) | (simp; omega)) _) | (with_reducible refine Below.drewN' ?_ _) | (with_reducible refine Below.drew ?_) | (with_reducible assumption) | refine Below.trans ?_ (Below.mono (by assumption) (by first | omega | (simp; done) | (simp; omega)))))
  have K0 : Blk V1 (w.heap.size) 51 #[.int .i64 n0_0, .int .i64 n0_1, .slice av0_2 l0_2.length cv0_2, .int .i64 n0_3, .slice av0_4 l0_4.length cv0_4, .int .i64 n0_5, .slice av0_6 l0_6.length cv0_6, .int .i64 n0_7, .int .i64 n0_8, .slice av0_9 l0_9.length cv0_9] := by rw [hV]; have := (Blk.new (w) 51 #[.int .i64 n0_0, .int .i64 n0_1, .slice av0_2 l0_2.length cv0_2, .int .i64 n0_3, .slice av0_4 l0_4.length cv0_4, .int .i64 n0_5, .slice av0_6 l0_6.length cv0_6, .int .i64 n0_7, .int .i64 n0_8, .slice av0_9 l0_9.length cv0_9]).alloc (.cells #[.int .i64 n1_0, .int .i64 n1_1, .slice av1_2 l1_2.length cv1_2, .int .i64 n1_3, .slice av1_4 l1_4.length cv1_4, .int .i64 n1_5, .slice av1_6 l1_6.length cv1_6, .int .i64 n1_7, .int .i64 n1_8, .slice av1_9 l1_9.length cv1_9] 51); simpa using this
  have K1 : Blk V1 (w.heap.size + 1) 51 #[.int .i64 n1_0, .int .i64 n1_1, .slice av1_2 l1_2.length cv1_2, .int .i64 n1_3, .slice av1_4 l1_4.length cv1_4, .int .i64 n1_5, .slice av1_6 l1_6.length cv1_6, .int .i64 n1_7, .int .i64 n1_8, .slice av1_9 l1_9.length cv1_9] := by rw [hV]; have := (Blk.new (w.alloc (.cells #[.int .i64 n0_0, .int .i64 n0_1, .slice av0_2 l0_2.length cv0_2, .int .i64 n0_3, .slice av0_4 l0_4.length cv0_4, .int .i64 n0_5, .slice av0_6 l0_6.length cv0_6, .int .i64 n0_7, .int .i64 n0_8, .slice av0_9 l0_9.length cv0_9] 51)) 51 #[.int .i64 n1_0, .int .i64 n1_1, .slice av1_2 l1_2.length cv1_2, .int .i64 n1_3, .slice av1_4 l1_4.length cv1_4, .int .i64 n1_5, .slice av1_6 l1_6.length cv1_6, .int .i64 n1_7, .int .i64 n1_8, .slice av1_9 l1_9.length cv1_9]); simpa using this
  clear hV
  refine (szClaim_c _ (by omega) (by omega) _ n0_0 n0_1 _ l0_2 (hv0_2.below B (Nat.le_refl _)) n0_3 _ l0_4 (hv0_4.below B (Nat.le_refl _)) n0_5 _ l0_6 (hv0_6.below B (Nat.le_refl _)) n0_7 n0_8 _ l0_9 (hv0_9.below B (Nat.le_refl _))).mono ?_
  rintro e W2 ⟨⟨s0, rfl, hs0⟩, hb⟩
  have B1 := B.after hb B.size
  have K0x := K0.keep hb
  have K1x := K1.keep hb
  clear B K0 K1
  have B := B1
  have K0 := K0x
  have K1 := K1x
  clear B1 K0x K1x
  clear hb
  rcases hs0 with hs0 | ⟨g0_0, g0_1, hlv0_2', hlv0_4', hlv0_6', hlv0_9'⟩
  · go_wp2
    go_ret
    exact ⟨rfl, B⟩
  have hlv0_2 : l0_2.length ≤ 1048576 := by omega
  have hlv0_4 : l0_4.length ≤ 1048576 := by omega
  have hlv0_6 : l0_6.length ≤ 1048576 := by omega
  have hlv0_9 : l0_9.length ≤ 1048576 := by omega
  have GK0 := K0.cell
  have ZK0 := K0.lt
  have GK1 := K1.cell
  have ZK1 := K1.lt
  go_wp2_with fail
  clear GK0 ZK0 GK1 ZK1
  refine calls_named ?_
  intro V3 hV
  have B1 : Below w.heap.size w V3 := by rw [hV]; first | exact B | exact B.alloc B.size _ | exact (B.alloc B.size _).alloc (by have := B.size; simp; omega) _
  have K0x : Blk V3 (w.heap.size) 51 #[.int .i64 n0_0, .int .i64 n0_1, .slice av0_2 l0_2.length cv0_2, .int .i64 n0_3, .slice av0_4 l0_4.length cv0_4, .int .i64 n0_5, .slice av0_6 l0_6.length cv0_6, .int .i64 n0_7, .int .i64 n0_8, .slice av0_9 l0_9.length cv0_9] := by rw [hV]; first | exact K0 | exact K0.alloc _ | exact (K0.alloc _).alloc _
  have K1x : Blk V3 (w.heap.size + 1) 51 #[.int .i64 n1_0, .int .i64 n1_1, .slice av1_2 l1_2.length cv1_2, .int .i64 n1_3, .slice av1_4 l1_4.length cv1_4, .int .i64 n1_5, .slice av1_6 l1_6.length cv1_6, .int .i64 n1_7, .int .i64 n1_8, .slice av1_9 l1_9.length cv1_9] := by rw [hV]; first | exact K1 | exact K1.alloc _ | exact (K1.alloc _).alloc _
  clear B K0 K1
  have B := B1
  have K0 := K0x
  have K1 := K1x
  clear B1 K0x K1x
  clear hV
  refine (szClaim_c _ (by omega) (by omega) _ n1_0 n1_1 _ l1_2 (hv1_2.below B (Nat.le_refl _)) n1_3 _ l1_4 (hv1_4.below B (Nat.le_refl _)) n1_5 _ l1_6 (hv1_6.below B (Nat.le_refl _)) n1_7 n1_8 _ l1_9 (hv1_9.below B (Nat.le_refl _))).mono ?_
  rintro e W4 ⟨⟨s1, rfl, hs1⟩, hb⟩
  have B1 := B.after hb B.size
  have K0x := K0.keep hb
  have K1x := K1.keep hb
  clear B K0 K1
  have B := B1
  have K0 := K0x
  have K1 := K1x
  clear B1 K0x K1x
  clear hb
  rcases hs1 with hs1 | ⟨g1_0, g1_1, hlv1_2', hlv1_4', hlv1_6', hlv1_9'⟩
  · go_wp2
    go_ret
    exact ⟨rfl, B⟩
  have hlv1_2 : l1_2.length ≤ 1048576 := by omega
  have hlv1_4 : l1_4.length ≤ 1048576 := by omega
  have hlv1_6 : l1_6.length ≤ 1048576 := by omega
  have hlv1_9 : l1_9.length ≤ 1048576 := by omega
  have GK0 := K0.cell
  have ZK0 := K0.lt
  have GK1 := K1.cell
  have ZK1 := K1.lt
  go_wp2_with fail
  clear GK0 ZK0 GK1 ZK1
  have yK0 := K0.lt
  have yK1 := K1.lt
  have GK0 := K0.cell
  have GK1 := K1.cell
  go_region_held3 (fun w' => (∀ i, w'.cell? ⟨w.heap.size, i, none⟩ = (#[.int .i64 n0_0, .int .i64 n0_1, .slice av0_2 l0_2.length cv0_2, .int .i64 n0_3, .slice av0_4 l0_4.length cv0_4, .int .i64 n0_5, .slice av0_6 l0_6.length cv0_6, .int .i64 n0_7, .int .i64 n0_8, .slice av0_9 l0_9.length cv0_9] : Array Value)[i]?) ∧ (∀ i, w'.cell? ⟨w.heap.size + 1, i, none⟩ = (#[.int .i64 n1_0, .int .i64 n1_1, .slice av1_2 l1_2.length cv1_2, .int .i64 n1_3, .slice av1_4 l1_4.length cv1_4, .int .i64 n1_5, .slice av1_6 l1_6.length cv1_6, .int .i64 n1_7, .int .i64 n1_8, .slice av1_9 l1_9.length cv1_9] : Array Value)[i]?)) (go_keep)
    (first
      | (go_at_call_of 40 (Value.slice av0_2 l0_2.length cv0_2); refine (toClaim_c _ n0_0 n0_1 _ l0_2 (hv0_2.below (B := w.heap.size) (by repeat (first | exact Below.refl _ _ | (with_reducible refine Below.setCell ?_ (by first | omega | (simp; done) | (simp; omega)) _) | (with_reducible refine Below.alloc ?_ (by first | omega | (simp; done) | (simp; omega)) _) | (with_reducible refine Below.drewN' ?_ _) | (with_reducible refine Below.drew ?_) | (with_reducible assumption) | refine Below.trans ?_ (Below.mono (by assumption) (by first | omega | (simp; done) | (simp; omega))))) (Nat.le_refl _)) hlv0_2 n0_3 _ l0_4 (hv0_4.below (B := w.heap.size) (by repeat (first | exact Below.refl _ _ | (with_reducible refine Below.setCell ?_ (by first | omega | (simp; done) | (simp; omega)) _) | (with_reducible refine Below.alloc ?_ (by first | omega | (simp; done) | (simp; omega)) _) | (with_reducible refine Below.drewN' ?_ _) | (with_reducible refine Below.drew ?_) | (with_reducible assumption) | refine Below.trans ?_ (Below.mono (by assumption) (by first | omega | (simp; done) | (simp; omega))))) (Nat.le_refl _)) hlv0_4 n0_5 _ l0_6 (hv0_6.below (B := w.heap.size) (by repeat (first | exact Below.refl _ _ | (with_reducible refine Below.setCell ?_ (by first | omega | (simp; done) | (simp; omega)) _) | (with_reducible refine Below.alloc ?_ (by first | omega | (simp; done) | (simp; omega)) _) | (with_reducible refine Below.drewN' ?_ _) | (with_reducible refine Below.drew ?_) | (with_reducible assumption) | refine Below.trans ?_ (Below.mono (by assumption) (by first | omega | (simp; done) | (simp; omega))))) (Nat.le_refl _)) hlv0_6 n0_7 n0_8 _ l0_9 (hv0_9.below (B := w.heap.size) (by repeat (first | exact Below.refl _ _ | (with_reducible refine Below.setCell ?_ (by first | omega | (simp; done) | (simp; omega)) _) | (with_reducible refine Below.alloc ?_ (by first | omega | (simp; done) | (simp; omega)) _) | (with_reducible refine Below.drewN' ?_ _) | (with_reducible refine Below.drew ?_) | (with_reducible assumption) | refine Below.trans ?_ (Below.mono (by assumption) (by first | omega | (simp; done) | (simp; omega))))) (Nat.le_refl _)) hlv0_9).mono ?_; rintro e W5 ⟨pwx00, iwx00, qwx00, pwx01, iwx01, qwx01, pwx02, iwx02, qwx02, pwx03, iwx03, qwx03, rfl, owx00, owx01, owx02, owx03, hbW5⟩; obtain ⟨hchbW5, hfhbW5⟩ := bcellN hbW5 (W4.heap.size) (by first | omega | (simp; done) | (simp; omega)); have zhbW5 := hbW5.size; (try simp at zhbW5))
      | (go_at_call_of 40 (Value.slice av1_2 l1_2.length cv1_2); refine (toClaim_c _ n1_0 n1_1 _ l1_2 (hv1_2.below (B := w.heap.size) (by repeat (first | exact Below.refl _ _ | (with_reducible refine Below.setCell ?_ (by first | omega | (simp; done) | (simp; omega)) _) | (with_reducible refine Below.alloc ?_ (by first | omega | (simp; done) | (simp; omega)) _) | (with_reducible refine Below.drewN' ?_ _) | (with_reducible refine Below.drew ?_) | (with_reducible assumption) | refine Below.trans ?_ (Below.mono (by assumption) (by first | omega | (simp; done) | (simp; omega))))) (Nat.le_refl _)) hlv1_2 n1_3 _ l1_4 (hv1_4.below (B := w.heap.size) (by repeat (first | exact Below.refl _ _ | (with_reducible refine Below.setCell ?_ (by first | omega | (simp; done) | (simp; omega)) _) | (with_reducible refine Below.alloc ?_ (by first | omega | (simp; done) | (simp; omega)) _) | (with_reducible refine Below.drewN' ?_ _) | (with_reducible refine Below.drew ?_) | (with_reducible assumption) | refine Below.trans ?_ (Below.mono (by assumption) (by first | omega | (simp; done) | (simp; omega))))) (Nat.le_refl _)) hlv1_4 n1_5 _ l1_6 (hv1_6.below (B := w.heap.size) (by repeat (first | exact Below.refl _ _ | (with_reducible refine Below.setCell ?_ (by first | omega | (simp; done) | (simp; omega)) _) | (with_reducible refine Below.alloc ?_ (by first | omega | (simp; done) | (simp; omega)) _) | (with_reducible refine Below.drewN' ?_ _) | (with_reducible refine Below.drew ?_) | (with_reducible assumption) | refine Below.trans ?_ (Below.mono (by assumption) (by first | omega | (simp; done) | (simp; omega))))) (Nat.le_refl _)) hlv1_6 n1_7 n1_8 _ l1_9 (hv1_9.below (B := w.heap.size) (by repeat (first | exact Below.refl _ _ | (with_reducible refine Below.setCell ?_ (by first | omega | (simp; done) | (simp; omega)) _) | (with_reducible refine Below.alloc ?_ (by first | omega | (simp; done) | (simp; omega)) _) | (with_reducible refine Below.drewN' ?_ _) | (with_reducible refine Below.drew ?_) | (with_reducible assumption) | refine Below.trans ?_ (Below.mono (by assumption) (by first | omega | (simp; done) | (simp; omega))))) (Nat.le_refl _)) hlv1_9).mono ?_; rintro e W6 ⟨pwx10, iwx10, qwx10, pwx11, iwx11, qwx11, pwx12, iwx12, qwx12, pwx13, iwx13, qwx13, rfl, owx10, owx11, owx12, owx13, hbW6⟩; obtain ⟨hchbW6, hfhbW6⟩ := bcellN hbW6 (W4.heap.size) (by first | omega | (simp; done) | (simp; omega)); have zhbW6 := hbW6.size; (try simp at zhbW6))
      | (go_at_call 39; refine (equalClaimsS_c _ n0_0 n0_1 _ l0_2 (owx00.below hbW6 (by first | omega | (simp; done) | (simp; omega))).ints hlv0_2 n0_3 _ l0_4 (owx01.below hbW6 (by first | omega | (simp; done) | (simp; omega))).ints hlv0_4 n0_5 _ l0_6 (owx02.below hbW6 (by first | omega | (simp; done) | (simp; omega))).ints hlv0_6 n0_7 n0_8 _ l0_9 (owx03.below hbW6 (by first | omega | (simp; done) | (simp; omega))).ints hlv0_9 n1_0 n1_1 _ l1_2 owx10.ints hlv1_2 n1_3 _ l1_4 owx11.ints hlv1_4 n1_5 _ l1_6 owx12.ints hlv1_6 n1_7 n1_8 _ l1_9 owx13.ints hlv1_9).mono ?_; rintro e W7 ⟨rfl, hbW7⟩; obtain ⟨hchbW7, hfhbW7⟩ := bcellN hbW7 (W4.heap.size) (by first | omega | (simp; done) | (simp; omega)); have zhbW7 := hbW7.size; (try simp at zhbW7))
    )
  have B1 : Below w.heap.size w W7 := (by repeat (first | exact Below.refl _ _ | (with_reducible refine Below.setCell ?_ (by first | omega | (simp; done) | (simp; omega)) _) | (with_reducible refine Below.alloc ?_ (by first | omega | (simp; done) | (simp; omega)) _) | (with_reducible refine Below.drewN' ?_ _) | (with_reducible refine Below.drew ?_) | (with_reducible assumption) | refine Below.trans ?_ (Below.mono (by assumption) (by first | omega | (simp; done) | (simp; omega)))))
  have K0x : Blk W7 (w.heap.size) 51 #[.int .i64 n0_0, .int .i64 n0_1, .slice av0_2 l0_2.length cv0_2, .int .i64 n0_3, .slice av0_4 l0_4.length cv0_4, .int .i64 n0_5, .slice av0_6 l0_6.length cv0_6, .int .i64 n0_7, .int .i64 n0_8, .slice av0_9 l0_9.length cv0_9] := ((((K0.drewN 1).keep hbW5).keep hbW6).keep hbW7)
  have K1x : Blk W7 (w.heap.size + 1) 51 #[.int .i64 n1_0, .int .i64 n1_1, .slice av1_2 l1_2.length cv1_2, .int .i64 n1_3, .slice av1_4 l1_4.length cv1_4, .int .i64 n1_5, .slice av1_6 l1_6.length cv1_6, .int .i64 n1_7, .int .i64 n1_8, .slice av1_9 l1_9.length cv1_9] := ((((K1.drewN 1).keep hbW5).keep hbW6).keep hbW7)
  clear B K0 K1 GK0 GK1 yK0 yK1 hchbW5 hfhbW5 hchbW6 hfhbW6 hchbW7 hfhbW7
  have B := B1
  have K0 := K0x
  have K1 := K1x
  clear B1 K0x K1x
  have GK0 := K0.cell
  have ZK0 := K0.lt
  have GK1 := K1.cell
  have ZK1 := K1.lt
  go_wp2_with fail
  clear GK0 ZK0 GK1 ZK1
  refine calls_named ?_
  intro V8 hV
  have B1 : Below w.heap.size w V8 := by rw [hV]; first | exact B | exact B.alloc B.size _ | exact (B.alloc B.size _).alloc (by have := B.size; simp; omega) _
  have K0x : Blk V8 (w.heap.size) 51 #[.int .i64 n0_0, .int .i64 n0_1, .slice av0_2 l0_2.length cv0_2, .int .i64 n0_3, .slice av0_4 l0_4.length cv0_4, .int .i64 n0_5, .slice av0_6 l0_6.length cv0_6, .int .i64 n0_7, .int .i64 n0_8, .slice av0_9 l0_9.length cv0_9] := by rw [hV]; first | exact K0 | exact K0.alloc _ | exact (K0.alloc _).alloc _
  have K1x : Blk V8 (w.heap.size + 1) 51 #[.int .i64 n1_0, .int .i64 n1_1, .slice av1_2 l1_2.length cv1_2, .int .i64 n1_3, .slice av1_4 l1_4.length cv1_4, .int .i64 n1_5, .slice av1_6 l1_6.length cv1_6, .int .i64 n1_7, .int .i64 n1_8, .slice av1_9 l1_9.length cv1_9] := by rw [hV]; first | exact K1 | exact K1.alloc _ | exact (K1.alloc _).alloc _
  clear B K0 K1
  have B := B1
  have K0 := K0x
  have K1 := K1x
  clear B1 K0x K1x
  clear hV
  refine (toClaim_c _ n0_0 n0_1 _ l0_2 (hv0_2.below B (Nat.le_refl _)) hlv0_2 n0_3 _ l0_4 (hv0_4.below B (Nat.le_refl _)) hlv0_4 n0_5 _ l0_6 (hv0_6.below B (Nat.le_refl _)) hlv0_6 n0_7 n0_8 _ l0_9 (hv0_9.below B (Nat.le_refl _)) hlv0_9).mono ?_
  rintro e W9 ⟨px00, ix00, qx00, px01, ix01, qx01, px02, ix02, qx02, px03, ix03, qx03, rfl, ox00x, ox01x, ox02x, ox03x, hb⟩
  have B1 := B.after hb B.size
  have K0x := K0.keep hb
  have K1x := K1.keep hb
  clear B K0 K1
  have B := B1
  have K0 := K0x
  have K1 := K1x
  clear B1 K0x K1x
  clear hb
  have ox00 := ox00x
  clear ox00x
  have r_x00 := ox00.lt
  have ox01 := ox01x
  clear ox01x
  have r_x01 := ox01.lt
  have ox02 := ox02x
  clear ox02x
  have r_x02 := ox02.lt
  have ox03 := ox03x
  clear ox03x
  have r_x03 := ox03.lt
  have GK0 := K0.cell
  have ZK0 := K0.lt
  have GK1 := K1.cell
  have ZK1 := K1.lt
  go_wp2_with fail
  clear GK0 ZK0 GK1 ZK1
  refine calls_named ?_
  intro V10 hV
  have B1 : Below w.heap.size w V10 := by rw [hV]; first | exact B | exact B.alloc B.size _ | exact (B.alloc B.size _).alloc (by have := B.size; simp; omega) _
  have K0x : Blk V10 (w.heap.size) 51 #[.int .i64 n0_0, .int .i64 n0_1, .slice av0_2 l0_2.length cv0_2, .int .i64 n0_3, .slice av0_4 l0_4.length cv0_4, .int .i64 n0_5, .slice av0_6 l0_6.length cv0_6, .int .i64 n0_7, .int .i64 n0_8, .slice av0_9 l0_9.length cv0_9] := by rw [hV]; first | exact K0 | exact K0.alloc _ | exact (K0.alloc _).alloc _
  have K1x : Blk V10 (w.heap.size + 1) 51 #[.int .i64 n1_0, .int .i64 n1_1, .slice av1_2 l1_2.length cv1_2, .int .i64 n1_3, .slice av1_4 l1_4.length cv1_4, .int .i64 n1_5, .slice av1_6 l1_6.length cv1_6, .int .i64 n1_7, .int .i64 n1_8, .slice av1_9 l1_9.length cv1_9] := by rw [hV]; first | exact K1 | exact K1.alloc _ | exact (K1.alloc _).alloc _
  have ox00x : OwnI 3 V8.heap.size V10 (.slice px00 ix00 qx00) (l0_2) := by rw [hV]; first | exact ox00 | exact ox00.alloc _ | exact (ox00.alloc _).alloc _
  have ox01x : OwnI 3 V8.heap.size V10 (.slice px01 ix01 qx01) (l0_4) := by rw [hV]; first | exact ox01 | exact ox01.alloc _ | exact (ox01.alloc _).alloc _
  have ox02x : OwnI 3 V8.heap.size V10 (.slice px02 ix02 qx02) (l0_6) := by rw [hV]; first | exact ox02 | exact ox02.alloc _ | exact (ox02.alloc _).alloc _
  have ox03x : OwnI 3 V8.heap.size V10 (.slice px03 ix03 qx03) (l0_9) := by rw [hV]; first | exact ox03 | exact ox03.alloc _ | exact (ox03.alloc _).alloc _
  have K2x : Blk V10 (W9.heap.size) 55 #[.int .i64 n0_0, .int .i64 n0_1, .slice px00 ix00 qx00, .int .i64 n0_3, .slice px01 ix01 qx01, .int .i64 n0_5, .slice px02 ix02 qx02, .int .i64 n0_7, .int .i64 n0_8, .slice px03 ix03 qx03] := by rw [hV]; exact Blk.new _ _ _
  clear B K0 K1 ox00 ox01 ox02 ox03
  have B := B1
  have K0 := K0x
  have K1 := K1x
  have K2 := K2x
  have ox00 := ox00x
  have ox01 := ox01x
  have ox02 := ox02x
  have ox03 := ox03x
  clear B1 K0x K1x K2x ox00x ox01x ox02x ox03x
  clear hV
  refine (toClaim_c _ n1_0 n1_1 _ l1_2 (hv1_2.below B (Nat.le_refl _)) hlv1_2 n1_3 _ l1_4 (hv1_4.below B (Nat.le_refl _)) hlv1_4 n1_5 _ l1_6 (hv1_6.below B (Nat.le_refl _)) hlv1_6 n1_7 n1_8 _ l1_9 (hv1_9.below B (Nat.le_refl _)) hlv1_9).mono ?_
  rintro e W11 ⟨px10, ix10, qx10, px11, ix11, qx11, px12, ix12, qx12, px13, ix13, qx13, rfl, ox10x, ox11x, ox12x, ox13x, hb⟩
  have B1 := B.after hb B.size
  have K0x := K0.keep hb
  have K1x := K1.keep hb
  have K2x := K2.keep hb
  have ox00x := ox00.keep hb
  have ox01x := ox01.keep hb
  have ox02x := ox02.keep hb
  have ox03x := ox03.keep hb
  clear B K0 K1 K2 ox00 ox01 ox02 ox03
  have B := B1
  have K0 := K0x
  have K1 := K1x
  have K2 := K2x
  have ox00 := ox00x
  have ox01 := ox01x
  have ox02 := ox02x
  have ox03 := ox03x
  clear B1 K0x K1x K2x ox00x ox01x ox02x ox03x
  clear hb
  have ox10 := ox10x
  clear ox10x
  have r_x10 := ox10.lt
  have ox11 := ox11x
  clear ox11x
  have r_x11 := ox11.lt
  have ox12 := ox12x
  clear ox12x
  have r_x12 := ox12.lt
  have ox13 := ox13x
  clear ox13x
  have r_x13 := ox13.lt
  have GK0 := K0.cell
  have ZK0 := K0.lt
  have GK1 := K1.cell
  have ZK1 := K1.lt
  have GK2 := K2.cell
  have ZK2 := K2.lt
  go_wp2_with fail
  clear GK0 ZK0 GK1 ZK1 GK2 ZK2
  refine calls_named ?_
  intro V12 hV
  have B1 : Below w.heap.size w V12 := by rw [hV]; first | exact B | exact B.alloc B.size _ | exact (B.alloc B.size _).alloc (by have := B.size; simp; omega) _
  have K0x : Blk V12 (w.heap.size) 51 #[.int .i64 n0_0, .int .i64 n0_1, .slice av0_2 l0_2.length cv0_2, .int .i64 n0_3, .slice av0_4 l0_4.length cv0_4, .int .i64 n0_5, .slice av0_6 l0_6.length cv0_6, .int .i64 n0_7, .int .i64 n0_8, .slice av0_9 l0_9.length cv0_9] := by rw [hV]; first | exact K0 | exact K0.alloc _ | exact (K0.alloc _).alloc _
  have K1x : Blk V12 (w.heap.size + 1) 51 #[.int .i64 n1_0, .int .i64 n1_1, .slice av1_2 l1_2.length cv1_2, .int .i64 n1_3, .slice av1_4 l1_4.length cv1_4, .int .i64 n1_5, .slice av1_6 l1_6.length cv1_6, .int .i64 n1_7, .int .i64 n1_8, .slice av1_9 l1_9.length cv1_9] := by rw [hV]; first | exact K1 | exact K1.alloc _ | exact (K1.alloc _).alloc _
  have K2x : Blk V12 (W9.heap.size) 55 #[.int .i64 n0_0, .int .i64 n0_1, .slice px00 ix00 qx00, .int .i64 n0_3, .slice px01 ix01 qx01, .int .i64 n0_5, .slice px02 ix02 qx02, .int .i64 n0_7, .int .i64 n0_8, .slice px03 ix03 qx03] := by rw [hV]; first | exact K2 | exact K2.alloc _ | exact (K2.alloc _).alloc _
  have ox00x : OwnI 3 V8.heap.size V12 (.slice px00 ix00 qx00) (l0_2) := by rw [hV]; first | exact ox00 | exact ox00.alloc _ | exact (ox00.alloc _).alloc _
  have ox01x : OwnI 3 V8.heap.size V12 (.slice px01 ix01 qx01) (l0_4) := by rw [hV]; first | exact ox01 | exact ox01.alloc _ | exact (ox01.alloc _).alloc _
  have ox02x : OwnI 3 V8.heap.size V12 (.slice px02 ix02 qx02) (l0_6) := by rw [hV]; first | exact ox02 | exact ox02.alloc _ | exact (ox02.alloc _).alloc _
  have ox03x : OwnI 3 V8.heap.size V12 (.slice px03 ix03 qx03) (l0_9) := by rw [hV]; first | exact ox03 | exact ox03.alloc _ | exact (ox03.alloc _).alloc _
  have ox10x : OwnI 3 V10.heap.size V12 (.slice px10 ix10 qx10) (l1_2) := by rw [hV]; first | exact ox10 | exact ox10.alloc _ | exact (ox10.alloc _).alloc _
  have ox11x : OwnI 3 V10.heap.size V12 (.slice px11 ix11 qx11) (l1_4) := by rw [hV]; first | exact ox11 | exact ox11.alloc _ | exact (ox11.alloc _).alloc _
  have ox12x : OwnI 3 V10.heap.size V12 (.slice px12 ix12 qx12) (l1_6) := by rw [hV]; first | exact ox12 | exact ox12.alloc _ | exact (ox12.alloc _).alloc _
  have ox13x : OwnI 3 V10.heap.size V12 (.slice px13 ix13 qx13) (l1_9) := by rw [hV]; first | exact ox13 | exact ox13.alloc _ | exact (ox13.alloc _).alloc _
  have K3x : Blk V12 (W11.heap.size) 55 #[.int .i64 n1_0, .int .i64 n1_1, .slice px10 ix10 qx10, .int .i64 n1_3, .slice px11 ix11 qx11, .int .i64 n1_5, .slice px12 ix12 qx12, .int .i64 n1_7, .int .i64 n1_8, .slice px13 ix13 qx13] := by rw [hV]; exact Blk.new _ _ _
  clear B K0 K1 K2 ox00 ox01 ox02 ox03 ox10 ox11 ox12 ox13
  have B := B1
  have K0 := K0x
  have K1 := K1x
  have K2 := K2x
  have K3 := K3x
  have ox00 := ox00x
  have ox01 := ox01x
  have ox02 := ox02x
  have ox03 := ox03x
  have ox10 := ox10x
  have ox11 := ox11x
  have ox12 := ox12x
  have ox13 := ox13x
  clear B1 K0x K1x K2x K3x ox00x ox01x ox02x ox03x ox10x ox11x ox12x ox13x
  clear hV
  refine (equalClaimsI_c _ n0_0 n0_1 _ l0_2 ox00.ints hlv0_2 n0_3 _ l0_4 ox01.ints hlv0_4 n0_5 _ l0_6 ox02.ints hlv0_6 n0_7 n0_8 _ l0_9 ox03.ints hlv0_9 n1_0 n1_1 _ l1_2 ox10.ints hlv1_2 n1_3 _ l1_4 ox11.ints hlv1_4 n1_5 _ l1_6 ox12.ints hlv1_6 n1_7 n1_8 _ l1_9 ox13.ints hlv1_9).mono ?_
  rintro e W13 ⟨rfl, hb⟩
  have B1 := B.after hb B.size
  have K0x := K0.keep hb
  have K1x := K1.keep hb
  have K2x := K2.keep hb
  have K3x := K3.keep hb
  have ox00x := ox00.keep hb
  have ox01x := ox01.keep hb
  have ox02x := ox02.keep hb
  have ox03x := ox03.keep hb
  have ox10x := ox10.keep hb
  have ox11x := ox11.keep hb
  have ox12x := ox12.keep hb
  have ox13x := ox13.keep hb
  clear B K0 K1 K2 K3 ox00 ox01 ox02 ox03 ox10 ox11 ox12 ox13
  have B := B1
  have K0 := K0x
  have K1 := K1x
  have K2 := K2x
  have K3 := K3x
  have ox00 := ox00x
  have ox01 := ox01x
  have ox02 := ox02x
  have ox03 := ox03x
  have ox10 := ox10x
  have ox11 := ox11x
  have ox12 := ox12x
  have ox13 := ox13x
  clear B1 K0x K1x K2x K3x ox00x ox01x ox02x ox03x ox10x ox11x ox12x ox13x
  clear hb
  have GK0 := K0.cell
  have ZK0 := K0.lt
  have GK1 := K1.cell
  have ZK1 := K1.lt
  have GK2 := K2.cell
  have ZK2 := K2.lt
  have GK3 := K3.cell
  have ZK3 := K3.lt
  go_wp2_with fail
  clear GK0 ZK0 GK1 ZK1 GK2 ZK2 GK3 ZK3
  have yK0 := K0.lt
  have yK1 := K1.lt
  have yK2 := K2.lt
  have yK3 := K3.lt
  have GK0 := K0.cell
  have GK2 := K2.cell
  go_region_held3 (fun w' => (∀ i, w'.cell? ⟨w.heap.size, i, none⟩ = (#[.int .i64 n0_0, .int .i64 n0_1, .slice av0_2 l0_2.length cv0_2, .int .i64 n0_3, .slice av0_4 l0_4.length cv0_4, .int .i64 n0_5, .slice av0_6 l0_6.length cv0_6, .int .i64 n0_7, .int .i64 n0_8, .slice av0_9 l0_9.length cv0_9] : Array Value)[i]?) ∧ (∀ i, w'.cell? ⟨W9.heap.size, i, none⟩ = (#[.int .i64 n0_0, .int .i64 n0_1, .slice px00 ix00 qx00, .int .i64 n0_3, .slice px01 ix01 qx01, .int .i64 n0_5, .slice px02 ix02 qx02, .int .i64 n0_7, .int .i64 n0_8, .slice px03 ix03 qx03] : Array Value)[i]?)) (go_keep)
    (first
      | (go_at_call 40; refine (toClaim_c _ n0_0 n0_1 _ l0_2 (hv0_2.below (B := w.heap.size) (by repeat (first | exact Below.refl _ _ | (with_reducible refine Below.setCell ?_ (by first | omega | (simp; done) | (simp; omega)) _) | (with_reducible refine Below.alloc ?_ (by first | omega | (simp; done) | (simp; omega)) _) | (with_reducible refine Below.drewN' ?_ _) | (with_reducible refine Below.drew ?_) | (with_reducible assumption) | refine Below.trans ?_ (Below.mono (by assumption) (by first | omega | (simp; done) | (simp; omega))))) (Nat.le_refl _)) hlv0_2 n0_3 _ l0_4 (hv0_4.below (B := w.heap.size) (by repeat (first | exact Below.refl _ _ | (with_reducible refine Below.setCell ?_ (by first | omega | (simp; done) | (simp; omega)) _) | (with_reducible refine Below.alloc ?_ (by first | omega | (simp; done) | (simp; omega)) _) | (with_reducible refine Below.drewN' ?_ _) | (with_reducible refine Below.drew ?_) | (with_reducible assumption) | refine Below.trans ?_ (Below.mono (by assumption) (by first | omega | (simp; done) | (simp; omega))))) (Nat.le_refl _)) hlv0_4 n0_5 _ l0_6 (hv0_6.below (B := w.heap.size) (by repeat (first | exact Below.refl _ _ | (with_reducible refine Below.setCell ?_ (by first | omega | (simp; done) | (simp; omega)) _) | (with_reducible refine Below.alloc ?_ (by first | omega | (simp; done) | (simp; omega)) _) | (with_reducible refine Below.drewN' ?_ _) | (with_reducible refine Below.drew ?_) | (with_reducible assumption) | refine Below.trans ?_ (Below.mono (by assumption) (by first | omega | (simp; done) | (simp; omega))))) (Nat.le_refl _)) hlv0_6 n0_7 n0_8 _ l0_9 (hv0_9.below (B := w.heap.size) (by repeat (first | exact Below.refl _ _ | (with_reducible refine Below.setCell ?_ (by first | omega | (simp; done) | (simp; omega)) _) | (with_reducible refine Below.alloc ?_ (by first | omega | (simp; done) | (simp; omega)) _) | (with_reducible refine Below.drewN' ?_ _) | (with_reducible refine Below.drew ?_) | (with_reducible assumption) | refine Below.trans ?_ (Below.mono (by assumption) (by first | omega | (simp; done) | (simp; omega))))) (Nat.le_refl _)) hlv0_9).mono ?_; rintro e W14 ⟨pyW14x0, iyW14x0, qyW14x0, pyW14x1, iyW14x1, qyW14x1, pyW14x2, iyW14x2, qyW14x2, pyW14x3, iyW14x3, qyW14x3, rfl, oyW14x0, oyW14x1, oyW14x2, oyW14x3, hbW14⟩; obtain ⟨hchbW14, hfhbW14⟩ := bcellN hbW14 (W13.heap.size) (by first | omega | (simp; done) | (simp; omega)); have zhbW14 := hbW14.size; (try simp at zhbW14))
      | (go_at_call 42; refine (eqClaim_c _ _ _ _ _ ((ox00.drewN 1).below hbW14 (by first | omega | (simp; done) | (simp; omega))).ints _ _ _ ((ox01.drewN 1).below hbW14 (by first | omega | (simp; done) | (simp; omega))).ints _ _ _ ((ox02.drewN 1).below hbW14 (by first | omega | (simp; done) | (simp; omega))).ints _ _ _ _ ((ox03.drewN 1).below hbW14 (by first | omega | (simp; done) | (simp; omega))).ints _ oyW14x0.ints _ oyW14x1.ints _ oyW14x2.ints _ oyW14x3.ints).mono ?_; rintro e W15 ⟨rfl, hbW15⟩; obtain ⟨hchbW15, hfhbW15⟩ := bcellN hbW15 (W13.heap.size) (by first | omega | (simp; done) | (simp; omega)); have zhbW15 := hbW15.size; (try simp at zhbW15))
    )
  have B1 : Below w.heap.size w W15 := (by repeat (first | exact Below.refl _ _ | (with_reducible refine Below.setCell ?_ (by first | omega | (simp; done) | (simp; omega)) _) | (with_reducible refine Below.alloc ?_ (by first | omega | (simp; done) | (simp; omega)) _) | (with_reducible refine Below.drewN' ?_ _) | (with_reducible refine Below.drew ?_) | (with_reducible assumption) | refine Below.trans ?_ (Below.mono (by assumption) (by first | omega | (simp; done) | (simp; omega)))))
  have K0x : Blk W15 (w.heap.size) 51 #[.int .i64 n0_0, .int .i64 n0_1, .slice av0_2 l0_2.length cv0_2, .int .i64 n0_3, .slice av0_4 l0_4.length cv0_4, .int .i64 n0_5, .slice av0_6 l0_6.length cv0_6, .int .i64 n0_7, .int .i64 n0_8, .slice av0_9 l0_9.length cv0_9] := (((K0.drewN 1).keep hbW14).keep hbW15)
  have K1x : Blk W15 (w.heap.size + 1) 51 #[.int .i64 n1_0, .int .i64 n1_1, .slice av1_2 l1_2.length cv1_2, .int .i64 n1_3, .slice av1_4 l1_4.length cv1_4, .int .i64 n1_5, .slice av1_6 l1_6.length cv1_6, .int .i64 n1_7, .int .i64 n1_8, .slice av1_9 l1_9.length cv1_9] := (((K1.drewN 1).keep hbW14).keep hbW15)
  have K2x : Blk W15 (W9.heap.size) 55 #[.int .i64 n0_0, .int .i64 n0_1, .slice px00 ix00 qx00, .int .i64 n0_3, .slice px01 ix01 qx01, .int .i64 n0_5, .slice px02 ix02 qx02, .int .i64 n0_7, .int .i64 n0_8, .slice px03 ix03 qx03] := (((K2.drewN 1).keep hbW14).keep hbW15)
  have K3x : Blk W15 (W11.heap.size) 55 #[.int .i64 n1_0, .int .i64 n1_1, .slice px10 ix10 qx10, .int .i64 n1_3, .slice px11 ix11 qx11, .int .i64 n1_5, .slice px12 ix12 qx12, .int .i64 n1_7, .int .i64 n1_8, .slice px13 ix13 qx13] := (((K3.drewN 1).keep hbW14).keep hbW15)
  have ox00x : OwnI 3 V8.heap.size W15 (.slice px00 ix00 qx00) (l0_2) := (((ox00.drewN 1).keep hbW14).keep hbW15)
  have ox01x : OwnI 3 V8.heap.size W15 (.slice px01 ix01 qx01) (l0_4) := (((ox01.drewN 1).keep hbW14).keep hbW15)
  have ox02x : OwnI 3 V8.heap.size W15 (.slice px02 ix02 qx02) (l0_6) := (((ox02.drewN 1).keep hbW14).keep hbW15)
  have ox03x : OwnI 3 V8.heap.size W15 (.slice px03 ix03 qx03) (l0_9) := (((ox03.drewN 1).keep hbW14).keep hbW15)
  have ox10x : OwnI 3 V10.heap.size W15 (.slice px10 ix10 qx10) (l1_2) := (((ox10.drewN 1).keep hbW14).keep hbW15)
  have ox11x : OwnI 3 V10.heap.size W15 (.slice px11 ix11 qx11) (l1_4) := (((ox11.drewN 1).keep hbW14).keep hbW15)
  have ox12x : OwnI 3 V10.heap.size W15 (.slice px12 ix12 qx12) (l1_6) := (((ox12.drewN 1).keep hbW14).keep hbW15)
  have ox13x : OwnI 3 V10.heap.size W15 (.slice px13 ix13 qx13) (l1_9) := (((ox13.drewN 1).keep hbW14).keep hbW15)
  clear B K0 K1 K2 K3 ox00 ox01 ox02 ox03 ox10 ox11 ox12 ox13 GK0 GK2 yK0 yK1 yK2 yK3 hchbW14 hfhbW14 hchbW15 hfhbW15
  have B := B1
  have K0 := K0x
  have K1 := K1x
  have K2 := K2x
  have K3 := K3x
  have ox00 := ox00x
  have ox01 := ox01x
  have ox02 := ox02x
  have ox03 := ox03x
  have ox10 := ox10x
  have ox11 := ox11x
  have ox12 := ox12x
  have ox13 := ox13x
  clear B1 K0x K1x K2x K3x ox00x ox01x ox02x ox03x ox10x ox11x ox12x ox13x
  have GK0 := K0.cell
  have ZK0 := K0.lt
  have GK1 := K1.cell
  have ZK1 := K1.lt
  have GK2 := K2.cell
  have ZK2 := K2.lt
  have GK3 := K3.cell
  have ZK3 := K3.lt
  go_wp2_with fail
  clear GK0 ZK0 GK1 ZK1 GK2 ZK2 GK3 ZK3
  have yK0 := K0.lt
  have yK1 := K1.lt
  have yK2 := K2.lt
  have yK3 := K3.lt
  have GK1 := K1.cell
  have GK3 := K3.cell
  go_region_held3 (fun w' => (∀ i, w'.cell? ⟨w.heap.size + 1, i, none⟩ = (#[.int .i64 n1_0, .int .i64 n1_1, .slice av1_2 l1_2.length cv1_2, .int .i64 n1_3, .slice av1_4 l1_4.length cv1_4, .int .i64 n1_5, .slice av1_6 l1_6.length cv1_6, .int .i64 n1_7, .int .i64 n1_8, .slice av1_9 l1_9.length cv1_9] : Array Value)[i]?) ∧ (∀ i, w'.cell? ⟨W11.heap.size, i, none⟩ = (#[.int .i64 n1_0, .int .i64 n1_1, .slice px10 ix10 qx10, .int .i64 n1_3, .slice px11 ix11 qx11, .int .i64 n1_5, .slice px12 ix12 qx12, .int .i64 n1_7, .int .i64 n1_8, .slice px13 ix13 qx13] : Array Value)[i]?)) (go_keep)
    (first
      | (go_at_call 40; refine (toClaim_c _ n1_0 n1_1 _ l1_2 (hv1_2.below (B := w.heap.size) (by repeat (first | exact Below.refl _ _ | (with_reducible refine Below.setCell ?_ (by first | omega | (simp; done) | (simp; omega)) _) | (with_reducible refine Below.alloc ?_ (by first | omega | (simp; done) | (simp; omega)) _) | (with_reducible refine Below.drewN' ?_ _) | (with_reducible refine Below.drew ?_) | (with_reducible assumption) | refine Below.trans ?_ (Below.mono (by assumption) (by first | omega | (simp; done) | (simp; omega))))) (Nat.le_refl _)) hlv1_2 n1_3 _ l1_4 (hv1_4.below (B := w.heap.size) (by repeat (first | exact Below.refl _ _ | (with_reducible refine Below.setCell ?_ (by first | omega | (simp; done) | (simp; omega)) _) | (with_reducible refine Below.alloc ?_ (by first | omega | (simp; done) | (simp; omega)) _) | (with_reducible refine Below.drewN' ?_ _) | (with_reducible refine Below.drew ?_) | (with_reducible assumption) | refine Below.trans ?_ (Below.mono (by assumption) (by first | omega | (simp; done) | (simp; omega))))) (Nat.le_refl _)) hlv1_4 n1_5 _ l1_6 (hv1_6.below (B := w.heap.size) (by repeat (first | exact Below.refl _ _ | (with_reducible refine Below.setCell ?_ (by first | omega | (simp; done) | (simp; omega)) _) | (with_reducible refine Below.alloc ?_ (by first | omega | (simp; done) | (simp; omega)) _) | (with_reducible refine Below.drewN' ?_ _) | (with_reducible refine Below.drew ?_) | (with_reducible assumption) | refine Below.trans ?_ (Below.mono (by assumption) (by first | omega | (simp; done) | (simp; omega))))) (Nat.le_refl _)) hlv1_6 n1_7 n1_8 _ l1_9 (hv1_9.below (B := w.heap.size) (by repeat (first | exact Below.refl _ _ | (with_reducible refine Below.setCell ?_ (by first | omega | (simp; done) | (simp; omega)) _) | (with_reducible refine Below.alloc ?_ (by first | omega | (simp; done) | (simp; omega)) _) | (with_reducible refine Below.drewN' ?_ _) | (with_reducible refine Below.drew ?_) | (with_reducible assumption) | refine Below.trans ?_ (Below.mono (by assumption) (by first | omega | (simp; done) | (simp; omega))))) (Nat.le_refl _)) hlv1_9).mono ?_; rintro e W16 ⟨pyW16x0, iyW16x0, qyW16x0, pyW16x1, iyW16x1, qyW16x1, pyW16x2, iyW16x2, qyW16x2, pyW16x3, iyW16x3, qyW16x3, rfl, oyW16x0, oyW16x1, oyW16x2, oyW16x3, hbW16⟩; obtain ⟨hchbW16, hfhbW16⟩ := bcellN hbW16 (W15.heap.size) (by first | omega | (simp; done) | (simp; omega)); have zhbW16 := hbW16.size; (try simp at zhbW16))
      | (go_at_call 42; refine (eqClaim_c _ _ _ _ _ ((ox10.drewN 1).below hbW16 (by first | omega | (simp; done) | (simp; omega))).ints _ _ _ ((ox11.drewN 1).below hbW16 (by first | omega | (simp; done) | (simp; omega))).ints _ _ _ ((ox12.drewN 1).below hbW16 (by first | omega | (simp; done) | (simp; omega))).ints _ _ _ _ ((ox13.drewN 1).below hbW16 (by first | omega | (simp; done) | (simp; omega))).ints _ oyW16x0.ints _ oyW16x1.ints _ oyW16x2.ints _ oyW16x3.ints).mono ?_; rintro e W17 ⟨rfl, hbW17⟩; obtain ⟨hchbW17, hfhbW17⟩ := bcellN hbW17 (W15.heap.size) (by first | omega | (simp; done) | (simp; omega)); have zhbW17 := hbW17.size; (try simp at zhbW17))
    )
  have B1 : Below w.heap.size w W17 := (by repeat (first | exact Below.refl _ _ | (with_reducible refine Below.setCell ?_ (by first | omega | (simp; done) | (simp; omega)) _) | (with_reducible refine Below.alloc ?_ (by first | omega | (simp; done) | (simp; omega)) _) | (with_reducible refine Below.drewN' ?_ _) | (with_reducible refine Below.drew ?_) | (with_reducible assumption) | refine Below.trans ?_ (Below.mono (by assumption) (by first | omega | (simp; done) | (simp; omega)))))
  have K0x : Blk W17 (w.heap.size) 51 #[.int .i64 n0_0, .int .i64 n0_1, .slice av0_2 l0_2.length cv0_2, .int .i64 n0_3, .slice av0_4 l0_4.length cv0_4, .int .i64 n0_5, .slice av0_6 l0_6.length cv0_6, .int .i64 n0_7, .int .i64 n0_8, .slice av0_9 l0_9.length cv0_9] := (((K0.drewN 1).keep hbW16).keep hbW17)
  have K1x : Blk W17 (w.heap.size + 1) 51 #[.int .i64 n1_0, .int .i64 n1_1, .slice av1_2 l1_2.length cv1_2, .int .i64 n1_3, .slice av1_4 l1_4.length cv1_4, .int .i64 n1_5, .slice av1_6 l1_6.length cv1_6, .int .i64 n1_7, .int .i64 n1_8, .slice av1_9 l1_9.length cv1_9] := (((K1.drewN 1).keep hbW16).keep hbW17)
  have K2x : Blk W17 (W9.heap.size) 55 #[.int .i64 n0_0, .int .i64 n0_1, .slice px00 ix00 qx00, .int .i64 n0_3, .slice px01 ix01 qx01, .int .i64 n0_5, .slice px02 ix02 qx02, .int .i64 n0_7, .int .i64 n0_8, .slice px03 ix03 qx03] := (((K2.drewN 1).keep hbW16).keep hbW17)
  have K3x : Blk W17 (W11.heap.size) 55 #[.int .i64 n1_0, .int .i64 n1_1, .slice px10 ix10 qx10, .int .i64 n1_3, .slice px11 ix11 qx11, .int .i64 n1_5, .slice px12 ix12 qx12, .int .i64 n1_7, .int .i64 n1_8, .slice px13 ix13 qx13] := (((K3.drewN 1).keep hbW16).keep hbW17)
  have ox00x : OwnI 3 V8.heap.size W17 (.slice px00 ix00 qx00) (l0_2) := (((ox00.drewN 1).keep hbW16).keep hbW17)
  have ox01x : OwnI 3 V8.heap.size W17 (.slice px01 ix01 qx01) (l0_4) := (((ox01.drewN 1).keep hbW16).keep hbW17)
  have ox02x : OwnI 3 V8.heap.size W17 (.slice px02 ix02 qx02) (l0_6) := (((ox02.drewN 1).keep hbW16).keep hbW17)
  have ox03x : OwnI 3 V8.heap.size W17 (.slice px03 ix03 qx03) (l0_9) := (((ox03.drewN 1).keep hbW16).keep hbW17)
  have ox10x : OwnI 3 V10.heap.size W17 (.slice px10 ix10 qx10) (l1_2) := (((ox10.drewN 1).keep hbW16).keep hbW17)
  have ox11x : OwnI 3 V10.heap.size W17 (.slice px11 ix11 qx11) (l1_4) := (((ox11.drewN 1).keep hbW16).keep hbW17)
  have ox12x : OwnI 3 V10.heap.size W17 (.slice px12 ix12 qx12) (l1_6) := (((ox12.drewN 1).keep hbW16).keep hbW17)
  have ox13x : OwnI 3 V10.heap.size W17 (.slice px13 ix13 qx13) (l1_9) := (((ox13.drewN 1).keep hbW16).keep hbW17)
  clear B K0 K1 K2 K3 ox00 ox01 ox02 ox03 ox10 ox11 ox12 ox13 GK1 GK3 yK0 yK1 yK2 yK3 hchbW16 hfhbW16 hchbW17 hfhbW17
  have B := B1
  have K0 := K0x
  have K1 := K1x
  have K2 := K2x
  have K3 := K3x
  have ox00 := ox00x
  have ox01 := ox01x
  have ox02 := ox02x
  have ox03 := ox03x
  have ox10 := ox10x
  have ox11 := ox11x
  have ox12 := ox12x
  have ox13 := ox13x
  clear B1 K0x K1x K2x K3x ox00x ox01x ox02x ox03x ox10x ox11x ox12x ox13x
  have GK0 := K0.cell
  have ZK0 := K0.lt
  have GK1 := K1.cell
  have ZK1 := K1.lt
  have GK2 := K2.cell
  have ZK2 := K2.lt
  have GK3 := K3.cell
  have ZK3 := K3.lt
  go_wp2
  go_ret
  exact ⟨rfl, B⟩

theorem fnExactEqualClaims_params : Try.f9.params = #[51, 51] := by kernel_rfl
set_option maxRecDepth 100000 in
theorem fnExactEqualClaims_lifted (os : Os) (started : os.Started) (H : Type) (enc : TypeId × Value → H) :
    ReturnsInHanded {} Try.checked os 9 .any (Rows.fnExactEqualClaimsSpec.pre6 enc Try.prog Try.f9 Rows.fnExactEqualClaimsRow.domain false) (Rows.fnExactEqualClaimsSpec.post enc Try.prog Try.f9 false true false false) := by
  refine law_lift os started H enc Try.func9 (by kernel_rfl) rfl (by kernel_rfl) (by kernel_rfl) ?_
    (ChangeSpec.witness6 (enc := enc) (C := Try.checked) false ⟨#[], #[.agg #[.int .i64 0, .int .i64 0, .slice none 0 0, .int .i64 0, .slice none 0 0, .int .i64 0, .slice none 0 0, .int .i64 0, .int .i64 0, .slice none 0 0], .agg #[.int .i64 0, .int .i64 0, .slice none 0 0, .int .i64 0, .slice none 0 0, .int .i64 0, .slice none 0 0, .int .i64 0, .int .i64 0, .slice none 0 0]], []⟩ 8 (by kernel_rfl) (by kernel_rfl) (by kernel_rfl) (by kernel_rfl)) ?_
  · intro ds hds
    rw [fnExactEqualClaims_params] at hds
    match ds, hds with
    | [d0, d1], _ => rfl
  · intro W base args ds p hval hA
    rw [fnExactEqualClaims_params] at hA hval
    obtain ⟨v0, vs0, d0, ds0, p0, q0, hargs, rfl, rfl, h0, r0⟩ := trodAll_cons hA
    obtain ⟨v1, vs1, d1, ds1, p1, q1, rfl, rfl, rfl, h1, r1⟩ := trodAll_cons r0
    obtain ⟨rfl, rfl, rfl⟩ := trodAll_nil r1
    obtain rfl : args = #[v0, v1] := by cases args; simp_all
    obtain ⟨kk0, na0, ua0, la0, nb0, ub0, lb0, nc0, uc0, lc0, qq0, ss0, ud0, ld0, rfl, _, _, wa0, _, wb0, _, wc0, _, _, wd0⟩ := rd_claim (hval 0 51 v0 rfl rfl) h0
    obtain ⟨kk1, na1, ua1, la1, nb1, ub1, lb1, nc1, uc1, lc1, qq1, ss1, ud1, ld1, rfl, _, _, wa1, _, wb1, _, wc1, _, _, wd1⟩ := rd_claim (hval 1 51 v1 rfl rfl) h1
    exact eqcl_walk W kk0 na0 _ la0 wa0 nb0 _ lb0 wb0 nc0 _ lc0 wc0 qq0 ss0 _ ld0 wd0 kk1 na1 _ la1 wa1 nb1 _ lb1 wb1 nc1 _ lc1 wc1 qq1 ss1 _ ld1 wd1

theorem fnExactEqualClaims_holds : Rows.FnExactEqualClaimsSaid :=
  OpenClaim.holds_of_wide 9 Try.f9 rfl rfl rfl rfl rfl rfl rfl ⟨rfl, rfl, rfl, rfl, rfl⟩ rfl rfl rfl rfl rfl (by kernel_rfl) Try.func9 (by kernel_rfl)
    (of_decide_eq_true (by kernel_rfl)) (by unfold Func.isWrapper; first | (rw [if_pos (by decide +kernel)]; kernel_rfl) | (rw [if_neg (by decide +kernel)]; exact ⟨rfl, rfl⟩))
    (fun os started H enc _ => fnExactEqualClaims_lifted os started H enc)
end Go.Proofs.Ytmmaleidaghooaa
