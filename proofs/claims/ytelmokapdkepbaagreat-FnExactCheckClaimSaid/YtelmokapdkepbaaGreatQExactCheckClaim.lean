/- The statement FnExactCheckClaim: for every input the call returns true and each argument reads as it did. No condition. -/
import Derived.Test.YtelmokapdkepbaaGreatQ39
import Derived.Deep.RegionHeld3
section
namespace Go.Proofs.YtelmokapdkepbaaGreat
open Go.ChangeShapes Go.WideShapes Go.ChangeAt Go.RowKit Go.G5
set_option maxHeartbeats 4000000 in
set_option maxRecDepth 100000 in
theorem checkclaim_walk (w : World) (n0_0 : Int) (n0_1 : Int) (v0_2 : Value) (l0_2 : List Int) (hv0_2 : Ints w v0_2 l0_2) (n0_3 : Int) (v0_4 : Value) (l0_4 : List Int) (hv0_4 : Ints w v0_4 l0_4) (n0_5 : Int) (v0_6 : Value) (l0_6 : List Int) (hv0_6 : Ints w v0_6 l0_6) (n0_7 : Int) (n0_8 : Int) (v0_9 : Value) (l0_9 : List Int) (hv0_9 : Ints w v0_9 l0_9) :
    Calls Tryz.prog 3 #[.agg #[.int .i64 n0_0, .int .i64 n0_1, v0_2, .int .i64 n0_3, v0_4, .int .i64 n0_5, v0_6, .int .i64 n0_7, .int .i64 n0_8, v0_9]] w fun e w' => e = .returned (.bool true) ∧ Below w.heap.size w w' := by
  obtain ⟨av0_2, cv0_2, rfl⟩ := hv0_2.shape
  obtain ⟨av0_4, cv0_4, rfl⟩ := hv0_4.shape
  obtain ⟨av0_6, cv0_6, rfl⟩ := hv0_6.shape
  obtain ⟨av0_9, cv0_9, rfl⟩ := hv0_9.shape
  go_enter Tryz.func3, Tryz.ntmps3
  go_wp2_with fail
  refine calls_named ?_
  intro V1 hV
  have B : Below w.heap.size w V1 := by rw [hV]; exact (by repeat (first | exact Below.refl _ _ | (with_reducible refine Below.setCell ?_ (by first | omega | (simp; done) | (simp; omega)) _) | (with_reducible refine Below.alloc ?_ (by first | omega | (simp; done) | (simp; omega)) _) | (with_reducible refine Below.drewN' ?_ _) | (with_reducible refine Below.drew ?_) | (with_reducible assumption) | refine Below.trans ?_ (Below.mono (by assumption) (by first | omega | (simp; done) | (simp; omega)))))
  have zV1 : w.heap.size + 1 ≤ V1.heap.size := by rw [hV]; (first | simp | omega)
  have K0 : Blk V1 (w.heap.size) 28 #[.int .i64 n0_0, .int .i64 n0_1, .slice av0_2 l0_2.length cv0_2, .int .i64 n0_3, .slice av0_4 l0_4.length cv0_4, .int .i64 n0_5, .slice av0_6 l0_6.length cv0_6, .int .i64 n0_7, .int .i64 n0_8, .slice av0_9 l0_9.length cv0_9] := by rw [hV]; have := (Blk.new (w) 28 #[.int .i64 n0_0, .int .i64 n0_1, .slice av0_2 l0_2.length cv0_2, .int .i64 n0_3, .slice av0_4 l0_4.length cv0_4, .int .i64 n0_5, .slice av0_6 l0_6.length cv0_6, .int .i64 n0_7, .int .i64 n0_8, .slice av0_9 l0_9.length cv0_9]); simpa using this
  clear hV
  refine (szClaim_c _ (by omega) (by omega) _ n0_0 n0_1 _ l0_2 (hv0_2.below B (Nat.le_refl _)) n0_3 _ l0_4 (hv0_4.below B (Nat.le_refl _)) n0_5 _ l0_6 (hv0_6.below B (Nat.le_refl _)) n0_7 n0_8 _ l0_9 (hv0_9.below B (Nat.le_refl _))).mono ?_
  rintro e W2 ⟨⟨s0, rfl, hs0⟩, hb⟩
  have zW2 : V1.heap.size ≤ W2.heap.size := hb.size
  have B1 := B.after hb B.size
  have K0x := K0.keep hb
  clear B K0
  have B := B1
  have K0 := K0x
  clear B1 K0x
  clear hb
  rcases hs0 with hs0 | ⟨g0_0, g0_1, hlv0_2', hlv0_4', hlv0_6', hlv0_9'⟩
  · go_wp2
    go_ret
    exact ⟨rfl, B⟩
  have hlv0_2 : l0_2.length ≤ 1048576 := by omega
  have hlv0_4 : l0_4.length ≤ 1048576 := by omega
  have hlv0_6 : l0_6.length ≤ 1048576 := by omega
  have hlv0_9 : l0_9.length ≤ 1048576 := by omega
  have GK0 := K0.cell
  have ZK0 := K0.lt
  go_wp2_with fail
  clear GK0 ZK0
  refine calls_named ?_
  intro V3 hV
  have zV3 : W2.heap.size + 0 ≤ V3.heap.size := by rw [hV]; (first | exact Nat.le_refl _ | simp)
  have B1 : Below w.heap.size w V3 := by rw [hV]; first | exact B | exact B.alloc B.size _ | exact (B.alloc B.size _).alloc (by have := B.size; simp; omega) _
  have K0x : Blk V3 (w.heap.size) 28 #[.int .i64 n0_0, .int .i64 n0_1, .slice av0_2 l0_2.length cv0_2, .int .i64 n0_3, .slice av0_4 l0_4.length cv0_4, .int .i64 n0_5, .slice av0_6 l0_6.length cv0_6, .int .i64 n0_7, .int .i64 n0_8, .slice av0_9 l0_9.length cv0_9] := by rw [hV]; first | exact K0 | exact K0.alloc _ | exact (K0.alloc _).alloc _
  clear B K0
  have B := B1
  have K0 := K0x
  clear B1 K0x
  clear hV
  refine (toClaim_c _ n0_0 n0_1 _ l0_2 (hv0_2.below B (Nat.le_refl _)) hlv0_2 n0_3 _ l0_4 (hv0_4.below B (Nat.le_refl _)) hlv0_4 n0_5 _ l0_6 (hv0_6.below B (Nat.le_refl _)) hlv0_6 n0_7 n0_8 _ l0_9 (hv0_9.below B (Nat.le_refl _)) hlv0_9).mono ?_
  rintro e W4 ⟨pwx00, iwx00, qwx00, pwx01, iwx01, qwx01, pwx02, iwx02, qwx02, pwx03, iwx03, qwx03, rfl, owx00x, owx01x, owx02x, owx03x, hb⟩
  have zW4 : V3.heap.size ≤ W4.heap.size := hb.size
  have B1 := B.after hb B.size
  have K0x := K0.keep hb
  clear B K0
  have B := B1
  have K0 := K0x
  clear B1 K0x
  clear hb
  have owx00 := owx00x.toW
  clear owx00x
  have r_wx00 := owx00.lt
  have owx01 := owx01x.toW
  clear owx01x
  have r_wx01 := owx01.lt
  have owx02 := owx02x.toW
  clear owx02x
  have r_wx02 := owx02.lt
  have owx03 := owx03x.toW
  clear owx03x
  have r_wx03 := owx03.lt
  have GK0 := K0.cell
  have ZK0 := K0.lt
  go_wp2_with fail
  clear GK0 ZK0
  refine calls_named ?_
  intro V5 hV
  have zV5 : W4.heap.size + 0 ≤ V5.heap.size := by rw [hV]; (first | exact Nat.le_refl _ | simp)
  have B1 : Below w.heap.size w V5 := by rw [hV]; first | exact B | exact B.alloc B.size _ | exact (B.alloc B.size _).alloc (by have := B.size; simp; omega) _
  have K0x : Blk V5 (w.heap.size) 28 #[.int .i64 n0_0, .int .i64 n0_1, .slice av0_2 l0_2.length cv0_2, .int .i64 n0_3, .slice av0_4 l0_4.length cv0_4, .int .i64 n0_5, .slice av0_6 l0_6.length cv0_6, .int .i64 n0_7, .int .i64 n0_8, .slice av0_9 l0_9.length cv0_9] := by rw [hV]; first | exact K0 | exact K0.alloc _ | exact (K0.alloc _).alloc _
  have owx00x : OwnW 3 V3.heap.size V5 (.slice pwx00 iwx00 qwx00) (l0_2) := by rw [hV]; first | exact owx00 | exact owx00.alloc _ | exact (owx00.alloc _).alloc _
  have owx01x : OwnW 3 V3.heap.size V5 (.slice pwx01 iwx01 qwx01) (l0_4) := by rw [hV]; first | exact owx01 | exact owx01.alloc _ | exact (owx01.alloc _).alloc _
  have owx02x : OwnW 3 V3.heap.size V5 (.slice pwx02 iwx02 qwx02) (l0_6) := by rw [hV]; first | exact owx02 | exact owx02.alloc _ | exact (owx02.alloc _).alloc _
  have owx03x : OwnW 3 V3.heap.size V5 (.slice pwx03 iwx03 qwx03) (l0_9) := by rw [hV]; first | exact owx03 | exact owx03.alloc _ | exact (owx03.alloc _).alloc _
  clear B K0 owx00 owx01 owx02 owx03
  have B := B1
  have K0 := K0x
  have owx00 := owx00x
  have owx01 := owx01x
  have owx02 := owx02x
  have owx03 := owx03x
  clear B1 K0x owx00x owx01x owx02x owx03x
  clear hV
  refine (chkClaimS_c _ n0_0 n0_1 _ l0_2 owx00.ints hlv0_2 n0_3 _ l0_4 owx01.ints hlv0_4 n0_5 _ l0_6 owx02.ints hlv0_6 n0_7 n0_8 _ l0_9 owx03.ints hlv0_9).mono ?_
  rintro e W6 ⟨rfl, hb⟩
  have zW6 : V5.heap.size ≤ W6.heap.size := hb.size
  have B1 := B.after hb B.size
  have K0x := K0.keep hb
  clear B K0
  have B := B1
  have K0 := K0x
  clear B1 K0x
  clear hb
  clear owx00 owx01 owx02 owx03
  have GK0 := K0.cell
  have ZK0 := K0.lt
  go_wp2_with fail
  clear GK0 ZK0
  refine calls_named ?_
  intro V7 hV
  have zV7 : W6.heap.size + 0 ≤ V7.heap.size := by rw [hV]; (first | exact Nat.le_refl _ | simp)
  have B1 : Below w.heap.size w V7 := by rw [hV]; first | exact B | exact B.alloc B.size _ | exact (B.alloc B.size _).alloc (by have := B.size; simp; omega) _
  have K0x : Blk V7 (w.heap.size) 28 #[.int .i64 n0_0, .int .i64 n0_1, .slice av0_2 l0_2.length cv0_2, .int .i64 n0_3, .slice av0_4 l0_4.length cv0_4, .int .i64 n0_5, .slice av0_6 l0_6.length cv0_6, .int .i64 n0_7, .int .i64 n0_8, .slice av0_9 l0_9.length cv0_9] := by rw [hV]; first | exact K0 | exact K0.alloc _ | exact (K0.alloc _).alloc _
  clear B K0
  have B := B1
  have K0 := K0x
  clear B1 K0x
  clear hV
  refine (toClaim_c _ n0_0 n0_1 _ l0_2 (hv0_2.below B (Nat.le_refl _)) hlv0_2 n0_3 _ l0_4 (hv0_4.below B (Nat.le_refl _)) hlv0_4 n0_5 _ l0_6 (hv0_6.below B (Nat.le_refl _)) hlv0_6 n0_7 n0_8 _ l0_9 (hv0_9.below B (Nat.le_refl _)) hlv0_9).mono ?_
  rintro e W8 ⟨px00, ix00, qx00, px01, ix01, qx01, px02, ix02, qx02, px03, ix03, qx03, rfl, ox00x, ox01x, ox02x, ox03x, hb⟩
  have zW8 : V7.heap.size ≤ W8.heap.size := hb.size
  have B1 := B.after hb B.size
  have K0x := K0.keep hb
  clear B K0
  have B := B1
  have K0 := K0x
  clear B1 K0x
  clear hb
  have ox00 := ox00x.toW
  clear ox00x
  have r_x00 := ox00.lt
  have ox01 := ox01x.toW
  clear ox01x
  have r_x01 := ox01.lt
  have ox02 := ox02x.toW
  clear ox02x
  have r_x02 := ox02.lt
  have ox03 := ox03x.toW
  clear ox03x
  have r_x03 := ox03.lt
  have GK0 := K0.cell
  have ZK0 := K0.lt
  go_wp2_with fail
  clear GK0 ZK0
  refine calls_named ?_
  intro V9 hV
  have zV9 : W8.heap.size + 1 ≤ V9.heap.size := by rw [hV]; (first | exact Nat.le_refl _ | simp)
  have B1 : Below w.heap.size w V9 := by rw [hV]; first | exact B | exact B.alloc B.size _ | exact (B.alloc B.size _).alloc (by have := B.size; simp; omega) _
  have K0x : Blk V9 (w.heap.size) 28 #[.int .i64 n0_0, .int .i64 n0_1, .slice av0_2 l0_2.length cv0_2, .int .i64 n0_3, .slice av0_4 l0_4.length cv0_4, .int .i64 n0_5, .slice av0_6 l0_6.length cv0_6, .int .i64 n0_7, .int .i64 n0_8, .slice av0_9 l0_9.length cv0_9] := by rw [hV]; first | exact K0 | exact K0.alloc _ | exact (K0.alloc _).alloc _
  have ox00x : OwnW 3 V7.heap.size V9 (.slice px00 ix00 qx00) (l0_2) := by rw [hV]; first | exact ox00 | exact ox00.alloc _ | exact (ox00.alloc _).alloc _
  have ox01x : OwnW 3 V7.heap.size V9 (.slice px01 ix01 qx01) (l0_4) := by rw [hV]; first | exact ox01 | exact ox01.alloc _ | exact (ox01.alloc _).alloc _
  have ox02x : OwnW 3 V7.heap.size V9 (.slice px02 ix02 qx02) (l0_6) := by rw [hV]; first | exact ox02 | exact ox02.alloc _ | exact (ox02.alloc _).alloc _
  have ox03x : OwnW 3 V7.heap.size V9 (.slice px03 ix03 qx03) (l0_9) := by rw [hV]; first | exact ox03 | exact ox03.alloc _ | exact (ox03.alloc _).alloc _
  have K1x : Blk V9 (W8.heap.size) 34 #[.int .i64 n0_0, .int .i64 n0_1, .slice px00 ix00 qx00, .int .i64 n0_3, .slice px01 ix01 qx01, .int .i64 n0_5, .slice px02 ix02 qx02, .int .i64 n0_7, .int .i64 n0_8, .slice px03 ix03 qx03] := by rw [hV]; exact Blk.new _ _ _
  clear B K0 ox00 ox01 ox02 ox03
  have B := B1
  have K0 := K0x
  have K1 := K1x
  have ox00 := ox00x
  have ox01 := ox01x
  have ox02 := ox02x
  have ox03 := ox03x
  clear B1 K0x K1x ox00x ox01x ox02x ox03x
  clear hV
  refine (chkClaimI_c _ n0_0 n0_1 _ l0_2 ox00.ints hlv0_2 n0_3 _ l0_4 ox01.ints hlv0_4 n0_5 _ l0_6 ox02.ints hlv0_6 n0_7 n0_8 _ l0_9 ox03.ints hlv0_9).mono ?_
  rintro e W10 ⟨rfl, hb⟩
  have zW10 : V9.heap.size ≤ W10.heap.size := hb.size
  have B1 := B.after hb B.size
  have K0x := K0.keep hb
  have K1x := K1.keep hb
  have ox00x := ox00.keep hb
  have ox01x := ox01.keep hb
  have ox02x := ox02.keep hb
  have ox03x := ox03.keep hb
  clear B K0 K1 ox00 ox01 ox02 ox03
  have B := B1
  have K0 := K0x
  have K1 := K1x
  have ox00 := ox00x
  have ox01 := ox01x
  have ox02 := ox02x
  have ox03 := ox03x
  clear B1 K0x K1x ox00x ox01x ox02x ox03x
  clear hb
  have GK0 := K0.cell
  have ZK0 := K0.lt
  have GK1 := K1.cell
  have ZK1 := K1.lt
  go_wp2_with fail
  clear GK0 ZK0 GK1 ZK1
  have yK0 := K0.lt
  have yK1 := K1.lt
  have GK0 := K0.cell
  have GK1 := K1.cell
  go_region_held3 (fun w' => (∀ i, w'.cell? ⟨w.heap.size, i, none⟩ = (#[.int .i64 n0_0, .int .i64 n0_1, .slice av0_2 l0_2.length cv0_2, .int .i64 n0_3, .slice av0_4 l0_4.length cv0_4, .int .i64 n0_5, .slice av0_6 l0_6.length cv0_6, .int .i64 n0_7, .int .i64 n0_8, .slice av0_9 l0_9.length cv0_9] : Array Value)[i]?) ∧ (∀ i, w'.cell? ⟨W8.heap.size, i, none⟩ = (#[.int .i64 n0_0, .int .i64 n0_1, .slice px00 ix00 qx00, .int .i64 n0_3, .slice px01 ix01 qx01, .int .i64 n0_5, .slice px02 ix02 qx02, .int .i64 n0_7, .int .i64 n0_8, .slice px03 ix03 qx03] : Array Value)[i]?)) (go_keep)
    (first
      | (go_at_call 6; refine (toClaim_c _ n0_0 n0_1 _ l0_2 (hv0_2.below (B := w.heap.size) (by repeat (first | exact Below.refl _ _ | (with_reducible refine Below.setCell ?_ (by first | omega | (simp; done) | (simp; omega)) _) | (with_reducible refine Below.alloc ?_ (by first | omega | (simp; done) | (simp; omega)) _) | (with_reducible refine Below.drewN' ?_ _) | (with_reducible refine Below.drew ?_) | (with_reducible assumption) | refine Below.trans ?_ (Below.mono (by assumption) (by first | omega | (simp; done) | (simp; omega))))) (Nat.le_refl _)) hlv0_2 n0_3 _ l0_4 (hv0_4.below (B := w.heap.size) (by repeat (first | exact Below.refl _ _ | (with_reducible refine Below.setCell ?_ (by first | omega | (simp; done) | (simp; omega)) _) | (with_reducible refine Below.alloc ?_ (by first | omega | (simp; done) | (simp; omega)) _) | (with_reducible refine Below.drewN' ?_ _) | (with_reducible refine Below.drew ?_) | (with_reducible assumption) | refine Below.trans ?_ (Below.mono (by assumption) (by first | omega | (simp; done) | (simp; omega))))) (Nat.le_refl _)) hlv0_4 n0_5 _ l0_6 (hv0_6.below (B := w.heap.size) (by repeat (first | exact Below.refl _ _ | (with_reducible refine Below.setCell ?_ (by first | omega | (simp; done) | (simp; omega)) _) | (with_reducible refine Below.alloc ?_ (by first | omega | (simp; done) | (simp; omega)) _) | (with_reducible refine Below.drewN' ?_ _) | (with_reducible refine Below.drew ?_) | (with_reducible assumption) | refine Below.trans ?_ (Below.mono (by assumption) (by first | omega | (simp; done) | (simp; omega))))) (Nat.le_refl _)) hlv0_6 n0_7 n0_8 _ l0_9 (hv0_9.below (B := w.heap.size) (by repeat (first | exact Below.refl _ _ | (with_reducible refine Below.setCell ?_ (by first | omega | (simp; done) | (simp; omega)) _) | (with_reducible refine Below.alloc ?_ (by first | omega | (simp; done) | (simp; omega)) _) | (with_reducible refine Below.drewN' ?_ _) | (with_reducible refine Below.drew ?_) | (with_reducible assumption) | refine Below.trans ?_ (Below.mono (by assumption) (by first | omega | (simp; done) | (simp; omega))))) (Nat.le_refl _)) hlv0_9).mono ?_; rintro e W11 ⟨pyW11x0, iyW11x0, qyW11x0, pyW11x1, iyW11x1, qyW11x1, pyW11x2, iyW11x2, qyW11x2, pyW11x3, iyW11x3, qyW11x3, rfl, oyW11x0, oyW11x1, oyW11x2, oyW11x3, hbW11⟩; obtain ⟨hchbW11, hfhbW11⟩ := bcellN hbW11 (W10.heap.size) (by first | omega | (simp; done) | (simp; omega)); have zhbW11 := hbW11.size; (try simp at zhbW11))
      | (go_at_call 8; refine (eqClaim_c _ _ _ _ _ ((ox00.drewN 1).below hbW11 (by first | omega | (simp; done) | (simp; omega))).ints _ _ _ ((ox01.drewN 1).below hbW11 (by first | omega | (simp; done) | (simp; omega))).ints _ _ _ ((ox02.drewN 1).below hbW11 (by first | omega | (simp; done) | (simp; omega))).ints _ _ _ _ ((ox03.drewN 1).below hbW11 (by first | omega | (simp; done) | (simp; omega))).ints _ oyW11x0.ints _ oyW11x1.ints _ oyW11x2.ints _ oyW11x3.ints).mono ?_; rintro e W12 ⟨rfl, hbW12⟩; obtain ⟨hchbW12, hfhbW12⟩ := bcellN hbW12 (W10.heap.size) (by first | omega | (simp; done) | (simp; omega)); have zhbW12 := hbW12.size; (try simp at zhbW12))
    )
  have B1 : Below w.heap.size w W12 := (by repeat (first | exact Below.refl _ _ | (with_reducible refine Below.setCell ?_ (by first | omega | (simp; done) | (simp; omega)) _) | (with_reducible refine Below.alloc ?_ (by first | omega | (simp; done) | (simp; omega)) _) | (with_reducible refine Below.drewN' ?_ _) | (with_reducible refine Below.drew ?_) | (with_reducible assumption) | refine Below.trans ?_ (Below.mono (by assumption) (by first | omega | (simp; done) | (simp; omega)))))
  have zzW12 : W10.heap.size ≤ W12.heap.size := by omega
  have K0x : Blk W12 (w.heap.size) 28 #[.int .i64 n0_0, .int .i64 n0_1, .slice av0_2 l0_2.length cv0_2, .int .i64 n0_3, .slice av0_4 l0_4.length cv0_4, .int .i64 n0_5, .slice av0_6 l0_6.length cv0_6, .int .i64 n0_7, .int .i64 n0_8, .slice av0_9 l0_9.length cv0_9] := (((K0.drewN 1).keep hbW11).keep hbW12)
  have K1x : Blk W12 (W8.heap.size) 34 #[.int .i64 n0_0, .int .i64 n0_1, .slice px00 ix00 qx00, .int .i64 n0_3, .slice px01 ix01 qx01, .int .i64 n0_5, .slice px02 ix02 qx02, .int .i64 n0_7, .int .i64 n0_8, .slice px03 ix03 qx03] := (((K1.drewN 1).keep hbW11).keep hbW12)
  have ox00x : OwnW 3 V7.heap.size W12 (.slice px00 ix00 qx00) (l0_2) := (((ox00.drewN 1).keep hbW11).keep hbW12)
  have ox01x : OwnW 3 V7.heap.size W12 (.slice px01 ix01 qx01) (l0_4) := (((ox01.drewN 1).keep hbW11).keep hbW12)
  have ox02x : OwnW 3 V7.heap.size W12 (.slice px02 ix02 qx02) (l0_6) := (((ox02.drewN 1).keep hbW11).keep hbW12)
  have ox03x : OwnW 3 V7.heap.size W12 (.slice px03 ix03 qx03) (l0_9) := (((ox03.drewN 1).keep hbW11).keep hbW12)
  clear B K0 K1 ox00 ox01 ox02 ox03 GK0 GK1 yK0 yK1 hchbW11 hfhbW11 hchbW12 hfhbW12
  have B := B1
  have K0 := K0x
  have K1 := K1x
  have ox00 := ox00x
  have ox01 := ox01x
  have ox02 := ox02x
  have ox03 := ox03x
  clear B1 K0x K1x ox00x ox01x ox02x ox03x
  have GK0 := K0.cell
  have ZK0 := K0.lt
  have GK1 := K1.cell
  have ZK1 := K1.lt
  go_wp2
  go_ret
  exact ⟨rfl, B⟩

theorem fnExactCheckClaim_params : Tryz.f3.params = #[28] := by kernel_rfl
set_option maxRecDepth 100000 in
theorem fnExactCheckClaim_lifted (os : Os) (started : os.Started) (H : Type) (enc : TypeId × Value → H) :
    ReturnsInHanded {} Tryz.checked os 3 .any (Rows.fnExactCheckClaimSpec.pre6 enc Tryz.prog Tryz.f3 Rows.fnExactCheckClaimRow.domain false) (Rows.fnExactCheckClaimSpec.post enc Tryz.prog Tryz.f3 false true false false) := by
  refine law_lift os started H enc Tryz.func3 (by kernel_rfl) rfl (by kernel_rfl) (by kernel_rfl) ?_
    (ChangeSpec.witness6 (enc := enc) (C := Tryz.checked) false ⟨#[], #[.agg #[.int .i64 0, .int .i64 0, .slice none 0 0, .int .i64 0, .slice none 0 0, .int .i64 0, .slice none 0 0, .int .i64 0, .int .i64 0, .slice none 0 0]], []⟩ 8 (by kernel_rfl) (by kernel_rfl) (by kernel_rfl) (by kernel_rfl)) ?_
  · intro ds hds
    rw [fnExactCheckClaim_params] at hds
    match ds, hds with
    | [d0], _ => rfl
  · intro W base args ds p hval hA
    rw [fnExactCheckClaim_params] at hA hval
    obtain ⟨v0, vs0, d0, ds0, p0, q0, hargs, rfl, rfl, h0, r0⟩ := trodAll_cons hA
    obtain ⟨rfl, rfl, rfl⟩ := trodAll_nil r0
    obtain rfl : args = #[v0] := by cases args; simp_all
    obtain ⟨kk0, na0, ua0, la0, nb0, ub0, lb0, nc0, uc0, lc0, qq0, ss0, ud0, ld0, rfl, _, _, wa0, _, wb0, _, wc0, _, _, wd0⟩ := rd_claim (hval 0 28 v0 rfl rfl) h0
    exact checkclaim_walk W kk0 na0 _ la0 wa0 nb0 _ lb0 wb0 nc0 _ lc0 wc0 qq0 ss0 _ ld0 wd0

theorem fnExactCheckClaim_holds : Rows.FnExactCheckClaimSaid :=
  OpenClaim.holds_of_wide 3 Tryz.f3 rfl rfl rfl rfl rfl rfl rfl ⟨rfl, rfl, rfl, rfl, rfl⟩ rfl rfl rfl rfl rfl (by kernel_rfl) Tryz.func3 (by kernel_rfl)
    (of_decide_eq_true (by kernel_rfl)) (by unfold Func.isWrapper; first | (rw [if_pos (by decide +kernel)]; kernel_rfl) | (rw [if_neg (by decide +kernel)]; exact ⟨rfl, rfl⟩))
    (fun os started H enc _ => fnExactCheckClaim_lifted os started H enc)
end Go.Proofs.YtelmokapdkepbaaGreat
end
