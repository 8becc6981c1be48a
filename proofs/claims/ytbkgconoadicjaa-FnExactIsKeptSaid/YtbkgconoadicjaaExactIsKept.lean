/- The statement FnExactIsKept: for every input the call returns true and each argument reads as it did. No condition. -/
import Derived.Test.YtbkgconoadicjaaRead
import Derived.Test.YtbkgconoadicjaaTo
import Derived.Test.YtbkgconoadicjaaEq
import Derived.Test.YtbkgconoadicjaaMark
import Derived.Deep.RegionHeld3
import Derived.Test.YtbkgconoadicjaaKept
namespace Go.Proofs.Ytbkgconoadicjaa
open Go.ChangeShapes Go.WideShapes Go.ChangeAt Go.RowKit Go.G5
set_option maxHeartbeats 4000000 in
set_option maxRecDepth 100000 in
theorem iskept_walk (w : World) (n0_0 : Int) (v0_1 : Value) (l0_1 : List Int) (v0_2 : Value) (l0_2 : List Int) (_ : InR n0_0) (hv0_1 : Ints w v0_1 l0_1) (hv0_2 : Ints w v0_2 l0_2) :
    Calls Try.prog 3 #[.agg #[.int .i64 n0_0, v0_1, v0_2]] w fun e w' => e = .returned (.bool true) ∧ Below w.heap.size w w' := by
  obtain ⟨av0_1, cv0_1, rfl⟩ := hv0_1.shape
  obtain ⟨av0_2, cv0_2, rfl⟩ := hv0_2.shape
  go_enter Try.func3, Try.ntmps3
  go_wp2_with fail
  refine calls_named ?_
  intro V1 hV
  have B : Below w.heap.size w V1 := by rw [hV]; exact (by repeat (first | exact Below.refl _ _ | (with_reducible refine Below.setCell ?_ (by first | omega | (simp; done) | (simp; omega)) _) | (with_reducible refine Below.alloc ?_ (by first | omega | (simp; done) | (simp; omega)) _) | (with_reducible refine Below.drewN' ?_ _) | (with_reducible refine Below.drew ?_) | (with_reducible assumption) | refine Below.trans ?_ (Below.mono (by assumption) (by first | omega | (simp; done) | (simp; omega)))))
  have K0 : Blk V1 (w.heap.size) 26 #[.int .i64 n0_0, .slice av0_1 l0_1.length cv0_1, .slice av0_2 l0_2.length cv0_2] := by rw [hV]; have := (Blk.new (w) 26 #[.int .i64 n0_0, .slice av0_1 l0_1.length cv0_1, .slice av0_2 l0_2.length cv0_2]); simpa using this
  clear hV
  refine (szKept_c n0_0 _ _ l0_1 l0_2 _ _ (hv0_1.below B (Nat.le_refl _)) (hv0_2.below B (Nat.le_refl _)) (by omega) (by omega)).mono ?_
  rintro e W2 ⟨⟨s0, rfl, hs0⟩, hb⟩
  have B1 := B.after hb B.size
  have K0x := K0.keep hb
  clear B K0
  have B := B1
  have K0 := K0x
  clear B1 K0x
  clear hb
  rcases hs0 with hs0 | ⟨g0_0, g0_1, hlv0_1', hlv0_2'⟩
  · go_wp2
    go_ret
    exact ⟨rfl, B⟩
  have hlv0_1 : l0_1.length ≤ 1048576 := by omega
  have hlv0_2 : l0_2.length ≤ 1048576 := by omega
  have GK0 := K0.cell
  have ZK0 := K0.lt
  go_wp2_with fail
  clear GK0 ZK0
  refine calls_named ?_
  intro V3 hV
  have B1 : Below w.heap.size w V3 := by rw [hV]; first | exact B | exact B.alloc B.size _ | exact (B.alloc B.size _).alloc (by have := B.size; simp; omega) _
  have K0x : Blk V3 (w.heap.size) 26 #[.int .i64 n0_0, .slice av0_1 l0_1.length cv0_1, .slice av0_2 l0_2.length cv0_2] := by rw [hV]; first | exact K0 | exact K0.alloc _ | exact (K0.alloc _).alloc _
  clear B K0
  have B := B1
  have K0 := K0x
  clear B1 K0x
  clear hV
  refine (toKept_any n0_0 _ _ l0_1 l0_2 _ (hv0_1.below B (Nat.le_refl _)) (hv0_2.below B (Nat.le_refl _)) hlv0_1 hlv0_2).mono ?_
  rintro e W4 ⟨pwx00, iwx00, qwx00, pwx01, iwx01, qwx01, rfl, owx00x, owx01x, hb⟩
  have B1 := B.after hb B.size
  have K0x := K0.keep hb
  clear B K0
  have B := B1
  have K0 := K0x
  clear B1 K0x
  clear hb
  have owx00 := owx00x
  clear owx00x
  have r_wx00 := owx00.lt
  have owx01 := owx01x
  clear owx01x
  have r_wx01 := owx01.lt
  have GK0 := K0.cell
  have ZK0 := K0.lt
  go_wp2_with fail
  clear GK0 ZK0
  refine calls_named ?_
  intro V5 hV
  have B1 : Below w.heap.size w V5 := by rw [hV]; first | exact B | exact B.alloc B.size _ | exact (B.alloc B.size _).alloc (by have := B.size; simp; omega) _
  have K0x : Blk V5 (w.heap.size) 26 #[.int .i64 n0_0, .slice av0_1 l0_1.length cv0_1, .slice av0_2 l0_2.length cv0_2] := by rw [hV]; first | exact K0 | exact K0.alloc _ | exact (K0.alloc _).alloc _
  have owx00x : OwnI 3 V3.heap.size V5 (.slice pwx00 iwx00 qwx00) (l0_1) := by rw [hV]; first | exact owx00 | exact owx00.alloc _ | exact (owx00.alloc _).alloc _
  have owx01x : OwnI 3 V3.heap.size V5 (.slice pwx01 iwx01 qwx01) (l0_2) := by rw [hV]; first | exact owx01 | exact owx01.alloc _ | exact (owx01.alloc _).alloc _
  clear B K0 owx00 owx01
  have B := B1
  have K0 := K0x
  have owx00 := owx00x
  have owx01 := owx01x
  clear B1 K0x owx00x owx01x
  clear hV
  refine (isKeptS_c _ n0_0 _ l0_1 owx00.ints hlv0_1 _ l0_2 owx01.ints hlv0_2).mono ?_
  rintro e W6 ⟨rfl, hb⟩
  have B1 := B.after hb B.size
  have K0x := K0.keep hb
  clear B K0
  have B := B1
  have K0 := K0x
  clear B1 K0x
  clear hb
  clear owx00 owx01
  have GK0 := K0.cell
  have ZK0 := K0.lt
  go_wp2_with fail
  clear GK0 ZK0
  refine calls_named ?_
  intro V7 hV
  have B1 : Below w.heap.size w V7 := by rw [hV]; first | exact B | exact B.alloc B.size _ | exact (B.alloc B.size _).alloc (by have := B.size; simp; omega) _
  have K0x : Blk V7 (w.heap.size) 26 #[.int .i64 n0_0, .slice av0_1 l0_1.length cv0_1, .slice av0_2 l0_2.length cv0_2] := by rw [hV]; first | exact K0 | exact K0.alloc _ | exact (K0.alloc _).alloc _
  clear B K0
  have B := B1
  have K0 := K0x
  clear B1 K0x
  clear hV
  refine (toKept_any n0_0 _ _ l0_1 l0_2 _ (hv0_1.below B (Nat.le_refl _)) (hv0_2.below B (Nat.le_refl _)) hlv0_1 hlv0_2).mono ?_
  rintro e W8 ⟨px00, ix00, qx00, px01, ix01, qx01, rfl, ox00x, ox01x, hb⟩
  have B1 := B.after hb B.size
  have K0x := K0.keep hb
  clear B K0
  have B := B1
  have K0 := K0x
  clear B1 K0x
  clear hb
  have ox00 := ox00x
  clear ox00x
  have r_x00 := ox00.lt
  have ox01 := ox01x
  clear ox01x
  have r_x01 := ox01.lt
  have GK0 := K0.cell
  have ZK0 := K0.lt
  go_wp2_with fail
  clear GK0 ZK0
  refine calls_named ?_
  intro V9 hV
  have B1 : Below w.heap.size w V9 := by rw [hV]; first | exact B | exact B.alloc B.size _ | exact (B.alloc B.size _).alloc (by have := B.size; simp; omega) _
  have K0x : Blk V9 (w.heap.size) 26 #[.int .i64 n0_0, .slice av0_1 l0_1.length cv0_1, .slice av0_2 l0_2.length cv0_2] := by rw [hV]; first | exact K0 | exact K0.alloc _ | exact (K0.alloc _).alloc _
  have ox00x : OwnI 3 V7.heap.size V9 (.slice px00 ix00 qx00) (l0_1) := by rw [hV]; first | exact ox00 | exact ox00.alloc _ | exact (ox00.alloc _).alloc _
  have ox01x : OwnI 3 V7.heap.size V9 (.slice px01 ix01 qx01) (l0_2) := by rw [hV]; first | exact ox01 | exact ox01.alloc _ | exact (ox01.alloc _).alloc _
  have K1x : Blk V9 (W8.heap.size) 31 #[.int .i64 n0_0, .slice px00 ix00 qx00, .slice px01 ix01 qx01] := by rw [hV]; exact Blk.new _ _ _
  clear B K0 ox00 ox01
  have B := B1
  have K0 := K0x
  have K1 := K1x
  have ox00 := ox00x
  have ox01 := ox01x
  clear B1 K0x K1x ox00x ox01x
  clear hV
  refine (isKeptI_c _ n0_0 _ l0_1 ox00.ints hlv0_1 _ l0_2 ox01.ints hlv0_2).mono ?_
  rintro e W10 ⟨rfl, hb⟩
  have B1 := B.after hb B.size
  have K0x := K0.keep hb
  have K1x := K1.keep hb
  have ox00x := ox00.keep hb
  have ox01x := ox01.keep hb
  clear B K0 K1 ox00 ox01
  have B := B1
  have K0 := K0x
  have K1 := K1x
  have ox00 := ox00x
  have ox01 := ox01x
  clear B1 K0x K1x ox00x ox01x
  clear hb
  have GK0 := K0.cell
  have ZK0 := K0.lt
  have GK1 := K1.cell
  have ZK1 := K1.lt
  go_wp2_with fail
  clear GK0 ZK0 GK1 ZK1
  have yK0 := K0.lt
  have yK1 := K1.lt
  have GK0 := K0.cell
  have GK1 := K1.cell
  go_region_held3 (fun w' => (∀ i, w'.cell? ⟨w.heap.size, i, none⟩ = (#[.int .i64 n0_0, .slice av0_1 l0_1.length cv0_1, .slice av0_2 l0_2.length cv0_2] : Array Value)[i]?) ∧ (∀ i, w'.cell? ⟨W8.heap.size, i, none⟩ = (#[.int .i64 n0_0, .slice px00 ix00 qx00, .slice px01 ix01 qx01] : Array Value)[i]?)) (go_keep)
    (first
      | (go_at_call 17; refine (toKept_any n0_0 _ _ l0_1 l0_2 _ (hv0_1.below (B := w.heap.size) (by repeat (first | exact Below.refl _ _ | (with_reducible refine Below.setCell ?_ (by first | omega | (simp; done) | (simp; omega)) _) | (with_reducible refine Below.alloc ?_ (by first | omega | (simp; done) | (simp; omega)) _) | (with_reducible refine Below.drewN' ?_ _) | (with_reducible refine Below.drew ?_) | (with_reducible assumption) | refine Below.trans ?_ (Below.mono (by assumption) (by first | omega | (simp; done) | (simp; omega))))) (Nat.le_refl _)) (hv0_2.below (B := w.heap.size) (by repeat (first | exact Below.refl _ _ | (with_reducible refine Below.setCell ?_ (by first | omega | (simp; done) | (simp; omega)) _) | (with_reducible refine Below.alloc ?_ (by first | omega | (simp; done) | (simp; omega)) _) | (with_reducible refine Below.drewN' ?_ _) | (with_reducible refine Below.drew ?_) | (with_reducible assumption) | refine Below.trans ?_ (Below.mono (by assumption) (by first | omega | (simp; done) | (simp; omega))))) (Nat.le_refl _)) hlv0_1 hlv0_2).mono ?_; rintro e W11 ⟨pyW11x0, iyW11x0, qyW11x0, pyW11x1, iyW11x1, qyW11x1, rfl, oyW11x0, oyW11x1, hbW11⟩; obtain ⟨hchbW11, hfhbW11⟩ := bcellN hbW11 (W10.heap.size) (by first | omega | (simp; done) | (simp; omega)); have zhbW11 := hbW11.size; (try simp at zhbW11))
      | (go_at_call 19; refine (eqKept_any _ _ _ _ _ _ _ _ _ _ _ ((ox00.drewN 1).below hbW11 (by first | omega | (simp; done) | (simp; omega))).ints oyW11x0.ints ((ox01.drewN 1).below hbW11 (by first | omega | (simp; done) | (simp; omega))).ints oyW11x1.ints).mono ?_; rintro e W12 ⟨rfl, hbW12⟩; obtain ⟨hchbW12, hfhbW12⟩ := bcellN hbW12 (W10.heap.size) (by first | omega | (simp; done) | (simp; omega)); have zhbW12 := hbW12.size; (try simp at zhbW12))
    )
  have B1 : Below w.heap.size w W12 := (by repeat (first | exact Below.refl _ _ | (with_reducible refine Below.setCell ?_ (by first | omega | (simp; done) | (simp; omega)) _) | (with_reducible refine Below.alloc ?_ (by first | omega | (simp; done) | (simp; omega)) _) | (with_reducible refine Below.drewN' ?_ _) | (with_reducible refine Below.drew ?_) | (with_reducible assumption) | refine Below.trans ?_ (Below.mono (by assumption) (by first | omega | (simp; done) | (simp; omega)))))
  have K0x : Blk W12 (w.heap.size) 26 #[.int .i64 n0_0, .slice av0_1 l0_1.length cv0_1, .slice av0_2 l0_2.length cv0_2] := (((K0.drewN 1).keep hbW11).keep hbW12)
  have K1x : Blk W12 (W8.heap.size) 31 #[.int .i64 n0_0, .slice px00 ix00 qx00, .slice px01 ix01 qx01] := (((K1.drewN 1).keep hbW11).keep hbW12)
  have ox00x : OwnI 3 V7.heap.size W12 (.slice px00 ix00 qx00) (l0_1) := (((ox00.drewN 1).keep hbW11).keep hbW12)
  have ox01x : OwnI 3 V7.heap.size W12 (.slice px01 ix01 qx01) (l0_2) := (((ox01.drewN 1).keep hbW11).keep hbW12)
  clear B K0 K1 ox00 ox01 GK0 GK1 yK0 yK1 hchbW11 hfhbW11 hchbW12 hfhbW12
  have B := B1
  have K0 := K0x
  have K1 := K1x
  have ox00 := ox00x
  have ox01 := ox01x
  clear B1 K0x K1x ox00x ox01x
  try simp only [decide_true, Bool.and_self]
  have GK0 := K0.cell
  have ZK0 := K0.lt
  have GK1 := K1.cell
  have ZK1 := K1.lt
  go_wp2
  go_ret
  exact ⟨rfl, B⟩

theorem fnExactIsKept_params : Try.f3.params = #[26] := by kernel_rfl
set_option maxRecDepth 100000 in
theorem fnExactIsKept_lifted (os : Os) (started : os.Started) (H : Type) (enc : TypeId × Value → H) :
    ReturnsInHanded {} Try.checked os 3 .any (Rows.fnExactIsKeptSpec.pre6 enc Try.prog Try.f3 Rows.fnExactIsKeptRow.domain false) (Rows.fnExactIsKeptSpec.post enc Try.prog Try.f3 false true false false) := by
  refine law_lift os started H enc Try.func3 (by kernel_rfl) rfl (by kernel_rfl) (by kernel_rfl) ?_
    (ChangeSpec.witness6 (enc := enc) (C := Try.checked) false ⟨#[], #[.agg #[.int .i64 0, .slice none 0 0, .slice none 0 0]], []⟩ 8 (by kernel_rfl) (by kernel_rfl) (by kernel_rfl) (by kernel_rfl)) ?_
  · intro ds hds
    rw [fnExactIsKept_params] at hds
    match ds, hds with
    | [d0], _ => rfl
  · intro W base args ds p hval hA
    rw [fnExactIsKept_params] at hA hval
    obtain ⟨v0, vs0, d0, ds0, p0, q0, hargs, rfl, rfl, h0, r0⟩ := trodAll_cons hA
    obtain ⟨rfl, rfl, rfl⟩ := trodAll_nil r0
    obtain rfl : args = #[v0] := by cases args; simp_all
    obtain ⟨n0, u0, l0, t0, m0, rfl, w0, x0, y0⟩ := rd_kept (hval 0 26 v0 rfl rfl) h0
    exact iskept_walk W n0 u0 l0 t0 m0 w0 x0 y0

theorem fnExactIsKept_holds : Rows.FnExactIsKeptSaid :=
  OpenClaim.holds_of_wide 3 Try.f3 rfl rfl rfl rfl rfl rfl rfl ⟨rfl, rfl, rfl, rfl, rfl⟩ rfl rfl rfl rfl rfl (by kernel_rfl) Try.func3 (by kernel_rfl)
    (of_decide_eq_true (by kernel_rfl)) (by unfold Func.isWrapper; first | (rw [if_pos (by decide +kernel)]; kernel_rfl) | (rw [if_neg (by decide +kernel)]; exact ⟨rfl, rfl⟩))
    (fun os started H enc _ => fnExactIsKept_lifted os started H enc)
end Go.Proofs.Ytbkgconoadicjaa
