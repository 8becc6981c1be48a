/- The statement FnExactFamilyLine: for every input the call returns true and each argument reads as it did. No condition. The card of FnExactFamilyLine: for every input the call returns true and each argument reads as it did. No condition. -/
import Derived.Test.YtipejodijbjpcaaGreatDoorQ39
import Derived.Deep.RegionHeld3
import Derived.Test.YtipejodijbjpcaaGreatDoorCards
import Derived.Test.YtipejodijbjpcaaGreatDoorTie
import Derived.SevenTiedAt
section
namespace Go.Proofs.YtipejodijbjpcaaGreatDoor
open Go.ChangeShapes Go.WideShapes Go.ChangeAt Go.RowKit Go.G5
set_option maxHeartbeats 4000000 in
set_option maxRecDepth 100000 in
theorem fmline_walk (w : World) (n0_0 : Int) (v0_1 : Value) (l0_1 : List Int) (_ : InR n0_0) (hv0_1 : Ints w v0_1 l0_1) (hp : Pow w) :
    Calls Tryz.prog 3 #[.agg #[.int .i64 n0_0, v0_1]] w fun e w' => e = .returned (.bool true) ∧ Below w.heap.size w w' := by
  obtain ⟨av0_1, cv0_1, rfl⟩ := hv0_1.shape
  go_enter Tryz.func3, Tryz.ntmps3
  go_wp2_with fail
  refine calls_named ?_
  intro V1 hV
  have B : Below w.heap.size w V1 := by rw [hV]; exact (by repeat (first | exact Below.refl _ _ | (with_reducible refine Below.setCell ?_ (by first | omega | (simp; done) | (simp; omega)) _) | (with_reducible refine Below.alloc ?_ (by first | omega | (simp; done) | (simp; omega)) _) | (with_reducible refine Below.drewN' ?_ _) | (with_reducible refine Below.drew ?_) | (with_reducible assumption) | refine Below.trans ?_ (Below.mono (by assumption) (by first | omega | (simp; done) | (simp; omega)))))
  have zV1 : w.heap.size + 1 ≤ V1.heap.size := by rw [hV]; (first | simp | omega)
  have K0 : Blk V1 (w.heap.size) 24 #[.int .i64 n0_0, .slice av0_1 l0_1.length cv0_1] := by rw [hV]; have := (Blk.new (w) 24 #[.int .i64 n0_0, .slice av0_1 l0_1.length cv0_1]); simpa using this
  clear hV
  refine (szFamily_c n0_0 _ l0_1 _ _ (hv0_1.below B (Nat.le_refl _)) (by omega) (by omega)).mono ?_
  rintro e W2 ⟨⟨s0, rfl, hs0⟩, hb⟩
  have zW2 : V1.heap.size ≤ W2.heap.size := hb.size
  have B1 := B.after hb B.size
  have K0x := K0.keep hb
  clear B K0
  have B := B1
  have K0 := K0x
  clear B1 K0x
  clear hb
  rcases hs0 with hs0 | ⟨g0_0, g0_1, hlv0_1'⟩
  · go_wp2
    go_ret
    exact ⟨rfl, B⟩
  have hlv0_1 : l0_1.length ≤ 1048576 := by omega
  have GK0 := K0.cell
  have ZK0 := K0.lt
  go_wp2_with fail
  clear GK0 ZK0
  refine calls_named ?_
  intro V3 hV
  have zV3 : W2.heap.size + 0 ≤ V3.heap.size := by rw [hV]; (first | exact Nat.le_refl _ | simp)
  have B1 : Below w.heap.size w V3 := by rw [hV]; first | exact B | exact B.alloc B.size _ | exact (B.alloc B.size _).alloc (by have := B.size; simp; omega) _
  have K0x : Blk V3 (w.heap.size) 24 #[.int .i64 n0_0, .slice av0_1 l0_1.length cv0_1] := by rw [hV]; first | exact K0 | exact K0.alloc _ | exact (K0.alloc _).alloc _
  clear B K0
  have B := B1
  have K0 := K0x
  clear B1 K0x
  clear hV
  refine (toFamily_any n0_0 _ l0_1 _ (hv0_1.below B (Nat.le_refl _)) hlv0_1).mono ?_
  rintro e W4 ⟨pwx00, iwx00, qwx00, rfl, owx00x, hb⟩
  have zW4 : V3.heap.size ≤ W4.heap.size := hb.size
  have B1 := B.after hb B.size
  have K0x := K0.keep hb
  clear B K0
  have B := B1
  have K0 := K0x
  clear B1 K0x
  clear hb
  have owx00 := owx00x.toW
  clear owx00x
  have r_wx00 := owx00.lt
  have GK0 := K0.cell
  have ZK0 := K0.lt
  go_wp2_with fail
  clear GK0 ZK0
  refine calls_named ?_
  intro V5 hV
  have zV5 : W4.heap.size + 0 ≤ V5.heap.size := by rw [hV]; (first | exact Nat.le_refl _ | simp)
  have B1 : Below w.heap.size w V5 := by rw [hV]; first | exact B | exact B.alloc B.size _ | exact (B.alloc B.size _).alloc (by have := B.size; simp; omega) _
  have K0x : Blk V5 (w.heap.size) 24 #[.int .i64 n0_0, .slice av0_1 l0_1.length cv0_1] := by rw [hV]; first | exact K0 | exact K0.alloc _ | exact (K0.alloc _).alloc _
  have owx00x : OwnW 3 V3.heap.size V5 (.slice pwx00 iwx00 qwx00) (l0_1) := by rw [hV]; first | exact owx00 | exact owx00.alloc _ | exact (owx00.alloc _).alloc _
  clear B K0 owx00
  have B := B1
  have K0 := K0x
  have owx00 := owx00x
  clear B1 K0x owx00x
  clear hV
  refine (fmLineS_c _ n0_0 _ l0_1 owx00.ints hlv0_1).mono ?_
  rintro e W6 ⟨rfl, hb⟩
  have zW6 : V5.heap.size ≤ W6.heap.size := hb.size
  have B1 := B.after hb B.size
  have K0x := K0.keep hb
  clear B K0
  have B := B1
  have K0 := K0x
  clear B1 K0x
  clear hb
  clear owx00
  have GK0 := K0.cell
  have ZK0 := K0.lt
  go_wp2_with fail
  clear GK0 ZK0
  refine calls_named ?_
  intro V7 hV
  have zV7 : W6.heap.size + 0 ≤ V7.heap.size := by rw [hV]; (first | exact Nat.le_refl _ | simp)
  have B1 : Below w.heap.size w V7 := by rw [hV]; first | exact B | exact B.alloc B.size _ | exact (B.alloc B.size _).alloc (by have := B.size; simp; omega) _
  have K0x : Blk V7 (w.heap.size) 24 #[.int .i64 n0_0, .slice av0_1 l0_1.length cv0_1] := by rw [hV]; first | exact K0 | exact K0.alloc _ | exact (K0.alloc _).alloc _
  clear B K0
  have B := B1
  have K0 := K0x
  clear B1 K0x
  clear hV
  refine (toFamily_any n0_0 _ l0_1 _ (hv0_1.below B (Nat.le_refl _)) hlv0_1).mono ?_
  rintro e W8 ⟨px00, ix00, qx00, rfl, ox00x, hb⟩
  have zW8 : V7.heap.size ≤ W8.heap.size := hb.size
  have B1 := B.after hb B.size
  have K0x := K0.keep hb
  clear B K0
  have B := B1
  have K0 := K0x
  clear B1 K0x
  clear hb
  have ox00 := ox00x.toW
  clear ox00x
  have r_x00 := ox00.lt
  have GK0 := K0.cell
  have ZK0 := K0.lt
  go_wp2_with fail
  clear GK0 ZK0
  refine calls_named ?_
  intro V9 hV
  have zV9 : W8.heap.size + 1 ≤ V9.heap.size := by rw [hV]; (first | exact Nat.le_refl _ | simp)
  have B1 : Below w.heap.size w V9 := by rw [hV]; first | exact B | exact B.alloc B.size _ | exact (B.alloc B.size _).alloc (by have := B.size; simp; omega) _
  have K0x : Blk V9 (w.heap.size) 24 #[.int .i64 n0_0, .slice av0_1 l0_1.length cv0_1] := by rw [hV]; first | exact K0 | exact K0.alloc _ | exact (K0.alloc _).alloc _
  have ox00x : OwnW 3 V7.heap.size V9 (.slice px00 ix00 qx00) (l0_1) := by rw [hV]; first | exact ox00 | exact ox00.alloc _ | exact (ox00.alloc _).alloc _
  have K1x : Blk V9 (W8.heap.size) 27 #[.int .i64 n0_0, .slice px00 ix00 qx00] := by rw [hV]; exact Blk.new _ _ _
  clear B K0 ox00
  have B := B1
  have K0 := K0x
  have K1 := K1x
  have ox00 := ox00x
  clear B1 K0x K1x ox00x
  clear hV
  refine (fmLineI_c _ n0_0 _ l0_1 ox00.ints hlv0_1 (hp.keep B)).mono ?_
  rintro e W10 ⟨rfl, hb⟩
  have zW10 : V9.heap.size ≤ W10.heap.size := hb.size
  have B1 := B.after hb B.size
  have K0x := K0.keep hb
  have K1x := K1.keep hb
  have ox00x := ox00.keep hb
  clear B K0 K1 ox00
  have B := B1
  have K0 := K0x
  have K1 := K1x
  have ox00 := ox00x
  clear B1 K0x K1x ox00x
  clear hb
  have GK0 := K0.cell
  have ZK0 := K0.lt
  have GK1 := K1.cell
  have ZK1 := K1.lt
  go_wp2_with fail
  clear GK0 ZK0 GK1 ZK1
  have yK0 := K0.lt
  have yK1 := K1.lt
  have GK0 := K0.cell
  have GK1 := K1.cell
  go_region_held3 (fun w' => (∀ i, w'.cell? ⟨w.heap.size, i, none⟩ = (#[.int .i64 n0_0, .slice av0_1 l0_1.length cv0_1] : Array Value)[i]?) ∧ (∀ i, w'.cell? ⟨W8.heap.size, i, none⟩ = (#[.int .i64 n0_0, .slice px00 ix00 qx00] : Array Value)[i]?)) (go_keep)
    (first
      | (go_at_call 8; refine (toFamily_any n0_0 _ l0_1 _ (hv0_1.below (B := w.heap.size) (by repeat (first | exact Below.refl _ _ | (with_reducible refine Below.setCell ?_ (by first | omega | (simp; done) | (simp; omega)) _) | (with_reducible refine Below.alloc ?_ (by first | omega | (simp; done) | (simp; omega)) _) | (with_reducible refine Below.drewN' ?_ _) | (with_reducible refine Below.drew ?_) | (with_reducible assumption) | refine Below.trans ?_ (Below.mono (by assumption) (by first | omega | (simp; done) | (simp; omega))))) (Nat.le_refl _)) hlv0_1).mono ?_; rintro e W11 ⟨pyW11x0, iyW11x0, qyW11x0, rfl, oyW11x0, hbW11⟩; obtain ⟨hchbW11, hfhbW11⟩ := bcellN hbW11 (W10.heap.size) (by first | omega | (simp; done) | (simp; omega)); have zhbW11 := hbW11.size; (try simp at zhbW11))
      | (go_at_call 10; refine (eqFamily_any _ _ _ _ _ _ _ ((ox00.drewN 1).below hbW11 (by first | omega | (simp; done) | (simp; omega))).ints oyW11x0.ints).mono ?_; rintro e W12 ⟨rfl, hbW12⟩; obtain ⟨hchbW12, hfhbW12⟩ := bcellN hbW12 (W10.heap.size) (by first | omega | (simp; done) | (simp; omega)); have zhbW12 := hbW12.size; (try simp at zhbW12))
    )
  have B1 : Below w.heap.size w W12 := (by repeat (first | exact Below.refl _ _ | (with_reducible refine Below.setCell ?_ (by first | omega | (simp; done) | (simp; omega)) _) | (with_reducible refine Below.alloc ?_ (by first | omega | (simp; done) | (simp; omega)) _) | (with_reducible refine Below.drewN' ?_ _) | (with_reducible refine Below.drew ?_) | (with_reducible assumption) | refine Below.trans ?_ (Below.mono (by assumption) (by first | omega | (simp; done) | (simp; omega)))))
  have zzW12 : W10.heap.size ≤ W12.heap.size := by omega
  have K0x : Blk W12 (w.heap.size) 24 #[.int .i64 n0_0, .slice av0_1 l0_1.length cv0_1] := (((K0.drewN 1).keep hbW11).keep hbW12)
  have K1x : Blk W12 (W8.heap.size) 27 #[.int .i64 n0_0, .slice px00 ix00 qx00] := (((K1.drewN 1).keep hbW11).keep hbW12)
  have ox00x : OwnW 3 V7.heap.size W12 (.slice px00 ix00 qx00) (l0_1) := (((ox00.drewN 1).keep hbW11).keep hbW12)
  clear B K0 K1 ox00 GK0 GK1 yK0 yK1 hchbW11 hfhbW11 hchbW12 hfhbW12
  have B := B1
  have K0 := K0x
  have K1 := K1x
  have ox00 := ox00x
  clear B1 K0x K1x ox00x
  try simp only [decide_true, Bool.and_self]
  have GK0 := K0.cell
  have ZK0 := K0.lt
  have GK1 := K1.cell
  have ZK1 := K1.lt
  go_wp2
  go_ret
  exact ⟨rfl, B⟩

theorem fnExactFamilyLine_params : Tryz.f3.params = #[24] := by kernel_rfl
theorem fnExactFamilyLine_door (os : Os) (args : Array Value) : laidMetH Tryz.prog Rows.fnExactFamilyLineRow.laid ((World.doorLaid Tryz.prog 24 os).forCall (fun _ _ => 0) ⟨#[], args, []⟩).memory := by
  rw [MakeChecks.laidMetH_plain _ _ _ (by kernel_rfl)]
  exact laidMet_of_run' 8 (by kernel_rfl) (by kernel_rfl)
theorem fnExactFamilyLine_pow {W : World} (h : laidMetH Tryz.prog Rows.fnExactFamilyLineRow.laid W) : Pow W := by
  rw [MakeChecks.laidMetH_plain _ _ _ (by kernel_rfl)] at h
  exact pow_of_third h
set_option maxRecDepth 100000 in
theorem fnExactFamilyLine_lifted (os : Os) (started : os.Started) (H : Type) (enc : TypeId × Value → H) :
    ReturnsInHanded {} Tryz.checked os 3 .any (fun w args => (Rows.fnExactFamilyLineSpec.pre enc Tryz.prog Tryz.f3 Rows.fnExactFamilyLineRow.domain false w args ∧ laidMetH Tryz.prog Rows.fnExactFamilyLineRow.laid w) ∧ sizedMet enc Tryz.prog Tryz.f3 (OpenSpec.ofChange Rows.fnExactFamilyLineSpec) false w args) (Rows.fnExactFamilyLineSpec.post enc Tryz.prog Tryz.f3 false true false false) := by
  refine law_lift_laid Rows.fnExactFamilyLineRow.laid os started H enc Tryz.func3 (by kernel_rfl) rfl (by kernel_rfl) (by kernel_rfl) ?_
    (ChangeSpec.witness_shaped (enc := enc) (C := Tryz.checked) (os := os) (X := fun w _ => laidMetH Tryz.prog Rows.fnExactFamilyLineRow.laid w) false (World.doorLaid Tryz.prog 24 os) #[.agg #[.int .i64 0, .slice none 0 0]] 8 rfl (World.shaped_of_RefB (by kernel_rfl) (by kernel_rfl)) (by kernel_rfl) (by kernel_rfl) (by kernel_rfl) (fnExactFamilyLine_door os _)) ?_
  · intro ds hds
    rw [fnExactFamilyLine_params] at hds
    match ds, hds with
    | [d0], _ => rfl
  · intro W base args ds p hval hA hL
    rw [fnExactFamilyLine_params] at hA hval
    obtain ⟨v0, vs0, d0, ds0, p0, q0, hargs, rfl, rfl, h0, r0⟩ := trodAll_cons hA
    obtain ⟨rfl, rfl, rfl⟩ := trodAll_nil r0
    obtain rfl : args = #[v0] := by cases args; simp_all
    obtain ⟨n0, u0, l0, rfl, w0, x0⟩ := rd_fam (hval 0 24 v0 rfl rfl) h0
    exact fmline_walk W n0 u0 l0 w0 x0 (fnExactFamilyLine_pow hL)

end Go.Proofs.YtipejodijbjpcaaGreatDoor
end
section
namespace Go.Proofs.YtipejodijbjpcaaGreatDoor
open Go.ChangeShapes Go.WideShapes Go.ChangeAt Go.RowKit Go.G5
theorem fnExactFamilyLine_and {a b : Bool} (ha : a = true) (hb : b = true) : (a && b) = true := by rw [ha, hb]; rfl
theorem fnExactFamilyLine_j0 : (Rows.fnExactFamilyLineRow.wf (OpenSpec.ofChange Rows.fnExactFamilyLineSpec)) = true := by kernel_rfl
theorem fnExactFamilyLine_j1 : (laidOutB Tryz.prog) = true := by kernel_rfl
theorem fnExactFamilyLine_j2 : (mapsRowed Tryz.prog) = true := by kernel_rfl
theorem fnExactFamilyLine_j3 : (Tryz.f3.params.all (Tryz.prog.readableRec ·)) = true := by kernel_rfl
theorem fnExactFamilyLine_j4 : (namedTie Tryz.prog Rows.fnExactFamilyLineRow.named Rows.fnExactFamilyLineSpec.vars) = true := by kernel_rfl
theorem fnExactFamilyLine_j5 : ((Rows.fnExactFamilyLineRow.stops == [])) = true := by kernel_rfl
theorem fnExactFamilyLine_j6 : ((Tryz.prog.stops == [])) = true := by kernel_rfl
theorem fnExactFamilyLine_j7 : ((Rows.fnExactFamilyLineRow.knobs == [])) = true := by kernel_rfl
theorem fnExactFamilyLine_j8 : ((Tryz.prog.stopKnobs == [])) = true := by kernel_rfl
theorem fnExactFamilyLine_j9 : ((Rows.fnExactFamilyLineRow.inPlace == Tryz.prog.inPlace 3)) = true := by kernel_rfl
theorem fnExactFamilyLine_j10 : ((Rows.fnExactFamilyLineRow.unfollowed == Tryz.prog.unfollowed 3)) = true := by kernel_rfl
theorem fnExactFamilyLine_j11 : ((Rows.fnExactFamilyLineRow.recurses == Tryz.prog.recurses 3)) = true := by kernel_rfl
theorem fnExactFamilyLine_j12 : ((Rows.fnExactFamilyLineRow.named == Tryz.prog.varsNamed 3)) = true := by kernel_rfl
theorem fnExactFamilyLine_j13 : ((Rows.fnExactFamilyLineRow.maps == (Tryz.f3.params.toList ++ Rows.fnExactFamilyLineSpec.plain.varTypes Tryz.prog).any (Tryz.prog.mapsRec ·))) = true := by kernel_rfl
theorem fnExactFamilyLine_j14 : ((Rows.fnExactFamilyLineRow.ifaces == (Tryz.f3.params.toList ++ Rows.fnExactFamilyLineSpec.plain.varTypes Tryz.prog).any (Tryz.prog.ifacesRec ·))) = true := by kernel_rfl
theorem fnExactFamilyLine_j15 : ((Rows.fnExactFamilyLineRow.mapsOut == Tryz.prog.mapsAmong Tryz.f3.resultTypes.toList)) = true := by kernel_rfl
theorem fnExactFamilyLine_j16 : ((Rows.fnExactFamilyLineRow.loops == (Tryz.f3.params.toList ++ Rows.fnExactFamilyLineSpec.plain.varTypes Tryz.prog).any (Tryz.prog.loopsFrom ·))) = true := by kernel_rfl
theorem fnExactFamilyLine_j17 : ((Rows.fnExactFamilyLineRow.wideKeys == (Tryz.f3.params.toList ++ Rows.fnExactFamilyLineSpec.plain.varTypes Tryz.prog ++ Tryz.f3.resultTypes.toList).any (Tryz.prog.wideKeysFrom ·))) = true := by kernel_rfl
theorem fnExactFamilyLine_j18 : (Rows.fnExactFamilyLineSpec.vars.all (Tryz.prog.varReadable ·)) = true := by kernel_rfl
theorem fnExactFamilyLine_j19 : (Tryz.f3.resultTypes.all (fun t => Tryz.prog.readableRec t && decide (t < Tryz.prog.types.size))) = true := by kernel_rfl
theorem fnExactFamilyLine_j20 : ((Rows.fnExactFamilyLineRow.ifacesOut == Tryz.f3.resultTypes.toList.any (Tryz.prog.ifacesRec ·))) = true := by kernel_rfl
theorem fnExactFamilyLine_j21 : ((Rows.fnExactFamilyLineRow.loopsOut == Tryz.f3.resultTypes.toList.any (Tryz.prog.loopsFrom ·))) = true := by kernel_rfl
theorem fnExactFamilyLine_j22 : ((Rows.fnExactFamilyLineRow.plainKeys == Tryz.prog.plainKeys)) = true := by kernel_rfl
theorem fnExactFamilyLine_j23 : (Rows.fnExactFamilyLineRow.shortTexts.isNone) = true := by kernel_rfl
theorem fnExactFamilyLine_j24 : (Tryz.prog.stopsHeard) = true := by kernel_rfl
theorem fnExactFamilyLine_j25 : (Tryz.prog.mayEnter) = true := by kernel_rfl
theorem fnExactFamilyLine_j26 : ((Rows.fnExactFamilyLineRow.lifted == Tryz.prog.liftsFinal)) = true := by kernel_rfl
theorem fnExactFamilyLine_j27 : ((Tryz.prog.make == some Rows.fnExactFamilyLineRow.make)) = true := by kernel_rfl
theorem fnExactFamilyLine_j28 : ((Rows.fnExactFamilyLineRow.kinds == (if Rows.fnExactFamilyLineRow.domain.isEmpty then [] else Tryz.f3.params.toList.map fun t => match Tryz.prog.underlying t with | some (.int k) => some k | _ => none))) = true := by kernel_rfl
theorem fnExactFamilyLine_j29 : ((Rows.fnExactFamilyLineRow.pinned == Rows.fnExactFamilyLineRow.pinnedBy)) = true := by kernel_rfl
theorem fnExactFamilyLine_j30 : ((Rows.fnExactFamilyLineRow.veiled == (Tryz.f3.params.toList ++ Rows.fnExactFamilyLineSpec.plain.varTypes Tryz.prog ++ Tryz.f3.resultTypes.toList).any (Tryz.prog.veiledRec ·))) = true := by kernel_rfl
theorem fnExactFamilyLine_j31 : (Rows.fnExactFamilyLineRow.veiledFits Tryz.prog Tryz.f3.params.toList (Tryz.f3.params.toList ++ Rows.fnExactFamilyLineSpec.plain.varTypes Tryz.prog ++ Tryz.f3.resultTypes.toList)) = true := by kernel_rfl
set_option maxRecDepth 100000 in
theorem fnExactFamilyLine_closed : joinedFacts Tryz.prog 3 Tryz.f3 Rows.fnExactFamilyLineSpec Rows.fnExactFamilyLineRow = true := by
  unfold joinedFacts
  exact fnExactFamilyLine_and (fnExactFamilyLine_and (fnExactFamilyLine_and (fnExactFamilyLine_and (fnExactFamilyLine_and (fnExactFamilyLine_and (fnExactFamilyLine_and (fnExactFamilyLine_and (fnExactFamilyLine_and (fnExactFamilyLine_and (fnExactFamilyLine_and (fnExactFamilyLine_and (fnExactFamilyLine_and (fnExactFamilyLine_and (fnExactFamilyLine_and (fnExactFamilyLine_and (fnExactFamilyLine_and (fnExactFamilyLine_and (fnExactFamilyLine_and (fnExactFamilyLine_and (fnExactFamilyLine_and (fnExactFamilyLine_and (fnExactFamilyLine_and (fnExactFamilyLine_and (fnExactFamilyLine_and (fnExactFamilyLine_and (fnExactFamilyLine_and (fnExactFamilyLine_and (fnExactFamilyLine_and (fnExactFamilyLine_and (fnExactFamilyLine_and (fnExactFamilyLine_j0) fnExactFamilyLine_j1) fnExactFamilyLine_j2) fnExactFamilyLine_j3) fnExactFamilyLine_j4) fnExactFamilyLine_j5) fnExactFamilyLine_j6) fnExactFamilyLine_j7) fnExactFamilyLine_j8) fnExactFamilyLine_j9) fnExactFamilyLine_j10) fnExactFamilyLine_j11) fnExactFamilyLine_j12) fnExactFamilyLine_j13) fnExactFamilyLine_j14) fnExactFamilyLine_j15) fnExactFamilyLine_j16) fnExactFamilyLine_j17) fnExactFamilyLine_j18) fnExactFamilyLine_j19) fnExactFamilyLine_j20) fnExactFamilyLine_j21) fnExactFamilyLine_j22) fnExactFamilyLine_j23) fnExactFamilyLine_j24) fnExactFamilyLine_j25) fnExactFamilyLine_j26) fnExactFamilyLine_j27) fnExactFamilyLine_j28) fnExactFamilyLine_j29) fnExactFamilyLine_j30) fnExactFamilyLine_j31
theorem fnExactFamilyLine_named : Tryz.prog.funcNamed Rows.fnExactFamilyLineRow.func = some 3 := by kernel_rfl
theorem fnExactFamilyLine_inst : Tryz.f3.isInstance Tryz.prog Rows.fnExactFamilyLineRow.origin Rows.fnExactFamilyLineRow.targs := of_decide_eq_true (by kernel_rfl)
theorem fnExactFamilyLine_wrap : Tryz.f3.isWrapper Tryz.prog Rows.fnExactFamilyLineRow.wrapper Rows.fnExactFamilyLineRow.mainSum := by unfold Func.isWrapper; first | (rw [if_pos (by decide +kernel)]; kernel_rfl) | (rw [if_neg (by decide +kernel)]; exact ⟨rfl, rfl⟩)
theorem fnExactFamilyLine_holds : Rows.FnExactFamilyLineSaid :=
  OpenClaim.holds_of_wide 3 Tryz.f3 rfl rfl rfl rfl rfl rfl rfl ⟨rfl, rfl, rfl, rfl, rfl⟩ rfl rfl rfl rfl rfl fnExactFamilyLine_named Tryz.func3 fnExactFamilyLine_closed fnExactFamilyLine_inst fnExactFamilyLine_wrap
    (fun os started H enc _ => fnExactFamilyLine_lifted os started H enc)
theorem fnExactFamilyLine_w : Rows.fnExactFamilyLineRow.wfByText (OpenSpec.ofChange Rows.fnExactFamilyLineSpec) = true := by kernel_rfl
theorem fnExactFamilyLine_main : Tryz.prog.mainIs = some (Rows.fnExactFamilyLineCard.stood.harness.1, Rows.fnExactFamilyLineCard.stood.harness.2.toList) := by kernel_rfl
theorem fnExactFamilyLine_looks : false = Tryz.prog.looks [] := by kernel_rfl
theorem fnExactFamilyLine_stand : ([24].all fun u => !Tryz.prog.wantsStandIn u) = true := by kernel_rfl
theorem fnExactFamilyLine_goes : false = Rows.fnExactFamilyLineRow.goesBy Tryz.prog := by kernel_rfl
theorem fnExactFamilyLine_card : Rows.FnExactFamilyLineCardSaid :=
  Claim7.holds_tied_plain_at .later [] [.data, .data, .data] true _ false
    fnExactFamilyLine_holds (fun _ h => by cases h) fnExactFamilyLine_w (fun _ h => by cases h) fnExactFamilyLine_row_tie rfl ⟨rfl, rfl⟩ fnExactFamilyLine_main rfl
    (fun f fn hf hfn => by
      obtain rfl : f = 3 := Option.some.inj (fnExactFamilyLine_named.symm.trans hf) |>.symm
      obtain rfl : fn = Tryz.f3 := (Option.some.inj (Tryz.func3.symm.trans hfn)).symm
      exact ⟨fnExactFamilyLine_looks, fun j t ht => by
        rw [fnExactFamilyLine_params] at ht
        have hm : t ∈ [24] := by simpa using Array.mem_of_getElem? ht
        exact (show Tryz.prog.wantsStandIn t = false by simpa using List.all_eq_true.1 fnExactFamilyLine_stand t hm)⟩)
    fnExactFamilyLine_goes
end Go.Proofs.YtipejodijbjpcaaGreatDoor
end
