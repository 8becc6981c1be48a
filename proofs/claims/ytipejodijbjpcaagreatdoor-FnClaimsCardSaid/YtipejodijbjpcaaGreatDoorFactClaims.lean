/- Closed facts for the card of FnClaims. No condition. -/
import Derived.Test.YtipejodijbjpcaaGreatDoorQ40
import Derived.Test.YtipejodijbjpcaaGreatDoorChecked
import Derived.Test.YtipejodijbjpcaaGreatDoorCards
import Derived.Test.YtipejodijbjpcaaGreatDoorTie
import Derived.SevenTiedAt
namespace Go.Proofs.YtipejodijbjpcaaGreatDoor
open Go.ChangeShapes Go.WideShapes Go.ChangeAt Go.RowKit Go.G5
theorem fnClaims_and {a b : Bool} (ha : a = true) (hb : b = true) : (a && b) = true := by rw [ha, hb]; rfl
theorem fnClaims_j0 : (Rows.fnClaimsRow.wf (OpenSpec.ofChange Rows.fnClaimsSpec)) = true := by kernel_rfl
theorem fnClaims_j1 : (laidOutB Tryz.prog) = true := by kernel_rfl
theorem fnClaims_j2 : (mapsRowed Tryz.prog) = true := by kernel_rfl
theorem fnClaims_j3 : (Tryz.f5.params.all (Tryz.prog.readableRec ·)) = true := by kernel_rfl
theorem fnClaims_j4 : (namedTie Tryz.prog Rows.fnClaimsRow.named Rows.fnClaimsSpec.vars) = true := by kernel_rfl
theorem fnClaims_j5 : ((Rows.fnClaimsRow.stops == [])) = true := by kernel_rfl
theorem fnClaims_j6 : ((Tryz.prog.stops == [])) = true := by kernel_rfl
theorem fnClaims_j7 : ((Rows.fnClaimsRow.knobs == [])) = true := by kernel_rfl
theorem fnClaims_j8 : ((Tryz.prog.stopKnobs == [])) = true := by kernel_rfl
theorem fnClaims_j9 : ((Rows.fnClaimsRow.inPlace == Tryz.prog.inPlace 5)) = true := by kernel_rfl
theorem fnClaims_j10 : ((Rows.fnClaimsRow.unfollowed == Tryz.prog.unfollowed 5)) = true := by kernel_rfl
theorem fnClaims_j11 : ((Rows.fnClaimsRow.recurses == Tryz.prog.recurses 5)) = true := by kernel_rfl
theorem fnClaims_j12 : ((Rows.fnClaimsRow.named == Tryz.prog.varsNamed 5)) = true := by kernel_rfl
theorem fnClaims_j13 : ((Rows.fnClaimsRow.maps == (Tryz.f5.params.toList ++ Rows.fnClaimsSpec.plain.varTypes Tryz.prog).any (Tryz.prog.mapsRec ·))) = true := by kernel_rfl
theorem fnClaims_j14 : ((Rows.fnClaimsRow.ifaces == (Tryz.f5.params.toList ++ Rows.fnClaimsSpec.plain.varTypes Tryz.prog).any (Tryz.prog.ifacesRec ·))) = true := by kernel_rfl
theorem fnClaims_j15 : ((Rows.fnClaimsRow.mapsOut == Tryz.prog.mapsAmong Tryz.f5.resultTypes.toList)) = true := by kernel_rfl
theorem fnClaims_j16 : ((Rows.fnClaimsRow.loops == (Tryz.f5.params.toList ++ Rows.fnClaimsSpec.plain.varTypes Tryz.prog).any (Tryz.prog.loopsFrom ·))) = true := by kernel_rfl
theorem fnClaims_j17 : ((Rows.fnClaimsRow.wideKeys == (Tryz.f5.params.toList ++ Rows.fnClaimsSpec.plain.varTypes Tryz.prog ++ Tryz.f5.resultTypes.toList).any (Tryz.prog.wideKeysFrom ·))) = true := by kernel_rfl
theorem fnClaims_j18 : (Rows.fnClaimsSpec.vars.all (Tryz.prog.varReadable ·)) = true := by kernel_rfl
theorem fnClaims_j19 : (Tryz.f5.resultTypes.all (fun t => Tryz.prog.readableRec t && decide (t < Tryz.prog.types.size))) = true := by kernel_rfl
theorem fnClaims_j20 : ((Rows.fnClaimsRow.ifacesOut == Tryz.f5.resultTypes.toList.any (Tryz.prog.ifacesRec ·))) = true := by kernel_rfl
theorem fnClaims_j21 : ((Rows.fnClaimsRow.loopsOut == Tryz.f5.resultTypes.toList.any (Tryz.prog.loopsFrom ·))) = true := by kernel_rfl
theorem fnClaims_j22 : ((Rows.fnClaimsRow.plainKeys == Tryz.prog.plainKeys)) = true := by kernel_rfl
theorem fnClaims_j23 : (Rows.fnClaimsRow.shortTexts.isNone) = true := by kernel_rfl
theorem fnClaims_j24 : (Tryz.prog.stopsHeard) = true := by kernel_rfl
theorem fnClaims_j25 : (Tryz.prog.mayEnter) = true := by kernel_rfl
theorem fnClaims_j26 : ((Rows.fnClaimsRow.lifted == Tryz.prog.liftsFinal)) = true := by kernel_rfl
theorem fnClaims_j27 : ((Tryz.prog.make == some Rows.fnClaimsRow.make)) = true := by kernel_rfl
theorem fnClaims_j28 : ((Rows.fnClaimsRow.kinds == (if Rows.fnClaimsRow.domain.isEmpty then [] else Tryz.f5.params.toList.map fun t => match Tryz.prog.underlying t with | some (.int k) => some k | _ => none))) = true := by kernel_rfl
theorem fnClaims_j29 : ((Rows.fnClaimsRow.pinned == Rows.fnClaimsRow.pinnedBy)) = true := by kernel_rfl
theorem fnClaims_j30 : ((Rows.fnClaimsRow.veiled == (Tryz.f5.params.toList ++ Rows.fnClaimsSpec.plain.varTypes Tryz.prog ++ Tryz.f5.resultTypes.toList).any (Tryz.prog.veiledRec ·))) = true := by kernel_rfl
theorem fnClaims_j31 : (Rows.fnClaimsRow.veiledFits Tryz.prog Tryz.f5.params.toList (Tryz.f5.params.toList ++ Rows.fnClaimsSpec.plain.varTypes Tryz.prog ++ Tryz.f5.resultTypes.toList)) = true := by kernel_rfl
set_option maxRecDepth 100000 in
theorem fnClaims_closed : joinedFacts Tryz.prog 5 Tryz.f5 Rows.fnClaimsSpec Rows.fnClaimsRow = true := by
  unfold joinedFacts
  exact fnClaims_and (fnClaims_and (fnClaims_and (fnClaims_and (fnClaims_and (fnClaims_and (fnClaims_and (fnClaims_and (fnClaims_and (fnClaims_and (fnClaims_and (fnClaims_and (fnClaims_and (fnClaims_and (fnClaims_and (fnClaims_and (fnClaims_and (fnClaims_and (fnClaims_and (fnClaims_and (fnClaims_and (fnClaims_and (fnClaims_and (fnClaims_and (fnClaims_and (fnClaims_and (fnClaims_and (fnClaims_and (fnClaims_and (fnClaims_and (fnClaims_and (fnClaims_j0) fnClaims_j1) fnClaims_j2) fnClaims_j3) fnClaims_j4) fnClaims_j5) fnClaims_j6) fnClaims_j7) fnClaims_j8) fnClaims_j9) fnClaims_j10) fnClaims_j11) fnClaims_j12) fnClaims_j13) fnClaims_j14) fnClaims_j15) fnClaims_j16) fnClaims_j17) fnClaims_j18) fnClaims_j19) fnClaims_j20) fnClaims_j21) fnClaims_j22) fnClaims_j23) fnClaims_j24) fnClaims_j25) fnClaims_j26) fnClaims_j27) fnClaims_j28) fnClaims_j29) fnClaims_j30) fnClaims_j31
theorem fnClaims_named : Tryz.prog.funcNamed Rows.fnClaimsRow.func = some 5 := by kernel_rfl
theorem fnClaims_inst : Tryz.f5.isInstance Tryz.prog Rows.fnClaimsRow.origin Rows.fnClaimsRow.targs := of_decide_eq_true (by kernel_rfl)
theorem fnClaims_wrap : Tryz.f5.isWrapper Tryz.prog Rows.fnClaimsRow.wrapper Rows.fnClaimsRow.mainSum := by unfold Func.isWrapper; first | (rw [if_pos (by decide +kernel)]; kernel_rfl) | (rw [if_neg (by decide +kernel)]; exact ⟨rfl, rfl⟩)
theorem fnClaims_w : Rows.fnClaimsRow.wfByText (OpenSpec.ofChange Rows.fnClaimsSpec) = true := by kernel_rfl
theorem fnClaims_main : Tryz.prog.mainIs = some (Rows.fnClaimsCard.stood.harness.1, Rows.fnClaimsCard.stood.harness.2.toList) := by kernel_rfl
theorem fnClaims_looks : false = Tryz.prog.looks [] := by kernel_rfl
theorem fnClaims_stand : ([58].all fun u => !Tryz.prog.wantsStandIn u) = true := by kernel_rfl
theorem fnClaims_goes : false = Rows.fnClaimsRow.goesBy Tryz.prog := by kernel_rfl
end Go.Proofs.YtipejodijbjpcaaGreatDoor
