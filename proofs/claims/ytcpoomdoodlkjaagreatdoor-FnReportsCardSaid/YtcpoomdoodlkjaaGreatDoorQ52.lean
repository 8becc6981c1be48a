/- Lemmas for CardReports. No condition. -/
import Derived.Test.YtcpoomdoodlkjaaGreatDoorQ29
import Derived.Test.YtcpoomdoodlkjaaGreatDoorCards
import Derived.Test.YtcpoomdoodlkjaaGreatDoorTie
set_option maxRecDepth 100000
set_option maxHeartbeats 64000000
namespace Go.Proofs.YtcpoomdoodlkjaaGreatDoor
section
open Go.Proofs.Tryz
open Go.ChangeShapes Go.WideShapes Go.ChangeAt Go.RowKit Go.G5
theorem cP{a b:Bool}(z:a=true)(hb:b=true):(a&&b)=true:=by rw[z,hb];rfl
theorem RU:(Rows.fnReportsRow.wf (OpenSpec.ofChange Rows.fnReportsSpec))=true:=aT
theorem RV:(laidOutB prog)=true:=aT
theorem RW:(mapsRowed prog)=true:=aT
theorem RX:(Tryz.f3.params.all (prog.readableRec ·))=true:=aT
theorem RY:(namedTie prog Rows.fnReportsRow.named Rows.fnReportsSpec.vars)=true:=aT
theorem RZ:((Rows.fnReportsRow.stops==[]))=true:=aT
theorem R8:((prog.stops==[]))=true:=aT
theorem R9:((Rows.fnReportsRow.knobs==[]))=true:=aT
theorem SA:((prog.stopKnobs==[]))=true:=aT
theorem SB:((Rows.fnReportsRow.inPlace==prog.inPlace 3))=true:=aT
theorem PI:((Rows.fnReportsRow.unfollowed==prog.unfollowed 3))=true:=aT
theorem PJ:((Rows.fnReportsRow.recurses==prog.recurses 3))=true:=aT
theorem PK:((Rows.fnReportsRow.named==prog.varsNamed 3))=true:=aT
theorem PL:((Rows.fnReportsRow.maps==(Tryz.f3.params.toList++Rows.fnReportsSpec.plain.varTypes prog).any (prog.mapsRec ·)))=true:=aT
theorem PM:((Rows.fnReportsRow.ifaces==(Tryz.f3.params.toList++Rows.fnReportsSpec.plain.varTypes prog).any (prog.ifacesRec ·)))=true:=aT
theorem PN:((Rows.fnReportsRow.mapsOut==prog.mapsAmong Tryz.f3.resultTypes.toList))=true:=aT
theorem PO:((Rows.fnReportsRow.loops==(Tryz.f3.params.toList++Rows.fnReportsSpec.plain.varTypes prog).any (prog.loopsFrom ·)))=true:=aT
theorem PP:((Rows.fnReportsRow.wideKeys==(Tryz.f3.params.toList++Rows.fnReportsSpec.plain.varTypes prog++Tryz.f3.resultTypes.toList).any (prog.wideKeysFrom ·)))=true:=aT
theorem PQ:(Rows.fnReportsSpec.vars.all (prog.varReadable ·))=true:=aT
theorem PR:(Tryz.f3.resultTypes.all (fun t=>prog.readableRec t&&decide (t<prog.types.size)))=true:=aT
theorem PS:((Rows.fnReportsRow.ifacesOut==Tryz.f3.resultTypes.toList.any (prog.ifacesRec ·)))=true:=aT
theorem PT:((Rows.fnReportsRow.loopsOut==Tryz.f3.resultTypes.toList.any (prog.loopsFrom ·)))=true:=aT
theorem PU:((Rows.fnReportsRow.plainKeys==prog.plainKeys))=true:=aT
theorem PV:(Rows.fnReportsRow.shortTexts.isNone)=true:=aT
theorem PW:(prog.stopsHeard)=true:=aT
theorem PX:(prog.mayEnter)=true:=aT
theorem PY:((Rows.fnReportsRow.lifted==prog.liftsFinal))=true:=aT
theorem PZ:((prog.make==some Rows.fnReportsRow.make))=true:=aT
theorem P0:((Rows.fnReportsRow.kinds==(if Rows.fnReportsRow.domain.isEmpty then [] else Tryz.f3.params.toList.map fun t=>match prog.underlying t with|some (.int k)=>some k|_=>none)))=true:=aT
theorem P1:((Rows.fnReportsRow.pinned==Rows.fnReportsRow.pinnedBy))=true:=aT
theorem P2:((Rows.fnReportsRow.veiled==(Tryz.f3.params.toList++Rows.fnReportsSpec.plain.varTypes prog++Tryz.f3.resultTypes.toList).any (prog.veiledRec ·)))=true:=aT
theorem P3:(Rows.fnReportsRow.veiledFits prog Tryz.f3.params.toList (Tryz.f3.params.toList++Rows.fnReportsSpec.plain.varTypes prog++Tryz.f3.resultTypes.toList))=true:=aT
theorem GM:joinedFacts prog 3 Tryz.f3 Rows.fnReportsSpec Rows.fnReportsRow=true:=by
 unfold joinedFacts;exact cP (cP (cP (cP (cP (cP (cP (cP (cP (cP (cP (cP (cP (cP (cP (cP (cP (cP (cP (cP (cP (cP (cP (cP (cP (cP (cP (cP (cP (cP (cP (RU) RV) RW) RX) RY) RZ) R8) R9) SA) SB) PI) PJ) PK) PL) PM) PN) PO) PP) PQ) PR) PS) PT) PU) PV) PW) PX) PY) PZ) P0) P1) P2) P3
theorem yQ:prog.funcNamed Rows.fnReportsRow.func=some 3:=aT
theorem MN:Tryz.f3.isInstance prog Rows.fnReportsRow.origin Rows.fnReportsRow.targs:=of_decide_eq_true aT
theorem MP:Tryz.f3.isWrapper prog Rows.fnReportsRow.wrapper Rows.fnReportsRow.mainSum:=by unfold Func.isWrapper;first|(rw[if_pos (by decide +kernel)];kernel_rfl)|(rw[if_neg (by decide +kernel)];exact⟨rfl,rfl⟩)
theorem U7:Rows.fnReportsRow.wfByText (OpenSpec.ofChange Rows.fnReportsSpec)=true:=aT
theorem MO:prog.mainIs=some (Rows.fnReportsCard.stood.harness.1,Rows.fnReportsCard.stood.harness.2.toList):=aT
theorem JD:false=prog.looks []:=aT
theorem JE:([22].all fun u=>!prog.wantsStandIn u)=true:=aT
theorem MM:false=Rows.fnReportsRow.goesBy prog:=aT
end
end Go.Proofs.YtcpoomdoodlkjaaGreatDoor
