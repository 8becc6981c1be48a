/- Lemmas for CardReports. No condition. -/
import Derived.Test.YtcpoomdoodlkjaaGreatDoorQ29
import Derived.Test.YtcpoomdoodlkjaaGreatDoorCards
import Derived.Test.YtcpoomdoodlkjaaGreatDoorTie
set_option maxRecDepth 100000
set_option maxHeartbeats 64000000
namespace Go.Proofs.YtcpoomdoodlkjaaGreatDoor
section
open Go.Proofs.Tryz
open Go.ChangeShapes Go.WideShapes Go.ChangeAt Go.RowKit Go.G5
theorem cM{a b:Bool}(z:a=true)(hb:b=true):(a&&b)=true:=by rw[z,hb];rfl
theorem RQ:(Rows.fnReportsRow.wf (OpenSpec.ofChange Rows.fnReportsSpec))=true:=aQ
theorem RR:(laidOutB prog)=true:=aQ
theorem RS:(mapsRowed prog)=true:=aQ
theorem RT:(Tryz.f3.params.all (prog.readableRec ·))=true:=aQ
theorem RU:(namedTie prog Rows.fnReportsRow.named Rows.fnReportsSpec.vars)=true:=aQ
theorem RV:((Rows.fnReportsRow.stops==[]))=true:=aQ
theorem RW:((prog.stops==[]))=true:=aQ
theorem RX:((Rows.fnReportsRow.knobs==[]))=true:=aQ
theorem RY:((prog.stopKnobs==[]))=true:=aQ
theorem RZ:((Rows.fnReportsRow.inPlace==prog.inPlace 3))=true:=aQ
theorem PE:((Rows.fnReportsRow.unfollowed==prog.unfollowed 3))=true:=aQ
theorem PF:((Rows.fnReportsRow.recurses==prog.recurses 3))=true:=aQ
theorem PG:((Rows.fnReportsRow.named==prog.varsNamed 3))=true:=aQ
theorem PH:((Rows.fnReportsRow.maps==(Tryz.f3.params.toList++Rows.fnReportsSpec.plain.varTypes prog).any (prog.mapsRec ·)))=true:=aQ
theorem PI:((Rows.fnReportsRow.ifaces==(Tryz.f3.params.toList++Rows.fnReportsSpec.plain.varTypes prog).any (prog.ifacesRec ·)))=true:=aQ
theorem PJ:((Rows.fnReportsRow.mapsOut==prog.mapsAmong Tryz.f3.resultTypes.toList))=true:=aQ
theorem PK:((Rows.fnReportsRow.loops==(Tryz.f3.params.toList++Rows.fnReportsSpec.plain.varTypes prog).any (prog.loopsFrom ·)))=true:=aQ
theorem PL:((Rows.fnReportsRow.wideKeys==(Tryz.f3.params.toList++Rows.fnReportsSpec.plain.varTypes prog++Tryz.f3.resultTypes.toList).any (prog.wideKeysFrom ·)))=true:=aQ
theorem PM:(Rows.fnReportsSpec.vars.all (prog.varReadable ·))=true:=aQ
theorem PN:(Tryz.f3.resultTypes.all (fun t=>prog.readableRec t&&decide (t<prog.types.size)))=true:=aQ
theorem PO:((Rows.fnReportsRow.ifacesOut==Tryz.f3.resultTypes.toList.any (prog.ifacesRec ·)))=true:=aQ
theorem PP:((Rows.fnReportsRow.loopsOut==Tryz.f3.resultTypes.toList.any (prog.loopsFrom ·)))=true:=aQ
theorem PQ:((Rows.fnReportsRow.plainKeys==prog.plainKeys))=true:=aQ
theorem PR:(Rows.fnReportsRow.shortTexts.isNone)=true:=aQ
theorem PS:(prog.stopsHeard)=true:=aQ
theorem PT:(prog.mayEnter)=true:=aQ
theorem PU:((Rows.fnReportsRow.lifted==prog.liftsFinal))=true:=aQ
theorem PV:((prog.make==some Rows.fnReportsRow.make))=true:=aQ
theorem PW:((Rows.fnReportsRow.kinds==(if Rows.fnReportsRow.domain.isEmpty then [] else Tryz.f3.params.toList.map fun t=>match prog.underlying t with|some (.int k)=>some k|_=>none)))=true:=aQ
theorem PX:((Rows.fnReportsRow.pinned==Rows.fnReportsRow.pinnedBy))=true:=aQ
theorem PY:((Rows.fnReportsRow.veiled==(Tryz.f3.params.toList++Rows.fnReportsSpec.plain.varTypes prog++Tryz.f3.resultTypes.toList).any (prog.veiledRec ·)))=true:=aQ
theorem PZ:(Rows.fnReportsRow.veiledFits prog Tryz.f3.params.toList (Tryz.f3.params.toList++Rows.fnReportsSpec.plain.varTypes prog++Tryz.f3.resultTypes.toList))=true:=aQ
theorem GJ:joinedFacts prog 3 Tryz.f3 Rows.fnReportsSpec Rows.fnReportsRow=true:=by
 unfold joinedFacts;exact cM (cM (cM (cM (cM (cM (cM (cM (cM (cM (cM (cM (cM (cM (cM (cM (cM (cM (cM (cM (cM (cM (cM (cM (cM (cM (cM (cM (cM (cM (cM (RQ) RR) RS) RT) RU) RV) RW) RX) RY) RZ) PE) PF) PG) PH) PI) PJ) PK) PL) PM) PN) PO) PP) PQ) PR) PS) PT) PU) PV) PW) PX) PY) PZ
theorem yN:prog.funcNamed Rows.fnReportsRow.func=some 3:=aQ
theorem MJ:Tryz.f3.isInstance prog Rows.fnReportsRow.origin Rows.fnReportsRow.targs:=of_decide_eq_true aQ
theorem ML:Tryz.f3.isWrapper prog Rows.fnReportsRow.wrapper Rows.fnReportsRow.mainSum:=by unfold Func.isWrapper;first|(rw[if_pos (by decide +kernel)];kernel_rfl)|(rw[if_neg (by decide +kernel)];exact⟨rfl,rfl⟩)
theorem U3:Rows.fnReportsRow.wfByText (OpenSpec.ofChange Rows.fnReportsSpec)=true:=aQ
theorem MK:prog.mainIs=some (Rows.fnReportsCard.stood.harness.1,Rows.fnReportsCard.stood.harness.2.toList):=aQ
theorem I9:false=prog.looks []:=aQ
theorem JA:([22].all fun u=>!prog.wantsStandIn u)=true:=aQ
theorem MI:false=Rows.fnReportsRow.goesBy prog:=aQ
end
end Go.Proofs.YtcpoomdoodlkjaaGreatDoor
