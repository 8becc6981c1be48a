/- Lemmas for CardConsoleResults. No condition. -/
import Derived.Test.YtkdbkjjacgigiaaGreatDoorQ46
import Derived.Test.YtkdbkjjacgigiaaGreatDoorCards
import Derived.Test.YtkdbkjjacgigiaaGreatDoorTie
set_option maxRecDepth 100000
set_option maxHeartbeats 64000000
namespace Go.Proofs.YtkdbkjjacgigiaaGreatDoor
section
open Go.Proofs.Tryz
open Go.ChangeShapes Go.WideShapes Go.ChangeAt Go.RowKit Go.G5
theorem D0:((Rows.fnConsoleResultsRow.maps==(Tryz.f3.params.toList++Rows.fnConsoleResultsSpec.plain.varTypes prog).any (prog.mapsRec ·)))=true:=aO
theorem D1:((Rows.fnConsoleResultsRow.ifaces==(Tryz.f3.params.toList++Rows.fnConsoleResultsSpec.plain.varTypes prog).any (prog.ifacesRec ·)))=true:=aO
theorem D2:((Rows.fnConsoleResultsRow.mapsOut==prog.mapsAmong Tryz.f3.resultTypes.toList))=true:=aO
theorem D3:((Rows.fnConsoleResultsRow.loops==(Tryz.f3.params.toList++Rows.fnConsoleResultsSpec.plain.varTypes prog).any (prog.loopsFrom ·)))=true:=aO
theorem D4:((Rows.fnConsoleResultsRow.wideKeys==(Tryz.f3.params.toList++Rows.fnConsoleResultsSpec.plain.varTypes prog++Tryz.f3.resultTypes.toList).any (prog.wideKeysFrom ·)))=true:=aO
theorem D5:(Rows.fnConsoleResultsSpec.vars.all (prog.varReadable ·))=true:=aO
theorem D6:(Tryz.f3.resultTypes.all (fun t=>prog.readableRec t&&decide (t<prog.types.size)))=true:=aO
theorem D7:((Rows.fnConsoleResultsRow.ifacesOut==Tryz.f3.resultTypes.toList.any (prog.ifacesRec ·)))=true:=aO
theorem D8:((Rows.fnConsoleResultsRow.loopsOut==Tryz.f3.resultTypes.toList.any (prog.loopsFrom ·)))=true:=aO
theorem D9:((Rows.fnConsoleResultsRow.plainKeys==prog.plainKeys))=true:=aO
theorem EA:(Rows.fnConsoleResultsRow.shortTexts.isNone)=true:=aO
theorem EB:(prog.stopsHeard)=true:=aO
theorem EC:(prog.mayEnter)=true:=aO
theorem ED:((Rows.fnConsoleResultsRow.lifted==prog.liftsFinal))=true:=aO
theorem EE:((prog.make==some Rows.fnConsoleResultsRow.make))=true:=aO
theorem EF:((Rows.fnConsoleResultsRow.kinds==(if Rows.fnConsoleResultsRow.domain.isEmpty then [] else Tryz.f3.params.toList.map fun t=>match prog.underlying t with|some (.int k)=>some k|_=>none)))=true:=aO
theorem EG:((Rows.fnConsoleResultsRow.pinned==Rows.fnConsoleResultsRow.pinnedBy))=true:=aO
theorem EH:((Rows.fnConsoleResultsRow.veiled==(Tryz.f3.params.toList++Rows.fnConsoleResultsSpec.plain.varTypes prog++Tryz.f3.resultTypes.toList).any (prog.veiledRec ·)))=true:=aO
theorem EJ:(Rows.fnConsoleResultsRow.veiledFits prog Tryz.f3.params.toList (Tryz.f3.params.toList++Rows.fnConsoleResultsSpec.plain.varTypes prog++Tryz.f3.resultTypes.toList))=true:=aO
theorem uD:prog.funcNamed Rows.fnConsoleResultsRow.func=some 3:=aO
theorem C8:Tryz.f3.isInstance prog Rows.fnConsoleResultsRow.origin Rows.fnConsoleResultsRow.targs:=of_decide_eq_true aO
theorem DA:Tryz.f3.isWrapper prog Rows.fnConsoleResultsRow.wrapper Rows.fnConsoleResultsRow.mainSum:=by unfold Func.isWrapper;first|(rw[if_pos (by decide +kernel)];kernel_rfl)|(rw[if_neg (by decide +kernel)];exact⟨rfl,rfl⟩)
theorem H7:Rows.fnConsoleResultsRow.wfByText (OpenSpec.ofChange Rows.fnConsoleResultsSpec)=true:=aO
theorem C9:prog.mainIs=some (Rows.fnConsoleResultsCard.stood.harness.1,Rows.fnConsoleResultsCard.stood.harness.2.toList):=aO
theorem CQ:false=prog.looks []:=aO
theorem CR:([22].all fun u=>!prog.wantsStandIn u)=true:=aO
end
end Go.Proofs.YtkdbkjjacgigiaaGreatDoor
