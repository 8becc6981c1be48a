/- Lemmas for CardRunConsole. No condition. -/
import Derived.Test.YtkdbkjjacgigiaaGreatDoorR32
import Derived.Test.YtkdbkjjacgigiaaGreatDoorCards
import Derived.Test.YtkdbkjjacgigiaaGreatDoorTie
set_option maxRecDepth 100000
set_option maxHeartbeats 64000000
namespace Go.Proofs.YtkdbkjjacgigiaaGreatDoor
section
open Go.Proofs.Tryz
open Go.ChangeShapes Go.WideShapes Go.ChangeAt Go.RowKit Go.G5
theorem FV:((Rows.fnExactRunConsoleRow.maps==(Tryz.f4.params.toList++Rows.fnExactRunConsoleSpec.plain.varTypes prog).any (prog.mapsRec ·)))=true:=bM
theorem FW:((Rows.fnExactRunConsoleRow.ifaces==(Tryz.f4.params.toList++Rows.fnExactRunConsoleSpec.plain.varTypes prog).any (prog.ifacesRec ·)))=true:=bM
theorem FX:((Rows.fnExactRunConsoleRow.mapsOut==prog.mapsAmong Tryz.f4.resultTypes.toList))=true:=bM
theorem FY:((Rows.fnExactRunConsoleRow.loops==(Tryz.f4.params.toList++Rows.fnExactRunConsoleSpec.plain.varTypes prog).any (prog.loopsFrom ·)))=true:=bM
theorem FZ:((Rows.fnExactRunConsoleRow.wideKeys==(Tryz.f4.params.toList++Rows.fnExactRunConsoleSpec.plain.varTypes prog++Tryz.f4.resultTypes.toList).any (prog.wideKeysFrom ·)))=true:=bM
theorem F9:(Rows.fnExactRunConsoleSpec.vars.all (prog.varReadable ·))=true:=bM
theorem GA:(Tryz.f4.resultTypes.all (fun t=>prog.readableRec t&&decide (t<prog.types.size)))=true:=bM
theorem GD:((Rows.fnExactRunConsoleRow.ifacesOut==Tryz.f4.resultTypes.toList.any (prog.ifacesRec ·)))=true:=bM
theorem GH:((Rows.fnExactRunConsoleRow.loopsOut==Tryz.f4.resultTypes.toList.any (prog.loopsFrom ·)))=true:=bM
theorem GI:((Rows.fnExactRunConsoleRow.plainKeys==prog.plainKeys))=true:=bM
theorem GJ:(Rows.fnExactRunConsoleRow.shortTexts.isNone)=true:=bM
theorem GK:(prog.stopsHeard)=true:=bM
theorem GL:(prog.mayEnter)=true:=bM
theorem GM:((Rows.fnExactRunConsoleRow.lifted==prog.liftsFinal))=true:=bM
theorem GN:((prog.make==some Rows.fnExactRunConsoleRow.make))=true:=bM
theorem GO:((Rows.fnExactRunConsoleRow.kinds==(if Rows.fnExactRunConsoleRow.domain.isEmpty then [] else Tryz.f4.params.toList.map fun t=>match prog.underlying t with|some (.int k)=>some k|_=>none)))=true:=bM
theorem GP:((Rows.fnExactRunConsoleRow.pinned==Rows.fnExactRunConsoleRow.pinnedBy))=true:=bM
theorem GQ:((Rows.fnExactRunConsoleRow.veiled==(Tryz.f4.params.toList++Rows.fnExactRunConsoleSpec.plain.varTypes prog++Tryz.f4.resultTypes.toList).any (prog.veiledRec ·)))=true:=bM
theorem GR:(Rows.fnExactRunConsoleRow.veiledFits prog Tryz.f4.params.toList (Tryz.f4.params.toList++Rows.fnExactRunConsoleSpec.plain.varTypes prog++Tryz.f4.resultTypes.toList))=true:=bM
theorem wI:prog.funcNamed Rows.fnExactRunConsoleRow.func=some 4:=bM
theorem EZ:Tryz.f4.isInstance prog Rows.fnExactRunConsoleRow.origin Rows.fnExactRunConsoleRow.targs:=eD bM
theorem E1:Tryz.f4.isWrapper prog Rows.fnExactRunConsoleRow.wrapper Rows.fnExactRunConsoleRow.mainSum:=by unfold Func.isWrapper;first|(rw[if_pos dS];kernel_rfl)|(rw[if_neg dS];exact⟨rfl,rfl⟩)
theorem KG:Rows.fnExactRunConsoleRow.wfByText (OpenSpec.ofChange Rows.fnExactRunConsoleSpec)=true:=bM
theorem E0:prog.mainIs=some (Rows.fnExactRunConsoleCard.stood.harness.1,Rows.fnExactRunConsoleCard.stood.harness.2.toList):=bM
theorem DW:false=prog.looks []:=bM
theorem DX:([9].all fun u=>!prog.wantsStandIn u)=true:=bM
