/- Lemmas for CardRunConsole. No condition. -/
import Derived.Test.YtkdbkjjacgigiaaGreatDoorR32
import Derived.Test.YtkdbkjjacgigiaaGreatDoorCards
import Derived.Test.YtkdbkjjacgigiaaGreatDoorTie
set_option maxRecDepth 100000
set_option maxHeartbeats 64000000
namespace Go.Proofs.YtkdbkjjacgigiaaGreatDoor
section
open Go.Proofs.Tryz
open Go.ChangeShapes Go.WideShapes Go.ChangeAt Go.RowKit Go.G5
theorem IM:(Rows.fnExactRunConsoleRow.wf (OpenSpec.ofChange Rows.fnExactRunConsoleSpec))=true:=bM
theorem IN:(laidOutB prog)=true:=bM
theorem IP:(mapsRowed prog)=true:=bM
theorem IQ:(Tryz.f4.params.all (prog.readableRec ·))=true:=bM
theorem IR:(namedTie prog Rows.fnExactRunConsoleRow.named Rows.fnExactRunConsoleSpec.vars)=true:=bM
theorem IS:((Rows.fnExactRunConsoleRow.stops==[]))=true:=bM
theorem IT:((prog.stops==[]))=true:=bM
theorem IU:((Rows.fnExactRunConsoleRow.knobs==[]))=true:=bM
theorem IV:((prog.stopKnobs==[]))=true:=bM
theorem IW:((Rows.fnExactRunConsoleRow.inPlace==prog.inPlace 4))=true:=bM
theorem FS:((Rows.fnExactRunConsoleRow.unfollowed==prog.unfollowed 4))=true:=bM
theorem FT:((Rows.fnExactRunConsoleRow.recurses==prog.recurses 4))=true:=bM
theorem FU:((Rows.fnExactRunConsoleRow.named==prog.varsNamed 4))=true:=bM
