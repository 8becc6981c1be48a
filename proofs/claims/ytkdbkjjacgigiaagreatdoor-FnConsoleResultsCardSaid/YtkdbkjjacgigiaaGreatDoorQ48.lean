/- Lemmas for CardConsoleResults. No condition. -/
import Derived.Test.YtkdbkjjacgigiaaGreatDoorQ46
import Derived.Test.YtkdbkjjacgigiaaGreatDoorCards
import Derived.Test.YtkdbkjjacgigiaaGreatDoorTie
set_option maxRecDepth 100000
set_option maxHeartbeats 64000000
namespace Go.Proofs.YtkdbkjjacgigiaaGreatDoor
section
open Go.Proofs.Tryz
open Go.ChangeShapes Go.WideShapes Go.ChangeAt Go.RowKit Go.G5
theorem GD:(Rows.fnConsoleResultsRow.wf (OpenSpec.ofChange Rows.fnConsoleResultsSpec))=true:=aO
theorem GH:(laidOutB prog)=true:=aO
theorem GI:(mapsRowed prog)=true:=aO
theorem GJ:(Tryz.f3.params.all (prog.readableRec ·))=true:=aO
theorem GK:(namedTie prog Rows.fnConsoleResultsRow.named Rows.fnConsoleResultsSpec.vars)=true:=aO
theorem GL:((Rows.fnConsoleResultsRow.stops==[]))=true:=aO
theorem GM:((prog.stops==[]))=true:=aO
theorem GN:((Rows.fnConsoleResultsRow.knobs==[]))=true:=aO
theorem GO:((prog.stopKnobs==[]))=true:=aO
theorem GP:((Rows.fnConsoleResultsRow.inPlace==prog.inPlace 3))=true:=aO
theorem DX:((Rows.fnConsoleResultsRow.unfollowed==prog.unfollowed 3))=true:=aO
theorem DY:((Rows.fnConsoleResultsRow.recurses==prog.recurses 3))=true:=aO
theorem DZ:((Rows.fnConsoleResultsRow.named==prog.varsNamed 3))=true:=aO
end
end Go.Proofs.YtkdbkjjacgigiaaGreatDoor
