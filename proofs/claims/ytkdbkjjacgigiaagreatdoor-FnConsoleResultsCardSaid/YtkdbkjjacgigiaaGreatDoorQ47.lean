/- Lemmas for CardConsoleResults. No condition. -/
import Derived.Test.YtkdbkjjacgigiaaGreatDoorQ45
import Derived.Test.YtkdbkjjacgigiaaGreatDoorQ46
import Derived.Lay
import Derived.Test.YtkdbkjjacgigiaaGreatDoorCards
import Derived.Test.YtkdbkjjacgigiaaGreatDoorTie
set_option maxRecDepth 100000
set_option maxHeartbeats 64000000
namespace Go.Proofs.YtkdbkjjacgigiaaGreatDoor
section
open Go.Proofs.Tryz
open Go.ChangeShapes Go.WideShapes Go.ChangeAt Go.RowKit Go.G5
theorem mT:Tryz.f3.params=#[22]:=aO
theorem C4(os:Os)(args:Array Value):laidMetH prog Rows.fnConsoleResultsRow.laid ((World.laidAll prog os Rows.fnConsoleResultsRow.laid).forCall (fun _ _=>0) ⟨#[],args,[]⟩).memory:=by
 rw[MakeChecks.laidMetH_plain _ _ _ aO];exact laidMet_laidAll _ aO aO
theorem EK{W:World}(h:laidMetH prog Rows.fnConsoleResultsRow.laid W):iY W:=by
 rw[MakeChecks.laidMetH_plain _ _ _ aO]at h;exact TY h
theorem BA(os:Os)(started:os.Started)(H:Type)(enc:TypeId×Value->H):
  ReturnsInHanded {} Tryz.checked os 3 .any (fun w args=>(Rows.fnConsoleResultsSpec.pre enc prog Tryz.f3 Rows.fnConsoleResultsRow.domain false w args/\laidMetH prog Rows.fnConsoleResultsRow.laid w)/\sizedMet enc prog Tryz.f3 (OpenSpec.ofChange Rows.fnConsoleResultsSpec) false w args) (Rows.fnConsoleResultsSpec.post enc prog Tryz.f3 false true false false):=by
 refine OD Rows.fnConsoleResultsRow.laid os started H enc func3 aO rfl aO aO ?_
  (ChangeSpec.witness_shaped (enc:=enc) (C:=Tryz.checked) (os:=os) (X:=fun w _=>laidMetH prog Rows.fnConsoleResultsRow.laid w) false (World.laidAll prog os Rows.fnConsoleResultsRow.laid) #[()] 8 rfl (World.shaped_of_ZipB aO aO) aO aO aO (C4 os _)) ?_
 ·intro J D;rw[mT]at D
  match J,D with
  |[M],_=>rfl
 ·intro W base args J p z K R I;rw[mT]at K z;obtain⟨v0,Z,M,N,p0,q0,F,rfl,rfl,O,Y⟩:=trodAll_cons K;obtain⟨rfl,rfl,rfl⟩:=trodAll_nil Y;obtain rfl:args=#[v0]:=by cases args;simp_all
  obtain⟨S,w0⟩:=amC (z 0 22 v0 rfl rfl) O;exact YF W _ S w0 (EK R) (QB I)
end
end Go.Proofs.YtkdbkjjacgigiaaGreatDoor
