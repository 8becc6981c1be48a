/- Lemmas for CardRunConsole. No condition. -/
import Derived.Test.YtkdbkjjacgigiaaGreatDoorR32
import Derived.Lay
import Derived.Test.YtkdbkjjacgigiaaGreatDoorCards
import Derived.Test.YtkdbkjjacgigiaaGreatDoorTie
set_option maxRecDepth 100000
set_option maxHeartbeats 64000000
namespace Go.Proofs.YtkdbkjjacgigiaaGreatDoor
section
open Go.Proofs.Tryz
open Go.ChangeShapes Go.WideShapes Go.ChangeAt Go.RowKit Go.G5
theorem qN:Tryz.f4.params=#[9]:=bM
theorem EX(os:Os)(args:Array Value):laidMetH prog Rows.fnExactRunConsoleRow.laid ((World.laidAll prog os Rows.fnExactRunConsoleRow.laid).forCall (fun _ _=>0) ⟨#[],args,[]⟩).memory:=by
 rw[MakeChecks.laidMetH_plain _ _ _ bM];exact laidMet_laidAll _ bM bM
theorem GS{W:World}(h:laidMetH prog Rows.fnExactRunConsoleRow.laid W):lA W:=by
 rw[MakeChecks.laidMetH_plain _ _ _ bM]at h;exact WY h
theorem DB(os:Os)(started:os.Started)(H:Type)(enc:TypeId×Value->H):
  ReturnsInHanded {} Tryz.checked os 4 .any (fun w args=>(Rows.fnExactRunConsoleSpec.pre enc prog Tryz.f4 Rows.fnExactRunConsoleRow.domain false w args/\laidMetH prog Rows.fnExactRunConsoleRow.laid w)/\sizedMet enc prog Tryz.f4 (OpenSpec.ofChange Rows.fnExactRunConsoleSpec) false w args) (Rows.fnExactRunConsoleSpec.post enc prog Tryz.f4 false true false false):=by
 refine QV Rows.fnExactRunConsoleRow.laid os started H enc func4 bM rfl bM bM ?_
  (ChangeSpec.witness_shaped (enc:=enc) (C:=Tryz.checked) (os:=os) (X:=fun w _=>laidMetH prog Rows.fnExactRunConsoleRow.laid w) false (World.laidAll prog os Rows.fnExactRunConsoleRow.laid) #[aR aN] 8 rfl (World.shaped_of_ZipB bM bM) bM bM bM (EX os _)) ?_
 .intro J D;rw[qN]at D
  match J,D with
  |[M],_=>rfl
 .intro W base args J p z K R I;rw[qN]at K z;obtain⟨v0,Z,M,N,p0,q0,F,rfl,rfl,O,S⟩:=trodAll_cons K;obtain⟨rfl,rfl,rfl⟩:=trodAll_nil S;obtain rfl:args=#[v0]:=by cases args;simp_all
  obtain⟨Y,rfl,_⟩:=Go.ChangeMaps.open_string underlying9 (z 0 9 v0 rfl rfl) O;exact al3 W Y (GS R) (TH I)
