/- Lemmas for CardReports. No condition. -/
import Derived.Test.YtcpoomdoodlkjaaGreatDoorQ50
import Derived.Test.YtcpoomdoodlkjaaGreatDoorCards
import Derived.Test.YtcpoomdoodlkjaaGreatDoorTie
set_option maxRecDepth 100000
set_option maxHeartbeats 64000000
namespace Go.Proofs.YtcpoomdoodlkjaaGreatDoor
section
open Go.Proofs.Tryz
open Go.ChangeShapes Go.WideShapes Go.ChangeAt Go.RowKit Go.G5
theorem tO:Tryz.f3.params=#[22]:=aT
theorem ML(os:Os)(args:Array Value):laidMetH prog Rows.fnReportsRow.laid ((World.doorLaid prog 24 os).forCall (fun _ _=>0) ⟨#[],args,[]⟩).memory:=by
 rw[MakeChecks.laidMetH_plain _ _ _ aT];exact laidMet_of_run' 8 aT aT
theorem P4{W:World}(h:laidMetH prog Rows.fnReportsRow.laid W):sV W:=by
 rw[MakeChecks.laidMetH_plain _ _ _ aT]at h;exact TR h
theorem GN(os:Os)(started:os.Started)(H:Type)(enc:TypeId×Value->H):
  ReturnsInHanded {} Tryz.checked os 3 .any (fun w args=>(Rows.fnReportsSpec.pre enc prog Tryz.f3 Rows.fnReportsRow.domain false w args/\laidMetH prog Rows.fnReportsRow.laid w)/\sizedMet enc prog Tryz.f3 (OpenSpec.ofChange Rows.fnReportsSpec) false w args) (Rows.fnReportsSpec.post enc prog Tryz.f3 false true false false):=by
 refine QB Rows.fnReportsRow.laid os started H enc func3 aT rfl aT aT ?_
  (ChangeSpec.witness_shaped (enc:=enc) (C:=Tryz.checked) (os:=os) (X:=fun w _=>laidMetH prog Rows.fnReportsRow.laid w) false (World.doorLaid prog 24 os) #[()] 8 rfl (World.shaped_of_RefB aT aT) aT aT aT (ML os _)) ?_
 ·intro I D;rw[tO]at D
  match I,D with
  |[K],_=>rfl
 ·intro W base args I p z J O;rw[tO]at J z;obtain⟨v0,Y,K,M,p0,q0,F,rfl,rfl,N,S⟩:=trodAll_cons J;obtain⟨rfl,rfl,rfl⟩:=trodAll_nil S;obtain rfl:args=#[v0]:=by cases args;simp_all
  obtain⟨R,Z⟩:=ae1 (z 0 22 v0 rfl rfl) N;exact TY W _ R Z (P4 O)
end
end Go.Proofs.YtcpoomdoodlkjaaGreatDoor
