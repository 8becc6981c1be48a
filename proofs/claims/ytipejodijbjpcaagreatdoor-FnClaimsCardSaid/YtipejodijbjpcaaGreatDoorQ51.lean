/- Lemmas for CardClaims, part 51 of 52. No condition. -/
import Derived.Test.YtipejodijbjpcaaGreatDoorQ02
import Derived.Test.YtipejodijbjpcaaGreatDoorQ03
import Derived.Test.YtipejodijbjpcaaGreatDoorQ40
import Derived.Test.YtipejodijbjpcaaGreatDoorQ50
import Derived.Test.YtipejodijbjpcaaGreatDoorCards
import Derived.Test.YtipejodijbjpcaaGreatDoorTie
import Derived.SevenTiedAt
set_option maxRecDepth 100000
set_option maxHeartbeats 64000000
namespace Go.Proofs.YtipejodijbjpcaaGreatDoor
section
open Go.ChangeShapes Go.WideShapes Go.ChangeAt Go.RowKit Go.G5
theorem oB:Tryz.f5.params=#[58]:=by kernel_rfl
theorem FD(os:Os)(args:Array Value):laidMetH Tryz.prog Rows.fnClaimsRow.laid ((World.doorLaid Tryz.prog 24 os).forCall (fun _ _=>0) ⟨#[],args,[]⟩).memory:=by
 rw[MakeChecks.laidMetH_plain _ _ _ (by kernel_rfl)];exact laidMet_of_run' 8 (by kernel_rfl) (by kernel_rfl)
theorem JX{W:World}(h:laidMetH Tryz.prog Rows.fnClaimsRow.laid W):sE W:=by
 rw[MakeChecks.laidMetH_plain _ _ _ (by kernel_rfl)]at h;exact I4 h
theorem AP(os:Os)(started:os.Started)(H:Type)(enc:TypeId×Value->H):
  ReturnsInHanded {} Tryz.checked os 5 .any (fun w args=>(Rows.fnClaimsSpec.pre enc Tryz.prog Tryz.f5 Rows.fnClaimsRow.domain false w args/\laidMetH Tryz.prog Rows.fnClaimsRow.laid w)/\sizedMet enc Tryz.prog Tryz.f5 (OpenSpec.ofChange Rows.fnClaimsSpec) false w args) (Rows.fnClaimsSpec.post enc Tryz.prog Tryz.f5 false true false false):=by
 refine ER Rows.fnClaimsRow.laid os started H enc Tryz.func5 (by kernel_rfl) rfl (by kernel_rfl) (by kernel_rfl) ?_
  (ChangeSpec.witness_shaped (enc:=enc) (C:=Tryz.checked) (os:=os) (X:=fun w _=>laidMetH Tryz.prog Rows.fnClaimsRow.laid w) false (World.doorLaid Tryz.prog 24 os) #[.slice none 0 0] 8 rfl (World.shaped_of_RefB (by kernel_rfl) (by kernel_rfl)) (by kernel_rfl) (by kernel_rfl) (by kernel_rfl) (FD os _)) ?_
 ·intro D z
  rw[oB]at z
  match D,z with
  |[I],_=>rfl
 ·intro W base args D p o F M
  rw[oB]at F o;obtain⟨v0,Q,I,K,S,U,A,rfl,rfl,L,O⟩:=trodAll_cons F;obtain⟨rfl,rfl,rfl⟩:=trodAll_nil O;obtain rfl:args=#[v0]:=by cases args;simp_all
  obtain⟨N,R⟩:=SF (o 0 58 v0 rfl rfl) L;exact LS W _ N R (JX M)
end
end Go.Proofs.YtipejodijbjpcaaGreatDoor
