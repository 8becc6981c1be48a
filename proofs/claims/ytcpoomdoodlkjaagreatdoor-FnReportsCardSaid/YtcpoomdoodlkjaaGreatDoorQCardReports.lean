/- The card of FnReports: for every input the call returns true and each argument reads as it did. No condition. -/
import Derived.Test.YtcpoomdoodlkjaaGreatDoorQ51
import Derived.Test.YtcpoomdoodlkjaaGreatDoorQ52
set_option maxRecDepth 100000
set_option maxHeartbeats 64000000
namespace Go.Proofs.YtcpoomdoodlkjaaGreatDoor
section
open Go.Proofs.Tryz
open Go.ChangeShapes Go.WideShapes Go.ChangeAt Go.RowKit Go.G5
theorem JC:Rows.FnReportsSaid:=
 OpenClaim.holds_of_wide 3 Tryz.f3 rfl rfl rfl rfl rfl rfl rfl ⟨rfl,rfl,rfl,rfl,rfl⟩ rfl rfl rfl rfl rfl yQ func3 GM MN MP
  (fun os started H enc _=>GN os started H enc)
theorem fnReports_card:Rows.FnReportsCardSaid:=
 Claim7.holds_tied_plain_at .later [] [.data,.data,.data] true _ false
  JC (fun _ h=>by cases h) U7 (fun _ h=>by cases h) fnReports_row_tie rfl ⟨rfl,rfl⟩ MO rfl
  (fun f D F z=>by
   obtain rfl:f=3:=Option.some.inj (yQ.symm.trans F) |>.symm;obtain rfl:D=Tryz.f3:=(Option.some.inj (func3.symm.trans z)).symm;exact⟨JD,fun j t ht=>by
    rw[tO]at ht;have hm:t∈[22]:=by simpa using Array.mem_of_getElem? ht
    exact(show prog.wantsStandIn t=false by simpa using List.all_eq_true.1 JE t hm)⟩)
  MM
end
end Go.Proofs.YtcpoomdoodlkjaaGreatDoor
