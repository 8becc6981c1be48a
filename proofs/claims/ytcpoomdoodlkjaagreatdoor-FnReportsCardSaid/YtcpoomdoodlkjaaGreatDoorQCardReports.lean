/- The card of FnReports: for every input the call returns true and each argument reads as it did. No condition. -/
import Derived.Test.YtcpoomdoodlkjaaGreatDoorQ51
import Derived.Test.YtcpoomdoodlkjaaGreatDoorQ52
set_option maxRecDepth 100000
set_option maxHeartbeats 64000000
namespace Go.Proofs.YtcpoomdoodlkjaaGreatDoor
section
open Go.Proofs.Tryz
open Go.ChangeShapes Go.WideShapes Go.ChangeAt Go.RowKit Go.G5
theorem I8:Rows.FnReportsSaid:=
 OpenClaim.holds_of_wide 3 Tryz.f3 rfl rfl rfl rfl rfl rfl rfl ⟨rfl,rfl,rfl,rfl,rfl⟩ rfl rfl rfl rfl rfl yN func3 GJ MJ ML
  (fun os started H enc _=>GK os started H enc)
theorem fnReports_card:Rows.FnReportsCardSaid:=
 Claim7.holds_tied_plain_at .later [] [.data,.data,.data] true _ false
  I8 (fun _ h=>by cases h) U3 (fun _ h=>by cases h) fnReports_row_tie rfl ⟨rfl,rfl⟩ MK rfl
  (fun f D F z=>by
   obtain rfl:f=3:=Option.some.inj (yN.symm.trans F) |>.symm;obtain rfl:D=Tryz.f3:=(Option.some.inj (func3.symm.trans z)).symm;exact⟨I9,fun j t ht=>by
    rw[tL]at ht;have hm:t∈[22]:=by simpa using Array.mem_of_getElem? ht
    exact(show prog.wantsStandIn t=false by simpa using List.all_eq_true.1 JA t hm)⟩)
  MI
end
end Go.Proofs.YtcpoomdoodlkjaaGreatDoor
