/- The card of FnExactRunConsole: for every input the call returns true and each argument reads as it did. No condition. -/
import Derived.Test.YtkdbkjjacgigiaaGreatDoorR33
import Derived.Test.YtkdbkjjacgigiaaGreatDoorR34
import Derived.Test.YtkdbkjjacgigiaaGreatDoorR35
set_option maxRecDepth 100000
set_option maxHeartbeats 64000000
namespace Go.Proofs.YtkdbkjjacgigiaaGreatDoor
section
open Go.Proofs.Tryz
open Go.ChangeShapes Go.WideShapes Go.ChangeAt Go.RowKit Go.G5
theorem dD{a b:Bool}(z:a=true)(hb:b=true):(a&&b)=true:=by rw[z,hb];rfl
theorem DA:joinedFacts prog 4 Tryz.f4 Rows.fnExactRunConsoleSpec Rows.fnExactRunConsoleRow=true:=by
 unfold joinedFacts;exact dD (dD (dD (dD (dD (dD (dD (dD (dD (dD (dD (dD (dD (dD (dD (dD (dD (dD (dD (dD (dD (dD (dD (dD (dD (dD (dD (dD (dD (dD (dD (IM) IN) IP) IQ) IR) IS) IT) IU) IV) IW) FS) FT) FU) FV) FW) FX) FY) FZ) F9) GA) GD) GH) GI) GJ) GK) GL) GM) GN) GO) GP) GQ) GR
theorem BO(P:Program)(h:P.funcs.toList.any Func.goes=false)(c:OpenClaim):false=c.goesBy P:=by
 have z:∀f,P.goes f=false:=by
  intro f;unfold Program.goes;have h2:P.funcs.any Func.goes=false:=by rw[<-Array.any_toList];exact h
  rw[h2,Bool.and_false,Bool.or_false,List.any_eq_false];intro g _
  cases F:P.funcs[g]? with
  |none=>simp
  |some fn=>
   have hm:fn∈P.funcs.toList:=by have:=Array.mem_of_getElem? F;simpa using this
   have h3:=List.any_eq_false.1 h fn hm;simpa using h3
 unfold OpenClaim.goesBy Program.goesAt Program.goesFrom;have h4:∀l:List FuncId,l.any P.goes=false:=fun l=>List.any_eq_false.2 fun x _=>by rw[z x];decide
 have D:∀l:Option FuncId,l.any P.goes=false:=fun l=>by cases l<;>simp[z]
 rw[D,Bool.false_or]
 split
 .rfl
 .rw[h4]
theorem IL:prog.funcs.toList.any Func.goes=false:=bM
theorem EY:false=Rows.fnExactRunConsoleRow.goesBy prog:=BO _ IL _
theorem DV:Rows.FnExactRunConsoleSaid:=
 OpenClaim.holds_of_wide 4 Tryz.f4 rfl rfl rfl rfl rfl rfl rfl ⟨rfl,rfl,rfl,rfl,rfl⟩ rfl rfl rfl rfl rfl wI func4 DA EZ E1
  (fun os started H enc _=>DB os started H enc)
theorem fnExactRunConsole_card:Rows.FnExactRunConsoleCardSaid:=
 Claim7.holds_tied_plain_at .later [] [.data,.data,.data,.data,.pinned] true _ false
  DV (fun _ h=>by cases h) KG (fun _ h=>by cases h) fnExactRunConsole_row_tie rfl ⟨rfl,rfl⟩ E0 rfl
  (fun f fn D z=>by
   obtain rfl:f=4:=cI (wI.symm.trans D) |>.symm;obtain rfl:fn=Tryz.f4:=(cI (func4.symm.trans z)).symm;exact⟨DW,fun j t ht=>by
    rw[qN]at ht;have hm:t∈[9]:=by simpa using Array.mem_of_getElem? ht
    exact(show prog.wantsStandIn t=false by simpa using List.all_eq_true.1 DX t hm)⟩)
  EY
end
end Go.Proofs.YtkdbkjjacgigiaaGreatDoor
