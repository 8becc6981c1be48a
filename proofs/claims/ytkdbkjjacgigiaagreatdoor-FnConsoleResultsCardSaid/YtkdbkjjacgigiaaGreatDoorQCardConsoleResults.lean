/- The card of FnConsoleResults: for every input the call returns true and each argument reads as it did. No condition. -/
import Derived.Test.YtkdbkjjacgigiaaGreatDoorQ47
import Derived.Test.YtkdbkjjacgigiaaGreatDoorQ48
import Derived.Test.YtkdbkjjacgigiaaGreatDoorQ49
set_option maxRecDepth 100000
set_option maxHeartbeats 64000000
namespace Go.Proofs.YtkdbkjjacgigiaaGreatDoor
section
open Go.Proofs.Tryz
open Go.ChangeShapes Go.WideShapes Go.ChangeAt Go.RowKit Go.G5
theorem bM{a b:Bool}(z:a=true)(hb:b=true):(a&&b)=true:=by rw[z,hb];rfl
theorem A9:joinedFacts prog 3 Tryz.f3 Rows.fnConsoleResultsSpec Rows.fnConsoleResultsRow=true:=by
 unfold joinedFacts;exact bM (bM (bM (bM (bM (bM (bM (bM (bM (bM (bM (bM (bM (bM (bM (bM (bM (bM (bM (bM (bM (bM (bM (bM (bM (bM (bM (bM (bM (bM (bM (GD) GH) GI) GJ) GK) GL) GM) GN) GO) GP) DX) DY) DZ) D0) D1) D2) D3) D4) D5) D6) D7) D8) D9) EA) EB) EC) ED) EE) EF) EG) EH) EJ
theorem zI(P:Program)(h:P.funcs.toList.any Func.goes=false)(c:OpenClaim):false=c.goesBy P:=by
 have z:∀f,P.goes f=false:=by
  intro f;unfold Program.goes;have h2:P.funcs.any Func.goes=false:=by rw[<-Array.any_toList];exact h
  rw[h2,Bool.and_false,Bool.or_false,List.any_eq_false];intro g _
  cases F:P.funcs[g]? with
  |none=>simp
  |some fn=>
   have hm:fn∈P.funcs.toList:=by have:=Array.mem_of_getElem? F;simpa using this
   have h3:=List.any_eq_false.1 h fn hm;simpa using h3
 unfold OpenClaim.goesBy Program.goesAt Program.goesFrom;have h4:∀l:List FuncId,l.any P.goes=false:=fun l=>List.any_eq_false.2 fun x _=>by rw[z x];decide
 have D:∀l:Option FuncId,l.any P.goes=false:=fun l=>by cases l<;>simp[z]
 rw[D,Bool.false_or]
 split
 ·rfl
 ·rw[h4]
theorem F9:prog.funcs.toList.any Func.goes=false:=aO
theorem C7:false=Rows.fnConsoleResultsRow.goesBy prog:=zI _ F9 _
theorem CP:Rows.FnConsoleResultsSaid:=
 OpenClaim.holds_of_wide 3 Tryz.f3 rfl rfl rfl rfl rfl rfl rfl ⟨rfl,rfl,rfl,rfl,rfl⟩ rfl rfl rfl rfl rfl uD func3 A9 C8 DA
  (fun os started H enc _=>BA os started H enc)
theorem fnConsoleResults_card:Rows.FnConsoleResultsCardSaid:=
 Claim7.holds_tied_plain_at .later [] [.data,.data,.data,.data,.pinned] true _ false
  CP (fun _ h=>by cases h) H7 (fun _ h=>by cases h) fnConsoleResults_row_tie rfl ⟨rfl,rfl⟩ C9 rfl
  (fun f fn D z=>by
   obtain rfl:f=3:=Option.some.inj (uD.symm.trans D) |>.symm;obtain rfl:fn=Tryz.f3:=(Option.some.inj (func3.symm.trans z)).symm;exact⟨CQ,fun j t ht=>by
    rw[mT]at ht;have hm:t∈[22]:=by simpa using Array.mem_of_getElem? ht
    exact(show prog.wantsStandIn t=false by simpa using List.all_eq_true.1 CR t hm)⟩)
  C7
end
end Go.Proofs.YtkdbkjjacgigiaaGreatDoor
