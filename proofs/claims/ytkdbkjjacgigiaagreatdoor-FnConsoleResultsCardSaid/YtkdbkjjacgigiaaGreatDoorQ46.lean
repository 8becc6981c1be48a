/- Lemmas for CardConsoleResults. No condition. -/
import Derived.Test.YtkdbkjjacgigiaaGreatDoorQ24
import Derived.Test.YtkdbkjjacgigiaaGreatDoorQ26
import Derived.LaidMore
import Derived.Stop.LaidErr
import Derived.Stop.Joined
set_option maxRecDepth 100000
set_option maxHeartbeats 64000000
namespace Go.Proofs.YtkdbkjjacgigiaaGreatDoor
section
open Go.Proofs.Tryz
open Go.ChangeShapes Go.WideShapes Go.ChangeAt Go.RowKit Go.G5
set_option maxRecDepth 100000
open Go.ChangeShapes Go.WideShapes Go.ChangeAt Go.RowKit Go.G5
set_option maxRecDepth 100000
theorem OD{f:FuncId}{fn:Func}{s:ChangeSpec}(F:List (String×DataW Unit))(os:Os)(started:os.Started)(H:Type)(enc:TypeId×Value->H)
  (b5:prog.funcs[f]?=some fn) (N:prog.inits.idxOf? f=none) (hv:s.vars=[]) (a6:fn.resultTypes=#[4])
  (O:(fn.params.toList.all fun t=>prog.readableRec t&&decide (t<prog.types.size))=true)
  (D:∀J:List (DataW H),J.length=fn.params.size->s.fn H J={ results:=[.lit (.bool true)],args:=J,vars:=[] })
  (witness:∃(w:World) (z:Tape) (i:Input),w.os=os/\(w.forCall z i).Shaped prog/\i.vars=[]/\Input.okWide prog (w.forCall z i) .any w.heap.size f i /\
   ((s.pre enc prog fn [] false (w.forCall z i).memory i.args/\laidMetH prog F (w.forCall z i).memory)/\sizedMet enc prog fn (OpenSpec.ofChange s) false (w.forCall z i).memory i.args)/\({}:Assume).holds prog (lone (Frame.enter prog f i.args .normal) [] (w.forCall z i)))
  (I:∀(W:World) (base:Nat) (args:Array Value) (J:List (DataW H)) (p:List MemPlace),(∀(j:Nat) t v,fn.params[j]?=some t->args[j]?=some v->Value.okWide prog W .any base t v) ->
   DataW.TrodAll enc prog W 0 (fun _=>true) true fn.params.toList args.toList J p->laidMetH prog F W->W.ShapedOpen prog->Calls prog f args W fun e W'=>e=.returned (.bool true)/\Below W W W'):
  ReturnsInHanded {} Tryz.checked os f .any (fun w args=>(s.pre enc prog fn [] false w args/\laidMetH prog F w)/\sizedMet enc prog fn (OpenSpec.ofChange s) false w args) (s.post enc prog fn false true false false):=by
 refine returnsInHanded_of_calls (C:=Tryz.checked) jS started N witness ?_;intro w z i _ a7 _ b6 a1 _;obtain⟨_,_,_,K,Y,_,_,_,_,R⟩:=b6;have e:K=fn:=Option.some.inj (Y.symm.trans b5);subst e;obtain⟨⟨⟨J,gs,before,hw,_⟩,hx⟩,_⟩:=a1;have hW:=DataW.Whole.of_heap (w':=w.forCall z i) (by rfl) hw;have hL:laidMetH prog F (w.forCall z i):=laidMetH.of_heap (by rfl) hx;obtain⟨W,S⟩:=aJ (w.forCall z i);have a8:∀(j:Nat) t v,K.params[j]?=some t->i.args[j]?=some v->Value.okWide prog W .any w.heap.size t v:=by rw[S];exact R
 rw[<-S]at hW hL a7 ⊢;have Z:=hW.lt;have b4:=hW;obtain⟨p,q,b1,hV,rfl,c6,c7⟩:=hW;have hA:DataW.TrodAll enc prog W 0 (fun _=>true) true K.params.toList i.args.toList J p:=b1;rw[hv]at hV;obtain⟨rfl,rfl⟩:=trodVars_none hV;refine(I W w.heap.size i.args J p a8 hA hL a7).mono fun e W' ⟨he,hb⟩=>?_;have M:J.length=K.params.size:=by have:=LJ hA;simpa using this
 subst he;refine ChangeSpec.post_blind (?_:s.post enc prog K false true false false W i.args (.bool true) W');refine⟨J,[],p++[],[],p,[],b4,?_,?_,?_,hb.frame _,fun h=>by cases h⟩
 ·rw[List.append_nil,D J M,a6];exact trodAll_mk1 (shut_bool underlying4 true)
 ·rw[List.append_nil,D J M];exact FY aoK hb O hA fun x hx=>by simpa using Z x (by simp[hx])
 ·rw[List.append_nil,D J M,hv];exact hV
theorem QB{W:World}(h:W.ShapedOpen prog):sE W:=aaL.s1_3 W h
theorem TY{W:World}{a b:String×DataW Unit}{r:List (String×DataW Unit)}(h:laidMet prog (a::b::("internal/strconv.uint64pow10",Lib.tabData .u64 Lib.pow10Tab)::r) W):iY W:=
 Lib.tabIs_of_head (g:=3) (t:=223) (e:=141) (n:=20) aO aO aO aO aO aO (laidMet.tail (laidMet.tail h))
end
end Go.Proofs.YtkdbkjjacgigiaaGreatDoor
