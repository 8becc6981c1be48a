/- Lemmas for CardConsoleResults. No condition. -/
import Derived.Test.YtkdbkjjacgigiaaGreatDoorQ16
set_option maxRecDepth 100000
set_option maxHeartbeats 64000000
section
namespace Go
section
variable {P:Program} {ops:Array Oper} {md:Region.Mode} {C:World->Prop}
def Oper.loud(o:Oper):Bool:=
 match o.op with
 |.call c=>match c.callee with
  |.value _=>true
  |_=>false
 |_=>false
def Oper.readUpon(w:World)(v:Value):Result Next->Prop
 |.ok (.value u) w'=>w'=w/\u=v
 |.ok .skip w'=>w'=w/\v=undef
 |_=>False
def Oper.reads(P:Program)(o:Oper)(a:Act)(C:World->Prop)(K:Act->Prop):Prop:=∃v,(∀w,C w->Oper.readUpon w v ((execOp a.eval o).run P w))/\K (a.put o.dst v)
def Oper.goesUpon(P:Program)(C:World->Prop)(w:World)(K:Value->World->Prop):Result Next->Prop
 |.ok (.enter f args) w'=>w'=w/\Calls P f args w (fun e w''=>∃v,e=.returned v/\C w''/\K v w'')
 |_=>False
def Oper.goes(P:Program)(o:Oper)(a:Act)(w:World)(C:World->Prop)(K:Act->World->Prop):Prop:=Oper.goesUpon P C w (fun v w''=>K (a.put o.dst v) w'') ((execOp a.eval o).run P w)
def uP(P:Program)(ops:Array Oper)(C:World->Prop)(Q:Act->World->Prop):List Oper->Act->World->Prop
 |[],a,w=>Q a w
 |o::rest,a,w=>if Region.wanted o (yielded ops a.tmps) then (if o.loud then o.goes P a w C (uP P ops C Q rest) else o.reads P a C (fun z=>uP P ops C Q rest z w)) else uP P ops C Q rest (a.put o.dst undef) w
def mixOp(P:Program)(ops:Array Oper)(C:World->Prop)(i:Nat)(K:Act->World->Prop)(a:Act)(w:World):Prop:=
 match ops[i]? with
 |none=>K a w
 |some o=>if Region.wanted o (yielded ops a.tmps) then (if o.loud then o.goes P a w C K else o.reads P a C (fun z=>K z w)) else K (a.put o.dst undef) w
theorem Oper.goes_mono{o:Oper}{a:Act}{w:World}{K D:Act->World->Prop}(h:∀a w,C w->K a w->D a w)(z:o.goes P a w C K):o.goes P a w C D:=by
 unfold Oper.goes at *
 generalize (execOp a.eval o).run P w=r at *
 cases r with
 |ok n w'=>
  cases n<;>simp only[Oper.goesUpon]at z ⊢
  case enter f args=>
   exact⟨z.1,z.2.mono fun e w'' ⟨v,I,hC,F⟩=>⟨v,I,hC,h _ _ hC F⟩⟩
 |halt x w'=>simp only[Oper.goesUpon]at z
theorem OL{i:Nat}{a:Act}{w:World}{K F:Act->World->Prop}(hw:C w)(h:∀a w,C w->K a w->F a w)(z:mixOp P ops C i K a w):mixOp P ops C i F a w:=by
 unfold mixOp at *
 split
 ·exact h _ _ hw (by simpa[*]using z)
 ·rename_i o I
  simp only[I]at z
  split
  ·rename_i D
   simp only[D,if_true]at z
   split
   ·rename_i hl;simp only[hl,if_true]at z;exact Oper.goes_mono h z
   ·rename_i hl
    simp only[hl]at z;obtain⟨v,h1,h2⟩:=z;exact⟨v,h1,h _ _ hw h2⟩
  ·rename_i D;simp only[D]at z;exact h _ _ hw z
def uK(P:Program)(md:Region.Mode)(ops:Array Oper)(C:World->Prop)(Q:Act->World->Prop):Nat->Array Bool->Act->World->Prop
 |0,listed,a,w=>Region.ready md ops listed=[]/\Q a w
 |fuel+1,listed,a,w=>
  (Region.ready md ops listed=[]->Q a w) /\
  ∀i∈Region.ready md ops listed,mixOp P ops C i (uK P md ops C Q fuel (listed.setIfInBounds i true)) a w
theorem Oper.wp_of_goes{o:Oper}{a:Act}{w:World}{K:Act->World->Prop}{F:Exit->Act->World->Prop}{D:Act->World->Prop}(h:∀a w',C w'->K a w'->D a w')(z:o.goes P a w C K):o.wp P a w D F:=by
 unfold Oper.goes at z;unfold Oper.wp
 generalize (execOp a.eval o).run P w=r at *
 cases r with
 |ok n w'=>
  cases n<;>simp only[Oper.goesUpon]at z<;>simp only[Oper.upon]
  case enter f args=>
   obtain⟨e1,hc⟩:=z;rw[e1];exact hc.mono fun e w'' ⟨v,J,hC,I⟩=>by subst J;exact h _ _ hC I
 |halt x w'=>simp only[Oper.goesUpon]at z
theorem Oper.wp_of_reads{o:Oper}{a:Act}{w:World}{K:Act->Prop}{D:Exit->Act->World->Prop}{z:Act->World->Prop}(hw:C w)(h:∀a,K a->z a w)(F:o.reads P a C K):o.wp P a w z D:=by
 obtain⟨v,h1,h2⟩:=F;have h3:=h1 w hw;unfold Oper.wp
 generalize (execOp a.eval o).run P w=r at *
 cases r with
 |ok n w'=>
  cases n<;>simp only[Oper.readUpon]at h3<;>simp only[Oper.upon]
  case value u=>
   obtain⟨e1,e2⟩:=h3;rw[e1,e2];exact h _ h2
  case skip=>
   obtain⟨e1,e2⟩:=h3;rw[e1,<-e2];exact h _ h2
 |halt x w'=>simp only[Oper.readUpon]at h3
theorem T6{i:Nat}{a:Act}{w:World}{K F:Act->World->Prop}{I:Exit->Act->World->Prop}(hC:C w)(h:∀a w',C w'->K a w'->F a w')(z:mixOp P ops C i K a w):wpOp P ops I i F a w:=by
 unfold mixOp at z;unfold wpOp
 split
 ·rename_i D;simp only[D]at z;exact h _ _ hC z
 ·rename_i o D
  simp only[D]at z
  split
  ·rename_i hw
   simp only[hw,if_true]at z
   left
   by_cases hl:o.loud=true
   ·simp only[hl,if_true]at z;exact Oper.wp_of_goes h z
   ·simp only[hl]at z;exact Oper.wp_of_reads hC (fun a J=>h _ _ hC J) z
  ·rename_i hw;simp only[hw]at z;exact h _ _ hC z
theorem JH{Q:Act->World->Prop}{F:Exit->Act->World->Prop}(z:∀a w,C w->Q a w->F .normal a w):∀(fuel:Nat) (listed:Array Bool) (a:Act) (w:World),C w ->
  uK P md ops C Q fuel listed a w->wpAny P md ops F fuel listed a w
 |0,_,_,_,hw,h=>⟨h.1,z _ _ hw h.2⟩
 |fuel+1,_,_,_,hw,h=>⟨fun J=>z _ _ hw (h.1 J),fun i K=>T6 hw (fun I w' D=>JH z fuel _ I w' D) (h.2 i K)⟩
def nV(P:Program)(ops:Array Oper)(C:World->Prop)(o:Oper)(v:Value)(a:Act):Prop:=
 (Region.wanted o (yielded ops a.tmps)=true/\o.loud=false/\∀w,C w->Oper.readUpon w v ((execOp a.eval o).run P w)) ∨
 (Region.wanted o (yielded ops a.tmps)=false/\v=undef)
theorem nV.mixOp{i:Nat}{o:Oper}{v:Value}{a:Act}{w:World}(z:ops[i]?=some o)(F:nV P ops C o v a){K:Act->World->Prop}(h:K (a.put o.dst v) w):mixOp P ops C i K a w:=by
 unfold Go.mixOp;simp only[z]
 rcases F with⟨hw,hl,D⟩|⟨hw,rfl⟩
 ·simp only[hw,hl,if_true]
  exact⟨v,D,h⟩
 ·simp only[hw];exact h
theorem nV.of_same{o:Oper}{v:Value}{a z:Act}(F:nV P ops C o v a)(D:execOp z.eval o=execOp a.eval o)
  (hw:Region.wanted o (yielded ops z.tmps)=Region.wanted o (yielded ops a.tmps)):nV P ops C o v z:=by
 unfold nV at *;rw[D,hw];exact F
theorem aiN{j:Nat}{oi oj:Oper}{v:Value}(R:ops[j]?=some oj)(F:oi.apart ops oj=true)
  (I:∀cs b,oi.op≠.select cs b) (z:∀cs b,oj.op≠.select cs b) {K:Act->World->Prop} {a:Act} {w:World}
  (D:nV P ops C oi v a) (h:mixOp P ops C j K (a.put oi.dst v) w):
  mixOp P ops C j (fun M w'=>nV P ops C oi v M/\K (M.put oi.dst v) w') a w:=by
 obtain⟨h1,h2,h3⟩:=Oper.apart_spec F;have keep:∀(a:Act),nV P ops C oi v a->∀u,nV P ops C oi v (a.put oj.dst u):=fun a D u=>
  D.of_same (execOp_put oi I a oj.dst u h3) (wanted_put oi a oj.dst u h3)
 unfold mixOp at *;simp only[R]at *;rw[wanted_put oj a oi.dst v h1]at h
 split
 ·rename_i hw
  simp only[hw,if_true]at h
  split
  ·rename_i hl
   simp only[hl,if_true]at h;unfold Oper.goes at *;rw[execOp_put oj z a oi.dst v h1]at h
   generalize (execOp a.eval oj).run P w=r at *
   cases r with
   |ok n w'=>
    cases n<;>simp only[Oper.goesUpon]at h ⊢
    case enter f args=>
     exact⟨h.1,h.2.mono fun e w'' ⟨u,O,hC,N⟩=>⟨u,O,hC,keep a D u,by rw[<-Act.put_comm a v u h2];exact N⟩⟩
   |halt x w'=>simp only[Oper.goesUpon]at h
  ·rename_i hl
   simp only[hl]at h;obtain⟨u,Y,S⟩:=h;refine⟨u,fun w J=>?_,keep a D u,by rw[<-Act.put_comm a v u h2];exact S⟩;have:=Y w J
   rwa [execOp_put oj z a oi.dst v h1]at this
 ·rename_i hw
  simp only[hw]at h;exact⟨keep a D _,by rw[<-Act.put_comm a v undef h2];exact h⟩
theorem JG{Q:Act->World->Prop}{i:Nat}{oi:Oper}{v:Value}(hi:ops[i]?=some oi)(J:∀(j:Nat) (o:Oper) cs b,ops[j]?=some o->o.op≠.select cs b):
  ∀(fuel:Nat) (listed:Array Bool) (a:Act) (w:World),C w ->
   (∀j oj,ops[j]?=some oj->j≠i->listed.getD j true=false->(∀e∈oj.after,Region.binds md e=true->e.on≠i)->oi.apart ops oj=true) ->
   i∈Region.ready md ops listed->nV P ops C oi v a ->
   uK P md ops C Q fuel (listed.setIfInBounds i true) (a.put oi.dst v) w->uK P md ops C Q (fuel+1) listed a w:=by
 intro fuel
 induction fuel with
 |zero=>
  intro listed a w hC _ hr Y H;refine⟨fun h=>(by rw[h]at hr;cases hr),fun j S=>?_⟩
  by_cases z:j=i
  ·subst z;exact Y.mixOp hi H
  ·have:=ready_mono S z
   rw[H.1]at this
   cases this
 |succ fuel ih=>
  intro listed a w hC D hr Y H;refine⟨fun h=>(by rw[h]at hr;cases hr),fun j S=>?_⟩
  by_cases z:j=i
  ·subst z;exact Y.mixOp hi H
  ·have h1:=H.2 j (ready_mono S z)
   obtain⟨I,oj,K,M⟩:=mem_ready.1 S;have O:∀e∈oj.after,Region.binds md e=true->e.on≠i:=fun e he hb a6=>by
    have h1:=M e he hb;have h0:=(mem_ready.1 hr).1;rw[a6]at h1
    rcases Nat.lt_or_ge i listed.size with Z|Z
    ·simp[Z]at h0 h1;rw[h0]at h1;cases h1
    ·simp[Array.getElem?_eq_none Z]at h1
   have h2:=aiN K (D j oj K z I O) (fun cs b=>J i oi cs b hi) (fun cs b=>J j oj cs b K) Y h1;have F:∀k ok,ops[k]?=some ok->k≠i->(listed.setIfInBounds j true).getD k true=false ->
     (∀e∈ok.after,Region.binds md e=true->e.on≠i)->oi.apart ops ok=true:=fun k ok hk a8 R a9=>by
    refine D k ok hk a8 ?_ a9
    by_cases N:j=k
    ·subst N;exact I
    ·rw[getD_set_ne true N]at R;exact R
   refine OL hC (fun a' w' a1 h3=>ih (listed.setIfInBounds j true) a' w' a1 F (ready_mono hr (Ne.symm z)) h3.1 ?_) h2;rw[Array.setIfInBounds_comm _ _ z];exact h3.2
def Region.waits(md:Region.Mode)(ops:Array Oper)(i:Nat):Nat->Nat->Bool
 |0,_=>false
 |n+1,j=>match ops[j]? with
  |none=>false
  |some o=>o.after.any fun e=>Region.binds md e&&(e.on==i||Region.waits md ops i n e.on)
def Region.chained(md:Region.Mode)(ops:Array Oper):Bool:=
 (List.range ops.size).all fun i=>match ops[i]? with
  |none=>true
  |some oi=>!oi.loud||(List.range ops.size).all fun j=>decide (j<=i)||match ops[j]? with
   |none=>true
   |some oj=>!oj.loud||Region.waits md ops i ops.size j
def Region.closed(md:Region.Mode)(ops:Array Oper)(listed:Array Bool):Prop:=
 ∀(k:Nat) (o:Oper),ops[k]?=some o->listed.getD k false=true->∀e∈o.after,Region.binds md e=true->listed.getD e.on false=true
theorem Y7{i:Nat}{listed:Array Bool}(hc:Region.closed md ops listed):∀(n j:Nat),Region.waits md ops i n j=true->(∀o,ops[j]?=some o->∀e∈o.after,Region.binds md e=true->listed.getD e.on false=true)->listed.getD i false=true:=by
 intro n
 induction n with
 |zero=>intro j h;simp[Region.waits]at h
 |succ n ih=>
  intro j h z;unfold Region.waits at h
  cases I:ops[j]? with
  |none=>rw[I]at h;cases h
  |some o=>
   rw[I]at h;obtain⟨e,M,hb⟩:=Array.any_eq_true'.1 h;simp only[Bool.and_eq_true,Bool.or_eq_true,beq_iff_eq]at hb;have hl:=z o I e M hb.1
   rcases hb.2 with h1|h1
   ·rw[<-h1];exact hl
   ·exact ih e.on h1 (fun N J K F D=>hc e.on N J hl K F D)
theorem NG{j:Nat}{listed:Array Bool}(hc:Region.closed md ops listed)(I:j∈Region.ready md ops listed):Region.closed md ops (listed.setIfInBounds j true):=by
 obtain⟨_,o,J,z⟩:=mem_ready.1 I;intro k ok hk hl e F hb;refine getD_set_true ?_
 by_cases D:j=k
 ·subst D
  rw[J]at hk
  cases hk
  exact z e F hb
 ·refine hc k ok hk ?_ e F hb
  rw[getD_set_ne false D]at hl;exact hl
theorem R8{o:Oper}{a:Act}{w:World}{K:Act->World->Prop}(h:o.goes P a w C K):∃v w',C w'/\K (a.put o.dst v) w':=by
 unfold Oper.goes at h
 generalize (execOp a.eval o).run P w=r at *
 cases r with
 |ok n w'=>
  cases n<;>simp only[Oper.goesUpon]at h
  case enter f args=>
   obtain⟨e,w'',z,⟨v,_,h2,h3⟩,_⟩:=h.2 [];exact⟨v,w'',h2,h3⟩
 |halt x w'=>simp only[Oper.goesUpon]at h
theorem amD{w:World}{u v:Value}{r:Result Next}(h:Oper.readUpon w u r)(z:Oper.readUpon w v r):u=v:=by
 cases r with
 |ok n w'=>
  cases n<;>simp only[Oper.readUpon]at h z
  ·rw[<-h.2,<-z.2]
  ·rw[h.2,z.2]
 |halt x w'=>simp only[Oper.readUpon]at h
theorem ad5{j:Nat}{oi oj:Oper}(Y:ops[j]?=some oj)(D:oj.loud=false)(R:oi.apart ops oj=true)
  (I:∀cs b,oi.op≠.select cs b) (J:∀cs b,oj.op≠.select cs b) {K:Act->World->Prop} {a:Act} {w:World}
  (h:oi.goes P a w C (fun N w'=>mixOp P ops C j K N w')):
  mixOp P ops C j (fun N w'=>oi.goes P N w' C K) a w:=by
 obtain⟨h1,h2,h3⟩:=Oper.apart_spec R;obtain⟨v0,w0,a1,F⟩:=R8 h;unfold mixOp at F ⊢;simp only[Y,D]at F ⊢;rw[wanted_put oj a oi.dst v0 h1]at F
 split
 ·rename_i hw
  simp only[hw,if_true]at F;obtain⟨u,Z,_⟩:=F;rw[execOp_put oj J a oi.dst v0 h1]at Z;refine⟨u,Z,?_⟩;unfold Oper.goes at h ⊢;dsimp only;rw[execOp_put oi I a oj.dst u h3]
  generalize (execOp a.eval oi).run P w=r at *
  cases r with
  |ok n w'=>
   cases n<;>simp only[Oper.goesUpon]at h ⊢
   case enter f args=>
    refine⟨h.1,h.2.mono fun e w'' ⟨v,S,hC,z⟩=>⟨v,S,hC,?_⟩⟩;unfold mixOp at z;simp only[Y,D]at z;rw[wanted_put oj a oi.dst v h1]at z;simp only[hw,if_true]at z;obtain⟨u',M,O⟩:=z;rw[execOp_put oj J a oi.dst v h1]at M;have e1:=amD (M w'' hC) (Z w'' hC);subst e1;rw[<-Act.put_comm a v u' h2];exact O
  |halt x w'=>simp only[Oper.goesUpon]at h
 ·rename_i hw
  simp only[hw]at F;unfold Oper.goes at h ⊢;rw[execOp_put oi I a oj.dst undef h3]
  generalize (execOp a.eval oi).run P w=r at *
  cases r with
  |ok n w'=>
   cases n<;>simp only[Oper.goesUpon]at h ⊢
   case enter f args=>
    refine⟨h.1,h.2.mono fun e w'' ⟨v,S,hC,z⟩=>⟨v,S,hC,?_⟩⟩;unfold mixOp at z;simp only[Y,D]at z;rw[wanted_put oj a oi.dst v h1]at z;simp only[hw]at z;rw[<-Act.put_comm a v undef h2];exact z
  |halt x w'=>simp only[Oper.goesUpon]at h
theorem aaV{Q:Act->World->Prop}{i:Nat}{oi:Oper}(hi:ops[i]?=some oi)(a9:oi.loud=true)(Z:∀(j:Nat) (o:Oper) cs b,ops[j]?=some o->o.op≠.select cs b):
  ∀(fuel:Nat) (listed:Array Bool) (a:Act) (w:World),C w->Region.closed md ops listed ->
   (∀j oj,ops[j]?=some oj->j≠i->listed.getD j true=false->(∀e∈oj.after,Region.binds md e=true->e.on≠i)->oi.apart ops oj=true) ->
   (∀j oj,ops[j]?=some oj->j≠i->listed.getD j true=false->oj.loud=true->Region.waits md ops i ops.size j=true) ->
   i∈Region.ready md ops listed->Region.wanted oi (yielded ops a.tmps)=true ->
   oi.goes P a w C (uK P md ops C Q fuel (listed.setIfInBounds i true))->uK P md ops C Q (fuel+1) listed a w:=by
 intro fuel
 induction fuel with
 |zero=>
  intro listed a w hC _ _ _ hr N H;refine⟨fun h=>(by rw[h]at hr;cases hr),fun j hj=>?_⟩
  by_cases z:j=i
  ·subst z
   unfold mixOp;simp only[hi,N,a9,if_true];exact H
  ·obtain⟨v,w',_,h⟩:=R8 H
   have:=ready_mono hj z;rw[h.1]at this
   cases this
 |succ fuel ih=>
  intro listed a w hC hcl I M hr N H;refine⟨fun h=>(by rw[h]at hr;cases hr),fun j hj=>?_⟩
  by_cases z:j=i
  ·subst z
   unfold mixOp;simp only[hi,N,a9,if_true];exact H
  ·obtain⟨D,oj,F,S⟩:=mem_ready.1 hj
   have Y:listed.getD i false=false:=by
    have h0:=(mem_ready.1 hr).1
    rcases Nat.lt_or_ge i listed.size with h'|h'
    ·simpa[h']using h0
    ·simp[Array.getElem?_eq_none h']
   have b1:oj.loud=false:=by
    cases hl:oj.loud with
    |false=>rfl
    |true=>
     have:=Y7 hcl ops.size j (M j oj F z D hl) (fun o ho e he hb=>by rw[F]at ho;cases ho;exact S e he hb);rw[Y]at this
     cases this
   have b3:∀e∈oj.after,Region.binds md e=true->e.on≠i:=fun e he hb b7=>by
    have h1:=S e he hb;rw[b7,Y]at h1
    cases h1
   have a8:=I j oj F z D b3;have h1:oi.goes P a w C (fun a' w'=>mixOp P ops C j (uK P md ops C Q fuel ((listed.setIfInBounds i true).setIfInBounds j true)) a' w'):=Oper.goes_mono (fun a' w' _ h=>h.2 j (ready_mono hj z)) H;have h2:=ad5 F b1 a8 (fun cs b=>Z i oi cs b hi) (fun cs b=>Z j oj cs b F) h1;have O:∀k ok,ops[k]?=some ok->k≠i->(listed.setIfInBounds j true).getD k true=false ->
     (∀e∈ok.after,Region.binds md e=true->e.on≠i)->oi.apart ops ok=true:=fun k ok hk a6 K b9=>by
    refine I k ok hk a6 ?_ b9
    by_cases J:j=k
    ·subst J;exact D
    ·rw[getD_set_ne true J]at K;exact K
   have R:∀k ok,ops[k]?=some ok->k≠i->(listed.setIfInBounds j true).getD k true=false->ok.loud=true->Region.waits md ops i ops.size k=true:=fun k ok hk a6 K hl=>by
    refine M k ok hk a6 ?_ hl
    by_cases J:j=k
    ·subst J;exact D
    ·rw[getD_set_ne true J]at K;exact K
   obtain⟨_,_,h3⟩:=Oper.apart_spec a8;have a7:mixOp P ops C j (fun a' w'=>Region.wanted oi (yielded ops a'.tmps)=true/\oi.goes P a' w' C (uK P md ops C Q fuel ((listed.setIfInBounds i true).setIfInBounds j true))) a w:=by
    unfold mixOp at h2 ⊢;simp only[F,b1]at h2 ⊢
    split
    ·rename_i hw
     simp only[hw,if_true]at h2;obtain⟨u,hu,hk⟩:=h2;exact⟨u,hu,by rw[wanted_put oi a oj.dst u h3];exact N,hk⟩
    ·rename_i hw
     simp only[hw]at h2;exact⟨by rw[wanted_put oi a oj.dst undef h3];exact N,h2⟩
   refine OL hC (fun a' w' b5 h4=>ih (listed.setIfInBounds j true) a' w' b5 (NG hcl hj) O R (ready_mono hr (Ne.symm z)) h4.1 ?_) a7;rw[Array.setIfInBounds_comm _ _ z];exact h4.2
theorem US{i j:Nat}{oi oj:Oper}(h:Region.chained md ops=true)(z:ops[i]?=some oi)(D:ops[j]?=some oj)(h1:oi.loud=true)(h2:oj.loud=true)(F:i<j):Region.waits md ops i ops.size j=true:=by
 unfold Region.chained at h;rw[List.all_eq_true]at h;have h3:=h i (List.mem_range.2 (Array.getElem?_eq_some_iff.1 z).1);simp only[z,h1,Bool.not_true,Bool.false_or,List.all_eq_true]at h3;have h4:=h3 j (List.mem_range.2 (Array.getElem?_eq_some_iff.1 D).1);simp only[D,h2,Bool.not_true,Bool.false_or,Bool.or_eq_true,decide_eq_true_eq]at h4
 rcases h4 with h4|h4
 ·omega
 ·exact h4
theorem PB{Q:Act->World->Prop}(S:Region.noSelect ops=true)(M:Region.chained md ops=true):∀(l:List Oper) (k:Nat) (listed:Array Bool) (a:Act) (w:World),C w->(∀j,l[j]?=ops[k+j]?) ->
  Region.closed md ops listed->(∀j,j<k->j<ops.size->listed.getD j true=true) ->
  Region.lexFrom md ops l.length k listed=true->uP P ops C Q l a w->uK P md ops C Q l.length listed a w
 |[],_,_,_,_,_,_,_,_,hB,h=>⟨by simpa[Region.lexFrom]using hB,h⟩
 |o::l,k,listed,a,w,hC,hl,hcl,hlo,hB,h=>by
  have F:ops[k]?=some o:=by simpa using(hl 0).symm
  simp only[List.length_cons,Region.lexFrom,Bool.and_eq_true]at hB;obtain⟨⟨hr,hf⟩,Y⟩:=hB;have hr:k∈Region.ready md ops listed:=by simpa using hr
  have N:=NG hcl hr;have O:∀j,j<k+1->j<ops.size->(listed.setIfInBounds k true).getD j true=true:=fun j hj J=>by
   by_cases I:k=j
   ·subst I
    rcases Nat.lt_or_ge k listed.size with K|K
    ·simp[K]
    ·simp[K]
   ·rw[getD_set_ne true I];exact hlo j aD J
  have D:∀R w',C w'->uP P ops C Q l R w'->uK P md ops C Q l.length (listed.setIfInBounds k true) R w':=fun R w' Z K=>
   PB S M l (k+1) _ R w' Z (fun j=>by have:=hl (j+1);simpa[Nat.add_assoc,Nat.add_comm 1 j]using this) N O Y K
  rw[uP]at h
  by_cases hw:Region.wanted o (yielded ops a.tmps)=true
  ·rw[if_pos hw]at h
   by_cases z:o.loud=true
   ·rw[if_pos z]at h
    refine aaV F z (Region.noSelect_spec S) l.length listed a w hC hcl (Region.free_spec F hf) (fun j oj hj I a8 a7=>?_) hr hw (Oper.goes_mono D h);have J:=(Array.getElem?_eq_some_iff.1 hj).1;have hlt:k<j:=by
     rcases Nat.lt_or_ge k j with q|q
     ·exact q
     ·have:=hlo j aD J
      rw[a8]at this;cases this
    exact US M F hj z a7 hlt
   ·rw[if_neg z]at h
    obtain⟨v,hv,hK⟩:=h;exact JG F (Region.noSelect_spec S) l.length listed a w hC (Region.free_spec F hf) hr (.inl ⟨hw,by simpa using z,hv⟩) (D _ _ hC hK)
  ·rw[if_neg hw]at h
   exact JG F (Region.noSelect_spec S) l.length listed a w hC (Region.free_spec F hf) hr (.inr ⟨by simpa using hw,rfl⟩) (D _ _ hC h)
theorem ZN(n:Nat):Region.closed md ops (Array.replicate n false):=by
 intro k o _ h;simp[Array.getElem?_replicate]at h
 split at h<;>simp at h
theorem RD{F:Nat}{Q:Exit->Act->World->Prop}{a:Act}{w:World}{l:List Oper}(hm:P.follows .mixedOrders=true)(hB:Region.lexB .any l.toArray=true)(D:Region.chained .any l.toArray=true)
  (hC:C w.drew) (h:uP P l.toArray C (fun z w'=>Q .normal z w') l a w.drew):(Code.region F l.toArray true).wp P Q a w:=by
 simp only[Region.lexB,Bool.and_eq_true]at hB;refine wp_region_any hm (JH (C:=C) (Q:=fun z w'=>Q .normal z w') (fun _ w' _ h=>h) _ _ _ _ hC ?_);have:=PB (P:=P) (C:=C) (md:=.any) hB.1 D l 0 (Array.replicate l.toArray.size false) a _ hC (by simp) (ZN _) (fun j I=>by omega) (by simpa using hB.2) h;simpa using this
end
end Go
end
section
namespace Go
section
variable {P:Program} {ops:Array Oper} {C:World->Prop} {Q:Act->World->Prop}
def Oper.tame(o:Oper):Bool:=
 match o.op with
 |.move _|.assign _|.pick _ _ _|.load _ _|.binOp _ _ _ _ _|.unOp _ _ _|.convert _ _ _|.fieldAddr _ _ _|.field _ _ _|.indexAddr _ _ _|.index _ _ _|.slice _ _ _ _ _|.extract _ _|.build _ _=>true
 |.call c=>match c.callee with
  |.builtin .len|.builtin .min|.builtin .max=>true
  |_=>false
 |_=>false
theorem jV(s:Sem Value)(w:World)(f:FuncId)(args:Array Value)(w':World):(do pure (Next.value (<-s)):Sem Next).run P w≠.ok (.enter f args) w':=by
 simp only[Sem.run_bind,Sem.run_pure]
 cases s.run P w with
 |ok v w1=>simp[Result.andThen]
 |halt x w1=>simp[Result.andThen]
theorem ae2(s:Sem Bool)(F:Bool->Value)(w:World)(f:FuncId)(args:Array Value)(w':World):(do pure (Next.value (F (<-s))):Sem Next).run P w≠.ok (.enter f args) w':=by
 simp only[Sem.run_bind,Sem.run_pure]
 cases s.run P w with
 |ok v w1=>simp[Result.andThen]
 |halt x w1=>simp[Result.andThen]
theorem Oper.tame_enter{o:Oper}(h:o.tame=true)(ρ:Operand->Value)(w:World)(f:FuncId)(args:Array Value)(w':World):(execOp ρ o).run P w≠.ok (.enter f args) w':=by
 unfold Oper.tame at h;unfold execOp
 split at h<;>rename_i z<;>simp only[z]
 case h_1=>simp
 case h_2=>simp
 case h_3=>exact ae2 _ (fun b=>if b=true then _ else _) _ _ _ _
 case h_4=>exact jV _ _ _ _ _
 case h_5=>exact jV _ _ _ _ _
 case h_6=>exact jV _ _ _ _ _
 case h_7=>exact jV _ _ _ _ _
 case h_8=>exact jV _ _ _ _ _
 case h_9=>exact jV _ _ _ _ _
 case h_10=>exact jV _ _ _ _ _
 case h_11=>exact jV _ _ _ _ _
 case h_12=>exact jV _ _ _ _ _
 case h_13=>exact jV _ _ _ _ _
 case h_14=>exact jV _ _ _ _ _
 case h_15=>
  rename_i c
  split at h
  ·rename_i hc
   simp only[resolve,hc,Sem.run_bind,Sem.run_pure,Result.andThen,invoke,builtin]
   split<;>simp
  ·rename_i hc
   simp only[resolve,hc,Sem.run_bind,Sem.run_pure,Result.andThen,invoke,builtin]
   split<;>simp
  ·rename_i hc
   simp only[resolve,hc,Sem.run_bind,Sem.run_pure,Result.andThen,invoke,builtin]
   split<;>simp
  ·cases h
 case h_16=>cases h
theorem Oper.tame_quiet{o:Oper}(h:o.tame=true):o.loud=false:=by
 unfold Oper.tame at h;unfold Oper.loud
 split
 ·rename_i c hc
  simp only[hc]at h
  split
  ·rename_i z
   simp only[z]at h
   cases h
  ·rfl
 ·rfl
theorem Oper.reads_of_quiet{o:Oper}{a:Act}{K:Act->Prop}(h:o.tame=true)(z:o.quiet P a C K):o.reads P a C K:=by
 obtain⟨v,h1,h2⟩:=z;refine⟨v,fun w hw=>?_,h2⟩;have h3:=h1 w hw;have h4:=Oper.tame_enter (P:=P) h a.eval w;unfold Oper.quietAt at h3
 generalize (execOp a.eval o).run P w=r at *
 cases r with
 |ok n w'=>
  cases n<;>simp only[Oper.quietUpon,Oper.readUpon]at h3 ⊢
  case value u=>exact h3
  case skip=>exact h3
  case enter f args=>exact h4 f args w' rfl
 |halt x w'=>simp only[Oper.quietUpon]at h3
structure WMix (P:Program) (ops:Array Oper) (C:World->Prop) (Q:Act->World->Prop) (l:List Oper) (a:Act) (w:World):Prop where
 out:uP P ops C Q l a w
theorem aeT{K D:Act->Prop}(h:∀a,K a->D a){o:Oper}{a:Act}(z:wpQuiet P ops C K [o] a):wpQuiet P ops C D [o] a:=by
 rw[wpQuiet]at z ⊢
 split
 ·rename_i hw
  rw[if_pos hw]at z;obtain⟨v,h1,h2⟩:=z;exact⟨v,h1,h _ h2⟩
 ·rename_i hw
  rw[if_neg hw]at z;exact h _ z
theorem aaW{a:Act}{w:World}{o:Oper}{rest:List Oper}(h:o.tame=true)(z:wpQuiet P ops C (fun D=>uP P ops C Q rest D w) [o] a):uP P ops C Q (o::rest) a w:=by
 rw[wpQuiet]at z;rw[uP]
 split
 ·rename_i hw
  rw[if_pos hw]at z;rw[if_neg (by rw[Oper.tame_quiet h];simp)];exact Oper.reads_of_quiet h z
 ·rename_i hw
  rw[if_neg hw]at z;exact z
theorem fV{a:Act}{w:World}{o:Oper}{rest:List Oper}(h:o.tame=true)(D:wpQuiet P ops C (fun z=>WMix P ops C Q rest z w) [o] a):WMix P ops C Q (o::rest) a w:=
 ⟨aaW h (aeT (fun _ h=>h.out) D)⟩
theorem TC{a:Act}{w:World}(h:Q a w):WMix P ops C Q [] a w:=⟨h⟩
theorem ac3{o:Oper}{a:Act}{w:World}{K:Act->World->Prop}{f:FuncId}{args:Array Value}(z:(execOp a.eval o).run P w=.ok (.enter f args) w)(h:Calls P f args w fun e w''=>∃v,e=.returned v/\C w''/\K (a.put o.dst v) w''):o.goes P a w C K:=by
 unfold Oper.goes;rw[z];exact⟨rfl,h⟩
theorem gU{a:Act}{w:World}{o:Oper}{rest:List Oper}(f:FuncId)(F:Array Operand)(ts:Array TypeId)(I:o.op=.call { callee:=.value (.func f),args:=F,argTypes:=ts })(D:∀args w,(callFunc f args).run P w=.ok (.enter f args) w)
  (hw:Region.wanted o (yielded ops a.tmps)=true) (h:∀K:Act->World->Prop,(∀z w',C w'->WMix P ops C Q rest z w'->K z w')->Calls P f (F.map a.eval) w fun e w''=>∃v,e=.returned v/\K (a.put o.dst v) w''):WMix P ops C Q (o::rest) a w:=by
 refine⟨?_⟩;rw[uP,if_pos hw,if_pos (by unfold Oper.loud;rw[I])];have h1:=h (fun z w'=>C w'/\WMix P ops C Q rest z w') (fun z w' h1 h2=>⟨h1,h2⟩);refine ac3 (f:=f) (args:=F.map a.eval) ?_ (h1.mono fun e w'' ⟨v,J,hC,hk⟩=>⟨v,J,hC,hk.out⟩);unfold execOp;simp only[I,resolve,Sem.run_bind];have e:=D (F.map a.eval) w;simp[Act.eval,Deferred.ofValue,Sem.run_pure,Result.andThen,invoke,go_sem];exact e
theorem FZ{F:Nat}{Q:Exit->Act->World->Prop}{a:Act}{w:World}{l:List Oper}(hm:P.follows .mixedOrders=true)(hB:Region.lexB .any l.toArray=true)(z:Region.chained .any l.toArray=true)
  (hC:C w.drew) (h:WMix P l.toArray C (fun D w'=>Q .normal D w') l a w.drew):(Code.region F l.toArray true).wp P Q a w:=
 RD hm hB z hC h.out
end
end Go
end
namespace Go.Proofs.YtkdbkjjacgigiaaGreatDoor
section
open Go.RowKit Go.G5 Go.Proofs.Tryz
end
section
open Go.RowKit Go.G5 Go.Proofs.Tryz
end
section
open Go.RowKit Go.G5 Go.Proofs.Tryz
end
section
open Go.RowKit Go.G5 Go.Proofs.Tryz
theorem anC{p:Prop}(h:p:=by
  clear Z;go_wp2;go_region_held3 (fun _=>True) (trivial)
   (first
    |(refine gE rfl _ _ _ rfl 3 underlying25 aN w.heap.size (aA (some ⟨_,0,none⟩) 0 0) [] rfl (aA a k c) (l.take k) rfl ?_ ?_ ?_ w ?_ aI ?_;(first|(with_reducible exact(aM.lit0 w aI).drew')|(with_reducible exact((aM.lit0 w aI).alloc _).drew')|(with_reducible exact(aM.lit0' w _).drew'));(first|(with_reducible exact(u2.alloc _).drew')|(with_reducible exact((u2.alloc _).alloc _).drew'));(simp;omega);(first|(with_reducible exact(bF w _).drew)|(with_reducible exact(wI w _ _).drew));(intro v1 w1 o1 b1 pc))
    |(refine gE rfl _ _ _ rfl 3 underlying25 aN w.heap.size v1 ([]++l.take k) rfl (aA (some ⟨_,0,none⟩) 1 1) [x] rfl ?_ ?_ ?_ w ?_ aI ?_;(first|(with_reducible exact o1)|(with_reducible exact o1.alloc _));(refine aK.one ?_ hx;first|(with_reducible exact aZ _ _ _ _ _ rfl)|(with_reducible exact pc _ _ (rJ _ _ _ _) (wW _ _ _))|(with_reducible exact pc _ _ (sZ _ _ _ _) (wX _ _ _)));(simp;omega);(first|(with_reducible exact b1)|(with_reducible exact b1.alloc b1.size _));(intro v2 w2 o2 b2 _))
    |(refine gE rfl _ _ _ rfl 3 underlying25 aN w.heap.size v2 (([]++l.take k)++[x]) rfl (aA a' (l.length-k) c') (l.drop k) rfl o2 (d2.below b2 aI) ?_ w b2 aI ?_;(simp;omega);(intro v3 w3 o3 b3 _;obtain⟨av,nv,cv,rfl⟩:=o3.shape3))
   )
  all_goals
   go_wp2;go_ret;exact⟨av,nv,cv,rfl,by rw[HP.out];exact o3.mono hB,b3,fun _ h=>.inr (o3.lt _ h).1⟩):p:=h
theorem adE(B:Nat)(l:List Int)(v:Value)(x:Int)(w:World)(D:aM 3 B w v l)(hB:B<=w.heap.size)(z:l.Pairwise (· < ·))(hl:l.length<=1048576)(hx:dL x):
  Calls prog 155 #[v,x] w fun e w'=>∃ad i cp,e=.returned (aA ad i cp)/\aM 3 B w' (aA ad i cp) (E7 l x)/\Below w w w'/\(∀k,(Value.slice ad i cp).ownBlock=some k->v.ownBlock=some k∨w.heap.size<=k):=by
 have hv:=D.ints;have S:=hv;obtain⟨a,b,f4,c,rfl,b9,O,hc,hb⟩:=hv.view prog 25 3 underlying25 aN;have HA:=aH z;clear z;go_enter func155,ntmps155;go_wp2;go_loop [5] (fun i=>∃k:Nat,k<=l.length/\i=aG k/\∀y∈l.drop k,x<y) (fun i=>(intOf i).toNat)
 case atStart=>exact⟨l.length,aI,rfl,by simp⟩
 case round=>
  obtain⟨k,hk,rfl,N⟩:=hrel;have J:=aH N;clear N;have M:∀(hz:(∀y∈l.take k,y<x)),E7 l x=(([]++l.take k)++[x])++l.drop k:=fun hz=>ao8 l x k HA.out J.out hz;obtain⟨u1,u2⟩:=S.upto 25 3 underlying25 aN k hk;obtain⟨a',c',d1,d2⟩:=S.from 25 3 underlying25 aN k hk
  have I:=aH M;have zk:(l.take k).length=k:=by rw[List.length_take,Nat.min_eq_left hk]
  have zd:(l.drop k).length=l.length-k:=List.length_drop;rw[zd]at d1 d2;clear zk zd;clear M;by_cases hz:(0:Int)<k
  ·have R:k-1<l.length:=aD;have a9:=hc (k-1) R;have b8:=fun W=>O W (k-1) R;obtain⟨y,Y⟩:=aJ (l[k-1]);rw[<-Y]at a9;have e8:IntKind.i64.wrap ((k:Int)-1)=((k-1:Nat):Int):=by rw[IntWalk.i64_in _ ⟨by omega,by omega⟩];omega
   have HY:=aH Y;clear Y O hc;rcases Int.lt_trichotomy x y with hlt|b0|b4
   ·have e7:x<y:=hlt;go_wp2;go_round
    case rel=>refine⟨k-1,by omega,by go_num,?_⟩;have:=acX l x (k-1) R (by rw[show k-1+1=k by omega];exact J.out) (by rw[<-HY.out];exact hlt);exact this
    case measure=>simp[intOf];omega
   ·subst b0;have F:=amB l x HA.out (by rw[HY.out];exact List.getElem_mem R);have K:=aH F;clear F;go_wp2;go_ret;exact⟨a,l.length,c,rfl,by rw[K.out];exact D,Below.refl _ _,fun _ h=>.inl h⟩
   ·have hn:¬x<y:=aD;have e9:(y==x)=false:=by simp;omega
    have Z:=I.out (by
     have:=aeK l x (k-1) HA.out R (by rw[<-HY.out];exact b4);rw[show k-1+1=k by omega]at this;exact this)
    have HP:=aH Z;exact anC
  ·have Z:=I.out (by intro y Y;have:k=0:=aD;subst this;simp at Y);have HP:=aH Z;exact anC
theorem aM.lit1{E:TypeId}{B:Nat}(w:World)(y:Int)(D:dL y)(hB:B<=w.heap.size):aM E B (w.alloc (.cells #[y] E)) (aA (some ⟨w,0,none⟩) 1 1) [y]:=
 ⟨World.ownsRow_lit w #[y] 1 hB aQ rfl,by intro q z;simp only[List.mem_singleton]at z;subst z;exact D⟩
theorem aoI{a b:Int}(z:0<=a):a-bB a b=cG a b:=by
 have:=@Nat.and_le_left a.toNat b.toNat;unfold bB cG cO;omega
theorem WW{p:Prop}(h:p:=by
  go_enter func112,ntmps112;go_wp2;go_ret2;exact⟨_,_,_,rfl,aM.lit0 w aI,(by repeat(first|exact Below.refl _ _|(with_reducible refine Below.setCell ?_ (by first|omega|(simp;done)|(simp;omega)) _)|(with_reducible refine Below.alloc ?_ (by first|omega|(simp;done)|(simp;omega)) _)|(with_reducible refine Below.drewN' ?_ _)|(with_reducible refine Below.drew ?_)|(with_reducible assumption)|refine Below.trans ?_ (Below.mono (by assumption) (by first|omega|(simp;done)|(simp;omega)))))⟩):p:=h
theorem WQ(l:List Int)(hl:l.length<=1048576)(hm:∀s∈l,0<=s/\s<64):∀(k:Nat) (_:k<=60) (K:Int) (_:K=k) (i:Nat) (_:i<=l.length) (L:Int) (_:0<=L) (_:L<64) (w:World) (v:Value) (_:aK w v l),
  Calls prog 112 #[v,(i:Int),L,K] w fun e w'=>
   ∃z i' D,e=.returned (.tuple #[aA z i' D,.bool (fJ (l.drop i) k L).isSome])/\aM 3 w w' (aA z i' D) ((fJ (l.drop i) k L).getD [])/\Below w w w':=by
 intro k
 induction k with
 |zero=>
  intro _ K hK i hi L h0 h1 w v hv;obtain⟨a,c,rfl⟩:=hv.shape;have:K=0:=hK;subst this;clear hK;by_cases I:L=0
  ·subst I;rw[vE];clear hm;exact WW
  ·rw[xP _ _ I];have ht:(L==0)=false:=by simpa using I
   clear hm I;exact WW
 |succ k ih=>
  intro hk K hK i hi L h0 h1 w v hv;by_cases I:L=0
  ·obtain⟨a,c,rfl⟩:=hv.shape;subst I;rw[vE];clear hm ih;exact WW
  have ht:(L==0)=false:=by simpa using I
  obtain⟨a,b,j0,c,rfl,e6,i1,hc,hb⟩:=hv.view prog 25 3 underlying25 aN;have i6:(K==0)=false:=by simp;omega
  have O:1<=K/\K<=60:=aD;have h6:=O.1;have h7:=O.2;obtain⟨q,hq⟩:=aJ (fJ (l.drop i) (k+1) L);rw[<-hq];have HQ:=aH hq;have HM:=aH hm;have HK:=aH hK;have IH:=aH ih;have HL:=aH I;clear hm hK ih I O hq;go_enter func112,ntmps112;go_wp2_with fail;go_loopw [10] (fun x wr=>∃j:Nat,i<=j/\j<=l.length/\x=aG j/\fJ (l.drop j) (k+1) L=q/\Below w w wr) (fun x _=>l.length-(intOf x).toNat)
  case atStart=>exact⟨i,aI,hi,rfl,HQ.out.symm,Below.refl _ _⟩
  case round=>
   obtain⟨j,h9,hj,rfl,b0,B⟩:=hrel;have F:=aH b0;clear b0;have a9:=aR hc hb B aI;by_cases hlt:j<l.length
   ·have J:=HM.out _ (List.getElem_mem hlt);have R:=a9 j hlt;have S:l.drop j=l[j]::l.drop (j+1):=List.drop_eq_getElem_cons hlt;obtain⟨s,hs⟩:=aJ (l[j]);rw[<-hs]at J R S;have b7:=J.1;have i7:=J.2;have N:=aH S;have hA:=dU b7 (show s<4611686018427387904 by omega) h0 aD;have g9:=dU h0 (show L<4611686018427387904 by omega) b7 aD;have h5:=kE L s 64 h0 h1;clear S a9 J hs;by_cases Y:bB s L=0
    ·have f0:(bB s L==0)=true:=by simp[Y]
     have b4:fJ (l.drop (j+1)) (k+1) L=q:=by rw[<-F.out,N.out];simp only[fJ,if_neg HL.out,if_pos Y]
     have d0:=aH b4;clear b4 Y;go_wp2;go_roundw
     case rel=>exact⟨j+1,by omega,by omega,by go_num,d0.out,B⟩
     case measure=>simp[intOf];omega
    ·have f0:(bB s L==0)=false:=by simp[Y]
     obtain⟨o,ho⟩:=aJ (fJ (l.drop (j+1)) k (cG L s));have b3:o=none->fJ (l.drop (j+1)) (k+1) L=q:=fun e=>by rw[<-F.out,N.out];simp only[fJ,if_neg HL.out,if_neg Y];rw[<-ho,e]
     have b8:∀x,o=some x->q=some (s::x):=fun x e=>by rw[<-F.out,N.out];simp only[fJ,if_neg HL.out,if_neg Y];rw[<-ho,e]
     have hlo:∀x,o=some x->x.length<=60:=fun x e=>by have:=U8 _ _ _ x (ho.symm.trans e);omega
     have c8:=aH hlo;have c9:=aH b3;have e4:=aH b8;have hd:=mY L s 64 h0 h1;have b1:∀(W:World),aK W (aA a l.length c) l->Calls prog 112 #[aA a l.length c,aG ((j:Int)+1),aG (L-bB L s),aG (K-1)] W fun e w'=>
       ∃z i' D,e=.returned (.tuple #[aA z i' D,.bool o.isSome])/\aM 3 W w' (aA z i' D) (o.getD [])/\Below W W w':=by
      intro W hW;have:=IH.out aD (K-1) (by have:=HK.out;omega) (j+1) aD (cG L s) hd.1 hd.2 W _ hW;rw[<-ho]at this;rw[aoI h0];exact this
     have c7:=aH b1;have f2:=hv.below B aI;clear b3 b8 b1 ho Y hd hlo;go_wp2_with fail;refine(c7.out _ f2).mono ?_;rintro e w5 ⟨p5,i5,q5,rfl,o5,a8⟩;have Z:=B.after a8 B.size;have f5:=keep a8 R
     cases o with
     |none=>
      have HN:=aH (c9.out rfl);go_wp2;go_roundw
      case rel=>exact⟨j+1,by omega,by omega,by go_num,HN.out,Z⟩
      case measure=>simp[intOf];omega
     |some x=>have HS:=aH (e4.out x rfl);have e7:=c8.out x rfl;have e0:=aH o5;clear R o5;go_wp2_with (at_builtin;refine xG rfl _ _ _ rfl 3 underlying25 aN w5.heap.size _ [s] rfl (aM.lit1 w5 s ⟨by omega,by omega⟩ aI) _ x rfl (e0.out.ints.alloc _) aT (by simp) ?_;intro v' w6 M e5;obtain⟨av,nv,cv,rfl⟩:=M.shape3);go_ret2;have z5:=Z.size;refine⟨av,nv,cv,by rw[HS.out];rfl,by rw[HS.out];exact M.mono Z.size,(Z.alloc Z.size _).grown e5 (by first|omega|(simp;done)|(simp;omega)) ?_⟩;intro r hr;have e9:some w5.heap.size=some r:=hr;have:=Option.some.inj e9;have:=Z.size;omega
   ·have b6:q=none:=by rw[<-F.out,List.drop_eq_nil_of_le aD];exact DT _ _ HL.out
    have a6:=aH b6;clear b6;go_wp2;go_ret2;exact⟨_,_,_,by rw[a6.out];rfl,by rw[a6.out];exact aM.lit0 wr B.size,B.alloc B.size _⟩
theorem aaS(w:World)(g:Int)(v:Value)(l:List Int)(hv:aK w v l)(e8:l.length<=1048576):
  Calls prog 66 #[.agg #[g,v]] w fun e w'=>∃ad i cp,e=.returned (.tuple #[aA ad i cp,.bool (jU g l)])/\aM 3 w w' (aA ad i cp) (fB g l)/\Below w w w':=by
 obtain⟨a,c,rfl⟩:=hv.shape;obtain⟨K,d1,B1,z1⟩:=Box2.new w g (aA a l.length c) 29;obtain⟨W0,D⟩:=aJ (w.alloc (.cells #[g,aA a l.length c] 29));rw[<-D]at K d1 B1 z1
 cases R:aU g l with
 |false=>
  have hx:mC g l=none:=by unfold mC;rw[R];rfl
  have I:jU g l=false:=by unfold jU;rw[hx];rfl
  have J:fB g l=[]:=by unfold fB;rw[hx];rfl
  have HB:=aH I;have HL:=aH J;have HF:=aH R;clear hx I J R;go_enter func66,ntmps66;go_wp2;rw[<-D];clear D;refine wp_loop_rounds 1 ?_;rw[rounds_succ];go_wp2_with fail;refine(cK g l _ _ (hv.below B1 aI)).mono ?_;rintro e w2 ⟨rfl,M⟩;rw[HF.out];have B2:=B1.after M B1.size;go_wp2;go_ret2;exact⟨_,_,_,by rw[HB.out];rfl,by rw[HL.out];exact aM.lit0 w2 B2.size,B2.alloc B2.size _⟩
 |true=>
  obtain⟨h0,h6,hs,_⟩:=dB R;have hm:=dR R;obtain⟨G,rfl⟩:=Int.eq_ofNat_of_zero_le h0;have hG:G<=6:=aD;have hp:=cJ G 6 hG;have h9:(2:Int)^G<=64:=by simpa using hp.1
  have i1:=hp.2;obtain⟨f,Z⟩:=aJ ((2:Int)^G-1);have b5:∀W,Calls prog 78 #[G] W fun e w'=>e=.returned f/\W=w':=fun W=>by rw[Z];exact eO G W aD
  have N:mC G l=gG (fun k=>fJ l k f) 0 (G+1):=by unfold mC;rw[if_pos R,Z];rfl
  obtain⟨q,hq⟩:=aJ (gG (fun k=>fJ l k f) 0 (G+1));rw[<-hq]at N;have I:jU G l=q.isSome:=by unfold jU;rw[N]
  have J:fB G l=q.getD []:=by unfold fB;rw[N]
  have e5:0<=f:=aD;have e6:f<64:=aD;have HM:=aH hm;have c9:=aH b5;have HB:=aH I;have HL:=aH J;have HQ:=aH hq;have HF:=aH R;clear hm b5 I J hq N R Z hs hp;go_enter func66,ntmps66;go_wp2_with fail;rw[<-D];clear D;go_loopw [4] (fun i wr=>∃k:Nat,k<=G+1/\i=aG k/\gG (fun k=>fJ l k f) k (G+1-k)=q/\Box2 w wr G (aA a l.length c)) (fun i _=>G+1-(intOf i).toNat)
  case atStart=>exact⟨0,Nat.zero_le _,rfl,HQ.out.symm,⟨K,d1,B1,z1⟩⟩
  case round=>
   obtain⟨k,hk,rfl,b4,X⟩:=hrel;clear K d1 B1 z1;have S:=aH b4;clear b4;obtain⟨K,d1,O,z4⟩:=X;go_wp2_with fail;refine(cK G l _ _ (hv.below O aI)).mono ?_;rintro e w2 ⟨rfl,M⟩;rw[HF.out];have X2:=(Box2.mk K d1 O z4).after M;clear K d1 O z4 M;obtain⟨K,d1,O,z4⟩:=X2;have zw:w.heap.size<w2.heap.size:=z4;clear z4;by_cases hlt:k<=G
   ·have f3:=hv.below O aI;have b7:gG (fun k=>fJ l k f) k (G+1-k)=(match fJ l k f with|some x=>some x|none=>gG (fun k=>fJ l k f) (k+1) (G+1-(k+1))):=by rw[show G+1-k=(G+1-(k+1))+1 by omega];rfl
    have a7:=aH b7;obtain⟨o,ho⟩:=aJ (fJ l k f);have b3:∀(W:World),aK W (aA a l.length c) l->Calls prog 112 #[aA a l.length c,aB,f,k] W fun e w'=>
      ∃a9 i' b0,e=.returned (.tuple #[aA a9 i' b0,.bool o.isSome])/\aM 3 W w' (aA a9 i' b0) (o.getD [])/\Below W W w':=fun W hW=>by
     have:=WQ l e8 HM.out k aD k rfl 0 (Nat.zero_le _) f e5 e6 W _ hW;rw[List.drop_zero,<-ho]at this;exact this
    have c7:=aH b3;have HO:=aH ho;clear b7 b3 ho;go_wp2_with fail;go_region_held3 (fun w'=>w'.cell? ⟨w.heap.size,0,none⟩=some (aG G)/\w'.cell? ⟨w.heap.size,1,none⟩=some (aA a l.length c)) (go_keep)
     (first
      |(go_at_call 78;refine(c9.out _).mono ?_;rintro e w5 ⟨rfl,rfl⟩)
      |(go_at_call 112;refine(c7.out _ (f3.below (B:=w2.heap.size) (by repeat(first|exact Below.refl _ _|(with_reducible refine Below.setCell ?_ (by first|omega|(simp;done)|(simp;omega)) _)|(with_reducible refine Below.alloc ?_ (by first|omega|(simp;done)|(simp;omega)) _)|(with_reducible refine Below.drewN' ?_ _)|(with_reducible refine Below.drew ?_)|(with_reducible assumption)|refine Below.trans ?_ (Below.mono (by assumption) (by first|omega|(simp;done)|(simp;omega))))) aI)).mono ?_;rintro e w6 ⟨p6,i6,q6,rfl,o6,b1⟩;obtain⟨Y,e7⟩:=gN b1 w2.heap.size (by first|omega|(simp;done)|(simp;omega));have z6:=b1.size;(try simp at z6)))
    have B6:Below w w w6:=(by repeat(first|exact Below.refl _ _|(with_reducible refine Below.setCell ?_ (by first|omega|(simp;done)|(simp;omega)) _)|(with_reducible refine Below.alloc ?_ (by first|omega|(simp;done)|(simp;omega)) _)|(with_reducible refine Below.drewN' ?_ _)|(with_reducible refine Below.drew ?_)|(with_reducible assumption)|refine Below.trans ?_ (Below.mono (by assumption) (by first|omega|(simp;done)|(simp;omega)))));have X6:Box2 w w6 G (aA a l.length c):=⟨(Y _ _ zw).trans K,(Y _ _ zw).trans d1,B6,by omega⟩;have a8:=aH X6;have e4:=aH o6;clear X6 o6 Y e7 K d1
    cases o with
    |none=>
     have b6:gG (fun k=>fJ l k f) (k+1) (G+1-(k+1))=q:=by have h1:=a7.out;rw[<-HO.out,S.out]at h1;exact h1.symm
     have e0:=aH b6;clear b6;go_wp2;go_roundw
     case rel=>exact⟨k+1,by omega,by go_num,e0.out,a8.out⟩
     case measure=>simp[intOf];omega
    |some x=>
     have F:q=some x:=by have h1:=a7.out;rw[<-HO.out,S.out]at h1;exact h1
     have z:=aH F;clear F;go_wp2;go_ret2;exact⟨p6,i6,q6,by rw[HB.out,z.out];rfl,by rw[HL.out,z.out];exact e4.out.mono (by first|omega|(simp;done)|(simp;omega)),a8.out.B⟩
   ·have F:q=none:=by rw[<-S.out,show G+1-k=0 by omega];rfl
    have z:=aH F;clear F;go_wp2;go_ret2;exact⟨_,_,_,by rw[HB.out,z.out];rfl,by rw[HL.out,z.out];exact aM.lit0 w2 O.size,O.alloc O.size _⟩
end
end Go.Proofs.YtkdbkjjacgigiaaGreatDoor
