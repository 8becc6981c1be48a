/- Lemmas for CardRunConsole. No condition. -/
import Derived.Test.YtkdbkjjacgigiaaGreatDoorR12
set_option maxRecDepth 100000
set_option maxHeartbeats 64000000
section
namespace Go
section
variable {P:Program} {ops:Array Oper} {md:Region.Mode} {C:World->Prop}
def Oper.loud(o:Oper):Bool:=
 match o.op with
 |.call c=>match c.callee with
  |.value _=>true
  |_=>false
 |_=>false
def Oper.readUpon(w:World)(v:Value):Result Next->Prop
 |.ok (.value u) w'=>w'=w/\u=v
 |.ok .skip w'=>w'=w/\v=undef
 |_=>False
def Oper.reads(P:Program)(o:Oper)(a:Act)(C:World->Prop)(K:Act->Prop):Prop:=∃v,(∀w,C w->Oper.readUpon w v ((execOp a.eval o).run P w))/\K (a.put o.dst v)
def Oper.goesUpon(P:Program)(C:World->Prop)(w:World)(K:Value->World->Prop):Result Next->Prop
 |.ok (.enter f args) w'=>w'=w/\Calls P f args w (fun e w''=>∃v,e=.returned v/\C w''/\K v w'')
 |_=>False
def Oper.goes(P:Program)(o:Oper)(a:Act)(w:World)(C:World->Prop)(K:Act->World->Prop):Prop:=Oper.goesUpon P C w (fun v w''=>K (a.put o.dst v) w'') ((execOp a.eval o).run P w)
def xJ(P:Program)(ops:Array Oper)(C:World->Prop)(Q:Act->World->Prop):List Oper->Act->World->Prop
 |[],a,w=>Q a w
 |o::rest,a,w=>if Region.wanted o (yielded ops a.tmps) then (if o.loud then o.goes P a w C (xJ P ops C Q rest) else o.reads P a C (fun z=>xJ P ops C Q rest z w)) else xJ P ops C Q rest (a.put o.dst undef) w
def mixOp(P:Program)(ops:Array Oper)(C:World->Prop)(i:Nat)(K:Act->World->Prop)(a:Act)(w:World):Prop:=
 match ops[i]? with
 |none=>K a w
 |some o=>if Region.wanted o (yielded ops a.tmps) then (if o.loud then o.goes P a w C K else o.reads P a C (fun z=>K z w)) else K (a.put o.dst undef) w
theorem Oper.goes_mono{o:Oper}{a:Act}{w:World}{K D:Act->World->Prop}(h:∀a w,C w->K a w->D a w)(z:o.goes P a w C K):o.goes P a w C D:=by
 unfold Oper.goes at *
 generalize (execOp a.eval o).run P w=r at *
 cases r with
 |ok n w'=>
  cases n<;>simp only[Oper.goesUpon]at z |-
  case enter f args=>
   exact⟨z.1,z.2.mono fun e w'' ⟨v,I,hC,F⟩=>⟨v,I,hC,h _ _ hC F⟩⟩
 |halt x w'=>simp only[Oper.goesUpon]at z
theorem RB{i:Nat}{a:Act}{w:World}{K F:Act->World->Prop}(hw:C w)(h:∀a w,C w->K a w->F a w)(z:mixOp P ops C i K a w):mixOp P ops C i F a w:=by
 unfold mixOp at *
 split
 .exact h _ _ hw (by simpa[*]using z)
 .rename_i o I
  simp only[I]at z
  split
  .rename_i D
   simp only[D,if_true]at z
   split
   .rename_i hl;simp only[hl,if_true]at z;exact Oper.goes_mono h z
   .rename_i hl
    simp only[hl]at z;obtain⟨v,h1,h2⟩:=z;exact⟨v,h1,h _ _ hw h2⟩
  .rename_i D;simp only[D]at z;exact h _ _ hw z
def xE(P:Program)(md:Region.Mode)(ops:Array Oper)(C:World->Prop)(Q:Act->World->Prop):Nat->Array Bool->Act->World->Prop
 |0,listed,a,w=>Region.ready md ops listed=[]/\Q a w
 |fuel+1,listed,a,w=>
  (Region.ready md ops listed=[]->Q a w) /\
  ∀i∈Region.ready md ops listed,mixOp P ops C i (xE P md ops C Q fuel (listed.setIfInBounds i true)) a w
theorem Oper.wp_of_goes{o:Oper}{a:Act}{w:World}{K:Act->World->Prop}{F:Exit->Act->World->Prop}{D:Act->World->Prop}(h:∀a w',C w'->K a w'->D a w')(z:o.goes P a w C K):o.wp P a w D F:=by
 unfold Oper.goes at z;unfold Oper.wp
 generalize (execOp a.eval o).run P w=r at *
 cases r with
 |ok n w'=>
  cases n<;>simp only[Oper.goesUpon]at z<;>simp only[Oper.upon]
  case enter f args=>
   obtain⟨e1,hc⟩:=z;rw[e1];exact hc.mono fun e w'' ⟨v,J,hC,I⟩=>by subst J;exact h _ _ hC I
 |halt x w'=>simp only[Oper.goesUpon]at z
theorem Oper.wp_of_reads{o:Oper}{a:Act}{w:World}{K:Act->Prop}{D:Exit->Act->World->Prop}{z:Act->World->Prop}(hw:C w)(h:∀a,K a->z a w)(F:o.reads P a C K):o.wp P a w z D:=by
 obtain⟨v,h1,h2⟩:=F;have h3:=h1 w hw;unfold Oper.wp
 generalize (execOp a.eval o).run P w=r at *
 cases r with
 |ok n w'=>
  cases n<;>simp only[Oper.readUpon]at h3<;>simp only[Oper.upon]
  case value u=>
   obtain⟨e1,e2⟩:=h3;rw[e1,e2];exact h _ h2
  case skip=>
   obtain⟨e1,e2⟩:=h3;rw[e1,<-e2];exact h _ h2
 |halt x w'=>simp only[Oper.readUpon]at h3
theorem W8{i:Nat}{a:Act}{w:World}{K F:Act->World->Prop}{I:Exit->Act->World->Prop}(hC:C w)(h:∀a w',C w'->K a w'->F a w')(z:mixOp P ops C i K a w):wpOp P ops I i F a w:=by
 unfold mixOp at z;unfold wpOp
 split
 .rename_i D;simp only[D]at z;exact h _ _ hC z
 .rename_i o D
  simp only[D]at z
  split
  .rename_i hw
   simp only[hw,if_true]at z
   left
   by_cases hl:o.loud=true
   .simp only[hl,if_true]at z;exact Oper.wp_of_goes h z
   .simp only[hl]at z;exact Oper.wp_of_reads hC (fun a J=>h _ _ hC J) z
  .rename_i hw;simp only[hw]at z;exact h _ _ hC z
theorem MO{Q:Act->World->Prop}{F:Exit->Act->World->Prop}(z:∀a w,C w->Q a w->F .normal a w):∀(fuel:Nat) (listed:Array Bool) (a:Act) (w:World),C w ->
  xE P md ops C Q fuel listed a w->wpAny P md ops F fuel listed a w
 |0,_,_,_,hw,h=>⟨h.1,z _ _ hw h.2⟩
 |fuel+1,_,_,_,hw,h=>⟨fun J=>z _ _ hw (h.1 J),fun i K=>W8 hw (fun I w' D=>MO z fuel _ I w' D) (h.2 i K)⟩
def sT(P:Program)(ops:Array Oper)(C:World->Prop)(o:Oper)(v:Value)(a:Act):Prop:=
 (Region.wanted o (yielded ops a.tmps)=true/\o.loud=false/\∀w,C w->Oper.readUpon w v ((execOp a.eval o).run P w)) \/
 (Region.wanted o (yielded ops a.tmps)=false/\v=undef)
theorem sT.mixOp{i:Nat}{o:Oper}{v:Value}{a:Act}{w:World}(z:ops[i]?=some o)(F:sT P ops C o v a){K:Act->World->Prop}(h:K (a.put o.dst v) w):mixOp P ops C i K a w:=by
 unfold Go.mixOp;simp only[z]
 rcases F with⟨hw,hl,D⟩|⟨hw,rfl⟩
 .simp only[hw,hl,if_true]
  exact⟨v,D,h⟩
 .simp only[hw];exact h
theorem sT.of_same{o:Oper}{v:Value}{a z:Act}(F:sT P ops C o v a)(D:execOp z.eval o=execOp a.eval o)
  (hw:Region.wanted o (yielded ops z.tmps)=Region.wanted o (yielded ops a.tmps)):sT P ops C o v z:=by
 unfold sT at *;rw[D,hw];exact F
theorem ak9{j:Nat}{oi oj:Oper}{v:Value}(R:ops[j]?=some oj)(F:oi.apart ops oj=true)
  (I:∀cs b,oi.op≠.select cs b) (z:∀cs b,oj.op≠.select cs b) {K:Act->World->Prop} {a:Act} {w:World}
  (D:sT P ops C oi v a) (h:mixOp P ops C j K (a.put oi.dst v) w):
  mixOp P ops C j (fun M w'=>sT P ops C oi v M/\K (M.put oi.dst v) w') a w:=by
 obtain⟨h1,h2,h3⟩:=Oper.apart_spec F;have keep:∀(a:Act),sT P ops C oi v a->∀u,sT P ops C oi v (a.put oj.dst u):=fun a D u=>
  D.of_same (execOp_put oi I a oj.dst u h3) (wanted_put oi a oj.dst u h3)
 unfold mixOp at *;simp only[R]at *;rw[wanted_put oj a oi.dst v h1]at h
 split
 .rename_i hw
  simp only[hw,if_true]at h
  split
  .rename_i hl
   simp only[hl,if_true]at h;unfold Oper.goes at *;rw[execOp_put oj z a oi.dst v h1]at h
   generalize (execOp a.eval oj).run P w=r at *
   cases r with
   |ok n w'=>
    cases n<;>simp only[Oper.goesUpon]at h |-
    case enter f args=>
     exact⟨h.1,h.2.mono fun e w'' ⟨u,O,hC,N⟩=>⟨u,O,hC,keep a D u,by rw[<-Act.put_comm a v u h2];exact N⟩⟩
   |halt x w'=>simp only[Oper.goesUpon]at h
  .rename_i hl
   simp only[hl]at h;obtain⟨u,Y,S⟩:=h;refine⟨u,fun w J=>?_,keep a D u,by rw[<-Act.put_comm a v u h2];exact S⟩;have:=Y w J
   rwa [execOp_put oj z a oi.dst v h1]at this
 .rename_i hw
  simp only[hw]at h;exact⟨keep a D _,by rw[<-Act.put_comm a v undef h2];exact h⟩
theorem MN{Q:Act->World->Prop}{i:Nat}{oi:Oper}{v:Value}(hi:ops[i]?=some oi)(J:∀(j:Nat) (o:Oper) cs b,ops[j]?=some o->o.op≠.select cs b):
  ∀(fuel:Nat) (listed:Array Bool) (a:Act) (w:World),C w ->
   (∀j oj,ops[j]?=some oj->j≠i->listed.getD j true=false->(∀e∈oj.after,Region.binds md e=true->e.on≠i)->oi.apart ops oj=true) ->
   i∈Region.ready md ops listed->sT P ops C oi v a ->
   xE P md ops C Q fuel (listed.setIfInBounds i true) (a.put oi.dst v) w->xE P md ops C Q (fuel+1) listed a w:=by
 intro fuel
 induction fuel with
 |zero=>
  intro listed a w hC _ hr Y H;refine⟨fun h=>(by rw[h]at hr;cases hr),fun j S=>?_⟩
  by_cases z:j=i
  .subst z;exact Y.mixOp hi H
  .have:=ready_mono S z
   rw[H.1]at this
   cases this
 |succ fuel ih=>
  intro listed a w hC D hr Y H;refine⟨fun h=>(by rw[h]at hr;cases hr),fun j S=>?_⟩
  by_cases z:j=i
  .subst z;exact Y.mixOp hi H
  .have h1:=H.2 j (ready_mono S z)
   obtain⟨I,oj,K,M⟩:=mem_ready.1 S;have O:∀e∈oj.after,Region.binds md e=true->e.on≠i:=fun e he hb a6=>by
    have h1:=M e he hb;have h0:=(mem_ready.1 hr).1;rw[a6]at h1
    rcases Nat.lt_or_ge i listed.size with Z|Z
    .simp[Z]at h0 h1;rw[h0]at h1;cases h1
    .simp[Array.getElem?_eq_none Z]at h1
   have h2:=ak9 K (D j oj K z I O) (fun cs b=>J i oi cs b hi) (fun cs b=>J j oj cs b K) Y h1;have F:∀k ok,ops[k]?=some ok->k≠i->(listed.setIfInBounds j true).getD k true=false ->
     (∀e∈ok.after,Region.binds md e=true->e.on≠i)->oi.apart ops ok=true:=fun k ok hk a8 R a9=>by
    refine D k ok hk a8 ?_ a9
    by_cases N:j=k
    .subst N;exact I
    .rw[getD_set_ne true N]at R;exact R
   refine RB hC (fun a' w' a1 h3=>ih (listed.setIfInBounds j true) a' w' a1 F (ready_mono hr (Ne.symm z)) h3.1 ?_) h2;rw[Array.setIfInBounds_comm _ _ z];exact h3.2
def Region.waits(md:Region.Mode)(ops:Array Oper)(i:Nat):Nat->Nat->Bool
 |0,_=>false
 |n+1,j=>match ops[j]? with
  |none=>false
  |some o=>o.after.any fun e=>Region.binds md e&&(e.on==i||Region.waits md ops i n e.on)
def Region.chained(md:Region.Mode)(ops:Array Oper):Bool:=
 (List.range ops.size).all fun i=>match ops[i]? with
  |none=>true
  |some oi=>!oi.loud||(List.range ops.size).all fun j=>decide (j<=i)||match ops[j]? with
   |none=>true
   |some oj=>!oj.loud||Region.waits md ops i ops.size j
def Region.closed(md:Region.Mode)(ops:Array Oper)(listed:Array Bool):Prop:=
 ∀(k:Nat) (o:Oper),ops[k]?=some o->listed.getD k false=true->∀e∈o.after,Region.binds md e=true->listed.getD e.on false=true
theorem abE{i:Nat}{listed:Array Bool}(hc:Region.closed md ops listed):∀(n j:Nat),Region.waits md ops i n j=true->(∀o,ops[j]?=some o->∀e∈o.after,Region.binds md e=true->listed.getD e.on false=true)->listed.getD i false=true:=by
 intro n
 induction n with
 |zero=>intro j h;simp[Region.waits]at h
 |succ n ih=>
  intro j h z;unfold Region.waits at h
  cases I:ops[j]? with
  |none=>rw[I]at h;cases h
  |some o=>
   rw[I]at h;obtain⟨e,M,hb⟩:=Array.any_eq_true'.1 h;simp only[Bool.and_eq_true,Bool.or_eq_true,beq_iff_eq]at hb;have hl:=z o I e M hb.1
   rcases hb.2 with h1|h1
   .rw[<-h1];exact hl
   .exact ih e.on h1 (fun N J K F D=>hc e.on N J hl K F D)
theorem P1{j:Nat}{listed:Array Bool}(hc:Region.closed md ops listed)(I:j∈Region.ready md ops listed):Region.closed md ops (listed.setIfInBounds j true):=by
 obtain⟨_,o,J,z⟩:=mem_ready.1 I;intro k ok hk hl e F hb;refine getD_set_true ?_
 by_cases D:j=k
 .subst D
  rw[J]at hk
  cases hk
  exact z e F hb
 .refine hc k ok hk ?_ e F hb
  rw[getD_set_ne false D]at hl;exact hl
theorem U1{o:Oper}{a:Act}{w:World}{K:Act->World->Prop}(h:o.goes P a w C K):∃v w',C w'/\K (a.put o.dst v) w':=by
 unfold Oper.goes at h
 generalize (execOp a.eval o).run P w=r at *
 cases r with
 |ok n w'=>
  cases n<;>simp only[Oper.goesUpon]at h
  case enter f args=>
   obtain⟨e,w'',z,⟨v,_,h2,h3⟩,_⟩:=h.2 [];exact⟨v,w'',h2,h3⟩
 |halt x w'=>simp only[Oper.goesUpon]at h
theorem aoY{w:World}{u v:Value}{r:Result Next}(h:Oper.readUpon w u r)(z:Oper.readUpon w v r):u=v:=by
 cases r with
 |ok n w'=>
  cases n<;>simp only[Oper.readUpon]at h z
  .rw[<-h.2,<-z.2]
  .rw[h.2,z.2]
 |halt x w'=>simp only[Oper.readUpon]at h
theorem agA{j:Nat}{oi oj:Oper}(Y:ops[j]?=some oj)(D:oj.loud=false)(R:oi.apart ops oj=true)
  (I:∀cs b,oi.op≠.select cs b) (J:∀cs b,oj.op≠.select cs b) {K:Act->World->Prop} {a:Act} {w:World}
  (h:oi.goes P a w C (fun N w'=>mixOp P ops C j K N w')):
  mixOp P ops C j (fun N w'=>oi.goes P N w' C K) a w:=by
 obtain⟨h1,h2,h3⟩:=Oper.apart_spec R;obtain⟨v0,w0,a1,F⟩:=U1 h;unfold mixOp at F |-;simp only[Y,D]at F |-;rw[wanted_put oj a oi.dst v0 h1]at F
 split
 .rename_i hw
  simp only[hw,if_true]at F;obtain⟨u,Z,_⟩:=F;rw[execOp_put oj J a oi.dst v0 h1]at Z;refine⟨u,Z,?_⟩;unfold Oper.goes at h |-;dsimp only;rw[execOp_put oi I a oj.dst u h3]
  generalize (execOp a.eval oi).run P w=r at *
  cases r with
  |ok n w'=>
   cases n<;>simp only[Oper.goesUpon]at h |-
   case enter f args=>
    refine⟨h.1,h.2.mono fun e w'' ⟨v,S,hC,z⟩=>⟨v,S,hC,?_⟩⟩;unfold mixOp at z;simp only[Y,D]at z;rw[wanted_put oj a oi.dst v h1]at z;simp only[hw,if_true]at z;obtain⟨u',M,O⟩:=z;rw[execOp_put oj J a oi.dst v h1]at M;have e1:=aoY (M w'' hC) (Z w'' hC);subst e1;rw[<-Act.put_comm a v u' h2];exact O
  |halt x w'=>simp only[Oper.goesUpon]at h
 .rename_i hw
  simp only[hw]at F;unfold Oper.goes at h |-;rw[execOp_put oi I a oj.dst undef h3]
  generalize (execOp a.eval oi).run P w=r at *
  cases r with
  |ok n w'=>
   cases n<;>simp only[Oper.goesUpon]at h |-
   case enter f args=>
    refine⟨h.1,h.2.mono fun e w'' ⟨v,S,hC,z⟩=>⟨v,S,hC,?_⟩⟩;unfold mixOp at z;simp only[Y,D]at z;rw[wanted_put oj a oi.dst v h1]at z;simp only[hw]at z;rw[<-Act.put_comm a v undef h2];exact z
  |halt x w'=>simp only[Oper.goesUpon]at h
theorem ac9{Q:Act->World->Prop}{i:Nat}{oi:Oper}(hi:ops[i]?=some oi)(a9:oi.loud=true)(Z:∀(j:Nat) (o:Oper) cs b,ops[j]?=some o->o.op≠.select cs b):
  ∀(fuel:Nat) (listed:Array Bool) (a:Act) (w:World),C w->Region.closed md ops listed ->
   (∀j oj,ops[j]?=some oj->j≠i->listed.getD j true=false->(∀e∈oj.after,Region.binds md e=true->e.on≠i)->oi.apart ops oj=true) ->
   (∀j oj,ops[j]?=some oj->j≠i->listed.getD j true=false->oj.loud=true->Region.waits md ops i ops.size j=true) ->
   i∈Region.ready md ops listed->Region.wanted oi (yielded ops a.tmps)=true ->
   oi.goes P a w C (xE P md ops C Q fuel (listed.setIfInBounds i true))->xE P md ops C Q (fuel+1) listed a w:=by
 intro fuel
 induction fuel with
 |zero=>
  intro listed a w hC _ _ _ hr N H;refine⟨fun h=>(by rw[h]at hr;cases hr),fun j hj=>?_⟩
  by_cases z:j=i
  .subst z
   unfold mixOp;simp only[hi,N,a9,if_true];exact H
  .obtain⟨v,w',_,h⟩:=U1 H
   have:=ready_mono hj z;rw[h.1]at this
   cases this
 |succ fuel ih=>
  intro listed a w hC hcl I M hr N H;refine⟨fun h=>(by rw[h]at hr;cases hr),fun j hj=>?_⟩
  by_cases z:j=i
  .subst z
   unfold mixOp;simp only[hi,N,a9,if_true];exact H
  .obtain⟨D,oj,F,S⟩:=mem_ready.1 hj
   have Y:listed.getD i false=false:=by
    have h0:=(mem_ready.1 hr).1
    rcases Nat.lt_or_ge i listed.size with h'|h'
    .simpa[h']using h0
    .simp[Array.getElem?_eq_none h']
   have b1:oj.loud=false:=by
    cases hl:oj.loud with
    |false=>rfl
    |true=>
     have:=abE hcl ops.size j (M j oj F z D hl) (fun o ho e he hb=>by rw[F]at ho;cases ho;exact S e he hb);rw[Y]at this
     cases this
   have b3:∀e∈oj.after,Region.binds md e=true->e.on≠i:=fun e he hb b7=>by
    have h1:=S e he hb;rw[b7,Y]at h1
    cases h1
   have a8:=I j oj F z D b3;have h1:oi.goes P a w C (fun a' w'=>mixOp P ops C j (xE P md ops C Q fuel ((listed.setIfInBounds i true).setIfInBounds j true)) a' w'):=Oper.goes_mono (fun a' w' _ h=>h.2 j (ready_mono hj z)) H;have h2:=agA F b1 a8 (fun cs b=>Z i oi cs b hi) (fun cs b=>Z j oj cs b F) h1;have O:∀k ok,ops[k]?=some ok->k≠i->(listed.setIfInBounds j true).getD k true=false ->
     (∀e∈ok.after,Region.binds md e=true->e.on≠i)->oi.apart ops ok=true:=fun k ok hk a6 K b9=>by
    refine I k ok hk a6 ?_ b9
    by_cases J:j=k
    .subst J;exact D
    .rw[getD_set_ne true J]at K;exact K
   have R:∀k ok,ops[k]?=some ok->k≠i->(listed.setIfInBounds j true).getD k true=false->ok.loud=true->Region.waits md ops i ops.size k=true:=fun k ok hk a6 K hl=>by
    refine M k ok hk a6 ?_ hl
    by_cases J:j=k
    .subst J;exact D
    .rw[getD_set_ne true J]at K;exact K
   obtain⟨_,_,h3⟩:=Oper.apart_spec a8;have a7:mixOp P ops C j (fun a' w'=>Region.wanted oi (yielded ops a'.tmps)=true/\oi.goes P a' w' C (xE P md ops C Q fuel ((listed.setIfInBounds i true).setIfInBounds j true))) a w:=by
    unfold mixOp at h2 |-;simp only[F,b1]at h2 |-
    split
    .rename_i hw
     simp only[hw,if_true]at h2;obtain⟨u,hu,hk⟩:=h2;exact⟨u,hu,by rw[wanted_put oi a oj.dst u h3];exact N,hk⟩
    .rename_i hw
     simp only[hw]at h2;exact⟨by rw[wanted_put oi a oj.dst undef h3];exact N,h2⟩
   refine RB hC (fun a' w' b5 h4=>ih (listed.setIfInBounds j true) a' w' b5 (P1 hcl hj) O R (ready_mono hr (Ne.symm z)) h4.1 ?_) a7;rw[Array.setIfInBounds_comm _ _ z];exact h4.2
theorem XR{i j:Nat}{oi oj:Oper}(h:Region.chained md ops=true)(z:ops[i]?=some oi)(D:ops[j]?=some oj)(h1:oi.loud=true)(h2:oj.loud=true)(F:i<j):Region.waits md ops i ops.size j=true:=by
 unfold Region.chained at h;rw[List.all_eq_true]at h;have h3:=h i (List.mem_range.2 (dU.1 z).1);simp only[z,h1,Bool.not_true,Bool.false_or,List.all_eq_true]at h3;have h4:=h3 j (List.mem_range.2 (dU.1 D).1);simp only[D,h2,Bool.not_true,Bool.false_or,Bool.or_eq_true,decide_eq_true_eq]at h4
 rcases h4 with h4|h4
 .omega
 .exact h4
theorem RZ{Q:Act->World->Prop}(S:Region.noSelect ops=true)(M:Region.chained md ops=true):∀(l:List Oper) (k:Nat) (listed:Array Bool) (a:Act) (w:World),C w->(∀j,l[j]?=ops[k+j]?) ->
  Region.closed md ops listed->(∀j,j<k->j<ops.size->listed.getD j true=true) ->
  Region.lexFrom md ops l.length k listed=true->xJ P ops C Q l a w->xE P md ops C Q l.length listed a w
 |[],_,_,_,_,_,_,_,_,hB,h=>⟨by simpa[Region.lexFrom]using hB,h⟩
 |o::l,k,listed,a,w,hC,hl,hcl,hlo,hB,h=>by
  have F:ops[k]?=some o:=by simpa using(hl 0).symm
  simp only[List.length_cons,Region.lexFrom,Bool.and_eq_true]at hB;obtain⟨⟨hr,hf⟩,Y⟩:=hB;have hr:k∈Region.ready md ops listed:=by simpa using hr
  have N:=P1 hcl hr;have O:∀j,j<k+1->j<ops.size->(listed.setIfInBounds k true).getD j true=true:=fun j hj J=>by
   by_cases I:k=j
   .subst I
    rcases Nat.lt_or_ge k listed.size with K|K
    .simp[K]
    .simp[K]
   .rw[getD_set_ne true I];exact hlo j aA J
  have D:∀R w',C w'->xJ P ops C Q l R w'->xE P md ops C Q l.length (listed.setIfInBounds k true) R w':=fun R w' Z K=>
   RZ S M l (k+1) _ R w' Z (fun j=>by have:=hl (j+1);simpa[Nat.add_assoc,Nat.add_comm 1 j]using this) N O Y K
  rw[xJ]at h
  by_cases hw:Region.wanted o (yielded ops a.tmps)=true
  .rw[if_pos hw]at h
   by_cases z:o.loud=true
   .rw[if_pos z]at h
    refine ac9 F z (Region.noSelect_spec S) l.length listed a w hC hcl (Region.free_spec F hf) (fun j oj hj I a8 a7=>?_) hr hw (Oper.goes_mono D h);have J:=(dU.1 hj).1;have hlt:k<j:=by
     rcases Nat.lt_or_ge k j with q|q
     .exact q
     .have:=hlo j aA J
      rw[a8]at this;cases this
    exact XR M F hj z a7 hlt
   .rw[if_neg z]at h
    obtain⟨v,hv,hK⟩:=h;exact MN F (Region.noSelect_spec S) l.length listed a w hC (Region.free_spec F hf) hr (.inl ⟨hw,by simpa using z,hv⟩) (D _ _ hC hK)
  .rw[if_neg hw]at h
   exact MN F (Region.noSelect_spec S) l.length listed a w hC (Region.free_spec F hf) hr (.inr ⟨by simpa using hw,rfl⟩) (D _ _ hC h)
theorem abX(n:Nat):Region.closed md ops (Array.replicate n false):=by
 intro k o _ h;simp[Array.getElem?_replicate]at h
 split at h<;>simp at h
theorem UF{id:Nat}{Q:Exit->Act->World->Prop}{a:Act}{w:World}{l:List Oper}(hm:P.follows .mixedOrders=true)(hB:Region.lexB .any l.toArray=true)(D:Region.chained .any l.toArray=true)
  (hC:C w.drew) (h:xJ P l.toArray C (fun z w'=>Q .normal z w') l a w.drew):(Code.region id l.toArray true).wp P Q a w:=by
 simp only[Region.lexB,Bool.and_eq_true]at hB;refine wp_region_any hm (MO (C:=C) (Q:=fun z w'=>Q .normal z w') (fun _ w' _ h=>h) _ _ _ _ hC ?_);have:=RZ (P:=P) (C:=C) (md:=.any) hB.1 D l 0 (Array.replicate l.toArray.size false) a _ hC bF (abX _) (fun j F=>aA) (by simpa using hB.2) h;simpa using this
end
end Go
end
section
namespace Go
section
variable {P:Program} {ops:Array Oper} {C:World->Prop} {Q:Act->World->Prop}
def Oper.tame(o:Oper):Bool:=
 match o.op with
 |.move _|.assign _|.pick _ _ _|.load _ _|.binOp _ _ _ _ _|.unOp _ _ _|.convert _ _ _|.fieldAddr _ _ _|.field _ _ _|.indexAddr _ _ _|.index _ _ _|.slice _ _ _ _ _|.extract _ _|.build _ _=>true
 |.call c=>match c.callee with
  |.builtin .len|.builtin .min|.builtin .max=>true
  |_=>false
 |_=>false
theorem mI(s:Sem Value)(w:World)(f:FuncId)(args:Array Value)(w':World):(do pure (Next.value (<-s)):Sem Next).run P w≠.ok (.enter f args) w':=by
 simp only[Sem.run_bind,Sem.run_pure]
 cases s.run P w with
 |ok v w1=>simp[Result.andThen]
 |halt x w1=>simp[Result.andThen]
theorem ahA(s:Sem Bool)(F:Bool->Value)(w:World)(f:FuncId)(args:Array Value)(w':World):(do pure (Next.value (F (<-s))):Sem Next).run P w≠.ok (.enter f args) w':=by
 simp only[Sem.run_bind,Sem.run_pure]
 cases s.run P w with
 |ok v w1=>simp[Result.andThen]
 |halt x w1=>simp[Result.andThen]
theorem Oper.tame_enter{o:Oper}(h:o.tame=true)(ρ:Operand->Value)(w:World)(f:FuncId)(args:Array Value)(w':World):(execOp ρ o).run P w≠.ok (.enter f args) w':=by
 unfold Oper.tame at h;unfold execOp
 split at h<;>rename_i z<;>simp only[z]
 case h_1=>simp
 case h_2=>simp
 case h_3=>exact ahA _ (fun b=>if b=true then _ else _) _ _ _ _
 case h_4=>exact mI _ _ _ _ _
 case h_5=>exact mI _ _ _ _ _
 case h_6=>exact mI _ _ _ _ _
 case h_7=>exact mI _ _ _ _ _
 case h_8=>exact mI _ _ _ _ _
 case h_9=>exact mI _ _ _ _ _
 case h_10=>exact mI _ _ _ _ _
 case h_11=>exact mI _ _ _ _ _
 case h_12=>exact mI _ _ _ _ _
 case h_13=>exact mI _ _ _ _ _
 case h_14=>exact mI _ _ _ _ _
 case h_15=>
  rename_i c
  split at h
  .rename_i hc
   simp only[resolve,hc,Sem.run_bind,Sem.run_pure,Result.andThen,invoke,builtin]
   split<;>simp
  .rename_i hc
   simp only[resolve,hc,Sem.run_bind,Sem.run_pure,Result.andThen,invoke,builtin]
   split<;>simp
  .rename_i hc
   simp only[resolve,hc,Sem.run_bind,Sem.run_pure,Result.andThen,invoke,builtin]
   split<;>simp
  .cases h
 case h_16=>cases h
theorem Oper.tame_quiet{o:Oper}(h:o.tame=true):o.loud=false:=by
 unfold Oper.tame at h;unfold Oper.loud
 split
 .rename_i c hc
  simp only[hc]at h
  split
  .rename_i z
   simp only[z]at h
   cases h
  .rfl
 .rfl
theorem Oper.reads_of_quiet{o:Oper}{a:Act}{K:Act->Prop}(h:o.tame=true)(z:o.quiet P a C K):o.reads P a C K:=by
 obtain⟨v,h1,h2⟩:=z;refine⟨v,fun w hw=>?_,h2⟩;have h3:=h1 w hw;have h4:=Oper.tame_enter (P:=P) h a.eval w;unfold Oper.quietAt at h3
 generalize (execOp a.eval o).run P w=r at *
 cases r with
 |ok n w'=>
  cases n<;>simp only[Oper.quietUpon,Oper.readUpon]at h3 |-
  case value u=>exact h3
  case skip=>exact h3
  case enter f args=>exact h4 f args w' rfl
 |halt x w'=>simp only[Oper.quietUpon]at h3
structure WMix (P:Program) (ops:Array Oper) (C:World->Prop) (Q:Act->World->Prop) (l:List Oper) (a:Act) (w:World):Prop where
 out:xJ P ops C Q l a w
theorem agV{K D:Act->Prop}(h:∀a,K a->D a){o:Oper}{a:Act}(z:wpQuiet P ops C K [o] a):wpQuiet P ops C D [o] a:=by
 rw[wpQuiet]at z |-
 split
 .rename_i hw
  rw[if_pos hw]at z;obtain⟨v,h1,h2⟩:=z;exact⟨v,h1,h _ h2⟩
 .rename_i hw
  rw[if_neg hw]at z;exact h _ z
theorem adA{a:Act}{w:World}{o:Oper}{rest:List Oper}(h:o.tame=true)(z:wpQuiet P ops C (fun D=>xJ P ops C Q rest D w) [o] a):xJ P ops C Q (o::rest) a w:=by
 rw[wpQuiet]at z;rw[xJ]
 split
 .rename_i hw
  rw[if_pos hw]at z;rw[if_neg (by rw[Oper.tame_quiet h];simp)];exact Oper.reads_of_quiet h z
 .rename_i hw
  rw[if_neg hw]at z;exact z
theorem jU{a:Act}{w:World}{o:Oper}{rest:List Oper}(h:o.tame=true)(D:wpQuiet P ops C (fun z=>WMix P ops C Q rest z w) [o] a):WMix P ops C Q (o::rest) a w:=
 ⟨adA h (agV (fun _ h=>h.out) D)⟩
theorem V9{a:Act}{w:World}(h:Q a w):WMix P ops C Q [] a w:=⟨h⟩
theorem afA{o:Oper}{a:Act}{w:World}{K:Act->World->Prop}{f:FuncId}{args:Array Value}(z:(execOp a.eval o).run P w=.ok (.enter f args) w)(h:Calls P f args w fun e w''=>∃v,e=.returned v/\C w''/\K (a.put o.dst v) w''):o.goes P a w C K:=by
 unfold Oper.goes;rw[z];exact⟨rfl,h⟩
theorem kO{a:Act}{w:World}{o:Oper}{rest:List Oper}(f:FuncId)(F:Array Operand)(ts:Array TypeId)(I:o.op=.call { callee:=.value (.func f),args:=F,argTypes:=ts })(D:∀args w,(callFunc f args).run P w=.ok (.enter f args) w)
  (hw:Region.wanted o (yielded ops a.tmps)=true) (h:∀K:Act->World->Prop,(∀z w',C w'->WMix P ops C Q rest z w'->K z w')->Calls P f (F.map a.eval) w fun e w''=>∃v,e=.returned v/\K (a.put o.dst v) w''):WMix P ops C Q (o::rest) a w:=by
 refine⟨?_⟩;rw[xJ,if_pos hw,if_pos (by unfold Oper.loud;rw[I])];have h1:=h (fun z w'=>C w'/\WMix P ops C Q rest z w') (fun z w' h1 h2=>⟨h1,h2⟩);refine afA (f:=f) (args:=F.map a.eval) ?_ (h1.mono fun e w'' ⟨v,J,hC,hk⟩=>⟨v,J,hC,hk.out⟩);unfold execOp;simp only[I,resolve,Sem.run_bind];have e:=D (F.map a.eval) w;simp[Act.eval,Deferred.ofValue,Sem.run_pure,Result.andThen,invoke,go_sem];exact e
theorem KD{id:Nat}{Q:Exit->Act->World->Prop}{a:Act}{w:World}{l:List Oper}(hm:P.follows .mixedOrders=true)(hB:Region.lexB .any l.toArray=true)(z:Region.chained .any l.toArray=true)
  (hC:C w.drew) (h:WMix P l.toArray C (fun D w'=>Q .normal D w') l a w.drew):(Code.region id l.toArray true).wp P Q a w:=
 UF hm hB z hC h.out
end
end Go
end
namespace Go.Proofs.YtkdbkjjacgigiaaGreatDoor
section
open Go.RowKit Go.G5 Go.Proofs.Tryz
variable(w:World)(n:Int)(v:Value)(l:aI)
theorem XK(hv:Ints w v l)(hl:l.length<=1048576):
  Calls prog 245 #[aM #[n,v]] w fun e w'=>∃ad i K,e=aQ (aS #[aM #[(lE n l),aD ad i K],aG (eX n l)])/\bB 3 w w' (aD ad i K) (iX n l)/\Below w w w':=by
 obtain⟨a,c,rfl⟩:=hv.shape;go_enter func245,ntmps245;go_wp2_with fail;refine cZ ?_;intro V hV;have B:Below w w V:=iJ hV;have K1:bK V w 27 #[n,aD a l c]:=iQ hV;have K2:bK V (w+1) 29 #[aK,()]:=jL hV;clear hV;refine aV (pT n l _ _ (hv.below B aU) hl) ?_;intro w1 M;have S:=K1.keep M;have I:=K2.keep M;have B1:=B.after M B.size;have G1:=S.cell;have G2:=I.cell;have F2:=I.frozen;have z1:=S.lt;have z2:=I.lt;have b9:=hv.below B1 aU;clear K1 K2 B M
 cases O:eX n l with
 |false=>
  have hN:lE n l=0:=by unfold lE;rw[O];rfl
  have hL:iX n l=[]:=by unfold iX;rw[O];rfl
  have HN:=aT hN;have HL:=aT hL;have HF:=aT O;clear hN hL;go_wp2;refine cT ?_;intro Wf D;have Y:bK Wf (w+1) 29 #[aK,()]:=by rw[D];have:=(I.set 0 (aO 0)).set 1 (aD none 0 0);simpa using this
  have Bf:Below w w Wf:=by rw[D];exact bX (bX B1 cK _) cK _
  have Gf:=Y.cell;clear D G1 G2 F2;exact bW (v:=aS #[aM #[aK,()],aG false]) (by simp[results,results245,go_sem,Gf]) rfl ⟨none,0,0,by rw[HN.out,HF.out],by rw[HL.out];exact bB.nil _ _ _,Bf⟩
 |true=>
  obtain⟨N,rfl,h5,k0,l1,k1⟩:=eJ (mZ O);have k5:=dJ N;have hN:lE N l=N:=by unfold lE;rw[O];rfl
  have hL:iX N l=dE (mV l) l.length:=by unfold iX;rw[O,if_pos rfl]
  obtain⟨av,b,m6,cv,k6,_,f2,hc,hb⟩:=b9.vw;injection k6 with e1 _ e3;subst e1 e3;have b3:l.length-1<l.length:=aA;have j4:=hc (l.length-1) b3;have k7:=fun W=>f2 W (l.length-1) b3;rw[show((l.length-1:Nat):Int)=(l.length:Int)-1 from aA]at k7;have wl:IntKind.i64.wrap ((l.length:Int)-1)=(l.length:Int)-1:=dV;obtain⟨t,ht⟩:=aW (oY l);rw[show l[l.length-1]=t by rw[ht];exact(cJ l _ b3).symm]at j4;have hP:∀s,(h:s<l.length)->mV l s=(decide (l[s]=t)&&decide ((dG s:Int)=t)):=fun s h=>by rw[ap6,cJ l s h,ht]
  obtain⟨P,e9⟩:=aW (mV l);rw[<-e9]at hL;simp only[<-e9]at hP;have HP:=aT hP;have HN:=aT hN;have HL:=aT hL;have HF:=aT O;have HC:=aT hc;have j0:=aT f2;have o0:=bB.lit0 (E:=3) (B:=w1.heap.size) w1 aU;clear hN hL O k1 k0 k5 e9 hP ht hc f2;go_wp2_with fail;go_loopw [5,6] (fun out i wr=>∃(k:Nat) (ad:Option Addr) (Z K:Nat),k<=l/\out=aD ad Z K/\i=aO k/\bB 3 w1 wr (aD ad Z K) (dE P k)/\Below w1 w1 wr)
   (fun _ i _=>l.length-(intOf i).toNat)
  .exact⟨0,_,_,_,aZ _,rfl,rfl,o0,cQ _ _⟩
  obtain⟨k,ad,Z,K,hk,rfl,rfl,ho,B⟩:=hrel;obtain⟨wo,rfl⟩:∃z:World,z=wr:=⟨_,rfl⟩;have HO:=aT ho;clear ho o0 G1 G2 F2;have G1:=(S.keep B).cell;have zw:=B.size;by_cases hlt:k<l
  .have b1:(k:Int)<(l.length:Int):=aA;have b0:=gV P k;have k2:(dE P k).length<=64:=dC (jD P k) aA;have e0:=aT b0;have j5:=bY HC.out hb B aU k hlt;have m4:=fun W=>j0.out W k hlt;have J:=HP.out k hlt;have f5:=iE k wo aA;obtain⟨x,hx⟩:=aW (l[k]);rw[<-hx]at j5 J;obtain⟨p,hp⟩:∃p:Nat,p=dG k:=⟨_,rfl⟩;rw[<-hp]at f5 J;have g5:=aT f5;clear b0 hx hp f5;have bx:(x==t)=decide (x=t):=by by_cases h:x=t<;>simp[h]
   have bp:((p:Int)==t)=decide ((p:Int)=t):=by by_cases h:(p:Int)=t<;>simp[h]
   cases h1:decide (x=t) with
   |false=>rw[h1]at bx J;have R:=aT J;clear J h1;go_wp2;exact ZY
   |true=>
    rw[h1]at bx J;clear h1
    cases h2:decide ((p:Int)=t) with
    |false=>rw[h2]at bp J;have R:=aT J;clear J h2;go_wp2_with (go_at_call 84;refine aV g5.out ?_;rintro w' rfl);exact ZY
    |true=>
     rw[h2]at bp J;have R:=aT J;clear J h2;go_wp2_with (first
      |(go_at_call 84;refine aV g5.out ?_;rintro w' rfl)
      |(at_builtin;refine eF rfl _ _ _ rfl 3 underlying25 intElem w1.heap.size _ _ (k:Int) wo.heap.size rfl rfl (cR wo #[k] 3 0 _ rfl) (HO.out.alloc _) ⟨aA,aA⟩ aA cK ?_;intro v' w6 a1 h7;obtain⟨av,nv,cv,rfl⟩:=a1.shape3))
     exact aj3
  .have b1:¬(k:Int)<(l.length:Int):=aA;have f3:k=l.length:=aA;subst f3;have F:=I.keep B;have y2:=F.lt;have G2:=F.cell;have F2:=F.frozen;have yy:=B1.size;go_wp2;refine cT ?_;intro Wf D;have Y:bK Wf (w+1) 29 #[N,aD ad Z K]:=by rw[D];have:=(F.set 0 (aO N)).set 1 (aD ad Z K);simpa using this
   have Bf:Below w w Wf:=by rw[D];exact bX (bX (B1.after B B1.size) cK _) cK _
   have of:bB 3 w Wf (aD ad Z K) (dE P l.length):=by rw[D];exact((HO.out.setBelow cK _).setBelow cK _).mono cK
   have Gf:=Y.cell;clear D G1 G2 F2;exact bW (v:=aS #[aM #[N,aD ad Z K],aG true]) (by simp[results,results245,go_sem,Gf]) rfl ⟨ad,Z,K,by rw[HN.out,HF.out],by rw[HL.out];exact of,Bf⟩
theorem asO(hv:Ints w v l)(hl:l.length<=1048576):
  Calls prog 246 #[aM #[n,v]] w fun e w'=>∃ad i M,e=aQ (aS #[aM #[(lE n l),aD ad i M],aG (eX n l)])/\bB 3 w w' (aD ad i M) (jW n l)/\Below w w w':=by
 obtain⟨a,c,rfl⟩:=hv.shape;go_enter func246,ntmps246;go_wp2_with fail;refine cZ ?_;intro V hV;have B:Below w w V:=iJ hV;have K1:bK V w 27 #[n,aD a l c]:=iQ hV;have K2:bK V (w+1) 29 #[aK,()]:=jL hV;clear hV;refine aV (pT n l _ _ (hv.below B aU) hl) ?_;intro w1 O;have a8:=K1.keep O;have J:=K2.keep O;have B1:=B.after O B.size;have G1:=a8.cell;have G2:=J.cell;have F2:=J.frozen;have z1:=a8.lt;have z2:=J.lt;have i7:=hv.below B1 aU;clear K1 K2 B O
 cases S:eX n l with
 |false=>
  have hN:lE n l=0:=by unfold lE;rw[S];rfl
  have hL:jW n l=[]:=by unfold jW;rw[S];rfl
  have HN:=aT hN;have HL:=aT hL;have HF:=aT S;clear hN hL;go_wp2;refine cT ?_;intro Wf D;have a9:bK Wf (w+1) 29 #[aK,()]:=by rw[D];have:=(J.set 0 (aO 0)).set 1 (aD none 0 0);simpa using this
  have Bf:Below w w Wf:=by rw[D];exact bX (bX B1 cK _) cK _
  have Gf:=a9.cell;clear D G1 G2 F2;exact bW (v:=aS #[aM #[aK,()],aG false]) (by simp[results,results246,go_sem,Gf]) rfl ⟨none,0,0,by rw[HN.out,HF.out],by rw[HL.out];exact bB.nil _ _ _,Bf⟩
 |true=>
  obtain⟨N,rfl,h5,h7,j5,h8⟩:=eJ (mZ S);have hN:lE N l=N:=by unfold lE;rw[S];rfl
  have hL:jW N l=lF (dE (xO l) l.length):=by unfold jW;rw[S,if_pos rfl]
  obtain⟨av,b,j0,cv,i8,_,e0,hc,hb⟩:=i7.vw;injection i8 with e1 _ e3;subst e1 e3;have hP:∀s,(h:s<l.length)->xO l s=decide (l[s]<(dG s:Int)):=fun s h=>by rw[aqB S s aA,cJ l s h]
  obtain⟨P,b0⟩:=aW (xO l);rw[<-b0]at hL;simp only[<-b0]at hP;have Y:=LQ (dE P l.length) (yJ P l.length) (fun x hx=>(rT P l.length x hx).1);have e6:∀x∈dE P l.length,0<=x/\x<64:=fun x hx=>by have:=rT P l.length x hx;omega
  have Z:(dE P l.length).length<=64:=dC (jD P l.length) aA;have e7:∀(W:World) (ad:Option Addr) (nn M:Nat),Ints W (aD ad nn M) (dE P l.length)->Calls prog 101 #[aD ad nn M] W fun e w'=>
    ∃c5 i' c8,e=aQ (aD c5 i' c8)/\bB 3 W w' (aD c5 i' c8) (lF (dE P l.length))/\Below W W w':=fun W ad nn M hW=>by
   have:=wB (dE P l.length) _ W hW e6 Z;rw[Y]at this;exact this
  have g4:=aT e7;have HP:=aT hP;have HN:=aT hN;have HL:=aT hL;have HF:=aT S;have HC:=aT hc;have g0:=aT e0;have o0:=bB.lit0 (E:=3) (B:=w1.heap.size) w1 aU;clear hN hL S h8 h7 b0 hP hc e0 Y e6 Z e7;go_wp2_with fail;go_loopw [4,5] (fun out i wr=>∃(k:Nat) (ad:Option Addr) (nn M:Nat),k<=l/\out=aD ad nn M/\i=aO k/\bB 3 w1 wr (aD ad nn M) (dE P k)/\Below w1 w1 wr)
   (fun _ i _=>l.length-(intOf i).toNat)
  .exact⟨0,_,_,_,aZ _,rfl,rfl,o0,cQ _ _⟩
  obtain⟨k,ad,nn,M,hk,rfl,rfl,ho,B⟩:=hrel;obtain⟨wo,rfl⟩:∃z:World,z=wr:=⟨_,rfl⟩;have HO:=aT ho;clear ho o0 G1 G2 F2;have K:=a8.keep B;have G1:=K.cell;have zw:=B.size;by_cases hlt:k<l
  .have e5:(k:Int)<(l.length:Int):=aA;have d0:=gV P k;have k3:(dE P k).length<=64:=dC (jD P k) aA;have b7:=aT d0;have c7:=bY HC.out hb B aU k hlt;have k5:=fun W=>g0.out W k hlt;have F:=HP.out k hlt;have b1:=fun W=>iE k W aA;obtain⟨x,hx⟩:=aW (l[k]);rw[<-hx]at c7 F;obtain⟨p,hp⟩:∃p:Nat,p=dG k:=⟨_,rfl⟩;rw[<-hp]at F;simp only[<-hp]at b1;have b9:=aT b1;have e1:∀y:Ext wo,y.w.cell? ⟨w,1,none⟩=some (aD a l c):=fun y=>y.cell (K.cell 1);have e2:∀y:Ext wo,y.w.cell? ⟨b,j0+k,none⟩=some (aO x):=fun y=>y.cell c7;clear d0 hx hp b1;by_cases e4:x<(p:Int)
   .rw[bH e4]at F;have a7:=aT F;clear F;go_wp2_with fail;refine cW _ bM bM ?_
    repeat(first|go_big_quiet_skip|(go_big_quiet_want;go_big_quiet_op;first|go_big_quiet_on|(apply Exists.intro;refine⟨fun _=>?_,?_⟩;(go_at_call 84;exact fA (b9.out _));go_big_quiet_on)))
    refine wpQuiet_nil ?_;rintro w5 ⟨⟨w5,b5⟩,rfl⟩
    try dsimp only
    have b8:=HO.out.keep b5;have B5:=B.after b5 B.size;have z5:=B5.size;go_wp2_with (at_builtin;refine eF rfl _ _ _ rfl 3 underlying25 intElem w1.heap.size _ _ (k:Int) w5.heap.size rfl rfl (cR w5 #[k] 3 0 _ rfl) (b8.alloc _) ⟨aA,aA⟩ aA cK ?_;intro v' w6 a1 h0;obtain⟨av,nv,cv,rfl⟩:=a1.shape3);have B6:Below w1 w1 w6:=(B5.alloc B5.size (.cells #[k] 3)).grown h0 bO (fun q hq=>(b8.lt q hq).1);go_roundw
    .exact⟨k+1,av,nv,cv,aA,rfl,cD,by rw[b7.out,a7.out];exact a1,B6⟩
    exact aY
   .rw[bG e4]at F;have a7:=aT F;clear F;go_wp2_with fail;refine cW _ bM bM ?_
    repeat(first|go_big_quiet_skip|(go_big_quiet_want;go_big_quiet_op;first|go_big_quiet_on|(apply Exists.intro;refine⟨fun _=>?_,?_⟩;(go_at_call 84;exact fA (b9.out _));go_big_quiet_on)))
    refine wpQuiet_nil ?_;rintro w5 ⟨⟨w5,b5⟩,rfl⟩
    try dsimp only
    go_wp2;go_roundw
    .exact⟨k+1,ad,nn,M,aA,rfl,cD,by rw[b7.out,a7.out];exact HO.out.keep b5,B.after b5 B.size⟩
    exact aY
  .have e5:¬(k:Int)<(l.length:Int):=aA;have h6:k=l.length:=aA;subst h6;have I:=J.keep B;have y2:=I.lt;have h9:=HO.out.ints;have k9:w.heap.size<wo.heap.size:=aA;go_wp2_with fail;have G2:=I.cell;have F2:=I.frozen;go_region_held3 (fun w'=>(∀i,w'.cell? ⟨w,i,none⟩=(#[aO N,aD a l c]:Array Value)[i]?)) (go_keep)
    (first
     |(go_at_call 101;refine(g4.out _ _ _ _ (h9.below (B:=wo.heap.size) rB aU)).mono ?_;rintro e w3 ⟨p3,i3,q3,rfl,o3,R⟩;obtain⟨g8,g9⟩:=jN R wo.heap.size cK;have z3:=R.size;(try simp at z3)))
   go_wp2;refine cT ?_;intro Wf D;have a9:bK Wf (w+1) 29 #[N,aD p3 i3 q3]:=by rw[D];have:=(((I.drewN 1).keep R).set 0 (aO N)).set 1 (aD p3 i3 q3);simpa using this
   have yy:=B1.size;have Bf:Below w w Wf:=by rw[D];exact bX (bX (((B1.after B B1.size).drewN' 1).after R cK) cK _) cK _
   have of:bB 3 w Wf (aD p3 i3 q3) (lF (dE P l.length)):=by rw[D];exact((o3.setBelow cK _).setBelow cK _).mono cK
   have Gf:=a9.cell;clear D G1 G2 F2 g8 g9;exact bW (v:=aS #[aM #[N,aD p3 i3 q3],aG true]) (by simp[results,results246,go_sem,Gf]) rfl ⟨p3,i3,q3,by rw[HN.out,HF.out],by rw[HL.out];exact of,Bf⟩
