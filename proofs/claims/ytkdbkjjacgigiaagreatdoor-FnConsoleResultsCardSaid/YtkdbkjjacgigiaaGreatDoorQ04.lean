/- Lemmas for CardConsoleResults. No condition. -/
import Derived.Test.YtkdbkjjacgigiaaGreatDoorQ03
import Derived.Deep.AppendLies
set_option maxRecDepth 100000
set_option maxHeartbeats 64000000
section
namespace Go.G5
open Go Go.RowKit
section
variable {P:Program} {w:World}
theorem ag1{p:Prop}(h:p:=by
  intro j u M;rcases h4 with h|⟨b,N,hb,_,hc⟩
  ·subst h;simp at M
  ·simp only[Option.some.injEq]at hb
   subst hb;have hj:j<m.length:=by
    rcases Nat.lt_or_ge j m.length with h|h
    ·exact h
    ·rw[List.getElem?_eq_none (by simpa using h)]at M;cases M
   have:=hc j hj;have e:(⟨b,N,none⟩:Addr).add j=⟨b,N+j,none⟩:=by
    unfold Addr.add;split
    ·rename_i h0;rw[h0];rfl
    ·rfl
   rw[e,this];rw[List.getElem?_map,List.getElem?_eq_getElem hj]at M;exact M):p:=h
theorem ahG{p:Prop}(h:p:=by
  rcases z.1.2 with⟨rfl,hn⟩|⟨g,cap,b4,rfl,_,_,a8,_⟩
  ·simp[Builtin.append_,run_underlying O,sizeOf,typeInfo,R,Builtin.lenOf,Builtin.firstCells]
  ·simp[Builtin.append_,run_underlying O,sizeOf,typeInfo,R,Builtin.lenOf,Builtin.firstCells,a8,storeCells]):p:=h
theorem aaJ(T E Z:TypeId)(O:P.underlying T=some (.slice E))(hE:IntElem P E)(B:Nat)(v:Value)(l:List Int)(z:aM E B w v l)
  (Y:Value) (m:List Int) (hs:aK w Y m) (S:l.length+m.length<=17592186044416) (hB:B<=w.heap.size):
  ∃K w',(Builtin.append_ #[T,T] Z #[v,Y]).run P w=.ok K w'/\aM E B w' K (l++m)/\w.grownBy w' v.ownBlock:=by
 obtain⟨i,R,hz,h1,h8⟩:=hE.get;obtain⟨ad,c,rfl,a7,hcm,hr,h4⟩:=hs;have I:∀q∈l++m,dL q:=fun q hq=>(List.mem_append.1 hq).elim (z.2 q) (hr q);have F:ad=none->m=[]:=by
  intro e;rcases h4 with h|⟨b,N,hb,_⟩
  ·exact h
  ·rw[e]at hb;cases hb
 cases ad with
 |none=>have:=F rfl;subst this;refine⟨v,w,?_,by simpa using z,World.grownBy.refl w _⟩;exact ahG
 |some ad=>
  have D:∀j u,(m.map (Value.int .i64))[j]?=some u->w.cell? (ad.add j)=some u:=by exact ag1
  obtain⟨K,w',J,h2,h3,_⟩:=run_append_own_at (P:=P) w B T Z E i (aG 0) 1 8 O R hz h1 h8 rfl aQ v l.length (l.map (Value.int .i64)) z.1 ad m.length c (m.map (Value.int .i64)) (by simp) D
   (by intro u M;obtain⟨q,_,rfl⟩:=List.mem_map.1 M;rfl) (by unfold maxLen;omega) aD hB
  exact⟨K,w',J,⟨by simpa using h2,I⟩,h3⟩
theorem PE{o:Oper}{a:Act}{K:Act->World->Prop}{Q:Exit->Act->World->Prop}(s x:Operand)(t:TypeId)
  (R:o.op=.call { callee:=.builtin .append,args:=#[s,x],argTypes:=#[t,t] })
  (E:TypeId) (O:P.underlying t=some (.slice E)) (N:IntElem P E) (B:Nat) (v:Value) (l:List Int) (S:a.eval s=v) (D:aM E B w v l)
  (M:Value) (m:List Int) (Y:a.eval x=M) (J:aK w M m) (z:l.length+m.length<=17592186044416) (hB:B<=w.heap.size)
  (h:∀I w',aM E B w' I (l++m)->w.grownBy w' v.ownBlock->K (a.put o.dst I) w'):o.wp P a w K Q:=by
 obtain⟨I,w',F,h2,h3⟩:=aaJ (P:=P) t E o.type O N B v l D M m J z hB;unfold Oper.wp execOp;simp only[R,resolve,invoke,builtin,Sem.run_bind,Sem.run_pure,Result.andThen_ok,List.map_toArray,List.map_cons,List.map_nil,S,Y,F];exact h I w' h2 h3
theorem xG{ops:Array Oper}{rest:List Oper}{o:Oper}{a:Act}{Q:Exit->Act->World->Prop}(I:o.guard=none)(s x:Operand)(t:TypeId)
  (R:o.op=.call { callee:=.builtin .append,args:=#[s,x],argTypes:=#[t,t] })
  (E:TypeId) (O:P.underlying t=some (.slice E)) (M:IntElem P E) (B:Nat) (v:Value) (l:List Int) (S:a.eval s=v) (D:aM E B w v l)
  (K:Value) (m:List Int) (Y:a.eval x=K) (J:aK w K m) (z:l.length+m.length<=17592186044416) (hB:B<=w.heap.size)
  (h:∀F w',aM E B w' F (l++m)->w.grownBy w' v.ownBlock->wpList P ops Q rest (a.put o.dst F) w'):wpList P ops Q (o::rest) a w:=
 wpList_plain I fun _ N=>PE s x t R E O M B v l S D K m Y J z hB fun F w' h2 h3=>N _ _ (h F w' h2 h3)
theorem JD{ops:Array Oper}{o:Oper}{a:Act}{K:Act->World->Prop}{Q:Exit->Act->World->Prop}{F:Prop}(I:o.guard=none)(s x:Operand)(t:TypeId)
  (S:o.op=.call { callee:=.builtin .append,args:=#[s,x],argTypes:=#[t,t] })
  (E:TypeId) (R:P.underlying t=some (.slice E)) (O:IntElem P E) (B:Nat) (v:Value) (l:List Int) (Y:a.eval s=v) (D:aM E B w v l)
  (M:Value) (m:List Int) (Z:a.eval x=M) (J:aK w M m) (z:l.length+m.length<=17592186044416) (hB:B<=w.heap.size)
  (h:∀N w',aM E B w' N (l++m)->w.grownBy w' v.ownBlock->K (a.put o.dst N) w'):if Region.wanted o (yielded ops a.tmps)=true then Oper.wp P o a w K Q else F:=by
 have hw:Region.wanted o (yielded ops a.tmps)=true:=by simp[Region.wanted,I]
 rw[if_pos hw];exact PE s x t S E R O B v l Y D M m Z J z hB h
theorem JC{ops:Array Oper}{o:Oper}{a:Act}{K:Act->World->Prop}{Q:Exit->Act->World->Prop}{F:Prop}(D:o.guard=none)(s x:Operand)(t:TypeId)
  (Y:o.op=.call { callee:=.builtin .append,args:=#[s,x],argTypes:=#[t,t] })
  (E:TypeId) (S:P.underlying t=some (.slice E)) (R:IntElem P E) (B:Nat) (v:Value) (l:List Int) (y:Int) (b:Nat) (Z:a.eval s=v) (hx:a.eval x=aA (some ⟨b,0,none⟩) 1 1)
  (N:w.cell? ⟨b,0,none⟩=some (aG y))
  (z:aM E B w v l) (I:dL y) (J:l.length<17592186044415) (hB:B<=w.heap.size)
  (h:∀O w',aM E B w' O (l++[y])->w.grownBy w' v.ownBlock->K (a.put o.dst O) w'):if Region.wanted o (yielded ops a.tmps)=true then Oper.wp P o a w K Q else F:=
 JD D s x t Y E S R B v l Z z (aA (some ⟨b,0,none⟩) 1 1) [y] hx
  ⟨some ⟨b,0,none⟩,1,rfl,aI,by decide,by intro q M;simp only[List.mem_singleton]at M;subst M;exact I,
   .inr ⟨b,0,rfl,World.block_lt_of_cell? w _ N,fun k hk=>by have:k=0:=(by simpa using hk);subst this;exact N⟩⟩ aT hB h
end
theorem aK.from{P:Program}{w:World}{a:Option Addr}{c:Nat}{l:List Int}(h:aK w (aA a l.length c) l)(T E:TypeId)(N:P.underlying T=some (.slice E))(R:IntElem P E)(k:Nat)(hk:k<=l.length):
  ∃K M,(∀(J:IntKind) (w':World),(Instr.slice T (aA a l.length c) (some (.int J (k:Int))) none none).run P w'=.ok (.slice K (l.drop k).length M) w')/\aK w (.slice K (l.drop k).length M) (l.drop k):=by
 obtain⟨i,S,_,h1,_⟩:=R.get;have z:P.elem T=E:=by simp[Program.elem,N]
 obtain⟨hl,hcl,hcm⟩:=h.capLe;refine⟨if c=k then a else a.map (·.add (k*1)),c-k,fun J w'=>?_,?_⟩
 ·rw[run_slice_l w' T a l.length c (by rw[z];exact N) J k aD aD];simp[sizeOf,typeInfo,z,S,h1,Result.andThen,sliced,List.length_drop]
 ·rcases Nat.lt_or_ge k l.length with hlt|I
  ·have F:=h;obtain⟨Y,c1,O,_,_,_,h4⟩:=F;simp only[Value.slice.injEq]at O;obtain⟨rfl,_,rfl⟩:=O;rcases h4 with rfl|⟨b,D,rfl,_,_⟩
   ·simp at hlt
   ·rw[if_neg aD]
    have:=aK.dropK h k aD;rw[List.length_drop];have e:(Option.map (fun x:Addr=>x.add (k*1)) (some (⟨b,D,none⟩:Addr)))=some ⟨b,D+k,none⟩:=by
     simp only[Option.map_some,Nat.mul_one,Addr.add]
     split
     ·rename_i F;rw[F];rfl
     ·rfl
    rw[e];exact this
  ·have e:l.drop k=[]:=List.drop_eq_nil_of_le I;rw[e];exact aK.empty w _ _ _ rfl aD
end Go.G5
namespace Go.Proofs.YtkdbkjjacgigiaaGreatDoor
open Go.RowKit Go.G5 Go.Proofs.Tryz
theorem kR(v:Value)(l:List Int)(w:World)(K:aK w v l)(hl:l.length<=1048576):
  Calls prog 287 #[v] w fun e w'=>∃ad i c,e=.returned (aA ad i c)/\aM 3 w w' (aA ad i c) l/\Below w w w':=by
 have I:=K;obtain⟨a,c,rfl,h1,h2,h3,h4⟩:=K;have J:=fun(w:World) (a:Option Addr) (n c R N:Nat)=>Lib.run_eql_slice_nil (P:=prog) w 25 3 a n c R N underlying25
 cases a with
 |none=>
  have e:l=[]:=by
   rcases h4 with h|⟨b,Y,hb,_⟩
   ·exact h
   ·cases hb
  subst e;clear h4 h3;go_enter func287,ntmps287;go_wp2;go_ret;exact⟨none,0,0,rfl,aM.nil _ _ _,Below.refl _ _⟩
 |some ad=>clear h4 h3;go_enter func287,ntmps287;go_wp2_with (at_builtin;refine xG rfl _ _ _ rfl 3 underlying25 aN w.heap.size _ [] rfl (aM.lit0 w aI) _ l rfl (I.alloc _) aT (by simp) ?_;intro Z w6 z D;obtain⟨M,S,O,rfl⟩:=z.shape3);go_ret;refine⟨M,S,O,rfl,by simpa using z,(bF w (.cells #[] 3)).grown D (by simp) ?_⟩;intro k hk;have F:some w.heap.size=some k:=hk;exact Nat.le_of_eq (Option.some.inj F)
end Go.Proofs.YtkdbkjjacgigiaaGreatDoor
end
section
namespace Go.G5
open Go Go.RowKit
def bK(E:TypeId)(B:Nat)(w:World)(v:Value)(l:List Int):Prop:=
 (∀x∈l,dL x)/\((v=.slice none 0 0/\l=[])∨∃g cap z,v=.slice (some ⟨g,0,none⟩) l.length cap/\B<=g/\w.heap[g]?=some (.cells z E (0,0))/\l.length<=cap/\cap<=z.size/\cap<=maxLen/\z.toList.take l.length=l.map (Value.int .i64))
section
variable {E:TypeId} {B:Nat} {w w':World} {v:Value} {l:List Int}
theorem aM.toW(h:aM E B w v l):bK E B w v l:=by
 obtain⟨⟨J,h1⟩,h2⟩:=h;refine⟨h2,?_⟩
 rcases h1 with⟨rfl,D⟩|⟨g,cap,z,rfl,hB,I,D,hm,F,ht⟩
 ·exact .inl ⟨rfl,List.eq_nil_of_length_eq_zero D⟩
 ·exact .inr ⟨g,cap,z,rfl,hB,I,D,by omega,hm,by simpa using ht⟩
theorem bK.toW(h:bK E B w v l):bK E B w v l:=h
theorem bK.nil(E:TypeId)(B:Nat)(w:World):bK E B w (.slice none 0 0) []:=⟨by simp,.inl ⟨rfl,rfl⟩⟩
theorem bK.below{B':Nat}(h:bK E B w v l)(hb:Below B' w w')(hB:w.heap.size<=B'):bK E B w' v l:=by
 refine⟨h.1,?_⟩
 rcases h.2 with h1|⟨g,cap,z,rfl,D,F,r⟩
 ·exact .inl h1
 ·exact .inr ⟨g,cap,z,rfl,D,by rw[hb.block g (by have:=(Array.getElem?_eq_some_iff.1 F).1;omega)];exact F,r⟩
theorem bK.keep(h:bK E B w v l)(hb:Below w.heap.size w w'):bK E B w' v l:=h.below hb aI
theorem bK.alloc(h:bK E B w v l)(o:Obj):bK E B (w.alloc o) v l:=h.keep (bF w o)
theorem bK.drewN(h:bK E B w v l)(n:Nat):bK E B (w.drewN n) v l:=h.below ((Below.refl w.heap.size w).drewN' n) aI
theorem bK.mono{B':Nat}(h:bK E B w v l)(hB:B'<=B):bK E B' w v l:=by
 refine⟨h.1,?_⟩
 rcases h.2 with h1|⟨g,cap,z,rfl,D,r⟩
 ·exact .inl h1
 ·exact .inr ⟨g,cap,z,rfl,by omega,r⟩
theorem bK.lt(h:bK E B w v l):∀k,v.ownBlock=some k->B<=k/\k<w.heap.size:=by
 intro k hk
 rcases h.2 with⟨rfl,_⟩|⟨g,cap,D,rfl,z,F,_⟩
 ·simp[Value.ownBlock]at hk
 ·have:g=k:=by simpa[Value.ownBlock]using hk
  subst this;exact⟨z,(Array.getElem?_eq_some_iff.1 F).1⟩
theorem bK.grow{row:Option Nat}(h:bK E B w v l)(J:w.grownBy w' row)(F:∀k,row=some k->v.ownBlock≠some k):bK E B w' v l:=by
 refine⟨h.1,?_⟩
 rcases h.2 with h1|⟨g,cap,z,rfl,D,I,r⟩
 ·exact .inl h1
 ·refine .inr ⟨g,cap,z,rfl,D,?_,r⟩
  rw[J.block g (Array.getElem?_eq_some_iff.1 I).1 (fun e=>F g e.symm rfl)];exact I
theorem bK.setBelow(h:bK E B w v l){a:Addr}(I:a.block<B)(u:Value):bK E B (w.setCell a u) v l:=by
 refine⟨h.1,?_⟩
 rcases h.2 with h1|⟨g,cap,z,rfl,D,F,r⟩
 ·exact .inl h1
 ·refine .inr ⟨g,cap,z,rfl,D,?_,r⟩
  rw[Below.heap_setCell w a u g aD];exact F
theorem bK.cases(h:bK E B w v l):(v=.slice none 0 0/\l=[])∨∃g cap,v=.slice (some ⟨g,0,none⟩) l.length cap/\B<=g/\g<w.heap.size:=by
 rcases h.2 with h1|⟨g,cap,D,rfl,z,F,_⟩
 ·exact .inl h1
 ·exact .inr ⟨g,cap,rfl,z,(Array.getElem?_eq_some_iff.1 F).1⟩
theorem bK.cell'{g n cap:Nat}(h:bK E B w (.slice (some ⟨g,0,none⟩) n cap) l)(j:Nat)(F:j<l.length):w.cell? ⟨g,j,none⟩=some (.int .i64 l[j]):=by
 rcases h.2 with⟨e,_⟩|⟨M,D,z,e,_,J,K,I,_,ht⟩
 ·simp at e
 ·simp only[Value.slice.injEq,Option.some.injEq,Addr.mk.injEq,and_true]at e
  obtain⟨rfl,_,rfl⟩:=e;have hc:w.cell? ⟨g,j,none⟩=z[j]?:=cell_of_row w g j z E (0,0) J;rw[hc];have h1:(z.toList.take l.length)[j]?=some (.int .i64 l[j]):=by rw[ht,List.getElem?_map,List.getElem?_eq_getElem F];rfl
  rw[List.getElem?_take_of_lt F]at h1;rw[<-Array.getElem?_toList];exact h1
theorem bK.ints(h:bK E B w v l):aK w v l:=by
 rcases h.2 with⟨rfl,rfl⟩|⟨g,cap,D,rfl,F,J,z,I,hm,ht⟩
 ·exact⟨none,0,rfl,aI,Nat.zero_le _,by simp,.inl rfl⟩
 ·exact⟨_,cap,rfl,z,hm,h.1,.inr ⟨g,0,rfl,(Array.getElem?_eq_some_iff.1 J).1,fun k hk=>by rw[Nat.zero_add];exact h.cell' k hk⟩⟩
theorem bK.shape(h:bK E B w v l):∃a c,v=.slice a l.length c:=by
 obtain⟨a,c,rfl,_⟩:=h.ints;exact⟨a,c,rfl⟩
theorem bK.shape3(h:bK E B w v l):∃a n c,v=.slice a n c:=by
 obtain⟨a,c,rfl,_⟩:=h.ints;exact⟨a,_,c,rfl⟩
theorem bK.cellAt{g n cap:Nat}(h:bK E B w (.slice (some ⟨g,0,none⟩) n cap) l)(_:n=l.length)(j:Nat)(z:j<l.length):w.cell? ⟨g,j,none⟩=some (.int .i64 l[j]):=h.cell' j z
theorem bK.frozenAt{g n cap:Nat}(h:bK E B w (.slice (some ⟨g,0,none⟩) n cap) l)(_:n=l.length)(j:Nat):w.frozen? ⟨g,j,none⟩=false:=by
 rcases h.2 with⟨e,_⟩|⟨I,z,D,e,_,F,_⟩
 ·simp at e
 ·simp only[Value.slice.injEq,Option.some.injEq,Addr.mk.injEq,and_true]at e
  obtain⟨rfl,_,rfl⟩:=e;simp[World.frozen?,F]
theorem bK.stored{g n cap:Nat}(h:bK E B w (.slice (some ⟨g,0,none⟩) n cap) l)(O:n=l.length)(j:Nat)(y:Int)(R:dL y):
  bK E B (w.setCell ⟨g,j,none⟩ (.int .i64 y)) (.slice (some ⟨g,0,none⟩) n cap) (l.set j y)/\w.grownBy (w.setCell ⟨g,j,none⟩ (.int .i64 y)) (some g):=by
 subst O;refine⟨⟨?_,?_⟩,⟨rfl,rfl,rfl,by simp,fun b hb K=>Below.heap_setCell w _ _ b (by intro e;exact K (by rw[e]))⟩⟩
 ·intro z D
  rcases List.mem_or_eq_of_mem_set D with D|D
  ·exact h.1 z D
  ·subst D;exact R
 ·right
  rcases h.2 with⟨e,_⟩|⟨S,M,F,e,hB,N,J,I,hm,ht⟩
  ·simp at e
  ·simp only[Value.slice.injEq,Option.some.injEq,Addr.mk.injEq,and_true]at e
   obtain⟨rfl,_,rfl⟩:=e;refine⟨g,cap,F.setIfInBounds j (.int .i64 y),by simp,hB,?_,by simpa using J,by simpa using I,hm,?_⟩
   ·simp[World.setCell,Array.getElem?_modify,N]
   ·rw[List.length_set,Array.toList_setIfInBounds,List.take_set,ht,List.map_set]
end
def aV(u v:Value):Prop:=∀k,u.ownBlock=some k->v.ownBlock≠some k
theorem aV.symm{u v:Value}(h:aV u v):aV v u:=fun k hk z=>h k z hk
theorem aV.of_lt{E z:TypeId}{B B':Nat}{w w':World}{u v:Value}{l m:List Int}(h:bK E B w u l)(D:bK z B' w' v m)(hB:w.heap.size<=B'):aV u v:=fun k hk F=>by
 have:=(h.lt k hk).2;have:=(D.lt k F).1;omega
theorem aM.cut{E:TypeId}{B:Nat}{w:World}{g n cap:Nat}{l:List Int}(h:aM E B w (.slice (some ⟨g,0,none⟩) n cap) l)(k:Nat)(hk:k<=l.length):aM E B w (.slice (some ⟨g,0,none⟩) k cap) (l.take k):=by
 obtain⟨⟨M,h1⟩,h2⟩:=h
 rcases h1 with⟨e,_⟩|⟨K,F,z,e,hB,I,N,hm,D,ht⟩
 ·simp at e
 ·simp only[Value.slice.injEq,Option.some.injEq,Addr.mk.injEq,and_true]at e
  obtain⟨rfl,rfl,rfl⟩:=e;have hl:(l.take k).length=k:=by simp;omega
  refine⟨⟨by rw[List.length_map,hl];omega,.inr ⟨g,cap,z,by rw[hl],hB,I,by omega,hm,D,?_⟩⟩,fun x J=>h2 x (List.mem_of_mem_take J)⟩;rw[hl,Nat.mul_one];rw[Nat.mul_one]at ht;rw[List.map_take,<-ht,List.take_take,Nat.min_eq_left hk]
theorem aM.holds{E:TypeId}{B:Nat}{w:World}{g n cap:Nat}{l:List Int}(h:aM E B w (.slice (some ⟨g,0,none⟩) n cap) l)(F:n=l.length):Go.Sort.Holds (Value.int .i64) w g 0 l.toArray:=by
 intro j D;have z:j<l.length:=by simpa using D
 refine⟨?_,?_⟩
 ·rw[Nat.zero_add,h.cellAt F j z,getElem!_pos l.toArray j D];simp
 ·rw[Nat.zero_add];exact h.frozenAt F j
theorem aM.put{E:TypeId}{B:Nat}{w:World}{g n cap:Nat}{l:List Int}(h:aM E B w (.slice (some ⟨g,0,none⟩) n cap) l)(D:List Int)(hl:D.length=l.length)(hr:∀x∈D,dL x)(q:Nat)(os:Array Obj):
  aM E B (Go.Sort.grow (Go.Sort.putRow (Value.int .i64) (Go.Sort.ahead w q) g 0 D.toArray) os) (.slice (some ⟨g,0,none⟩) n cap) D/\w.grownBy (Go.Sort.grow (Go.Sort.putRow (Value.int .i64) (Go.Sort.ahead w q) g 0 D.toArray) os) (some g):=by
 obtain⟨⟨O,h1⟩,h2⟩:=h
 rcases h1 with⟨e,_⟩|⟨N,K,F,e,hB,M,R,hm,I,ht⟩
 ·simp at e
 ·simp only[Value.slice.injEq,Option.some.injEq,Addr.mk.injEq,and_true]at e
  obtain⟨rfl,rfl,rfl⟩:=e;have hlt:=(Array.getElem?_eq_some_iff.1 M).1;have z:∀b,b<w.heap.size->(Go.Sort.grow (Go.Sort.putRow (Value.int .i64) (Go.Sort.ahead w q) g 0 D.toArray) os).heap[b]?=(w.heap.modify g (Go.Sort.onCells (Go.Sort.putCells (Value.int .i64) 0 D.toArray)))[b]?:=by
   intro b hb;unfold Go.Sort.grow Go.Sort.putRow Go.Sort.mapBlock Go.Sort.ahead;simp only;rw[Array.getElem?_append_left (by simpa using hb)]
  refine⟨⟨⟨by rw[List.length_map,Nat.mul_one],.inr ⟨g,cap,Go.Sort.putCells (Value.int .i64) 0 D.toArray F,by rw[hl],hB,?_,by omega,hm,?_,?_⟩⟩,hr⟩,⟨rfl,rfl,rfl,?_,?_⟩⟩
  ·rw[z g hlt,Array.getElem?_modify,if_pos rfl,M];rfl
  ·unfold Go.Sort.putCells;simpa using I
  ·rw[Nat.mul_one]
   have hcl:l.length<=F.size:=aD
   apply List.ext_getElem?
   intro k
   by_cases hk:k<D.length
   ·rw[List.getElem?_take_of_lt hk,Array.getElem?_toList]
    unfold Go.Sort.putCells;rw[Array.getElem?_mapIdx,Array.getElem?_eq_getElem (show k<F.size by omega),Option.map_some,if_pos ⟨by omega,by simpa using hk⟩,Nat.sub_zero,getElem!_pos D.toArray k (by simpa using hk),List.getElem?_map,List.getElem?_eq_getElem hk];simp
   ·rw[List.getElem?_eq_none aT,List.getElem?_eq_none (by simpa using hk)]
  ·simp[Go.Sort.grow,Go.Sort.putRow,Go.Sort.mapBlock,Go.Sort.ahead]
  ·intro b hb J
   rw[z b hb,Array.getElem?_modify,if_neg (fun e=>J (by rw[e]))]
end Go.G5
end
section
namespace Go.G5
open Go Go.RowKit
section
variable {P:Program} {w:World}
def vK(w:World)(v z:Value):Prop:=z.ownBlock=v.ownBlock∨z.ownBlock=some w.heap.size
theorem aaI(T E Z:TypeId)(O:P.underlying T=some (.slice E))(hE:IntElem P E)(B:Nat)(v:Value)(l:List Int)(z:aM E B w v l)
  (Y:Value) (m:List Int) (hs:aK w Y m) (S:l.length+m.length<=17592186044416) (hB:B<=w.heap.size):
  ∃K w',(Builtin.append_ #[T,T] Z #[v,Y]).run P w=.ok K w'/\aM E B w' K (l++m)/\w.grownBy w' v.ownBlock/\vK w v K:=by
 obtain⟨i,R,hz,h1,h8⟩:=hE.get;obtain⟨ad,c,rfl,a7,hcm,hr,h4⟩:=hs;have I:∀q∈l++m,dL q:=fun q hq=>(List.mem_append.1 hq).elim (z.2 q) (hr q);have F:ad=none->m=[]:=by
  intro e
  rcases h4 with h|⟨b,N,hb,_⟩
  ·exact h
  ·rw[e]at hb;cases hb
 cases ad with
 |none=>
  have:=F rfl;subst this;refine⟨v,w,?_,by simpa using z,World.grownBy.refl w _,.inl rfl⟩;exact ahG
 |some ad=>
  have D:∀j u,(m.map (Value.int .i64))[j]?=some u->w.cell? (ad.add j)=some u:=by
   exact ag1
  obtain⟨K,w',J,h2,h3,_,h5⟩:=run_append_own_at (P:=P) w B T Z E i (.int .i64 0) 1 8 O R hz h1 h8 rfl aQ v l.length (l.map (Value.int .i64)) z.1 ad m.length c (m.map (Value.int .i64)) (by simp) D
   (by intro u M;obtain⟨q,_,rfl⟩:=List.mem_map.1 M;rfl) (by unfold maxLen;omega) aD hB
  exact⟨K,w',J,⟨by simpa using h2,I⟩,h3,h5⟩
theorem ah8{p:Prop}(h:p:=by
  unfold Oper.wp execOp;simp only[ho,resolve,invoke,builtin,Sem.run_bind,Sem.run_pure,Result.andThen_ok,List.map_toArray,List.map_cons,List.map_nil,hs,hx,I];exact h F w' h2 h3 h4):p:=h
theorem FL{o:Oper}{a:Act}{K:Act->World->Prop}{Q:Exit->Act->World->Prop}(s x:Operand)(t:TypeId)
  (ho:o.op=.call { callee:=.builtin .append,args:=#[s,x],argTypes:=#[t,t] })
  (E:TypeId) (Y:P.underlying t=some (.slice E)) (S:IntElem P E) (B:Nat) (v:Value) (l:List Int) (hs:a.eval s=v) (D:aM E B w v l)
  (M:Value) (m:List Int) (hx:a.eval x=M) (J:aK w M m) (z:l.length+m.length<=17592186044416) (hB:B<=w.heap.size)
  (h:∀F w',aM E B w' F (l++m)->w.grownBy w' v.ownBlock->vK w v F->K (a.put o.dst F) w'):o.wp P a w K Q:=by
 obtain⟨F,w',I,h2,h3,h4⟩:=aaI (P:=P) t E o.type Y S B v l D M m J z hB;exact ah8
theorem aK.one{w:World}{b:Nat}{y:Int}(F:w.cell? ⟨b,0,none⟩=some (.int .i64 y))(z:dL y):aK w (.slice (some ⟨b,0,none⟩) 1 1) [y]:=
 ⟨some ⟨b,0,none⟩,1,rfl,aI,by decide,by intro q D;simp only[List.mem_singleton]at D;subst D;exact z,
  .inr ⟨b,0,rfl,World.block_lt_of_cell? w _ F,fun k hk=>by have:k=0:=(by simpa using hk);subst this;exact F⟩⟩
theorem fN{ops:Array Oper}{rest:List Oper}{o:Oper}{a:Act}{Q:Exit->Act->World->Prop}(F:o.guard=none)(s x:Operand)(t:TypeId)
  (O:o.op=.call { callee:=.builtin .append,args:=#[s,x],argTypes:=#[t,t] })
  (E:TypeId) (N:P.underlying t=some (.slice E)) (K:IntElem P E) (B:Nat) (v:Value) (l:List Int) (y:Int) (b:Nat) (R:a.eval s=v) (S:a.eval x=.slice (some ⟨b,0,none⟩) 1 1)
  (Y:w.cell? ⟨b,0,none⟩=some (.int .i64 y))
  (z:aM E B w v l) (I:dL y) (J:l.length<17592186044415) (hB:B<=w.heap.size)
  (h:∀D w',aM E B w' D (l++[y])->w.grownBy w' v.ownBlock->vK w v D->wpList P ops Q rest (a.put o.dst D) w'):wpList P ops Q (o::rest) a w:=
 wpList_plain F fun _ M=>FL s x t O E N K B v l R z _ [y] S (aK.one Y I) aT hB fun D w' h2 h3 h4=>M _ _ (h D w' h2 h3 h4)
theorem mD{ops:Array Oper}{rest:List Oper}{o:Oper}{a:Act}{Q:Exit->Act->World->Prop}(I:o.guard=none)(s x:Operand)(t:TypeId)
  (R:o.op=.call { callee:=.builtin .append,args:=#[s,x],argTypes:=#[t,t] })
  (E:TypeId) (O:P.underlying t=some (.slice E)) (M:IntElem P E) (B:Nat) (v:Value) (l:List Int) (S:a.eval s=v) (D:aM E B w v l)
  (K:Value) (m:List Int) (Y:a.eval x=K) (J:aK w K m) (z:l.length+m.length<=17592186044416) (hB:B<=w.heap.size)
  (h:∀F w',aM E B w' F (l++m)->w.grownBy w' v.ownBlock->vK w v F->wpList P ops Q rest (a.put o.dst F) w'):wpList P ops Q (o::rest) a w:=
 wpList_plain I fun _ N=>FL s x t R E O M B v l S D K m Y J z hB fun F w' h2 h3 h4=>N _ _ (h F w' h2 h3 h4)
end
theorem vK.apart{w:World}{v D u:Value}(h:vK w v D)(F:aV v u)(I:∀k,u.ownBlock=some k->k<w.heap.size):aV D u:=by
 intro k hk z
 rcases h with h|h
 ·exact F k (h▸hk) z
 ·rw[h]at hk
  have e:w.heap.size=k:=Option.some.inj hk;have:=I k z;omega
theorem aM.growA{E:TypeId}{B:Nat}{w w':World}{u v:Value}{l:List Int}(h:aM E B w u l)(D:w.grownBy w' v.ownBlock)(z:aV v u):aM E B w' u l:=
 h.grow D (fun k hk F=>z k hk F)
theorem bK.growA{E:TypeId}{B:Nat}{w w':World}{u v:Value}{l:List Int}(h:bK E B w u l)(D:w.grownBy w' v.ownBlock)(z:aV v u):bK E B w' u l:=
 h.grow D (fun k hk F=>z k hk F)
theorem aV.nil(c d:Nat)(u:Value):aV (.slice none c d) u:=fun k hk _=>by simp[Value.ownBlock]at hk
theorem aK.upto{P:Program}{w:World}{a:Option Addr}{c:Nat}{l:List Int}(h:aK w (.slice a l.length c) l)(T E:TypeId)(K:P.underlying T=some (.slice E))(N:IntElem P E)(k:Nat)(hk:k<=l.length):
  (∀(I:IntKind) (w':World),(Instr.slice T (.slice a l.length c) none (some (.int I (k:Int))) none).run P w'=.ok (.slice a k c) w')/\aK w (.slice a k c) (l.take k):=by
 obtain⟨i,O,_,h1,_⟩:=N.get;have z:P.elem T=E:=by simp[Program.elem,K]
 obtain⟨hl,hcl,hcm⟩:=h.capLe;have D:(l.take k).length=k:=by simp;omega
 refine⟨fun I w'=>?_,?_⟩
 ·rw[run_slice_h w' T a l.length c (by rw[z];exact K) I k aD aD]
  simp[sizeOf,typeInfo,z,O,h1,Result.andThen,sliced]
  cases a with
  |none=>simp
  |some x=>simp[Addr.add]
 ·obtain⟨Z,c1,M,q1,S,Y,h4⟩:=h
  simp only[Value.slice.injEq]at M;obtain⟨rfl,_,rfl⟩:=M;refine⟨a,c,by rw[D],by omega,S,fun x R=>Y x (List.mem_of_mem_take R),?_⟩
  rcases h4 with e|⟨b,J,rfl,hb,F⟩
  ·rw[e];exact .inl (by simp)
  ·exact .inr ⟨b,J,rfl,hb,fun j hj=>by rw[F j aD,List.getElem_take]⟩
theorem aM.drew'{E:TypeId}{B:Nat}{w:World}{v:Value}{l:List Int}(h:aM E B w v l):aM E B w.drew v l:=h.drewN 1
theorem aK.drew'{w:World}{v:Value}{l:List Int}(h:aK w v l):aK w.drew v l:=h.drewN 1
theorem gE{P:Program}{w:World}{ops:Array Oper}{o:Oper}{a:Act}{K:Act->World->Prop}{Q:Exit->Act->World->Prop}{F:Prop}(M:o.guard=none)(s x:Operand)(t:TypeId)
  (ho:o.op=.call { callee:=.builtin .append,args:=#[s,x],argTypes:=#[t,t] })
  (E:TypeId) (Z:P.underlying t=some (.slice E)) (Y:IntElem P E) (B:Nat) (v:Value) (l:List Int) (hs:a.eval s=v)
  (R:Value) (m:List Int) (hx:a.eval x=R) (z:aM E B w v l) (O:aK w R m) (D:l.length+m.length<=17592186044416) (S:World) (hb:Below B S w) (J:B<=S.heap.size)
  (h:∀I w',aM E B w' I (l++m)->Below B S w'->(∀b u,w.cell? ⟨b,0,none⟩=some u->some b≠v.ownBlock->w'.cell? ⟨b,0,none⟩=some u)->K (a.put o.dst I) w'):if Region.wanted o (yielded ops a.tmps)=true then Oper.wp P o a w K Q else F:=by
 have hB:=Nat.le_trans J hb.size;refine JD M s x t ho E Z Y B v l hs z R m hx O D hB fun I w' h1 h2=>h I w' h1 (hb.grown h2 hB (fun q hq=>(z.lt q hq).1)) fun b u hc N=>?_;have hlt:=World.block_lt_of_cell? w _ hc;have e:=h2.block b hlt N;unfold World.cell? at hc ⊢;simp only at hc ⊢;rw[e];exact hc
theorem BI(w:World)(T:TypeId)(u:Value):(w.alloc (.cells #[u] T)).drew.cell? ⟨w.heap.size,0,none⟩=some u:=aZ w #[u] T 0 u rfl
theorem rJ(w:World)(o:Obj)(T:TypeId)(u:Value):((w.alloc o).alloc (.cells #[u] T)).drew.cell? ⟨w.heap.size+1,0,none⟩=some u:=by
 have h:=aZ (w.alloc o) #[u] T 0 u rfl;have e:(w.alloc o).heap.size=w.heap.size+1:=by simp
 rw[e]at h;exact h
theorem sZ(w:World)(o:Obj)(T:TypeId)(u:Value):((w.alloc (.cells #[u] T)).alloc o).drew.cell? ⟨w.heap.size,0,none⟩=some u:=akI (aZ w #[u] T 0 u rfl) o
theorem wW(n:Nat)(a b:Nat):some (n+1)≠(Value.slice (some ⟨n,0,none⟩) a b).ownBlock:=by intro e;have h:n+1=n:=Option.some.inj e;omega
theorem wX(n:Nat)(a b:Nat):some n≠(Value.slice (some ⟨n+1,0,none⟩) a b).ownBlock:=by intro e;have h:n=n+1:=Option.some.inj e;omega
theorem aM.lit0'{E:TypeId}(w:World)(o:Obj):aM E w.heap.size ((w.alloc o).alloc (.cells #[] E)) (.slice (some ⟨w.heap.size+1,0,none⟩) 0 0) []:=by
 have:=aM.lit0 (E:=E) (B:=w.heap.size) (w.alloc o) (by simp);simpa using this
theorem ajX{P:Program}{w:World}{ops:Array Oper}{o:Oper}{a:Act}{K:Act->World->Prop}{Q:Exit->Act->World->Prop}{F:Prop}(N:o.guard=none)(s x:Operand)(t:TypeId)
  (ho:o.op=.call { callee:=.builtin .append,args:=#[s,x],argTypes:=#[t,t] })
  (E:TypeId) (Z:P.underlying t=some (.slice E)) (Y:IntElem P E) (B:Nat) (v:Value) (l:List Int) (hs:a.eval s=v)
  (R:Value) (m:List Int) (hx:a.eval x=R) (z:aM E B w v l) (O:aK w R m) (D:l.length+m.length<=17592186044416) (S:World) (hb:Below B S w) (M:B<=S.heap.size)
  (h:∀J w',aM E B w' J (l++m)->Below B S w'->(∀b t cs,aP w b t cs->some b≠v.ownBlock->aP w' b t cs/\J.ownBlock≠some b)->K (a.put o.dst J) w'):if Region.wanted o (yielded ops a.tmps)=true then Oper.wp P o a w K Q else F:=by
 have hB:=Nat.le_trans M hb.size;have hw:Region.wanted o (yielded ops a.tmps)=true:=by simp[Region.wanted,N]
 rw[if_pos hw];refine FL s x t ho E Z Y B v l hs z R m hx O D hB fun J w' h1 h2 h3=>h J w' h1 (hb.grown h2 hB (fun q hq=>(z.lt q hq).1)) fun b t cs hc I=>⟨hc.grow h2 (fun e=>I e.symm),?_⟩
 rcases h3 with h3|h3
 ·rw[h3];exact fun e=>I e.symm
 ·rw[h3];intro e;have:=Option.some.inj e;have:=hc.lt;omega
theorem jW(w:World)(a:Addr)(u:Value):w.grownBy (w.setCell a u) (some a.block):=
 ⟨rfl,rfl,rfl,by simp,fun b _ z=>Below.heap_setCell w _ _ b (fun e=>z (by rw[e]))⟩
theorem bQ{w w':World}{g:Nat}(h:w.grownBy w' (some g))(i:Nat)(u:Value):w.grownBy (w'.setCell ⟨g,i,none⟩ u) (some g):=V8 h (jW w' ⟨g,i,none⟩ u)
theorem aM.setFar{E:TypeId}{B:Nat}{w:World}{v:Value}{l:List Int}(h:aM E B w v l)(a:Addr)(z:v.ownBlock≠some a.block)(u:Value):aM E B (w.setCell a u) v l:=
 h.grow (jW w a u) (fun _ hk D=>z (D.trans hk.symm))
theorem apF{B g:Nat}{w w':World}(h:Below B w w')(z:g<w.heap.size):¬w'.heap.size=g:=by have:=h.size;omega
theorem aP.drew'{w:World}{g:Nat}{t:TypeId}{cs:Array Value}(h:aP w g t cs):aP w.drew g t cs:=h
theorem aP.second(w:World)(o:Obj)(t:TypeId)(cs:Array Value):aP ((w.alloc o).alloc (.cells cs t)).drew (w.heap.size+1) t cs:=by
 have h:=aP.new (w.alloc o) t cs;have e:(w.alloc o).heap.size=w.heap.size+1:=by simp
 rw[e]at h;exact h
theorem aP.first(w:World)(o:Obj)(t:TypeId)(cs:Array Value):aP ((w.alloc (.cells cs t)).alloc o).drew w.heap.size t cs:=(aP.new w t cs).alloc o
end Go.G5
end
