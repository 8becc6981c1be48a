/- Lemmas for CardClaims, part 3 of 52. No condition. -/
import Derived.Test.YtipejodijbjpcaaGreatDoorQ02
import Derived.Deep.Light
import Derived.Lib.ItoaNum
import Derived.Lib.Join
import Derived.Lib.SmallJoins
set_option maxRecDepth 100000
set_option maxHeartbeats 64000000
section
namespace Go.G5
open Go Go.RowKit
section
variable {P:Program} {w:World}
def rF(w:World)(v o:Value):Prop:=o.ownBlock=v.ownBlock∨o.ownBlock=some w.heap.size
theorem L6(T E Y:TypeId)(N:P.underlying T=some (.slice E))(hE:IntElem P E)(B:Nat)(v:Value)(l:List Int)(o:aC E B w v l)
  (U:Value) (m:List Int) (hs:aD w U m) (S:l.length+m.length<=17592186044416) (hB:B<=w.heap.size):
  ∃M w',(Builtin.append_ #[T,T] Y #[v,U]).run P w=.ok M w'/\aC E B w' M (l++m)/\w.grownBy w' v.ownBlock/\rF w v M:=by
 obtain⟨i,O,hz,h1,h8⟩:=hE.get;obtain⟨I,c,rfl,b3,b1,hr,h4⟩:=hs;have K:∀q∈l++m,bA q:=fun q hq=>(List.mem_append.1 hq).elim (o.2 q) (hr q);have A:I=none->m=[]:=by
  intro e
  rcases h4 with h|⟨b,F,hb,_⟩
  ·exact h
  ·rw[e]at hb;cases hb
 cases I with
 |none=>
  have:=A rfl;subst this;refine⟨v,w,?_,by simpa using o,World.grownBy.refl w _,.inl rfl⟩
  rcases o.1.2 with⟨rfl,hn⟩|⟨g,cap,Z,rfl,_,_,Q,_⟩
  ·simp[Builtin.append_,run_underlying N,sizeOf,typeInfo,O,Builtin.lenOf,Builtin.firstCells]
  ·simp[Builtin.append_,run_underlying N,sizeOf,typeInfo,O,Builtin.lenOf,Builtin.firstCells,Q,storeCells]
 |some I=>
  have z:∀j u,(m.map (Value.int .i64))[j]?=some u->w.cell? (I.add j)=some u:=by
   intro j u D
   rcases h4 with h|⟨b,F,hb,_,hc⟩
   ·subst h;simp at D
   ·simp only[Option.some.injEq]at hb
    subst hb;have R:j<m.length:=by
     rcases Nat.lt_or_ge j m.length with h|h
     ·exact h
     ·rw[List.getElem?_eq_none (by simpa using h)]at D;cases D
    have:=hc j R;have e:(⟨b,F,none⟩:Addr).add j=⟨b,F+j,none⟩:=by
     unfold Addr.add;split
     ·rename_i h0;rw[h0];rfl
     ·rfl
    rw[e,this];rw[List.getElem?_map,List.getElem?_eq_getElem R]at D;exact D
  obtain⟨M,w',L,h2,h3,_,h5⟩:=run_append_own_at (P:=P) w B T Y E i (.int .i64 0) 1 8 N O hz h1 h8 rfl (by decide) v l.length (l.map (Value.int .i64)) o.1 I m.length c (m.map (Value.int .i64)) (by simp) z
   (by intro u D;obtain⟨q,_,rfl⟩:=List.mem_map.1 D;rfl) (by unfold maxLen;omega) (by omega) hB
  exact⟨M,w',L,⟨by simpa using h2,K⟩,h3,h5⟩
theorem uD{o:Oper}{a:Act}{K:Act->World->Prop}{Q:Exit->Act->World->Prop}(s x:Operand)(t:TypeId)
  (R:o.op=.call { callee:=.builtin .append,args:=#[s,x],argTypes:=#[t,t] })
  (E:TypeId) (O:P.underlying t=some (.slice E)) (N:IntElem P E) (B:Nat) (v:Value) (l:List Int) (S:a.eval s=v) (A:aC E B w v l)
  (L:Value) (m:List Int) (U:a.eval x=L) (I:aD w L m) (z:l.length+m.length<=17592186044416) (M:B<=w.heap.size)
  (h:∀F w',aC E B w' F (l++m)->w.grownBy w' v.ownBlock->rF w v F->K (a.put o.dst F) w'):o.wp P a w K Q:=by
 obtain⟨F,w',D,h2,h3,h4⟩:=L6 (P:=P) t E o.type O N B v l A L m I z M;unfold Oper.wp execOp;simp only[R,resolve,invoke,builtin,Sem.run_bind,Sem.run_pure,Result.andThen_ok,List.map_toArray,List.map_cons,List.map_nil,S,U,D];exact h F w' h2 h3 h4
theorem aD.one{w : World}{b : Nat}{y : Int}(hy : w.cell? ⟨b, 0, none⟩ = some (.int .i64 y))(hyr : bA y) : aD w (.slice (some ⟨b, 0, none⟩) 1 1) [y] :=
  ⟨some ⟨b, 0, none⟩, 1, rfl, Nat.le_refl _, by decide, by intro q hq; simp only [List.mem_singleton] at hq; subst hq; exact hyr,
      .inr ⟨b, 0, rfl, World.block_lt_of_cell? w _ hy, fun k hk => by have : k = 0 := by simpa using hk
                                                                      subst this; exact hy⟩⟩
theorem bB{A:Array Oper}{rest:List Oper}{o:Oper}{a:Act}{Q:Exit->Act->World->Prop}(F:o.guard=none)(s x:Operand)(t:TypeId)
  (R:o.op=.call { callee:=.builtin .append,args:=#[s,x],argTypes:=#[t,t] })
  (E:TypeId) (O:P.underlying t=some (.slice E)) (M:IntElem P E) (B:Nat) (v:Value) (l:List Int) (y:Int) (b:Nat) (S:a.eval s=v) (U:a.eval x=.slice (some ⟨b,0,none⟩) 1 1)
  (Y:w.cell? ⟨b,0,none⟩=some (.int .i64 y))
  (z:aC E B w v l) (I:bA y) (K:l.length<17592186044415) (L:B<=w.heap.size)
  (h:∀D w',aC E B w' D (l++[y])->w.grownBy w' v.ownBlock->rF w v D->wpList P A Q rest (a.put o.dst D) w'):wpList P A Q (o::rest) a w:=
 wpList_plain F fun _ N=>uD s x t R E O M B v l S z _ [y] U (aD.one Y I) (by simp;omega) L fun D w' h2 h3 h4=>N _ _ (h D w' h2 h3 h4)
theorem tP{D:Array Oper}{rest:List Oper}{o:Oper}{a:Act}{Q:Exit->Act->World->Prop}(I:o.guard=none)(s x:Operand)(t:TypeId)
  (S:o.op=.call { callee:=.builtin .append,args:=#[s,x],argTypes:=#[t,t] })
  (E:TypeId) (R:P.underlying t=some (.slice E)) (N:IntElem P E) (B:Nat) (v:Value) (l:List Int) (U:a.eval s=v) (A:aC E B w v l)
  (L:Value) (m:List Int) (Y:a.eval x=L) (K:aD w L m) (z:l.length+m.length<=17592186044416) (M:B<=w.heap.size)
  (h:∀F w',aC E B w' F (l++m)->w.grownBy w' v.ownBlock->rF w v F->wpList P D Q rest (a.put o.dst F) w'):wpList P D Q (o::rest) a w:=
 wpList_plain I fun _ O=>uD s x t S E R N B v l U A L m Y K z M fun F w' h2 h3 h4=>O _ _ (h F w' h2 h3 h4)
end
theorem rF.apart{w:World}{v A u:Value}(h:rF w v A)(D:aF v u)(F:∀k,u.ownBlock=some k->k<w.heap.size):aF A u:=by
 intro k z o
 rcases h with h|h
 ·exact D k (h▸z) o
 ·rw[h]at z
  have e:w.heap.size=k:=Option.some.inj z;have:=F k o;omega
theorem aC.growA{E:TypeId}{B:Nat}{w w':World}{u v:Value}{l:List Int}(h:aC E B w u l)(z:w.grownBy w' v.ownBlock)(o:aF v u):aC E B w' u l:=
 h.grow z (fun k A D=>o k A D)
theorem aL.growA{E:TypeId}{B:Nat}{w w':World}{u v:Value}{l:List Int}(h:aL E B w u l)(z:w.grownBy w' v.ownBlock)(o:aF v u):aL E B w' u l:=
 h.grow z (fun k A D=>o k A D)
theorem aF.nil(c d:Nat)(u:Value):aF (.slice none c d) u:=fun k o _=>by simp[Value.ownBlock]at o
theorem aD.upto{P:Program}{w:World}{a:Option Addr}{c:Nat}{l:List Int}(h:aD w (.slice a l.length c) l)(T E:TypeId)(I:P.underlying T=some (.slice E))(L:IntElem P E)(k:Nat)(Z:k<=l.length):
  (∀(D:IntKind) (w':World),(Instr.slice T (.slice a l.length c) none (some (.int D (k:Int))) none).run P w'=.ok (.slice a k c) w')/\aD w (.slice a k c) (l.take k):=by
 obtain⟨i,O,_,h1,_⟩:=L.get;have o:P.elem T=E:=by simp[Program.elem,I]
 obtain⟨hl,M,N⟩:=h.capLe;have z:(l.take k).length=k:=by simp;omega
 refine⟨fun D w'=>?_,?_⟩
 ·rw[run_slice_h w' T a l.length c (by rw[o];exact I) D k (by omega) (by omega)]
  simp[sizeOf,typeInfo,o,O,h1,Result.andThen,sliced]
  cases a with
  |none=>simp
  |some x=>simp[Addr.add]
 ·obtain⟨U,c1,K,q1,R,S,h4⟩:=h
  simp only[Value.slice.injEq]at K;obtain⟨rfl,_,rfl⟩:=K;refine⟨a,c,by rw[z],by omega,R,fun x Q=>S x (List.mem_of_mem_take Q),?_⟩
  rcases h4 with e|⟨b,F,rfl,hb,A⟩
  ·rw[e];exact .inl (by simp)
  ·exact .inr ⟨b,F,rfl,hb,fun j Y=>by rw[A j (by omega),List.getElem_take]⟩
theorem aC.drew'{E:TypeId}{B:Nat}{w:World}{v:Value}{l:List Int}(h:aC E B w v l):aC E B w.drew v l:=h.drewN 1
theorem aD.drew'{w:World}{v:Value}{l:List Int}(h:aD w v l):aD w.drew v l:=h.drewN 1
theorem cV{P:Program}{w:World}{R:Array Oper}{o:Oper}{a:Act}{K:Act->World->Prop}{Q:Exit->Act->World->Prop}{F:Prop}(M:o.guard=none)(s x:Operand)(t:TypeId)
  (ho:o.op=.call { callee:=.builtin .append,args:=#[s,x],argTypes:=#[t,t] })
  (E:TypeId) (hT:P.underlying t=some (.slice E)) (Z:IntElem P E) (B:Nat) (v:Value) (l:List Int) (hs:a.eval s=v)
  (S:Value) (m:List Int) (hx:a.eval x=S) (z:aC E B w v l) (O:aD w S m) (A:l.length+m.length<=17592186044416) (U:World) (hb:Below B U w) (L:B<=U.heap.size)
  (h:∀I w',aC E B w' I (l++m)->Below B U w'->(∀b u,w.cell? ⟨b,0,none⟩=some u->some b≠v.ownBlock->w'.cell? ⟨b,0,none⟩=some u)->K (a.put o.dst I) w'):if Region.wanted o (yielded R a.tmps)=true then Oper.wp P o a w K Q else F:=by
 have Y:=Nat.le_trans L hb.size;refine vG M s x t ho E hT Z B v l hs z S m hx O A Y fun I w' h1 h2=>h I w' h1 (hb.grown h2 Y (fun q hq=>(z.lt q hq).1)) fun b u D N=>?_;have hlt:=World.block_lt_of_cell? w _ D;have e:=h2.block b hlt N;unfold World.cell? at D ⊢;simp only at D ⊢;rw[e];exact D
theorem uX(w:World)(T:TypeId)(u:Value):(w.alloc (.cells #[u] T)).drew.cell? ⟨w.heap.size,0,none⟩=some u:=aT w #[u] T 0 u rfl
theorem iM(w:World)(o:Obj)(T:TypeId)(u:Value):((w.alloc o).alloc (.cells #[u] T)).drew.cell? ⟨w.heap.size+1,0,none⟩=some u:=by
 have h:=aT (w.alloc o) #[u] T 0 u rfl;have e:(w.alloc o).heap.size=w.heap.size+1:=by simp
 rw[e]at h;exact h
theorem jT(w:World)(o:Obj)(T:TypeId)(u:Value):((w.alloc (.cells #[u] T)).alloc o).drew.cell? ⟨w.heap.size,0,none⟩=some u:=TP (aT w #[u] T 0 u rfl) o
theorem mB(n:Nat)(a b:Nat):some (n+1)≠(Value.slice (some ⟨n,0,none⟩) a b).ownBlock:=by intro e;have h:n+1=n:=Option.some.inj e;omega
theorem lX(n:Nat)(a b:Nat):some n≠(Value.slice (some ⟨n+1,0,none⟩) a b).ownBlock:=by intro e;have h:n=n+1:=Option.some.inj e;omega
theorem aC.lit0'{E:TypeId}(w:World)(o:Obj):aC E w.heap.size ((w.alloc o).alloc (.cells #[] E)) (.slice (some ⟨w.heap.size+1,0,none⟩) 0 0) []:=by
 have:=aC.lit0 (E:=E) (B:=w.heap.size) (w.alloc o) (by simp);simpa using this
theorem PQ{P:Program}{w:World}{I:Array Oper}{o:Oper}{a:Act}{K:Act->World->Prop}{Q:Exit->Act->World->Prop}{F:Prop}(N:o.guard=none)(s x:Operand)(t:TypeId)
  (ho:o.op=.call { callee:=.builtin .append,args:=#[s,x],argTypes:=#[t,t] })
  (E:TypeId) (hT:P.underlying t=some (.slice E)) (Z:IntElem P E) (B:Nat) (v:Value) (l:List Int) (hs:a.eval s=v)
  (R:Value) (m:List Int) (hx:a.eval x=R) (z:aC E B w v l) (O:aD w R m) (A:l.length+m.length<=17592186044416) (S:World) (hb:Below B S w) (M:B<=S.heap.size)
  (h:∀L w',aC E B w' L (l++m)->Below B S w'->(∀b t cs,aB w b t cs->some b≠v.ownBlock->aB w' b t cs/\L.ownBlock≠some b)->K (a.put o.dst L) w'):if Region.wanted o (yielded I a.tmps)=true then Oper.wp P o a w K Q else F:=by
 have U:=Nat.le_trans M hb.size;have hw:Region.wanted o (yielded I a.tmps)=true:=by simp[Region.wanted,N]
 rw[if_pos hw];refine uD s x t ho E hT Z B v l hs z R m hx O A U fun L w' h1 h2 h3=>h L w' h1 (hb.grown h2 U (fun q hq=>(z.lt q hq).1)) fun b t cs Y D=>⟨Y.grow h2 (fun e=>D e.symm),?_⟩
 rcases h3 with h3|h3
 ·rw[h3];exact fun e=>D e.symm
 ·rw[h3];intro e;have:=Option.some.inj e;have:=Y.lt;omega
theorem gG(w:World)(a:Addr)(u:Value):w.grownBy (w.setCell a u) (some a.block):=
 ⟨rfl,rfl,rfl,by simp,fun b _ o=>Below.heap_setCell w _ _ b (fun e=>o (by rw[e]))⟩
theorem aA{w w':World}{g:Nat}(h:w.grownBy w' (some g))(i:Nat)(u:Value):w.grownBy (w'.setCell ⟨g,i,none⟩ u) (some g):=cN h (gG w' ⟨g,i,none⟩ u)
theorem aC.setFar{E:TypeId}{B:Nat}{w:World}{v:Value}{l:List Int}(h:aC E B w v l)(a:Addr)(o:v.ownBlock≠some a.block)(u:Value):aC E B (w.setCell a u) v l:=
 h.grow (gG w a u) (fun _ z A=>o (A.trans z.symm))
theorem UT{B g:Nat}{w w':World}(h:Below B w w')(o:g<w.heap.size):¬w'.heap.size=g:=by have:=h.size;omega
theorem aB.drew'{w:World}{g:Nat}{t:TypeId}{cs:Array Value}(h:aB w g t cs):aB w.drew g t cs:=h
theorem aB.second(w:World)(o:Obj)(t:TypeId)(cs:Array Value):aB ((w.alloc o).alloc (.cells cs t)).drew (w.heap.size+1) t cs:=by
 have h:=aB.new (w.alloc o) t cs;have e:(w.alloc o).heap.size=w.heap.size+1:=by simp
 rw[e]at h;exact h
theorem aB.first(w:World)(o:Obj)(t:TypeId)(cs:Array Value):aB ((w.alloc (.cells cs t)).alloc o).drew w.heap.size t cs:=(aB.new w t cs).alloc o
end Go.G5
end
section
namespace Go.G5
open Go Go.RowKit
def fO(w:World)(v:Value)(l:List Nat):Prop:=
 ∃a c,v=.slice a l.length c/\l.length<=c/\c<=maxLen/\(∀x∈l,x<256) /\
  (l=[]∨∃b o,a=some ⟨b,o,none⟩/\b<w.heap.size/\∀k,(h:k<l.length)->w.cell? ⟨b,o+k,none⟩=some (.int .u8 (l[k]:Int)))
structure ByteElem (P:Program) (E:TypeId):Prop where
 info:(P.info? E).map (fun i=>(i.zero,i.size,i.bytes))=some (some (.int .u8 0),1,1)
theorem ByteElem.get{P:Program}{E:TypeId}(h:ByteElem P E):∃i,P.info? E=some i/\i.zero=some (.int .u8 0)/\i.size=1/\i.bytes=1:=by
 have h:=h.info
 cases o:P.info? E with
 |none=>rw[o]at h;simp at h
 |some i=>rw[o]at h;simp at h;exact⟨i,rfl,h.1,h.2.1,h.2.2⟩
theorem fO.view{w:World}{v:Value}{l:List Nat}(h:fO w v l)(P:Program)(T E:TypeId)(F:P.underlying T=some (.slice E))(L:ByteElem P E):
  ∃a b o c,v=.slice a l.length c/\l.length<=9223372036854775807 /\
   (∀(w':World) (k:Nat),k<l.length->(Instr.indexAt T (.slice a l.length c) (.int .i64 (k:Int))).run P w'=.ok (.pointer (some ⟨b,o+k,none⟩)) w') /\
   (∀k,(h:k<l.length)->w.cell? ⟨b,o+k,none⟩=some (.int .u8 (l[k]:Int)))/\(l≠[]->b<w.heap.size/\a=some ⟨b,o,none⟩)/\(∀x∈l,x<256):=by
 obtain⟨a,c,rfl,h1,h2,h3,h4⟩:=h;have D:P.elem T=E:=by simp[Program.elem,F]
 obtain⟨i,K,_,A,_⟩:=L.get
 rcases h4 with rfl|⟨b,o,rfl,hb,I⟩
 ·exact⟨a,0,0,c,rfl,by simp,fun w' k z=>by simp at z,fun k z=>by simp at z,fun h=>absurd rfl h,h3⟩
 ·refine⟨_,b,o,c,rfl,by unfold maxLen at h2;omega,fun w' k z=>?_,I,fun _=>⟨hb,rfl⟩,h3⟩
  rw[run_indexAt_slice w' T ⟨b,o,none⟩ l.length c .i64 k (by rw[D];exact F),if_pos ⟨by omega,by omega⟩,D];simp[sizeOf,typeInfo,K,A,Addr.add]
theorem fO.below{B:Nat}{w w':World}{v:Value}{l:List Nat}(h:fO w v l)(hb:Below B w w')(D:w.heap.size<=B):fO w' v l:=by
 obtain⟨a,c,rfl,h1,h2,h3,h4⟩:=h;refine⟨a,c,rfl,h1,h2,h3,?_⟩
 rcases h4 with rfl|⟨b,o,rfl,hlt,z⟩
 ·exact .inl rfl
 ·refine .inr ⟨b,o,rfl,Nat.lt_of_lt_of_le hlt hb.size,fun k A=>?_⟩
  rw[hb.cell (p:=⟨b,o+k,none⟩) (by show b<B;omega)];exact z k A
theorem fO.grow{w w':World}{row:Option Nat}{v:Value}{l:List Nat}(h:fO w v l)(D:w.grownBy w' row)(A:l≠[]->∀b o n c,v=.slice (some ⟨b,o,none⟩) n c->row≠some b):fO w' v l:=by
 obtain⟨a,c,rfl,h1,h2,h3,h4⟩:=h;refine⟨a,c,rfl,h1,h2,h3,?_⟩
 rcases h4 with rfl|⟨b,o,rfl,hlt,F⟩
 ·exact .inl rfl
 ·refine .inr ⟨b,o,rfl,Nat.lt_of_lt_of_le hlt D.size,fun k z=>?_⟩
  exact grown_keep D (F k z) (fun q I e=>A (fun e2=>by rw[e2]at z;simp at z) b o _ c rfl (by rw[I,<-e]))
theorem M8(x:Int):0<=bits .and .i64 x 255/\bits .and .i64 x 255<256:=by
 have h:(BitVec.ofInt IntKind.i64.bits x &&& BitVec.ofInt IntKind.i64.bits 255).toNat<=255:=by
  rw[BitVec.toNat_and];exact Nat.and_le_right
 unfold bits;rw[IntKind.wrap_i64];simp only;omega
end Go.G5
namespace Go.Proofs.YtipejodijbjpcaaGreatDoor
open Go.RowKit Go.G5
theorem JQ:ByteElem Tryz.prog 5:=⟨by kernel_rfl⟩
def Dr(w:World)(g:Nat):Prop:=∃(v:Value) (l:List Nat) (i:Nat) (h:Int),aB w g 192 #[v,.int .i64 i,.int .i64 h]/\fO w v l/\(l≠[]->∀b o n c,v=.slice (some ⟨b,o,none⟩) n c->b<g)
theorem Dr.lt{w:World}{g:Nat}(D:Dr w g):g<w.heap.size:=by obtain⟨_,_,_,_,K,_⟩:=D;exact K.lt
theorem Dr.keep{w w':World}{g:Nat}(D:Dr w g)(hb:Below w.heap.size w w'):Dr w' g:=by
 obtain⟨v,l,i,h,K,z,o⟩:=D;exact⟨v,l,i,h,K.keep hb,z.below hb (Nat.le_refl _),o⟩
theorem Dr.grow{w w':World}{g:Nat}{row:Option Nat}(D:Dr w g)(A:w.grownBy w' row)(h1:∀k,row=some k->g<k):Dr w' g:=by
 obtain⟨v,l,i,h,K,I,o⟩:=D;exact⟨v,l,i,h,K.grow A (fun e=>by have:=h1 g e;omega),I.grow A (fun F b z n c e e2=>by have:=o F b z n c e;have:=h1 b e2;omega),o⟩
theorem Dr.setCell{w:World}{g b i:Nat}(D:Dr w g)(u:Value)(hb:g<b):Dr (w.setCell ⟨b,i,none⟩ u) g:=D.grow (gG w ⟨b,i,none⟩ u) (fun k e=>by have:=Option.some.inj e;simp at this;omega)
theorem tV{w w':World}{row:Option Nat}(h:w.grownBy w' row)(n:Nat):w.grownBy (w'.drewN n) row:=cN h (dI row ((Below.refl _ _).drewN' n))
theorem nL(w:World)(g:Nat)(D:Dr w g):
  Calls Tryz.prog 301 #[.pointer (some ⟨g,0,none⟩)] w fun e w'=>∃x:Nat,x<256/\e=.returned (.int .i64 x)/\Dr w' g/\w.grownBy w' (some g):=by
 obtain⟨v,l,i,h,K,hv,z⟩:=D;have S:=hv;obtain⟨a,b,M,c,rfl,b7,L,hc,hb,O⟩:=hv.view Tryz.prog 58 5 Tryz.underlying58 JQ;have G:=K.cell;have F:=K.frozen;have G2:=fun u=>(K.set 2 u).cell;have F2:=fun u=>(K.set 2 u).frozen
 by_cases hlt:i<l.length
 ·have R:(i:Int)<(l.length:Int):=by omega
  have I:l≠[]:=by intro e;rw[e]at hlt;simp at hlt
  obtain⟨c5,rfl⟩:=hb I;have a6:b≠g:=by have:=z I b M _ c rfl;omega
  have Q:=hc i hlt;have b6:=fun W=>L W i hlt;have hx:=O l[i] (List.getElem_mem _);obtain⟨y,hy⟩:∃y,y=l[i]:=⟨_,rfl⟩;rw[<-hy]at Q hx;have b5:∀u,(w.setCell ⟨g,2,none⟩ u).cell? ⟨b,M+i,none⟩=some (.int .u8 y):=fun u=>by rw[World.cell?_setCell_other _ _ _ _ (fun e=>a6 (congrArg Addr.block e).symm)];exact Q
  clear hc L hb hy;go_enter Tryz.func301,Tryz.ntmps301;go_wp2_with fail;go_quiet (fail);go_wp2_with fail;go_quiet (fail);go_wp2_with fail;go_quiet (fail);go_wp2;refine aI ?_;intro Wf o;have N:w.grownBy Wf (some g):=by rw[o];exact aA (tV (aA (World.grownBy.refl _ _) 2 _) _) 1 _
  have vf:=S.grow N (fun h0 Y A n' Z e=>by have:=z h0 Y A n' Z e;simp;omega);obtain⟨q,hq⟩:∃q,q=bits .and .i64 (wrap64 (bits .and .i64 (bits .xor .i64 (wrap64 (wrap64 (h*6364136223846793005)+1442695040888963407)/8589934592) (wrap64 (wrap64 (h*6364136223846793005)+1442695040888963407)/35184372088832)) 255+(y:Int))) 255:=⟨_,rfl⟩;have hm:=M8 (wrap64 (bits .and .i64 (bits .xor .i64 (wrap64 (wrap64 (h*6364136223846793005)+1442695040888963407)/8589934592) (wrap64 (wrap64 (h*6364136223846793005)+1442695040888963407)/35184372088832)) 255+(y:Int)));rw[<-hq]at hm ⊢;have U:aB Wf g 192 #[.slice (some ⟨b,M,none⟩) l.length c,.int .i64 ((i+1:Nat):Int),.int .i64 (wrap64 (wrap64 (h*6364136223846793005)+1442695040888963407))]:=by
   rw[o];exact(K.set 2 _).set 1 _
  clear o G F G2 F2;go_ret;exact⟨q.toNat,by omega,eJ (show q=((q.toNat:Nat):Int) by omega),⟨_,l,i+1,_,U,vf,z⟩,N⟩
 ·have R:¬(i:Int)<(l.length:Int):=by omega
  clear hc L hb;go_enter Tryz.func301,Tryz.ntmps301;go_wp2_with fail;go_quiet (fail);go_wp2_with fail;go_quiet (fail);go_wp2;refine aI ?_;intro Wf o;have N:w.grownBy Wf (some g):=by rw[o];exact tV (tV (aA (World.grownBy.refl _ _) 2 _) _) _
  have vf:=S.grow N (fun h0 Y A n' Z e=>by have:=z h0 Y A n' Z e;simp;omega);obtain⟨q,hq⟩:∃q,q=bits .and .i64 (bits .xor .i64 (wrap64 (wrap64 (h*6364136223846793005)+1442695040888963407)/8589934592) (wrap64 (wrap64 (h*6364136223846793005)+1442695040888963407)/35184372088832)) 255:=⟨_,rfl⟩;have hm:=M8 (bits .xor .i64 (wrap64 (wrap64 (h*6364136223846793005)+1442695040888963407)/8589934592) (wrap64 (wrap64 (h*6364136223846793005)+1442695040888963407)/35184372088832));rw[<-hq]at hm ⊢;have U:aB Wf g 192 #[.slice a l.length c,.int .i64 (i:Int),.int .i64 (wrap64 (wrap64 (h*6364136223846793005)+1442695040888963407))]:=by
   rw[o];exact K.set 2 _
  clear o G F G2 F2;go_ret;exact⟨q.toNat,by omega,eJ (show q=((q.toNat:Nat):Int) by omega),⟨_,l,i,_,U,vf,z⟩,N⟩
end Go.Proofs.YtipejodijbjpcaaGreatDoor
end
namespace Go.Proofs.YtipejodijbjpcaaGreatDoor
section
open Go.RowKit Go.G5
theorem nY(v Y:Value)(l z:List Int)(w:World)(hv:aD w v l)(M:aD w Y z):
  Calls Tryz.prog 114 #[v,Y] w fun e w'=>e=.returned (.bool (decide (l=z)))/\∃n,w'=w.drewN n:=by
 obtain⟨a,b,b1,c,rfl,R,a8,hc,hb⟩:=hv.view Tryz.prog 22 3 Tryz.underlying22 aG;obtain⟨a',b',U,c',rfl,L,N,a7,a1⟩:=M.view Tryz.prog 22 3 Tryz.underlying22 aG
 by_cases A:l.length=z.length
 ·have Z:=Lib.hid A
  have O:l.length<=z.length:=by omega
  have Q:z.length<=l.length:=by omega
  have a6:((l.length:Int) != (z.length:Int))=false:=by simp[A]
  clear A;go_enter Tryz.func114,Tryz.ntmps114;go_wp2;go_loopw [5] (fun i wr=>∃k n:Nat,k<=l.length/\i=.int .i64 k/\wr=w.drewN n/\(∀j (h:j<l.length) (F:j<z.length),j<k->l[j]=z[j]))
   (fun i _=>l.length-(intOf i).toNat)
  case atStart=>exact⟨0,0,Nat.zero_le _,rfl,rfl,by intros;omega⟩
  case round=>
   obtain⟨k,n,hk,rfl,rfl,D⟩:=hrel;have H:=Lib.hid D;clear D
   by_cases hlt:k<l.length
   ·have S:k<z.length:=by omega
    by_cases o:l[k]=z[k]
    ·have ht:(l[k] != z[k])=false:=by simp[o]
     have I:=Lib.hid o;clear o;go_wp2;go_quiet (fail);go_wp2;go_roundw
     case rel=>
      refine⟨k+1,_,by omega,by go_num,rfl,fun j h F hj=>?_⟩
      by_cases K:j=k
      ·subst K;exact I.out
      ·exact H.out j h F (by omega)
     case measure=>simp[intOf];omega
    ·have ht:(l[k] != z[k])=true:=by simp[o]
     have I:=Lib.hid o;clear o;go_wp2;go_quiet (fail);go_wp2;go_ret;exact⟨aE (by simp;intro e;subst e;exact I.out rfl),⟨n+nq,by simp⟩⟩
   ·have a9:l.length<=k:=by omega
    go_wp2;go_ret;exact⟨aE (by simp;exact List.ext_getElem Z.out fun j h F=>H.out j h F (by omega)),⟨n,rfl⟩⟩
 ·go_enter Tryz.func114,Tryz.ntmps114
  go_wp2;go_ret;exact⟨aE (by simp;intro h;exact A (by rw[h])),⟨0,rfl⟩⟩
theorem fG(v Y:Value)(l z:List Int)(w:World)(hv:aD w v l)(M:aD w Y z):
  Calls Tryz.prog 124 #[v,Y] w fun e w'=>e=.returned (.bool (decide (l=z)))/\∃n,w'=w.drewN n:=by
 obtain⟨a,b,b1,c,rfl,R,a8,hc,hb⟩:=hv.view Tryz.prog 22 3 Tryz.underlying22 aG;obtain⟨a',b',U,c',rfl,L,N,a7,a1⟩:=M.view Tryz.prog 22 3 Tryz.underlying22 aG
 by_cases A:l.length=z.length
 ·have Z:=Lib.hid A
  have O:l.length<=z.length:=by omega
  have Q:z.length<=l.length:=by omega
  have a6:((l.length:Int) != (z.length:Int))=false:=by simp[A]
  clear A;go_enter Tryz.func124,Tryz.ntmps124;go_wp2;go_loopw [13] (fun i wr=>∃k n:Nat,k<=l.length/\i=.int .i64 k/\wr=w.drewN n/\(∀j (h:j<l.length) (F:j<z.length),j<k->l[j]=z[j]))
   (fun i _=>l.length-(intOf i).toNat)
  case atStart=>exact⟨0,0,Nat.zero_le _,rfl,rfl,by intros;omega⟩
  case round=>
   obtain⟨k,n,hk,rfl,rfl,D⟩:=hrel;have H:=Lib.hid D;clear D
   by_cases hlt:k<l.length
   ·have S:k<z.length:=by omega
    by_cases o:l[k]=z[k]
    ·have ht:(l[k] != z[k])=false:=by simp[o]
     have I:=Lib.hid o;clear o;go_wp2;go_quiet (fail);go_wp2;go_roundw
     case rel=>
      refine⟨k+1,_,by omega,by go_num,rfl,fun j h F hj=>?_⟩
      by_cases K:j=k
      ·subst K;exact I.out
      ·exact H.out j h F (by omega)
     case measure=>simp[intOf];omega
    ·have ht:(l[k] != z[k])=true:=by simp[o]
     have I:=Lib.hid o;clear o;go_wp2;go_quiet (fail);go_wp2;go_ret;exact⟨aE (by simp;intro e;subst e;exact I.out rfl),⟨n+nq,by simp⟩⟩
   ·have a9:l.length<=k:=by omega
    go_wp2;go_ret;exact⟨aE (by simp;exact List.ext_getElem Z.out fun j h F=>H.out j h F (by omega)),⟨n,rfl⟩⟩
 ·go_enter Tryz.func124,Tryz.ntmps124
  go_wp2;go_ret;exact⟨aE (by simp;intro h;exact A (by rw[h])),⟨0,rfl⟩⟩
theorem pK(n z:Int)(v I:Value)(l D:List Int)(w:World)(F:aD w v l)(o:aD w I D):
  Calls Tryz.prog 213 #[.agg #[.int .i64 n,v],.agg #[.int .i64 z,I]] w fun e w'=>e=.returned (.bool (decide (n=z)&&decide (l=D)))/\Below w.heap.size w w':=by
 obtain⟨O,Q,rfl⟩:=F.shape;obtain⟨K,L,rfl⟩:=o.shape
 by_cases A:n=z
 ·subst A
  have N:(n==n)=true:=by simp
  go_enter Tryz.func213,Tryz.ntmps213;go_wp2_with (go_at_call 124;refine(fG _ _ l D _ ((F.alloc _).alloc _) ((o.alloc _).alloc _)).mono ?_;rintro e S ⟨rfl,R,rfl⟩);go_ret;exact⟨aE (by simp),(cD _ _ _).drewN' _⟩
 ·have M:(n==z)=false:=by simp[A]
  go_enter Tryz.func213,Tryz.ntmps213;go_wp2;go_ret;exact⟨aE (by simp[A]),(cD _ _ _)⟩
theorem gV(n z:Int)(v I:Value)(l D:List Int)(w:World)(F:aD w v l)(o:aD w I D):
  Calls Tryz.prog 30 #[.agg #[.int .i64 n,v],.agg #[.int .i64 z,I]] w fun e w'=>e=.returned (.bool (decide (n=z)&&decide (l=D)))/\Below w.heap.size w w':=by
 obtain⟨O,Q,rfl⟩:=F.shape;obtain⟨K,L,rfl⟩:=o.shape
 by_cases A:n=z
 ·subst A
  have N:(n==n)=true:=by simp
  go_enter Tryz.func30,Tryz.ntmps30;go_wp2_with (go_at_call 114;refine(nY _ _ l D _ ((F.alloc _).alloc _) ((o.alloc _).alloc _)).mono ?_;rintro e S ⟨rfl,R,rfl⟩);go_ret;exact⟨aE (by simp),(cD _ _ _).drewN' _⟩
 ·have M:(n==z)=false:=by simp[A]
  go_enter Tryz.func30,Tryz.ntmps30;go_wp2;go_ret;exact⟨aE (by simp[A]),(cD _ _ _)⟩
theorem eL(n z:Int)(v I:Value)(l D:List Int)(w:World)(F:aD w v l)(o:aD w I D):
  Calls Tryz.prog 212 #[.agg #[.int .i64 n,v],.agg #[.int .i64 z,I]] w fun e w'=>e=.returned (.bool (decide (n=z)&&decide (l=D)))/\Below w.heap.size w w':=by
 obtain⟨O,Q,rfl⟩:=F.shape;obtain⟨K,L,rfl⟩:=o.shape
 by_cases A:n=z
 ·subst A
  have N:(n==n)=true:=by simp
  go_enter Tryz.func212,Tryz.ntmps212;go_wp2_with (go_at_call 124;refine(fG _ _ l D _ ((F.alloc _).alloc _) ((o.alloc _).alloc _)).mono ?_;rintro e S ⟨rfl,R,rfl⟩);go_ret;exact⟨aE (by simp),(cD _ _ _).drewN' _⟩
 ·have M:(n==z)=false:=by simp[A]
  go_enter Tryz.func212,Tryz.ntmps212;go_wp2;go_ret;exact⟨aE (by simp[A]),(cD _ _ _)⟩
theorem cG(n z:Int)(v I:Value)(l D:List Int)(w:World)(F:aD w v l)(o:aD w I D):
  Calls Tryz.prog 13 #[.agg #[.int .i64 n,v],.agg #[.int .i64 z,I]] w fun e w'=>e=.returned (.bool (decide (n=z)&&decide (l=D)))/\Below w.heap.size w w':=by
 obtain⟨O,Q,rfl⟩:=F.shape;obtain⟨K,L,rfl⟩:=o.shape
 by_cases A:n=z
 ·subst A
  have N:(n==n)=true:=by simp
  go_enter Tryz.func13,Tryz.ntmps13;go_wp2_with (go_at_call 114;refine(nY _ _ l D _ ((F.alloc _).alloc _) ((o.alloc _).alloc _)).mono ?_;rintro e S ⟨rfl,R,rfl⟩);go_ret;exact⟨aE (by simp),(cD _ _ _).drewN' _⟩
 ·have M:(n==z)=false:=by simp[A]
  go_enter Tryz.func13,Tryz.ntmps13;go_wp2;go_ret;exact⟨aE (by simp[A]),(cD _ _ _)⟩
end
section
open Go.ChangeShapes Go.WideShapes Go.ChangeAt Go.RowKit Go.G5
set_option maxRecDepth 100000
theorem SV:Tryz.prog.cellsOf 5=1:=by kernel_rfl
theorem JV{n:Int}(h:(Lit.int .u8 n).wf=true):0<=n/\n<256:=by
 simp only[Lit.wf,Bool.and_eq_true,decide_eq_true_eq]at h;have h1:=h.1;have h2:=h.2;simp[IntKind.min,IntKind.max,IntKind.signed,IntKind.bits]at h1 h2;exact⟨by omega,by omega⟩
theorem P2{H:Type}{enc:TypeId×Value->H}{w:World}{base:Nat}{spare:Nat->Bool}{held:Bool}{fuel:Nat}{c:Value}{x:DataW H×List MemPlace}(h:DataW.trod enc Tryz.prog w base spare held fuel 58 [c]=some x):∃l,fO w c l:=by
 rcases open_ints Tryz.underlying58 Tryz.underlying5 SV h with⟨A,_⟩|⟨a,len,cap,D,A,_,O,K,Q,_,o,M⟩
 ·simp at A;subst A
  exact⟨[],none,0,rfl,Nat.le_refl _,Nat.zero_le _,by simp,.inl rfl⟩
 ·simp at A;subst A
  have Z:len<=D.length:=by rw[Q];split<;>omega
  have F:((D.take len).map Int.toNat).length=len:=by simp;omega
  refine⟨(D.take len).map Int.toNat,some a,cap,by rw[F],by rw[F];exact O,K,fun y hy=>?_,?_⟩
  ·obtain⟨z,R,rfl⟩:=List.mem_map.1 hy
   have:=JV (M z (List.mem_of_mem_take R));omega
  ·by_cases S:len=0
   ·left;subst S;simp
   ·right
    have I:=o 0 (by omega);have hs:=GY I;have hb:=NE I;simp[Addr.add]at hs hb;refine⟨a.block,a.off,by cases a;simp_all,hb,fun k Y=>?_⟩;rw[F]at Y;have:=o k (by omega);have e:(a.add k)=⟨a.block,a.off+k,none⟩:=by
     unfold Addr.add
     by_cases L:k=0
     ·subst L;cases a;simp_all
     ·simp[L]
    rw[e]at this;rw[this];have R:=JV (M D[k] (List.getElem_mem _));have U:D.getD k 0=D[k]:=by simp[List.getD_eq_getElem?_getD,List.getElem?_eq_getElem (show k<D.length by omega)]
    have N:((D.take len).map Int.toNat)[k]=D[k].toNat:=by simp
    rw[U,N,show((D[k].toNat:Nat):Int)=D[k] by omega]
theorem SF{H:Type}{enc:TypeId×Value->H}{W:World}{base:Nat}{v:Value}{d:DataW H}{p:List MemPlace}(z:Value.okWide Tryz.prog W .any base 58 v)(h:DataW.Trod enc Tryz.prog W 0 (fun _=>true) true 58 v d p):∃l,fO W v l:=by
 obtain⟨a,n,c,rfl⟩:=okWide_slice Tryz.underlying58 z;obtain⟨fuel,o⟩:=h;exact P2 o
theorem VA(w:World)(v:Value)(l:List Nat)(o:fO w v l):
  Calls Tryz.prog 36 #[v] w fun e w'=>e=.returned (.bool (decide ((1048576:Int)<l.length)))/\w=w':=by
 obtain⟨a,c,rfl,_⟩:=o;go_enter Tryz.func36,Tryz.ntmps36;go_wp2;go_ret;exact⟨rfl,rfl⟩
end
end Go.Proofs.YtipejodijbjpcaaGreatDoor
section
namespace Go.G5
open Go
theorem kI{a b:ByteArray}(h:a.data.toList=b.data.toList):a=b:=by
 cases a;cases b;congr 1;exact Array.toList_inj.1 h
theorem sV(a b:ByteArray):(a++b).data.toList=a.data.toList++b.data.toList:=by rw[ByteArray.data_append,Array.toList_append]
theorem oJ(a:ByteArray):a.size=a.data.toList.length:=Lib.size_eq a
theorem V9{a:ByteArray}:a.size=0↔a=ByteArray.empty:=by
 constructor
 ·intro h
  rw[oJ]at h;exact kI (by rw[List.eq_nil_of_length_eq_zero h];rfl)
 ·rintro rfl;rfl
def cE(n:Int):ByteArray:=⟨(Lib.itoa n).toArray⟩
def cF(o:ByteArray)(z:List ByteArray):ByteArray:=⟨(Lib.join (z.map (·.data.toList)) o.data.toList).toArray⟩
theorem RD(o:ByteArray):cF o []=ByteArray.empty:=rfl
theorem pR(o x:ByteArray):cF o [x]=x:=kI (by
 show Lib.join [x.data.toList] o.data.toList=_;rw[Lib.join_one])
theorem IC(o:List UInt8)(r s:List (List UInt8)):Lib.joinTail o (r++s)=Lib.joinTail o r++Lib.joinTail o s:=by
 simp[Lib.joinTail]
theorem OD(o:ByteArray)(z:List ByteArray)(y:ByteArray)(h:z≠[]):cF o (z++[y])=cF o z++o++y:=by
 cases z with
 |nil=>exact absurd rfl h
 |cons x r=>
  refine kI ?_;rw[sV,sV];show Lib.join ((x::(r++[y])).map (·.data.toList)) o.data.toList=Lib.join ((x::r).map (·.data.toList)) o.data.toList++o.data.toList++y.data.toList;rw[List.map_cons,List.map_cons,Lib.join_cons,Lib.join_cons,List.map_append,IC];simp[Lib.joinTail,List.append_assoc]
theorem uI(o:ByteArray)(m:Nat):∀(D:List ByteArray),(∀x∈D,x.size<=m)->(cF o D).size<=D.length*(m+o.size)
 |[],_=>by simp[RD]
 |x::r,h=>by
  have h1:=h x (by simp);have h2:Lib.lens (r.map (·.data.toList))<=r.length*m:=by
   have:∀(s:List ByteArray),(∀x∈s,x.size<=m)->Lib.lens (s.map (·.data.toList))<=s.length*m:=by
    intro s F
    induction s with
    |nil=>simp[Lib.lens]
    |cons y s ih=>
     have a:=F y (by simp);have b:=ih (fun z A=>F z (by simp[A]));rw[oJ]at a;simp only[Lib.lens,List.map_cons,List.sum_cons,List.length_cons]at b ⊢;rw[Nat.succ_mul];omega
   exact this r (fun z A=>h z (by simp[A]))
  rw[oJ]at h1 ⊢;show(Lib.join ((x::r).map (·.data.toList)) o.data.toList).length<=_;rw[List.map_cons,Lib.join_cons,List.length_append,Lib.joinTail_length,List.length_map,List.length_cons,Nat.succ_mul,oJ o,Nat.mul_add,Nat.mul_comm o.data.toList.length];omega
theorem H9(o:ByteArray)(x:ByteArray)(r:List ByteArray)(h:x≠ByteArray.empty):cF o (x::r)≠ByteArray.empty:=by
 intro e;have:=congrArg (fun a=>a.data.toList) e;have z:x.data.toList=[]:=by
  change Lib.join ((x::r).map (·.data.toList)) o.data.toList=[]at this
  rw[List.map_cons,Lib.join_cons]at this;exact(List.append_eq_nil_iff.1 this).1
 exact h (kI z)
theorem AE(o:ByteArray)(z:List ByteArray)(k:Nat)(h:k<z.length):cF o (z.take (k+1))=if k=0 then z[k] else cF o (z.take k)++o++z[k]:=by
 rw[List.take_succ_eq_append_getElem h]
 split
 ·rename_i A
  subst A;exact pR _ _
 ·rename_i A
  refine OD _ _ _ (fun e=>?_);have:=congrArg List.length e;rw[List.length_take,List.length_nil]at this;omega
def iZ(u:Nat):List UInt8:=if u=0 then [] else Lib.decDigits u
theorem QV(u:Nat)(h:0<u):iZ u=iZ (u/10)++[UInt8.ofNat (48+u%10)]:=by
 unfold iZ;rw[if_neg (show ¬u=0 by omega),Lib.decDigits]
 split
 ·rename_i h1
  rw[if_pos (show u/10=0 by omega),Nat.mod_eq_of_lt h1];rfl
 ·rename_i h1
  rw[if_neg (show ¬u/10=0 by omega)]
theorem mS:∀(k u:Nat),u<10^k->0<k->(Lib.decDigits u).length<=k
 |0,_,_,h=>by omega
 |k+1,u,h,_=>by
  rw[Lib.decDigits]
  split
  ·simp
  ·rename_i h1
   have:u/10<10^k:=by rw[Nat.pow_succ]at h;omega
   have o:0<k:=by
    rcases Nat.eq_zero_or_pos k with rfl|h2
    ·simp at h;omega
    ·exact h2
   have:=mS k (u/10) this o;simp;omega
theorem JF(u:Nat):Lib.decDigits u≠[]:=by
 rw[Lib.decDigits]
 split<;>simp
theorem mC(n:Int)(h:-9223372036854775808<=n/\n<=9223372036854775807):(cE n).size<=21:=by
 rw[oJ];show(Lib.itoa n).length<=21;unfold Lib.itoa
 split
 ·have:=mS 20 n.natAbs (by omega) (by omega)
  simp;omega
 ·have:=mS 20 n.toNat (by omega) (by omega)
  omega
theorem I6(n:Int):cE n≠ByteArray.empty:=by
 intro e;have h:Lib.itoa n=[]:=congrArg (fun a=>a.data.toList) e;unfold Lib.itoa at h
 split at h
 ·cases h
 ·exact JF _ h
end Go.G5
end
