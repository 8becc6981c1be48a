/- Lemmas for CardClaims, part 1 of 52. No condition. -/
import Derived.WalkKit
import Derived.WalkSpells
import Derived.Lib.Hide
import Derived.BigQuiet
import Derived.Deep.QuietTactic
set_option maxRecDepth 100000
set_option maxHeartbeats 64000000
section
namespace Go.RowKit
theorem Below.drewN'{B:Nat}{a w:World}(h:Below B a w)(n:Nat):Below B a (w.drewN n):=⟨h.os,h.tape,h.output,h.size,h.block⟩
theorem Below.after{B B':Nat}{a W o:World}(h:Below B a W)(hb:Below B' W o)(z:B<=B'):Below B a o:=h.trans (hb.mono z)
end Go.RowKit
namespace Go.G5
open Go Go.RowKit
def bA(x:Int):Prop:=-9223372036854775808<=x/\x<=9223372036854775807
def aD(w:World)(v:Value)(l:List Int):Prop:=
 ∃a c,v=.slice a l.length c/\l.length<=c/\c<=maxLen/\(∀x∈l,bA x) /\
  (l=[]∨∃b o,a=some ⟨b,o,none⟩/\b<w.heap.size /\
   ∀k,(h:k<l.length)->w.cell? ⟨b,o+k,none⟩=some (.int .i64 l[k]))
structure IntElem (P:Program) (E:TypeId):Prop where
 info:(P.info? E).map (fun i=>(i.zero,i.size,i.bytes))=some (some (.int .i64 0),1,8)
theorem IntElem.get{P:Program}{E:TypeId}(h:IntElem P E):∃i,P.info? E=some i/\i.zero=some (.int .i64 0)/\i.size=1/\i.bytes=8:=by
 have h:=h.info
 cases o:P.info? E with
 |none=>rw[o]at h;simp at h
 |some i=>rw[o]at h;simp at h;exact⟨i,rfl,h.1,h.2.1,h.2.2⟩
theorem aD.view{w:World}{v:Value}{l:List Int}(h:aD w v l)(P:Program)(T E:TypeId)(F:P.underlying T=some (.slice E))
  (L:IntElem P E):
  ∃a b o c,v=.slice a l.length c/\l.length<=9223372036854775807 /\
   (∀(w':World) (k:Nat),k<l.length->(Instr.indexAt T (.slice a l.length c) (.int .i64 (k:Int))).run P w'=.ok (.pointer (some ⟨b,o+k,none⟩)) w') /\
   (∀k,(h:k<l.length)->w.cell? ⟨b,o+k,none⟩=some (.int .i64 l[k]))/\(l≠[]->b<w.heap.size):=by
 obtain⟨a,c,rfl,h1,h2,h3,h4⟩:=h;have D:P.elem T=E:=by simp[Program.elem,F]
 obtain⟨i,K,_,A,_⟩:=L.get
 rcases h4 with rfl|⟨b,o,rfl,hb,I⟩
 ·exact⟨a,0,0,c,rfl,by simp,fun w' k z=>by simp at z,fun k z=>by simp at z,fun h=>absurd rfl h⟩
 ·refine⟨_,b,o,c,rfl,by unfold maxLen at h2;omega,fun w' k z=>?_,I,fun _=>hb⟩
  rw[run_indexAt_slice w' T ⟨b,o,none⟩ l.length c .i64 k (by rw[D];exact F),if_pos ⟨by omega,by omega⟩,D];simp[sizeOf,typeInfo,K,A,Addr.add]
theorem aD.below{B:Nat}{w w':World}{v:Value}{l:List Int}(h:aD w v l)(hb:Below B w w')(D:w.heap.size<=B):aD w' v l:=by
 obtain⟨a,c,rfl,h1,h2,h3,h4⟩:=h;refine⟨a,c,rfl,h1,h2,h3,?_⟩
 rcases h4 with rfl|⟨b,o,rfl,hlt,z⟩
 ·exact .inl rfl
 ·refine .inr ⟨b,o,rfl,Nat.lt_of_lt_of_le hlt hb.size,fun k A=>?_⟩
  rw[hb.cell (p:=⟨b,o+k,none⟩) (by show b<B;omega)];exact z k A
theorem aD.inR{w:World}{v:Value}{l:List Int}(h:aD w v l):∀x∈l,bA x:=h.choose_spec.choose_spec.2.2.2.1
def aC(E:TypeId)(B:Nat)(w:World)(v:Value)(l:List Int):Prop:=
 w.ownsRow B E 1 v l.length (l.map (Value.int .i64))/\∀x∈l,bA x
theorem aC.ints{E:TypeId}{B:Nat}{w:World}{v:Value}{l:List Int}(h:aC E B w v l):aD w v l:=by
 obtain⟨⟨K,h1⟩,h2⟩:=h
 rcases h1 with⟨rfl,z⟩|⟨g,cap,A,rfl,L,F,z,I,D,ht⟩
 ·have:l=[]:=List.eq_nil_of_length_eq_zero z
  subst this;exact⟨none,0,rfl,Nat.le_refl _,Nat.zero_le _,by simp,.inl rfl⟩
 ·refine⟨_,cap,rfl,z,I,h2,.inr ⟨g,0,rfl,(Array.getElem?_eq_some_iff.1 F).1,fun k M=>?_⟩⟩
  have o:w.ownsRow B E 1 (.slice (some ⟨g,0,none⟩) l.length cap) l.length (l.map (Value.int .i64)):=⟨K,.inr ⟨g,cap,A,rfl,L,F,z,I,D,ht⟩⟩;have:=o.cellAt k (by omega);rw[Nat.zero_add,this];simp[M]
theorem aC.nil(E:TypeId)(B:Nat)(w:World):aC E B w (.slice none 0 0) []:=⟨World.ownsRow_nil _ _ _ _,by simp⟩
theorem aC.cases{E:TypeId}{B:Nat}{w:World}{v:Value}{l:List Int}(h:aC E B w v l):(v=.slice none 0 0/\l=[])∨∃g cap,v=.slice (some ⟨g,0,none⟩) l.length cap/\B<=g/\g<w.heap.size:=by
 rcases h.1.2 with⟨rfl,D⟩|⟨g,cap,o,rfl,z,A,_⟩
 ·exact .inl ⟨rfl,List.eq_nil_of_length_eq_zero D⟩
 ·exact .inr ⟨g,cap,rfl,z,(Array.getElem?_eq_some_iff.1 A).1⟩
theorem aC.lit0{E:TypeId}{B:Nat}(w:World)(o:B<=w.heap.size):aC E B (w.alloc (.cells #[] E)) (.slice (some ⟨w.heap.size,0,none⟩) 0 0) []:=
 ⟨World.ownsRow_lit w #[] 0 o (Nat.zero_le _) rfl,by simp⟩
theorem aC.below{E:TypeId}{B B':Nat}{w w':World}{v:Value}{l:List Int}(h:aC E B w v l)(hb:Below B' w w')(F:w.heap.size<=B'):aC E B w' v l:=by
 obtain⟨⟨D,h1⟩,h2⟩:=h;refine⟨⟨D,?_⟩,h2⟩
 rcases h1 with h1|⟨g,cap,o,rfl,z,A,r⟩
 ·exact .inl h1
 ·exact .inr ⟨g,cap,o,rfl,z,by rw[hb.block g (by have:=(Array.getElem?_eq_some_iff.1 A).1;omega)];exact A,r⟩
theorem aC.lt{E:TypeId}{B:Nat}{w:World}{v:Value}{l:List Int}(h:aC E B w v l):∀k,v.ownBlock=some k->B<=k/\k<w.heap.size:=h.1.lt
theorem aC.mono{E:TypeId}{B B':Nat}{w:World}{v:Value}{l:List Int}(h:aC E B w v l)(D:B'<=B):aC E B' w v l:=by
 obtain⟨⟨z,h1⟩,h2⟩:=h;refine⟨⟨z,?_⟩,h2⟩
 rcases h1 with h1|⟨g,cap,o,rfl,A,r⟩
 ·exact .inl h1
 ·exact .inr ⟨g,cap,o,rfl,by omega,r⟩
theorem aC.grown{E:TypeId}{B:Nat}{w w':World}{row:Option Nat}{v:Value}{l:List Int}(h:aC E B w v l)(z:w.grownBy w' row)(o:v.ownBlock=none∨v.ownBlock≠row):aC E B w' v l:=
 ⟨h.1.kept z o,h.2⟩
theorem aC.alloc{E:TypeId}{B:Nat}{w:World}{v:Value}{l:List Int}(h:aC E B w v l)(o:Obj):aC E B (w.alloc o) v l:=⟨h.1.alloc o,h.2⟩
theorem eI{P:Program}{w:World}{K:Array Oper}{rest:List Oper}{o:Oper}{a:Act}{Q:Exit->Act->World->Prop}(M:o.guard=none)(s x:Operand)(t:TypeId)
  (ho:o.op=.call { callee:=.builtin .append,args:=#[s,x],argTypes:=#[t,t] })
  (E:TypeId) (ht:P.underlying t=some (.slice E)) (Y:IntElem P E) (B:Nat) (v:Value) (l:List Int) (y:Int) (b:Nat) (hs:a.eval s=v) (hx:a.eval x=.slice (some ⟨b,0,none⟩) 1 1)
  (hy:w.cell? ⟨b,0,none⟩=some (.int .i64 y))
  (D:aC E B w v l) (N:bA y) (O:l.length<17592186044416) (U:B<=w.heap.size)
  (h:∀L w',aC E B w' L (l++[y])->w.grownBy w' v.ownBlock->wpList P K Q rest (a.put o.dst L) w'):wpList P K Q (o::rest) a w:=by
 obtain⟨i,hi,hz,h1,S⟩:=Y.get;refine wpList_append_own w M s x t ho B E i (.int .i64 0) 1 8 ht hi hz h1 S rfl (by decide) v l.length (l.map (Value.int .i64)) hs D.1 ⟨b,0,none⟩ 1 1 [.int .i64 y] hx rfl ?_ ?_ ?_ ?_ U ?_
 ·intro j u I
  match j,I with
  |0,I=>simp at I;subst I;simpa[Addr.add]using hy
  |j+1,I=>simp at I
 ·intro u R;simp at R;subst R;rfl
 ·unfold maxLen;omega
 ·omega
 ·intro L w' F Z _
  refine h L w' ⟨?_,?_⟩ Z
  ·simpa using F
  ·intro z A
   rcases List.mem_append.1 A with A|A
   ·exact D.2 z A
   ·simp at A;subst A;exact N
theorem nZ{P:Program}{w:World}{A:Array Oper}{rest:List Oper}{o:Oper}{a:Act}{Q:Exit->Act->World->Prop}
  (S:o.guard=none) (x c:Operand) (t:TypeId) (F:o.op=Op.makeSlice t x c)
  (E:TypeId) (ht:P.underlying t=some (.slice E)) (M:IntElem P E) (n:Nat) (L C:Int) (Y:a.eval x=.int .i64 L) (R:a.eval c=.int .i64 C) (O:L=(n:Int)) (K:C=(n:Int)) (hn:n<=17592186044416)
  (N:∀w',aC E w.heap.size w' (.slice (some ⟨w.heap.size,0,none⟩) n n) (List.replicate n 0)->w.grownBy w' none->wpList P A Q rest (a.put o.dst (.slice (some ⟨w.heap.size,0,none⟩) n n)) w'):
  wpList P A Q (o::rest) a w:=by
 obtain⟨i,U,hz,h1,I⟩:=M.get;refine wpList_make_full w S x c t F w.heap.size E i (.int .i64 0) 1 ht U hz h1 .i64 .i64 L C n Y R O K (by rw[I];omega) (by unfold maxLen;omega) (Nat.le_refl _) ?_;intro w' z D;refine N w' ⟨?_,by intro y Z;have:=List.eq_of_mem_replicate Z;subst this;exact⟨by omega,by omega⟩⟩ D;have e:(madeCells (Value.int IntKind.i64 0).cells (n*1)).toList=(List.replicate n (0:Int)).map (Value.int .i64):=by
  rw[show(Value.int IntKind.i64 0).cells=#[Value.int .i64 0] from rfl,toList_madeCells_one];simp
 rw[e]at z;simpa using z
theorem aC.stored{E:TypeId}{B:Nat}{w:World}{g n cap:Nat}{l:List Int}(h:aC E B w (.slice (some ⟨g,0,none⟩) n cap) l)(A:n=l.length)(j:Nat)(y:Int)(D:bA y):
  aC E B (w.setCell ⟨g,j,none⟩ (.int .i64 y)) (.slice (some ⟨g,0,none⟩) n cap) (l.set j y)/\w.grownBy (w.setCell ⟨g,j,none⟩ (.int .i64 y)) (some g):=by
 subst A;have:=h.1.stored j (.int .i64 y);refine⟨⟨?_,?_⟩,this.2⟩
 ·simpa[List.map_set]using this.1
 ·intro z o
  rcases List.mem_or_eq_of_mem_set o with o|o
  ·exact h.2 z o
  ·subst o;exact D
theorem aC.cellAt{E:TypeId}{B:Nat}{w:World}{g n cap:Nat}{l:List Int}(h:aC E B w (.slice (some ⟨g,0,none⟩) n cap) l)(z:n=l.length)(j:Nat)(o:j<l.length):
  w.cell? ⟨g,j,none⟩=some (.int .i64 l[j]):=by
 subst z;rw[h.1.cellAt j (by omega)];simp[o]
theorem aC.frozenAt{E:TypeId}{B:Nat}{w:World}{g n cap:Nat}{l:List Int}(h:aC E B w (.slice (some ⟨g,0,none⟩) n cap) l)(o:n=l.length)(j:Nat):w.frozen? ⟨g,j,none⟩=false:=by
 subst o;exact h.1.frozenAt j
theorem pX{B:Nat}{W A:World}(hb:Below B W A)(n:Nat)(h:n<=B):(∀b o,b<n->A.cell? ⟨b,o,none⟩=W.cell? ⟨b,o,none⟩)/\(∀b o,b<n->A.frozen? ⟨b,o,none⟩=W.frozen? ⟨b,o,none⟩):=
 ⟨fun b o z=>hb.cell (p:=⟨b,o,none⟩) (Nat.lt_of_lt_of_le z h),fun b o z=>hb.frozen (p:=⟨b,o,none⟩) (Nat.lt_of_lt_of_le z h)⟩
@[simp, go_sem] theorem lt_plus2 (n : Nat) : n < n + 1 + 1 := by omega
@[simp, go_sem] theorem le_plus2 (n : Nat) : n <= n + 1 + 1 := by omega
@[simp, go_sem] theorem lt_plus3 (n : Nat) : n < n + 1 + 1 + 1 := by omega
@[simp, go_sem] theorem le_plus3 (n : Nat) : n <= n + 1 + 1 + 1 := by omega
@[simp, go_sem] theorem lt_plus4 (n : Nat) : n < n + 1 + 1 + 1 + 1 := by omega
@[simp, go_sem] theorem le_plus4 (n : Nat) : n <= n + 1 + 1 + 1 + 1 := by omega
@[simp, go_sem] theorem lt_plus5 (n : Nat) : n < n + 1 + 1 + 1 + 1 + 1 := by omega
@[simp, go_sem] theorem le_plus5 (n : Nat) : n <= n + 1 + 1 + 1 + 1 + 1 := by omega
@[simp, go_sem] theorem lt_plus6 (n : Nat) : n < n + 1 + 1 + 1 + 1 + 1 + 1 := by omega
@[simp, go_sem] theorem le_plus6 (n : Nat) : n <= n + 1 + 1 + 1 + 1 + 1 + 1 := by omega
@[simp, go_sem] theorem lt_plus7 (n : Nat) : n < n + 1 + 1 + 1 + 1 + 1 + 1 + 1 := by omega
@[simp, go_sem] theorem le_plus7 (n : Nat) : n <= n + 1 + 1 + 1 + 1 + 1 + 1 + 1 := by omega
@[simp, go_sem] theorem lt_plus8 (n : Nat) : n < n + 1 + 1 + 1 + 1 + 1 + 1 + 1 + 1 := by omega
@[simp, go_sem] theorem le_plus8 (n : Nat) : n <= n + 1 + 1 + 1 + 1 + 1 + 1 + 1 + 1 := by omega
theorem aM(w:World)(o:Obj):Below w.heap.size w (w.alloc o):=(Below.refl _ _).alloc (Nat.le_refl _) _
theorem cD(w:World)(o z:Obj):Below w.heap.size w ((w.alloc o).alloc z):=(aM w o).alloc (by simp) _
theorem PO(w:World)(o A z:Obj):Below w.heap.size w (((w.alloc o).alloc A).alloc z):=(cD w o A).alloc (by first|omega|(simp;done)|(simp;omega)) _
theorem aD.alloc{w:World}{v:Value}{l:List Int}(h:aD w v l)(o:Obj):aD (w.alloc o) v l:=h.below (aM w o) (Nat.le_refl _)
theorem aD.drewN{w:World}{v:Value}{l:List Int}(h:aD w v l)(n:Nat):aD (w.drewN n) v l:=h.below ((Below.refl w.heap.size w).drewN' n) (Nat.le_refl _)
theorem aC.drewN{E:TypeId}{B:Nat}{w:World}{v:Value}{l:List Int}(h:aC E B w v l)(n:Nat):aC E B (w.drewN n) v l:=h.below ((Below.refl w.heap.size w).drewN' n) (Nat.le_refl _)
theorem aD.empty(w:World)(a:Option Addr)(n c:Nat)(z:n=0)(o:c<=maxLen):aD w (.slice a n c) []:=by
 subst z;exact⟨a,c,rfl,Nat.zero_le _,o,by simp,.inl rfl⟩
theorem aD.capLe{w:World}{a:Option Addr}{n c:Nat}{l:List Int}(h:aD w (.slice a n c) l):n=l.length/\n<=c/\c<=maxLen:=by
 obtain⟨z,A,o,h1,h2,_⟩:=h;simp only[Value.slice.injEq]at o;obtain⟨_,rfl,rfl⟩:=o;exact⟨rfl,h1,h2⟩
theorem aD.dropK{w:World}{b o n c:Nat}{l:List Int}(h:aD w (.slice (some ⟨b,o,none⟩) n c) l)(k:Nat)(O:k<=l.length):aD w (.slice (some ⟨b,o+k,none⟩) (n-k) (c-k)) (l.drop k):=by
 obtain⟨L,N,A,h1,h2,h3,h4⟩:=h;simp only[Value.slice.injEq]at A;obtain⟨rfl,rfl,rfl⟩:=A;refine⟨_,c-k,by rw[List.length_drop],by rw[List.length_drop];omega,by omega,fun x K=>h3 x (List.mem_of_mem_drop K),?_⟩
 rcases h4 with rfl|⟨M,D,z,hlt,F⟩
 ·left;simp
 ·simp only[Option.some.injEq,Addr.mk.injEq,and_true]at z
  obtain⟨rfl,rfl⟩:=z
  right
  refine⟨b,o+k,rfl,hlt,fun j I=>?_⟩;rw[List.length_drop]at I;have:=F (k+j) (by omega);rw[Nat.add_assoc,this];simp
theorem aC.setBelow{E:TypeId}{B:Nat}{w:World}{v:Value}{l:List Int}(h:aC E B w v l){a:Addr}(o:a.block<B)(u:Value):aC E B (w.setCell a u) v l:=
 ⟨ownsRow_setCell_below h.1 o u,h.2⟩
theorem aC.shape{E:TypeId}{B:Nat}{w:World}{v:Value}{l:List Int}(h:aC E B w v l):∃a c,v=.slice a l.length c:=by
 obtain⟨a,c,rfl,_⟩:=h.ints;exact⟨a,c,rfl⟩
theorem aC.shape3{E:TypeId}{B:Nat}{w:World}{v:Value}{l:List Int}(h:aC E B w v l):∃a n c,v=.slice a n c:=by
 obtain⟨a,c,rfl,_⟩:=h.ints;exact⟨a,_,c,rfl⟩
theorem aD.shape{w:World}{v:Value}{l:List Int}(h:aD w v l):∃a c,v=.slice a l.length c:=by
 obtain⟨a,c,rfl,_⟩:=h;exact⟨a,c,rfl⟩
theorem keep{W o:World}(hb:Below W.heap.size W o){p:Addr}{v:Value}(d:W.cell? p=some v):o.cell? p=some v:=(hb.cell (World.block_lt_of_cell? W p d)).trans d
theorem aT(w:World)(cs:Array Value)(T:TypeId)(j:Nat)(v:Value)(h:cs[j]?=some v):(w.alloc (.cells cs T)).cell? ⟨w.heap.size,j,none⟩=some v:=by
 have e:=heap_alloc_new w (.cells cs T);unfold World.cell?;simp only[e];simpa using h
theorem TP{w:World}{p:Addr}{v:Value}(d:w.cell? p=some v)(o:Obj):(w.alloc o).cell? p=some v:=keep (aM w o) d
theorem aC.keep{E:TypeId}{B:Nat}{W o:World}{v:Value}{l:List Int}(h:aC E B W v l)(hb:Below W.heap.size W o):aC E B o v l:=h.below hb (Nat.le_refl _)
theorem aD.keep{W o:World}{v:Value}{l:List Int}(h:aD W v l)(hb:Below W.heap.size W o):aD o v l:=h.below hb (Nat.le_refl _)
theorem grown_keep{W z:World}{row:Option Nat}(A:W.grownBy z row){p:Addr}{v:Value}(d:W.cell? p=some v)(o:∀k,row=some k->p.block≠k):z.cell? p=some v:=
 A.cell d (fun e=>o _ e.symm rfl)
theorem aC.grow{E:TypeId}{B:Nat}{w w':World}{row:Option Nat}{v:Value}{l:List Int}(h:aC E B w v l)(z:w.grownBy w' row)(o:∀k,row=some k->v.ownBlock≠some k):aC E B w' v l:=by
 refine h.grown z ?_
 cases A:v.ownBlock with
 |none=>exact .inl rfl
 |some k=>right;intro e;exact o k e.symm A
theorem cN{w w' w'':World}{row:Option Nat}(h:w.grownBy w' row)(k:w'.grownBy w'' row):w.grownBy w'' row:=
 ⟨k.os.trans h.os,k.tape.trans h.tape,k.output.trans h.output,Nat.le_trans h.size k.size,fun b hb hr=>(k.block b (Nat.lt_of_lt_of_le hb h.size) hr).trans (h.block b hb hr)⟩
theorem dI{w w':World}(row:Option Nat)(h:Below w.heap.size w w'):w.grownBy w' row:=⟨h.os,h.tape,h.output,h.size,fun b hb _=>h.block b hb⟩
theorem aH{P:Program}{f:FuncId}{args:Array Value}{W:World}{R:Ending->World->Prop}(h:∀W',W'=W->Calls P f args W' R):Calls P f args W R:=h W rfl
structure Box2 (w wr:World) (n:Int) (sv:Value):Prop where
 d0:wr.cell? ⟨w.heap.size,0,none⟩=some (.int .i64 n)
 d1:wr.cell? ⟨w.heap.size,1,none⟩=some sv
 B:Below w.heap.size w wr
 z:w.heap.size<wr.heap.size
theorem Box2.new(w:World)(n:Int)(o:Value)(T:TypeId):Box2 w (w.alloc (.cells #[.int .i64 n,o] T)) n o:=
 ⟨aT w #[.int .i64 n,o] T 0 _ rfl,aT w #[.int .i64 n,o] T 1 _ rfl,aM _ _,by simp⟩
theorem Box2.after{w wr w2:World}{n:Int}{o:Value}(h:Box2 w wr n o)(hb:Below wr.heap.size wr w2):Box2 w w2 n o:=
 ⟨G5.keep hb h.d0,G5.keep hb h.d1,h.B.after hb h.B.size,Nat.lt_of_lt_of_le h.z hb.size⟩
theorem Box2.drewN{w wr:World}{n:Int}{o:Value}(h:Box2 w wr n o)(k:Nat):Box2 w (wr.drewN k) n o:=⟨h.d0,h.d1,h.B.drewN' k,h.z⟩
theorem Box2.grow{w wr w2:World}{row:Option Nat}{n:Int}{D:Value}(h:Box2 w wr n D)(A:wr.grownBy w2 row)(hr:∀k,row=some k->w.heap.size<k):Box2 w w2 n D:=
 ⟨G5.grown_keep A h.d0 (fun k o=>by have:=hr k o;simp only[];omega),G5.grown_keep A h.d1 (fun k o=>by have:=hr k o;simp only[];omega),h.B.grown A h.B.size (fun k o=>by have:=hr k o;omega),Nat.lt_of_lt_of_le h.z A.size⟩
theorem aK{B:Nat}{w w':World}{b o:Nat}{l:List Int}(D:∀k,(h:k<l.length)->w.cell? ⟨b,o+k,none⟩=some (.int .i64 l[k]))(hb:l≠[]->b<w.heap.size)
  (h:Below B w w') (F:w.heap.size<=B):∀k,(h:k<l.length)->w'.cell? ⟨b,o+k,none⟩=some (.int .i64 l[k]):=fun k A=>by
 have z:l≠[]:=by intro e;subst e;simp at A
 have:=hb z;rw[h.cell (p:=⟨b,o+k,none⟩) (by show b<B;omega)];exact D k A
theorem EE(l:List Int)(k:Nat)(h:k<l.length):(l.take k++List.replicate (l.length-k) 0).set k l[k]=l.take (k+1)++List.replicate (l.length-(k+1)) 0:=by
 apply List.ext_getElem
 ·simp;omega
 ·intro i h1 h2
  simp only[List.length_set,List.length_append,List.length_take,List.length_replicate]at h1 h2;rw[List.getElem_set]
  by_cases o:k=i
  ·subst o
   rw[if_pos rfl,List.getElem_append_left (by simp;omega)];simp
  ·by_cases z:i<k
   ·rw[if_neg o,List.getElem_append_left (by simp;omega),List.getElem_append_left (by simp;omega)];simp
   ·rw[if_neg o,List.getElem_append_right (by simp;omega),List.getElem_append_right (by simp;omega)];simp
theorem JZ(l:List Int)(k:Nat)(h:k<=l.length):(l.take k++List.replicate (l.length-k) 0).length=l.length:=by simp;omega
theorem lR{P:Program}{f:FuncId}{args:Array Value}{w:World}{n:Nat}{v:Value}
  (h:Calls P f args (w.drewN n) fun e w'=>e=.returned v/\w.drewN n=w'):Calls P f args (w.drewN n) fun e w''=>e=.returned v/\∃m,w''=w.drewN m:=
 h.mono fun _ _ ⟨o,z⟩=>⟨o,n,z.symm⟩
theorem kE{P:Program}{f:FuncId}{args:Array Value}{w:World}{n:Nat}{b o:Bool}
  (h:Calls P f args (w.drewN n) fun e w'=>e=.returned (.bool b)/\w.drewN n=w') (hb:b=o):Calls P f args (w.drewN n) fun e w''=>e=.returned (.bool o)/\∃m,w''=w.drewN m:=by
 subst hb;exact lR h
theorem kB{P:Program}{f:FuncId}{args:Array Value}{w:World}{m n:Nat}{v:Value}
  (h:Calls P f args (w.drewN (m+n)) fun e w'=>e=.returned v/\w.drewN (m+n)=w'):Calls P f args (w.drewN (m+n)) fun e w''=>e=.returned v/\∃k,w''=w.drewN (m+k):=
 h.mono fun _ _ ⟨o,z⟩=>⟨o,n,z.symm⟩
theorem iN{P:Program}{f:FuncId}{args:Array Value}{w:World}{m n:Nat}{b o:Bool}
  (h:Calls P f args (w.drewN (m+n)) fun e w'=>e=.returned (.bool b)/\w.drewN (m+n)=w') (hb:b=o):Calls P f args (w.drewN (m+n)) fun e w''=>e=.returned (.bool o)/\∃k,w''=w.drewN (m+k):=by
 subst hb;exact kB h
theorem eJ{k:IntKind}{a b:Int}(h:a=b):Ending.returned (.int k a)=.returned (.int k b):=by rw[h]
theorem aE{a b:Bool}(h:a=b):Ending.returned (.bool a)=.returned (.bool b):=by rw[h]
structure Ext (W:World) where
 w:World
 b:Below W.heap.size W w
instance Ext.one (W:World):Nonempty (Ext W):=⟨⟨W,Below.refl _ _⟩⟩
theorem aO{P:Program}{id:Nat}{Q:Exit->Act->World->Prop}{a:Act}(W:World){l:List Oper}(A:P.follows .mixedOrders=true)(z:Region.lexB .any l.toArray=true)
  (h:wpQuiet P l.toArray (fun w'=>∃x:Ext W,w'=x.w) (fun o=>∀w',(∃x:Ext W,w'=x.w)->Q .normal o w') l a):(Code.region id l.toArray true).wp P Q a W:=
 wp_region_quiet (C:=fun w'=>∃x:Ext W,w'=x.w) A z ⟨⟨W.drew,(Below.refl _ _).drew⟩,rfl⟩ (by simpa using h)
theorem aV{P:Program}{f:FuncId}{args:Array Value}{W:World}{x:Ext W}{v:Value}
  (h:Calls P f args x.w fun e w'=>e=.returned v/\Below x.w.heap.size x.w w'):Calls P f args x.w fun e w''=>e=.returned v/\∃y:Ext W,w''=y.w:=
 h.mono fun _ w'' ⟨o,hb⟩=>⟨o,⟨w'',x.b.after hb x.b.size⟩,rfl⟩
theorem aX{P:Program}{f:FuncId}{args:Array Value}{W:World}{x:Ext W}{v:Value}
  (h:Calls P f args x.w fun e w'=>e=.returned v/\x.w=w'):Calls P f args x.w fun e w''=>e=.returned v/\∃y:Ext W,w''=y.w:=
 h.mono fun _ _ ⟨o,hb⟩=>⟨o,x,hb.symm⟩
theorem DV{P:Program}{f:FuncId}{args:Array Value}{W:World}{x:Ext W}{b o:Bool}
  (h:Calls P f args x.w fun e w'=>e=.returned (.bool b)/\x.w=w') (hb:b=o):Calls P f args x.w fun e w''=>e=.returned (.bool o)/\∃y:Ext W,w''=y.w:=by
 subst hb;exact aX h
theorem Ext.cell{W:World}(x:Ext W){p:Addr}{v:Value}(d:W.cell? p=some v):x.w.cell? p=some v:=G5.keep x.b d
theorem Ext.ints{W:World}(x:Ext W){v:Value}{l:List Int}(h:aD W v l):aD x.w v l:=h.keep x.b
end Go.G5
end
