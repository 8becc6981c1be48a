/- Lemmas for CardRunConsole. No condition. -/
import Derived.WalkSpells
import Derived.Lib.Hide
import Derived.BigQuiet
import Derived.Lib.ItoaNum
import Derived.Lib.Join
import Derived.Lib.SmallJoins
import Derived.Test.YtkdbkjjacgigiaaGreatDoorChecked
import Derived.Lib.SplitLaws
import Derived.Deep.Light
set_option maxRecDepth 100000
set_option maxHeartbeats 64000000
section
namespace Go
instance:Coe Int Value:=⟨.int .i64⟩
instance:Coe Nat Value:=⟨fun n=>.int .i64 n⟩
instance:Coe Unit Value:=⟨fun _=>.slice none 0 0⟩
structure ZeroM
def aK:ZeroM:=⟨⟩
instance:Coe ZeroM Value:=⟨fun _=>.int .i64 0⟩
instance:Coe World Nat:=⟨fun w=>w.heap.size⟩
structure SliceM
def aD:SliceM:=⟨⟩
instance:CoeFun SliceM (fun _=>Option Addr->Nat->Nat->Value):=⟨fun _=>.slice⟩
structure IntM
def aO:IntM:=⟨⟩
instance:CoeFun IntM (fun _=>Int->Value):=⟨fun _=>.int .i64⟩
theorem aA{p:Prop}(h:p:=by omega):p:=h
theorem au9{p:Prop}(h:p:=by intro e;have:=Option.some.inj e;omega):p:=h
theorem kF{p:Prop}(h:p:=by intro q e;have:=Option.some.inj e;omega):p:=h
theorem bM{p:Prop}(h:p:=by kernel_rfl):p:=h
theorem bZ{p:Prop}(h:p:=by decide):p:=h
theorem bO{p:Prop}(h:p:=by simp;omega):p:=h
theorem aU{n:Nat}:n<=n:=Nat.le_refl n
theorem aT{p:Prop}(h:p):RowKit.Hid p:=h
theorem aW{α:Sort _}(a:α):∃b,b=a:=⟨a,rfl⟩
theorem isB{α:Sort _}(a:α):∃b,a=b:=⟨a,rfl⟩
theorem aY{p:Prop}(h:p:=by simp[intOf];omega):p:=h
theorem cK{p:Prop}(h:p:=by first|omega|(simp;done)|(simp;omega)):p:=h
theorem bF{p:Prop}(h:p:=by simp):p:=h
theorem cD{p:Prop}(h:p:=by go_num):p:=h
theorem dS{p:Prop}(h:p:=by decide +kernel):p:=h
theorem au3{p:Prop}(h:p:=by assumption):p:=h
theorem dV{p:Prop}(h:p:=by rw[IntKind.wrap_i64];omega):p:=h
theorem aV{P:Program}{f:FuncId}{a:Array Value}{w:World}{r:Value}{Q:Ending->World->Prop}{R:World->Prop}(h:Calls P f a w fun e w'=>e=.returned r/\R w')(k:∀w',R w'->Q (.returned r) w'):Calls P f a w Q:=h.mono fun _ _ x=>by rw[x.1];exact k _ x.2
instance {α:Type}:CoeOut (List α) Nat:=⟨List.length⟩
abbrev aI:Type:=List Int
structure RetM
def aQ:RetM:=⟨⟩
instance:CoeFun RetM (fun _=>Value->Ending):=⟨fun _=>.returned⟩
structure StrM
def aR:StrM:=⟨⟩
instance:CoeFun StrM (fun _=>ByteArray->Value):=⟨fun _=>.string⟩
structure TupM
def aS:TupM:=⟨⟩
instance:CoeFun TupM (fun _=>Array Value->Value):=⟨fun _=>.tuple⟩
structure AggM
def aM:AggM:=⟨⟩
instance:CoeFun AggM (fun _=>Array Value->Value):=⟨fun _=>.agg⟩
structure PtrM
def aP:PtrM:=⟨⟩
instance:CoeFun PtrM (fun _=>Option Addr->Value):=⟨fun _=>.pointer⟩
structure BoolM
def aG:BoolM:=⟨⟩
instance:CoeFun BoolM (fun _=>Bool->Value):=⟨fun _=>.bool⟩
structure WrapM
def aJ:WrapM:=⟨⟩
instance:CoeFun WrapM (fun _=>Int->Int):=⟨fun _=>IntKind.i64.wrap⟩
structure EmpM
def aN:EmpM:=⟨⟩
instance:Coe EmpM ByteArray:=⟨fun _=>ByteArray.empty⟩
abbrev aB:Type:=ByteArray
theorem cH:type_of% @List.take_succ_eq_append_getElem:=@List.take_succ_eq_append_getElem
theorem eS:type_of% @List.eq_nil_of_length_eq_zero:=@List.eq_nil_of_length_eq_zero
theorem bR:type_of% @List.getD_eq_getElem?_getD:=@List.getD_eq_getElem?_getD
theorem dU:type_of% @Array.getElem?_eq_some_iff:=@Array.getElem?_eq_some_iff
theorem cG:type_of% @List.getElem?_eq_getElem:=@List.getElem?_eq_getElem
theorem cN:type_of% @Int.eq_ofNat_of_zero_le:=@Int.eq_ofNat_of_zero_le
theorem gW:type_of% @ByteArray.size_append:=@ByteArray.size_append
theorem bQ:type_of% @Nat.pow_le_pow_right:=@Nat.pow_le_pow_right
theorem dZ:type_of% @beq_eq_false_iff_ne:=@beq_eq_false_iff_ne
theorem bN:type_of% @List.length_append:=@List.length_append
theorem eM:type_of% @List.mem_singleton:=@List.mem_singleton
theorem dO:type_of% @World.grownBy.refl:=@World.grownBy.refl
theorem dX:type_of% @Nat.lt_of_lt_of_le:=@Nat.lt_of_lt_of_le
theorem eZ:type_of% @of_decide_eq_false:=@of_decide_eq_false
theorem cA:type_of% @Int.toNat_natCast:=@Int.toNat_natCast
theorem eY:type_of% @List.append_assoc:=@List.append_assoc
theorem eD:type_of% @of_decide_eq_true:=@of_decide_eq_true
theorem aX:type_of% @List.getElem_mem:=@List.getElem_mem
theorem oJ:type_of% @IntKind.wrap_i64:=@IntKind.wrap_i64
theorem jZ:type_of% @List.length_cons:=@List.length_cons
theorem fB:type_of% @Bool.and_eq_true:=@Bool.and_eq_true
theorem bG:type_of% @decide_eq_false:=@decide_eq_false
theorem an5:type_of% @List.length_nil:=@List.length_nil
theorem dJ:type_of% @Nat.two_pow_pos:=@Nat.two_pow_pos
theorem dM:type_of% @List.mem_append:=@List.mem_append
theorem cI:type_of% @Option.some.inj:=@Option.some.inj
theorem bH:type_of% @decide_eq_true:=@decide_eq_true
theorem bX:type_of% @RowKit.Below.setCell:=@RowKit.Below.setCell
theorem fK:type_of% @List.mem_cons:=@List.mem_cons
theorem bW:type_of% @bodyPost_ret:=@bodyPost_ret
theorem cM:type_of% @Nat.le_of_lt:=@Nat.le_of_lt
theorem dC:type_of% @Nat.le_trans:=@Nat.le_trans
theorem aZ:type_of% @Nat.zero_le:=@Nat.zero_le
theorem bJ:type_of% @RowKit.Below.refl:=@RowKit.Below.refl
end Go
namespace Go.RowKit
theorem Below.drewN'{B:Nat}{a w:World}(h:Below B a w)(n:Nat):Below B a (w.drewN n):=⟨h.os,h.tape,h.output,h.size,h.block⟩
theorem Below.after{B B':Nat}{a W w1:World}(h:Below B a W)(hb:Below B' W w1)(hB:B<=B'):Below B a w1:=h.trans (hb.mono hB)
end Go.RowKit
namespace Go.G5
open Go Go.RowKit
def fM(x:Int):Prop:=-9223372036854775808<=x/\x<=9223372036854775807
def Ints(w:World)(v:Value)(l:List Int):Prop:=
 ∃a c,v=.slice a l.length c/\l.length<=c/\c<=maxLen/\(∀x∈l,fM x) /\
  (l=[]\/∃b z,a=some ⟨b,z,none⟩/\b<w.heap.size /\
   ∀k,(h:k<l.length)->w.cell? ⟨b,z+k,none⟩=some (.int .i64 l[k]))
structure IntElem (P:Program) (E:TypeId):Prop where
 info:(P.info? E).map (fun i=>(i.zero,i.size,i.bytes))=some (some (.int .i64 0),1,8)
theorem IntElem.get{P:Program}{E:TypeId}(h:IntElem P E):∃i,P.info? E=some i/\i.zero=some (.int .i64 0)/\i.size=1/\i.bytes=8:=by
 have h:=h.info
 cases z:P.info? E with
 |none=>rw[z]at h;simp at h
 |some i=>rw[z]at h;simp at h;exact⟨i,rfl,h.1,h.2.1,h.2.2⟩
theorem Ints.view{w:World}{v:Value}{l:List Int}(h:Ints w v l)(P:Program)(T E:TypeId)(I:P.underlying T=some (.slice E))
  (K:IntElem P E):
  ∃a b z c,v=.slice a l.length c/\l.length<=9223372036854775807 /\
   (∀(w':World) (k:Nat),k<l.length->(Instr.indexAt T (.slice a l.length c) (.int .i64 (k:Int))).run P w'=.ok (.pointer (some ⟨b,z+k,none⟩)) w') /\
   (∀k,(h:k<l.length)->w.cell? ⟨b,z+k,none⟩=some (.int .i64 l[k]))/\(l≠[]->b<w.heap.size):=by
 obtain⟨a,c,rfl,h1,h2,h3,h4⟩:=h;have F:P.elem T=E:=by simp[Program.elem,I]
 obtain⟨i,J,_,D,_⟩:=K.get;rcases h4 with rfl|⟨b,z,rfl,hb,hc⟩
 .exact⟨a,0,0,c,rfl,bF,fun w' k hk=>by simp at hk,fun k hk=>by simp at hk,fun h=>absurd rfl h⟩
 .refine⟨_,b,z,c,rfl,by unfold maxLen at h2;omega,fun w' k hk=>?_,hc,fun _=>hb⟩;rw[run_indexAt_slice w' T ⟨b,z,none⟩ l.length c .i64 k (by rw[F];exact I),if_pos ⟨aA,aA⟩,F];simp[sizeOf,typeInfo,J,D,Addr.add]
theorem Ints.below{B:Nat}{w w':World}{v:Value}{l:List Int}(h:Ints w v l)(hb:Below B w w')(hB:w.heap.size<=B):Ints w' v l:=by
 obtain⟨a,c,rfl,h1,h2,h3,h4⟩:=h;refine⟨a,c,rfl,h1,h2,h3,?_⟩;rcases h4 with rfl|⟨b,z,rfl,hlt,hc⟩
 .exact .inl rfl
 .refine .inr ⟨b,z,rfl,dX hlt hb.size,fun k hk=>?_⟩;rw[hb.cell (p:=⟨b,z+k,none⟩) (by show b<B;omega)];exact hc k hk
theorem Ints.inR{w:World}{v:Value}{l:List Int}(h:Ints w v l):∀x∈l,fM x:=h.choose_spec.choose_spec.2.2.2.1
def bB(E:TypeId)(B:Nat)(w:World)(v:Value)(l:List Int):Prop:=
 w.ownsRow B E 1 v l.length (l.map (Value.int .i64))/\∀x∈l,fM x
theorem bB.ints{E:TypeId}{B:Nat}{w:World}{v:Value}{l:List Int}(h:bB E B w v l):Ints w v l:=by
 obtain⟨⟨K,h1⟩,h2⟩:=h;rcases h1 with⟨rfl,D⟩|⟨g,cap,F,rfl,hB,J,D,hm,I,ht⟩
 .have:l=[]:=eS D;subst this;exact⟨none,0,rfl,aU,aZ _,bF,.inl rfl⟩
 .refine⟨_,cap,rfl,D,hm,h2,.inr ⟨g,0,rfl,(dU.1 J).1,fun k hk=>?_⟩⟩;have z:w.ownsRow B E 1 (.slice (some ⟨g,0,none⟩) l.length cap) l.length (l.map (Value.int .i64)):=⟨K,.inr ⟨g,cap,F,rfl,hB,J,D,hm,I,ht⟩⟩;have:=z.cellAt k aA;rw[Nat.zero_add,this];simp[hk]
theorem bB.nil(E:TypeId)(B:Nat)(w:World):bB E B w (.slice none 0 0) []:=⟨World.ownsRow_nil _ _ _ _,bF⟩
theorem bB.cases{E:TypeId}{B:Nat}{w:World}{v:Value}{l:List Int}(h:bB E B w v l):(v=.slice none 0 0/\l=[])\/∃g cap,v=.slice (some ⟨g,0,none⟩) l.length cap/\B<=g/\g<w.heap.size:=by
 rcases h.1.2 with⟨rfl,F⟩|⟨g,cap,z,rfl,hB,D,_⟩
 .exact .inl ⟨rfl,eS F⟩
 .exact .inr ⟨g,cap,rfl,hB,(dU.1 D).1⟩
theorem bB.lit0{E:TypeId}{B:Nat}(w:World)(hB:B<=w.heap.size):bB E B (w.alloc (.cells #[] E)) (.slice (some ⟨w.heap.size,0,none⟩) 0 0) []:=
 ⟨World.ownsRow_lit w #[] 0 hB (aZ _) rfl,bF⟩
theorem ZU{p:Prop}(h:p:=by
  rcases h1 with h1|⟨g,cap,D,rfl,F,J,r⟩
  .exact .inl h1
  .exact .inr ⟨g,cap,D,rfl,F,by rw[hb.block g (by have:=(dU.1 J).1;omega)];exact J,r⟩):p:=h
theorem bB.below{E:TypeId}{B B':Nat}{w w':World}{v:Value}{l:List Int}(h:bB E B w v l)(hb:Below B' w w')(hB:w.heap.size<=B'):bB E B w' v l:=by
 obtain⟨⟨z,h1⟩,h2⟩:=h;refine⟨⟨z,?_⟩,h2⟩;exact ZU
theorem bB.lt{E:TypeId}{B:Nat}{w:World}{v:Value}{l:List Int}(h:bB E B w v l):∀k,v.ownBlock=some k->B<=k/\k<w.heap.size:=h.1.lt
theorem bB.mono{E:TypeId}{B B':Nat}{w:World}{v:Value}{l:List Int}(h:bB E B w v l)(hB:B'<=B):bB E B' w v l:=by
 obtain⟨⟨D,h1⟩,h2⟩:=h;refine⟨⟨D,?_⟩,h2⟩;rcases h1 with h1|⟨g,cap,z,rfl,F,r⟩
 .exact .inl h1
 .exact .inr ⟨g,cap,z,rfl,aA,r⟩
theorem bB.grown{E:TypeId}{B:Nat}{w w':World}{row:Option Nat}{v:Value}{l:List Int}(h:bB E B w v l)(D:w.grownBy w' row)(z:v.ownBlock=none\/v.ownBlock≠row):bB E B w' v l:=
 ⟨h.1.kept D z,h.2⟩
theorem bB.alloc{E:TypeId}{B:Nat}{w:World}{v:Value}{l:List Int}(h:bB E B w v l)(o:Obj):bB E B (w.alloc o) v l:=⟨h.1.alloc o,h.2⟩
theorem eF{P:Program}{w:World}{ops:Array Oper}{rest:List Oper}{o:Oper}{a:Act}{Q:Exit->Act->World->Prop}(M:o.guard=none)(s x:Operand)(t:TypeId)
  (ho:o.op=.call { callee:=.builtin .append,args:=#[s,x],argTypes:=#[t,t] })
  (E:TypeId) (ht:P.underlying t=some (.slice E)) (Y:IntElem P E) (B:Nat) (v:Value) (l:List Int) (y:Int) (b:Nat) (hs:a.eval s=v) (hx:a.eval x=.slice (some ⟨b,0,none⟩) 1 1)
  (hy:w.cell? ⟨b,0,none⟩=some (.int .i64 y))
  (F:bB E B w v l) (N:fM y) (O:l.length<17592186044416) (hB:B<=w.heap.size)
  (h:∀K w',bB E B w' K (l++[y])->w.grownBy w' v.ownBlock->wpList P ops Q rest (a.put o.dst K) w'):wpList P ops Q (o::rest) a w:=by
 obtain⟨i,hi,hz,h1,S⟩:=Y.get;refine wpList_append_own w M s x t ho B E i (.int .i64 0) 1 8 ht hi hz h1 S rfl bZ v l.length (l.map (Value.int .i64)) hs F.1 ⟨b,0,none⟩ 1 1 [.int .i64 y] hx rfl ?_ ?_ ?_ ?_ hB ?_
 .intro j u J
  match j,J with
  |0,J=>simp at J;subst J;simpa[Addr.add]using hy
  |j+1,J=>simp at J
 .intro u R;simp at R;subst R;rfl
 .unfold maxLen;omega
 .omega
 .intro K w' I Z _;refine h K w' ⟨?_,?_⟩ Z
  .simpa using I
  .intro z D;rcases dM.1 D with D|D
   .exact F.2 z D
   .simp at D;subst D;exact N
theorem nP{P:Program}{w:World}{ops:Array Oper}{rest:List Oper}{o:Oper}{a:Act}{Q:Exit->Act->World->Prop}
  (N:o.guard=none) (x c:Operand) (t:TypeId) (F:o.op=Op.makeSlice t x c)
  (E:TypeId) (ht:P.underlying t=some (.slice E)) (J:IntElem P E) (n:Nat) (L C:Int) (hl:a.eval x=.int .i64 L) (hc:a.eval c=.int .i64 C) (M:L=(n:Int)) (hC:C=(n:Int)) (Y:n<=17592186044416)
  (K:∀w',bB E w.heap.size w' (.slice (some ⟨w.heap.size,0,none⟩) n n) (List.replicate n 0)->w.grownBy w' none->wpList P ops Q rest (a.put o.dst (.slice (some ⟨w.heap.size,0,none⟩) n n)) w'):
  wpList P ops Q (o::rest) a w:=by
 obtain⟨i,O,S,h1,I⟩:=J.get;refine wpList_make_full w N x c t F w.heap.size E i (.int .i64 0) 1 ht O S h1 .i64 .i64 L C n hl hc M hC (by rw[I];omega) (by unfold maxLen;omega) aU ?_;intro w' z D;refine K w' ⟨?_,by intro y R;have:=List.eq_of_mem_replicate R;subst this;exact⟨aA,aA⟩⟩ D;have e:(madeCells (Value.int IntKind.i64 0).cells (n*1)).toList=(List.replicate n (0:Int)).map (Value.int .i64):=by rw[show(Value.int IntKind.i64 0).cells=#[Value.int .i64 0] from rfl,toList_madeCells_one];simp
 rw[e]at z;simpa using z
theorem bB.stored{E:TypeId}{B:Nat}{w:World}{g n cap:Nat}{l:List Int}(h:bB E B w (.slice (some ⟨g,0,none⟩) n cap) l)(F:n=l.length)(j:Nat)(y:Int)(I:fM y):
  bB E B (w.setCell ⟨g,j,none⟩ (.int .i64 y)) (.slice (some ⟨g,0,none⟩) n cap) (l.set j y)/\w.grownBy (w.setCell ⟨g,j,none⟩ (.int .i64 y)) (some g):=by
 subst F;have:=h.1.stored j (.int .i64 y);refine⟨⟨?_,?_⟩,this.2⟩
 .simpa[List.map_set]using this.1
 .intro z D;rcases List.mem_or_eq_of_mem_set D with D|D
  .exact h.2 z D
  .subst D;exact I
theorem bB.cellAt{E:TypeId}{B:Nat}{w:World}{g n cap:Nat}{l:List Int}(h:bB E B w (.slice (some ⟨g,0,none⟩) n cap) l)(D:n=l.length)(j:Nat)(z:j<l.length):
  w.cell? ⟨g,j,none⟩=some (.int .i64 l[j]):=by
 subst D;rw[h.1.cellAt j aA];simp[z]
theorem bB.frozenAt{E:TypeId}{B:Nat}{w:World}{g n cap:Nat}{l:List Int}(h:bB E B w (.slice (some ⟨g,0,none⟩) n cap) l)(z:n=l.length)(j:Nat):w.frozen? ⟨g,j,none⟩=false:=by
 subst z;exact h.1.frozenAt j
theorem abM{B:Nat}{a w w':World}{row:Option Nat}(h:Below B a w)(z:w.grownBy w' row)(hB:B<=w.heap.size)(hr:∀k,row=some k->B<=k):Below B a w':=h.grown z hB hr
theorem jN{B:Nat}{W w1:World}(hb:Below B W w1)(n:Nat)(h:n<=B):(∀b o,b<n->w1.cell? ⟨b,o,none⟩=W.cell? ⟨b,o,none⟩)/\(∀b o,b<n->w1.frozen? ⟨b,o,none⟩=W.frozen? ⟨b,o,none⟩):=
 ⟨fun b o z=>hb.cell (p:=⟨b,o,none⟩) (dX z h),fun b o z=>hb.frozen (p:=⟨b,o,none⟩) (dX z h)⟩
@[simp, go_sem] theorem lt_plus2 (n : Nat) : n < n + 1 + 1 := aA
@[simp, go_sem] theorem le_plus2 (n : Nat) : n <= n + 1 + 1 := aA
@[simp, go_sem] theorem lt_plus3 (n : Nat) : n < n + 1 + 1 + 1 := aA
@[simp, go_sem] theorem le_plus3 (n : Nat) : n <= n + 1 + 1 + 1 := aA
@[simp, go_sem] theorem lt_plus4 (n : Nat) : n < n + 1 + 1 + 1 + 1 := aA
@[simp, go_sem] theorem le_plus4 (n : Nat) : n <= n + 1 + 1 + 1 + 1 := aA
@[simp, go_sem] theorem lt_plus5 (n : Nat) : n < n + 1 + 1 + 1 + 1 + 1 := aA
@[simp, go_sem] theorem le_plus5 (n : Nat) : n <= n + 1 + 1 + 1 + 1 + 1 := aA
@[simp, go_sem] theorem lt_plus6 (n : Nat) : n < n + 1 + 1 + 1 + 1 + 1 + 1 := aA
@[simp, go_sem] theorem le_plus6 (n : Nat) : n <= n + 1 + 1 + 1 + 1 + 1 + 1 := aA
@[simp, go_sem] theorem lt_plus7 (n : Nat) : n < n + 1 + 1 + 1 + 1 + 1 + 1 + 1 := aA
@[simp, go_sem] theorem le_plus7 (n : Nat) : n <= n + 1 + 1 + 1 + 1 + 1 + 1 + 1 := aA
@[simp, go_sem] theorem lt_plus8 (n : Nat) : n < n + 1 + 1 + 1 + 1 + 1 + 1 + 1 + 1 := aA
@[simp, go_sem] theorem le_plus8 (n : Nat) : n <= n + 1 + 1 + 1 + 1 + 1 + 1 + 1 + 1 := aA
theorem cQ(w:World)(o:Obj):Below w.heap.size w (w.alloc o):=(bJ _ _).alloc aU _
theorem wU(w:World)(o z:Obj):Below w.heap.size w ((w.alloc o).alloc z):=(cQ w o).alloc bF _
theorem jP{V w:World}{o:Obj}(h:V=w.alloc o):Below w.heap.size w V:=by rw[h];exact cQ _ _
theorem iJ{V w:World}{o z:Obj}(h:V=(w.alloc o).alloc z):Below w.heap.size w V:=by rw[h];exact wU _ _ _
theorem rB{B:Nat}{a w:World}(h:Below B a w:=by repeat(first|exact Below.refl _ _|(with_reducible refine Below.setCell ?_ (by first|omega|(simp;done)|(simp;omega)) _)|(with_reducible refine Below.alloc ?_ (by first|omega|(simp;done)|(simp;omega)) _)|(with_reducible refine Below.drewN' ?_ _)|(with_reducible refine Below.drew ?_)|(with_reducible assumption)|refine Below.trans ?_ (Below.mono (by assumption) (by first|omega|(simp;done)|(simp;omega))))):Below B a w:=h
theorem bl3(w:World)(o D z:Obj):Below w.heap.size w (((w.alloc o).alloc D).alloc z):=(wU w o D).alloc cK _
theorem Ints.alloc{w:World}{v:Value}{l:List Int}(h:Ints w v l)(o:Obj):Ints (w.alloc o) v l:=h.below (cQ w o) aU
theorem Ints.drewN{w:World}{v:Value}{l:List Int}(h:Ints w v l)(n:Nat):Ints (w.drewN n) v l:=h.below ((bJ w.heap.size w).drewN' n) aU
theorem bB.drewN{E:TypeId}{B:Nat}{w:World}{v:Value}{l:List Int}(h:bB E B w v l)(n:Nat):bB E B (w.drewN n) v l:=h.below ((bJ w.heap.size w).drewN' n) aU
theorem Ints.empty(w:World)(a:Option Addr)(n c:Nat)(z:n=0)(hc:c<=maxLen):Ints w (.slice a n c) []:=by
 subst z;exact⟨a,c,rfl,aZ _,hc,bF,.inl rfl⟩
theorem Ints.capLe{w:World}{a:Option Addr}{n c:Nat}{l:List Int}(h:Ints w (.slice a n c) l):n=l.length/\n<=c/\c<=maxLen:=by
 obtain⟨D,F,z,h1,h2,_⟩:=h;simp only[Value.slice.injEq]at z;obtain⟨_,rfl,rfl⟩:=z;exact⟨rfl,h1,h2⟩
theorem Ints.dropK{w:World}{b z n c:Nat}{l:List Int}(h:Ints w (.slice (some ⟨b,z,none⟩) n c) l)(k:Nat)(hk:k<=l.length):Ints w (.slice (some ⟨b,z+k,none⟩) (n-k) (c-k)) (l.drop k):=by
 obtain⟨M,O,F,h1,h2,h3,h4⟩:=h;simp only[Value.slice.injEq]at F;obtain⟨rfl,rfl,rfl⟩:=F;refine⟨_,c-k,by rw[List.length_drop],by rw[List.length_drop];omega,aA,fun x K=>h3 x (List.mem_of_mem_drop K),?_⟩;rcases h4 with rfl|⟨N,I,D,hlt,hc⟩
 .left;simp
 .simp only[Option.some.injEq,Addr.mk.injEq,and_true]at D;obtain⟨rfl,rfl⟩:=D;right;refine⟨b,z+k,rfl,hlt,fun j J=>?_⟩;rw[List.length_drop]at J;have:=hc (k+j) aA;rw[Nat.add_assoc,this];simp
theorem bB.setBelow{E:TypeId}{B:Nat}{w:World}{v:Value}{l:List Int}(h:bB E B w v l){a:Addr}(z:a.block<B)(u:Value):bB E B (w.setCell a u) v l:=
 ⟨ownsRow_setCell_below h.1 z u,h.2⟩
theorem bB.shape{E:TypeId}{B:Nat}{w:World}{v:Value}{l:List Int}(h:bB E B w v l):∃a c,v=.slice a l.length c:=by
 obtain⟨a,c,rfl,_⟩:=h.ints;exact⟨a,c,rfl⟩
theorem bB.shape3{E:TypeId}{B:Nat}{w:World}{v:Value}{l:List Int}(h:bB E B w v l):∃a n c,v=.slice a n c:=by
 obtain⟨a,c,rfl,_⟩:=h.ints;exact⟨a,_,c,rfl⟩
theorem Ints.shape{w:World}{v:Value}{l:List Int}(h:Ints w v l):∃a c,v=.slice a l.length c:=by
 obtain⟨a,c,rfl,_⟩:=h;exact⟨a,c,rfl⟩
theorem keep{W w1:World}(hb:Below W.heap.size W w1){p:Addr}{v:Value}(d:W.cell? p=some v):w1.cell? p=some v:=(hb.cell (World.block_lt_of_cell? W p d)).trans d
theorem cR(w:World)(cs:Array Value)(T:TypeId)(j:Nat)(v:Value)(h:cs[j]?=some v):(w.alloc (.cells cs T)).cell? ⟨w.heap.size,j,none⟩=some v:=by
 have e:=heap_alloc_new w (.cells cs T);unfold World.cell?;simp only[e];simpa using h
theorem amW{w:World}{p:Addr}{v:Value}(d:w.cell? p=some v)(o:Obj):(w.alloc o).cell? p=some v:=keep (cQ w o) d
theorem bB.keep{E:TypeId}{B:Nat}{W w1:World}{v:Value}{l:List Int}(h:bB E B W v l)(hb:Below W.heap.size W w1):bB E B w1 v l:=h.below hb aU
theorem Ints.keep{W w1:World}{v:Value}{l:List Int}(h:Ints W v l)(hb:Below W.heap.size W w1):Ints w1 v l:=h.below hb aU
theorem grown_keep{W w1:World}{row:Option Nat}(D:W.grownBy w1 row){p:Addr}{v:Value}(d:W.cell? p=some v)(z:∀k,row=some k->p.block≠k):w1.cell? p=some v:=
 D.cell d (fun e=>z _ e.symm rfl)
theorem bB.grow{E:TypeId}{B:Nat}{w w':World}{row:Option Nat}{v:Value}{l:List Int}(h:bB E B w v l)(D:w.grownBy w' row)(z:∀k,row=some k->v.ownBlock≠some k):bB E B w' v l:=by
 refine h.grown D ?_
 cases F:v.ownBlock with
 |none=>exact .inl rfl
 |some k=>right;intro e;exact z k e.symm F
theorem aeK{B:Nat}{a w w':World}{row:Option Nat}(h:Below B a w)(z:w.grownBy w' row)(hB:B<=w.heap.size)(hr:∀k,row=some k->B<=k):Below B a w':=h.grown z hB hr
theorem YX{w w' w'':World}{row:Option Nat}(h:w.grownBy w' row)(k:w'.grownBy w'' row):w.grownBy w'' row:=
 ⟨k.os.trans h.os,k.tape.trans h.tape,k.output.trans h.output,dC h.size k.size,fun b hb hr=>(k.block b (dX hb h.size) hr).trans (h.block b hb hr)⟩
theorem anW{w w':World}(row:Option Nat)(h:Below w.heap.size w w'):w.grownBy w' row:=⟨h.os,h.tape,h.output,h.size,fun b hb _=>h.block b hb⟩
theorem cZ{P:Program}{f:FuncId}{args:Array Value}{W:World}{R:Ending->World->Prop}(h:∀W',W'=W->Calls P f args W' R):Calls P f args W R:=h W rfl
structure Box2 (w wr:World) (n:Int) (sv:Value):Prop where
 d0:wr.cell? ⟨w.heap.size,0,none⟩=some (.int .i64 n)
 d1:wr.cell? ⟨w.heap.size,1,none⟩=some sv
 B:Below w.heap.size w wr
 z:w.heap.size<wr.heap.size
theorem Box2.new(w:World)(n:Int)(z:Value)(T:TypeId):Box2 w (w.alloc (.cells #[.int .i64 n,z] T)) n z:=
 ⟨cR w #[.int .i64 n,z] T 0 _ rfl,cR w #[.int .i64 n,z] T 1 _ rfl,cQ _ _,bF⟩
theorem Box2.after{w wr F:World}{n:Int}{D:Value}(h:Box2 w wr n D)(hb:Below wr.heap.size wr F):Box2 w F n D:=
 ⟨G5.keep hb h.d0,G5.keep hb h.d1,h.B.after hb h.B.size,dX h.z hb.size⟩
theorem Box2.drewN{w wr:World}{n:Int}{D:Value}(h:Box2 w wr n D)(k:Nat):Box2 w (wr.drewN k) n D:=⟨h.d0,h.d1,h.B.drewN' k,h.z⟩
theorem Box2.grow{w wr I:World}{row:Option Nat}{n:Int}{F:Value}(h:Box2 w wr n F)(D:wr.grownBy I row)(hr:∀k,row=some k->w.heap.size<k):Box2 w I n F:=
 ⟨G5.grown_keep D h.d0 (fun k hk=>by have:=hr k hk;simp only[];omega),G5.grown_keep D h.d1 (fun k hk=>by have:=hr k hk;simp only[];omega),h.B.grown D h.B.size (fun k hk=>by have:=hr k hk;omega),dX h.z D.size⟩
theorem bY{B:Nat}{w w':World}{b z:Nat}{l:List Int}(hc:∀k,(h:k<l.length)->w.cell? ⟨b,z+k,none⟩=some (.int .i64 l[k]))(hb:l≠[]->b<w.heap.size)
  (h:Below B w w') (hB:w.heap.size<=B):∀k,(h:k<l.length)->w'.cell? ⟨b,z+k,none⟩=some (.int .i64 l[k]):=fun k hk=>by
 have D:l≠[]:=by intro e;subst e;simp at hk
 have:=hb D;rw[h.cell (p:=⟨b,z+k,none⟩) (by show b<B;omega)];exact hc k hk
theorem UY(l:List Int)(k:Nat)(h:k<l.length):(l.take k++List.replicate (l.length-k) 0).set k l[k]=l.take (k+1)++List.replicate (l.length-(k+1)) 0:=by
 apply List.ext_getElem
 .simp;omega
 .intro i h1 h2;simp only[List.length_set,List.length_append,List.length_take,List.length_replicate]at h1 h2;rw[List.getElem_set];by_cases z:k=i
  .subst z;rw[if_pos rfl,List.getElem_append_left bO];simp
  .by_cases D:i<k
   .rw[if_neg z,List.getElem_append_left bO,List.getElem_append_left bO];simp
   .rw[if_neg z,List.getElem_append_right bO,List.getElem_append_right bO];simp
theorem anJ(l:List Int)(k:Nat)(h:k<=l.length):(l.take k++List.replicate (l.length-k) 0).length=l.length:=bO
theorem lO{P:Program}{f:FuncId}{args:Array Value}{w:World}{n:Nat}{v:Value}
  (h:Calls P f args (w.drewN n) fun e w'=>e=.returned v/\w.drewN n=w'):Calls P f args (w.drewN n) fun e w''=>e=.returned v/\∃m,w''=w.drewN m:=
 h.mono fun _ _ ⟨z,hm⟩=>⟨z,n,hm.symm⟩
theorem vM{P:Program}{f:FuncId}{args:Array Value}{w:World}{n:Nat}{b z:Bool}
  (h:Calls P f args (w.drewN n) fun e w'=>e=.returned (.bool b)/\w.drewN n=w') (hb:b=z):Calls P f args (w.drewN n) fun e w''=>e=.returned (.bool z)/\∃m,w''=w.drewN m:=by
 subst hb;exact lO h
theorem kH{P:Program}{f:FuncId}{args:Array Value}{w:World}{m n:Nat}{v:Value}
  (h:Calls P f args (w.drewN (m+n)) fun e w'=>e=.returned v/\w.drewN (m+n)=w'):Calls P f args (w.drewN (m+n)) fun e w''=>e=.returned v/\∃k,w''=w.drewN (m+k):=
 h.mono fun _ _ ⟨z,hm⟩=>⟨z,n,hm.symm⟩
theorem tE{P:Program}{f:FuncId}{args:Array Value}{w:World}{m n:Nat}{b z:Bool}
  (h:Calls P f args (w.drewN (m+n)) fun e w'=>e=.returned (.bool b)/\w.drewN (m+n)=w') (hb:b=z):Calls P f args (w.drewN (m+n)) fun e w''=>e=.returned (.bool z)/\∃k,w''=w.drewN (m+k):=by
 subst hb;exact kH h
theorem jK{k:IntKind}{a b:Int}(h:a=b):Ending.returned (.int k a)=.returned (.int k b):=by rw[h]
theorem cP{a b:Bool}(h:a=b):Ending.returned (.bool a)=.returned (.bool b):=by rw[h]
structure Ext (W:World) where
 w:World
 b:Below W.heap.size W w
instance Ext.one (W:World):Nonempty (Ext W):=⟨⟨W,bJ _ _⟩⟩
theorem cW{P:Program}{id:Nat}{Q:Exit->Act->World->Prop}{a:Act}(W:World){l:List Oper}(hm:P.follows .mixedOrders=true)(hB:Region.lexB .any l.toArray=true)
  (h:wpQuiet P l.toArray (fun w'=>∃x:Ext W,w'=x.w) (fun z=>∀w',(∃x:Ext W,w'=x.w)->Q .normal z w') l a):(Code.region id l.toArray true).wp P Q a W:=
 wp_region_quiet (C:=fun w'=>∃x:Ext W,w'=x.w) hm hB ⟨⟨W.drew,(bJ _ _).drew⟩,rfl⟩ (by simpa using h)
theorem dI{P:Program}{f:FuncId}{args:Array Value}{W:World}{x:Ext W}{v:Value}
  (h:Calls P f args x.w fun e w'=>e=.returned v/\Below x.w.heap.size x.w w'):Calls P f args x.w fun e w''=>e=.returned v/\∃y:Ext W,w''=y.w:=
 h.mono fun _ w'' ⟨z,hb⟩=>⟨z,⟨w'',x.b.after hb x.b.size⟩,rfl⟩
theorem zN{P:Program}{f:FuncId}{args:Array Value}{W:World}{x:Ext W}{b z:Bool}
  (h:Calls P f args x.w fun e w'=>e=.returned (.bool b)/\Below x.w.heap.size x.w w') (hb:b=z):Calls P f args x.w fun e w''=>e=.returned (.bool z)/\∃y:Ext W,w''=y.w:=by
 subst hb;exact dI h
theorem fA{P:Program}{f:FuncId}{args:Array Value}{W:World}{x:Ext W}{v:Value}
  (h:Calls P f args x.w fun e w'=>e=.returned v/\x.w=w'):Calls P f args x.w fun e w''=>e=.returned v/\∃y:Ext W,w''=y.w:=
 h.mono fun _ _ ⟨z,hb⟩=>⟨z,x,hb.symm⟩
theorem UV{P:Program}{f:FuncId}{args:Array Value}{W:World}{x:Ext W}{b z:Bool}
  (h:Calls P f args x.w fun e w'=>e=.returned (.bool b)/\x.w=w') (hb:b=z):Calls P f args x.w fun e w''=>e=.returned (.bool z)/\∃y:Ext W,w''=y.w:=by
 subst hb;exact fA h
theorem ahT{P:Program}{f:FuncId}{args:Array Value}{W:World}{x:Ext W}{b z:Int}
  (h:Calls P f args x.w fun e w'=>e=.returned (.int .i64 b)/\x.w=w') (hb:b=z):Calls P f args x.w fun e w''=>e=.returned (.int .i64 z)/\∃y:Ext W,w''=y.w:=by
 subst hb;exact fA h
theorem Ext.cell{W:World}(x:Ext W){p:Addr}{v:Value}(d:W.cell? p=some v):x.w.cell? p=some v:=G5.keep x.b d
theorem Ext.ints{W:World}(x:Ext W){v:Value}{l:List Int}(h:Ints W v l):Ints x.w v l:=h.keep x.b
end Go.G5
end
section
namespace Go.G5
open Go
theorem fQ{a b:ByteArray}(h:a.data.toList=b.data.toList):a=b:=by
 cases a;cases b;congr 1;exact Array.toList_inj.1 h
theorem lX(a b:ByteArray):(a++b).data.toList=a.data.toList++b.data.toList:=by rw[ByteArray.data_append,Array.toList_append]
theorem zK(a:ByteArray):a.size=a.data.toList.length:=Lib.size_eq a
theorem asI{a:ByteArray}:a.size=0↔a=ByteArray.empty:=by
 constructor
 .intro h
  rw[zK]at h;exact fQ (by rw[List.eq_nil_of_length_eq_zero h];rfl)
 .rintro rfl;rfl
def dB(n:Int):ByteArray:=⟨(Lib.itoa n).toArray⟩
def dL(z:ByteArray)(D:List ByteArray):ByteArray:=⟨(Lib.join (D.map (·.data.toList)) z.data.toList).toArray⟩
theorem aiN(z:ByteArray):dL z []=ByteArray.empty:=rfl
theorem mL(z x:ByteArray):dL z [x]=x:=fQ (by
 show Lib.join [x.data.toList] z.data.toList=_;rw[Lib.join_one])
theorem LJ(z:List UInt8)(r s:List (List UInt8)):Lib.joinTail z (r++s)=Lib.joinTail z r++Lib.joinTail z s:=by
 simp[Lib.joinTail]
theorem QP(z:ByteArray)(D:List ByteArray)(y:ByteArray)(h:D≠[]):dL z (D++[y])=dL z D++z++y:=by
 cases D with
 |nil=>exact absurd rfl h
 |cons x r=>
  refine fQ ?_;rw[lX,lX];show Lib.join ((x::(r++[y])).map (·.data.toList)) z.data.toList=Lib.join ((x::r).map (·.data.toList)) z.data.toList++z.data.toList++y.data.toList;rw[List.map_cons,List.map_cons,Lib.join_cons,Lib.join_cons,List.map_append,LJ];simp[Lib.joinTail,List.append_assoc]
theorem CL(D:ByteArray)(m:Nat):∀(I:List ByteArray),(∀x∈I,x.size<=m)->(dL D I).size<=I.length*(m+D.size)
 |[],_=>by simp[aiN]
 |x::r,h=>by
  have h1:=h x (by simp);have h2:Lib.lens (r.map (·.data.toList))<=r.length*m:=by
   have:∀(s:List ByteArray),(∀x∈s,x.size<=m)->Lib.lens (s.map (·.data.toList))<=s.length*m:=by
    intro s J
    induction s with
    |nil=>simp[Lib.lens]
    |cons y s ih=>
     have a:=J y (by simp);have b:=ih (fun z F=>J z (by simp[F]));rw[zK]at a;simp only[Lib.lens,List.map_cons,List.sum_cons,List.length_cons]at b |-;rw[Nat.succ_mul];omega
   exact this r (fun z F=>h z (by simp[F]))
  rw[zK]at h1 |-;show(Lib.join ((x::r).map (·.data.toList)) D.data.toList).length<=_;rw[List.map_cons,Lib.join_cons,List.length_append,Lib.joinTail_length,List.length_map,List.length_cons,Nat.succ_mul,zK D,Nat.mul_add,Nat.mul_comm D.data.toList.length];omega
theorem ZH(z:ByteArray)(x:ByteArray)(r:List ByteArray)(h:x≠ByteArray.empty):dL z (x::r)≠ByteArray.empty:=by
 intro e;have:=congrArg (fun a=>a.data.toList) e;have D:x.data.toList=[]:=by
  change Lib.join ((x::r).map (·.data.toList)) z.data.toList=[]at this
  rw[List.map_cons,Lib.join_cons]at this;exact(List.append_eq_nil_iff.1 this).1
 exact h (fQ D)
theorem QQ(z:ByteArray)(D:List ByteArray)(k:Nat)(h:k<D.length):dL z (D.take (k+1))=if k=0 then D[k] else dL z (D.take k)++z++D[k]:=by
 rw[List.take_succ_eq_append_getElem h]
 split
 .rename_i F
  subst F;exact mL _ _
 .rename_i F
  refine QP _ _ _ (fun e=>?_);have:=congrArg List.length e;rw[List.length_take,List.length_nil]at this;omega
def mO(u:Nat):List UInt8:=if u=0 then [] else Lib.decDigits u
theorem UR(u:Nat)(h:0<u):mO u=mO (u/10)++[UInt8.ofNat (48+u%10)]:=by
 unfold mO;rw[if_neg (show ¬u=0 by omega),Lib.decDigits]
 split
 .rename_i h1
  rw[if_pos (show u/10=0 by omega),Nat.mod_eq_of_lt h1];rfl
 .rename_i h1
  rw[if_neg (show ¬u/10=0 by omega)]
theorem uI:∀(k u:Nat),u<10^k->0<k->(Lib.decDigits u).length<=k
 |0,_,_,h=>by omega
 |k+1,u,h,_=>by
  rw[Lib.decDigits]
  split
  .simp
  .rename_i h1
   have:u/10<10^k:=by rw[Nat.pow_succ]at h;omega
   have hk:0<k:=by
    rcases Nat.eq_zero_or_pos k with rfl|h2
    .simp at h;omega
    .exact h2
   have:=uI k (u/10) this hk;simp;omega
theorem C4(u:Nat):Lib.decDigits u≠[]:=by
 rw[Lib.decDigits]
 split<;>simp
theorem eB(n:Int)(h:-9223372036854775808<=n/\n<=9223372036854775807):(dB n).size<=21:=by
 rw[zK];show(Lib.itoa n).length<=21;unfold Lib.itoa
 split
 .have:=uI 20 n.natAbs (by omega) (by omega)
  simp;omega
 .have:=uI 20 n.toNat (by omega) (by omega)
  omega
theorem ZG(n:Int):dB n≠ByteArray.empty:=by
 intro e;have h:Lib.itoa n=[]:=congrArg (fun a=>a.data.toList) e;unfold Lib.itoa at h
 split at h
 .cases h
 .exact C4 _ h
end Go.G5
end
section
namespace Go.Proofs.YtkdbkjjacgigiaaGreatDoor
open Go.RowKit Go.G5 Go.Proofs.Tryz
theorem intElem:IntElem prog 3:=⟨by kernel_rfl⟩
end Go.Proofs.YtkdbkjjacgigiaaGreatDoor
namespace Go
structure CallM
def aH:CallM:=⟨⟩
theorem G5.Ints.vw{w:World}{v:Value}{l:aI}(h:G5.Ints w v l):type_of% (h.view Go.Proofs.Tryz.prog 25 3 Go.Proofs.Tryz.underlying25 Go.Proofs.YtkdbkjjacgigiaaGreatDoor.intElem):=h.view Go.Proofs.Tryz.prog 25 3 Go.Proofs.Tryz.underlying25 Go.Proofs.YtkdbkjjacgigiaaGreatDoor.intElem
instance:CoeFun CallM (fun _=>FuncId->Array Value->World->Value->Prop):=⟨fun _ f a w r=>Calls Go.Proofs.Tryz.prog f a w fun e w'=>e=.returned r/\RowKit.Below w.heap.size w w'⟩
end Go
end
namespace Go.Proofs.YtkdbkjjacgigiaaGreatDoor
section
open Go.RowKit Go.G5 Go.Proofs.Tryz
theorem cv1(w:World)(r:Nat)(hr:r<10):(convert 22 9 (aD (some ⟨w,0,none⟩) 1 1)).run prog (w.alloc (.cells #[.int .u8 (48+(r:Int))] 5))=.ok (.string ⟨#[UInt8.ofNat (48+r)]⟩) (w.alloc (.cells #[.int .u8 (48+(r:Int))] 5)):=by
 refine run_convert_bytes_back (P:=prog) _ 22 9 5 ⟨w,0,none⟩ 1 [UInt8.ofNat (48+r)] underlying22 underlying5 underlying9 ?_;intro j D;have z:j=0:=by simpa using D
 subst z;have h1:(UInt8.ofNat (48+r)).toNat=48+r:=by rw[UInt8.toNat_ofNat'];omega
 show(w.alloc _).cell? ⟨w,0,none⟩=some (.int .u8 ((UInt8.ofNat (48+r)).toNat:Int));rw[cR w _ _ 0 (.int .u8 (48+(r:Int))) rfl,h1]
 congr 2
theorem au1(r:Nat):UInt8.ofNat (48+r)=48+UInt8.ofNat r:=bF
theorem dA{a b:aB}(h:a=b):Ending.returned (aR a)=aQ (aR b):=by rw[h]
theorem afK:dB 0=⟨#[48]⟩:=by
 refine fQ ?_;show Lib.itoa 0=[48];unfold Lib.itoa;rw[if_neg bZ,Lib.decDigits];rfl
theorem aiL(k:Nat)(b:aB)(h:0<k)(hb:b.data.toList=mO k):dB (k:Int)=b:=by
 refine fQ ?_;rw[hb];show Lib.itoa (k:Int)=_;unfold Lib.itoa mO;rw[if_neg aA,if_neg aA,cA]
theorem aiK(k:Nat)(b:aB)(h:0<k)(hb:b.data.toList=mO k):dB (-(k:Int))=⟨#[45]⟩++b:=by
 refine fQ ?_;rw[lX,hb];show Lib.itoa (-(k:Int))=[45]++_;unfold Lib.itoa mO;rw[if_pos aA,if_neg aA,Int.natAbs_neg,Int.natAbs_natCast];rfl
theorem anA(k:Nat)(h:k<10^20):(mO k).length<=20:=by
 unfold mO
 split
 .simp
 .exact uI 20 k h bZ
theorem ahP(j k:Nat)(b:aB)(z:0<j)(h:mO j++b.data.toList=mO k):mO (j/10)++((⟨#[UInt8.ofNat (48+j%10)]⟩:aB)++b).data.toList=mO k:=by
 rw[lX,<-h,UR j z,eY]
theorem YH(j k:Nat)(b:aB)(hk:k<10^20)(h:mO j++b.data.toList=mO k):b.size<=20:=by
 have h1:=anA k hk;rw[<-h,bN]at h1;rw[zK];omega
theorem tdm(m:Int):(Int.tmod m 10).natAbs=m.natAbs%10/\(Int.tdiv m 10).natAbs=m.natAbs/10/\(0<=m->0<=Int.tmod m 10/\0<=Int.tdiv m 10)/\(m<=0->Int.tmod m 10<=0/\Int.tdiv m 10<=0):=by
 rcases Int.le_total 0 m with h|h
 .obtain⟨k,rfl⟩:=cN h;have e1:Int.tmod (k:Int) 10=((k%10:Nat):Int):=by rw[Int.tmod_eq_emod_of_nonneg aA];rfl
  have e2:Int.tdiv (k:Int) 10=((k/10:Nat):Int):=by rw[Int.tdiv_eq_ediv_of_nonneg aA];rfl
  rw[e1,e2];refine⟨aA,aA,fun _=>⟨aA,aA⟩,fun h2=>?_⟩;have:k=0:=aA;subst this;simp
 .obtain⟨k,rfl⟩:∃k:Nat,m=-(k:Int):=⟨m.natAbs,aA⟩;have e1:Int.tmod (-(k:Int)) 10=-((k%10:Nat):Int):=by rw[Int.neg_tmod,Int.tmod_eq_emod_of_nonneg aA];rfl
  have e2:Int.tdiv (-(k:Int)) 10=-((k/10:Nat):Int):=by rw[Int.neg_tdiv,Int.tdiv_eq_ediv_of_nonneg aA];rfl
  rw[e1,e2];refine⟨aA,aA,fun h2=>?_,fun _=>⟨aA,aA⟩⟩;have:k=0:=aA;subst this;simp
theorem ai3{p:Prop}(h:p:=by
  obtain⟨d,b1⟩:=isB (Int.tmod m 10);obtain⟨q,b6⟩:=isB (Int.tdiv m 10);rw[b1,b6]at ht;obtain⟨t1,t2,t3,t4⟩:=ht;have z:=ahP m.natAbs n.natAbs b aA Y.out;rw[<-t1,<-t2]at z;have M:fM q:=by have:=I.1;have:=I.2;exact⟨aA,aA⟩
  have wq:IntKind.i64.wrap q=q:=by rw[oJ];have:=M.1;have:=M.2;omega
  have O:n<0->q<=0:=fun h=>(t4 (J h)).2;have R:0<n->0<=q:=fun h=>(t3 (K h)).2;have a7:d.natAbs<10:=aA;have c6:q.natAbs<m.natAbs:=aA;obtain⟨r,hr⟩:∃r:Nat,r=d.natAbs:=⟨_,rfl⟩;rw[<-hr]at z a7;rw[au1]at z;have HM:=aT z;have a1:=aT O;have a6:=aT R;have hu:(48+(r:Int))%256=48+r:=aA;have c9:IntKind.u8.wrap (48+(r:Int))=48+r:=by simp[IntKind.wrap,IntKind.bits,IntKind.signed];omega
  have c5:=cv1 wr r a7;have d0:IntKind.i64.wrap (48+(r:Int))=48+r:=dV;clear z O R Y J K t1 t2 t3 t4;by_cases b3:d<0
  .have c7:IntKind.i64.wrap (-d)=(r:Int):=dV;clear hr;go_wp2;go_roundw
   .exact⟨q,_,rfl,rfl,a1.out,a6.out,M,HM.out,B.alloc B.size _⟩
   exact aY
  .have b4:d=(r:Int):=aA;subst b4;clear hr b3;go_wp2;go_roundw
   .exact⟨q,_,rfl,rfl,a1.out,a6.out,M,HM.out,B.alloc B.size _⟩
   exact aY):p:=h
theorem iL(n:Int)(hn:fM n)(w:World):
  aH 8 #[n] w (aR (dB n)):=by
 have hk:n.natAbs<10^20:=by have:=hn.1;have:=hn.2;omega
 by_cases a8:n=0
 .subst a8;go_enter func8,ntmps8;go_wp2;go_ret;exact⟨dA afK.symm,bJ _ _⟩
 .have c8:(n==0)=false:=by simpa using a8
  by_cases N:n<0
  .have hlt:decide (n<0)=true:=bH N;go_enter func8,ntmps8;go_wp2_with fail;go_loopw [0,3] (fun Z sv wr=>∃(m:Int) (b:aB),Z=aO m/\sv=aR b/\(n<0->m<=0)/\(0<n->0<=m)/\fM m/\mO m.natAbs++b.data.toList=mO n.natAbs/\Below w w wr) (fun Z _ _=>(intOf Z).natAbs)
   .exact⟨n,⟨#[]⟩,rfl,rfl,fun h=>aA,fun h=>aA,hn,bF,bJ _ _⟩
   obtain⟨m,b,rfl,rfl,J,K,I,hd,B⟩:=hrel;have b0:=YH _ _ b hk hd;have Y:=aT hd;clear hd;by_cases F:m=0
   .subst F;have D:b.data.toList=mO n.natAbs:=by simpa[mO]using Y.out
    have S:=aT D;clear D Y J K I;go_wp2;go_ret;exact⟨dA ((congrArg dB (show n=-(n.natAbs:Int) from aA)).trans (aiK n.natAbs b aA S.out)).symm,B⟩
   .have ht:=tdm m;have b5:(m==0)=false:=by simpa using F
    exact ai3
  .have hlt:decide (n<0)=false:=bG N;go_enter func8,ntmps8;go_wp2_with fail;go_loopw [0,3] (fun Z sv wr=>∃(m:Int) (b:aB),Z=aO m/\sv=aR b/\(n<0->m<=0)/\(0<n->0<=m)/\fM m/\mO m.natAbs++b.data.toList=mO n.natAbs/\Below w w wr) (fun Z _ _=>(intOf Z).natAbs)
   .exact⟨n,⟨#[]⟩,rfl,rfl,fun h=>aA,fun h=>aA,hn,bF,bJ _ _⟩
   obtain⟨m,b,rfl,rfl,J,K,I,hd,B⟩:=hrel;have b0:=YH _ _ b hk hd;have Y:=aT hd;clear hd;by_cases F:m=0
   .subst F;have D:b.data.toList=mO n.natAbs:=by simpa[mO]using Y.out
    have S:=aT D;clear D Y J K I;go_wp2;go_ret;exact⟨dA ((congrArg dB (show n=(n.natAbs:Int) from aA)).trans (aiL n.natAbs b aA S.out)).symm,B⟩
   .have ht:=tdm m;have b5:(m==0)=false:=by simpa using F
    exact ai3
def jM(c:UInt8):List UInt8->List UInt8->List (List UInt8)
 |part,[]=>[part]
 |part,b::l=>if b=c then part::jM c [] l else jM c (part++[b]) l
def J6(l:List UInt8):ByteArray:=⟨l.toArray⟩
theorem tY(l:List UInt8):(J6 l).data.toList=l:=rfl
theorem OR(s:aB):J6 s.data.toList=s:=fQ rfl
def dK(c:UInt8)(s:ByteArray):List ByteArray:=(jM c [] s.data.toList).map J6
theorem CQ(c:UInt8)(part l:List UInt8):jM c part l≠[]:=by
 induction l generalizing part with
 |nil=>simp[jM]
 |cons b l ih=>
  rw[jM]
  split
  .simp
  .exact ih _
theorem ahM(c:UInt8):∀(l part:List UInt8),jM c part l=(part++(jM c [] l).headD [])::(jM c [] l).tail:=by
 intro l
 induction l with
 |nil=>intro part;simp[jM]
 |cons b l ih=>
  intro part;by_cases hb:b=c
  .rw[jM,if_pos hb,jM,if_pos hb];simp
  .rw[jM,if_neg hb,jM,if_neg hb,ih (part++[b]),ih ([]++[b])];simp
theorem afC(b c:UInt8)(l:List UInt8)(h:b≠c):Lib.index (b::l) [c]=if Lib.index l [c]==-1 then -1 else Lib.index l [c]+1:=by
 rw[Lib.index];have:([c]:List UInt8).isPrefixOf (b::l)=false:=by simp[List.isPrefixOf];exact fun e=>h e.symm
 rw[if_neg (by rw[this];simp)]
theorem aiG(c:UInt8)(l:List UInt8):Lib.index (c::l) [c]=0:=by
 rw[Lib.index,if_pos (by simp[List.isPrefixOf])]
theorem amB(c:UInt8):∀s:List UInt8,Lib.splitK [c] 0 (Lib.count s [c]) s=jM c [] s:=by
 intro s
 induction s with
 |nil=>rfl
 |cons b l ih=>
  by_cases hb:b=c
  .subst hb;rw[Lib.count_cons_eq,Nat.add_comm 1,Lib.splitK,aiG,if_neg bZ,jM,if_pos rfl];rw[<-ih]
   rfl
  .rw[Lib.count_cons_ne b c l hb,jM,if_neg hb,ahM,<-ih];by_cases K:Lib.index l [c]=-1
   .have I:Lib.count l [c]=0:=Lib.count_miss K;rw[I]
    rfl
   .have J:=Lib.index_ge l [c];obtain⟨i,z⟩:∃i:Nat,Lib.index l [c]=(i:Int):=cN aA;have hc:=Lib.count_hit (s:=l) (sub:=[c]) (i:=i) bF z;rw[hc,Nat.add_comm 1];rw[Lib.splitK,Lib.splitK,afC b c l hb,z];have D:(((i:Nat):Int)==-1)=false:=by rw[dZ];omega
    have F:(((i:Nat):Int)+1==-1)=false:=by rw[dZ];omega
    simp only[D,F,Bool.false_eq_true,if_false];have e1:((i:Int)+1).toNat=i+1:=aA;have e2:((i:Nat):Int).toNat=i:=aA;rw[e1,e2];simp
theorem RU(c:UInt8)(s:aB):Lib.splitB ⟨#[c]⟩ 0 (Lib.countB s ⟨#[c]⟩) s=dK c s:=by
 have h:=Lib.splitB_data ⟨#[c]⟩ 0 (Lib.countB s ⟨#[c]⟩) s;have h2:Lib.splitK (⟨#[c]⟩:aB).data.toList 0 (Lib.countB s ⟨#[c]⟩) s.data.toList=jM c [] s.data.toList:=amB c s.data.toList;rw[h2]at h;unfold dK;rw[<-h,List.map_map];refine(List.map_id _).symm.trans ?_;exact List.map_congr_left fun x _=>(OR x).symm
theorem am7(c:UInt8):∀(l part:List UInt8),(jM c part l).length<=l.length+1:=by
 intro l
 induction l with
 |nil=>intro part;simp[jM]
 |cons b l ih=>
  intro part;rw[jM]
  split
  .have:=ih [];simp;omega
  .have:=ih (part++[b]);simp;omega
theorem xP(c:UInt8)(s:aB):(dK c s).length<=s.size+1:=by
 unfold dK;rw[List.length_map];have:=am7 c s.data.toList [];rw[Lib.size_eq];exact this
theorem adH(c:UInt8)(s:aB):dK c s≠[]:=by
 unfold dK;intro h;exact CQ c [] _ (List.map_eq_nil_iff.1 h)
theorem ahO(c:UInt8):∀(l part:List UInt8),∀x∈jM c part l,x.length<=part.length+l.length:=by
 intro l
 induction l with
 |nil=>intro part x z;simp[jM]at z;subst z;simp
 |cons b l ih=>
  intro part x z;rw[jM]at z
  split at z
  .rcases fK.1 z with rfl|z
   .simp
   .have:=ih [] x z;simp at this |-;omega
  .have:=ih (part++[b]) x z;simp at this |-;omega
theorem pJ(c:UInt8)(s:aB):∀x∈dK c s,x.size<=s.size:=by
 intro x z;obtain⟨l,hl,rfl⟩:=List.mem_map.1 z;have:=ahO c _ [] l hl;rw[Lib.size_eq,Lib.size_eq,tY];simpa using this
def rR(c:UInt8)(s:ByteArray)(z:List ByteArray)(j:Nat)(P:ByteArray)(k:Nat):Prop:=
 z.drop j=(jM c P.data.toList (s.data.toList.drop k)).map J6/\k<=s.size/\P.size<=k
theorem MY(c:UInt8)(s:aB):rR c s (dK c s) 0 aN 0:=⟨rfl,aZ _,aZ _⟩
theorem II(s:aB)(k:Nat)(h:k<s.size):s.data.toList.drop k=s[k]::s.data.toList.drop (k+1):=by
 rw[List.drop_eq_getElem_cons (by simpa using h)];rfl
theorem Z9(P s:aB)(k:Nat)(h:k<s.size):(P++s.extract k (k+1)).data.toList=P.data.toList++[s[k]]:=by
 rw[lX,Lib.extract_data,II s k h]
 congr 1
 rw[show k+1-k=1 from aA]
 rfl
theorem DM(P s:aB)(k:Nat)(h:k<s.size):(P++s.extract k (k+1)).size=P.size+1:=by
 rw[Lib.size_eq,Z9 P s k h,Lib.size_eq];simp
theorem CF{c:UInt8}{s:aB}{D:List aB}{j:Nat}{P:aB}{k:Nat}(h:rR c s D j P k)(hlt:k<s.size)(z:s[k]≠c):rR c s D j (P++s.extract k (k+1)) (k+1):=by
 obtain⟨h1,_,h3⟩:=h;refine⟨?_,hlt,by rw[DM P s k hlt];omega⟩;rw[h1,II s k hlt,jM,if_neg z,Z9 P s k hlt]
theorem US{z:List aB}{j:Nat}{x:aB}{r:List aB}(h:z.drop j=x::r):j<z/\z.getD j aN=x/\z.drop (j+1)=r:=by
 have D:j<z:=by have:=congrArg List.length h;rw[List.length_drop]at this;simp at this;omega
 rw[List.drop_eq_getElem_cons D]at h;injection h with h1 h2;exact⟨D,by rw[bR,cG D];exact h1,h2⟩
theorem AX{c:UInt8}{s:aB}{z:List aB}{j:Nat}{P:aB}{k:Nat}(h:rR c s z j P k)(hlt:k<s.size)(D:s[k]=c):j<z/\z.getD j aN=P/\rR c s z (j+1) aN (k+1):=by
 obtain⟨h1,_,_⟩:=h;rw[II s k hlt,jM,if_pos D,List.map_cons]at h1;obtain⟨a,b,d⟩:=US h1;exact⟨a,by rw[b];exact OR P,d,hlt,aZ _⟩
theorem AY{c:UInt8}{s:aB}{z:List aB}{j:Nat}{P:aB}{k:Nat}(h:rR c s z j P k)(hk:¬k<s.size):j<z/\z.getD j aN=P/\j+1=z.length:=by
 obtain⟨h1,_,_⟩:=h;have e:s.data.toList.drop k=[]:=List.drop_eq_nil_of_le (by rw[<-Lib.size_eq];omega);rw[e,jM,List.map_cons,List.map_nil]at h1;obtain⟨a,b,d⟩:=US h1;have:=List.drop_eq_nil_iff.1 d;exact⟨a,by rw[b];exact OR P,aA⟩
def mD(b:UInt8):Bool:=decide (48<=b.toNat)&&decide (b.toNat<=57)
def rQ(n:Nat)(b:UInt8):Nat:=if mD b then n*10+(b.toNat-48) else n
def lS(l:List UInt8):Nat:=l.foldl rQ 0
def lQ(l:List UInt8):Nat:=l.countP mD
theorem MK(l:List UInt8)(b:UInt8):lS (l++[b])=rQ (lS l) b:=by unfold lS;rw[List.foldl_append];rfl
theorem ahL(l:List UInt8)(b:UInt8):lQ (l++[b])=lQ l+if mD b then 1 else 0:=by
 unfold lQ;rw[List.countP_append];simp[List.countP_cons]
theorem asA:∀(l:List UInt8) (n k:Nat),n<10^k->l.foldl rQ n<10^(k+lQ l):=by
 intro l
 induction l with
 |nil=>intro n k h;simpa[lQ]using h
 |cons b l ih=>
  intro n k h;rw[List.foldl_cons];unfold lQ;rw[List.countP_cons]
  cases hd:mD b with
  |false=>
   have:=ih n k h;have e:rQ n b=n:=by unfold rQ;rw[hd];rfl
   rw[e];simpa[lQ]using this
  |true=>
   have z:=hd;unfold mD at z;simp at z;have:=ih (n*10+(b.toNat-48)) (k+1) (by rw[Nat.pow_succ];omega);rw[show k+1+lQ l=k+(lQ l+1) from aA]at this;have e:rQ n b=n*10+(b.toNat-48):=by unfold rQ;rw[hd];rfl
   rw[e];simpa[lQ]using this
theorem CW(l:List UInt8)(k:Nat)(h:lQ l<=k):lS l<10^k:=by
 have h1:=asA l 0 0 bZ;rw[Nat.zero_add]at h1;exact dX h1 (bQ bZ h)
theorem asT(r:Nat)(h:r<10):mD (UInt8.ofNat (48+r))=true/\(UInt8.ofNat (48+r)).toNat=48+r:=by
 have:∀r,r<10->mD (UInt8.ofNat (48+r))=true/\(UInt8.ofNat (48+r)).toNat=48+r:=bZ;exact this r h
theorem am9:∀(m u:Nat),u<=m->(∀b∈mO u,mD b=true)/\lS (mO u)=u:=by
 intro m
 induction m with
 |zero=>intro u D;have:u=0:=aA;subst this;exact⟨by simp[mO],rfl⟩
 |succ m ih=>
  intro u D;by_cases z:u=0
  .subst z;exact⟨by simp[mO],rfl⟩
  .have hd:=UR u aA;obtain⟨h1,h2⟩:=ih (u/10) aA;obtain⟨h3,h4⟩:=asT (u%10) aA;rw[hd];refine⟨fun b hb=>?_,?_⟩
   .rcases dM.1 hb with hb|hb
    .exact h1 b hb
    .rw[eM]at hb;subst hb;exact h3
   .rw[MK,h2];unfold rQ;rw[if_pos h3,h4];omega
theorem adI(u:Nat):(∀b∈Lib.decDigits u,mD b=true)/\lS (Lib.decDigits u)=u:=by
 by_cases z:u=0
 .subst z;have e:Lib.decDigits 0=[48]:=by rw[Lib.decDigits];rfl
  rw[e];exact⟨bZ,bZ⟩
 .have:=am9 u u aU;unfold mO at this;rw[if_neg z]at this;exact this
def zH(s:ByteArray):Bool:=s.data.toList.headD 0==45
def pN(s:ByteArray):Int:=if zH s then -(lS s.data.toList:Int) else (lS s.data.toList:Int)
def pB(s:ByteArray):Bool:=decide (dB (pN s)=s)&&(decide (-999999999<=pN s)&&decide (pN s<=999999999))
def pV(s:ByteArray):Int:=if pB s then pN s else 0
theorem DP{s:aB}(h:pB s=true):pV s=pN s:=by unfold pV;rw[if_pos h]
theorem wE{s:aB}(h:pB s=false):pV s=0:=by unfold pV;rw[h];rfl
theorem gH{a b:Int}{x y:Bool}(h:a=b)(k:x=y):Ending.returned (aS #[a,aG x])=aQ (aS #[b,aG y]):=by rw[h,k]
theorem agS(l:List UInt8):lS (45::l)=lS l:=by unfold lS;rfl
theorem aiM(n:Int):(dB n).data.toList=if n<0 then 45::Lib.decDigits n.natAbs else Lib.decDigits n.natAbs:=by
 show Lib.itoa n=_;unfold Lib.itoa
 split
 .rfl
 .rename_i h;rw[show n.toNat=n.natAbs from aA]
theorem am8(u:Nat):(Lib.decDigits u).headD 0≠45:=by
 have h:=(adI u).1;have z:=C4 u
 cases hd:Lib.decDigits u with
 |nil=>exact absurd hd z
 |cons b l=>
  rw[hd]at h;have:=h b bF;intro e;simp at e;subst e
  revert this;decide
theorem af3{s:aB}(h:pB s=true):dB (pN s)=s/\-999999999<=pN s/\pN s<=999999999:=by
 unfold pB at h;simpa using h
def fN(n D z:Int):Bool:=decide (D<=n)&&decide (n<=z)
theorem eW{n D z:Int}:fN n D z=true↔D<=n/\n<=z:=by simp[fN]
theorem aiF{n D z:Int}:fN n D z=false↔n<D\/z<n:=by
 unfold fN;by_cases h1:D<=n<;>by_cases h2:n<=z<;>simp[h1,h2]<;>omega
theorem kD(n z D:Int)(w:World):
  Calls prog 144 #[n,z,D] w fun e w'=>e=aQ (aG (fN n z D))/\w=w':=by
 unfold fN;by_cases h1:z<=n
 .go_enter func144,ntmps144;go_wp2;go_ret;exact⟨by simp[h1],rfl⟩
 .have h2:decide (z<=n)=false:=by simpa using h1
  go_enter func144,ntmps144;go_wp2;go_ret;exact⟨cP bF,rfl⟩
theorem eH(n z D:Int)(w:World):
  Calls prog 77 #[n,z,D] w fun e w'=>e=aQ (aG (fN n z D))/\w=w':=by
 unfold fN;by_cases h1:z<=n
 .go_enter func77,ntmps77;go_wp2;go_ret;exact⟨by simp[h1],rfl⟩
 .have h2:decide (z<=n)=false:=by simpa using h1
  go_enter func77,ntmps77;go_wp2;go_ret;exact⟨cP bF,rfl⟩
def kA:Nat->Nat
 |0=>1
 |n+1=>(n+1)*kA n
theorem UX(a b:Nat)(h:a<=b):kA a<=kA b:=by
 induction b with
 |zero=>have:a=0:=aA;subst this;exact aU
 |succ b ih=>
  by_cases hb:a<=b
  .have:=ih hb
   calc kA a<=kA b:=this
    _<=(b+1)*kA b:=Nat.le_mul_of_pos_left _ aA
  .have:a=b+1:=aA;subst this;exact aU
def yM(n:Int):Int:=if fN n 0 12 then kA n.toNat else -1
theorem aqR:kA 12=479001600:=bZ
theorem adL(k:Nat)(h:k<=12):kA k<=479001600:=aqR▸UX k 12 h
theorem UW(n:Int)(w:World):
  Calls prog 95 #[n] w fun e w'=>e=aQ (yM n)/\w=w':=by
 cases z:fN n 0 12 with
 |false=>
  have F:yM n=-1:=by unfold yM;rw[z];rfl
  go_enter func95,ntmps95;go_wp2_with (go_at_call 77;refine aV (eH _ _ _ _) ?_;rintro w' rfl);go_ret;exact⟨jK F.symm,rfl⟩
 |true=>
  have hb:=eW.1 z;have h0:0<=n:=hb.1;have N:n<=12:=hb.2;have F:yM n=kA n.toNat:=by unfold yM;rw[z];rfl
  have K:=aT F;clear F hb;go_enter func95,ntmps95;go_wp2_with (go_at_call 77;refine aV (eH _ _ _ _) ?_;rintro w' rfl);go_loop [3,4] (fun p i=>∃k:Nat,1<=k/\k<=12/\(k:Int)<=max n 1/\i=aO (k+1)/\p=aO (kA k)) (fun _ i=>14-(intOf i).toNat)
  .exact⟨1,aA,aA,aA,rfl,rfl⟩
  obtain⟨k,S,D,Y,rfl,rfl⟩:=hrel;have O:=adL k D;by_cases hlt:(k:Int)+1<=n
  .have J:kA (k+1)=(k+1)*kA k:=rfl;have I:=adL (k+1) aA;have hm:(kA k:Int)*(k+1)=kA (k+1):=by rw[J];push_cast;exact Int.mul_comm _ _
   have Z:(kA k:Int)*(k+1)<=479001600:=by rw[hm];omega
   have R:0<=(kA k:Int)*(k+1):=by rw[hm];omega
   have M:=aT hm;clear J hm;go_wp2;go_round
   .exact⟨k+1,aA,aA,aA,cD,by rw[M.out]⟩
   exact aY
  .go_wp2;go_ret;refine⟨jK ?_,rfl⟩;rw[K.out];by_cases h1:1<=n
   .rw[show n.toNat=k from aA]
   .have:n.toNat=0:=aA;rw[this,show k=1 from aA];rfl
def YZ(n:Nat):Int:=match n with
 |0=>0
 |n+1=>YZ n+60/((n:Int)+1)
def jO(k:Int):ByteArray:=
 if k=1 then ⟨#[109,105,110,105,109,117,109]⟩ else if k=2 then ⟨#[118,105,111,108,97,116,105,111,110]⟩ else if k=3 then ⟨#[98,97,115,101]⟩
 else if k=4 then ⟨#[99,111,109,109,111,110]⟩ else if k=5 then ⟨#[99,117,116]⟩ else if k=6 then ⟨#[115,117,110,102,108,111,119,101,114]⟩ else if k=7 then ⟨#[104,97,108,108]⟩ else ⟨#[]⟩
theorem SK(k:Int)(w:World):
  aH 282 #[k] w (aR (jO k)):=by
 by_cases hk:1<=k/\k<=7
 .rcases(show k=1\/k=2\/k=3\/k=4\/k=5\/k=6\/k=7 from aA) with rfl|rfl|rfl|rfl|rfl|rfl|rfl
  all_goals
   go_enter func282,ntmps282;go_wp2;go_ret;exact⟨rfl,bJ _ _⟩
 .have h1:(k==1)=false:=bO;have h2:(k==2)=false:=bO;have h3:(k==3)=false:=bO;have h4:(k==4)=false:=bO;have D:(k==5)=false:=bO;have F:(k==6)=false:=bO;have I:(k==7)=false:=bO;have hw:jO k=⟨#[]⟩:=by unfold jO;rw[if_neg aA,if_neg aA,if_neg aA,if_neg aA,if_neg aA,if_neg aA,if_neg aA]
  have z:=aT hw;clear hw;go_enter func282,ntmps282;go_wp2;go_ret;exact⟨by rw[z.out];rfl,bJ _ _⟩
theorem SL(k:Int)(w:World):
  aH 31 #[k] w (aR (jO k)):=by
 by_cases hk:1<=k/\k<=7
 .rcases(show k=1\/k=2\/k=3\/k=4\/k=5\/k=6\/k=7 from aA) with rfl|rfl|rfl|rfl|rfl|rfl|rfl
  all_goals
   go_enter func31,ntmps31;go_wp2_with (go_at_call 77;refine aV (eH _ _ _ _) ?_;rintro w' rfl);go_ret;exact⟨rfl,cQ _ _⟩
 .have D:fN k 1 7=false:=aiF.2 aA;have hw:jO k=⟨#[]⟩:=by unfold jO;rw[if_neg aA,if_neg aA,if_neg aA,if_neg aA,if_neg aA,if_neg aA,if_neg aA]
  have z:=aT hw;clear hw;go_enter func31,ntmps31;go_wp2_with (go_at_call 77;refine aV (eH _ _ _ _) ?_;rintro w' rfl);go_ret;exact⟨by rw[z.out];rfl,bJ _ _⟩
theorem WA(n:Int)(z:0<=n)(D:n<2^62):IntKind.i64.wrap n=n:=dV
theorem PS(a b:Nat)(z:a<2^62)(hb:b<2^62):bits .and .i64 (a:Int) (b:Int)=((a &&& b:Nat):Int):=(bits_nat .i64 62 bZ WA a b z hb).1
theorem PT(a b:Nat)(z:a<2^62)(hb:b<2^62):bits .or .i64 (a:Int) (b:Int)=((a ||| b:Nat):Int):=(bits_nat .i64 62 bZ WA a b z hb).2
theorem XN(a:Nat)(z:a<2^62):bits .and .i64 (a:Int) 1=((a%2:Nat):Int):=by
 have:=PS a 1 z bZ;rw[Nat.and_one_is_mod]at this;exact this
def dY(a b:Nat):Nat:=a-(a &&& b)
theorem AK(a b:Nat)(z:a<64)(hb:b<64):bits .andNot .i64 (a:Int) (b:Int)=((dY a b:Nat):Int):=by
 have h:∀a,a<64->∀b,b<64->bits .andNot .i64 ((a:Nat):Int) ((b:Nat):Int)=((dY a b:Nat):Int):=dS;exact h a z b hb
theorem arB(a b:Nat)(z:a<64)(hb:b<64):a ||| b<64:=Nat.or_lt_two_pow (n:=6) z hb
theorem zS(a b n:Nat)(z:a<n):dY a b<n:=by unfold dY;omega
theorem dW(n m:Nat)(h:n<=m):(2:Int)^n<=2^m/\0<(2:Int)^n:=by
 constructor
 .have:=bQ (show 0<2 from bZ) h
  exact_mod_cast this
 .have:=dJ n
  exact_mod_cast this
def dG(n:Nat):Nat:=(List.range 64).foldl (fun a i=>a+(n >>> i)%2) 0
theorem af1(n:Nat)(w:World)(h:n<256):
  Calls prog 349 #[.int .u64 n] w fun e w'=>e=aQ (dG n)/\w=w':=by
 go_enter func349,ntmps349;go_wp2;go_ret;refine⟨jK ?_,rfl⟩;clear w
 revert n
 decide +kernel
theorem aoM(n:Nat)(w:World)(h:n<256):
  Calls prog 296 #[.int .u64 n] w fun e w'=>e=aQ (dG n)/\w=w':=by
 go_enter func296,ntmps296;go_wp2_with (go_at_call 349;refine aV (af1 n _ h) ?_;rintro w' rfl);go_ret;exact⟨rfl,rfl⟩
theorem jF(n:Nat)(w:World)(h:n<256):
  Calls prog 214 #[n] w fun e w'=>e=aQ (dG n)/\w=w':=by
 go_enter func214,ntmps214;go_wp2_with (go_at_call 296;refine aV (aoM n _ h) ?_;rintro w' rfl);go_ret;exact⟨rfl,rfl⟩
theorem aoW(n:Nat)(h:n<256):dG n=n%2+dG (n/2):=by
 revert n;decide +kernel
theorem PD:dG 0=0:=dS
theorem xC(n:Nat)(h:n<256):dG n<=8:=by
 revert n;decide +kernel
theorem fZ(n:Nat)(w:World)(h:n<=40):
  Calls prog 78 #[n] w fun e w'=>e=aQ (aO (2^n-1))/\w=w':=by
 have h2:=dW n 40 h;have h3:=h2.1;have h4:=h2.2;simp at h3;clear h2;go_enter func78,ntmps78;go_wp2;go_ret;exact⟨rfl,rfl⟩
theorem iE(n:Nat)(w:World)(h:n<256):
  Calls prog 84 #[n] w fun e w'=>e=aQ (dG n)/\w=w':=by
 go_enter func84,ntmps84;go_wp2;go_loop [3,4] (fun s x=>∃k q:Nat,k<256/\q+dG k=dG n/\s=aO q/\x=aO k) (fun _ x=>(intOf x).toNat)
 .exact⟨n,0,h,aA,rfl,rfl⟩
 obtain⟨k,q,hk,z,rfl,rfl⟩:=hrel;have D:=aoW k hk;have K:=xC n h;have hb:=XN k aA;have I:q<=8:=aA;have hm:k%2<2:=aA;have H:=aT z;have F:=aT D;clear D z;by_cases J:0<k
 .go_wp2
  go_round
  .exact⟨k/2,q+k%2,aA,by have:=H.out;have:=F.out;omega,cD,cD⟩
  exact aY
 .go_wp2;go_ret;refine⟨jK ?_,rfl⟩;have h1:=H.out;have h2:k=0:=aA;rw[h2,PD]at h1;omega
