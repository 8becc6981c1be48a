/- Lemmas for CardConsoleResults. No condition. -/
import Derived.Lib.ItoaNum
import Derived.Lib.Join
import Derived.Lib.SmallJoins
import Derived.WalkSpells
import Derived.Lib.Hide
import Derived.BigQuiet
set_option maxRecDepth 100000
set_option maxHeartbeats 64000000
section
namespace Go.G5
open Go
theorem dO{a b:ByteArray}(h:a.data.toList=b.data.toList):a=b:=by
 cases a;cases b;congr 1;exact Array.toList_inj.1 h
theorem jL(a b:ByteArray):(a++b).data.toList=a.data.toList++b.data.toList:=by rw[ByteArray.data_append,Array.toList_append]
theorem wM(a:ByteArray):a.size=a.data.toList.length:=Lib.size_eq a
theorem ap4{a:ByteArray}:a.size=0↔a=ByteArray.empty:=by
 constructor
 ·intro h
  rw[wM]at h;exact dO (by rw[List.eq_nil_of_length_eq_zero h];rfl)
 ·rintro rfl;rfl
def aX(n:Int):ByteArray:=⟨(Lib.itoa n).toArray⟩
def bR(z:ByteArray)(D:List ByteArray):ByteArray:=⟨(Lib.join (D.map (·.data.toList)) z.data.toList).toArray⟩
theorem agD(z:ByteArray):bR z []=ByteArray.empty:=rfl
theorem jD(z x:ByteArray):bR z [x]=x:=dO (by
 show Lib.join [x.data.toList] z.data.toList=_;rw[Lib.join_one])
theorem IN(z:List UInt8)(r s:List (List UInt8)):Lib.joinTail z (r++s)=Lib.joinTail z r++Lib.joinTail z s:=by
 simp[Lib.joinTail]
theorem zM(z:ByteArray)(D:List ByteArray)(y:ByteArray)(h:D≠[]):bR z (D++[y])=bR z D++z++y:=by
 cases D with
 |nil=>exact absurd rfl h
 |cons x r=>
  refine dO ?_;rw[jL,jL];show Lib.join ((x::(r++[y])).map (·.data.toList)) z.data.toList=Lib.join ((x::r).map (·.data.toList)) z.data.toList++z.data.toList++y.data.toList;rw[List.map_cons,List.map_cons,Lib.join_cons,Lib.join_cons,List.map_append,IN];simp[Lib.joinTail,List.append_assoc]
theorem vS(D:ByteArray)(m:Nat):∀(I:List ByteArray),(∀x∈I,x.size<=m)->(bR D I).size<=I.length*(m+D.size)
 |[],_=>by simp[agD]
 |x::r,h=>by
  have h1:=h x (by simp);have h2:Lib.lens (r.map (·.data.toList))<=r.length*m:=by
   have:∀(s:List ByteArray),(∀x∈s,x.size<=m)->Lib.lens (s.map (·.data.toList))<=s.length*m:=by
    intro s J
    induction s with
    |nil=>simp[Lib.lens]
    |cons y s ih=>
     have a:=J y (by simp);have b:=ih (fun z F=>J z (by simp[F]));rw[wM]at a;simp only[Lib.lens,List.map_cons,List.sum_cons,List.length_cons]at b ⊢;rw[Nat.succ_mul];omega
   exact this r (fun z F=>h z (by simp[F]))
  rw[wM]at h1 ⊢;show(Lib.join ((x::r).map (·.data.toList)) D.data.toList).length<=_;rw[List.map_cons,Lib.join_cons,List.length_append,Lib.joinTail_length,List.length_map,List.length_cons,Nat.succ_mul,wM D,Nat.mul_add,Nat.mul_comm D.data.toList.length];omega
theorem WL(z:ByteArray)(x:ByteArray)(r:List ByteArray)(h:x≠ByteArray.empty):bR z (x::r)≠ByteArray.empty:=by
 intro e;have:=congrArg (fun a=>a.data.toList) e;have D:x.data.toList=[]:=by
  change Lib.join ((x::r).map (·.data.toList)) z.data.toList=[]at this
  rw[List.map_cons,Lib.join_cons]at this;exact(List.append_eq_nil_iff.1 this).1
 exact h (dO D)
theorem OA(z:ByteArray)(D:List ByteArray)(k:Nat)(h:k<D.length):bR z (D.take (k+1))=if k=0 then D[k] else bR z (D.take k)++z++D[k]:=by
 rw[List.take_succ_eq_append_getElem h]
 split
 ·rename_i F
  subst F;exact jD _ _
 ·rename_i F
  refine zM _ _ _ (fun e=>?_);have:=congrArg List.length e;rw[List.length_take,List.length_nil]at this;omega
def jZ(u:Nat):List UInt8:=if u=0 then [] else Lib.decDigits u
theorem RP(u:Nat)(h:0<u):jZ u=jZ (u/10)++[UInt8.ofNat (48+u%10)]:=by
 unfold jZ;rw[if_neg (show ¬u=0 by omega),Lib.decDigits]
 split
 ·rename_i h1
  rw[if_pos (show u/10=0 by omega),Nat.mod_eq_of_lt h1];rfl
 ·rename_i h1
  rw[if_neg (show ¬u/10=0 by omega)]
theorem rF:∀(k u:Nat),u<10^k->0<k->(Lib.decDigits u).length<=k
 |0,_,_,h=>by omega
 |k+1,u,h,_=>by
  rw[Lib.decDigits]
  split
  ·simp
  ·rename_i h1
   have:u/10<10^k:=by rw[Nat.pow_succ]at h;omega
   have hk:0<k:=by
    rcases Nat.eq_zero_or_pos k with rfl|h2
    ·simp at h;omega
    ·exact h2
   have:=rF k (u/10) this hk;simp;omega
theorem AE(u:Nat):Lib.decDigits u≠[]:=by
 rw[Lib.decDigits]
 split<;>simp
theorem cM(n:Int)(h:-9223372036854775808<=n/\n<=9223372036854775807):(aX n).size<=21:=by
 rw[wM];show(Lib.itoa n).length<=21;unfold Lib.itoa
 split
 ·have:=rF 20 n.natAbs (by omega) (by omega)
  simp;omega
 ·have:=rF 20 n.toNat (by omega) (by omega)
  omega
theorem WK(n:Int):aX n≠ByteArray.empty:=by
 intro e;have h:Lib.itoa n=[]:=congrArg (fun a=>a.data.toList) e;unfold Lib.itoa at h
 split at h
 ·cases h
 ·exact AE _ h
end Go.G5
end
section
namespace Go
instance:Coe Int Value:=⟨.int .i64⟩
instance:Coe Nat Value:=⟨fun n=>.int .i64 n⟩
instance:Coe Unit Value:=⟨fun _=>.slice none 0 0⟩
structure ZeroM
def aB:ZeroM:=⟨⟩
instance:Coe ZeroM Value:=⟨fun _=>.int .i64 0⟩
instance:Coe World Nat:=⟨fun w=>w.heap.size⟩
structure SliceM
def aA:SliceM:=⟨⟩
instance:CoeFun SliceM (fun _=>Option Addr->Nat->Nat->Value):=⟨fun _=>.slice⟩
structure IntM
def aG:IntM:=⟨⟩
instance:CoeFun IntM (fun _=>Int->Value):=⟨fun _=>.int .i64⟩
theorem aD{p:Prop}(h:p:=by omega):p:=h
theorem asO{p:Prop}(h:p:=by intro e;have:=Option.some.inj e;omega):p:=h
theorem jI{p:Prop}(h:p:=by intro q e;have:=Option.some.inj e;omega):p:=h
theorem aO{p:Prop}(h:p:=by kernel_rfl):p:=h
theorem aQ{p:Prop}(h:p:=by decide):p:=h
theorem aT{p:Prop}(h:p:=by simp;omega):p:=h
theorem aI{n:Nat}:n<=n:=Nat.le_refl n
theorem aH{p:Prop}(h:p):RowKit.Hid p:=h
theorem aJ{α:Sort _}(a:α):∃b,b=a:=⟨a,rfl⟩
theorem isB{α:Sort _}(a:α):∃b,a=b:=⟨a,rfl⟩
end Go
namespace Go.RowKit
theorem Below.drewN'{B:Nat}{a w:World}(h:Below B a w)(n:Nat):Below B a (w.drewN n):=⟨h.os,h.tape,h.output,h.size,h.block⟩
theorem Below.after{B B':Nat}{a W w1:World}(h:Below B a W)(hb:Below B' W w1)(hB:B<=B'):Below B a w1:=h.trans (hb.mono hB)
end Go.RowKit
namespace Go.G5
open Go Go.RowKit
def dL(x:Int):Prop:=-9223372036854775808<=x/\x<=9223372036854775807
def aK(w:World)(v:Value)(l:List Int):Prop:=
 ∃a c,v=.slice a l.length c/\l.length<=c/\c<=maxLen/\(∀x∈l,dL x) /\
  (l=[]∨∃b z,a=some ⟨b,z,none⟩/\b<w.heap.size /\
   ∀k,(h:k<l.length)->w.cell? ⟨b,z+k,none⟩=some (.int .i64 l[k]))
structure IntElem (P:Program) (E:TypeId):Prop where
 info:(P.info? E).map (fun i=>(i.zero,i.size,i.bytes))=some (some (.int .i64 0),1,8)
theorem W6{p:Prop}(h:p:=by
  have h:=h.info
  cases z:P.info? E with
  |none=>rw[z]at h;simp at h
  |some i=>rw[z]at h;simp at h;exact⟨i,rfl,h.1,h.2.1,h.2.2⟩):p:=h
theorem IntElem.get{P:Program}{E:TypeId}(h:IntElem P E):∃i,P.info? E=some i/\i.zero=some (.int .i64 0)/\i.size=1/\i.bytes=8:=by
 exact W6
theorem aK.view{w:World}{v:Value}{l:List Int}(h:aK w v l)(P:Program)(T E:TypeId)(I:P.underlying T=some (.slice E))
  (K:IntElem P E):
  ∃a b z c,v=.slice a l.length c/\l.length<=9223372036854775807 /\
   (∀(w':World) (k:Nat),k<l.length->(Instr.indexAt T (.slice a l.length c) (.int .i64 (k:Int))).run P w'=.ok (.pointer (some ⟨b,z+k,none⟩)) w') /\
   (∀k,(h:k<l.length)->w.cell? ⟨b,z+k,none⟩=some (.int .i64 l[k]))/\(l≠[]->b<w.heap.size):=by
 obtain⟨a,c,rfl,h1,h2,h3,h4⟩:=h;have F:P.elem T=E:=by simp[Program.elem,I]
 obtain⟨i,J,_,D,_⟩:=K.get;rcases h4 with rfl|⟨b,z,rfl,hb,hc⟩
 ·exact⟨a,0,0,c,rfl,by simp,fun w' k hk=>by simp at hk,fun k hk=>by simp at hk,fun h=>absurd rfl h⟩
 ·refine⟨_,b,z,c,rfl,by unfold maxLen at h2;omega,fun w' k hk=>?_,hc,fun _=>hb⟩;rw[run_indexAt_slice w' T ⟨b,z,none⟩ l.length c .i64 k (by rw[F];exact I),if_pos ⟨by omega,by omega⟩,F];simp[sizeOf,typeInfo,J,D,Addr.add]
theorem ahF{p:Prop}(h:p:=by
  obtain⟨a,c,rfl,h1,h2,h3,h4⟩:=h;refine⟨a,c,rfl,h1,h2,h3,?_⟩;rcases h4 with rfl|⟨b,z,rfl,hlt,hc⟩
  ·exact .inl rfl
  ·refine .inr ⟨b,z,rfl,Nat.lt_of_lt_of_le hlt hb.size,fun k hk=>?_⟩
   rw[hb.cell (p:=⟨b,z+k,none⟩) (by show b<B;omega)];exact hc k hk):p:=h
theorem aK.below{B:Nat}{w w':World}{v:Value}{l:List Int}(h:aK w v l)(hb:Below B w w')(hB:w.heap.size<=B):aK w' v l:=by
 exact ahF
theorem aK.inR{w:World}{v:Value}{l:List Int}(h:aK w v l):∀x∈l,dL x:=h.choose_spec.choose_spec.2.2.2.1
def aM(E:TypeId)(B:Nat)(w:World)(v:Value)(l:List Int):Prop:=
 w.ownsRow B E 1 v l.length (l.map (Value.int .i64))/\∀x∈l,dL x
theorem aM.ints{E:TypeId}{B:Nat}{w:World}{v:Value}{l:List Int}(h:aM E B w v l):aK w v l:=by
 obtain⟨⟨K,h1⟩,h2⟩:=h;rcases h1 with⟨rfl,D⟩|⟨g,cap,F,rfl,hB,J,D,hm,I,ht⟩
 ·have:l=[]:=List.eq_nil_of_length_eq_zero D;subst this;exact⟨none,0,rfl,aI,Nat.zero_le _,by simp,.inl rfl⟩
 ·refine⟨_,cap,rfl,D,hm,h2,.inr ⟨g,0,rfl,(Array.getElem?_eq_some_iff.1 J).1,fun k hk=>?_⟩⟩;have z:w.ownsRow B E 1 (.slice (some ⟨g,0,none⟩) l.length cap) l.length (l.map (Value.int .i64)):=⟨K,.inr ⟨g,cap,F,rfl,hB,J,D,hm,I,ht⟩⟩;have:=z.cellAt k aD;rw[Nat.zero_add,this];simp[hk]
theorem aM.nil(E:TypeId)(B:Nat)(w:World):aM E B w (.slice none 0 0) []:=⟨World.ownsRow_nil _ _ _ _,by simp⟩
theorem aM.cases{E:TypeId}{B:Nat}{w:World}{v:Value}{l:List Int}(h:aM E B w v l):(v=.slice none 0 0/\l=[])∨∃g cap,v=.slice (some ⟨g,0,none⟩) l.length cap/\B<=g/\g<w.heap.size:=by
 rcases h.1.2 with⟨rfl,F⟩|⟨g,cap,z,rfl,hB,D,_⟩
 ·exact .inl ⟨rfl,List.eq_nil_of_length_eq_zero F⟩
 ·exact .inr ⟨g,cap,rfl,hB,(Array.getElem?_eq_some_iff.1 D).1⟩
theorem aM.lit0{E:TypeId}{B:Nat}(w:World)(hB:B<=w.heap.size):aM E B (w.alloc (.cells #[] E)) (.slice (some ⟨w.heap.size,0,none⟩) 0 0) []:=
 ⟨World.ownsRow_lit w #[] 0 hB (Nat.zero_le _) rfl,by simp⟩
theorem W3{p:Prop}(h:p:=by
  rcases h1 with h1|⟨g,cap,D,rfl,F,J,r⟩
  ·exact .inl h1
  ·exact .inr ⟨g,cap,D,rfl,F,by rw[hb.block g (by have:=(Array.getElem?_eq_some_iff.1 J).1;omega)];exact J,r⟩):p:=h
theorem aM.below{E:TypeId}{B B':Nat}{w w':World}{v:Value}{l:List Int}(h:aM E B w v l)(hb:Below B' w w')(hB:w.heap.size<=B'):aM E B w' v l:=by
 obtain⟨⟨z,h1⟩,h2⟩:=h;refine⟨⟨z,?_⟩,h2⟩;exact W3
theorem aM.lt{E:TypeId}{B:Nat}{w:World}{v:Value}{l:List Int}(h:aM E B w v l):∀k,v.ownBlock=some k->B<=k/\k<w.heap.size:=h.1.lt
theorem aM.mono{E:TypeId}{B B':Nat}{w:World}{v:Value}{l:List Int}(h:aM E B w v l)(hB:B'<=B):aM E B' w v l:=by
 obtain⟨⟨D,h1⟩,h2⟩:=h;refine⟨⟨D,?_⟩,h2⟩;rcases h1 with h1|⟨g,cap,z,rfl,F,r⟩
 ·exact .inl h1
 ·exact .inr ⟨g,cap,z,rfl,by omega,r⟩
theorem aM.grown{E:TypeId}{B:Nat}{w w':World}{row:Option Nat}{v:Value}{l:List Int}(h:aM E B w v l)(D:w.grownBy w' row)(z:v.ownBlock=none∨v.ownBlock≠row):aM E B w' v l:=
 ⟨h.1.kept D z,h.2⟩
theorem aM.alloc{E:TypeId}{B:Nat}{w:World}{v:Value}{l:List Int}(h:aM E B w v l)(o:Obj):aM E B (w.alloc o) v l:=⟨h.1.alloc o,h.2⟩
theorem dA{P:Program}{w:World}{ops:Array Oper}{rest:List Oper}{o:Oper}{a:Act}{Q:Exit->Act->World->Prop}(M:o.guard=none)(s x:Operand)(t:TypeId)
  (ho:o.op=.call { callee:=.builtin .append,args:=#[s,x],argTypes:=#[t,t] })
  (E:TypeId) (ht:P.underlying t=some (.slice E)) (Y:IntElem P E) (B:Nat) (v:Value) (l:List Int) (y:Int) (b:Nat) (hs:a.eval s=v) (hx:a.eval x=.slice (some ⟨b,0,none⟩) 1 1)
  (hy:w.cell? ⟨b,0,none⟩=some (.int .i64 y))
  (F:aM E B w v l) (N:dL y) (O:l.length<17592186044416) (hB:B<=w.heap.size)
  (h:∀K w',aM E B w' K (l++[y])->w.grownBy w' v.ownBlock->wpList P ops Q rest (a.put o.dst K) w'):wpList P ops Q (o::rest) a w:=by
 obtain⟨i,hi,hz,h1,S⟩:=Y.get;refine wpList_append_own w M s x t ho B E i (.int .i64 0) 1 8 ht hi hz h1 S rfl aQ v l.length (l.map (Value.int .i64)) hs F.1 ⟨b,0,none⟩ 1 1 [.int .i64 y] hx rfl ?_ ?_ ?_ ?_ hB ?_
 ·intro j u J
  match j,J with
  |0,J=>simp at J;subst J;simpa[Addr.add]using hy
  |j+1,J=>simp at J
 ·intro u R;simp at R;subst R;rfl
 ·unfold maxLen;omega
 ·omega
 ·intro K w' I Z _;refine h K w' ⟨?_,?_⟩ Z
  ·simpa using I
  ·intro z D;rcases List.mem_append.1 D with D|D
   ·exact F.2 z D
   ·simp at D;subst D;exact N
theorem kZ{P:Program}{w:World}{ops:Array Oper}{rest:List Oper}{o:Oper}{a:Act}{Q:Exit->Act->World->Prop}
  (N:o.guard=none) (x c:Operand) (t:TypeId) (F:o.op=Op.makeSlice t x c)
  (E:TypeId) (ht:P.underlying t=some (.slice E)) (J:IntElem P E) (n:Nat) (L C:Int) (hl:a.eval x=.int .i64 L) (hc:a.eval c=.int .i64 C) (M:L=(n:Int)) (hC:C=(n:Int)) (Y:n<=17592186044416)
  (K:∀w',aM E w.heap.size w' (.slice (some ⟨w.heap.size,0,none⟩) n n) (List.replicate n 0)->w.grownBy w' none->wpList P ops Q rest (a.put o.dst (.slice (some ⟨w.heap.size,0,none⟩) n n)) w'):
  wpList P ops Q (o::rest) a w:=by
 obtain⟨i,O,S,h1,I⟩:=J.get;refine wpList_make_full w N x c t F w.heap.size E i (.int .i64 0) 1 ht O S h1 .i64 .i64 L C n hl hc M hC (by rw[I];omega) (by unfold maxLen;omega) aI ?_;intro w' z D;refine K w' ⟨?_,by intro y R;have:=List.eq_of_mem_replicate R;subst this;exact⟨by omega,by omega⟩⟩ D;have e:(madeCells (Value.int IntKind.i64 0).cells (n*1)).toList=(List.replicate n (0:Int)).map (Value.int .i64):=by rw[show(Value.int IntKind.i64 0).cells=#[Value.int .i64 0] from rfl,toList_madeCells_one];simp
 rw[e]at z;simpa using z
theorem aM.stored{E:TypeId}{B:Nat}{w:World}{g n cap:Nat}{l:List Int}(h:aM E B w (.slice (some ⟨g,0,none⟩) n cap) l)(F:n=l.length)(j:Nat)(y:Int)(I:dL y):
  aM E B (w.setCell ⟨g,j,none⟩ (.int .i64 y)) (.slice (some ⟨g,0,none⟩) n cap) (l.set j y)/\w.grownBy (w.setCell ⟨g,j,none⟩ (.int .i64 y)) (some g):=by
 subst F;have:=h.1.stored j (.int .i64 y);refine⟨⟨?_,?_⟩,this.2⟩
 ·simpa[List.map_set]using this.1
 ·intro z D;rcases List.mem_or_eq_of_mem_set D with D|D
  ·exact h.2 z D
  ·subst D;exact I
theorem aM.cellAt{E:TypeId}{B:Nat}{w:World}{g n cap:Nat}{l:List Int}(h:aM E B w (.slice (some ⟨g,0,none⟩) n cap) l)(D:n=l.length)(j:Nat)(z:j<l.length):
  w.cell? ⟨g,j,none⟩=some (.int .i64 l[j]):=by
 subst D;rw[h.1.cellAt j aD];simp[z]
theorem aM.frozenAt{E:TypeId}{B:Nat}{w:World}{g n cap:Nat}{l:List Int}(h:aM E B w (.slice (some ⟨g,0,none⟩) n cap) l)(z:n=l.length)(j:Nat):w.frozen? ⟨g,j,none⟩=false:=by
 subst z;exact h.1.frozenAt j
theorem ZF{B:Nat}{a w w':World}{row:Option Nat}(h:Below B a w)(z:w.grownBy w' row)(hB:B<=w.heap.size)(hr:∀k,row=some k->B<=k):Below B a w':=h.grown z hB hr
theorem gN{B:Nat}{W w1:World}(hb:Below B W w1)(n:Nat)(h:n<=B):(∀b o,b<n->w1.cell? ⟨b,o,none⟩=W.cell? ⟨b,o,none⟩)/\(∀b o,b<n->w1.frozen? ⟨b,o,none⟩=W.frozen? ⟨b,o,none⟩):=
 ⟨fun b o z=>hb.cell (p:=⟨b,o,none⟩) (Nat.lt_of_lt_of_le z h),fun b o z=>hb.frozen (p:=⟨b,o,none⟩) (Nat.lt_of_lt_of_le z h)⟩
@[simp, go_sem] theorem lt_plus2 (n : Nat) : n < n + 1 + 1 := aD
@[simp, go_sem] theorem le_plus2 (n : Nat) : n <= n + 1 + 1 := aD
@[simp, go_sem] theorem lt_plus3 (n : Nat) : n < n + 1 + 1 + 1 := aD
@[simp, go_sem] theorem le_plus3 (n : Nat) : n <= n + 1 + 1 + 1 := aD
@[simp, go_sem] theorem lt_plus4 (n : Nat) : n < n + 1 + 1 + 1 + 1 := aD
@[simp, go_sem] theorem le_plus4 (n : Nat) : n <= n + 1 + 1 + 1 + 1 := aD
@[simp, go_sem] theorem lt_plus5 (n : Nat) : n < n + 1 + 1 + 1 + 1 + 1 := aD
@[simp, go_sem] theorem le_plus5 (n : Nat) : n <= n + 1 + 1 + 1 + 1 + 1 := aD
@[simp, go_sem] theorem lt_plus6 (n : Nat) : n < n + 1 + 1 + 1 + 1 + 1 + 1 := aD
@[simp, go_sem] theorem le_plus6 (n : Nat) : n <= n + 1 + 1 + 1 + 1 + 1 + 1 := aD
@[simp, go_sem] theorem lt_plus7 (n : Nat) : n < n + 1 + 1 + 1 + 1 + 1 + 1 + 1 := aD
@[simp, go_sem] theorem le_plus7 (n : Nat) : n <= n + 1 + 1 + 1 + 1 + 1 + 1 + 1 := aD
@[simp, go_sem] theorem lt_plus8 (n : Nat) : n < n + 1 + 1 + 1 + 1 + 1 + 1 + 1 + 1 := aD
@[simp, go_sem] theorem le_plus8 (n : Nat) : n <= n + 1 + 1 + 1 + 1 + 1 + 1 + 1 + 1 := aD
theorem bF(w:World)(o:Obj):Below w.heap.size w (w.alloc o):=(Below.refl _ _).alloc aI _
theorem wI(w:World)(o z:Obj):Below w.heap.size w ((w.alloc o).alloc z):=(bF w o).alloc (by simp) _
theorem gY{V w:World}{o:Obj}(h:V=w.alloc o):Below w.heap.size w V:=by rw[h];exact bF _ _
theorem gO{V w:World}{o z:Obj}(h:V=(w.alloc o).alloc z):Below w.heap.size w V:=by rw[h];exact wI _ _ _
theorem bl3(w:World)(o D z:Obj):Below w.heap.size w (((w.alloc o).alloc D).alloc z):=(wI w o D).alloc (by first|omega|(simp;done)|(simp;omega)) _
theorem aK.alloc{w:World}{v:Value}{l:List Int}(h:aK w v l)(o:Obj):aK (w.alloc o) v l:=h.below (bF w o) aI
theorem aK.drewN{w:World}{v:Value}{l:List Int}(h:aK w v l)(n:Nat):aK (w.drewN n) v l:=h.below ((Below.refl w.heap.size w).drewN' n) aI
theorem aM.drewN{E:TypeId}{B:Nat}{w:World}{v:Value}{l:List Int}(h:aM E B w v l)(n:Nat):aM E B (w.drewN n) v l:=h.below ((Below.refl w.heap.size w).drewN' n) aI
theorem aK.empty(w:World)(a:Option Addr)(n c:Nat)(z:n=0)(hc:c<=maxLen):aK w (.slice a n c) []:=by
 subst z;exact⟨a,c,rfl,Nat.zero_le _,hc,by simp,.inl rfl⟩
theorem aK.capLe{w:World}{a:Option Addr}{n c:Nat}{l:List Int}(h:aK w (.slice a n c) l):n=l.length/\n<=c/\c<=maxLen:=by
 obtain⟨D,F,z,h1,h2,_⟩:=h;simp only[Value.slice.injEq]at z;obtain⟨_,rfl,rfl⟩:=z;exact⟨rfl,h1,h2⟩
theorem aK.dropK{w:World}{b z n c:Nat}{l:List Int}(h:aK w (.slice (some ⟨b,z,none⟩) n c) l)(k:Nat)(hk:k<=l.length):aK w (.slice (some ⟨b,z+k,none⟩) (n-k) (c-k)) (l.drop k):=by
 obtain⟨M,O,F,h1,h2,h3,h4⟩:=h;simp only[Value.slice.injEq]at F;obtain⟨rfl,rfl,rfl⟩:=F;refine⟨_,c-k,by rw[List.length_drop],by rw[List.length_drop];omega,by omega,fun x K=>h3 x (List.mem_of_mem_drop K),?_⟩;rcases h4 with rfl|⟨N,I,D,hlt,hc⟩
 ·left;simp
 ·simp only[Option.some.injEq,Addr.mk.injEq,and_true]at D;obtain⟨rfl,rfl⟩:=D;right;refine⟨b,z+k,rfl,hlt,fun j J=>?_⟩;rw[List.length_drop]at J;have:=hc (k+j) aD;rw[Nat.add_assoc,this];simp
theorem aM.setBelow{E:TypeId}{B:Nat}{w:World}{v:Value}{l:List Int}(h:aM E B w v l){a:Addr}(z:a.block<B)(u:Value):aM E B (w.setCell a u) v l:=
 ⟨ownsRow_setCell_below h.1 z u,h.2⟩
theorem aM.shape{E:TypeId}{B:Nat}{w:World}{v:Value}{l:List Int}(h:aM E B w v l):∃a c,v=.slice a l.length c:=by
 obtain⟨a,c,rfl,_⟩:=h.ints;exact⟨a,c,rfl⟩
theorem aM.shape3{E:TypeId}{B:Nat}{w:World}{v:Value}{l:List Int}(h:aM E B w v l):∃a n c,v=.slice a n c:=by
 obtain⟨a,c,rfl,_⟩:=h.ints;exact⟨a,_,c,rfl⟩
theorem aK.shape{w:World}{v:Value}{l:List Int}(h:aK w v l):∃a c,v=.slice a l.length c:=by
 obtain⟨a,c,rfl,_⟩:=h;exact⟨a,c,rfl⟩
theorem keep{W w1:World}(hb:Below W.heap.size W w1){p:Addr}{v:Value}(d:W.cell? p=some v):w1.cell? p=some v:=(hb.cell (World.block_lt_of_cell? W p d)).trans d
theorem aZ(w:World)(cs:Array Value)(T:TypeId)(j:Nat)(v:Value)(h:cs[j]?=some v):(w.alloc (.cells cs T)).cell? ⟨w.heap.size,j,none⟩=some v:=by
 have e:=heap_alloc_new w (.cells cs T);unfold World.cell?;simp only[e];simpa using h
theorem akI{w:World}{p:Addr}{v:Value}(d:w.cell? p=some v)(o:Obj):(w.alloc o).cell? p=some v:=keep (bF w o) d
theorem aM.keep{E:TypeId}{B:Nat}{W w1:World}{v:Value}{l:List Int}(h:aM E B W v l)(hb:Below W.heap.size W w1):aM E B w1 v l:=h.below hb aI
theorem aK.keep{W w1:World}{v:Value}{l:List Int}(h:aK W v l)(hb:Below W.heap.size W w1):aK w1 v l:=h.below hb aI
theorem grown_keep{W w1:World}{row:Option Nat}(D:W.grownBy w1 row){p:Addr}{v:Value}(d:W.cell? p=some v)(z:∀k,row=some k->p.block≠k):w1.cell? p=some v:=
 D.cell d (fun e=>z _ e.symm rfl)
theorem aM.grow{E:TypeId}{B:Nat}{w w':World}{row:Option Nat}{v:Value}{l:List Int}(h:aM E B w v l)(D:w.grownBy w' row)(z:∀k,row=some k->v.ownBlock≠some k):aM E B w' v l:=by
 refine h.grown D ?_
 cases F:v.ownBlock with
 |none=>exact .inl rfl
 |some k=>right;intro e;exact z k e.symm F
theorem ab9{B:Nat}{a w w':World}{row:Option Nat}(h:Below B a w)(z:w.grownBy w' row)(hB:B<=w.heap.size)(hr:∀k,row=some k->B<=k):Below B a w':=h.grown z hB hr
theorem V8{w w' w'':World}{row:Option Nat}(h:w.grownBy w' row)(k:w'.grownBy w'' row):w.grownBy w'' row:=
 ⟨k.os.trans h.os,k.tape.trans h.tape,k.output.trans h.output,Nat.le_trans h.size k.size,fun b hb hr=>(k.block b (Nat.lt_of_lt_of_le hb h.size) hr).trans (h.block b hb hr)⟩
theorem alD{w w':World}(row:Option Nat)(h:Below w.heap.size w w'):w.grownBy w' row:=⟨h.os,h.tape,h.output,h.size,fun b hb _=>h.block b hb⟩
theorem bU{P:Program}{f:FuncId}{args:Array Value}{W:World}{R:Ending->World->Prop}(h:∀W',W'=W->Calls P f args W' R):Calls P f args W R:=h W rfl
structure Box2 (w wr:World) (n:Int) (sv:Value):Prop where
 d0:wr.cell? ⟨w.heap.size,0,none⟩=some (.int .i64 n)
 d1:wr.cell? ⟨w.heap.size,1,none⟩=some sv
 B:Below w.heap.size w wr
 z:w.heap.size<wr.heap.size
theorem Box2.new(w:World)(n:Int)(z:Value)(T:TypeId):Box2 w (w.alloc (.cells #[.int .i64 n,z] T)) n z:=
 ⟨aZ w #[.int .i64 n,z] T 0 _ rfl,aZ w #[.int .i64 n,z] T 1 _ rfl,bF _ _,by simp⟩
theorem Box2.after{w wr F:World}{n:Int}{D:Value}(h:Box2 w wr n D)(hb:Below wr.heap.size wr F):Box2 w F n D:=
 ⟨G5.keep hb h.d0,G5.keep hb h.d1,h.B.after hb h.B.size,Nat.lt_of_lt_of_le h.z hb.size⟩
theorem Box2.drewN{w wr:World}{n:Int}{D:Value}(h:Box2 w wr n D)(k:Nat):Box2 w (wr.drewN k) n D:=⟨h.d0,h.d1,h.B.drewN' k,h.z⟩
theorem Box2.grow{w wr I:World}{row:Option Nat}{n:Int}{F:Value}(h:Box2 w wr n F)(D:wr.grownBy I row)(hr:∀k,row=some k->w.heap.size<k):Box2 w I n F:=
 ⟨G5.grown_keep D h.d0 (fun k hk=>by have:=hr k hk;simp only[];omega),G5.grown_keep D h.d1 (fun k hk=>by have:=hr k hk;simp only[];omega),h.B.grown D h.B.size (fun k hk=>by have:=hr k hk;omega),Nat.lt_of_lt_of_le h.z D.size⟩
theorem aR{B:Nat}{w w':World}{b z:Nat}{l:List Int}(hc:∀k,(h:k<l.length)->w.cell? ⟨b,z+k,none⟩=some (.int .i64 l[k]))(hb:l≠[]->b<w.heap.size)
  (h:Below B w w') (hB:w.heap.size<=B):∀k,(h:k<l.length)->w'.cell? ⟨b,z+k,none⟩=some (.int .i64 l[k]):=fun k hk=>by
 have D:l≠[]:=by intro e;subst e;simp at hk
 have:=hb D;rw[h.cell (p:=⟨b,z+k,none⟩) (by show b<B;omega)];exact hc k hk
theorem RW(l:List Int)(k:Nat)(h:k<l.length):(l.take k++List.replicate (l.length-k) 0).set k l[k]=l.take (k+1)++List.replicate (l.length-(k+1)) 0:=by
 apply List.ext_getElem
 ·simp;omega
 ·intro i h1 h2;simp only[List.length_set,List.length_append,List.length_take,List.length_replicate]at h1 h2;rw[List.getElem_set];by_cases z:k=i
  ·subst z;rw[if_pos rfl,List.getElem_append_left aT];simp
  ·by_cases D:i<k
   ·rw[if_neg z,List.getElem_append_left aT,List.getElem_append_left aT];simp
   ·rw[if_neg z,List.getElem_append_right aT,List.getElem_append_right aT];simp
theorem ak5(l:List Int)(k:Nat)(h:k<=l.length):(l.take k++List.replicate (l.length-k) 0).length=l.length:=by simp;omega
theorem jF{P:Program}{f:FuncId}{args:Array Value}{w:World}{n:Nat}{v:Value}
  (h:Calls P f args (w.drewN n) fun e w'=>e=.returned v/\w.drewN n=w'):Calls P f args (w.drewN n) fun e w''=>e=.returned v/\∃m,w''=w.drewN m:=
 h.mono fun _ _ ⟨z,hm⟩=>⟨z,n,hm.symm⟩
theorem sP{P:Program}{f:FuncId}{args:Array Value}{w:World}{n:Nat}{b z:Bool}
  (h:Calls P f args (w.drewN n) fun e w'=>e=.returned (.bool b)/\w.drewN n=w') (hb:b=z):Calls P f args (w.drewN n) fun e w''=>e=.returned (.bool z)/\∃m,w''=w.drewN m:=by
 subst hb;exact jF h
theorem gL{P:Program}{f:FuncId}{args:Array Value}{w:World}{m n:Nat}{v:Value}
  (h:Calls P f args (w.drewN (m+n)) fun e w'=>e=.returned v/\w.drewN (m+n)=w'):Calls P f args (w.drewN (m+n)) fun e w''=>e=.returned v/\∃k,w''=w.drewN (m+k):=
 h.mono fun _ _ ⟨z,hm⟩=>⟨z,n,hm.symm⟩
theorem oT{P:Program}{f:FuncId}{args:Array Value}{w:World}{m n:Nat}{b z:Bool}
  (h:Calls P f args (w.drewN (m+n)) fun e w'=>e=.returned (.bool b)/\w.drewN (m+n)=w') (hb:b=z):Calls P f args (w.drewN (m+n)) fun e w''=>e=.returned (.bool z)/\∃k,w''=w.drewN (m+k):=by
 subst hb;exact gL h
theorem fL{k:IntKind}{a b:Int}(h:a=b):Ending.returned (.int k a)=.returned (.int k b):=by rw[h]
theorem aW{a b:Bool}(h:a=b):Ending.returned (.bool a)=.returned (.bool b):=by rw[h]
structure Ext (W:World) where
 w:World
 b:Below W.heap.size W w
instance Ext.one (W:World):Nonempty (Ext W):=⟨⟨W,Below.refl _ _⟩⟩
theorem bH{P:Program}{D:Nat}{Q:Exit->Act->World->Prop}{a:Act}(W:World){l:List Oper}(hm:P.follows .mixedOrders=true)(hB:Region.lexB .any l.toArray=true)
  (h:wpQuiet P l.toArray (fun w'=>∃x:Ext W,w'=x.w) (fun z=>∀w',(∃x:Ext W,w'=x.w)->Q .normal z w') l a):(Code.region D l.toArray true).wp P Q a W:=
 wp_region_quiet (C:=fun w'=>∃x:Ext W,w'=x.w) hm hB ⟨⟨W.drew,(Below.refl _ _).drew⟩,rfl⟩ (by simpa using h)
theorem bW{P:Program}{f:FuncId}{args:Array Value}{W:World}{x:Ext W}{v:Value}
  (h:Calls P f args x.w fun e w'=>e=.returned v/\Below x.w.heap.size x.w w'):Calls P f args x.w fun e w''=>e=.returned v/\∃y:Ext W,w''=y.w:=
 h.mono fun _ w'' ⟨z,hb⟩=>⟨z,⟨w'',x.b.after hb x.b.size⟩,rfl⟩
theorem wO{P:Program}{f:FuncId}{args:Array Value}{W:World}{x:Ext W}{b z:Bool}
  (h:Calls P f args x.w fun e w'=>e=.returned (.bool b)/\Below x.w.heap.size x.w w') (hb:b=z):Calls P f args x.w fun e w''=>e=.returned (.bool z)/\∃y:Ext W,w''=y.w:=by
 subst hb;exact bW h
theorem dN{P:Program}{f:FuncId}{args:Array Value}{W:World}{x:Ext W}{v:Value}
  (h:Calls P f args x.w fun e w'=>e=.returned v/\x.w=w'):Calls P f args x.w fun e w''=>e=.returned v/\∃y:Ext W,w''=y.w:=
 h.mono fun _ _ ⟨z,hb⟩=>⟨z,x,hb.symm⟩
theorem RS{P:Program}{f:FuncId}{args:Array Value}{W:World}{x:Ext W}{b z:Bool}
  (h:Calls P f args x.w fun e w'=>e=.returned (.bool b)/\x.w=w') (hb:b=z):Calls P f args x.w fun e w''=>e=.returned (.bool z)/\∃y:Ext W,w''=y.w:=by
 subst hb;exact dN h
theorem afM{P:Program}{f:FuncId}{args:Array Value}{W:World}{x:Ext W}{b z:Int}
  (h:Calls P f args x.w fun e w'=>e=.returned (.int .i64 b)/\x.w=w') (hb:b=z):Calls P f args x.w fun e w''=>e=.returned (.int .i64 z)/\∃y:Ext W,w''=y.w:=by
 subst hb;exact dN h
theorem Ext.cell{W:World}(x:Ext W){p:Addr}{v:Value}(d:W.cell? p=some v):x.w.cell? p=some v:=G5.keep x.b d
theorem Ext.ints{W:World}(x:Ext W){v:Value}{l:List Int}(h:aK W v l):aK x.w v l:=h.keep x.b
end Go.G5
end
