/- Lemmas for CardClaims, part 2 of 52. No condition. -/
import Derived.Test.YtipejodijbjpcaaGreatDoorQ01
import Derived.Test.YtipejodijbjpcaaGreatDoorChecked
import Derived.Test.YtipejodijbjpcaaGreatDoorRows
import Derived.WalkKit
import Derived.ProofKit
import Derived.OpenShut
import Derived.Lib.SmallJoins
import Derived.Deep.Light
import Derived.Laws.BitsAllLaws
import Derived.Deep.AppendLies
import Derived.Sort.Grow
set_option maxRecDepth 100000
set_option maxHeartbeats 64000000
namespace Go.Proofs.YtipejodijbjpcaaGreatDoor
section
open Go.RowKit Go.G5
theorem aG:IntElem Tryz.prog 3:=⟨by kernel_rfl⟩
end
section
open Go.ChangeShapes Go.WideShapes Go.ChangeAt Go.RowKit Go.G5
set_option maxRecDepth 100000
theorem own:ownKnob Tryz.prog.godebug=none:=by kernel_rfl
theorem UD:laidOutB Tryz.prog=true:=by kernel_rfl
section
variable {H:Type} {enc:TypeId×Value->H} {P:Program} {w:World} {base:Nat} {spare:Nat->Bool} {held:Bool}
theorem NE{w:World}{a:Addr}{v:Value}(h:w.cell? a=some v):a.block<w.heap.size:=World.block_lt_of_cell? w a h
theorem GY{w:World}{a:Addr}{v:Value}(h:w.cell? a=some v):a.spot=none:=by
 unfold World.cell? at h
 split at h
 ·split at h
  ·simp at h
  ·rename_i o;simpa using o
 ·simp at h
end
theorem xD{H:Type}{enc:TypeId×Value->H}{P:Program}{w:World}{base:Nat}{spare:Nat->Bool}{held:Bool}:
  ∀{o:List TypeId} {F:List Value} {z:List (DataW H)} {D:List MemPlace},DataW.TrodAll enc P w base spare held o F z D->z.length=o.length
 |[],_,_,_,h=>by
  obtain⟨rfl,rfl,rfl⟩:=trodAll_nil h
  rfl
 |t::o,_,_,_,h=>by
  obtain⟨v,I,d,A,a,b,rfl,rfl,rfl,h1,h2⟩:=trodAll_cons h;simp[xD h2]
theorem uU{H:Type}{enc:TypeId×Value->H}{P:Program}(F:laidOutB P=true){W W':World}(hb:Below W.heap.size W W'):
  ∀{o:List TypeId} {I:List Value} {D:List (DataW H)} {A:List MemPlace},(o.all fun t=>P.readableRec t&&decide (t<P.types.size))=true ->
   DataW.TrodAll enc P W 0 (fun _=>true) true o I D A->(∀x∈A,x.block<W.heap.size)->DataW.TrodAll enc P W' 0 (fun b=>decide (b<W.heap.size)) true o I D A
 |[],_,_,_,_,h,_=>by
  obtain⟨rfl,rfl,rfl⟩:=trodAll_nil h;exact trodAll_mk0
 |t::o,_,_,_,hr,h,hlt=>by
  obtain⟨v,L,d,K,a,b,rfl,rfl,rfl,h1,h2⟩:=trodAll_cons h;simp only[List.all_cons,Bool.and_eq_true,decide_eq_true_eq]at hr;exact trodAll_cons_mk (Below.trod F hr.1.1 hr.1.2 h1 hb fun x z=>hlt x (by simp[z])) (uU F hb (by simpa using hr.2) h2 fun x z=>hlt x (by simp[z]))
section
variable {H:Type} {enc:TypeId×Value->H} {W:World} {base:Nat} {v:Value} {d:DataW H} {p:List MemPlace}
end
end
section
open Go.RowKit Go.G5
def cM(n z o:Int):Bool:=decide (z<=n)&&decide (n<=o)
theorem bL{n z o:Int}:cM n z o=true↔z<=n/\n<=o:=by simp[cM]
theorem QO{n z o:Int}:cM n z o=false↔n<z∨o<n:=by
 unfold cM;by_cases h1:z<=n<;>by_cases h2:n<=o<;>simp[h1,h2]<;>omega
theorem fN(n o z:Int)(w:World):
  Calls Tryz.prog 143 #[.int .i64 n,.int .i64 o,.int .i64 z] w fun e w'=>e=.returned (.bool (cM n o z))/\w=w':=by
 unfold cM
 by_cases h1:o<=n
 ·go_enter Tryz.func143,Tryz.ntmps143
  go_wp2;go_ret;exact⟨by simp[h1],rfl⟩
 ·have h2:decide (o<=n)=false:=by simpa using h1
  go_enter Tryz.func143,Tryz.ntmps143;go_wp2;go_ret;exact⟨aE (by simp),rfl⟩
theorem aR(n o z:Int)(w:World):
  Calls Tryz.prog 188 #[.int .i64 n,.int .i64 o,.int .i64 z] w fun e w'=>e=.returned (.bool (cM n o z))/\w=w':=by
 unfold cM
 by_cases h1:o<=n
 ·go_enter Tryz.func188,Tryz.ntmps188
  go_wp2;go_ret;exact⟨by simp[h1],rfl⟩
 ·have h2:decide (o<=n)=false:=by simpa using h1
  go_enter Tryz.func188,Tryz.ntmps188;go_wp2;go_ret;exact⟨aE (by simp),rfl⟩
def JW(n:Nat):Int:=match n with
 |0=>0
 |n+1=>JW n+60/((n:Int)+1)
def eD(k:Int):ByteArray:=
 if k=1 then ⟨#[109,105,110,105,109,117,109]⟩ else if k=2 then ⟨#[118,105,111,108,97,116,105,111,110]⟩ else if k=3 then ⟨#[98,97,115,101]⟩
 else if k=4 then ⟨#[99,111,109,109,111,110]⟩ else if k=5 then ⟨#[99,117,116]⟩ else if k=6 then ⟨#[115,117,110,102,108,111,119,101,114]⟩ else if k=7 then ⟨#[104,97,108,108]⟩ else ⟨#[]⟩
theorem tI(k:Int)(w:World):
  Calls Tryz.prog 69 #[.int .i64 k] w fun e w'=>e=.returned (.string (eD k))/\Below w.heap.size w w':=by
 by_cases I:1<=k/\k<=7
 ·rcases(show k=1∨k=2∨k=3∨k=4∨k=5∨k=6∨k=7 by omega) with rfl|rfl|rfl|rfl|rfl|rfl|rfl
  all_goals
   go_enter Tryz.func69,Tryz.ntmps69;go_wp2;go_ret;exact⟨rfl,Below.refl _ _⟩
 ·have h1:(k==1)=false:=by simp;omega
  have h2:(k==2)=false:=by simp;omega
  have h3:(k==3)=false:=by simp;omega
  have h4:(k==4)=false:=by simp;omega
  have A:(k==5)=false:=by simp;omega
  have D:(k==6)=false:=by simp;omega
  have F:(k==7)=false:=by simp;omega
  have o:eD k=⟨#[]⟩:=by
   unfold eD;rw[if_neg (by omega),if_neg (by omega),if_neg (by omega),if_neg (by omega),if_neg (by omega),if_neg (by omega),if_neg (by omega)]
  have z:=Lib.hid o;clear o;go_enter Tryz.func69,Tryz.ntmps69;go_wp2;go_ret;exact⟨by rw[z.out];rfl,Below.refl _ _⟩
theorem tD(k:Int)(w:World):
  Calls Tryz.prog 70 #[.int .i64 k] w fun e w'=>e=.returned (.string (eD k))/\Below w.heap.size w w':=by
 by_cases D:1<=k/\k<=7
 ·rcases(show k=1∨k=2∨k=3∨k=4∨k=5∨k=6∨k=7 by omega) with rfl|rfl|rfl|rfl|rfl|rfl|rfl
  all_goals
   go_enter Tryz.func70,Tryz.ntmps70;go_wp2_with (go_at_call 188;refine(aR _ _ _ _).mono ?_;rintro e w' ⟨rfl,rfl⟩);go_ret;exact⟨rfl,aM _ _⟩
 ·have A:cM k 1 7=false:=QO.2 (by omega)
  have o:eD k=⟨#[]⟩:=by
   unfold eD;rw[if_neg (by omega),if_neg (by omega),if_neg (by omega),if_neg (by omega),if_neg (by omega),if_neg (by omega),if_neg (by omega)]
  have z:=Lib.hid o;clear o;go_enter Tryz.func70,Tryz.ntmps70;go_wp2_with (go_at_call 188;refine(aR _ _ _ _).mono ?_;rintro e w' ⟨rfl,rfl⟩);go_ret;exact⟨by rw[z.out];rfl,Below.refl _ _⟩
end
section
open Go.RowKit Go.G5
theorem EF(n:Int)(o:0<=n)(z:n<2^62):IntKind.i64.wrap n=n:=by rw[IntKind.wrap_i64];omega
theorem NN(a b:Nat)(o:a<2^62)(hb:b<2^62):bits .and .i64 (a:Int) (b:Int)=((a &&& b:Nat):Int):=(bits_nat .i64 62 (by decide) EF a b o hb).1
theorem FM(a b:Nat)(o:a<2^62)(hb:b<2^62):bits .or .i64 (a:Int) (b:Int)=((a ||| b:Nat):Int):=(bits_nat .i64 62 (by decide) EF a b o hb).2
theorem FT(a:Nat)(o:a<2^62):bits .and .i64 (a:Int) 1=((a%2:Nat):Int):=by
 have:=NN a 1 o (by decide);rw[Nat.and_one_is_mod]at this;exact this
def dE(a b:Nat):Nat:=a-(a &&& b)
theorem AZ(a b:Nat)(o:a<64)(hb:b<64):bits .andNot .i64 (a:Int) (b:Int)=((dE a b:Nat):Int):=by
 have h:∀a,a<64->∀b,b<64->bits .andNot .i64 ((a:Nat):Int) ((b:Nat):Int)=((dE a b:Nat):Int):=by decide +kernel
 exact h a o b hb
theorem tQ(a b:Nat)(o:a<64)(hb:b<64):a ||| b<64:=Nat.or_lt_two_pow (n:=6) o hb
theorem uB(a b n:Nat)(o:a<n):dE a b<n:=by unfold dE;omega
theorem bJ(n m:Nat)(h:n<=m):(2:Int)^n<=2^m/\0<(2:Int)^n:=by
 constructor
 ·have:=Nat.pow_le_pow_right (show 0<2 by decide) h
  exact_mod_cast this
 ·have:=Nat.two_pow_pos n
  exact_mod_cast this
def aY(n:Nat):Nat:=(List.range 64).foldl (fun a i=>a+(n >>> i)%2) 0
theorem OE(n:Nat)(w:World)(h:n<256):
  Calls Tryz.prog 338 #[.int .u64 n] w fun e w'=>e=.returned (.int .i64 (aY n))/\w=w':=by
 go_enter Tryz.func338,Tryz.ntmps338;go_wp2;go_ret;refine⟨eJ ?_,rfl⟩;clear w
 revert n
 decide +kernel
theorem SJ(n:Nat)(w:World)(h:n<256):
  Calls Tryz.prog 284 #[.int .u64 n] w fun e w'=>e=.returned (.int .i64 (aY n))/\w=w':=by
 go_enter Tryz.func284,Tryz.ntmps284;go_wp2_with (go_at_call 338;refine(OE n _ h).mono ?_;rintro e w' ⟨rfl,rfl⟩);go_ret;exact⟨rfl,rfl⟩
theorem nP(n:Nat)(w:World)(h:n<256):
  Calls Tryz.prog 170 #[.int .i64 n] w fun e w'=>e=.returned (.int .i64 (aY n))/\w=w':=by
 go_enter Tryz.func170,Tryz.ntmps170;go_wp2_with (go_at_call 284;refine(SJ n _ h).mono ?_;rintro e w' ⟨rfl,rfl⟩);go_ret;exact⟨rfl,rfl⟩
theorem IN(n:Nat)(h:n<256):aY n=n%2+aY (n/2):=by
 revert n;decide +kernel
theorem dR:aY 0=0:=by decide +kernel
theorem rU(n:Nat)(h:n<256):aY n<=8:=by
 revert n;decide +kernel
theorem cT(n:Nat)(w:World)(h:n<=40):
  Calls Tryz.prog 187 #[.int .i64 n] w fun e w'=>e=.returned (.int .i64 (2^n-1))/\w=w':=by
 have h2:=bJ n 40 h;have h3:=h2.1;have h4:=h2.2;simp at h3;clear h2;go_enter Tryz.func187,Tryz.ntmps187;go_wp2;go_ret;exact⟨rfl,rfl⟩
theorem jO(n:Nat)(w:World)(h:n<256):
  Calls Tryz.prog 173 #[.int .i64 n] w fun e w'=>e=.returned (.int .i64 (aY n))/\w=w':=by
 go_enter Tryz.func173,Tryz.ntmps173;go_wp2;go_loop [3,4] (fun s x=>∃k q:Nat,k<256/\q+aY k=aY n/\s=.int .i64 q/\x=.int .i64 k) (fun _ x=>(intOf x).toNat)
 case atStart=>exact⟨n,0,h,by omega,rfl,rfl⟩
 case round=>
  obtain⟨k,q,D,o,rfl,rfl⟩:=hrel;have z:=IN k D;have L:=rU n h;have hb:=FT k (by omega);have F:q<=8:=by omega
  have K:k%2<2:=by omega
  have H:=Lib.hid o;have A:=Lib.hid z;clear z o
  by_cases I:0<k
  ·go_wp2
   go_round
   case rel=>exact⟨k/2,q+k%2,by omega,by have:=H.out;have:=A.out;omega,by go_num,by go_num⟩
   case measure=>simp[intOf];omega
  ·go_wp2
   go_ret;refine⟨eJ ?_,rfl⟩;have h1:=H.out;have h2:k=0:=by omega
   rw[h2,dR]at h1;omega
end
end Go.Proofs.YtipejodijbjpcaaGreatDoor
section
namespace Go.G5
open Go Go.RowKit
def aB(w:World)(g:Nat)(t:TypeId)(cs:Array Value):Prop:=w.heap[g]?=some (.cells cs t (0,0))
section
variable {w w':World} {g:Nat} {t:TypeId} {cs:Array Value}
theorem aB.lt(h:aB w g t cs):g<w.heap.size:=(Array.getElem?_eq_some_iff.1 h).1
theorem aB.cell(h:aB w g t cs):∀i,w.cell? ⟨g,i,none⟩=cs[i]?:=fun i=>cell_of_row w g i cs t (0,0) h
theorem aB.frozen(h:aB w g t cs):∀i,w.frozen? ⟨g,i,none⟩=false:=fun i=>by
 unfold aB at h;simp[World.frozen?,h]
theorem aB.new(w:World)(t:TypeId)(cs:Array Value):aB (w.alloc (.cells cs t)) w.heap.size t cs:=heap_alloc_new w _
theorem aB.keep(h:aB w g t cs)(hb:Below w.heap.size w w'):aB w' g t cs:=(hb.block g h.lt).trans h
theorem aB.alloc(h:aB w g t cs)(o:Obj):aB (w.alloc o) g t cs:=h.keep (aM w o)
theorem aB.drewN(h:aB w g t cs)(n:Nat):aB (w.drewN n) g t cs:=h
theorem aB.set(h:aB w g t cs)(i:Nat)(u:Value):aB (w.setCell ⟨g,i,none⟩ u) g t (cs.setIfInBounds i u):=by
 unfold aB at h ⊢;simp[World.setCell,Array.getElem?_modify,h]
theorem aB.far(h:aB w g t cs){p:Addr}(o:g≠p.block)(u:Value):aB (w.setCell p u) g t cs:=(Below.heap_setCell w p u g o).trans h
theorem aB.grow{row:Option Nat}(h:aB w g t cs)(hb:w.grownBy w' row)(o:row≠some g):aB w' g t cs:=(hb.block g h.lt (fun e=>o e.symm)).trans h
end
theorem aI{P:Program}{f:Func}{Q:Ending->World->Prop}{e:Exit}{a:Act}{W:World}(h:∀W',W'=W->bodyPost P f Q e a W'):bodyPost P f Q e a W:=h W rfl
end Go.G5
end
section
namespace Go.G5
open Go Go.RowKit
section
variable {P:Program} {w:World}
theorem KW(T E Y:TypeId)(N:P.underlying T=some (.slice E))(hE:IntElem P E)(B:Nat)(v:Value)(l:List Int)(o:aC E B w v l)
  (U:Value) (m:List Int) (hs:aD w U m) (S:l.length+m.length<=17592186044416) (hB:B<=w.heap.size):
  ∃M w',(Builtin.append_ #[T,T] Y #[v,U]).run P w=.ok M w'/\aC E B w' M (l++m)/\w.grownBy w' v.ownBlock:=by
 obtain⟨i,O,hz,h1,h8⟩:=hE.get;obtain⟨I,c,rfl,b1,b0,hr,h4⟩:=hs;have K:∀q∈l++m,bA q:=fun q hq=>(List.mem_append.1 hq).elim (o.2 q) (hr q);have A:I=none->m=[]:=by
  intro e
  rcases h4 with h|⟨b,F,hb,_⟩
  ·exact h
  ·rw[e]at hb;cases hb
 cases I with
 |none=>
  have:=A rfl;subst this;refine⟨v,w,?_,by simpa using o,World.grownBy.refl w _⟩
  rcases o.1.2 with⟨rfl,hn⟩|⟨g,cap,Z,rfl,_,_,Q,_⟩
  ·simp[Builtin.append_,run_underlying N,sizeOf,typeInfo,O,Builtin.lenOf,Builtin.firstCells]
  ·simp[Builtin.append_,run_underlying N,sizeOf,typeInfo,O,Builtin.lenOf,Builtin.firstCells,Q,storeCells]
 |some I=>
  have z:∀j u,(m.map (Value.int .i64))[j]?=some u->w.cell? (I.add j)=some u:=by
   intro j u D
   rcases h4 with h|⟨b,F,hb,_,hc⟩
   ·subst h;simp at D
   ·simp only[Option.some.injEq]at hb
    subst hb;have R:j<m.length:=by
     rcases Nat.lt_or_ge j m.length with h|h
     ·exact h
     ·rw[List.getElem?_eq_none (by simpa using h)]at D;cases D
    have:=hc j R;have e:(⟨b,F,none⟩:Addr).add j=⟨b,F+j,none⟩:=by
     unfold Addr.add;split
     ·rename_i h0;rw[h0];rfl
     ·rfl
    rw[e,this];rw[List.getElem?_map,List.getElem?_eq_getElem R]at D;exact D
  obtain⟨M,w',L,h2,h3,_⟩:=run_append_own_at (P:=P) w B T Y E i (.int .i64 0) 1 8 N O hz h1 h8 rfl (by decide) v l.length (l.map (Value.int .i64)) o.1 I m.length c (m.map (Value.int .i64)) (by simp) z
   (by intro u D;obtain⟨q,_,rfl⟩:=List.mem_map.1 D;rfl) (by unfold maxLen;omega) (by omega) hB
  exact⟨M,w',L,⟨by simpa using h2,K⟩,h3⟩
theorem AS{o:Oper}{a:Act}{K:Act->World->Prop}{Q:Exit->Act->World->Prop}(s x:Operand)(t:TypeId)
  (R:o.op=.call { callee:=.builtin .append,args:=#[s,x],argTypes:=#[t,t] })
  (E:TypeId) (O:P.underlying t=some (.slice E)) (N:IntElem P E) (B:Nat) (v:Value) (l:List Int) (S:a.eval s=v) (A:aC E B w v l)
  (L:Value) (m:List Int) (U:a.eval x=L) (I:aD w L m) (z:l.length+m.length<=17592186044416) (M:B<=w.heap.size)
  (h:∀F w',aC E B w' F (l++m)->w.grownBy w' v.ownBlock->K (a.put o.dst F) w'):o.wp P a w K Q:=by
 obtain⟨F,w',D,h2,h3⟩:=KW (P:=P) t E o.type O N B v l A L m I z M;unfold Oper.wp execOp;simp only[R,resolve,invoke,builtin,Sem.run_bind,Sem.run_pure,Result.andThen_ok,List.map_toArray,List.map_cons,List.map_nil,S,U,D];exact h F w' h2 h3
theorem tR{D:Array Oper}{rest:List Oper}{o:Oper}{a:Act}{Q:Exit->Act->World->Prop}(I:o.guard=none)(s x:Operand)(t:TypeId)
  (S:o.op=.call { callee:=.builtin .append,args:=#[s,x],argTypes:=#[t,t] })
  (E:TypeId) (R:P.underlying t=some (.slice E)) (N:IntElem P E) (B:Nat) (v:Value) (l:List Int) (U:a.eval s=v) (A:aC E B w v l)
  (L:Value) (m:List Int) (Y:a.eval x=L) (K:aD w L m) (z:l.length+m.length<=17592186044416) (M:B<=w.heap.size)
  (h:∀F w',aC E B w' F (l++m)->w.grownBy w' v.ownBlock->wpList P D Q rest (a.put o.dst F) w'):wpList P D Q (o::rest) a w:=
 wpList_plain I fun _ O=>AS s x t S E R N B v l U A L m Y K z M fun F w' h2 h3=>O _ _ (h F w' h2 h3)
theorem vG{D:Array Oper}{o:Oper}{a:Act}{K:Act->World->Prop}{Q:Exit->Act->World->Prop}{F:Prop}(I:o.guard=none)(s x:Operand)(t:TypeId)
  (U:o.op=.call { callee:=.builtin .append,args:=#[s,x],argTypes:=#[t,t] })
  (E:TypeId) (S:P.underlying t=some (.slice E)) (R:IntElem P E) (B:Nat) (v:Value) (l:List Int) (Y:a.eval s=v) (A:aC E B w v l)
  (M:Value) (m:List Int) (hx:a.eval x=M) (L:aD w M m) (z:l.length+m.length<=17592186044416) (O:B<=w.heap.size)
  (h:∀N w',aC E B w' N (l++m)->w.grownBy w' v.ownBlock->K (a.put o.dst N) w'):if Region.wanted o (yielded D a.tmps)=true then Oper.wp P o a w K Q else F:=by
 have Z:Region.wanted o (yielded D a.tmps)=true:=by simp[Region.wanted,I]
 rw[if_pos Z];exact AS s x t U E S R B v l Y A M m hx L z O h
theorem lM{ops : Array Oper}{o : Oper}{a : Act}{K : Act -> World -> Prop}{Q : Exit -> Act -> World -> Prop}{F : Prop}(hgd : o.guard = none)(s x : Operand)(t : TypeId)
    (ho : o.op = .call { callee := .builtin .append, args := #[s, x], argTypes := #[t, t] })
    (E : TypeId) (hT : P.underlying t = some (.slice E)) (hE : IntElem P E) (B : Nat) (v : Value) (l : List Int) (y : Int) (b : Nat) (hs : a.eval s = v) (hx : a.eval x = .slice (some ⟨b, 0, none⟩) 1 1)
    (hy : w.cell? ⟨b, 0, none⟩ = some (.int .i64 y))
    (hown : aC E B w v l) (hyr : bA y) (hlen : l.length < 17592186044415) (hB : B <= w.heap.size)
    (h : ∀ v' w', aC E B w' v' (l ++ [y]) -> w.grownBy w' v.ownBlock -> K (a.put o.dst v') w') : if Region.wanted o (yielded ops a.tmps) = true then Oper.wp P o a w K Q else F :=
  vG hgd s x t ho E hT hE B v l hs hown (.slice (some ⟨b, 0, none⟩) 1 1) [y] hx
    ⟨some ⟨b, 0, none⟩, 1, rfl, Nat.le_refl _, by decide, by intro q hq; simp only [List.mem_singleton] at hq; subst hq; exact hyr,
      .inr ⟨b, 0, rfl, World.block_lt_of_cell? w _ hy, fun k hk => by have : k = 0 := by simpa using hk
                                                                      subst this; exact hy⟩⟩ (by simp; omega) hB h
end
theorem aD.from{P:Program}{w:World}{a:Option Addr}{c:Nat}{l:List Int}(h:aD w (.slice a l.length c) l)(T E:TypeId)(L:P.underlying T=some (.slice E))(N:IntElem P E)(k:Nat)(U:k<=l.length):
  ∃I K,(∀(F:IntKind) (w':World),(Instr.slice T (.slice a l.length c) (some (.int F (k:Int))) none none).run P w'=.ok (.slice I (l.drop k).length K) w')/\aD w (.slice I (l.drop k).length K) (l.drop k):=by
 obtain⟨i,R,_,h1,_⟩:=N.get;have o:P.elem T=E:=by simp[Program.elem,L]
 obtain⟨Y,O,Q⟩:=h.capLe;refine⟨if c=k then a else a.map (·.add (k*1)),c-k,fun F w'=>?_,?_⟩
 ·rw[run_slice_l w' T a l.length c (by rw[o];exact L) F k (by omega) (by omega)]
  simp[sizeOf,typeInfo,o,R,h1,Result.andThen,sliced,List.length_drop]
 ·rcases Nat.lt_or_ge k l.length with hlt|D
  ·have A:=h
   obtain⟨S,c1,M,_,_,_,h4⟩:=A;simp only[Value.slice.injEq]at M;obtain⟨rfl,_,rfl⟩:=M
   rcases h4 with rfl|⟨b,z,rfl,_,_⟩
   ·simp at hlt
   ·rw[if_neg (by omega)]
    have:=aD.dropK h k (by omega);rw[List.length_drop];have e:(Option.map (fun x:Addr=>x.add (k*1)) (some (⟨b,z,none⟩:Addr)))=some ⟨b,z+k,none⟩:=by
     simp only[Option.map_some,Nat.mul_one,Addr.add]
     split
     ·rename_i A;rw[A];rfl
     ·rfl
    rw[e];exact this
  ·have e:l.drop k=[]:=List.drop_eq_nil_of_le D
   rw[e];exact aD.empty w _ _ _ rfl (by omega)
end Go.G5
namespace Go.Proofs.YtipejodijbjpcaaGreatDoor
open Go.RowKit Go.G5
theorem pY(v:Value)(l:List Int)(w:World)(K:aD w v l)(U:l.length<=1048576):
  Calls Tryz.prog 242 #[v] w fun e w'=>∃z i c,e=.returned (.slice z i c)/\aC 3 w.heap.size w' (.slice z i c) l/\Below w.heap.size w w':=by
 have F:=K;obtain⟨a,c,rfl,h1,h2,h3,h4⟩:=K;have I:=fun(w:World) (a:Option Addr) (n c Q M:Nat)=>Lib.run_eql_slice_nil (P:=Tryz.prog) w 22 3 a n c Q M Tryz.underlying22
 cases a with
 |none=>
  have e:l=[]:=by
   rcases h4 with h|⟨b,S,hb,_⟩
   ·exact h
   ·cases hb
  subst e;clear h4 h3;go_enter Tryz.func242,Tryz.ntmps242;go_wp2;go_ret;exact⟨none,0,0,rfl,aC.nil _ _ _,Below.refl _ _⟩
 |some z=>
  clear h4 h3;go_enter Tryz.func242,Tryz.ntmps242;go_wp2_with (at_builtin;refine tR rfl _ _ _ rfl 3 Tryz.underlying22 aG w.heap.size _ [] rfl (aC.lit0 w (Nat.le_refl _)) _ l rfl (F.alloc _) (by simp;omega) (by simp) ?_;intro Y Z o A;obtain⟨L,R,N,rfl⟩:=o.shape3);go_ret;refine⟨L,R,N,rfl,by simpa using o,(aM w (.cells #[] 3)).grown A (by simp) ?_⟩;intro k O;have D:some w.heap.size=some k:=O;exact Nat.le_of_eq (Option.some.inj D)
end Go.Proofs.YtipejodijbjpcaaGreatDoor
end
section
namespace Go.G5
open Go Go.RowKit
def aL(E:TypeId)(B:Nat)(w:World)(v:Value)(l:List Int):Prop:=
 (∀x∈l,bA x)/\((v=.slice none 0 0/\l=[])∨∃g cap o,v=.slice (some ⟨g,0,none⟩) l.length cap/\B<=g/\w.heap[g]?=some (.cells o E (0,0))/\l.length<=cap/\cap<=o.size/\cap<=maxLen/\o.toList.take l.length=l.map (Value.int .i64))
section
variable {E:TypeId} {B:Nat} {w w':World} {v:Value} {l:List Int}
theorem aC.toW(h:aC E B w v l):aL E B w v l:=by
 obtain⟨⟨K,h1⟩,h2⟩:=h;refine⟨h2,?_⟩
 rcases h1 with⟨rfl,z⟩|⟨g,cap,o,rfl,A,F,z,I,D,ht⟩
 ·exact .inl ⟨rfl,List.eq_nil_of_length_eq_zero z⟩
 ·exact .inr ⟨g,cap,o,rfl,A,F,z,by omega,I,by simpa using ht⟩
theorem aL.toW(h:aL E B w v l):aL E B w v l:=h
theorem aL.nil(E:TypeId)(B:Nat)(w:World):aL E B w (.slice none 0 0) []:=⟨by simp,.inl ⟨rfl,rfl⟩⟩
theorem aL.below{B':Nat}(h:aL E B w v l)(hb:Below B' w w')(D:w.heap.size<=B'):aL E B w' v l:=by
 refine⟨h.1,?_⟩
 rcases h.2 with h1|⟨g,cap,o,rfl,z,A,r⟩
 ·exact .inl h1
 ·exact .inr ⟨g,cap,o,rfl,z,by rw[hb.block g (by have:=(Array.getElem?_eq_some_iff.1 A).1;omega)];exact A,r⟩
theorem aL.keep(h:aL E B w v l)(hb:Below w.heap.size w w'):aL E B w' v l:=h.below hb (Nat.le_refl _)
theorem aL.alloc(h:aL E B w v l)(o:Obj):aL E B (w.alloc o) v l:=h.keep (aM w o)
theorem aL.drewN(h:aL E B w v l)(n:Nat):aL E B (w.drewN n) v l:=h.below ((Below.refl w.heap.size w).drewN' n) (Nat.le_refl _)
theorem aL.mono{B':Nat}(h:aL E B w v l)(A:B'<=B):aL E B' w v l:=by
 refine⟨h.1,?_⟩
 rcases h.2 with h1|⟨g,cap,o,rfl,z,r⟩
 ·exact .inl h1
 ·exact .inr ⟨g,cap,o,rfl,by omega,r⟩
theorem aL.lt(h:aL E B w v l):∀k,v.ownBlock=some k->B<=k/\k<w.heap.size:=by
 intro k z
 rcases h.2 with⟨rfl,_⟩|⟨g,cap,A,rfl,o,D,_⟩
 ·simp[Value.ownBlock]at z
 ·have:g=k:=by simpa[Value.ownBlock]using z
  subst this;exact⟨o,(Array.getElem?_eq_some_iff.1 D).1⟩
theorem aL.grow{row:Option Nat}(h:aL E B w v l)(F:w.grownBy w' row)(A:∀k,row=some k->v.ownBlock≠some k):aL E B w' v l:=by
 refine⟨h.1,?_⟩
 rcases h.2 with h1|⟨g,cap,o,rfl,z,D,r⟩
 ·exact .inl h1
 ·refine .inr ⟨g,cap,o,rfl,z,?_,r⟩
  rw[F.block g (Array.getElem?_eq_some_iff.1 D).1 (fun e=>A g e.symm rfl)];exact D
theorem aL.setBelow(h:aL E B w v l){a:Addr}(D:a.block<B)(u:Value):aL E B (w.setCell a u) v l:=by
 refine⟨h.1,?_⟩
 rcases h.2 with h1|⟨g,cap,o,rfl,z,A,r⟩
 ·exact .inl h1
 ·refine .inr ⟨g,cap,o,rfl,z,?_,r⟩
  rw[Below.heap_setCell w a u g (by omega)];exact A
theorem aL.cases(h:aL E B w v l):(v=.slice none 0 0/\l=[])∨∃g cap,v=.slice (some ⟨g,0,none⟩) l.length cap/\B<=g/\g<w.heap.size:=by
 rcases h.2 with h1|⟨g,cap,z,rfl,o,A,_⟩
 ·exact .inl h1
 ·exact .inr ⟨g,cap,rfl,o,(Array.getElem?_eq_some_iff.1 A).1⟩
theorem aL.cell'{g n cap:Nat}(h:aL E B w (.slice (some ⟨g,0,none⟩) n cap) l)(j:Nat)(A:j<l.length):w.cell? ⟨g,j,none⟩=some (.int .i64 l[j]):=by
 rcases h.2 with⟨e,_⟩|⟨L,z,o,e,_,I,K,F,_,ht⟩
 ·simp at e
 ·simp only[Value.slice.injEq,Option.some.injEq,Addr.mk.injEq,and_true]at e
  obtain⟨rfl,_,rfl⟩:=e;have D:w.cell? ⟨g,j,none⟩=o[j]?:=cell_of_row w g j o E (0,0) I;rw[D];have h1:(o.toList.take l.length)[j]?=some (.int .i64 l[j]):=by rw[ht,List.getElem?_map,List.getElem?_eq_getElem A];rfl
  rw[List.getElem?_take_of_lt A]at h1;rw[<-Array.getElem?_toList];exact h1
theorem aL.ints(h:aL E B w v l):aD w v l:=by
 rcases h.2 with⟨rfl,rfl⟩|⟨g,cap,z,rfl,A,F,o,D,K,ht⟩
 ·exact⟨none,0,rfl,Nat.le_refl _,Nat.zero_le _,by simp,.inl rfl⟩
 ·exact⟨_,cap,rfl,o,K,h.1,.inr ⟨g,0,rfl,(Array.getElem?_eq_some_iff.1 F).1,fun k I=>by rw[Nat.zero_add];exact h.cell' k I⟩⟩
theorem aL.shape(h:aL E B w v l):∃a c,v=.slice a l.length c:=by
 obtain⟨a,c,rfl,_⟩:=h.ints;exact⟨a,c,rfl⟩
theorem aL.shape3(h:aL E B w v l):∃a n c,v=.slice a n c:=by
 obtain⟨a,c,rfl,_⟩:=h.ints;exact⟨a,_,c,rfl⟩
theorem aL.cellAt{g n cap:Nat}(h:aL E B w (.slice (some ⟨g,0,none⟩) n cap) l)(_:n=l.length)(j:Nat)(o:j<l.length):w.cell? ⟨g,j,none⟩=some (.int .i64 l[j]):=h.cell' j o
theorem aL.frozenAt{g n cap:Nat}(h:aL E B w (.slice (some ⟨g,0,none⟩) n cap) l)(_:n=l.length)(j:Nat):w.frozen? ⟨g,j,none⟩=false:=by
 rcases h.2 with⟨e,_⟩|⟨D,o,z,e,_,A,_⟩
 ·simp at e
 ·simp only[Value.slice.injEq,Option.some.injEq,Addr.mk.injEq,and_true]at e
  obtain⟨rfl,_,rfl⟩:=e;simp[World.frozen?,A]
theorem aL.stored{g n cap:Nat}(h:aL E B w (.slice (some ⟨g,0,none⟩) n cap) l)(O:n=l.length)(j:Nat)(y:Int)(Q:bA y):
  aL E B (w.setCell ⟨g,j,none⟩ (.int .i64 y)) (.slice (some ⟨g,0,none⟩) n cap) (l.set j y)/\w.grownBy (w.setCell ⟨g,j,none⟩ (.int .i64 y)) (some g):=by
 subst O;refine⟨⟨?_,?_⟩,⟨rfl,rfl,rfl,by simp,fun b hb I=>Below.heap_setCell w _ _ b (by intro e;exact I (by rw[e]))⟩⟩
 ·intro z o
  rcases List.mem_or_eq_of_mem_set o with o|o
  ·exact h.1 z o
  ·subst o;exact Q
 ·right
  rcases h.2 with⟨e,_⟩|⟨R,K,A,e,L,M,F,D,N,ht⟩
  ·simp at e
  ·simp only[Value.slice.injEq,Option.some.injEq,Addr.mk.injEq,and_true]at e
   obtain⟨rfl,_,rfl⟩:=e;refine⟨g,cap,A.setIfInBounds j (.int .i64 y),by simp,L,?_,by simpa using F,by simpa using D,N,?_⟩
   ·simp[World.setCell,Array.getElem?_modify,M]
   ·rw[List.length_set,Array.toList_setIfInBounds,List.take_set,ht,List.map_set]
end
def aF(u v:Value):Prop:=∀k,u.ownBlock=some k->v.ownBlock≠some k
theorem aF.symm{u v:Value}(h:aF u v):aF v u:=fun k o z=>h k z o
theorem aF.of_lt{E o:TypeId}{B B':Nat}{w w':World}{u v:Value}{l m:List Int}(h:aL E B w u l)(z:aL o B' w' v m)(F:w.heap.size<=B'):aF u v:=fun k A D=>by
 have:=(h.lt k A).2;have:=(z.lt k D).1;omega
theorem aC.cut{E:TypeId}{B:Nat}{w:World}{g n cap:Nat}{l:List Int}(h:aC E B w (.slice (some ⟨g,0,none⟩) n cap) l)(k:Nat)(K:k<=l.length):aC E B w (.slice (some ⟨g,0,none⟩) k cap) (l.take k):=by
 obtain⟨⟨O,h1⟩,h2⟩:=h
 rcases h1 with⟨e,_⟩|⟨N,D,o,e,F,I,Q,L,z,ht⟩
 ·simp at e
 ·simp only[Value.slice.injEq,Option.some.injEq,Addr.mk.injEq,and_true]at e
  obtain⟨rfl,rfl,rfl⟩:=e;have A:(l.take k).length=k:=by simp;omega
  refine⟨⟨by rw[List.length_map,A];omega,.inr ⟨g,cap,o,by rw[A],F,I,by omega,L,z,?_⟩⟩,fun x M=>h2 x (List.mem_of_mem_take M)⟩;rw[A,Nat.mul_one];rw[Nat.mul_one]at ht;rw[List.map_take,<-ht,List.take_take,Nat.min_eq_left K]
theorem aC.holds{E:TypeId}{B:Nat}{w:World}{g n cap:Nat}{l:List Int}(h:aC E B w (.slice (some ⟨g,0,none⟩) n cap) l)(A:n=l.length):Go.Sort.Holds (Value.int .i64) w g 0 l.toArray:=by
 intro j z;have o:j<l.length:=by simpa using z
 refine⟨?_,?_⟩
 ·rw[Nat.zero_add,h.cellAt A j o,getElem!_pos l.toArray j z];simp
 ·rw[Nat.zero_add];exact h.frozenAt A j
theorem aC.put{E:TypeId}{B:Nat}{w:World}{g n cap:Nat}{l:List Int}(h:aC E B w (.slice (some ⟨g,0,none⟩) n cap) l)(z:List Int)(O:z.length=l.length)(hr:∀x∈z,bA x)(q:Nat)(os:Array Obj):
  aC E B (Go.Sort.grow (Go.Sort.putRow (Value.int .i64) (Go.Sort.ahead w q) g 0 z.toArray) os) (.slice (some ⟨g,0,none⟩) n cap) z/\w.grownBy (Go.Sort.grow (Go.Sort.putRow (Value.int .i64) (Go.Sort.ahead w q) g 0 z.toArray) os) (some g):=by
 obtain⟨⟨S,h1⟩,h2⟩:=h
 rcases h1 with⟨e,_⟩|⟨R,K,A,e,M,L,U,Q,F,ht⟩
 ·simp at e
 ·simp only[Value.slice.injEq,Option.some.injEq,Addr.mk.injEq,and_true]at e
  obtain⟨rfl,rfl,rfl⟩:=e;have hlt:=(Array.getElem?_eq_some_iff.1 L).1;have o:∀b,b<w.heap.size->(Go.Sort.grow (Go.Sort.putRow (Value.int .i64) (Go.Sort.ahead w q) g 0 z.toArray) os).heap[b]?=(w.heap.modify g (Go.Sort.onCells (Go.Sort.putCells (Value.int .i64) 0 z.toArray)))[b]?:=by
   intro b hb;unfold Go.Sort.grow Go.Sort.putRow Go.Sort.mapBlock Go.Sort.ahead;simp only;rw[Array.getElem?_append_left (by simpa using hb)]
  refine⟨⟨⟨by rw[List.length_map,Nat.mul_one],.inr ⟨g,cap,Go.Sort.putCells (Value.int .i64) 0 z.toArray A,by rw[O],M,?_,by omega,Q,?_,?_⟩⟩,hr⟩,⟨rfl,rfl,rfl,?_,?_⟩⟩
  ·rw[o g hlt,Array.getElem?_modify,if_pos rfl,L];rfl
  ·unfold Go.Sort.putCells;simpa using F
  ·rw[Nat.mul_one]
   have N:l.length<=A.size:=by omega
   apply List.ext_getElem?
   intro k
   by_cases D:k<z.length
   ·rw[List.getElem?_take_of_lt D,Array.getElem?_toList]
    unfold Go.Sort.putCells;rw[Array.getElem?_mapIdx,Array.getElem?_eq_getElem (show k<A.size by omega),Option.map_some,if_pos ⟨by omega,by simpa using D⟩,Nat.sub_zero,getElem!_pos z.toArray k (by simpa using D),List.getElem?_map,List.getElem?_eq_getElem D];simp
   ·rw[List.getElem?_eq_none (by simp;omega),List.getElem?_eq_none (by simpa using D)]
  ·simp[Go.Sort.grow,Go.Sort.putRow,Go.Sort.mapBlock,Go.Sort.ahead]
  ·intro b hb I
   rw[o b hb,Array.getElem?_modify,if_neg (fun e=>I (by rw[e]))]
end Go.G5
end
