/- Lemmas for CardReports. No condition. -/
import Derived.Test.YtcpoomdoodlkjaaGreatDoorQ01
import Derived.Test.YtcpoomdoodlkjaaGreatDoorRows
import Derived.Lib.SmallJoins
import Derived.Deep.Light
import Derived.Deep.AppendLies
set_option maxRecDepth 100000
set_option maxHeartbeats 64000000
namespace Go.Proofs.YtcpoomdoodlkjaaGreatDoor
section
open Go.RowKit Go.G5 Go.Proofs.Tryz
theorem aS:IntElem prog 3:=⟨by kernel_rfl⟩
end
section
open Go.Proofs.Tryz
open Go.ChangeShapes Go.WideShapes Go.ChangeAt Go.RowKit Go.G5
set_option maxRecDepth 100000
theorem own:ownKnob prog.godebug=none:=aT
theorem agK:laidOutB prog=true:=aT
section
variable {H:Type} {enc:TypeId×Value->H} {P:Program} {w:World} {base:Nat} {spare:Nat->Bool} {held:Bool}
theorem ZJ{w:World}{a:Addr}{v:Value}(h:w.cell? a=some v):a.block<w.heap.size:=World.block_lt_of_cell? w a h
theorem UA{w:World}{a:Addr}{v:Value}(h:w.cell? a=some v):a.spot=none:=by
 unfold World.cell? at h
 split at h
 ·split at h
  ·simp at h
  ·rename_i z;simpa using z
 ·simp at h
end
theorem FY{H:Type}{enc:TypeId×Value->H}{P:Program}{w:World}{base:Nat}{spare:Nat->Bool}{held:Bool}:
  ∀{ts:List TypeId} {I:List Value} {z:List (DataW H)} {F:List MemPlace},DataW.TrodAll enc P w base spare held ts I z F->z.length=ts.length
 |[],_,_,_,h=>by
  obtain⟨rfl,rfl,rfl⟩:=trodAll_nil h
  rfl
 |t::ts,_,_,_,h=>by obtain⟨v,J,d,D,a,b,rfl,rfl,rfl,h1,h2⟩:=trodAll_cons h;simp[FY h2]
theorem CE{H:Type}{enc:TypeId×Value->H}{P:Program}(hl:laidOutB P=true){W W':World}(hb:Below W W W'):
  ∀{ts:List TypeId} {I:List Value} {F:List (DataW H)} {D:List MemPlace},(ts.all fun t=>P.readableRec t&&decide (t<P.types.size))=true ->
   DataW.TrodAll enc P W 0 (fun _=>true) true ts I F D->(∀x∈D,x.block<W.heap.size)->DataW.TrodAll enc P W' 0 (fun b=>decide (b<W.heap.size)) true ts I F D
 |[],_,_,_,_,h,_=>by obtain⟨rfl,rfl,rfl⟩:=trodAll_nil h;exact trodAll_mk0
 |t::ts,_,_,_,hr,h,hlt=>by obtain⟨v,K,d,J,a,b,rfl,rfl,rfl,h1,h2⟩:=trodAll_cons h;simp only[List.all_cons,Bool.and_eq_true,decide_eq_true_eq]at hr;exact trodAll_cons_mk (Below.trod hl hr.1.1 hr.1.2 h1 hb fun x z=>hlt x (by simp[z])) (CE hl hb (by simpa using hr.2) h2 fun x z=>hlt x (by simp[z]))
section
variable {H:Type} {enc:TypeId×Value->H} {W:World} {base:Nat} {v:Value} {d:DataW H} {p:List MemPlace}
end
end
section
open Go.RowKit Go.G5 Go.Proofs.Tryz
def eZ(n D z:Int):Bool:=decide (D<=n)&&decide (n<=z)
theorem dK{n D z:Int}:eZ n D z=true↔D<=n/\n<=z:=by simp[eZ]
theorem jF(n z D:Int)(w:World):
  Calls prog 158 #[n,z,D] w fun e w'=>e=.returned (.bool (eZ n z D))/\w=w':=by
 unfold eZ;by_cases h1:z<=n
 ·go_enter func158,ntmps158;go_wp2;go_ret;exact⟨by simp[h1],rfl⟩
 ·have h2:decide (z<=n)=false:=by simpa using h1
  go_enter func158,ntmps158;go_wp2;go_ret;exact⟨aZ (by simp),rfl⟩
theorem cQ(n z D:Int)(w:World):
  Calls prog 174 #[n,z,D] w fun e w'=>e=.returned (.bool (eZ n z D))/\w=w':=by
 unfold eZ;by_cases h1:z<=n
 ·go_enter func174,ntmps174;go_wp2;go_ret;exact⟨by simp[h1],rfl⟩
 ·have h2:decide (z<=n)=false:=by simpa using h1
  go_enter func174,ntmps174;go_wp2;go_ret;exact⟨aZ (by simp),rfl⟩
def gP:Nat->Nat
 |0=>1
 |n+1=>(n+1)*gP n
theorem NX(a b:Nat)(h:a<=b):gP a<=gP b:=by
 induction b with
 |zero=>have:a=0:=aK;subst this;exact aO
 |succ b ih=>
  by_cases hb:a<=b
  ·have:=ih hb
   calc gP a<=gP b:=this
    _<=(b+1)*gP b:=Nat.le_mul_of_pos_left _ aK
  ·have:a=b+1:=aK;subst this;exact aO
def uO(n:Int):Int:=if eZ n 0 12 then gP n.toNat else -1
theorem agE:gP 12=479001600:=by decide
theorem WV(k:Nat)(h:k<=12):gP k<=479001600:=agE▸NX k 12 h
theorem NW(n:Int)(w:World):
  Calls prog 175 #[n] w fun e w'=>e=.returned (uO n)/\w=w':=by
 cases z:eZ n 0 12 with
 |false=>
  have F:uO n=-1:=by unfold uO;rw[z];rfl
  go_enter func175,ntmps175;go_wp2_with (go_at_call 174;refine(cQ _ _ _ _).mono ?_;rintro e w' ⟨rfl,rfl⟩);go_ret;exact⟨fI F.symm,rfl⟩
 |true=>
  have hb:=dK.1 z;have h0:0<=n:=hb.1;have N:n<=12:=hb.2;have F:uO n=gP n.toNat:=by unfold uO;rw[z];rfl
  have K:=aN F;clear F hb;go_enter func175,ntmps175;go_wp2_with (go_at_call 174;refine(cQ _ _ _ _).mono ?_;rintro e w' ⟨rfl,rfl⟩);go_loop [3,4] (fun p i=>∃k:Nat,1<=k/\k<=12/\(k:Int)<=max n 1/\i=aM (k+1)/\p=aM (gP k)) (fun _ i=>14-(intOf i).toNat)
  case atStart=>exact⟨1,by omega,by omega,by omega,rfl,rfl⟩
  case round=>
   obtain⟨k,S,D,Y,rfl,rfl⟩:=hrel;have O:=WV k D;by_cases hlt:(k:Int)+1<=n
   ·have J:gP (k+1)=(k+1)*gP k:=rfl;have I:=WV (k+1) aK;have hm:(gP k:Int)*(k+1)=gP (k+1):=by rw[J];push_cast;exact Int.mul_comm _ _
    have Z:(gP k:Int)*(k+1)<=479001600:=by rw[hm];omega
    have R:0<=(gP k:Int)*(k+1):=by rw[hm];omega
    have M:=aN hm;clear J hm;go_wp2;go_round
    case rel=>exact⟨k+1,by omega,by omega,by omega,by go_num,by rw[M.out]⟩
    case measure=>simp[intOf];omega
   ·go_wp2;go_ret;refine⟨fI ?_,rfl⟩;rw[K.out];by_cases h1:1<=n
    ·rw[show n.toNat=k from by omega]
    ·have:n.toNat=0:=aK;rw[this,show k=1 from by omega];rfl
def SG(n:Nat):Int:=match n with
 |0=>0
 |n+1=>SG n+60/((n:Int)+1)
theorem O6(n:Int)(z:0<=n)(D:n<2^62):IntKind.i64.wrap n=n:=by rw[IntKind.wrap_i64];omega
theorem IQ(a b:Nat)(z:a<2^62)(hb:b<2^62):bits .and .i64 (a:Int) (b:Int)=((a &&& b:Nat):Int):=(bits_nat .i64 62 aY O6 a b z hb).1
theorem IR(a b:Nat)(z:a<2^62)(hb:b<2^62):bits .or .i64 (a:Int) (b:Int)=((a ||| b:Nat):Int):=(bits_nat .i64 62 aY O6 a b z hb).2
theorem QU(a:Nat)(z:a<2^62):bits .and .i64 (a:Int) 1=((a%2:Nat):Int):=by
 have:=IQ a 1 z aY;rw[Nat.and_one_is_mod]at this;exact this
def cV(a b:Nat):Nat:=a-(a &&& b)
theorem vS(a b:Nat)(z:a<64)(hb:b<64):bits .andNot .i64 (a:Int) (b:Int)=((cV a b:Nat):Int):=by
 have h:∀a,a<64->∀b,b<64->bits .andNot .i64 ((a:Nat):Int) ((b:Nat):Int)=((cV a b:Nat):Int):=by decide +kernel
 exact h a z b hb
theorem agS(a b:Nat)(z:a<64)(hb:b<64):a ||| b<64:=Nat.or_lt_two_pow (n:=6) z hb
theorem xY(a b n:Nat)(z:a<n):cV a b<n:=by unfold cV;omega
theorem cO(n m:Nat)(h:n<=m):(2:Int)^n<=2^m/\0<(2:Int)^n:=by
 constructor
 ·have:=Nat.pow_le_pow_right (show 0<2 by decide) h
  exact_mod_cast this
 ·have:=Nat.two_pow_pos n
  exact_mod_cast this
def bR(n:Nat):Nat:=(List.range 64).foldl (fun a i=>a+(n >>> i)%2) 0
theorem ZR(n:Nat)(w:World)(h:n<256):
  Calls prog 298 #[.int .u64 n] w fun e w'=>e=.returned (bR n)/\w=w':=by
 go_enter func298,ntmps298;go_wp2;go_ret;refine⟨fI ?_,rfl⟩;clear w
 revert n
 decide +kernel
theorem aeS(n:Nat)(w:World)(h:n<256):
  Calls prog 259 #[.int .u64 n] w fun e w'=>e=.returned (bR n)/\w=w':=by
 go_enter func259,ntmps259;go_wp2_with (go_at_call 298;refine(ZR n _ h).mono ?_;rintro e w' ⟨rfl,rfl⟩);go_ret;exact⟨rfl,rfl⟩
theorem gI(n:Nat)(w:World)(h:n<256):
  Calls prog 165 #[n] w fun e w'=>e=.returned (bR n)/\w=w':=by
 go_enter func165,ntmps165;go_wp2_with (go_at_call 259;refine(aeS n _ h).mono ?_;rintro e w' ⟨rfl,rfl⟩);go_ret;exact⟨rfl,rfl⟩
theorem aeZ(n:Nat)(h:n<256):bR n=n%2+bR (n/2):=by
 revert n;decide +kernel
theorem TQ:bR 0=0:=by decide +kernel
theorem rR(n:Nat)(h:n<256):bR n<=8:=by
 revert n;decide +kernel
theorem fE(n:Nat)(w:World)(h:n<=40):
  Calls prog 187 #[n] w fun e w'=>e=.returned (aM (2^n-1))/\w=w':=by
 have h2:=cO n 40 h;have h3:=h2.1;have h4:=h2.2;simp at h3;clear h2;go_enter func187,ntmps187;go_wp2;go_ret;exact⟨rfl,rfl⟩
theorem eP(n:Nat)(w:World)(h:n<256):
  Calls prog 154 #[n] w fun e w'=>e=.returned (bR n)/\w=w':=by
 go_enter func154,ntmps154;go_wp2;go_loop [3,4] (fun s x=>∃k q:Nat,k<256/\q+bR k=bR n/\s=aM q/\x=aM k) (fun _ x=>(intOf x).toNat)
 case atStart=>exact⟨n,0,h,by omega,rfl,rfl⟩
 case round=>
  obtain⟨k,q,hk,z,rfl,rfl⟩:=hrel;have D:=aeZ k hk;have K:=rR n h;have hb:=QU k aK;have I:q<=8:=aK;have hm:k%2<2:=aK;have H:=aN z;have F:=aN D;clear D z;by_cases J:0<k
  ·go_wp2
   go_round
   case rel=>exact⟨k/2,q+k%2,by omega,by have:=H.out;have:=F.out;omega,by go_num,by go_num⟩
   case measure=>simp[intOf];omega
  ·go_wp2;go_ret;refine⟨fI ?_,rfl⟩;have h1:=H.out;have h2:k=0:=aK;rw[h2,TQ]at h1;omega
end
end Go.Proofs.YtcpoomdoodlkjaaGreatDoor
section
namespace Go.G5
open Go Go.RowKit
def aU(w:World)(g:Nat)(t:TypeId)(cs:Array Value):Prop:=w.heap[g]?=some (.cells cs t (0,0))
section
variable {w w':World} {g:Nat} {t:TypeId} {cs:Array Value}
theorem aU.lt(h:aU w g t cs):g<w.heap.size:=(Array.getElem?_eq_some_iff.1 h).1
theorem aU.cell(h:aU w g t cs):∀i,w.cell? ⟨g,i,none⟩=cs[i]?:=fun i=>cell_of_row w g i cs t (0,0) h
theorem aU.frozen(h:aU w g t cs):∀i,w.frozen? ⟨g,i,none⟩=false:=fun i=>by
 unfold aU at h;simp[World.frozen?,h]
theorem aU.new(w:World)(t:TypeId)(cs:Array Value):aU (w.alloc (.cells cs t)) w.heap.size t cs:=heap_alloc_new w _
theorem aU.keep(h:aU w g t cs)(hb:Below w.heap.size w w'):aU w' g t cs:=(hb.block g h.lt).trans h
theorem aU.alloc(h:aU w g t cs)(o:Obj):aU (w.alloc o) g t cs:=h.keep (bF w o)
theorem aU.drewN(h:aU w g t cs)(n:Nat):aU (w.drewN n) g t cs:=h
theorem aU.set(h:aU w g t cs)(i:Nat)(u:Value):aU (w.setCell ⟨g,i,none⟩ u) g t (cs.setIfInBounds i u):=by
 unfold aU at h ⊢;simp[World.setCell,Array.getElem?_modify,h]
theorem aU.far(h:aU w g t cs){p:Addr}(z:g≠p.block)(u:Value):aU (w.setCell p u) g t cs:=(Below.heap_setCell w p u g z).trans h
theorem aU.grow{row:Option Nat}(h:aU w g t cs)(hb:w.grownBy w' row)(z:row≠some g):aU w' g t cs:=(hb.block g h.lt (fun e=>z e.symm)).trans h
end
theorem eJ{V w:World}{c:Array Value}{T:TypeId}(h:V=w.alloc (.cells c T)):aU V w.heap.size T c:=by rw[h];exact aU.new _ _ _
theorem gO{V w:World}{c:Array Value}{T:TypeId}{o:Obj}(h:V=(w.alloc (.cells c T)).alloc o):aU V w.heap.size T c:=by rw[h];exact(aU.new _ _ _).alloc _
theorem gY{V w:World}{c:Array Value}{T:TypeId}{o:Obj}(h:V=(w.alloc o).alloc (.cells c T)):aU V (w.heap.size+1) T c:=by rw[h];have:=aU.new (w.alloc o) T c;simpa using this
theorem bG{P:Program}{f:Func}{Q:Ending->World->Prop}{e:Exit}{a:Act}{W:World}(h:∀W',W'=W->bodyPost P f Q e a W'):bodyPost P f Q e a W:=h W rfl
end Go.G5
end
section
namespace Go.G5
open Go Go.RowKit
section
variable {P:Program} {w:World}
theorem V7(T E ty:TypeId)(O:P.underlying T=some (.slice E))(hE:IntElem P E)(B:Nat)(v:Value)(l:List Int)(z:aP E B w v l)
  (sv:Value) (m:List Int) (hs:aR w sv m) (Z:l.length+m.length<=17592186044416) (hB:B<=w.heap.size):
  ∃N w',(Builtin.append_ #[T,T] ty #[v,sv]).run P w=.ok N w'/\aP E B w' N (l++m)/\w.grownBy w' v.ownBlock:=by
 obtain⟨i,R,hz,h1,h8⟩:=hE.get;obtain⟨ad,c,rfl,b1,hcm,hr,h4⟩:=hs;have K:∀q∈l++m,dD q:=fun q hq=>(List.mem_append.1 hq).elim (z.2 q) (hr q);have F:ad=none->m=[]:=by
  intro e;rcases h4 with h|⟨b,J,hb,_⟩
  ·exact h
  ·rw[e]at hb;cases hb
 cases ad with
 |none=>
  have:=F rfl;subst this;refine⟨v,w,?_,by simpa using z,World.grownBy.refl w _⟩;rcases z.1.2 with⟨rfl,hn⟩|⟨g,cap,a7,rfl,_,_,S,_⟩
  ·simp[Builtin.append_,run_underlying O,sizeOf,typeInfo,R,Builtin.lenOf,Builtin.firstCells]
  ·simp[Builtin.append_,run_underlying O,sizeOf,typeInfo,R,Builtin.lenOf,Builtin.firstCells,S,storeCells]
 |some ad=>
  have D:∀j u,(m.map (Value.int .i64))[j]?=some u->w.cell? (ad.add j)=some u:=by
   intro j u I;rcases h4 with h|⟨b,J,hb,_,hc⟩
   ·subst h;simp at I
   ·simp only[Option.some.injEq]at hb
    subst hb;have Y:j<m.length:=by
     rcases Nat.lt_or_ge j m.length with h|h
     ·exact h
     ·rw[List.getElem?_eq_none (by simpa using h)]at I;cases I
    have:=hc j Y;have e:(⟨b,J,none⟩:Addr).add j=⟨b,J+j,none⟩:=by
     unfold Addr.add;split
     ·rename_i h0;rw[h0];rfl
     ·rfl
    rw[e,this];rw[List.getElem?_map,List.getElem?_eq_getElem Y]at I;exact I
  obtain⟨N,w',M,h2,h3,_⟩:=run_append_own_at (P:=P) w B T ty E i (aM 0) 1 8 O R hz h1 h8 rfl aY v l.length (l.map (Value.int .i64)) z.1 ad m.length c (m.map (Value.int .i64)) (by simp) D
   (by intro u I;obtain⟨q,_,rfl⟩:=List.mem_map.1 I;rfl) (by unfold maxLen;omega) aK hB
  exact⟨N,w',M,⟨by simpa using h2,K⟩,h3⟩
theorem LP{o:Oper}{a:Act}{K:Act->World->Prop}{Q:Exit->Act->World->Prop}(s x:Operand)(t:TypeId)
  (R:o.op=.call { callee:=.builtin .append,args:=#[s,x],argTypes:=#[t,t] })
  (E:TypeId) (O:P.underlying t=some (.slice E)) (N:IntElem P E) (B:Nat) (v:Value) (l:List Int) (S:a.eval s=v) (D:aP E B w v l)
  (M:Value) (m:List Int) (Y:a.eval x=M) (J:aR w M m) (z:l.length+m.length<=17592186044416) (hB:B<=w.heap.size)
  (h:∀I w',aP E B w' I (l++m)->w.grownBy w' v.ownBlock->K (a.put o.dst I) w'):o.wp P a w K Q:=by
 obtain⟨I,w',F,h2,h3⟩:=V7 (P:=P) t E o.type O N B v l D M m J z hB;unfold Oper.wp execOp;simp only[R,resolve,invoke,builtin,Sem.run_bind,Sem.run_pure,Result.andThen_ok,List.map_toArray,List.map_cons,List.map_nil,S,Y,F];exact h I w' h2 h3
theorem vO{ops:Array Oper}{rest:List Oper}{o:Oper}{a:Act}{Q:Exit->Act->World->Prop}(I:o.guard=none)(s x:Operand)(t:TypeId)
  (R:o.op=.call { callee:=.builtin .append,args:=#[s,x],argTypes:=#[t,t] })
  (E:TypeId) (O:P.underlying t=some (.slice E)) (M:IntElem P E) (B:Nat) (v:Value) (l:List Int) (S:a.eval s=v) (D:aP E B w v l)
  (K:Value) (m:List Int) (Y:a.eval x=K) (J:aR w K m) (z:l.length+m.length<=17592186044416) (hB:B<=w.heap.size)
  (h:∀F w',aP E B w' F (l++m)->w.grownBy w' v.ownBlock->wpList P ops Q rest (a.put o.dst F) w'):wpList P ops Q (o::rest) a w:=
 wpList_plain I fun _ N=>LP s x t R E O M B v l S D K m Y J z hB fun F w' h2 h3=>N _ _ (h F w' h2 h3)
theorem DZ{ops:Array Oper}{o:Oper}{a:Act}{K:Act->World->Prop}{Q:Exit->Act->World->Prop}{F:Prop}(I:o.guard=none)(s x:Operand)(t:TypeId)
  (S:o.op=.call { callee:=.builtin .append,args:=#[s,x],argTypes:=#[t,t] })
  (E:TypeId) (R:P.underlying t=some (.slice E)) (O:IntElem P E) (B:Nat) (v:Value) (l:List Int) (Y:a.eval s=v) (D:aP E B w v l)
  (M:Value) (m:List Int) (Z:a.eval x=M) (J:aR w M m) (z:l.length+m.length<=17592186044416) (hB:B<=w.heap.size)
  (h:∀N w',aP E B w' N (l++m)->w.grownBy w' v.ownBlock->K (a.put o.dst N) w'):if Region.wanted o (yielded ops a.tmps)=true then Oper.wp P o a w K Q else F:=by
 have hw:Region.wanted o (yielded ops a.tmps)=true:=by simp[Region.wanted,I]
 rw[if_pos hw];exact LP s x t S E R O B v l Y D M m Z J z hB h
theorem rU{ops:Array Oper}{o:Oper}{a:Act}{K:Act->World->Prop}{Q:Exit->Act->World->Prop}{F:Prop}(D:o.guard=none)(s x:Operand)(t:TypeId)
  (Y:o.op=.call { callee:=.builtin .append,args:=#[s,x],argTypes:=#[t,t] })
  (E:TypeId) (S:P.underlying t=some (.slice E)) (R:IntElem P E) (B:Nat) (v:Value) (l:List Int) (y:Int) (b:Nat) (Z:a.eval s=v) (hx:a.eval x=aI (some ⟨b,0,none⟩) 1 1)
  (N:w.cell? ⟨b,0,none⟩=some (aM y))
  (z:aP E B w v l) (I:dD y) (J:l.length<17592186044415) (hB:B<=w.heap.size)
  (h:∀O w',aP E B w' O (l++[y])->w.grownBy w' v.ownBlock->K (a.put o.dst O) w'):if Region.wanted o (yielded ops a.tmps)=true then Oper.wp P o a w K Q else F:=
 DZ D s x t Y E S R B v l Z z (aI (some ⟨b,0,none⟩) 1 1) [y] hx
  ⟨some ⟨b,0,none⟩,1,rfl,aO,by decide,by intro q M;simp only[List.mem_singleton]at M;subst M;exact I,
   .inr ⟨b,0,rfl,World.block_lt_of_cell? w _ N,fun k hk=>by have:k=0:=(by simpa using hk);subst this;exact N⟩⟩ aV hB h
end
theorem aR.from{P:Program}{w:World}{a:Option Addr}{c:Nat}{l:List Int}(h:aR w (aI a l.length c) l)(T E:TypeId)(N:P.underlying T=some (.slice E))(R:IntElem P E)(k:Nat)(hk:k<=l.length):
  ∃K M,(∀(J:IntKind) (w':World),(Instr.slice T (aI a l.length c) (some (.int J (k:Int))) none none).run P w'=.ok (.slice K (l.drop k).length M) w')/\aR w (.slice K (l.drop k).length M) (l.drop k):=by
 obtain⟨i,S,_,h1,_⟩:=R.get;have z:P.elem T=E:=by simp[Program.elem,N]
 obtain⟨hl,hcl,hcm⟩:=h.capLe;refine⟨if c=k then a else a.map (·.add (k*1)),c-k,fun J w'=>?_,?_⟩
 ·rw[run_slice_l w' T a l.length c (by rw[z];exact N) J k aK aK];simp[sizeOf,typeInfo,z,S,h1,Result.andThen,sliced,List.length_drop]
 ·rcases Nat.lt_or_ge k l.length with hlt|I
  ·have F:=h;obtain⟨Y,c1,O,_,_,_,h4⟩:=F;simp only[Value.slice.injEq]at O;obtain⟨rfl,_,rfl⟩:=O;rcases h4 with rfl|⟨b,D,rfl,_,_⟩
   ·simp at hlt
   ·rw[if_neg aK]
    have:=aR.dropK h k aK;rw[List.length_drop];have e:(Option.map (fun x:Addr=>x.add (k*1)) (some (⟨b,D,none⟩:Addr)))=some ⟨b,D+k,none⟩:=by
     simp only[Option.map_some,Nat.mul_one,Addr.add]
     split
     ·rename_i F;rw[F];rfl
     ·rfl
    rw[e];exact this
  ·have e:l.drop k=[]:=List.drop_eq_nil_of_le I;rw[e];exact aR.empty w _ _ _ rfl aK
end Go.G5
namespace Go.Proofs.YtcpoomdoodlkjaaGreatDoor
open Go.RowKit Go.G5 Go.Proofs.Tryz
theorem kW(v:Value)(l:List Int)(w:World)(K:aR w v l)(hl:l.length<=1048576):
  Calls prog 260 #[v] w fun e w'=>∃ad i c,e=.returned (aI ad i c)/\aP 3 w w' (aI ad i c) l/\Below w w w':=by
 have I:=K;obtain⟨a,c,rfl,h1,h2,h3,h4⟩:=K;have J:=fun(w:World) (a:Option Addr) (n c R N:Nat)=>Lib.run_eql_slice_nil (P:=prog) w 24 3 a n c R N underlying24
 cases a with
 |none=>
  have e:l=[]:=by
   rcases h4 with h|⟨b,Y,hb,_⟩
   ·exact h
   ·cases hb
  subst e;clear h4 h3;go_enter func260,ntmps260;go_wp2;go_ret;exact⟨none,0,0,rfl,aP.nil _ _ _,Below.refl _ _⟩
 |some ad=>clear h4 h3;go_enter func260,ntmps260;go_wp2_with (at_builtin;refine vO rfl _ _ _ rfl 3 underlying24 aS w.heap.size _ [] rfl (aP.lit0 w aO) _ l rfl (I.alloc _) aV (by simp) ?_;intro Z w6 z D;obtain⟨M,S,O,rfl⟩:=z.shape3);go_ret;refine⟨M,S,O,rfl,by simpa using z,(bF w (.cells #[] 3)).grown D (by simp) ?_⟩;intro k hk;have F:some w.heap.size=some k:=hk;exact Nat.le_of_eq (Option.some.inj F)
end Go.Proofs.YtcpoomdoodlkjaaGreatDoor
end
section
namespace Go.G5
open Go Go.RowKit
def dR(E:TypeId)(B:Nat)(w:World)(v:Value)(l:List Int):Prop:=
 (∀x∈l,dD x)/\((v=.slice none 0 0/\l=[])∨∃g cap z,v=.slice (some ⟨g,0,none⟩) l.length cap/\B<=g/\w.heap[g]?=some (.cells z E (0,0))/\l.length<=cap/\cap<=z.size/\cap<=maxLen/\z.toList.take l.length=l.map (Value.int .i64))
section
variable {E:TypeId} {B:Nat} {w w':World} {v:Value} {l:List Int}
theorem aP.toW(h:aP E B w v l):dR E B w v l:=by
 obtain⟨⟨J,h1⟩,h2⟩:=h;refine⟨h2,?_⟩
 rcases h1 with⟨rfl,D⟩|⟨g,cap,z,rfl,hB,I,D,hm,F,ht⟩
 ·exact .inl ⟨rfl,List.eq_nil_of_length_eq_zero D⟩
 ·exact .inr ⟨g,cap,z,rfl,hB,I,D,by omega,hm,by simpa using ht⟩
theorem dR.toW(h:dR E B w v l):dR E B w v l:=h
theorem dR.nil(E:TypeId)(B:Nat)(w:World):dR E B w (.slice none 0 0) []:=⟨by simp,.inl ⟨rfl,rfl⟩⟩
theorem dR.below{B':Nat}(h:dR E B w v l)(hb:Below B' w w')(hB:w.heap.size<=B'):dR E B w' v l:=by
 refine⟨h.1,?_⟩
 rcases h.2 with h1|⟨g,cap,z,rfl,D,F,r⟩
 ·exact .inl h1
 ·exact .inr ⟨g,cap,z,rfl,D,by rw[hb.block g (by have:=(Array.getElem?_eq_some_iff.1 F).1;omega)];exact F,r⟩
theorem dR.keep(h:dR E B w v l)(hb:Below w.heap.size w w'):dR E B w' v l:=h.below hb aO
theorem dR.alloc(h:dR E B w v l)(o:Obj):dR E B (w.alloc o) v l:=h.keep (bF w o)
theorem dR.drewN(h:dR E B w v l)(n:Nat):dR E B (w.drewN n) v l:=h.below ((Below.refl w.heap.size w).drewN' n) aO
theorem dR.mono{B':Nat}(h:dR E B w v l)(hB:B'<=B):dR E B' w v l:=by
 refine⟨h.1,?_⟩
 rcases h.2 with h1|⟨g,cap,z,rfl,D,r⟩
 ·exact .inl h1
 ·exact .inr ⟨g,cap,z,rfl,by omega,r⟩
theorem dR.lt(h:dR E B w v l):∀k,v.ownBlock=some k->B<=k/\k<w.heap.size:=by
 intro k hk
 rcases h.2 with⟨rfl,_⟩|⟨g,cap,D,rfl,z,F,_⟩
 ·simp[Value.ownBlock]at hk
 ·have:g=k:=by simpa[Value.ownBlock]using hk
  subst this;exact⟨z,(Array.getElem?_eq_some_iff.1 F).1⟩
theorem dR.grow{row:Option Nat}(h:dR E B w v l)(J:w.grownBy w' row)(F:∀k,row=some k->v.ownBlock≠some k):dR E B w' v l:=by
 refine⟨h.1,?_⟩
 rcases h.2 with h1|⟨g,cap,z,rfl,D,I,r⟩
 ·exact .inl h1
 ·refine .inr ⟨g,cap,z,rfl,D,?_,r⟩
  rw[J.block g (Array.getElem?_eq_some_iff.1 I).1 (fun e=>F g e.symm rfl)];exact I
theorem dR.setBelow(h:dR E B w v l){a:Addr}(I:a.block<B)(u:Value):dR E B (w.setCell a u) v l:=by
 refine⟨h.1,?_⟩
 rcases h.2 with h1|⟨g,cap,z,rfl,D,F,r⟩
 ·exact .inl h1
 ·refine .inr ⟨g,cap,z,rfl,D,?_,r⟩
  rw[Below.heap_setCell w a u g aK];exact F
theorem dR.cases(h:dR E B w v l):(v=.slice none 0 0/\l=[])∨∃g cap,v=.slice (some ⟨g,0,none⟩) l.length cap/\B<=g/\g<w.heap.size:=by
 rcases h.2 with h1|⟨g,cap,D,rfl,z,F,_⟩
 ·exact .inl h1
 ·exact .inr ⟨g,cap,rfl,z,(Array.getElem?_eq_some_iff.1 F).1⟩
theorem dR.cell'{g n cap:Nat}(h:dR E B w (.slice (some ⟨g,0,none⟩) n cap) l)(j:Nat)(F:j<l.length):w.cell? ⟨g,j,none⟩=some (.int .i64 l[j]):=by
 rcases h.2 with⟨e,_⟩|⟨M,D,z,e,_,J,K,I,_,ht⟩
 ·simp at e
 ·simp only[Value.slice.injEq,Option.some.injEq,Addr.mk.injEq,and_true]at e
  obtain⟨rfl,_,rfl⟩:=e;have hc:w.cell? ⟨g,j,none⟩=z[j]?:=cell_of_row w g j z E (0,0) J;rw[hc];have h1:(z.toList.take l.length)[j]?=some (.int .i64 l[j]):=by rw[ht,List.getElem?_map,List.getElem?_eq_getElem F];rfl
  rw[List.getElem?_take_of_lt F]at h1;rw[<-Array.getElem?_toList];exact h1
theorem dR.ints(h:dR E B w v l):aR w v l:=by
 rcases h.2 with⟨rfl,rfl⟩|⟨g,cap,D,rfl,F,J,z,I,hm,ht⟩
 ·exact⟨none,0,rfl,aO,Nat.zero_le _,by simp,.inl rfl⟩
 ·exact⟨_,cap,rfl,z,hm,h.1,.inr ⟨g,0,rfl,(Array.getElem?_eq_some_iff.1 J).1,fun k hk=>by rw[Nat.zero_add];exact h.cell' k hk⟩⟩
theorem dR.shape(h:dR E B w v l):∃a c,v=.slice a l.length c:=by
 obtain⟨a,c,rfl,_⟩:=h.ints;exact⟨a,c,rfl⟩
theorem dR.shape3(h:dR E B w v l):∃a n c,v=.slice a n c:=by
 obtain⟨a,c,rfl,_⟩:=h.ints;exact⟨a,_,c,rfl⟩
theorem dR.cellAt{g n cap:Nat}(h:dR E B w (.slice (some ⟨g,0,none⟩) n cap) l)(_:n=l.length)(j:Nat)(z:j<l.length):w.cell? ⟨g,j,none⟩=some (.int .i64 l[j]):=h.cell' j z
theorem dR.frozenAt{g n cap:Nat}(h:dR E B w (.slice (some ⟨g,0,none⟩) n cap) l)(_:n=l.length)(j:Nat):w.frozen? ⟨g,j,none⟩=false:=by
 rcases h.2 with⟨e,_⟩|⟨I,z,D,e,_,F,_⟩
 ·simp at e
 ·simp only[Value.slice.injEq,Option.some.injEq,Addr.mk.injEq,and_true]at e
  obtain⟨rfl,_,rfl⟩:=e;simp[World.frozen?,F]
theorem dR.stored{g n cap:Nat}(h:dR E B w (.slice (some ⟨g,0,none⟩) n cap) l)(O:n=l.length)(j:Nat)(y:Int)(R:dD y):
  dR E B (w.setCell ⟨g,j,none⟩ (.int .i64 y)) (.slice (some ⟨g,0,none⟩) n cap) (l.set j y)/\w.grownBy (w.setCell ⟨g,j,none⟩ (.int .i64 y)) (some g):=by
 subst O;refine⟨⟨?_,?_⟩,⟨rfl,rfl,rfl,by simp,fun b hb K=>Below.heap_setCell w _ _ b (by intro e;exact K (by rw[e]))⟩⟩
 ·intro z D
  rcases List.mem_or_eq_of_mem_set D with D|D
  ·exact h.1 z D
  ·subst D;exact R
 ·right
  rcases h.2 with⟨e,_⟩|⟨S,M,F,e,hB,N,J,I,hm,ht⟩
  ·simp at e
  ·simp only[Value.slice.injEq,Option.some.injEq,Addr.mk.injEq,and_true]at e
   obtain⟨rfl,_,rfl⟩:=e;refine⟨g,cap,F.setIfInBounds j (.int .i64 y),by simp,hB,?_,by simpa using J,by simpa using I,hm,?_⟩
   ·simp[World.setCell,Array.getElem?_modify,N]
   ·rw[List.length_set,Array.toList_setIfInBounds,List.take_set,ht,List.map_set]
end
def kB(u v:Value):Prop:=∀k,u.ownBlock=some k->v.ownBlock≠some k
theorem kB.symm{u v:Value}(h:kB u v):kB v u:=fun k hk z=>h k z hk
theorem kB.of_lt{E z:TypeId}{B B':Nat}{w w':World}{u v:Value}{l m:List Int}(h:dR E B w u l)(D:dR z B' w' v m)(hB:w.heap.size<=B'):kB u v:=fun k hk F=>by
 have:=(h.lt k hk).2;have:=(D.lt k F).1;omega
theorem aP.cut{E:TypeId}{B:Nat}{w:World}{g n cap:Nat}{l:List Int}(h:aP E B w (.slice (some ⟨g,0,none⟩) n cap) l)(k:Nat)(hk:k<=l.length):aP E B w (.slice (some ⟨g,0,none⟩) k cap) (l.take k):=by
 obtain⟨⟨M,h1⟩,h2⟩:=h
 rcases h1 with⟨e,_⟩|⟨K,F,z,e,hB,I,N,hm,D,ht⟩
 ·simp at e
 ·simp only[Value.slice.injEq,Option.some.injEq,Addr.mk.injEq,and_true]at e
  obtain⟨rfl,rfl,rfl⟩:=e;have hl:(l.take k).length=k:=by simp;omega
  refine⟨⟨by rw[List.length_map,hl];omega,.inr ⟨g,cap,z,by rw[hl],hB,I,by omega,hm,D,?_⟩⟩,fun x J=>h2 x (List.mem_of_mem_take J)⟩;rw[hl,Nat.mul_one];rw[Nat.mul_one]at ht;rw[List.map_take,<-ht,List.take_take,Nat.min_eq_left hk]
theorem aP.holds{E:TypeId}{B:Nat}{w:World}{g n cap:Nat}{l:List Int}(h:aP E B w (.slice (some ⟨g,0,none⟩) n cap) l)(F:n=l.length):Go.Sort.Holds (Value.int .i64) w g 0 l.toArray:=by
 intro j D;have z:j<l.length:=by simpa using D
 refine⟨?_,?_⟩
 ·rw[Nat.zero_add,h.cellAt F j z,getElem!_pos l.toArray j D];simp
 ·rw[Nat.zero_add];exact h.frozenAt F j
theorem aP.put{E:TypeId}{B:Nat}{w:World}{g n cap:Nat}{l:List Int}(h:aP E B w (.slice (some ⟨g,0,none⟩) n cap) l)(D:List Int)(hl:D.length=l.length)(hr:∀x∈D,dD x)(q:Nat)(os:Array Obj):
  aP E B (Go.Sort.grow (Go.Sort.putRow (Value.int .i64) (Go.Sort.ahead w q) g 0 D.toArray) os) (.slice (some ⟨g,0,none⟩) n cap) D/\w.grownBy (Go.Sort.grow (Go.Sort.putRow (Value.int .i64) (Go.Sort.ahead w q) g 0 D.toArray) os) (some g):=by
 obtain⟨⟨O,h1⟩,h2⟩:=h
 rcases h1 with⟨e,_⟩|⟨N,K,F,e,hB,M,R,hm,I,ht⟩
 ·simp at e
 ·simp only[Value.slice.injEq,Option.some.injEq,Addr.mk.injEq,and_true]at e
  obtain⟨rfl,rfl,rfl⟩:=e;have hlt:=(Array.getElem?_eq_some_iff.1 M).1;have z:∀b,b<w.heap.size->(Go.Sort.grow (Go.Sort.putRow (Value.int .i64) (Go.Sort.ahead w q) g 0 D.toArray) os).heap[b]?=(w.heap.modify g (Go.Sort.onCells (Go.Sort.putCells (Value.int .i64) 0 D.toArray)))[b]?:=by
   intro b hb;unfold Go.Sort.grow Go.Sort.putRow Go.Sort.mapBlock Go.Sort.ahead;simp only;rw[Array.getElem?_append_left (by simpa using hb)]
  refine⟨⟨⟨by rw[List.length_map,Nat.mul_one],.inr ⟨g,cap,Go.Sort.putCells (Value.int .i64) 0 D.toArray F,by rw[hl],hB,?_,by omega,hm,?_,?_⟩⟩,hr⟩,⟨rfl,rfl,rfl,?_,?_⟩⟩
  ·rw[z g hlt,Array.getElem?_modify,if_pos rfl,M];rfl
  ·unfold Go.Sort.putCells;simpa using I
  ·rw[Nat.mul_one]
   have hcl:l.length<=F.size:=aK
   apply List.ext_getElem?
   intro k
   by_cases hk:k<D.length
   ·rw[List.getElem?_take_of_lt hk,Array.getElem?_toList]
    unfold Go.Sort.putCells;rw[Array.getElem?_mapIdx,Array.getElem?_eq_getElem (show k<F.size by omega),Option.map_some,if_pos ⟨by omega,by simpa using hk⟩,Nat.sub_zero,getElem!_pos D.toArray k (by simpa using hk),List.getElem?_map,List.getElem?_eq_getElem hk];simp
   ·rw[List.getElem?_eq_none aV,List.getElem?_eq_none (by simpa using hk)]
  ·simp[Go.Sort.grow,Go.Sort.putRow,Go.Sort.mapBlock,Go.Sort.ahead]
  ·intro b hb J
   rw[z b hb,Array.getElem?_modify,if_neg (fun e=>J (by rw[e]))]
end Go.G5
end
