/- Lemmas for CardReports. No condition. -/
import Derived.Test.YtcpoomdoodlkjaaGreatDoorQ02
import Derived.Lib.ItoaNum
import Derived.Lib.Join
set_option maxRecDepth 100000
set_option maxHeartbeats 64000000
section
namespace Go.G5
open Go Go.RowKit
section
variable {P:Program} {w:World}
def uJ(w:World)(v z:Value):Prop:=z.ownBlock=v.ownBlock∨z.ownBlock=some w.heap.size
theorem V6(T E ty:TypeId)(O:P.underlying T=some (.slice E))(hE:IntElem P E)(B:Nat)(v:Value)(l:List Int)(z:aP E B w v l)
  (sv:Value) (m:List Int) (hs:aR w sv m) (Z:l.length+m.length<=17592186044416) (hB:B<=w.heap.size):
  ∃N w',(Builtin.append_ #[T,T] ty #[v,sv]).run P w=.ok N w'/\aP E B w' N (l++m)/\w.grownBy w' v.ownBlock/\uJ w v N:=by
 obtain⟨i,R,hz,h1,h8⟩:=hE.get;obtain⟨ad,c,rfl,b3,hcm,hr,h4⟩:=hs;have K:∀q∈l++m,dD q:=fun q hq=>(List.mem_append.1 hq).elim (z.2 q) (hr q);have F:ad=none->m=[]:=by
  intro e
  rcases h4 with h|⟨b,J,hb,_⟩
  ·exact h
  ·rw[e]at hb;cases hb
 cases ad with
 |none=>
  have:=F rfl;subst this;refine⟨v,w,?_,by simpa using z,World.grownBy.refl w _,.inl rfl⟩
  rcases z.1.2 with⟨rfl,hn⟩|⟨g,cap,a7,rfl,_,_,S,_⟩
  ·simp[Builtin.append_,run_underlying O,sizeOf,typeInfo,R,Builtin.lenOf,Builtin.firstCells]
  ·simp[Builtin.append_,run_underlying O,sizeOf,typeInfo,R,Builtin.lenOf,Builtin.firstCells,S,storeCells]
 |some ad=>
  have D:∀j u,(m.map (Value.int .i64))[j]?=some u->w.cell? (ad.add j)=some u:=by
   intro j u I
   rcases h4 with h|⟨b,J,hb,_,hc⟩
   ·subst h;simp at I
   ·simp only[Option.some.injEq]at hb
    subst hb;have Y:j<m.length:=by
     rcases Nat.lt_or_ge j m.length with h|h
     ·exact h
     ·rw[List.getElem?_eq_none (by simpa using h)]at I;cases I
    have:=hc j Y;have e:(⟨b,J,none⟩:Addr).add j=⟨b,J+j,none⟩:=by
     unfold Addr.add;split
     ·rename_i h0;rw[h0];rfl
     ·rfl
    rw[e,this];rw[List.getElem?_map,List.getElem?_eq_getElem Y]at I;exact I
  obtain⟨N,w',M,h2,h3,_,h5⟩:=run_append_own_at (P:=P) w B T ty E i (.int .i64 0) 1 8 O R hz h1 h8 rfl aY v l.length (l.map (Value.int .i64)) z.1 ad m.length c (m.map (Value.int .i64)) (by simp) D
   (by intro u I;obtain⟨q,_,rfl⟩:=List.mem_map.1 I;rfl) (by unfold maxLen;omega) aK hB
  exact⟨N,w',M,⟨by simpa using h2,K⟩,h3,h5⟩
theorem LO{o:Oper}{a:Act}{K:Act->World->Prop}{Q:Exit->Act->World->Prop}(s x:Operand)(t:TypeId)
  (R:o.op=.call { callee:=.builtin .append,args:=#[s,x],argTypes:=#[t,t] })
  (E:TypeId) (O:P.underlying t=some (.slice E)) (N:IntElem P E) (B:Nat) (v:Value) (l:List Int) (S:a.eval s=v) (D:aP E B w v l)
  (M:Value) (m:List Int) (Y:a.eval x=M) (J:aR w M m) (z:l.length+m.length<=17592186044416) (hB:B<=w.heap.size)
  (h:∀I w',aP E B w' I (l++m)->w.grownBy w' v.ownBlock->uJ w v I->K (a.put o.dst I) w'):o.wp P a w K Q:=by
 obtain⟨I,w',F,h2,h3,h4⟩:=V6 (P:=P) t E o.type O N B v l D M m J z hB;unfold Oper.wp execOp;simp only[R,resolve,invoke,builtin,Sem.run_bind,Sem.run_pure,Result.andThen_ok,List.map_toArray,List.map_cons,List.map_nil,S,Y,F];exact h I w' h2 h3 h4
theorem aR.one{w:World}{b:Nat}{y:Int}(F:w.cell? ⟨b,0,none⟩=some (.int .i64 y))(z:dD y):aR w (.slice (some ⟨b,0,none⟩) 1 1) [y]:=
 ⟨some ⟨b,0,none⟩,1,rfl,aO,by decide,by intro q D;simp only[List.mem_singleton]at D;subst D;exact z,
  .inr ⟨b,0,rfl,World.block_lt_of_cell? w _ F,fun k hk=>by have:k=0:=(by simpa using hk);subst this;exact F⟩⟩
theorem dI{ops:Array Oper}{rest:List Oper}{o:Oper}{a:Act}{Q:Exit->Act->World->Prop}(F:o.guard=none)(s x:Operand)(t:TypeId)
  (O:o.op=.call { callee:=.builtin .append,args:=#[s,x],argTypes:=#[t,t] })
  (E:TypeId) (N:P.underlying t=some (.slice E)) (K:IntElem P E) (B:Nat) (v:Value) (l:List Int) (y:Int) (b:Nat) (R:a.eval s=v) (S:a.eval x=.slice (some ⟨b,0,none⟩) 1 1)
  (Y:w.cell? ⟨b,0,none⟩=some (.int .i64 y))
  (z:aP E B w v l) (I:dD y) (J:l.length<17592186044415) (hB:B<=w.heap.size)
  (h:∀D w',aP E B w' D (l++[y])->w.grownBy w' v.ownBlock->uJ w v D->wpList P ops Q rest (a.put o.dst D) w'):wpList P ops Q (o::rest) a w:=
 wpList_plain F fun _ M=>LO s x t O E N K B v l R z _ [y] S (aR.one Y I) aV hB fun D w' h2 h3 h4=>M _ _ (h D w' h2 h3 h4)
theorem sK{ops:Array Oper}{rest:List Oper}{o:Oper}{a:Act}{Q:Exit->Act->World->Prop}(I:o.guard=none)(s x:Operand)(t:TypeId)
  (R:o.op=.call { callee:=.builtin .append,args:=#[s,x],argTypes:=#[t,t] })
  (E:TypeId) (O:P.underlying t=some (.slice E)) (M:IntElem P E) (B:Nat) (v:Value) (l:List Int) (S:a.eval s=v) (D:aP E B w v l)
  (K:Value) (m:List Int) (Y:a.eval x=K) (J:aR w K m) (z:l.length+m.length<=17592186044416) (hB:B<=w.heap.size)
  (h:∀F w',aP E B w' F (l++m)->w.grownBy w' v.ownBlock->uJ w v F->wpList P ops Q rest (a.put o.dst F) w'):wpList P ops Q (o::rest) a w:=
 wpList_plain I fun _ N=>LO s x t R E O M B v l S D K m Y J z hB fun F w' h2 h3 h4=>N _ _ (h F w' h2 h3 h4)
end
theorem uJ.apart{w:World}{v D u:Value}(h:uJ w v D)(F:kB v u)(I:∀k,u.ownBlock=some k->k<w.heap.size):kB D u:=by
 intro k hk z
 rcases h with h|h
 ·exact F k (h▸hk) z
 ·rw[h]at hk
  have e:w.heap.size=k:=Option.some.inj hk;have:=I k z;omega
theorem aP.growA{E:TypeId}{B:Nat}{w w':World}{u v:Value}{l:List Int}(h:aP E B w u l)(D:w.grownBy w' v.ownBlock)(z:kB v u):aP E B w' u l:=
 h.grow D (fun k hk F=>z k hk F)
theorem dR.growA{E:TypeId}{B:Nat}{w w':World}{u v:Value}{l:List Int}(h:dR E B w u l)(D:w.grownBy w' v.ownBlock)(z:kB v u):dR E B w' u l:=
 h.grow D (fun k hk F=>z k hk F)
theorem kB.nil(c d:Nat)(u:Value):kB (.slice none c d) u:=fun k hk _=>by simp[Value.ownBlock]at hk
theorem aR.upto{P:Program}{w:World}{a:Option Addr}{c:Nat}{l:List Int}(h:aR w (.slice a l.length c) l)(T E:TypeId)(K:P.underlying T=some (.slice E))(N:IntElem P E)(k:Nat)(hk:k<=l.length):
  (∀(I:IntKind) (w':World),(Instr.slice T (.slice a l.length c) none (some (.int I (k:Int))) none).run P w'=.ok (.slice a k c) w')/\aR w (.slice a k c) (l.take k):=by
 obtain⟨i,O,_,h1,_⟩:=N.get;have z:P.elem T=E:=by simp[Program.elem,K]
 obtain⟨hl,hcl,hcm⟩:=h.capLe;have D:(l.take k).length=k:=by simp;omega
 refine⟨fun I w'=>?_,?_⟩
 ·rw[run_slice_h w' T a l.length c (by rw[z];exact K) I k aK aK]
  simp[sizeOf,typeInfo,z,O,h1,Result.andThen,sliced]
  cases a with
  |none=>simp
  |some x=>simp[Addr.add]
 ·obtain⟨Z,c1,M,q1,S,Y,h4⟩:=h
  simp only[Value.slice.injEq]at M;obtain⟨rfl,_,rfl⟩:=M;refine⟨a,c,by rw[D],by omega,S,fun x R=>Y x (List.mem_of_mem_take R),?_⟩
  rcases h4 with e|⟨b,J,rfl,hb,F⟩
  ·rw[e];exact .inl (by simp)
  ·exact .inr ⟨b,J,rfl,hb,fun j hj=>by rw[F j aK,List.getElem_take]⟩
theorem aP.drew'{E:TypeId}{B:Nat}{w:World}{v:Value}{l:List Int}(h:aP E B w v l):aP E B w.drew v l:=h.drewN 1
theorem aR.drew'{w:World}{v:Value}{l:List Int}(h:aR w v l):aR w.drew v l:=h.drewN 1
theorem iT{P:Program}{w:World}{ops:Array Oper}{o:Oper}{a:Act}{K:Act->World->Prop}{Q:Exit->Act->World->Prop}{F:Prop}(M:o.guard=none)(s x:Operand)(t:TypeId)
  (ho:o.op=.call { callee:=.builtin .append,args:=#[s,x],argTypes:=#[t,t] })
  (E:TypeId) (Z:P.underlying t=some (.slice E)) (Y:IntElem P E) (B:Nat) (v:Value) (l:List Int) (hs:a.eval s=v)
  (R:Value) (m:List Int) (hx:a.eval x=R) (z:aP E B w v l) (O:aR w R m) (D:l.length+m.length<=17592186044416) (S:World) (hb:Below B S w) (J:B<=S.heap.size)
  (h:∀I w',aP E B w' I (l++m)->Below B S w'->(∀b u,w.cell? ⟨b,0,none⟩=some u->some b≠v.ownBlock->w'.cell? ⟨b,0,none⟩=some u)->K (a.put o.dst I) w'):if Region.wanted o (yielded ops a.tmps)=true then Oper.wp P o a w K Q else F:=by
 have hB:=Nat.le_trans J hb.size;refine DZ M s x t ho E Z Y B v l hs z R m hx O D hB fun I w' h1 h2=>h I w' h1 (hb.grown h2 hB (fun q hq=>(z.lt q hq).1)) fun b u hc N=>?_;have hlt:=World.block_lt_of_cell? w _ hc;have e:=h2.block b hlt N;unfold World.cell? at hc ⊢;simp only at hc ⊢;rw[e];exact hc
theorem yL(w:World)(T:TypeId)(u:Value):(w.alloc (.cells #[u] T)).drew.cell? ⟨w.heap.size,0,none⟩=some u:=bB w #[u] T 0 u rfl
theorem sY(w:World)(o:Obj)(T:TypeId)(u:Value):((w.alloc o).alloc (.cells #[u] T)).drew.cell? ⟨w.heap.size+1,0,none⟩=some u:=by
 have h:=bB (w.alloc o) #[u] T 0 u rfl;have e:(w.alloc o).heap.size=w.heap.size+1:=by simp
 rw[e]at h;exact h
theorem uL(w:World)(o:Obj)(T:TypeId)(u:Value):((w.alloc (.cells #[u] T)).alloc o).drew.cell? ⟨w.heap.size,0,none⟩=some u:=adI (bB w #[u] T 0 u rfl) o
theorem AJ(n:Nat)(a b:Nat):some (n+1)≠(Value.slice (some ⟨n,0,none⟩) a b).ownBlock:=by intro e;have h:n+1=n:=Option.some.inj e;omega
theorem AK(n:Nat)(a b:Nat):some n≠(Value.slice (some ⟨n+1,0,none⟩) a b).ownBlock:=by intro e;have h:n=n+1:=Option.some.inj e;omega
theorem aP.lit0'{E:TypeId}(w:World)(o:Obj):aP E w.heap.size ((w.alloc o).alloc (.cells #[] E)) (.slice (some ⟨w.heap.size+1,0,none⟩) 0 0) []:=by
 have:=aP.lit0 (E:=E) (B:=w.heap.size) (w.alloc o) (by simp);simpa using this
theorem fH(w:World)(a:Addr)(u:Value):w.grownBy (w.setCell a u) (some a.block):=
 ⟨rfl,rfl,rfl,by simp,fun b _ z=>Below.heap_setCell w _ _ b (fun e=>z (by rw[e]))⟩
theorem dW{w w':World}{g:Nat}(h:w.grownBy w' (some g))(i:Nat)(u:Value):w.grownBy (w'.setCell ⟨g,i,none⟩ u) (some g):=eF h (fH w' ⟨g,i,none⟩ u)
theorem aP.setFar{E:TypeId}{B:Nat}{w:World}{v:Value}{l:List Int}(h:aP E B w v l)(a:Addr)(z:v.ownBlock≠some a.block)(u:Value):aP E B (w.setCell a u) v l:=
 h.grow (fH w a u) (fun _ hk D=>z (D.trans hk.symm))
theorem aU.drew'{w:World}{g:Nat}{t:TypeId}{cs:Array Value}(h:aU w g t cs):aU w.drew g t cs:=h
theorem aU.second(w:World)(o:Obj)(t:TypeId)(cs:Array Value):aU ((w.alloc o).alloc (.cells cs t)).drew (w.heap.size+1) t cs:=by
 have h:=aU.new (w.alloc o) t cs;have e:(w.alloc o).heap.size=w.heap.size+1:=by simp
 rw[e]at h;exact h
theorem aU.first(w:World)(o:Obj)(t:TypeId)(cs:Array Value):aU ((w.alloc (.cells cs t)).alloc o).drew w.heap.size t cs:=(aU.new w t cs).alloc o
end Go.G5
end
section
namespace Go.G5
open Go Go.RowKit
def mJ(w:World)(v:Value)(l:List Nat):Prop:=
 ∃a c,v=aI a l.length c/\l.length<=c/\c<=maxLen/\(∀x∈l,x<256) /\
  (l=[]∨∃b z,a=some ⟨b,z,none⟩/\b<w.heap.size/\∀k,(h:k<l.length)->w.cell? ⟨b,z+k,none⟩=some (.int .u8 (l[k]:Int)))
structure ByteElem (P:Program) (E:TypeId):Prop where
 info:(P.info? E).map (fun i=>(i.zero,i.size,i.bytes))=some (some (.int .u8 0),1,1)
theorem ByteElem.get{P:Program}{E:TypeId}(h:ByteElem P E):∃i,P.info? E=some i/\i.zero=some (.int .u8 0)/\i.size=1/\i.bytes=1:=by
 have h:=h.info
 cases z:P.info? E with
 |none=>rw[z]at h;simp at h
 |some i=>rw[z]at h;simp at h;exact⟨i,rfl,h.1,h.2.1,h.2.2⟩
theorem mJ.view{w:World}{v:Value}{l:List Nat}(h:mJ w v l)(P:Program)(T E:TypeId)(I:P.underlying T=some (.slice E))(K:ByteElem P E):
  ∃a b z c,v=aI a l.length c/\l.length<=9223372036854775807 /\
   (∀(w':World) (k:Nat),k<l.length->(Instr.indexAt T (aI a l.length c) (aM (k:Int))).run P w'=.ok (.pointer (some ⟨b,z+k,none⟩)) w') /\
   (∀k,(h:k<l.length)->w.cell? ⟨b,z+k,none⟩=some (.int .u8 (l[k]:Int)))/\(l≠[]->b<w.heap.size/\a=some ⟨b,z,none⟩)/\(∀x∈l,x<256):=by
 obtain⟨a,c,rfl,h1,h2,h3,h4⟩:=h;have F:P.elem T=E:=by simp[Program.elem,I]
 obtain⟨i,J,_,D,_⟩:=K.get;rcases h4 with rfl|⟨b,z,rfl,hb,hc⟩
 ·exact⟨a,0,0,c,rfl,by simp,fun w' k hk=>by simp at hk,fun k hk=>by simp at hk,fun h=>absurd rfl h,h3⟩
 ·refine⟨_,b,z,c,rfl,by unfold maxLen at h2;omega,fun w' k hk=>?_,hc,fun _=>⟨hb,rfl⟩,h3⟩;rw[run_indexAt_slice w' T ⟨b,z,none⟩ l.length c .i64 k (by rw[F];exact I),if_pos ⟨by omega,by omega⟩,F];simp[sizeOf,typeInfo,J,D,Addr.add]
theorem mJ.below{B:Nat}{w w':World}{v:Value}{l:List Nat}(h:mJ w v l)(hb:Below B w w')(hB:w.heap.size<=B):mJ w' v l:=by
 obtain⟨a,c,rfl,h1,h2,h3,h4⟩:=h;refine⟨a,c,rfl,h1,h2,h3,?_⟩;rcases h4 with rfl|⟨b,z,rfl,hlt,hc⟩
 ·exact .inl rfl
 ·refine .inr ⟨b,z,rfl,Nat.lt_of_lt_of_le hlt hb.size,fun k hk=>?_⟩;rw[hb.cell (p:=⟨b,z+k,none⟩) (by show b<B;omega)];exact hc k hk
theorem mJ.grow{w w':World}{row:Option Nat}{v:Value}{l:List Nat}(h:mJ w v l)(F:w.grownBy w' row)(D:l≠[]->∀b z n c,v=.slice (some ⟨b,z,none⟩) n c->row≠some b):mJ w' v l:=by
 obtain⟨a,c,rfl,h1,h2,h3,h4⟩:=h;refine⟨a,c,rfl,h1,h2,h3,?_⟩;rcases h4 with rfl|⟨b,z,rfl,hlt,hc⟩
 ·exact .inl rfl
 ·refine .inr ⟨b,z,rfl,Nat.lt_of_lt_of_le hlt F.size,fun k hk=>?_⟩;exact grown_keep F (hc k hk) (fun q I e=>D (fun e2=>by rw[e2]at hk;simp at hk) b z _ c rfl (by rw[I,<-e]))
theorem XD(x:Int):0<=bits .and .i64 x 255/\bits .and .i64 x 255<256:=by
 have h:(BitVec.ofInt IntKind.i64.bits x &&& BitVec.ofInt IntKind.i64.bits 255).toNat<=255:=by rw[BitVec.toNat_and];exact Nat.and_le_right
 unfold bits;rw[IntKind.wrap_i64];simp only;omega
end Go.G5
namespace Go.Proofs.YtcpoomdoodlkjaaGreatDoor
open Go.RowKit Go.G5 Go.Proofs.Tryz
theorem QW:ByteElem prog 5:=⟨by kernel_rfl⟩
def Dr(w:World)(g:Nat):Prop:=∃(v:Value) (l:List Nat) (i:Nat) (h:Int),aU w g 86 #[v,i,h]/\mJ w v l/\(l≠[]->∀b z n c,v=.slice (some ⟨b,z,none⟩) n c->b<g)
theorem Dr.lt{w:World}{g:Nat}(D:Dr w g):g<w.heap.size:=by obtain⟨_,_,_,_,K,_⟩:=D;exact K.lt
theorem Dr.keep{w w':World}{g:Nat}(D:Dr w g)(hb:Below w w w'):Dr w' g:=by
 obtain⟨v,l,i,h,K,F,z⟩:=D;exact⟨v,l,i,h,K.keep hb,F.below hb aO,z⟩
theorem Dr.grow{w w':World}{g:Nat}{row:Option Nat}(D:Dr w g)(I:w.grownBy w' row)(h1:∀k,row=some k->g<k):Dr w' g:=by
 obtain⟨v,l,i,h,K,M,z⟩:=D;exact⟨v,l,i,h,K.grow I (fun e=>by have:=h1 g e;omega),M.grow I (fun J b F n c e e2=>by have:=z J b F n c e;have:=h1 b e2;omega),z⟩
theorem Dr.setCell{w:World}{g b i:Nat}(D:Dr w g)(u:Value)(hb:g<b):Dr (w.setCell ⟨b,i,none⟩ u) g:=D.grow (fH w ⟨b,i,none⟩ u) (fun k e=>by have:=Option.some.inj e;simp at this;omega)
theorem A6{w w':World}{row:Option Nat}(h:w.grownBy w' row)(n:Nat):w.grownBy (w'.drewN n) row:=eF h (fN row ((Below.refl _ _).drewN' n))
theorem uS(w:World)(g:Nat)(D:Dr w g):
  Calls prog 254 #[.pointer (some ⟨g,0,none⟩)] w fun e w'=>∃x:Nat,x<256/\e=.returned x/\Dr w' g/\w.grownBy w' (some g):=by
 obtain⟨v,l,i,h,K,hv,I⟩:=D;have a1:=hv;obtain⟨a,b,O,c,rfl,b9,N,hc,hb,S⟩:=hv.view prog 22 5 underlying22 QW;have G:=K.cell;have F:=K.frozen;have G2:=fun u=>(K.set 2 u).cell;have F2:=fun u=>(K.set 2 u).frozen;by_cases hlt:i<l.length
 ·have Z:(i:Int)<(l.length:Int):=aK;have M:l≠[]:=by intro e;rw[e]at hlt;simp at hlt
  obtain⟨c7,rfl⟩:=hb M;have b0:b≠g:=by have:=I M b O _ c rfl;omega
  have Y:=hc i hlt;have b8:=fun W=>N W i hlt;have hx:=S l[i] (List.getElem_mem _);obtain⟨y,hy⟩:=aQ (l[i]);rw[<-hy]at Y hx;have b7:∀u,(w.setCell ⟨g,2,none⟩ u).cell? ⟨b,O+i,none⟩=some (.int .u8 y):=fun u=>by rw[World.cell?_setCell_other _ _ _ _ (fun e=>b0 (congrArg Addr.block e).symm)];exact Y
  clear hc N hb hy;go_enter func254,ntmps254;go_wp2_with fail;go_quiet (fail);go_wp2_with fail;go_quiet (fail);go_wp2_with fail;go_quiet (fail);go_wp2;refine bG ?_;intro Wf z;have R:w.grownBy Wf (some g):=by rw[z];exact dW (A6 (dW (World.grownBy.refl _ _) 2 _) _) 1 _
  have vf:=a1.grow R (fun h0 b' J n' c' e=>by have:=I h0 b' J n' c' e;simp;omega);obtain⟨q,hq⟩:=aQ (bits .and .i64 (wrap64 (bits .and .i64 (bits .xor .i64 (wrap64 (wrap64 (h*6364136223846793005)+1442695040888963407)/8589934592) (wrap64 (wrap64 (h*6364136223846793005)+1442695040888963407)/35184372088832)) 255+(y:Int))) 255);have hm:=XD (wrap64 (bits .and .i64 (bits .xor .i64 (wrap64 (wrap64 (h*6364136223846793005)+1442695040888963407)/8589934592) (wrap64 (wrap64 (h*6364136223846793005)+1442695040888963407)/35184372088832)) 255+(y:Int)));rw[<-hq]at hm ⊢;have KF:aU Wf g 86 #[aI (some ⟨b,O,none⟩) l.length c,aM ((i+1:Nat):Int),(wrap64 (wrap64 (h*6364136223846793005)+1442695040888963407))]:=by rw[z];exact(K.set 2 _).set 1 _
  clear z G F G2 F2;go_ret;exact⟨q.toNat,by omega,fI (show q=((q.toNat:Nat):Int) by omega),⟨_,l,i+1,_,KF,vf,I⟩,R⟩
 ·have Z:¬(i:Int)<(l.length:Int):=aK;clear hc N hb;go_enter func254,ntmps254;go_wp2_with fail;go_quiet (fail);go_wp2_with fail;go_quiet (fail);go_wp2;refine bG ?_;intro Wf z;have R:w.grownBy Wf (some g):=by rw[z];exact A6 (A6 (dW (World.grownBy.refl _ _) 2 _) _) _
  have vf:=a1.grow R (fun h0 b' J n' c' e=>by have:=I h0 b' J n' c' e;simp;omega);obtain⟨q,hq⟩:=aQ (bits .and .i64 (bits .xor .i64 (wrap64 (wrap64 (h*6364136223846793005)+1442695040888963407)/8589934592) (wrap64 (wrap64 (h*6364136223846793005)+1442695040888963407)/35184372088832)) 255);have hm:=XD (bits .xor .i64 (wrap64 (wrap64 (h*6364136223846793005)+1442695040888963407)/8589934592) (wrap64 (wrap64 (h*6364136223846793005)+1442695040888963407)/35184372088832));rw[<-hq]at hm ⊢;have KF:aU Wf g 86 #[aI a l.length c,(i:Int),(wrap64 (wrap64 (h*6364136223846793005)+1442695040888963407))]:=by rw[z];exact K.set 2 _
  clear z G F G2 F2;go_ret;exact⟨q.toNat,by omega,fI (show q=((q.toNat:Nat):Int) by omega),⟨_,l,i,_,KF,vf,I⟩,R⟩
end Go.Proofs.YtcpoomdoodlkjaaGreatDoor
end
namespace Go.Proofs.YtcpoomdoodlkjaaGreatDoor
section
open Go.RowKit Go.G5 Go.Proofs.Tryz
theorem ZG(v v':Value)(l D:List Int)(w:World)(hv:aR w v l)(O:aR w v' D):
  Calls prog 179 #[v,v'] w fun e w'=>e=.returned (.bool (decide (l=D)))/\∃n,w'=w.drewN n:=by
 obtain⟨a,b,b6,c,rfl,Z,b3,hc,hb⟩:=hv.view prog 24 3 underlying24 aS;obtain⟨a',b',a6,c',rfl,N,R,b1,a9⟩:=O.view prog 24 3 underlying24 aS;by_cases F:l.length=D.length
 ·have HL:=aN F;have S:l.length<=D.length:=aK;have Y:D.length<=l.length:=aK;have b0:((l.length:Int) != (D.length:Int))=false:=by simp[F]
  clear F;go_enter func179,ntmps179;go_wp2;go_loopw [5] (fun i wr=>∃k n:Nat,k<=l.length/\i=aM k/\wr=w.drewN n/\(∀j (h:j<l.length) (J:j<D.length),j<k->l[j]=D[j]))
   (fun i _=>l.length-(intOf i).toNat)
  case atStart=>exact⟨0,0,Nat.zero_le _,rfl,rfl,by intros;omega⟩
  case round=>
   obtain⟨k,n,hk,rfl,rfl,I⟩:=hrel;have H:=aN I;clear I;by_cases hlt:k<l.length
   ·have a1:k<D.length:=aK;by_cases z:l[k]=D[k]
    ·have ht:(l[k] != D[k])=false:=by simp[z]
     have K:=aN z;clear z;go_wp2;go_quiet (fail);go_wp2;go_roundw
     case rel=>
      refine⟨k+1,_,by omega,by go_num,rfl,fun j h J hj=>?_⟩;by_cases M:j=k
      ·subst M;exact K.out
      ·exact H.out j h J aK
     case measure=>simp[intOf];omega
    ·have ht:(l[k] != D[k])=true:=by simp[z]
     have K:=aN z;clear z;go_wp2;go_quiet (fail);go_wp2;go_ret;exact⟨aZ (by simp;intro e;subst e;exact K.out rfl),⟨n+nq,by simp⟩⟩
   ·have b4:l.length<=k:=aK;go_wp2;go_ret;exact⟨aZ (by simp;exact List.ext_getElem HL.out fun j h J=>H.out j h J aK),⟨n,rfl⟩⟩
 ·go_enter func179,ntmps179;go_wp2;go_ret;exact⟨aZ (by simp;intro h;exact F (by rw[h])),⟨0,rfl⟩⟩
theorem KW(v v':Value)(l D:List Int)(w:World)(hv:aR w v l)(O:aR w v' D):
  Calls prog 265 #[v,v'] w fun e w'=>e=.returned (.bool (decide (l=D)))/\∃n,w'=w.drewN n:=by
 obtain⟨a,b,b6,c,rfl,Z,b3,hc,hb⟩:=hv.view prog 24 3 underlying24 aS;obtain⟨a',b',a6,c',rfl,N,R,b1,a9⟩:=O.view prog 24 3 underlying24 aS;by_cases F:l.length=D.length
 ·have HL:=aN F;have S:l.length<=D.length:=aK;have Y:D.length<=l.length:=aK;have b0:((l.length:Int) != (D.length:Int))=false:=by simp[F]
  clear F;go_enter func265,ntmps265;go_wp2;go_loopw [13] (fun i wr=>∃k n:Nat,k<=l.length/\i=aM k/\wr=w.drewN n/\(∀j (h:j<l.length) (J:j<D.length),j<k->l[j]=D[j]))
   (fun i _=>l.length-(intOf i).toNat)
  case atStart=>exact⟨0,0,Nat.zero_le _,rfl,rfl,by intros;omega⟩
  case round=>
   obtain⟨k,n,hk,rfl,rfl,I⟩:=hrel;have H:=aN I;clear I;by_cases hlt:k<l.length
   ·have a1:k<D.length:=aK;by_cases z:l[k]=D[k]
    ·have ht:(l[k] != D[k])=false:=by simp[z]
     have K:=aN z;clear z;go_wp2;go_quiet (fail);go_wp2;go_roundw
     case rel=>
      refine⟨k+1,_,by omega,by go_num,rfl,fun j h J hj=>?_⟩;by_cases M:j=k
      ·subst M;exact K.out
      ·exact H.out j h J aK
     case measure=>simp[intOf];omega
    ·have ht:(l[k] != D[k])=true:=by simp[z]
     have K:=aN z;clear z;go_wp2;go_quiet (fail);go_wp2;go_ret;exact⟨aZ (by simp;intro e;subst e;exact K.out rfl),⟨n+nq,by simp⟩⟩
   ·have b4:l.length<=k:=aK;go_wp2;go_ret;exact⟨aZ (by simp;exact List.ext_getElem HL.out fun j h J=>H.out j h J aK),⟨n,rfl⟩⟩
 ·go_enter func265,ntmps265;go_wp2;go_ret;exact⟨aZ (by simp;intro h;exact F (by rw[h])),⟨0,rfl⟩⟩
end
section
open Go.Proofs.Tryz
open Go.ChangeShapes Go.WideShapes Go.ChangeAt Go.RowKit Go.G5
set_option maxRecDepth 100000
theorem adJ:prog.cellsOf 5=1:=aT
theorem UK{n:Int}(h:(Lit.int .u8 n).wf=true):0<=n/\n<256:=by
 simp only[Lit.wf,Bool.and_eq_true,decide_eq_true_eq]at h;have h1:=h.1;have h2:=h.2;simp[IntKind.min,IntKind.max,IntKind.signed,IntKind.bits]at h1 h2;exact⟨by omega,by omega⟩
theorem acP{H:Type}{enc:TypeId×Value->H}{w:World}{base:Nat}{spare:Nat->Bool}{held:Bool}{fuel:Nat}{c:Value}{x:DataW H×List MemPlace}(h:DataW.trod enc prog w base spare held fuel 22 [c]=some x):∃l,mJ w c l:=by
 rcases open_ints underlying22 underlying5 adJ h with⟨F,_⟩|⟨a,len,cap,I,F,_,S,M,Y,_,D,O⟩
 ·simp at F;subst F;exact⟨[],none,0,rfl,aO,Nat.zero_le _,by simp,.inl rfl⟩
 ·simp at F;subst F;have a7:len<=I.length:=by rw[Y];split<;>omega
  have J:((I.take len).map Int.toNat).length=len:=by simp;omega
  refine⟨(I.take len).map Int.toNat,some a,cap,by rw[J],by rw[J];exact S,M,fun y hy=>?_,?_⟩
  ·obtain⟨z,Z,rfl⟩:=List.mem_map.1 hy;have:=UK (O z (List.mem_of_mem_take Z));omega
  ·by_cases h0:len=0
   ·left;subst h0;simp
   ·right
    have K:=D 0 aK;have hs:=UA K;have hb:=ZJ K;simp[Addr.add]at hs hb;refine⟨a.block,a.off,by cases a;simp_all,hb,fun k hk=>?_⟩;rw[J]at hk;have:=D k aK;have e:(a.add k)=⟨a.block,a.off+k,none⟩:=by
     unfold Addr.add;by_cases N:k=0
     ·subst N;cases a;simp_all
     ·simp[N]
    rw[e]at this;rw[this];have Z:=UK (O I[k] (List.getElem_mem _));have hg:I.getD k 0=I[k]:=by simp[List.getD_eq_getElem?_getD,List.getElem?_eq_getElem (show k<I.length by omega)]
    have R:((I.take len).map Int.toNat)[k]=I[k].toNat:=by simp
    rw[hg,R,show((I[k].toNat:Nat):Int)=I[k] by omega]
theorem ae1{H:Type}{enc:TypeId×Value->H}{W:World}{base:Nat}{v:Value}{d:DataW H}{p:List MemPlace}(D:Value.okWide prog W .any base 22 v)(h:DataW.Trod enc prog W 0 (fun _=>true) true 22 v d p):∃l,mJ W v l:=by
 obtain⟨a,n,c,rfl⟩:=okWide_slice underlying22 D;obtain⟨fuel,z⟩:=h;exact acP z
theorem afU(w:World)(v:Value)(l:List Nat)(z:mJ w v l):
  Calls prog 4 #[v] w fun e w'=>e=.returned (.bool (decide ((1048576:Int)<l.length)))/\w=w':=by
 obtain⟨a,c,rfl,_⟩:=z;go_enter func4,ntmps4;go_wp2;go_ret;exact⟨rfl,rfl⟩
end
end Go.Proofs.YtcpoomdoodlkjaaGreatDoor
section
namespace Go.G5
open Go
theorem eV{a b:ByteArray}(h:a.data.toList=b.data.toList):a=b:=by
 cases a;cases b;congr 1;exact Array.toList_inj.1 h
theorem kE(a b:ByteArray):(a++b).data.toList=a.data.toList++b.data.toList:=by rw[ByteArray.data_append,Array.toList_append]
theorem xE(a:ByteArray):a.size=a.data.toList.length:=Lib.size_eq a
def bQ(n:Int):ByteArray:=⟨(Lib.itoa n).toArray⟩
def cK(z:ByteArray)(D:List ByteArray):ByteArray:=⟨(Lib.join (D.map (·.data.toList)) z.data.toList).toArray⟩
theorem abM(z:ByteArray):cK z []=ByteArray.empty:=rfl
theorem oK(z x:ByteArray):cK z [x]=x:=eV (by
 show Lib.join [x.data.toList] z.data.toList=_;rw[Lib.join_one])
theorem DE(z:List UInt8)(r s:List (List UInt8)):Lib.joinTail z (r++s)=Lib.joinTail z r++Lib.joinTail z s:=by
 simp[Lib.joinTail]
theorem JR(z:ByteArray)(D:List ByteArray)(y:ByteArray)(h:D≠[]):cK z (D++[y])=cK z D++z++y:=by
 cases D with
 |nil=>exact absurd rfl h
 |cons x r=>
  refine eV ?_;rw[kE,kE];show Lib.join ((x::(r++[y])).map (·.data.toList)) z.data.toList=Lib.join ((x::r).map (·.data.toList)) z.data.toList++z.data.toList++y.data.toList;rw[List.map_cons,List.map_cons,Lib.join_cons,Lib.join_cons,List.map_append,DE];simp[Lib.joinTail,List.append_assoc]
theorem JQ(D:ByteArray)(m:Nat):∀(I:List ByteArray),(∀x∈I,x.size<=m)->(cK D I).size<=I.length*(m+D.size)
 |[],_=>by simp[abM]
 |x::r,h=>by
  have h1:=h x (by simp);have h2:Lib.lens (r.map (·.data.toList))<=r.length*m:=by
   have:∀(s:List ByteArray),(∀x∈s,x.size<=m)->Lib.lens (s.map (·.data.toList))<=s.length*m:=by
    intro s J
    induction s with
    |nil=>simp[Lib.lens]
    |cons y s ih=>
     have a:=J y (by simp);have b:=ih (fun z F=>J z (by simp[F]));rw[xE]at a;simp only[Lib.lens,List.map_cons,List.sum_cons,List.length_cons]at b ⊢;rw[Nat.succ_mul];omega
   exact this r (fun z F=>h z (by simp[F]))
  rw[xE]at h1 ⊢;show(Lib.join ((x::r).map (·.data.toList)) D.data.toList).length<=_;rw[List.map_cons,Lib.join_cons,List.length_append,Lib.joinTail_length,List.length_map,List.length_cons,Nat.succ_mul,xE D,Nat.mul_add,Nat.mul_comm D.data.toList.length];omega
theorem SR(z:ByteArray)(x:ByteArray)(r:List ByteArray)(h:x≠ByteArray.empty):cK z (x::r)≠ByteArray.empty:=by
 intro e;have:=congrArg (fun a=>a.data.toList) e;have D:x.data.toList=[]:=by
  change Lib.join ((x::r).map (·.data.toList)) z.data.toList=[]at this
  rw[List.map_cons,Lib.join_cons]at this;exact(List.append_eq_nil_iff.1 this).1
 exact h (eV D)
theorem JS(z:ByteArray)(D:List ByteArray)(k:Nat)(h:k<D.length):cK z (D.take (k+1))=if k=0 then D[k] else cK z (D.take k)++z++D[k]:=by
 rw[List.take_succ_eq_append_getElem h]
 split
 ·rename_i F
  subst F;exact oK _ _
 ·rename_i F
  refine JR _ _ _ (fun e=>?_);have:=congrArg List.length e;rw[List.length_take,List.length_nil]at this;omega
def lY(u:Nat):List UInt8:=if u=0 then [] else Lib.decDigits u
theorem aaR(u:Nat)(h:0<u):lY u=lY (u/10)++[UInt8.ofNat (48+u%10)]:=by
 unfold lY;rw[if_neg (show ¬u=0 by omega),Lib.decDigits]
 split
 ·rename_i h1
  rw[if_pos (show u/10=0 by omega),Nat.mod_eq_of_lt h1];rfl
 ·rename_i h1
  rw[if_neg (show ¬u/10=0 by omega)]
theorem tF:∀(k u:Nat),u<10^k->0<k->(Lib.decDigits u).length<=k
 |0,_,_,h=>by omega
 |k+1,u,h,_=>by
  rw[Lib.decDigits]
  split
  ·simp
  ·rename_i h1
   have:u/10<10^k:=by rw[Nat.pow_succ]at h;omega
   have hk:0<k:=by
    rcases Nat.eq_zero_or_pos k with rfl|h2
    ·simp at h;omega
    ·exact h2
   have:=tF k (u/10) this hk;simp;omega
theorem RH(u:Nat):Lib.decDigits u≠[]:=by
 rw[Lib.decDigits]
 split<;>simp
theorem cW(n:Int)(h:-9223372036854775808<=n/\n<=9223372036854775807):(bQ n).size<=21:=by
 rw[xE];show(Lib.itoa n).length<=21;unfold Lib.itoa
 split
 ·have:=tF 20 n.natAbs (by omega) (by omega)
  simp;omega
 ·have:=tF 20 n.toNat (by omega) (by omega)
  omega
theorem aeA(n:Int):bQ n≠ByteArray.empty:=by
 intro e;have h:Lib.itoa n=[]:=congrArg (fun a=>a.data.toList) e;unfold Lib.itoa at h
 split at h
 ·cases h
 ·exact RH _ h
end Go.G5
end
namespace Go.Proofs.YtcpoomdoodlkjaaGreatDoor
section
open Go.RowKit Go.G5 Go.Proofs.Tryz
theorem cv1(w:World)(r:Nat)(hr:r<10):(convert 22 9 (aI (some ⟨w,0,none⟩) 1 1)).run prog (w.alloc (.cells #[.int .u8 (48+(r:Int))] 5))=.ok (.string ⟨#[UInt8.ofNat (48+r)]⟩) (w.alloc (.cells #[.int .u8 (48+(r:Int))] 5)):=by
 refine run_convert_bytes_back (P:=prog) _ 22 9 5 ⟨w.heap.size,0,none⟩ 1 [UInt8.ofNat (48+r)] underlying22 underlying5 underlying9 ?_;intro j D;have z:j=0:=by simpa using D
 subst z;have h1:(UInt8.ofNat (48+r)).toNat=48+r:=by rw[UInt8.toNat_ofNat'];omega
 show(w.alloc _).cell? ⟨w.heap.size,0,none⟩=some (.int .u8 ((UInt8.ofNat (48+r)).toNat:Int));rw[bB w _ _ 0 (.int .u8 (48+(r:Int))) rfl,h1]
 congr 2
theorem ahS(r:Nat):UInt8.ofNat (48+r)=48+UInt8.ofNat r:=by simp
theorem cI{a b:ByteArray}(h:a=b):Ending.returned (.string a)=.returned (.string b):=by rw[h]
theorem ZD:bQ 0=⟨#[48]⟩:=by
 refine eV ?_;show Lib.itoa 0=[48];unfold Lib.itoa;rw[if_neg aY,Lib.decDigits];rfl
theorem abL(k:Nat)(b:ByteArray)(h:0<k)(hb:b.data.toList=lY k):bQ (k:Int)=b:=by
 refine eV ?_;rw[hb];show Lib.itoa (k:Int)=_;unfold Lib.itoa lY;rw[if_neg aK,if_neg aK,Int.toNat_natCast]
theorem abK(k:Nat)(b:ByteArray)(h:0<k)(hb:b.data.toList=lY k):bQ (-(k:Int))=⟨#[45]⟩++b:=by
 refine eV ?_;rw[kE,hb];show Lib.itoa (-(k:Int))=[45]++_;unfold Lib.itoa lY;rw[if_pos aK,if_neg aK,Int.natAbs_neg,Int.natAbs_natCast];rfl
theorem adQ(k:Nat)(h:k<10^20):(lY k).length<=20:=by
 unfold lY
 split
 ·simp
 ·exact tF 20 k h aY
theorem NT(j k:Nat)(b:ByteArray)(z:0<j)(h:lY j++b.data.toList=lY k):lY (j/10)++((⟨#[UInt8.ofNat (48+j%10)]⟩:ByteArray)++b).data.toList=lY k:=by
 rw[kE,<-h,aaR j z,List.append_assoc]
theorem RK(j k:Nat)(b:ByteArray)(hk:k<10^20)(h:lY j++b.data.toList=lY k):b.size<=20:=by
 have h1:=adQ k hk;rw[<-h,List.length_append]at h1;rw[xE];omega
theorem tdm(m:Int):(Int.tmod m 10).natAbs=m.natAbs%10/\(Int.tdiv m 10).natAbs=m.natAbs/10/\(0<=m->0<=Int.tmod m 10/\0<=Int.tdiv m 10)/\(m<=0->Int.tmod m 10<=0/\Int.tdiv m 10<=0):=by
 rcases Int.le_total 0 m with h|h
 ·obtain⟨k,rfl⟩:=Int.eq_ofNat_of_zero_le h;have e1:Int.tmod (k:Int) 10=((k%10:Nat):Int):=by rw[Int.tmod_eq_emod_of_nonneg aK];rfl
  have e2:Int.tdiv (k:Int) 10=((k/10:Nat):Int):=by rw[Int.tdiv_eq_ediv_of_nonneg aK];rfl
  rw[e1,e2];refine⟨by omega,by omega,fun _=>⟨by omega,by omega⟩,fun h2=>?_⟩;have:k=0:=aK;subst this;simp
 ·obtain⟨k,rfl⟩:∃k:Nat,m=-(k:Int):=⟨m.natAbs,by omega⟩;have e1:Int.tmod (-(k:Int)) 10=-((k%10:Nat):Int):=by rw[Int.neg_tmod,Int.tmod_eq_emod_of_nonneg aK];rfl
  have e2:Int.tdiv (-(k:Int)) 10=-((k/10:Nat):Int):=by rw[Int.neg_tdiv,Int.tdiv_eq_ediv_of_nonneg aK];rfl
  rw[e1,e2];refine⟨by omega,by omega,fun h2=>?_,fun _=>⟨by omega,by omega⟩⟩;have:k=0:=aK;subst this;simp
theorem fX(n:Int)(hn:dD n)(w:World):
  Calls prog 54 #[n] w fun e w'=>e=.returned (.string (bQ n))/\Below w w w':=by
 have hk:n.natAbs<10^20:=by have:=hn.1;have:=hn.2;omega
 by_cases b4:n=0
 ·subst b4;go_enter func54,ntmps54;go_wp2;go_ret;exact⟨cI ZD.symm,Below.refl _ _⟩
 ·have d0:(n==0)=false:=by simpa using b4
  by_cases a1:n<0
  ·have hlt:decide (n<0)=true:=decide_eq_true a1;go_enter func54,ntmps54;go_wp2_with fail;go_loopw [0,3] (fun nv sv wr=>∃(m:Int) (b:ByteArray),nv=aM m/\sv=.string b/\(n<0->m<=0)/\(0<n->0<=m)/\dD m/\lY m.natAbs++b.data.toList=lY n.natAbs/\Below w w wr) (fun nv _ _=>(intOf nv).natAbs)
   case atStart=>exact⟨n,⟨#[]⟩,rfl,rfl,fun h=>by omega,fun h=>by omega,hn,by simp,Below.refl _ _⟩
   case round=>
    obtain⟨m,b,rfl,rfl,K,M,J,hd,B⟩:=hrel;have b7:=RK _ _ b hk hd;have Z:=aN hd;clear hd;by_cases Y:m=0
    ·subst Y;have R:b.data.toList=lY n.natAbs:=by simpa[lY]using Z.out
     have a6:=aN R;clear R Z K M J;go_wp2;go_ret;exact⟨cI ((congrArg bQ (show n=-(n.natAbs:Int) by omega)).trans (abK n.natAbs b aK a6.out)).symm,B⟩
    ·have ht:=tdm m;have b9:(m==0)=false:=by simpa using Y
     obtain⟨d,a7⟩:=xR (Int.tmod m 10);obtain⟨q,b0⟩:=xR (Int.tdiv m 10);rw[a7,b0]at ht;obtain⟨t1,t2,t3,t4⟩:=ht;have z:=NT m.natAbs n.natAbs b aK Z.out;rw[<-t1,<-t2]at z;have D:dD q:=by have:=J.1;have:=J.2;exact⟨by omega,by omega⟩
     have wq:IntKind.i64.wrap q=q:=by rw[IntKind.wrap_i64];have:=D.1;have:=D.2;omega
     have F:n<0->q<=0:=fun h=>(t4 (K h)).2;have I:0<n->0<=q:=fun h=>(t3 (M h)).2;have S:d.natAbs<10:=aK;have c5:q.natAbs<m.natAbs:=aK;obtain⟨r,hr⟩:∃r:Nat,r=d.natAbs:=⟨_,rfl⟩;rw[<-hr]at z S;rw[ahS]at z;have HM:=aN z;have N:=aN F;have O:=aN I;have hu:(48+(r:Int))%256=48+r:=aK;have c7:IntKind.u8.wrap (48+(r:Int))=48+r:=by simp[IntKind.wrap,IntKind.bits,IntKind.signed];omega
     have b8:=cv1 wr r S;have c9:IntKind.i64.wrap (48+(r:Int))=48+r:=by rw[IntKind.wrap_i64];omega
     clear z F I Z K M t1 t2 t3 t4;by_cases a8:d<0
     ·have c6:IntKind.i64.wrap (-d)=(r:Int):=by rw[IntKind.wrap_i64];omega
      clear hr;go_wp2;go_roundw
      case rel=>exact⟨q,_,rfl,rfl,N.out,O.out,D,HM.out,B.alloc B.size _⟩
      case measure=>simp[intOf];omega
     ·have a9:d=(r:Int):=aK;subst a9;clear hr a8;go_wp2;go_roundw
      case rel=>exact⟨q,_,rfl,rfl,N.out,O.out,D,HM.out,B.alloc B.size _⟩
      case measure=>simp[intOf];omega
  ·have hlt:decide (n<0)=false:=decide_eq_false a1;go_enter func54,ntmps54;go_wp2_with fail;go_loopw [0,3] (fun nv sv wr=>∃(m:Int) (b:ByteArray),nv=aM m/\sv=.string b/\(n<0->m<=0)/\(0<n->0<=m)/\dD m/\lY m.natAbs++b.data.toList=lY n.natAbs/\Below w w wr) (fun nv _ _=>(intOf nv).natAbs)
   case atStart=>exact⟨n,⟨#[]⟩,rfl,rfl,fun h=>by omega,fun h=>by omega,hn,by simp,Below.refl _ _⟩
   case round=>
    obtain⟨m,b,rfl,rfl,K,M,J,hd,B⟩:=hrel;have b7:=RK _ _ b hk hd;have Z:=aN hd;clear hd;by_cases Y:m=0
    ·subst Y;have R:b.data.toList=lY n.natAbs:=by simpa[lY]using Z.out
     have a6:=aN R;clear R Z K M J;go_wp2;go_ret;exact⟨cI ((congrArg bQ (show n=(n.natAbs:Int) by omega)).trans (abL n.natAbs b aK a6.out)).symm,B⟩
    ·have ht:=tdm m;have b9:(m==0)=false:=by simpa using Y
     obtain⟨d,a7⟩:=xR (Int.tmod m 10);obtain⟨q,b0⟩:=xR (Int.tdiv m 10);rw[a7,b0]at ht;obtain⟨t1,t2,t3,t4⟩:=ht;have z:=NT m.natAbs n.natAbs b aK Z.out;rw[<-t1,<-t2]at z;have D:dD q:=by have:=J.1;have:=J.2;exact⟨by omega,by omega⟩
     have wq:IntKind.i64.wrap q=q:=by rw[IntKind.wrap_i64];have:=D.1;have:=D.2;omega
     have F:n<0->q<=0:=fun h=>(t4 (K h)).2;have I:0<n->0<=q:=fun h=>(t3 (M h)).2;have S:d.natAbs<10:=aK;have c5:q.natAbs<m.natAbs:=aK;obtain⟨r,hr⟩:∃r:Nat,r=d.natAbs:=⟨_,rfl⟩;rw[<-hr]at z S;rw[ahS]at z;have HM:=aN z;have N:=aN F;have O:=aN I;have hu:(48+(r:Int))%256=48+r:=aK;have c7:IntKind.u8.wrap (48+(r:Int))=48+r:=by simp[IntKind.wrap,IntKind.bits,IntKind.signed];omega
     have b8:=cv1 wr r S;have c9:IntKind.i64.wrap (48+(r:Int))=48+r:=by rw[IntKind.wrap_i64];omega
     clear z F I Z K M t1 t2 t3 t4;by_cases a8:d<0
     ·have c6:IntKind.i64.wrap (-d)=(r:Int):=by rw[IntKind.wrap_i64];omega
      clear hr;go_wp2;go_roundw
      case rel=>exact⟨q,_,rfl,rfl,N.out,O.out,D,HM.out,B.alloc B.size _⟩
      case measure=>simp[intOf];omega
     ·have a9:d=(r:Int):=aK;subst a9;clear hr a8;go_wp2;go_roundw
      case rel=>exact⟨q,_,rfl,rfl,N.out,O.out,D,HM.out,B.alloc B.size _⟩
      case measure=>simp[intOf];omega
end
end Go.Proofs.YtcpoomdoodlkjaaGreatDoor
section
namespace Go.G5
open Go Go.RowKit
structure FunElem (P:Program) (E:TypeId):Prop where
 info:(P.info? E).map (fun i=>(i.zero,i.size,i.bytes))=some (some (.agg #[.int .i64 0,.slice none 0 0]),2,32)
theorem FunElem.get{P:Program}{E:TypeId}(h:FunElem P E):∃i,P.info? E=some i/\i.zero=some (.agg #[.int .i64 0,.slice none 0 0])/\i.size=2/\i.bytes=32:=by
 have h:=h.info
 cases z:P.info? E with
 |none=>rw[z]at h;simp at h
 |some i=>rw[z]at h;simp at h;exact⟨i,rfl,h.1,h.2.1,h.2.2⟩
def rB(E:TypeId)(B:Nat)(w:World)(v:Value)(n:Nat):Prop:=∃z,w.ownsRow B E 2 v n z/\∀u∈z,u.oneCell'=true
theorem rB.nil(E:TypeId)(B:Nat)(w:World):rB E B w (.slice none 0 0) 0:=⟨[],World.ownsRow_nil _ _ _ _,by simp⟩
theorem rB.lit0{E:TypeId}{B:Nat}(w:World)(hB:B<=w.heap.size):rB E B (w.alloc (.cells #[] E)) (.slice (some ⟨w.heap.size,0,none⟩) 0 0) 0:=
 ⟨[],World.ownsRow_lit w #[] 0 hB (Nat.zero_le _) rfl,by simp⟩
theorem rB.keep{E:TypeId}{B:Nat}{w w':World}{v:Value}{n:Nat}(h:rB E B w v n)(hb:Below w.heap.size w w'):rB E B w' v n:=by
 obtain⟨J,⟨I,h1⟩,h2⟩:=h;refine⟨J,⟨I,?_⟩,h2⟩
 rcases h1 with h1|⟨g,cap,z,rfl,D,F,r⟩
 ·exact .inl h1
 ·exact .inr ⟨g,cap,z,rfl,D,by rw[hb.block g (Array.getElem?_eq_some_iff.1 F).1];exact F,r⟩
theorem rB.mono{E:TypeId}{B B':Nat}{w:World}{v:Value}{n:Nat}(h:rB E B w v n)(hB:B'<=B):rB E B' w v n:=by
 obtain⟨I,⟨D,h1⟩,h2⟩:=h;refine⟨I,⟨D,?_⟩,h2⟩
 rcases h1 with h1|⟨g,cap,z,rfl,F,r⟩
 ·exact .inl h1
 ·exact .inr ⟨g,cap,z,rfl,by omega,r⟩
theorem rB.lt{E:TypeId}{B:Nat}{w:World}{v:Value}{n:Nat}(h:rB E B w v n):∀k,v.ownBlock=some k->B<=k/\k<w.heap.size:=by
 obtain⟨z,h1,_⟩:=h;exact h1.lt
theorem rB.shape{E:TypeId}{B:Nat}{w:World}{v:Value}{n:Nat}(h:rB E B w v n):∃a c,v=.slice a n c:=by
 obtain⟨F,⟨_,h1⟩,_⟩:=h
 rcases h1 with⟨rfl,D⟩|⟨g,cap,z,rfl,_⟩
 ·exact⟨none,0,by rw[D]⟩
 ·exact⟨_,cap,rfl⟩
theorem rB.grow{E:TypeId}{B:Nat}{w w':World}{row:Option Nat}{v:Value}{n:Nat}(h:rB E B w v n)(D:w.grownBy w' row)(z:∀k,row=some k->v.ownBlock≠some k):rB E B w' v n:=by
 obtain⟨I,h1,h2⟩:=h;refine⟨I,h1.kept D ?_,h2⟩
 cases F:v.ownBlock with
 |none=>exact .inl rfl
 |some k=>right;intro e;exact z k e.symm F
end Go.G5
end
section
namespace Go.G5
open Go Go.RowKit
def jW(E:TypeId)(m B:Nat)(w:World)(v:Value)(n:Nat):Prop:=∃z:List Int,w.ownsRow B E m v n (z.map (Value.int .i64))/\∀x∈z,0<=x/\x<=63
theorem jW.lit0{E:TypeId}{m B:Nat}(w:World)(hB:B<=w.heap.size):jW E m B (w.alloc (.cells #[] E)) (.slice (some ⟨w.heap.size,0,none⟩) 0 0) 0:=
 ⟨[],World.ownsRow_lit w #[] 0 hB (Nat.zero_le _) (by simp),by simp⟩
theorem jW.keep{E:TypeId}{m B:Nat}{w w':World}{v:Value}{n:Nat}(h:jW E m B w v n)(hb:Below w.heap.size w w'):jW E m B w' v n:=by
 obtain⟨J,⟨I,h1⟩,h2⟩:=h;refine⟨J,⟨I,?_⟩,h2⟩
 rcases h1 with h1|⟨g,cap,z,rfl,D,F,r⟩
 ·exact .inl h1
 ·exact .inr ⟨g,cap,z,rfl,D,by rw[hb.block g (Array.getElem?_eq_some_iff.1 F).1];exact F,r⟩
theorem jW.alloc{E:TypeId}{m B:Nat}{w:World}{v:Value}{n:Nat}(h:jW E m B w v n)(o:Obj):jW E m B (w.alloc o) v n:=h.keep (bF w o)
theorem jW.lt{E:TypeId}{m B:Nat}{w:World}{v:Value}{n:Nat}(h:jW E m B w v n):∀k,v.ownBlock=some k->B<=k/\k<w.heap.size:=by
 obtain⟨z,h1,_⟩:=h;exact h1.lt
theorem jW.shape{E:TypeId}{m B:Nat}{w:World}{v:Value}{n:Nat}(h:jW E m B w v n):∃a c,v=.slice a n c:=by
 obtain⟨F,⟨_,h1⟩,_⟩:=h
 rcases h1 with⟨rfl,D⟩|⟨g,cap,z,rfl,_⟩
 ·exact⟨none,0,by rw[D]⟩
 ·exact⟨_,cap,rfl⟩
theorem jW.grow{E:TypeId}{m B:Nat}{w w':World}{row:Option Nat}{v:Value}{n:Nat}(h:jW E m B w v n)(D:w.grownBy w' row)(z:∀k,row=some k->v.ownBlock≠some k):jW E m B w' v n:=by
 obtain⟨I,h1,h2⟩:=h;refine⟨I,h1.kept D ?_,h2⟩
 cases F:v.ownBlock with
 |none=>exact .inl rfl
 |some k=>right;intro e;exact z k e.symm F
theorem jW.at{E:TypeId}{m B:Nat}{w:World}{v:Value}{n:Nat}(h:jW E m B w v n):(∃c,v=.slice none 0 c/\n=0)∨∃g c,v=.slice (some ⟨g,0,none⟩) n c/\g<w.heap.size/\B<=g/\∃z:Nat->Int,(∀k,k<n*m->w.cell? ⟨g,k,none⟩=some (.int .i64 (z k)))/\∀k,0<=z k/\z k<=63:=by
 obtain⟨D,h1,h2⟩:=h;have O:=h1;obtain⟨K,h1⟩:=h1
 rcases h1 with⟨rfl,I⟩|⟨g,cap,J,rfl,hB,N,I,hm,M,ht⟩
 ·subst I;exact .inl ⟨0,rfl,rfl⟩
 ·refine .inr ⟨g,cap,rfl,(Array.getElem?_eq_some_iff.1 N).1,hB,fun k=>D.getD k 0,fun k hk=>?_,fun k=>?_⟩
  ·have F:k<D.length:=by rw[List.length_map]at K;omega
   have e:D.getD k 0=D[k]:=by rw[List.getD_eq_getElem?_getD,List.getElem?_eq_getElem F];rfl
   rw[World.ownsRow.cellAt O k hk,List.getElem?_map,List.getElem?_eq_getElem F];show some (Value.int .i64 D[k])=some (Value.int .i64 (D.getD k 0));rw[e]
  ·show 0<=D.getD k 0/\D.getD k 0<=63
   by_cases hk:k<D.length
   ·have e:D.getD k 0=D[k]:=by rw[List.getD_eq_getElem?_getD,List.getElem?_eq_getElem hk];rfl
    rw[e];exact h2 _ (List.getElem_mem hk)
   ·have e:D.getD k 0=0:=by rw[List.getD_eq_getElem?_getD,List.getElem?_eq_none aK];rfl
    rw[e];omega
theorem AS{P:Program}{w:World}{ops:Array Oper}{rest:List Oper}{o:Oper}{a:Act}{Q:Exit->Act->World->Prop}(S:o.guard=none)(s x:Operand)(t:TypeId)
  (ho:o.op=.call { callee:=.builtin .append,args:=#[s,x],argTypes:=#[t,t] })
  (E:TypeId) (hT:P.underlying t=some (.slice E)) (i:TypeInfo) (z:Value) (m D:Nat) (hi:P.info? E=some i) (hz:i.zero=some z) (h1:i.size=m) (h8:i.bytes=D) (a6:z.cells.size=m) (hm:0<m) (R:D<=64) (B:Nat) (v:Value) (n:Nat) (hs:a.eval s=v) (J:jW E m B w v n)
  (b:Nat) (F:List Int) (Z:F.length=m) (hx:a.eval x=.slice (some ⟨b,0,none⟩) 1 1) (hc:∀(j:Nat) (u:Int),F[j]?=some u->w.cell? ⟨b,j,none⟩=some (.int .i64 u)) (hb:∀u∈F,0<=u/\u<=63) (a7:n<=1000) (hB:B<=w.heap.size)
  (h:∀N w',jW E m B w' N (n+1)->w.grownBy w' v.ownBlock->wpList P ops Q rest (a.put o.dst N) w'):wpList P ops Q (o::rest) a w:=by
 refine wpList_plain S fun _ hK=>?_;obtain⟨xs,a1,O⟩:=J;obtain⟨N,w',K,h2,h3,_,_⟩:=run_append_own_at (P:=P) w B t o.type E i z m D hT hi hz h1 h8 a6 hm v n (xs.map (Value.int .i64)) a1 ⟨b,0,none⟩ 1 1 (F.map (Value.int .i64)) (by rw[List.length_map,Z];omega)
  (by
   intro j u I;rw[List.getElem?_map]at I
   cases Y:F[j]? with
   |none=>rw[Y]at I;cases I
   |some y=>
    rw[Y]at I
    cases I
    have e:(⟨b,0,none⟩:Addr).add j=⟨b,j,none⟩:=by
     unfold Addr.add;split
     ·rename_i h0;rw[h0]
     ·simp
    rw[e];exact hc j y Y)
  (by intro u hu;obtain⟨y,_,rfl⟩:=List.mem_map.1 hu;rfl) (by unfold maxLen;omega) (by have:(n+1)*D<=1001*64:=Nat.mul_le_mul aK R;omega) hB
 unfold Oper.wp execOp;simp only[ho,resolve,invoke,builtin,Sem.run_bind,Sem.run_pure,Result.andThen_ok,List.map_toArray,List.map_cons,List.map_nil,hs,hx,K];refine hK _ _ (h N w' ⟨xs++F,by rw[List.map_append];exact h2,fun y M=>?_⟩ h3)
 rcases List.mem_append.1 M with M|M
 ·exact O y M
 ·exact hb y M
end Go.G5
end
