/- Lemmas for CardClaims, part 8 of 52. No condition. -/
import Derived.Test.YtipejodijbjpcaaGreatDoorQ02
import Derived.Test.YtipejodijbjpcaaGreatDoorQ05
import Derived.Test.YtipejodijbjpcaaGreatDoorQ06
import Derived.Test.YtipejodijbjpcaaGreatDoorQ07
import Derived.Deep.Light
import Derived.Deep.AppendLies
set_option maxRecDepth 100000
set_option maxHeartbeats 64000000
namespace Go.Proofs.YtipejodijbjpcaaGreatDoor
section
open Go.RowKit Go.G5
def sA(l:List Int)(code:Nat):Int:=(aY code:Int)-cK (bD l code l.length)
def lV(l:List Int):Nat->Int
 |0=>0
 |k+1=>max (lV l k) (sA l k)
def TI(g:Int)(l:List Int):Int:=if dO g l then lV l (2^l.length) else -1
end
end Go.Proofs.YtipejodijbjpcaaGreatDoor
section
namespace Go.G5
open Go Go.RowKit
structure SliceElem (P:Program) (E:TypeId):Prop where
 info:(P.info? E).map (fun i=>(i.zero,i.size,i.bytes))=some (some (.slice none 0 0),1,24)
theorem SliceElem.get{P:Program}{E:TypeId}(h:SliceElem P E):∃i,P.info? E=some i/\i.zero=some (.slice none 0 0)/\i.size=1/\i.bytes=24:=by
 have h:=h.info
 cases o:P.info? E with
 |none=>rw[o]at h;simp at h
 |some i=>rw[o]at h;simp at h;exact⟨i,rfl,h.1,h.2.1,h.2.2⟩
theorem WF{w:World}{B B':Nat}{E A:TypeId}{s R n Q:Nat}{u v:Value}{S U:List Value}(h:w.ownsRow B E s u n S)(N:w.ownsRow B' A R v Q U)(z:E≠A):∀k,v.ownBlock=some k->u.ownBlock≠some k:=by
 intro k I K
 rcases h.2 with⟨rfl,_⟩|⟨g,cap,L,rfl,_,O,_⟩
 ·simp[Value.ownBlock]at K
 ·rcases N.2 with⟨rfl,_⟩|⟨M,D,F,rfl,_,o,_⟩
  ·simp[Value.ownBlock]at I
  ·have e1:g=k:=by simpa[Value.ownBlock]using K
   have e2:M=k:=by simpa[Value.ownBlock]using I
   subst e1;subst e2;rw[O]at o
   injection o with o
   injection o with _ ht
   exact z ht
def eG(A D:TypeId)(B:Nat)(w:World)(v:Value)(o:List (List Int)):Prop:=
 ∃z:List Value,w.ownsRow B D 1 v o.length z/\∀(k:Nat) (u:Value),z[k]?=some u->∃l,o[k]?=some l/\aC A B w u l
theorem eG.len{A D:TypeId}{B:Nat}{w:World}{v:Value}{o:List (List Int)}(h:eG A D B w v o):∃a c,v=.slice a o.length c/\o.length<=maxLen:=by
 obtain⟨M,h1,_⟩:=h
 rcases h1.2 with⟨rfl,z⟩|⟨g,cap,F,rfl,I,K,z,L,_⟩
 ·exact⟨none,0,by rw[z],by omega⟩
 ·exact⟨_,cap,rfl,by omega⟩
theorem eG.shape3{o z:TypeId}{B:Nat}{w:World}{v:Value}{A:List (List Int)}(h:eG o z B w v A):∃a n c,v=.slice a n c:=by
 obtain⟨a,c,h,_⟩:=h.len;exact⟨a,_,c,h⟩
theorem eG.nil(o z:TypeId)(B:Nat)(w:World):eG o z B w (.slice none 0 0) []:=⟨[],World.ownsRow_nil _ _ _ _,by simp⟩
theorem eG.single{A z:TypeId}{B:Nat}(w:World)(D:B<=w.heap.size):eG A z B (w.alloc (.cells #[.slice none 0 0] z)) (.slice (some ⟨w.heap.size,0,none⟩) 1 1) [[]]:=by
 refine⟨[.slice none 0 0],World.ownsRow_lit w #[.slice none 0 0] 1 D (by decide) rfl,?_⟩;intro k u o
 cases k with
 |zero=>simp only[List.getElem?_cons_zero,Option.some.injEq]at o;subst o;exact⟨[],rfl,aC.nil _ _ _⟩
 |succ k=>simp at o
theorem eG.keep{A D:TypeId}{B:Nat}{w w':World}{v:Value}{I:List (List Int)}(h:eG A D B w v I)(hb:Below w.heap.size w w'):eG A D B w' v I:=by
 obtain⟨M,⟨K,h1⟩,h2⟩:=h;refine⟨M,⟨K,?_⟩,fun k u L=>?_⟩
 ·rcases h1 with h1|⟨g,cap,o,rfl,z,F,r⟩
  ·exact .inl h1
  ·exact .inr ⟨g,cap,o,rfl,z,by rw[hb.block g (Array.getElem?_eq_some_iff.1 F).1];exact F,r⟩
 ·obtain⟨l,h3,h4⟩:=h2 k u L
  exact⟨l,h3,h4.keep hb⟩
theorem eG.mono{z A:TypeId}{B B':Nat}{w:World}{v:Value}{D:List (List Int)}(h:eG z A B w v D)(I:B'<=B):eG z A B' w v D:=by
 obtain⟨M,⟨F,h1⟩,h2⟩:=h;refine⟨M,⟨F,?_⟩,fun k u L=>?_⟩
 ·rcases h1 with h1|⟨g,cap,o,rfl,K,r⟩
  ·exact .inl h1
  ·exact .inr ⟨g,cap,o,rfl,by omega,r⟩
 ·obtain⟨l,h3,h4⟩:=h2 k u L
  exact⟨l,h3,h4.mono I⟩
theorem eG.lt{o z:TypeId}{B:Nat}{w:World}{v:Value}{A:List (List Int)}(h:eG o z B w v A):∀k,v.ownBlock=some k->B<=k/\k<w.heap.size:=by
 obtain⟨D,h1,_⟩:=h;exact h1.lt
theorem eG.grow{A o:TypeId}{B B' n:Nat}{w w':World}{v z:Value}{K:List (List Int)}{Q:List Value}(h:eG A o B w v K)(L:w.ownsRow B' o 1 z n Q)(M:A≠o)(F:w.grownBy w' z.ownBlock)(D:∀k,z.ownBlock=some k->v.ownBlock≠some k):eG A o B w' v K:=by
 obtain⟨O,h1,h2⟩:=h;refine⟨O,h1.kept F ?_,fun k u I=>?_⟩
 ·cases N:z.ownBlock with
  |none=>
   cases I:v.ownBlock with
   |none=>exact .inl rfl
   |some q=>exact .inr (by simp)
  |some q=>
   right
   intro e;exact D q N e
 ·obtain⟨l,h3,h4⟩:=h2 k u I
  exact⟨l,h3,h4.grow F (WF h4.1 L M)⟩
theorem eG.row{A o:TypeId}{B:Nat}{w:World}{v:Value}{z:List (List Int)}(h:eG A o B w v z):∃D,w.ownsRow B o 1 v z.length D:=⟨h.choose,h.choose_spec.1⟩
theorem eG.view{L z:TypeId}{B:Nat}{w:World}{a:Option Addr}{n c:Nat}{o:List (List Int)}(h:eG L z B w (.slice a n c) o)(P:Program)(T:TypeId)(N:P.underlying T=some (.slice z))(hs:SliceElem P z)(k:Nat)(Y:k<o.length):
  ∃g u,(∀(w':World),(Instr.indexAt T (.slice a n c) (.int .i64 (k:Int))).run P w'=.ok (.pointer (some ⟨g,k,none⟩)) w')/\w.cell? ⟨g,k,none⟩=some u/\aC L B w u o[k]:=by
 obtain⟨D,h1,h2⟩:=h;have M:P.elem T=z:=by simp[Program.elem,N]
 obtain⟨i,U,_,I,_⟩:=hs.get;have hl:=h1.1
 rcases h1.2 with⟨e,O⟩|⟨g,cap,F,e,R,S,O,Z,K,ht⟩
 ·omega
 ·simp only[Value.slice.injEq]at e
  obtain⟨rfl,rfl,rfl⟩:=e;have Q:k<D.length:=by omega
  obtain⟨l,h3,h4⟩:=h2 k D[k] (List.getElem?_eq_getElem Q);rw[List.getElem?_eq_getElem Y]at h3
  cases h3
  refine⟨g,D[k],fun w'=>?_,?_,h4⟩
  ·rw[run_indexAt_slice w' T ⟨g,0,none⟩ o.length c .i64 k (by rw[M];exact N),if_pos ⟨by omega,by omega⟩,M]
   simp[sizeOf,typeInfo,U,I,Addr.add];exact fun h=>h.symm
  ·have A:w.ownsRow B z 1 (.slice (some ⟨g,0,none⟩) o.length c) o.length D:=⟨h1.1,.inr ⟨g,c,F,rfl,R,S,O,Z,K,ht⟩⟩
   rw[A.cellAt k (by omega)];exact List.getElem?_eq_getElem Q
end Go.G5
namespace Go.Proofs.YtipejodijbjpcaaGreatDoor
open Go.RowKit Go.G5
end Go.Proofs.YtipejodijbjpcaaGreatDoor
end
namespace Go.Proofs.YtipejodijbjpcaaGreatDoor
section
open Go.RowKit Go.G5
theorem L7{w:World}{a:Addr}{v:Value}(h:w.cell? a=some v):a.block<w.heap.size:=World.block_lt_of_cell? w a h
def aP(s e:Nat):Nat:=s ||| 2^e
def dN(l:List Int)(s e:Nat):Int:=l.getD (aP s e) 0-l.getD s 0
theorem eK(s e:Nat)(A:s<4611686018427387904)(o:e<6):bits .or .i64 (s:Int) (2^e)=((aP s e:Nat):Int):=by
 have z:=Nat.pow_lt_pow_right (show 1<2 by decide) o;have:=FM s (2^e) (by omega) (by simp at z;omega);unfold aP;rw[<-this];push_cast;rfl
theorem eE(s e n:Nat)(z:s<2^n)(o:e<n):aP s e<2^n:=Nat.or_lt_two_pow z (Nat.pow_lt_pow_right (by decide) o)
theorem IG(n:Int)(l:List Int)(v:Value)(s e:Nat)(w:World)(hv:aD w v l)(hl:l.length<=64)(K:s<l.length)(he:e<6)(z:aP s e<l.length)(F:∀k,(hk:k<l.length)->-1000<=l[k]/\l[k]<=1000):
  Calls Tryz.prog 243 #[.agg #[.int .i64 n,v],.int .i64 (s:Int),.int .i64 (e:Int)] w fun e' w'=>e'=.returned (.int .i64 (dN l s e))/\Below w.heap.size w w':=by
 obtain⟨a,b,b3,c,rfl,R,D,Q,hb⟩:=hv.view Tryz.prog 22 3 Tryz.underlying22 aG;have A:=aK Q hb (aM w (.cells #[.int .i64 n,.slice a l.length c] 32)) (Nat.le_refl _);have h1:=F s K;have h2:=F _ z;have L:dN l s e=l[aP s e]-l[s]:=by
  unfold dN;rw[List.getD_eq_getElem?_getD,List.getD_eq_getElem?_getD,List.getElem?_eq_getElem K,List.getElem?_eq_getElem z];rfl
 have O:=eK s e (by omega) he;have I:=A _ z;have M:=A s K;have N:=fun w'=>D w' _ z;have a8:=fun w'=>D w' s K;have o:=bJ e 6 (by omega);have a9:(2:Int)^e<=64:=by simpa using o.1
 have b0:=o.2;have a7:(0:Int)<=(e:Int):=Int.natCast_nonneg _;obtain⟨x,U⟩:∃x,x=l[aP s e]:=⟨_,rfl⟩;obtain⟨y,Y⟩:∃y,y=l[s]:=⟨_,rfl⟩;obtain⟨q,S⟩:∃q,q=aP s e:=⟨_,rfl⟩;rw[<-U]at L h2 I;rw[<-Y]at L h1 M;rw[<-S]at O N I;have hw:IntKind.i64.wrap (x-y)=x-y:=by rw[IntKind.wrap_i64];omega
 have Z:=Lib.hid L;clear L F Q hb A D U Y S o z K;go_enter Tryz.func243,Tryz.ntmps243;go_wp2;go_quiet (fail);go_wp2;go_ret;exact⟨eJ (by rw[Z.out]),(aM _ _).drewN' _⟩
def bU(o:List Int):Nat->Nat
 |0=>0
 |k+1=>aP (bU o k) (o.getD k 0).toNat
def bQ(l o:List Int):Nat->List Int
 |0=>List.replicate o.length 0
 |k+1=>(bQ l o k).set (o.getD k 0).toNat (dN l (bU o k) (o.getD k 0).toNat)
def dS(l o:List Int):List Int:=bQ l o o.length
theorem fY(l o:List Int)(k:Nat):(bQ l o k).length=o.length:=by
 induction k with
 |zero=>simp[bQ]
 |succ k ih=>simp[bQ,ih]
theorem uN(o:List Int)(n k:Nat)(h:∀x∈o,0<=x/\x<n)(z:k<=o.length):bU o k<2^n:=by
 induction k with
 |zero=>exact Nat.two_pow_pos n
 |succ k ih=>
  have A:=h _ (List.getElem_mem (show k<o.length by omega));rw[bU,List.getD_eq_getElem?_getD,List.getElem?_eq_getElem (show k<o.length by omega),Option.getD_some];exact eE _ _ _ (ih (by omega)) (by omega)
theorem zA(l:List Int)(s e:Nat)(A:s<l.length)(z:aP s e<l.length)(o:∀k,(D:k<l.length)->-1000<=l[k]/\l[k]<=1000):-2000<=dN l s e/\dN l s e<=2000:=by
 have h1:=o s A;have h2:=o _ z;unfold dN;rw[List.getD_eq_getElem?_getD,List.getD_eq_getElem?_getD,List.getElem?_eq_getElem A,List.getElem?_eq_getElem z,Option.getD_some,Option.getD_some];omega
theorem NI(g:Int)(l o:List Int)(v u:Value)(w:World)(hv:aD w v l)(hu:aD w u o)(hn:o.length<=5)(hl:l.length=2^o.length)(R:∀k,(hk:k<l.length)->-1000<=l[k]/\l[k]<=1000)(ho:∀x∈o,0<=x/\x<o.length):
  Calls Tryz.prog 121 #[.agg #[.int .i64 g,v],u] w fun e w'=>∃ad i c,e=.returned (.slice ad i c)/\aC 3 w.heap.size w' (.slice ad i c) (dS l o)/\Below w.heap.size w w':=by
 obtain⟨av,cv,rfl⟩:=hv.shape;obtain⟨a,b,g5,c,rfl,e8,f8,hc,hb⟩:=hu.view Tryz.prog 22 3 Tryz.underlying22 aG;have e7:l.length<=32:=by rw[hl];exact Nat.pow_le_pow_right (by decide) hn
 have X0:=Box2.new w g (.slice av l.length cv) 32;have HL:=Lib.hid hl;have Q:=Lib.hid R;have HO:=Lib.hid ho;clear hl R ho;go_enter Tryz.func121,Tryz.ntmps121;go_wp2_with (at_make;refine nZ rfl _ _ _ rfl 3 Tryz.underlying22 aG o.length _ _ rfl rfl rfl rfl (by omega) ?_;intro w2 I hg);have X2:=X0.grow hg (by simp);simp at I;clear X0 hg;go_loopw [6,14] (fun s i wr=>∃k:Nat,k<=o.length/\i=.int .i64 k/\s=.int .i64 (bU o k)/\aC 3 (w.heap.size+1) wr (.slice (some ⟨w.heap.size+1,0,none⟩) o.length o.length) (bQ l o k)/\Box2 w wr g (.slice av l.length cv))
  (fun _ i _=>o.length-(intOf i).toNat)
 case atStart=>exact⟨0,Nat.zero_le _,rfl,rfl,I,X2⟩
 case round=>
  obtain⟨k,hk,rfl,rfl,ow,X⟩:=hrel;clear I X2;have Y:=Lib.hid ow;clear ow;obtain⟨d0,d1,U,z1⟩:=X
  by_cases hlt:k<o.length
  ·have a9:=aK hc hb U (Nat.le_refl _) k hlt
   have hm:=HO.out _ (List.getElem_mem hlt);obtain⟨e,he⟩:∃e:Nat,o[k]=(e:Int):=⟨o[k].toNat,by omega⟩;rw[he]at a9;have b1:e<o.length:=by omega
   have M:(o.getD k 0).toNat=e:=by rw[List.getD_eq_getElem?_getD,List.getElem?_eq_getElem hlt,Option.getD_some,he];omega
   have D:=uN o o.length k HO.out hk;rw[<-HL.out]at D;have O:aP (bU o k) e<l.length:=by rw[HL.out]at D ⊢;exact eE _ _ _ D b1
   have N:bU o (k+1)=aP (bU o k) e:=by rw[bU,M]
   have F:bQ l o (k+1)=(bQ l o k).set e (dN l (bU o k) e):=by rw[bQ,M]
   have b4:=zA l (bU o k) e D O Q.out;obtain⟨p,hp⟩:∃p,p=bU o k:=⟨_,rfl⟩;rw[<-hp]at D O N F b4 ⊢;have g1:=eK p e (by omega) (by omega);have K:=bJ e 6 (by omega);have g2:(2:Int)^e<=64:=by simpa using K.1
   have g3:=K.2;have b7:=hv.below U (Nat.le_refl _);have a6:=Lib.hid N;have a1:=Lib.hid F;have A:o.length=(bQ l o k).length:=(fY l o k).symm;have z:∃q,wr.cell? ⟨w.heap.size+1,e,none⟩=some q:=⟨_,Y.out.cellAt A e (by omega)⟩;obtain⟨q,z⟩:=z;have b3:=Y.out.frozenAt A e;have a8:w.heap.size+1<wr.heap.size:=L7 z;have f7:(0:Int)<=(e:Int):=Int.natCast_nonneg _;have e0:(e:Int)<(o.length:Int):=by omega
   clear hp he M N F hm A K;go_wp2_with (go_at_call 243;refine(IG g l _ p e _ b7 (by omega) D (by omega) O Q.out).mono ?_;rintro e' w3 ⟨rfl,L⟩;have Z:=keep L z;have e4:w3.frozen? ⟨w.heap.size+1,e,none⟩=false:=(L.frozen (p:=⟨w.heap.size+1,e,none⟩) a8).trans b3);have S:=(Y.out.keep L).stored (fY l o k).symm e (dN l p e) ⟨by omega,by omega⟩;have X3:=((Box2.mk d0 d1 U z1).after L).grow S.2 (by simp);have a7:=Lib.hid S.1;go_roundw
   case rel=>exact⟨k+1,by omega,by go_num,by rw[a6.out],by rw[a1.out];exact a7.out,X3⟩
   case measure=>simp[intOf];omega
  ·have b5:k=o.length:=by omega
   subst b5;go_wp2;go_ret;exact⟨_,_,_,rfl,Y.out.mono (by omega),U⟩
end
section
open Go.RowKit Go.G5
def cX(x:List Int):Nat->Nat
 |0=>0
 |k+1=>aP (cX x k) (x.getD k 0).toNat
def mG(g:Int)(l x:List Int)(k:Nat):Bool:=(decide (0<=x.getD k 0)&&decide (x.getD k 0<g))&&(aW (l.getD k 0).toNat (x.getD k 0).toNat&&!aW (cX x k) (x.getD k 0).toNat)
def fC(g:Int)(l x:List Int):Bool:=dO g l&&(decide (x.length=l.length)&&bX (mG g l x) x.length)
theorem RQ(x:List Int)(G:Nat):∀k,(∀i,i<k->0<=x.getD i 0/\x.getD i 0<(G:Int))->cX x k<2^G:=by
 intro k
 induction k with
 |zero=>intro _;exact Nat.two_pow_pos G
 |succ k ih=>
  intro h;have h1:=ih (fun i o=>h i (by omega));have h2:=h k (by omega);rw[cX];exact eE _ _ _ h1 (by omega)
theorem nK(n e:Int)(w:World):
  Calls Tryz.prog 248 #[.int .i64 n,.int .i64 e] w fun z w'=>z=.returned (.bool (decide (0<=e)&&decide (e<n)))/\w=w':=by
 by_cases o:0<=e
 ·have t:=decide_eq_true o
  go_enter Tryz.func248,Tryz.ntmps248;go_wp2;go_ret;exact⟨aE (by first|rfl|(rw[t];rfl)),rfl⟩
 ·have t:=decide_eq_false o
  go_enter Tryz.func248,Tryz.ntmps248;go_wp2;go_ret;exact⟨aE (by first|rfl|(rw[t];rfl)),rfl⟩
end
section
open Go.RowKit Go.G5
def UM(left:Int)(b s:Int):Int:=if cK (cQ b left)<cK (cQ s left) then s else b
def JS(l:List Int)(left:Int):Int:=l.foldl (UM left) 0
def wH(l:List Int):Nat->Int->Option (List Int)
 |0,left=>if left=0 then some [] else none
 |n+1,left=>if left=0 then some [] else if cQ (JS l left) left=0 then none else (wH l n (mV left (JS l left))).map (JS l left::·)
def J1(g:Int)(l:List Int):Option (List Int):=if bW g l then wH l 64 (2^g.toNat-1) else none
def qO(g:Int)(l:List Int):List Int:=(J1 g l).getD []
def tL(g:Int)(l:List Int):Bool:=(J1 g l).isSome
end
section
open Go.RowKit Go.G5
end
section
open Go.RowKit Go.G5
abbrev jB:=Nat×Nat×Nat
def kF(s i:Nat):Nat->List jB
 |0=>[]
 |k+1=>kF s i k++(if (decide (i<k)&&(!aW s i&&!aW s k)) then [(s,i,k)] else [])
def iQ(n s:Nat):Nat->List jB
 |0=>[]
 |i+1=>iQ n s i++kF s i n
def iE(n:Nat):Nat->List jB
 |0=>[]
 |s+1=>iE n s++iQ n s n
theorem DO(s i:Nat):∀k,k<=i+1->kF s i k=[]:=by
 intro k
 induction k with
 |zero=>intro _;rfl
 |succ k ih=>
  intro o;rw[kF,ih (by omega),decide_eq_false (by omega)];rfl
theorem WT(s i k m:Nat)(h:k<=m):∃r,kF s i m=kF s i k++r:=by
 induction m with
 |zero=>
  have:k=0:=by omega
  subst this;exact⟨[],rfl⟩
 |succ m ih=>
  by_cases o:k=m+1
  ·subst o;exact⟨[],by simp⟩
  ·obtain⟨r,hr⟩:=ih (by omega)
   exact⟨r++_,by rw[kF,hr,List.append_assoc]⟩
theorem UY(n s i m:Nat)(h:i<=m):∃r,iQ n s m=iQ n s i++r:=by
 induction m with
 |zero=>
  have:i=0:=by omega
  subst this;exact⟨[],rfl⟩
 |succ m ih=>
  by_cases o:i=m+1
  ·subst o;exact⟨[],by simp⟩
  ·obtain⟨r,hr⟩:=ih (by omega)
   exact⟨r++_,by rw[iQ,hr,List.append_assoc]⟩
theorem UQ(n s m:Nat)(h:s<=m):∃r,iE n m=iE n s++r:=by
 induction m with
 |zero=>
  have:s=0:=by omega
  subst this;exact⟨[],rfl⟩
 |succ m ih=>
  by_cases o:s=m+1
  ·subst o;exact⟨[],by simp⟩
  ·obtain⟨r,hr⟩:=ih (by omega)
   exact⟨r++_,by rw[iE,hr,List.append_assoc]⟩
theorem vF(n N s i k:Nat)(A:s<N)(o:i<n)(z:k<=n):∃r,iE n N=((iE n s++iQ n s i)++kF s i k)++r:=by
 obtain⟨r3,h3⟩:=UQ n (s+1) N A;obtain⟨r2,h2⟩:=UY n s (i+1) n o;obtain⟨r1,h1⟩:=WT s i k n z;rw[iE]at h3;rw[iQ]at h2;exact⟨r1++(r2++r3),by rw[h3,h2,h1];simp[List.append_assoc]⟩
theorem UG(s i k:Nat):∀t∈kF s i k,t.1=s/\t.2.1=i/\i<t.2.2/\t.2.2<k:=by
 induction k with
 |zero=>intro t h;cases h
 |succ k ih=>
  intro t h;rw[kF,List.mem_append]at h
  rcases h with h|h
  ·have:=ih t h;omega
  ·split at h
   ·rename_i o
    rw[List.mem_singleton]at h;rw[Bool.and_eq_true]at o;have:=of_decide_eq_true o.1;subst h;simp;omega
   ·cases h
theorem TO(n s i:Nat):∀t∈iQ n s i,t.1=s/\t.2.1<i/\t.2.1<t.2.2/\t.2.2<n:=by
 induction i with
 |zero=>intro t h;cases h
 |succ i ih=>
  intro t h;rw[iQ,List.mem_append]at h
  rcases h with h|h
  ·have:=ih t h;omega
  ·have:=UG s i n t h;omega
theorem IR(n s:Nat):∀t∈iE n s,t.1<s/\t.2.1<t.2.2/\t.2.2<n:=by
 induction s with
 |zero=>intro t h;cases h
 |succ s ih=>
  intro t h;rw[iE,List.mem_append]at h
  rcases h with h|h
  ·have:=ih t h;omega
  ·have:=TO n s n t h;omega
def eC{α:Type}(step:α->jB->α×Bool):List jB->α->α×Bool
 |[],a=>(a,true)
 |t::r,a=>if (step a t).2 then eC step r (step a t).1 else ((step a t).1,false)
theorem xS{α:Type}(step:α->jB->α×Bool)(x y:List jB)(a:α):eC step (x++y) a=if (eC step x a).2 then eC step y (eC step x a).1 else eC step x a:=by
 induction x generalizing a with
 |nil=>rfl
 |cons t x ih=>
  rw[List.cons_append,eC,eC]
  split
  ·exact ih _
  ·rename_i h;simp
theorem MH{α:Type}{step:α->jB->α×Bool}{x y:List jB}{a b:α}(h:eC step x a=(b,true)):eC step (x++y) a=eC step y b:=by rw[xS,h];rfl
theorem DQ{α:Type}{step:α->jB->α×Bool}{x y:List jB}{a b:α}(h:eC step x a=(b,false)):eC step (x++y) a=(b,false):=by rw[xS,h];rfl
theorem IF{α:Type}(step:α->jB->α×Bool)(t:jB)(a:α):eC step [t] a=step a t:=by
 rw[eC]
 split
 ·rename_i h;rw[eC];ext<;>simp[h]
 ·rename_i h;ext<;>simp_all
end
section
open Go.RowKit Go.G5
def iL(l:List Int)(s i k:Nat):Int:=l.getD (aP s i ||| aP s k) 0+l.getD s 0-l.getD (aP s i) 0-l.getD (aP s k) 0
def jY(l:List Int)(t:jB):Bool:=decide (0<iL l t.1 t.2.1 t.2.2)
def dH(l:List Int)(a:Option jB)(t:jB):Option jB×Bool:=if jY l t then (some t,false) else (a,a.isNone)
def qL(n:Nat)(l:List Int):Option jB:=(eC (dH l) (iE n (2^n)) none).1
def iI(n:Int)(l:List Int):Option jB:=if aN n l then qL n.toNat l else none
def fH(n:Int)(l:List Int):Bool:=(iI n l).isSome
def NV:Option jB->List Int
 |none=>[]
 |some t=>[(t.1:Int),(t.2.1:Int),(t.2.2:Int)]
def fS(n:Int)(l:List Int):List Int:=NV (iI n l)
def cY(n:Int)(l:List Int):Bool:=aN n l&&!fH n l
theorem TR(s x y:Nat):(s ||| x) ||| (s ||| y)=(s ||| x) ||| y:=by
 apply Nat.eq_of_testBit_eq
 intro j;simp only[Nat.testBit_or]
 cases s.testBit j<;>cases x.testBit j<;>cases y.testBit j<;>rfl
theorem nG(s i k:Nat):aP s i ||| aP s k=aP (aP s i) k:=by unfold aP;exact TR s (2^i) (2^k)
theorem PP(n:Int)(l:List Int):(fS n l).length<=3:=by
 unfold fS
 cases iI n l<;>simp[NV]
theorem WG(n:Nat)(l:List Int)(K:l.length=2^n)(hb:∀k,(o:k<l.length)->-1000<=l[k]/\l[k]<=1000)(s i k:Nat)(z:s<2^n)(A:i<n)(o:k<n):-4000<=iL l s i k/\iL l s i k<=4000:=by
 have h1:=eE s i n z A;have h2:=eE s k n z o;have h3:=eE (aP s i) k n h1 o;rw[<-nG]at h3;unfold iL;rw[aJ l _ (by omega),aJ l _ (by omega),aJ l _ (by omega),aJ l _ (by omega)];have D:=hb (aP s i) (by omega);have b2:=hb (aP s k) (by omega);have F:=hb (aP s i ||| aP s k) (by omega);have I:=hb s (by omega);omega
theorem R9(l:List Int):∀(T:List jB) (t:jB),(eC (dH l) T none).1=some t->jY l t=true:=by
 intro T
 induction T with
 |nil=>intro t h;simp[eC]at h
 |cons u T ih=>
  intro t h;rw[eC]at h
  by_cases hb:jY l u=true
  ·have e:dH l none u=(some u,false):=by unfold dH;rw[if_pos hb]
   rw[e]at h;simp at h;rw[<-h];exact hb
  ·have e:dH l none u=(none,true):=by unfold dH;rw[if_neg hb];rfl
   rw[e]at h;exact ih t h
end
section
open Go.RowKit Go.G5
def pL(l:List Int)(s e:Nat):Bool:=!decide (dN l s e<0)
def lD(n:Int)(l:List Int):Bool:=aN n l&&bX (fun s=>bX (pL l s) n.toNat) l.length
theorem bN{n:Int}{l:List Int}(h:aN n l=true):∃N:Nat,n=N/\N<=5/\l.length=2^N/\l.length<=32/\∀k,(K:k<l.length)->-1000<=l[k]/\l[k]<=1000:=by
 obtain⟨F,I,o,D⟩:=jS h;obtain⟨N,rfl⟩:=Int.eq_ofNat_of_zero_le F;have z:N<=5:=by omega
 have A:l.length=2^N:=by
  have e2:(N:Int).toNat=N:=by omega
  rw[e2]at o
  exact_mod_cast o
 have L:(2:Nat)^N<=32:=Nat.pow_le_pow_right (n:=2) (by decide) z;exact⟨N,rfl,z,A,by omega,D⟩
theorem TV(n:Int)(l:List Int)(v:Value)(w:World)(hv:aD w v l):
  Calls Tryz.prog 381 #[.agg #[.int .i64 n,v]] w fun e w'=>e=.returned (.bool (lD n l))/\Below w.heap.size w w':=by
 have Q:=hv;obtain⟨a,c,rfl⟩:=hv.shape;have K0:=aB.new w 32 #[.int .i64 n,.slice a l.length c]
 cases M:aN n l with
 |false=>
  have S:lD n l=false:=by unfold lD;rw[M];rfl
  have HX:=Lib.hid S;have HF:=Lib.hid M;clear S M;go_enter Tryz.func381,Tryz.ntmps381;go_wp2_with (go_at_call 111;refine(eZ n l _ _ (Q.alloc _)).mono ?_;rintro e w1 ⟨rfl,z⟩;rw[HF.out]);go_ret;exact⟨aE HX.out.symm,(aM _ _).after z (by simp)⟩
 |true=>
  obtain⟨N,rfl,f2,a7,e5,a8⟩:=bN M;have S:lD N l=bX (fun s=>bX (pL l s) N) l.length:=by unfold lD;rw[M];simp
  obtain⟨F,hF⟩:∃F:Nat->Bool,F=fun s=>bX (pL l s) N:=⟨_,rfl⟩;rw[<-hF]at S;have HX:=Lib.hid S;have HF:=Lib.hid M;have b6:=Lib.hid hF;have b8:=Lib.hid a8;have b7:=Lib.hid a7;clear S M hF a8 a7;go_enter Tryz.func381,Tryz.ntmps381;go_wp2_with fail;refine(eZ N l _ _ (Q.alloc _)).mono ?_;rintro e w1 ⟨rfl,z⟩;rw[HF.out];have K1:=K0.keep z;have B1:Below w.heap.size w w1:=(aM _ _).after z (by simp);have G1:=K1.cell;clear K0 z;go_wp2_with fail;go_loopw [11] (fun i wr=>∃s:Nat,s<=l.length/\i=.int .i64 s/\bX F s=true/\Below w.heap.size w wr/\aB wr w.heap.size 32 #[.int .i64 N,.slice a l.length c]) (fun i _=>l.length-(intOf i).toNat)
  case atStart=>exact⟨0,Nat.zero_le _,rfl,rfl,B1,K1⟩
  case round=>
   obtain⟨s,hs,rfl,o,B,K⟩:=hrel;obtain⟨wo,rfl⟩:∃wo:World,wo=wr:=⟨_,rfl⟩;have H:=Lib.hid o;clear o G1;have G1:=K.cell
   by_cases D:s<l.length
   ·have a1:F s=bX (pL l s) N:=by rw[b6.out]
    have Y:=Lib.hid a1;clear a1;go_wp2_with fail;go_loopw [16] (fun i wr=>∃k:Nat,k<=N/\i=.int .i64 k/\bX (pL l s) k=true/\Below w.heap.size w wr/\aB wr w.heap.size 32 #[.int .i64 N,.slice a l.length c]) (fun i _=>N-(intOf i).toNat)
    case atStart=>exact⟨0,Nat.zero_le _,rfl,rfl,B,K⟩
    case round=>
     obtain⟨k,hk,rfl,o,R,K2⟩:=hrel;obtain⟨wi,rfl⟩:∃wo:World,wo=wr:=⟨_,rfl⟩;have H2:=Lib.hid o;clear o G1;have G1:=K2.cell
     by_cases a6:k<N
     ·have c8:aP s k<l.length:=by rw[b7.out]at D ⊢;exact eE _ _ _ D a6
      have hg:=IG N l _ s k wi (Q.below R (Nat.le_refl _)) (by omega) D (by omega) c8 b8.out;have O:pL l s k=!decide (dN l s k<0):=rfl;obtain⟨q,hq⟩:∃q,q=dN l s k:=⟨_,rfl⟩;rw[<-hq]at hg O;have HG:=Lib.hid hg;have Z:=Lib.hid O;clear hg O hq
      by_cases L:q<0
      ·have hu:pL l s k=false:=by rw[Z.out,decide_eq_true L];rfl
       have I:lD N l=false:=by rw[HX.out];exact cL D (by rw[Y.out];exact cL a6 hu)
       have U:=Lib.hid I;clear hu I;go_wp2_with (go_at_call 243;refine HG.out.mono ?_;rintro e w3 ⟨rfl,A⟩);go_ret;exact⟨aE U.out.symm,R.after A R.size⟩
      ·have hu:pL l s k=true:=by rw[Z.out,decide_eq_false L];rfl
       have HU:=Lib.hid hu;clear hu;go_wp2_with (go_at_call 243;refine HG.out.mono ?_;rintro e w3 ⟨rfl,A⟩);go_roundw
       case rel=>exact⟨k+1,by omega,by go_num,dM H2.out HU.out,R.after A R.size,K2.keep A⟩
       case measure=>simp[intOf];omega
     ·have c7:k=N:=by omega
      subst c7;go_wp2;go_roundw
      case rel=>exact⟨s+1,by omega,by go_num,dM H.out (by rw[Y.out];exact H2.out),R,K2⟩
      case measure=>simp[intOf];omega
   ·have a9:s=l.length:=by omega
    subst a9;go_wp2;go_ret;exact⟨aE (by rw[HX.out,H.out]),B⟩
end
section
open Go.RowKit Go.G5
theorem TB(n:Int)(l:List Int)(v:Value)(w:World)(hv:aD w v l):
  Calls Tryz.prog 372 #[.agg #[.int .i64 n,v]] w fun e w'=>e=.returned (.bool (lD n l))/\Below w.heap.size w w':=by
 have M:=hv;obtain⟨a,b,g2,c,rfl,f0,b1,hc,hb⟩:=hv.view Tryz.prog 22 3 Tryz.underlying22 aG;have K0:=aB.new w 32 #[.int .i64 n,.slice a l.length c]
 cases U:aN n l with
 |false=>
  have Y:lD n l=false:=by unfold lD;rw[U];rfl
  have HX:=Lib.hid Y;have HF:=Lib.hid U;clear Y U;go_enter Tryz.func372,Tryz.ntmps372;go_wp2_with fail;go_loopw [3] (fun i wr=>i=.int .i64 0/\Below w.heap.size w wr/\aB wr w.heap.size 32 #[.int .i64 n,.slice a l.length c]) (fun _ _=>0)
  case atStart=>exact⟨rfl,aM _ _,K0⟩
  case round=>
   obtain⟨rfl,B,K⟩:=hrel;have R:=K.cell;go_wp2_with fail;refine(cI n l _ _ (M.below B (Nat.le_refl _))).mono ?_;rintro e w1 ⟨rfl,z⟩;rw[HF.out];have O:=B.after z B.size;have K1:=K.keep z;clear R;have R:=K1.cell;go_wp2_with fail;refine(cI n l _ _ (M.below O (Nat.le_refl _))).mono ?_;rintro e w2 ⟨rfl,S⟩;rw[HF.out];go_wp2;go_ret;exact⟨aE HX.out.symm,O.after S O.size⟩
 |true=>
  obtain⟨N,rfl,f9,b4,e9,b5⟩:=bN U;have Y:lD N l=bX (fun s=>bX (pL l s) N) l.length:=by unfold lD;rw[U];simp
  obtain⟨F,hF⟩:∃F:Nat->Bool,F=fun s=>bX (pL l s) N:=⟨_,rfl⟩;rw[<-hF]at Y;have HX:=Lib.hid Y;have HF:=Lib.hid U;have c7:=Lib.hid hF;have f6:=Lib.hid b5;have c8:=Lib.hid b4;have HC:=Lib.hid hc;have a8:=Lib.hid b1;clear Y U hF b5 b4 hc b1;go_enter Tryz.func372,Tryz.ntmps372;go_wp2_with fail;go_loopw [3] (fun i wr=>∃s:Nat,s<=l.length/\i=.int .i64 s/\bX F s=true/\Below w.heap.size w wr/\aB wr w.heap.size 32 #[.int .i64 N,.slice a l.length c]) (fun i _=>l.length-(intOf i).toNat)
  case atStart=>exact⟨0,Nat.zero_le _,rfl,rfl,aM _ _,K0⟩
  case round=>
   obtain⟨s,hs,rfl,o,B,K⟩:=hrel;obtain⟨wo,rfl⟩:∃wo:World,wo=wr:=⟨_,rfl⟩;have H:=Lib.hid o;clear o K0;have R:=K.cell;go_wp2_with fail;refine(cI N l _ _ (M.below B (Nat.le_refl _))).mono ?_;rintro e w1 ⟨rfl,z⟩;rw[HF.out];have K:=K.keep z;have O:=B.after z B.size;clear R z B;have R:=K.cell
   by_cases A:s<l.length
   ·have b0:F s=bX (pL l s) N:=by rw[c7.out]
    have a7:=Lib.hid b0;clear b0;go_wp2_with fail;go_loopw [4] (fun i wr=>∃k:Nat,k<=N/\i=.int .i64 k/\bX (pL l s) k=true/\Below w.heap.size w wr/\aB wr w.heap.size 32 #[.int .i64 N,.slice a l.length c]) (fun i _=>N-(intOf i).toNat)
    case atStart=>exact⟨0,Nat.zero_le _,rfl,rfl,O,K⟩
    case round=>
     obtain⟨k,hk,rfl,o,Z,K2⟩:=hrel;obtain⟨wi,rfl⟩:∃wo:World,wo=wr:=⟨_,rfl⟩;have H2:=Lib.hid o;clear o R;have R:=K2.cell
     by_cases b3:k<N
     ·have D:aP s k<l.length:=by rw[c8.out]at A ⊢;exact eE _ _ _ A b3
      have c0:=aK HC.out hb Z (Nat.le_refl _) s A;have c1:=aK HC.out hb Z (Nat.le_refl _) _ D;have i0:=fun W=>a8.out W s A;have i1:=fun W=>a8.out W _ D;have q1:=eK s k (by omega) (by omega);have I:pL l s k=!decide (l[aP s k]-l[s]<0):=by unfold pL dN;rw[aJ l _ D,aJ l _ A]
      obtain⟨u1,L⟩:∃u,u=aP s k:=⟨_,rfl⟩;simp only[<-L]at c1 i1 q1 I;obtain⟨x0,b8⟩:∃x,x=l[s]:=⟨_,rfl⟩;rw[<-b8]at c0 I;have f3:u1<l.length:=L▸D;obtain⟨x1,b9⟩:∃x,x=l[u1]:=⟨_,rfl⟩;rw[<-b9]at c1 I;have pk:=bJ k 6 (by omega);have g3:(2:Int)^k<=64:=by simpa using pk.1
      have g4:=pk.2;have wk:IntKind.i64.wrap ((2:Int)^k)=2^k:=by rw[IntKind.wrap_i64];omega
      have g0:k<5:=by omega
      have a9:=Lib.hid I;clear I b8 b9 pk D
      by_cases f2:x1<x0
      ·have hu:pL l s k=false:=by rw[a9.out,decide_eq_true (by omega)];rfl
       have Q:lD N l=false:=by rw[HX.out];exact cL A (by rw[a7.out];exact cL b3 hu)
       have a1:=Lib.hid Q;clear hu Q L;go_wp2_with fail;go_quiet (fail);go_wp2;go_ret;exact⟨aE a1.out.symm,Z.drewN' _⟩
      ·have hu:pL l s k=true:=by rw[a9.out,decide_eq_false (by omega)];rfl
       have HU:=Lib.hid hu;clear hu L;go_wp2_with fail;go_quiet (fail);go_wp2;go_roundw
       case rel=>exact⟨k+1,by omega,by go_num,dM H2.out HU.out,Z.drewN' _,K2.drewN _⟩
       case measure=>simp[intOf];omega
     ·have e4:k=N:=by omega
      subst e4;go_wp2;go_roundw
      case rel=>exact⟨s+1,by omega,by go_num,dM H.out (by rw[a7.out];exact H2.out),Z,K2⟩
      case measure=>simp[intOf];omega
   ·have b6:s=l.length:=by omega
    subst b6;go_wp2_with fail;refine(cI N l _ _ (M.below O (Nat.le_refl _))).mono ?_;rintro e w2 ⟨rfl,S⟩;rw[HF.out];go_wp2;go_ret;exact⟨aE (by rw[HX.out,H.out]),O.after S O.size⟩
end
end Go.Proofs.YtipejodijbjpcaaGreatDoor
