/- Lemmas for CardClaims, part 6 of 52. No condition. -/
import Derived.Test.YtipejodijbjpcaaGreatDoorQ02
import Derived.Test.YtipejodijbjpcaaGreatDoorQ03
import Derived.Test.YtipejodijbjpcaaGreatDoorQ04
import Derived.Test.YtipejodijbjpcaaGreatDoorQ05
import Derived.Deep.RegionHeld3
import Derived.Deep.Light
import Derived.Shelf.Abstract
set_option maxRecDepth 100000
set_option maxHeartbeats 64000000
namespace Go.Proofs.YtipejodijbjpcaaGreatDoor
section
open Go.RowKit Go.G5
def iY(l:List Int)(s:Int):Bool:=decide (s∈l)
theorem IJ{l:List Int}{s:Int}:iY l s=true↔s∈l:=by simp[iY]
theorem PY(l:List Int)(k:Nat)(h:k<l.length):iY l l[k]=true:=IJ.2 (List.getElem_mem h)
theorem vA{l:List Int}{s:Int}(h:∀k,(o:k<l.length)->l[k]≠s):iY l s=false:=by
 unfold iY;rw[decide_eq_false_iff_not];intro A;obtain⟨k,o,z⟩:=List.getElem_of_mem A;exact h k o z
theorem NK(l:List Int)(v:Value)(s:Int)(w:World)(O:aD w v l):
  Calls Tryz.prog 195 #[v,.int .i64 s] w fun e w'=>e=.returned (.bool (iY l s))/\w=w':=by
 obtain⟨a,b,Q,c,rfl,K,M,R,hb⟩:=O.view Tryz.prog 22 3 Tryz.underlying22 aG;go_enter Tryz.func195,Tryz.ntmps195;go_wp2;go_loop [5] (fun i=>∃k:Nat,k<=l.length/\i=.int .i64 k/\(∀j,(F:j<l.length)->j<k->l[j]≠s)) (fun i=>l.length-(intOf i).toNat)
 case atStart=>exact⟨0,Nat.zero_le _,rfl,by intros;omega⟩
 case round=>
  obtain⟨k,S,rfl,D⟩:=hrel;have H:=Lib.hid D;clear D
  by_cases hlt:k<l.length
  ·by_cases o:l[k]=s
   ·have ht:(l[k]==s)=true:=by simp[o]
    have z:iY l s=true:=by rw[<-o];exact PY l k hlt
    have I:=Lib.hid z;clear o z;go_wp2;go_ret;exact⟨by rw[I.out];rfl,rfl⟩
   ·have ht:(l[k]==s)=false:=by simp[o]
    have L:=Lib.hid o;clear o;go_wp2;go_round
    case rel=>
     refine⟨k+1,by omega,by go_num,fun j F N=>?_⟩
     by_cases A:j=k
     ·subst A;exact L.out
     ·exact H.out j F (by omega)
    case measure=>simp[intOf];omega
  ·have z:iY l s=false:=vA fun j F=>H.out j F (by omega)
   have I:=Lib.hid z;clear z;go_wp2;go_ret;exact⟨by rw[I.out];rfl,rfl⟩
theorem ND(x:Int)(w:World):Calls Tryz.prog 374 #[.int .i64 x] w fun e w'=>e=.returned (.bool false)/\w=w':=by
 have h:(x != x)=false:=by simp
 go_enter Tryz.func374,Tryz.ntmps374;go_wp2;go_ret;exact⟨rfl,rfl⟩
theorem ED(x:Int)(w:World):Calls Tryz.prog 348 #[.int .i64 x] w fun e w'=>e=.returned (.bool false)/\w=w':=by
 have h:(x != x)=false:=by simp
 go_enter Tryz.func348,Tryz.ntmps348;go_wp2;go_ret;exact⟨rfl,rfl⟩
theorem yC(x y:Int)(w:World):Calls Tryz.prog 347 #[.int .i64 x,.int .i64 y] w fun e w'=>e=.returned (.bool (decide (x<y)))/\w=w':=by
 go_enter Tryz.func347,Tryz.ntmps347;go_wp2_with (go_at_call 374;refine(ND _ _).mono ?_;rintro e w' ⟨rfl,rfl⟩);go_ret;exact⟨rfl,rfl⟩
theorem EW(l:List Int)(v:Value)(s:Int)(w:World)(hv:aD w v l)(F:l.Pairwise (· < ·))(hl:l.length<=1048576):
  Calls Tryz.prog 310 #[v,.int .i64 s] w fun e w'=>(∃i:Int,e=.returned (.tuple #[.int .i64 i,.bool (iY l s)]))/\w=w':=by
 obtain⟨a,b,a8,c,rfl,b4,Z,hc,hb⟩:=hv.view Tryz.prog 22 3 Tryz.underlying22 aG;have o:∀i j,(hi:i<l.length)->(hj:j<l.length)->i<j->l[i]<l[j]:=fun i j hi hj Y=>List.pairwise_iff_getElem.1 F i j hi hj Y;have L:=Lib.hid o;clear o F;go_enter Tryz.func310,Tryz.ntmps310;go_wp2;go_loop [7,8] (fun i j=>∃p q:Nat,p<=q/\q<=l.length/\i=.int .i64 p/\j=.int .i64 q/\(∀t,(ht:t<l.length)->t<p->l[t]<s)/\(∀t,(ht:t<l.length)->q<=t->s<=l[t])) (fun i j=>(intOf j).toNat-(intOf i).toNat)
 case atStart=>exact⟨0,l.length,Nat.zero_le _,Nat.le_refl _,rfl,rfl,by intros;omega,by intros;omega⟩
 case round=>
  obtain⟨p,q,b7,a6,rfl,rfl,R,Q⟩:=hrel;have K:=Lib.hid R;have O:=Lib.hid Q;clear R Q
  by_cases hlt:p<q
  ·have U:(p+q)/2<l.length:=by omega
   have b5:=hc ((p+q)/2) U;have b1:∀w',(Instr.indexAt 22 (.slice a l.length c) (.int .i64 (((p:Int)+(q:Int))/2))).run Tryz.prog w'=.ok (.pointer (some ⟨b,a8+(p+q)/2,none⟩)) w':=fun w'=>by
    rw[show(((p:Int)+(q:Int))/2)=(((p+q)/2:Nat):Int) by omega];exact Z w' _ U
   by_cases a1:l[(p+q)/2]<s
   ·go_wp2_with (go_at_call 347;refine(yC _ _ _).mono ?_;rintro e w' ⟨rfl,rfl⟩)
    go_round
    case rel=>
     refine⟨(p+q)/2+1,q,by omega,a6,by go_num,rfl,fun t ht a7=>?_,O.out⟩
     by_cases h:t=(p+q)/2
     ·subst h;exact a1
     ·have:=L.out t ((p+q)/2) ht U (by omega);omega
    case measure=>simp[intOf];omega
   ·go_wp2_with (go_at_call 347;refine(yC _ _ _).mono ?_;rintro e w' ⟨rfl,rfl⟩)
    go_round
    case rel=>
     refine⟨p,(p+q)/2,by omega,by omega,rfl,by go_num,K.out,fun t ht a7=>?_⟩
     by_cases h:t=(p+q)/2
     ·subst h;omega
     ·have:=L.out ((p+q)/2) t U ht (by omega);omega
    case measure=>simp[intOf];omega
  ·have z:p=q:=by omega
   by_cases A:p<l.length
   ·have b6:=hc p A
    by_cases M:l[p]=s
    ·have ht:(l[p]==s)=true:=by simp[M]
     have I:iY l s=true:=by rw[<-M];exact PY l p A
     have N:=Lib.hid I;clear M I z;go_wp2_with (go_at_call 348;refine(ED _ _).mono ?_;rintro e w' ⟨rfl,rfl⟩);go_ret2;exact⟨⟨p,by rw[N.out];rfl⟩,rfl⟩
    ·have ht:(l[p]==s)=false:=by simp[M]
     have I:iY l s=false:=vA fun t D S=>by
      rcases Nat.lt_trichotomy t p with h|h|h
      ·have:=K.out t D h;omega
      ·subst h;exact M S
      ·have h1:=O.out p A (by omega)
       have h2:=L.out p t A D h;omega
     have N:=Lib.hid I;clear M I z;go_wp2_with (go_at_call 348;refine(ED _ _).mono ?_;rintro e w' ⟨rfl,rfl⟩);go_ret2;exact⟨⟨p,by rw[N.out];rfl⟩,rfl⟩
   ·have I:iY l s=false:=vA fun t D S=>by
     have:=K.out t D (by omega);omega
    have N:=Lib.hid I;clear I z;go_wp2;go_ret2;exact⟨⟨p,by rw[N.out];rfl⟩,rfl⟩
theorem ON(g:Int)(l:List Int)(v:Value)(s:Int)(w:World)(z:aD w v l)(o:l.Pairwise (· < ·))(A:l.length<=1048576):
  Calls Tryz.prog 236 #[.agg #[.int .i64 g,v],.int .i64 s] w fun e w'=>e=.returned (.bool (iY l s))/\Below w.heap.size w w':=by
 obtain⟨D,F,rfl⟩:=z.shape;have H:=Lib.hid o;clear o;go_enter Tryz.func236,Tryz.ntmps236;go_wp2_with (go_at_call 310;refine(EW l _ _ _ (z.alloc _) H.out A).mono ?_;rintro e w' ⟨⟨i,rfl⟩,rfl⟩);go_ret;exact⟨rfl,aM _ _⟩
end
section
open Go.RowKit Go.G5
def VZ(l:List Int):Int:=l.foldl jC 0
def GK(g:Int)(l x:List Int):Bool:=bW g l&&x.all (iY l)&&(VZ x==2^g.toNat-1)
theorem MP{g:Int}{l:List Int}(h:bW g l=true):∀s∈l,0<=s/\s<64:=by
 obtain⟨o,z,D,_⟩:=jZ h;intro s A;have:=D s A;have:=lL o z;omega
end
section
open Go.RowKit Go.G5
def bX(p:Nat->Bool):Nat->Bool
 |0=>true
 |k+1=>bX p k&&p k
theorem cL{p:Nat->Bool}{k n:Nat}(h:k<n)(z:p k=false):bX p n=false:=by
 induction n with
 |zero=>omega
 |succ n ih=>
  rw[bX]
  by_cases o:k=n
  ·rw[<-o,z];simp
  ·rw[ih (by omega)];rfl
theorem dM{p:Nat->Bool}{k:Nat}(h:bX p k=true)(o:p k=true):bX p (k+1)=true:=by rw[bX,h,o];rfl
theorem aJ(l:List Int)(k:Nat)(h:k<l.length):l.getD k 0=l[k]:=by rw[List.getD_eq_getElem?_getD,List.getElem?_eq_getElem h,Option.getD_some]
end
section
open Go.RowKit Go.G5
def dO(g:Int)(l:List Int):Bool:=decide (l.length<=6)&&dK g l
def gW(l:List Int):Nat->Int->List Int->Option (List Int)
 |0,_,list=>some list
 |n+1,used,list=>(fA (mV (l.getD list.length 0) used)).findSome? fun e=>gW l n (jC used (2^e.toNat)) (list++[e])
def pI(l:List Int)(n:Nat)(used:Int)(list:List Int)(e:Int):Option (List Int):=gW l n (jC used (2^e.toNat)) (list++[e])
theorem uY(l:List Int)(used:Int)(list:List Int):gW l 0 used list=some list:=rfl
theorem pW(l:List Int)(n:Nat)(used:Int)(list:List Int):gW l (n+1) used list=(fA (mV (l.getD list.length 0) used)).findSome? (pI l n used list):=rfl
def lC(g:Int)(l:List Int):Option (List Int):=if dO g l then gW l l.length 0 [] else none
def eR(g:Int)(l:List Int):Bool:=(lC g l).isSome
def kC(g:Int)(l:List Int):List Int:=(lC g l).getD []
theorem uT{α β:Type}(F:α->Option β)(l:List α)(k:Nat)(h:k<l.length):(l.take (k+1)).findSome? F=((l.take k).findSome? F).or (F l[k]):=by
 rw[List.take_succ_eq_append_getElem h,List.findSome?_append]
 cases o:F l[k]<;>simp[o]
theorem J8{α β:Type}(F:α->Option β)(l:List α)(k:Nat)(h:k<l.length)(x:β)(o:(l.take k).findSome? F=none)(z:F l[k]=some x):l.findSome? F=some x:=by
 have e:l=l.take (k+1)++l.drop (k+1):=(List.take_append_drop _ _).symm;rw[e,List.findSome?_append,uT F l k h,o,z];rfl
theorem F7(l:List Int):∀(n:Nat) (used:Int) (list x:List Int),gW l n used list=some x->x.length=list.length+n:=by
 intro n
 induction n with
 |zero=>intro used list x h;rw[uY]at h;cases h;rfl
 |succ n ih=>
  intro used list x h;rw[pW]at h;obtain⟨e,_,o⟩:=List.exists_of_findSome?_eq_some h;have:=ih _ _ _ o;rw[List.length_append,List.length_singleton]at this;omega
theorem mW(e:Int)(h:0<=e/\e<6):0<(2:Int)^e.toNat/\(2:Int)^e.toNat<64:=by
 rcases(show e=0∨e=1∨e=2∨e=3∨e=4∨e=5 by omega) with rfl|rfl|rfl|rfl|rfl|rfl<;>decide
theorem TE(g:Int)(l:List Int):(kC g l).length<=6:=by
 unfold kC lC
 split
 ·rename_i h
  unfold dO at h;have o:=of_decide_eq_true (Bool.and_eq_true_iff.1 h).1
  cases hr:gW l l.length 0 []with
  |none=>simp
  |some x=>have:=F7 l _ _ _ _ hr;simp at this;simp;omega
 ·simp
theorem uW{g:Int}{l:List Int}(h:eR g l=false):kC g l=[]:=by
 unfold eR at h;unfold kC
 cases hr:lC g l with
 |none=>rfl
 |some x=>rw[hr]at h;simp at h
def bD(l:List Int)(code:Nat):Nat->Int
 |0=>0
 |k+1=>if aW code k then jC (bD l code k) (l.getD k 0) else bD l code k
def mD(l:List Int)(code:Nat):Bool:=decide (cK (bD l code l.length)<(aY code:Int))
def dC(P:Nat->Bool):Nat->Nat->Option Nat
 |0,_=>none
 |n+1,s=>if P s then some s else dC P n (s+1)
def kG(g:Int)(l:List Int):Option Nat:=if dO g l then dC (mD l) (2^l.length) 0 else none
def iB(g:Int)(l:List Int):Bool:=(kG g l).isSome
def eQ(g:Int)(l:List Int):List Int:=match kG g l with|none=>[]|some c=>fA (c:Int)
theorem S4(g:Int)(l:List Int):(eQ g l).length<=6:=by
 unfold eQ
 cases kG g l with
 |none=>simp
 |some c=>unfold fA dT;exact qG _ 6
theorem kS(l:List Int)(code:Nat)(h:∀x∈l,0<=x/\x<64):∀k,k<=l.length->0<=bD l code k/\bD l code k<64:=by
 intro k
 induction k with
 |zero=>intro _;simp[bD]
 |succ k ih=>
  intro A;have o:=ih (by omega);have z:=h _ (List.getElem_mem (show k<l.length by omega));rw[bD,aJ l k (by omega)]
  split
  ·exact sU _ _ 6 o.1 z.1 o.2 z.2
  ·exact o
theorem Q6(l:List Int)(h:∀x∈l,0<=x/\x<64):mD l 0=false:=by
 unfold mD;have:=kS l 0 h l.length (Nat.le_refl _);have o:=(CT (bD l 0 l.length) (by omega)).1;simp[dR];exact o
theorem PE(P:Nat->Bool)(n:Nat)(h:P 0=false):dC P (n+1) 0=dC P n 1:=by rw[dC,h];rfl
theorem vB(P:Nat->Bool):∀(n s c:Nat),dC P n s=some c->c<s+n:=by
 intro n
 induction n with
 |zero=>intro s c h;cases h
 |succ n ih=>
  intro s c h;rw[dC]at h
  split at h
  ·cases h;omega
  ·have:=ih _ _ h;omega
theorem vS{g:Int}{l:List Int}(h:dO g l=true):l.length<=6/\0<=g/\g<=6/\(∀s∈l,0<=s/\s<2^g.toNat)/\(∀s∈l,0<=s/\s<64):=by
 unfold dO dK at h;simp only[Bool.and_eq_true,decide_eq_true_eq,List.all_eq_true]at h;have o:=bL.1 h.2.1;have D:=lL o.1 o.2;have A:∀s∈l,0<=s/\s<2^g.toNat:=fun s z=>eN.1 (h.2.2 s z);exact⟨h.1,o.1,o.2,A,fun s z=>by have:=A s z;omega⟩
end
section
open Go.RowKit Go.G5
end
end Go.Proofs.YtipejodijbjpcaaGreatDoor
section
namespace Go.G5
open Go Go.RowKit
structure GrownIn (w w':World) (P:Nat->Prop):Prop where
 os:w'.os=w.os
 tape:w'.tape=w.tape
 output:w'.output=w.output
 size:w.heap.size<=w'.heap.size
 block:∀b,b<w.heap.size->¬P b->w'.heap[b]?=w.heap[b]?
section
variable {w w' w'':World} {P:Nat->Prop}
theorem GrownIn.refl(w:World)(P:Nat->Prop):GrownIn w w P:=⟨rfl,rfl,rfl,Nat.le_refl _,fun _ _ _=>rfl⟩
theorem GrownIn.trans(h:GrownIn w w' P)(k:GrownIn w' w'' P):GrownIn w w'' P:=
 ⟨k.os.trans h.os,k.tape.trans h.tape,k.output.trans h.output,Nat.le_trans h.size k.size,fun b hb hr=>(k.block b (Nat.lt_of_lt_of_le hb h.size) hr).trans (h.block b hb hr)⟩
theorem GrownIn.of_row{row:Option Nat}(h:w.grownBy w' row)(o:∀k,row=some k->P k):GrownIn w w' P:=⟨h.os,h.tape,h.output,h.size,fun b hb z=>h.block b hb (fun e=>z (o b e.symm))⟩
theorem GrownIn.of_below(h:Below w.heap.size w w'):GrownIn w w' P:=⟨h.os,h.tape,h.output,h.size,fun b hb _=>h.block b hb⟩
theorem aB.growIn{g:Nat}{t:TypeId}{cs:Array Value}(h:aB w g t cs)(o:GrownIn w w' P)(z:¬P g):aB w' g t cs:=(o.block g h.lt z).trans h
theorem aL.growIn{E:TypeId}{B:Nat}{v:Value}{l:List Int}(h:aL E B w v l)(D:GrownIn w w' P)(F:∀k,v.ownBlock=some k->¬P k):aL E B w' v l:=by
 refine⟨h.1,?_⟩
 rcases h.2 with h1|⟨g,cap,o,rfl,z,A,r⟩
 ·exact .inl h1
 ·refine .inr ⟨g,cap,o,rfl,z,?_,r⟩
  rw[D.block g (Array.getElem?_eq_some_iff.1 A).1 (F g rfl)];exact A
theorem Below.growIn{B:Nat}{a:World}(h:Below B a w)(o:GrownIn w w' P)(D:B<=w.heap.size)(z:∀k,P k->B<=k):Below B a w':=
 ⟨o.os.trans h.os,o.tape.trans h.tape,o.output.trans h.output,Nat.le_trans h.size o.size,fun b hb=>(o.block b (by omega) (fun A=>by have:=z b A;omega)).trans (h.block b hb)⟩
end
end Go.G5
namespace Go.Proofs.YtipejodijbjpcaaGreatDoor
open Go.RowKit Go.G5
end Go.Proofs.YtipejodijbjpcaaGreatDoor
end
namespace Go.Proofs.YtipejodijbjpcaaGreatDoor
section
open Go.RowKit Go.G5
theorem jR(g:Int)(l:List Int)(v:Value)(w:World)(A:aD w v l):
  Calls Tryz.prog 266 #[.int .i64 g,v] w fun e w'=>e=.returned (.bool (dO g l))/\w=w':=by
 obtain⟨a,c,rfl⟩:=A.shape
 by_cases h:l.length<=6
 ·have o:dO g l=dK g l:=by unfold dO;rw[decide_eq_true h];rfl
  have D:(l.length:Int)<=6:=by omega
  have z:=Lib.hid o;clear o;go_enter Tryz.func266,Tryz.ntmps266;go_wp2_with (go_at_call 224;refine(mO g l _ _ A).mono ?_;rintro e w' ⟨rfl,rfl⟩);go_ret;exact⟨by rw[z.out];rfl,rfl⟩
 ·have o:dO g l=false:=by unfold dO;rw[decide_eq_false h];rfl
  have D:¬(l.length:Int)<=6:=by omega
  have z:=Lib.hid o;clear o;go_enter Tryz.func266,Tryz.ntmps266;go_wp2;go_ret;exact⟨by rw[z.out];rfl,rfl⟩
theorem N9(w:World)(z o:Nat)(v:Value)(a:Option Addr)(n c:Nat)(Y:v=.slice a n c)(S:Array Value)(K:aB w z 22 #[.slice none 0 0])(I:aB w o 4 #[.bool false])(D:z≠o)(_:S=#[]):
  Calls Tryz.prog 268 #[v,.pointer (some ⟨z,0,none⟩),.pointer (some ⟨o,0,none⟩)] w fun e w'=>e=.returned (.bool false)/\aB w' z 22 #[v]/\aB w' o 4 #[.bool true]/\GrownIn w w' (fun k=>k=z∨k=o):=by
 subst Y;have Go:=K.cell;have O:=I.cell;have N:=K.frozen;have M:=I.frozen;have zo:=K.lt;have Z:=I.lt;have F:¬o=z:=fun e=>D e.symm;go_enter Tryz.func268,Tryz.ntmps268;go_wp2;refine aI ?_;intro Wf A;have Q:aB Wf z 22 #[.slice a n c]:=by
  rw[A];have:=(K.set 0 (.slice a n c)).far (p:=⟨o,0,none⟩) D (.bool true);simpa using this
 have R:aB Wf o 4 #[.bool true]:=by
  rw[A];have:=(I.far (p:=⟨z,0,none⟩) F (.slice a n c)).set 0 (.bool true);simpa using this
 have U:GrownIn w Wf (fun k=>k=z∨k=o):=by
  rw[A];exact(GrownIn.of_row (gG w ⟨z,0,none⟩ _) (fun k L=>.inl (Option.some.inj L).symm)).trans (GrownIn.of_row (gG _ ⟨o,0,none⟩ _) (fun k L=>.inr (Option.some.inj L).symm))
 clear A Go O N M;go_ret;exact⟨rfl,Q,R,U⟩
theorem wX:∀args w,(callFunc 268 args).run Tryz.prog w=.ok (.enter 268 args) w:=enters_of Tryz.func268 (by kernel_rfl) rfl
end
section
open Go.RowKit Go.G5
def sX(A z B:Nat)(w:World)(R:Option (List Int))(e:Ending)(w':World):Prop:=match R with
 |none=>e=.returned (.bool true)/\Below w.heap.size w w'
 |some x=>e=.returned (.bool false)/\(∃o i D,aC 3 B w' (.slice o i D) x/\aB w' A 22 #[.slice o i D])/\aB w' z 4 #[.bool true]/\GrownIn w w' (fun k=>k=A∨k=z)
theorem QL(l:List Int)(lv:Value)(hm:∀x∈l,0<=x/\x<64)(p0:l.length<=6)(S Q:Nat)(g3:S≠Q):∀(n:Nat) (used:Int) (list:List Int) (v:Value) (w:World) (B:Nat),list.length+n=l.length->aD w lv l->aC 3 B w v list->B<=w.heap.size->S<B->Q<B ->
  aB w S 22 #[.slice none 0 0]->aB w Q 4 #[.bool false]->0<=used/\used<64 ->
  Calls Tryz.prog 267 #[lv,.int .i64 used,v,.func (.func 268) #[] #[.pointer (some ⟨S,0,none⟩),.pointer (some ⟨Q,0,none⟩)]] w (sX S Q B w (gW l n used list)):=by
 have HM:=Lib.hid hm;have he:=wX;clear hm;intro n
 induction n with
 |zero=>
  intro used list v w B hn Z own hB k0 j9 Ko Kf hu;obtain⟨a,c,rfl⟩:=Z.shape;obtain⟨av,cv,rfl⟩:=own.shape;have ht:((list.length:Int)==(l.length:Int))=true:=by simp;omega
  have HN:=Lib.hid hn;have h9:=Lib.hid g3;clear hn g3;go_enter Tryz.func267,Tryz.ntmps267;go_wp2_with (go_at_fn 268;refine(N9 _ S Q _ _ _ _ rfl #[] Ko Kf h9.out rfl).mono ?_;rintro e w1 ⟨rfl,K1,K2,hg⟩);go_ret;refine⟨rfl,⟨av,list.length,cv,?_,K1⟩,K2,hg⟩;refine⟨?_,own.2⟩;have h1:=own.1
  rcases h1.2 with h2|⟨g,cap,j2,h2,j5,f8,r⟩
  ·exact⟨h1.1,.inl h2⟩
  ·refine⟨h1.1,.inr ⟨g,cap,j2,h2,j5,?_,r⟩⟩
   rw[hg.block g (Array.getElem?_eq_some_iff.1 f8).1 (by rintro(h|h)<;>omega)];exact f8
 |succ n ih=>
  intro used list v w B hn Z own hB k0 j9 Ko Kf hu;have g1:=Z;obtain⟨a,b,q3,c,rfl,m0,g0,hc,hb⟩:=Z.view Tryz.prog 22 3 Tryz.underlying22 aG;obtain⟨av,cv,rfl⟩:=own.shape;have hlt:list.length<l.length:=by omega
  have ht:((list.length:Int)==(l.length:Int))=false:=by simp;omega
  have K:=HM.out _ (List.getElem_mem hlt);have k1:=hc list.length hlt;have l9:=fun W=>g0 W list.length hlt;have o:=pW l n used list;rw[aJ l list.length hlt]at o;obtain⟨x,hx⟩:∃x,x=l[list.length]:=⟨_,rfl⟩;rw[<-hx]at K k1 o;have f5:=US K.1 K.2 hu.1 hu.2;have b3:=UL x used 64 K.1 K.2;obtain⟨d,hd⟩:∃d,d=mV x used:=⟨_,rfl⟩;rw[<-hd]at f5 b3 o;have g8:=hu.1;have p8:=hu.2;obtain⟨F,hF⟩:∃F:Int->Option (List Int),F=pI l n used list:=⟨_,rfl⟩;rw[<-hF]at o;have f7:=rM d;have L:=MU d;have HN:=Lib.hid hn;have HF:=Lib.hid hF;have IH:=Lib.hid ih;clear hn hx hd hF ih hc g0 hu K;go_enter Tryz.func267,Tryz.ntmps267;go_wp2_with fail;refine(nX d _ b3.1 b3.2).mono ?_;rintro e w1 ⟨p1,i1,q1,rfl,o1,j8⟩;have f9:i1=(fA d).length:=o1.ints.capLe.1;obtain⟨E,hE⟩:∃E,E=fA d:=⟨_,rfl⟩;rw[<-hE]at o1 f9 o f7 L;subst f9;have a6:=Lib.hid o;have h8:=Lib.hid L;clear hE o L;go_wp2_with fail;go_loopw [29] (fun i wr=>∃j:Nat,j<=E.length/\i=.int .i64 j/\(E.take j).findSome? F=none/\Below w.heap.size w wr/\aC 3 w.heap.size wr (.slice p1 E.length q1) E) (fun i _=>E.length-(intOf i).toNat)
  case atStart=>exact⟨0,Nat.zero_le _,rfl,by simp,j8,o1⟩
  case round=>
   obtain⟨j,hj,rfl,O,Y,oE⟩:=hrel;have H:=Lib.hid O;clear O;have yw:=Y.size
   by_cases N:j<E.length
   ·have ol:=own.keep Y
    obtain⟨a5,bj,m4,c5,f6,k3,a7,f3,_⟩:=oE.ints.view Tryz.prog 22 3 Tryz.underlying22 aG;simp only[Value.slice.injEq,true_and]at f6;obtain⟨rfl,rfl⟩:=f6;have M:=h8.out _ (List.getElem_mem N);have f4:=f3 j N;have k2:=fun W=>a7 W j N;have z:=uT F E j N;rw[H.out]at z;have A:=fun y=>J8 F E j N y H.out;obtain⟨e,b4⟩:∃e:Nat,E[j]=(e:Int):=⟨E[j].toNat,by omega⟩;rw[b4]at f4 M z;simp only[b4]at A;have hp:=mW e M;have b9:(2:Int)^(e:Int).toNat=2^e:=by simp
    rw[b9]at hp;have k4:bits .or .i64 used (2^e)=jC used (2^e):=tB g8 (by omega) (by omega) (by omega);have g4:=sU used (2^e) 6 g8 (by omega) (by omega) (by omega);have e9:F (e:Int)=gW l n (jC used (2^e)) (list++[(e:Int)]):=by rw[HF.out];unfold pI;rw[b9]
    have D:∀(v6:Value) (U:World),aC 3 wr.heap.size U v6 (list++[(e:Int)])->Below wr.heap.size wr U ->
      Calls Tryz.prog 267 #[.slice a l.length c,.int .i64 (jC used (2^e)),v6,.func (.func 268) #[] #[.pointer (some ⟨S,0,none⟩),.pointer (some ⟨Q,0,none⟩)]] U (sX S Q wr.heap.size U (F (e:Int))):=fun v6 U h1 h2=>by
     rw[e9];have BB:=Y.after h2 Y.size;exact IH.out _ _ v6 U wr.heap.size (by have:=HN.out;rw[List.length_append,List.length_singleton];omega) (g1.below BB (Nat.le_refl _)) h1 h2.size (by omega) (by omega) (Ko.keep BB) (Kf.keep BB) g4
    obtain⟨R,hR⟩:∃R,R=F (e:Int):=⟨_,rfl⟩;rw[<-hR]at z;simp only[<-hR]at A D;obtain⟨u2,c6⟩:∃u,u=jC used (2^e):=⟨_,rfl⟩;rw[<-c6]at k4;simp only[<-c6]at D;have a1:=Lib.hid D;have f0:([]:List Int).length+list.length<=17592186044416:=by simp;omega
    have f2:([]++list).length<17592186044415:=by simp;omega
    have e8:bA (e:Int):=⟨by omega,by omega⟩;have e0:=Lib.hid f0;have e4:=Lib.hid f2;have c9:=Lib.hid e8;have d0:=Lib.hid A;have b1:=Lib.hid z;have i6:=Lib.hid oE;have p5:=hp.1;have p6:=hp.2;have o9:e<6:=by omega
    clear D f0 f2 e8 A z e9 c6 hR g4 b9 b4 M hp oE f3 a7
    cases R with
    |none=>
     go_wp2_with (first
 |(at_builtin;refine tP rfl _ _ _ rfl 3 Tryz.underlying22 aG wr.heap.size (.slice none 0 0) [] rfl (aC.nil _ _ _) (.slice av list.length cv) list rfl ol.ints e0.out (Nat.le_refl _) ?_;intro v5 w5 o5 g5 n5;have I:=(Below.refl wr.heap.size wr).grown g5 (Nat.le_refl _) (fun q hq=>((aC.nil 3 wr.heap.size wr).lt q hq).1))
 |(at_builtin;refine bB rfl _ _ _ rfl 3 Tryz.underlying22 aG wr.heap.size v5 ([]++list) (e:Int) w5.heap.size rfl rfl (aT _ _ _ _ _ rfl) (o5.alloc _) c9.out e4.out (I.alloc I.size _).size ?_;intro v6 U o6 g6 n6;have b6:=(I.alloc I.size _).grown g6 (I.alloc I.size _).size (fun q hq=>(o5.lt q hq).1))
 |(go_at_call 267;refine(a1.out v6 U o6 b6).mono ?_;rintro e7 w7 ⟨rfl,b7⟩))
     have B6:=Y.after b6 Y.size;have B7:=B6.after b7 B6.size;go_roundw
     case rel=>exact⟨j+1,by omega,by go_num,by rw[b1.out];rfl,B7,(i6.out.keep b6).keep b7⟩
     case measure=>simp[intOf];omega
    |some y=>
     have a9:gW l (n+1) used list=some y:=by rw[a6.out];exact d0.out y rfl
     have e6:=Lib.hid a9;clear a9;go_wp2_with (first
 |(at_builtin;refine tP rfl _ _ _ rfl 3 Tryz.underlying22 aG wr.heap.size (.slice none 0 0) [] rfl (aC.nil _ _ _) (.slice av list.length cv) list rfl ol.ints e0.out (Nat.le_refl _) ?_;intro v5 w5 o5 g5 n5;have I:=(Below.refl wr.heap.size wr).grown g5 (Nat.le_refl _) (fun q hq=>((aC.nil 3 wr.heap.size wr).lt q hq).1))
 |(at_builtin;refine bB rfl _ _ _ rfl 3 Tryz.underlying22 aG wr.heap.size v5 ([]++list) (e:Int) w5.heap.size rfl rfl (aT _ _ _ _ _ rfl) (o5.alloc _) c9.out e4.out (I.alloc I.size _).size ?_;intro v6 U o6 g6 n6;have b6:=(I.alloc I.size _).grown g6 (I.alloc I.size _).size (fun q hq=>(o5.lt q hq).1))
 |(go_at_call 267;refine(a1.out v6 U o6 b6).mono ?_;rintro e7 w7 ⟨rfl,⟨p7,i7,q7,o7,K7⟩,j0,g7⟩))
     go_ret;show sX S Q B w (gW l (n+1) used list) _ _;rw[e6.out];exact⟨rfl,⟨p7,i7,q7,o7.mono (by omega),K7⟩,j0,(GrownIn.of_below (Y.after b6 Y.size)).trans g7⟩
   ·have a8:gW l (n+1) used list=none:=by rw[a6.out,<-List.take_of_length_le (show E.length<=j by omega),H.out]
    have e5:=Lib.hid a8;clear a8;go_wp2;go_ret;show sX S Q B w (gW l (n+1) used list) _ _;rw[e5.out];exact⟨rfl,Y⟩
end
section
open Go.RowKit Go.G5
theorem WH(w:World)(g:Int)(_:bA g)(v:Value)(l:List Int)(hv:aD w v l)(_:l.length<=1048576):
  Calls Tryz.prog 154 #[.int .i64 g,v] w fun e w'=>∃Y i Z,e=.returned (.tuple #[.slice Y i Z,.bool (eR g l)])/\aL 3 w.heap.size w' (.slice Y i Z) (kC g l)/\Below w.heap.size w w':=by
 have F:=hv;obtain⟨a,c,rfl⟩:=hv.shape
 cases L:dO g l with
 |false=>
  have hr:lC g l=none:=by unfold lC;rw[L];rfl
  have o:eR g l=false:=by unfold eR;rw[hr];rfl
  have N:kC g l=[]:=uW o;have H:=Lib.hid (And.intro o N);have Q:=Lib.hid L;clear hr o N L;go_enter Tryz.func154,Tryz.ntmps154;go_wp2_with (go_at_call 266;refine(jR g l _ _ F).mono ?_;rintro e w1 ⟨rfl,rfl⟩;rw[Q.out]);go_ret2;exact⟨none,0,0,by rw[H.out.1];rfl,by rw[H.out.2];exact aL.nil _ _ _,Below.refl _ _⟩
 |true=>
  have hr:lC g l=gW l l.length 0 []:=by unfold lC;rw[L];rfl
  obtain⟨O,_,_,_,hm⟩:=vS L;have Q:=Lib.hid L;have b5:∀(fn:Fn) (first cap:Array Value) (w:World),(Instr.makeFunc fn first cap).run Tryz.prog w=.ok (.func fn first cap) w:=fun _ _ _ _=>rfl;have z:∀V,Below w.heap.size w V->w.heap.size+2<=V.heap.size->aB V w.heap.size 22 #[.slice none 0 0]->aB V (w.heap.size+1) 4 #[.bool false] ->
    Calls Tryz.prog 267 #[.slice a l.length c,.int .i64 0,.slice none 0 0,.func (.func 268) #[] #[.pointer (some ⟨w.heap.size,0,none⟩),.pointer (some ⟨w.heap.size+1,0,none⟩)]] V (sX w.heap.size (w.heap.size+1) (w.heap.size+2) V (lC g l)):=fun V o hz h1 h2=>by
   rw[hr];exact QL l _ hm O _ _ (by omega) l.length 0 [] _ V (w.heap.size+2) (by simp) (F.below o (Nat.le_refl _)) (aC.nil _ _ _) hz (by omega) (by omega) h1 h2 (by omega)
  obtain⟨R,M⟩:∃R,R=lC g l:=⟨_,rfl⟩;simp only[<-M]at z;have U:=Lib.hid z;clear z hr L hm O
  cases R with
  |none=>
   have o:eR g l=false:=by unfold eR;rw[<-M];rfl
   have H:=Lib.hid (And.intro o (uW o));clear o M;go_enter Tryz.func154,Tryz.ntmps154;go_wp2_with (go_at_call 266;refine(jR g l _ _ F).mono ?_;rintro e w1 ⟨rfl,rfl⟩;rw[Q.out]);refine aH ?_;intro V D;have B:Below w.heap.size w V:=by rw[D];exact cD _ _ _
   have I:aB V w.heap.size 22 #[.slice none 0 0]:=by rw[D];exact(aB.new _ _ _).alloc _
   have A:aB V (w.heap.size+1) 4 #[.bool false]:=by rw[D];have:=aB.new (w.alloc (.cells #[.slice none 0 0] 22)) 4 #[.bool false];simpa using this
   have z2:=A.lt;clear D;refine(U.out V B (by omega) I A).mono ?_;rintro e w3 ⟨rfl,K⟩;have I:=I.keep K;have A:=A.keep K;have S:=B.after K B.size;have G1:=I.cell;have G2:=A.cell;go_wp2_with fail;go_quiet (fail);go_wp2;go_ret2;exact⟨none,0,0,by rw[H.out.1];rfl,by rw[H.out.2];exact aL.nil _ _ _,S.drewN' _⟩
  |some y=>
   have o:eR g l=true:=by unfold eR;rw[<-M];rfl
   have N:kC g l=y:=by unfold kC;rw[<-M];rfl
   have H:=Lib.hid (And.intro o N);clear o M N;go_enter Tryz.func154,Tryz.ntmps154;go_wp2_with (go_at_call 266;refine(jR g l _ _ F).mono ?_;rintro e w1 ⟨rfl,rfl⟩;rw[Q.out]);refine aH ?_;intro V D;have B:Below w.heap.size w V:=by rw[D];exact cD _ _ _
   have I:aB V w.heap.size 22 #[.slice none 0 0]:=by rw[D];exact(aB.new _ _ _).alloc _
   have A:aB V (w.heap.size+1) 4 #[.bool false]:=by rw[D];have:=aB.new (w.alloc (.cells #[.slice none 0 0] 22)) 4 #[.bool false];simpa using this
   have z2:=A.lt;clear D;refine(U.out V B (by omega) I A).mono ?_;rintro e w3 ⟨rfl,⟨p3,i3,q3,o3,K3⟩,K4,g3⟩;have S:=Below.growIn B g3 B.size (by rintro k (h|h)<;>omega);have G1:=K3.cell;have G2:=K4.cell;clear I A;go_wp2_with fail;go_quiet (fail);go_wp2;go_ret2;exact⟨p3,i3,q3,by rw[H.out.1];rfl,by rw[H.out.2];exact(o3.toW.mono (by omega)).drewN _,S.drewN' _⟩
theorem AU(l:List Int)(v:Value)(w:World)(hv:aD w v l)(Z:∀x∈l,0<=x/\x<64)(b3:l.length<=6)(code:Nat)(N:code<64):
  Calls Tryz.prog 257 #[v,.int .i64 code] w fun e w'=>e=.returned (.int .i64 ((aY code:Int)-cK (bD l code l.length)))/\w=w':=by
 obtain⟨a,b,b7,c,rfl,Y,b0,hc,hb⟩:=hv.view Tryz.prog 22 3 Tryz.underlying22 aG;have M:=Lib.hid Z;clear Z;go_enter Tryz.func257,Tryz.ntmps257;go_wp2;go_loop [5,10] (fun u i=>∃k:Nat,k<=l.length/\i=.int .i64 k/\u=.int .i64 (bD l code k)) (fun _ i=>l.length-(intOf i).toNat)
 case atStart=>exact⟨0,Nat.zero_le _,rfl,rfl⟩
 case round=>
  obtain⟨k,hk,rfl,rfl⟩:=hrel
  by_cases hlt:k<l.length
  ·have a9:=hc k hlt
   have K:=M.out _ (List.getElem_mem hlt);have o:=kS l code M.out k hk;have R:bD l code (k+1)=if aW code k then jC (bD l code k) l[k] else bD l code k:=by rw[bD,aJ l k hlt]
   have I:=dY (code:Int) k (by omega) (by omega);have A:=gP code k;obtain⟨y,hy⟩:∃y,y=bR (code:Int) k:=⟨_,rfl⟩;rw[<-hy]at I A;have Q:=tB o.1 (show bD l code k<4611686018427387904 by omega) K.1 (show l[k]<4611686018427387904 by omega);obtain⟨u,F⟩:∃u,u=bD l code k:=⟨_,rfl⟩;rw[<-F]at Q R ⊢;have U:=Lib.hid R;clear R hy F o K
   cases z:aW code k with
   |false=>
    have S:(y==1)=false:=by rw[A,z]
    have D:=Lib.hid z;clear z A;go_wp2;go_round
    case rel=>exact⟨k+1,by omega,by go_num,by rw[U.out,D.out];rfl⟩
    case measure=>simp[intOf];omega
   |true=>
    have S:(y==1)=true:=by rw[A,z]
    have D:=Lib.hid z;clear z A;go_wp2;go_round
    case rel=>exact⟨k+1,by omega,by go_num,by rw[U.out,D.out,if_pos rfl]⟩
    case measure=>simp[intOf];omega
  ·have O:k=l.length:=by omega
   subst O;have o:=kS l code M.out l.length (Nat.le_refl _);obtain⟨u,F⟩:∃u,u=bD l code l.length:=⟨_,rfl⟩;rw[<-F]at o ⊢;have b5:=CT u (by omega);have b4:=rU code (by omega);have HU:=Lib.hid F;have L:=o.1;have a1:=o.2;clear F o;go_wp2_with (first
    |(go_at_call 170;refine(nP code _ (by omega)).mono ?_;rintro e w1 ⟨rfl,rfl⟩)
    |(go_at_call 170;refine(H8 u _ L (by omega)).mono ?_;rintro e w1 ⟨rfl,rfl⟩))
   go_ret;exact⟨eJ (by rw[<-HU.out]),rfl⟩
theorem WD(w:World)(g:Int)(_:bA g)(v:Value)(l:List Int)(hv:aD w v l)(_:l.length<=1048576):
  Calls Tryz.prog 155 #[.int .i64 g,v] w fun e w'=>∃ad i cp,e=.returned (.tuple #[.slice ad i cp,.bool (iB g l)])/\aL 3 w.heap.size w' (.slice ad i cp) (eQ g l)/\Below w.heap.size w w':=by
 have R:=hv;obtain⟨a,c,rfl⟩:=hv.shape
 cases O:dO g l with
 |false=>
  have hr:kG g l=none:=by unfold kG;rw[O];rfl
  have K:iB g l=false:=by unfold iB;rw[hr];rfl
  have L:eQ g l=[]:=by unfold eQ;rw[hr]
  have H:=Lib.hid (And.intro K L);have HF:=Lib.hid O;clear hr K L O;go_enter Tryz.func155,Tryz.ntmps155;go_wp2_with (go_at_call 266;refine(jR g l _ _ R).mono ?_;rintro e w1 ⟨rfl,rfl⟩;rw[HF.out]);go_ret2;exact⟨none,0,0,by rw[H.out.1];rfl,by rw[H.out.2];exact aL.nil _ _ _,Below.refl _ _⟩
 |true=>
  have hr:kG g l=dC (mD l) (2^l.length) 0:=by unfold kG;rw[O];rfl
  obtain⟨Q,_,_,_,hm⟩:=vS O;have HF:=Lib.hid O;have HM:=Lib.hid hm;have a6:(2:Nat)^l.length<=64:=Nat.pow_le_pow_right (n:=2) (by decide) Q;have I:((2^l.length:Nat):Int)=(2:Int)^l.length:=by simp
  have e4:(2:Int)^l.length<=64:=by rw[<-I];exact_mod_cast a6
  have e5:=(bJ l.length 6 Q).2;obtain⟨N,hN⟩:∃N:Nat,N=2^l.length:=⟨_,rfl⟩;rw[<-hN]at hr a6 I;obtain⟨P,hP⟩:∃P,P=mD l:=⟨_,rfl⟩;rw[<-hP]at hr;have HR:=Lib.hid hr;have Y:=Lib.hid I;have HP:=Lib.hid hP;clear hr O hm hN I hP;go_enter Tryz.func155,Tryz.ntmps155;go_wp2_with (go_at_call 266;refine(jR g l _ _ R).mono ?_;rintro e w1 ⟨rfl,rfl⟩;rw[HF.out]);go_loop [15] (fun i=>∃k:Nat,k<=N/\i=.int .i64 k/\dC P (N-k) k=dC P N 0) (fun i=>N-(intOf i).toNat)
  case atStart=>exact⟨0,Nat.zero_le _,rfl,rfl⟩
  case round=>
   obtain⟨k,hk,rfl,z⟩:=hrel;have H:=Lib.hid z;clear z
   by_cases hlt:k<N
   ·have a1:(k:Int)<2^l.length:=by rw[<-Y.out];exact_mod_cast hlt
    have D:dC P (N-k) k=if P k then some k else dC P (N-(k+1)) (k+1):=by
     rw[show N-k=(N-(k+1))+1 by omega];rfl
    have o:P k=decide (cK (bD l k l.length)<(aY k:Int)):=by rw[HP.out];rfl
    have F:=AU l _ w R HM.out Q k (by omega);have b4:=kS l k HM.out l.length (Nat.le_refl _);have b3:=CT (bD l k l.length) (by omega);have b1:=rU k (by omega);obtain⟨q,hq⟩:∃q,q=cK (bD l k l.length):=⟨_,rfl⟩;obtain⟨r,hr⟩:∃r,r=(aY k:Int):=⟨_,rfl⟩;rw[<-hq]at o F b3;rw[<-hr]at o F;have e6:r<=8/\0<=r:=by rw[hr];omega
    have U:=Lib.hid F;have Z:=Lib.hid D;have c6:k<64:=by omega
    clear F D b4 hq hr b1
    cases A:P k with
    |false=>
     have e0:¬0<r-q:=by rw[A]at o;have:=of_decide_eq_false o.symm;omega
     have a7:=Lib.hid A;clear A o;go_wp2_with (go_at_call 257;refine U.out.mono ?_;rintro e w1 ⟨rfl,rfl⟩);go_round
     case rel=>exact⟨k+1,by omega,by go_num,by rw[<-H.out,Z.out,a7.out];rfl⟩
     case measure=>simp[intOf];omega
    |true=>
     have e7:0<r-q:=by rw[A]at o;have:=of_decide_eq_true o.symm;omega
     have M:kG g l=some k:=by rw[HR.out,<-H.out,Z.out,A];rfl
     have K:iB g l=true:=by unfold iB;rw[M];rfl
     have L:eQ g l=fA (k:Int):=by unfold eQ;rw[M]
     have S:=Lib.hid (And.intro K L);clear A o M K L;go_wp2_with (first
      |(go_at_call 257;refine U.out.mono ?_;rintro e w1 ⟨rfl,rfl⟩)
      |(go_at_call 171;refine(nX (k:Int) _ (by omega) (by omega)).mono ?_;rintro e w2 ⟨p2,i2,q2,rfl,o2,b0⟩))
     go_ret2;exact⟨p2,i2,q2,by rw[S.out.1];rfl,by rw[S.out.2];exact o2.toW,b0⟩
   ·have a1:¬(k:Int)<2^l.length:=by rw[<-Y.out];exact_mod_cast hlt
    have M:kG g l=none:=by rw[HR.out,<-H.out,show N-k=0 by omega];rfl
    have K:iB g l=false:=by unfold iB;rw[M];rfl
    have L:eQ g l=[]:=by unfold eQ;rw[M]
    have S:=Lib.hid (And.intro K L);clear M K L;go_wp2;go_ret2;exact⟨none,0,0,by rw[S.out.1];rfl,by rw[S.out.2];exact aL.nil _ _ _,Below.refl _ _⟩
end
end Go.Proofs.YtipejodijbjpcaaGreatDoor
