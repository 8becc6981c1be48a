/- Lemmas for CardConsoleResults. No condition. -/
import Derived.Test.YtkdbkjjacgigiaaGreatDoorQ11
import Derived.Lib.SlicesCompact
set_option maxRecDepth 100000
set_option maxHeartbeats 64000000
namespace Go.Proofs.YtkdbkjjacgigiaaGreatDoor
section
open Go.RowKit Go.G5 Go.Proofs.Tryz
def eJ:List Int->Nat->Int->Option (List Int)
 |[],_,left=>if left=0 then some [] else none
 |_::_,0,left=>if left=0 then some [] else none
 |s::t,k+1,left=>if left=0 then some [] else
  match eJ t k (cG left s) with
  |some x=>some (s::x)
  |none=>eJ t (k+1) left
def fJ:List Int->Nat->Int->Option (List Int)
 |[],_,left=>if left=0 then some [] else none
 |_::_,0,left=>if left=0 then some [] else none
 |s::t,k+1,left=>if left=0 then some [] else
  if bB s left=0 then fJ t (k+1) left else
  match fJ t k (cG left s) with
  |some x=>some (s::x)
  |none=>fJ t (k+1) left
theorem vC(l:List Int)(k:Nat):eJ l k 0=some []:=by cases l<;>cases k<;>simp[eJ]
theorem vE(l:List Int)(k:Nat):fJ l k 0=some []:=by cases l<;>cases k<;>simp[fJ]
theorem vD(l:List Int)(left:Int)(h:left≠0):eJ l 0 left=none:=by cases l<;>simp[eJ,h]
theorem xP(l:List Int)(left:Int)(h:left≠0):fJ l 0 left=none:=by cases l<;>simp[fJ,h]
theorem LP(k:Nat)(left:Int)(h:left≠0):eJ [] k left=none:=by cases k<;>simp[eJ,h]
theorem DT(k:Nat)(left:Int)(h:left≠0):fJ [] k left=none:=by cases k<;>simp[fJ,h]
theorem SA{a b:Int}(z:0<=a)(h:bB b a=0):cG a b=a:=by
 unfold bB at h;unfold cG cO;have hc:a.toNat &&& b.toNat=b.toNat &&& a.toNat:=Nat.and_comm _ _;omega
theorem aoG(a b:Int):0<=cG a b:=by unfold cG;omega
theorem akQ:∀(t:List Int) (k:Nat) (left:Int),0<=left->eJ t k left=none->eJ t (k+1) left=fJ t (k+1) left/\fJ t k left=none:=by
 intro t
 induction t with
 |nil=>
  intro k left F h;by_cases z:left=0
  ·subst z;rw[vC]at h;cases h
  ·exact⟨by rw[LP _ _ z,DT _ _ z],DT _ _ z⟩
 |cons s t ih=>
  intro k left F h;by_cases z:left=0
  ·subst z;rw[vC]at h;cases h
  have hd:=aoG left s
  cases k with
  |zero=>
   have h1:=ih 0 left F (vD t left z);refine⟨?_,xP _ _ z⟩;simp only[eJ,fJ,if_neg z];by_cases D:bB s left=0
   ·rw[if_pos D,SA F D,vD t left z];exact h1.1
   ·rw[if_neg D]
    have e:eJ t 0 (cG left s)=fJ t 0 (cG left s):=by
     by_cases I:cG left s=0
     ·rw[I,vC,vE]
     ·rw[vD _ _ I,xP _ _ I]
    rw[e,h1.1]
  |succ k=>
   simp only[eJ,if_neg z]at h
   cases h2:eJ t k (cG left s) with
   |some x=>rw[h2]at h;cases h
   |none=>
    rw[h2]at h;simp only at h;have h3:=ih k (cG left s) hd h2;have h4:=ih (k+1) left F h;constructor
    ·simp only[eJ,fJ,if_neg z];by_cases D:bB s left=0
     ·rw[if_pos D,SA F D,h];exact h4.1
     ·rw[if_neg D,h3.1,h4.1]
    ·simp only[fJ,if_neg z];rw[h3.2,h4.2]
     split<;>rfl
def gG(f:Nat->Option (List Int)):Nat->Nat->Option (List Int)
 |_,0=>none
 |k,n+1=>match f k with
  |some x=>some x
  |none=>gG f (k+1) n
theorem afR(t:List Int)(left:Int)(z:0<=left):∀n k,eJ t k left=fJ t k left->gG (fun k=>eJ t k left) k n=gG (fun k=>fJ t k left) k n:=by
 intro n
 induction n with
 |zero=>intro k _;rfl
 |succ n ih=>
  intro k h;simp only[gG];rw[<-h]
  cases hk:eJ t k left with
  |some x=>rfl
  |none=>exact ih (k+1) (akQ t k left z hk).1
theorem VT(t:List Int)(left:Int)(D:0<=left)(n:Nat):gG (fun k=>eJ t k left) 0 n=gG (fun k=>fJ t k left) 0 n:=by
 refine afR t left D n 0 ?_;by_cases z:left=0
 ·subst z;rw[vC,vE]
 ·rw[vD _ _ z,xP _ _ z]
def oY(a b:Int):Prop:=a.toNat ||| b.toNat=b.toNat
theorem S6{a b u:Int}(D:0<=a/\a<64)(hb:0<=b/\b<64)(h1:oY (cG a b) u)(h2:oY b u):oY a u:=by
 unfold oY at *;have z:=XP a.toNat aD b.toNat aD;have e:(cG a b).toNat=cO a.toNat b.toNat:=by unfold cG;rw[Int.toNat_natCast]
 rw[e]at h1
 generalize u.toNat=U at *
 calc a.toNat ||| U=a.toNat ||| (b.toNat ||| U):=by rw[h2]
  _=(a.toNat ||| b.toNat) ||| U:=by rw[Nat.or_assoc]
  _=(cO a.toNat b.toNat ||| b.toNat) ||| U:=by rw[z]
  _=cO a.toNat b.toNat ||| (b.toNat ||| U):=by rw[Nat.or_assoc]
  _=U:=by rw[h2,h1]
theorem aa1:∀(t:List Int) (k:Nat) (left:Int) (u:Int) (x:List Int),(∀s∈t,(0<=s/\s<64)/\oY s u)->0<=left->left<64->eJ t k left=some x->oY left u:=by
 intro t
 induction t with
 |nil=>
  intro k left u x _ D h1 h;by_cases z:left=0
  ·subst z;unfold oY;simp
  ·rw[LP _ _ z]at h;cases h
 |cons s t ih=>
  intro k left u x I D h1 h;by_cases z:left=0
  ·subst z;unfold oY;simp
  cases k with
  |zero=>rw[vD _ _ z]at h;cases h
  |succ k=>
   simp only[eJ,if_neg z]at h;have J:=I s (by simp)
   cases h2:eJ t k (cG left s) with
   |some y=>have hd:=mY left s 64 D h1;exact S6 ⟨D,h1⟩ J.1 (ih k _ u y (fun q F=>I q (by simp[F])) hd.1 hd.2 h2) J.2
   |none=>rw[h2]at h;exact ih (k+1) left u x (fun q F=>I q (by simp[F])) D h1 h
theorem S7(l:List Int)(h:∀s∈l,0<=s/\s<64):∀s∈l,(0<=s/\s<64)/\oY s (cX l):=
 fun s z=>⟨h s z,(TA l (fun s z=>(h s z).1) 0).1 s z⟩
theorem U8:∀(t:List Int) (k:Nat) (left:Int) (x:List Int),fJ t k left=some x->x.length<=k:=by
 intro t
 induction t with
 |nil=>
  intro k left x h;by_cases z:left=0
  ·subst z;rw[vE]at h;cases h;simp
  ·rw[DT _ _ z]at h;cases h
 |cons s t ih=>
  intro k left x h;by_cases z:left=0
  ·subst z;rw[vE]at h;cases h;simp
  cases k with
  |zero=>rw[xP _ _ z]at h;cases h
  |succ k=>
   simp only[fJ,if_neg z]at h
   split at h
   ·exact ih _ _ _ h
   ·cases h2:fJ t k (cG left s) with
    |some y=>
     rw[h2]at h
     cases h
     have:=ih _ _ _ h2;simp only[List.length_cons];omega
    |none=>rw[h2]at h;exact ih _ _ _ h
def mC(g:Int)(l:List Int):Option (List Int):=if aU g l then gG (fun k=>fJ l k (2^g.toNat-1)) 0 (g.toNat+1) else none
def fB(g:Int)(l:List Int):List Int:=(mC g l).getD []
def jU(g:Int)(l:List Int):Bool:=(mC g l).isSome
theorem ac1(f:Nat->Option (List Int))(h:∀k x,f k=some x->x.length<=k):∀n k x,gG f k n=some x->x.length<=k+n:=by
 intro n
 induction n with
 |zero=>intro k x z;cases z
 |succ n ih=>
  intro k x z;simp only[gG]at z
  cases hk:f k with
  |some y=>rw[hk]at z;cases z;have:=h k _ hk;omega
  |none=>rw[hk]at z;have:=ih (k+1) x z;omega
theorem FI(g:Int)(l:List Int):(fB g l).length<=1048576:=by
 unfold fB mC
 split
 ·rename_i z;obtain⟨D,F,_⟩:=dB z
  cases hr:gG (fun k=>fJ l k (2^g.toNat-1)) 0 (g.toNat+1) with
  |none=>simp
  |some x=>have:=ac1 _ (fun k x=>U8 l k _ x) _ _ x hr;simp only[Option.getD_some];omega
 ·simp
theorem ZS(f:Nat->Option (List Int))(h:∀k,f k=none):∀n k,gG f k n=none:=by
 intro n
 induction n with
 |zero=>intro k;rfl
 |succ n ih=>intro k;simp only[gG,h];exact ih _
theorem aeG{g:Int}{l:List Int}(z:aU g l=true)(J:cX l≠2^g.toNat-1):mC g l=none:=by
 unfold mC;rw[if_pos z];obtain⟨D,F,K,_⟩:=dB z;have hm:=dR z;have M:=lH D F;have I:=(cJ g.toNat 6 aD).2;rw[<-VT l _ aD];refine ZS _ (fun k=>?_) _ _
 cases hr:eJ l k (2^g.toNat-1) with
 |none=>rfl
 |some x=>
  exfalso
  apply J
  have h1:=aa1 l k _ (cX l) x (S7 l hm) aD aD hr;unfold oY at h1;exact aiA
theorem IU(a b i:Nat)(z:a<64)(hb:b<64):(cO a b).testBit i=(a.testBit i&&!b.testBit i):=by
 by_cases D:i<6
 ·have h:∀a,a<64->∀b,b<64->∀i,i<6->(cO a b).testBit i=(a.testBit i&&!b.testBit i):=by decide +kernel
  exact h a z b hb i D
 ·have F:(64:Nat)<=2^i:=Nat.pow_le_pow_right (n:=2) aQ (show 6<=i by omega);have hd:=wU a b 64 z;rw[Nat.testBit_lt_two_pow aD,Nat.testBit_lt_two_pow (i:=i) (x:=a) aD];rfl
theorem alZ(a b c:Nat)(z:a<64)(hb:b<64)(hc:c<64):cO a (b ||| c)=cO (cO a b) c:=by
 apply Nat.eq_of_testBit_eq
 intro i;rw[IU _ _ _ z (aoV b c hb hc),IU _ _ _ (wU a b 64 z) hc,IU _ _ _ z hb,Nat.testBit_or]
 cases a.testBit i<;>cases b.testBit i<;>cases c.testBit i<;>rfl
theorem aoH{a b c:Int}(z:0<=a/\a<64)(hb:0<=b/\b<64)(hc:0<=c/\c<64):cG a (eH b c)=cG (cG a b) c:=by
 have h:=alZ a.toNat b.toNat c.toNat aD aD aD;have e1:(eH b c).toNat=b.toNat ||| c.toNat:=by unfold eH;rw[Int.toNat_natCast]
 have e2:(cG a b).toNat=cO a.toNat b.toNat:=by unfold cG;rw[Int.toNat_natCast]
 unfold cG at h e2 ⊢;rw[e1,h,e2]
theorem aaT(g:Nat):((2:Int)^g-1).toNat=2^g-1:=by
 have:((2:Int)^g)=((2^g:Nat):Int):=by push_cast;rfl
 rw[this];omega
theorem BT(g:Nat)(u:Int)(z:0<=u)(h1:u<2^g):cG (2^g-1) u=2^g-1-u:=by
 have e:((2:Int)^g)=((2^g:Nat):Int):=by push_cast;rfl
 have h2:u.toNat<2^g:=aD;unfold cG cO;rw[aaT,Nat.and_comm,Nat.and_two_pow_sub_one_eq_mod,Nat.mod_eq_of_lt h2];omega
theorem aeP(l:List Int)(s:Int):cX (l++[s])=eH (cX l) s:=by unfold cX;rw[List.foldl_append];rfl
theorem T4(a b:Int):oY a (eH a b):=by
 unfold oY eH;rw[Int.toNat_natCast,<-Nat.or_assoc,Nat.or_self]
theorem Q9(a b:Int):oY b (eH a b):=by
 unfold oY eH;rw[Int.toNat_natCast,Nat.or_comm a.toNat b.toNat,<-Nat.or_assoc,Nat.or_self]
theorem aeI{a b c:Int}(h1:oY a b)(h2:oY b c):oY a c:=by
 unfold oY at *;rw[<-h2,<-Nat.or_assoc,h1]
theorem acO(g:Nat)(M:g<=6)(u:Int)(I:0<=u)(h1:u<2^g)(t:List Int)(ht:∀s∈t,0<=s/\s<2^g)(k:Nat)(D:eH u (cX t)≠2^g-1):eJ t k (cG (2^g-1) u)=none:=by
 have J:=cJ g 6 M;have N:(2:Int)^g<=64:=by simpa using J.1
 have F:=J.2
 cases hr:eJ t k (cG (2^g-1) u) with
 |none=>rfl
 |some x=>
  exfalso
  apply D
  have K:=xD g t ht 0 aD F;have z:0<=cX t/\cX t<2^g:=K;have hd:=mY (2^g-1) u 64 aD aD;have h2:=aa1 t k _ (cX t) x (S7 t (fun s O=>by have:=ht s O;omega)) hd.1 hd.2 hr;have h3:oY (2^g-1) (eH u (cX t)):=S6 ⟨by omega,by omega⟩ ⟨I,by omega⟩ (aeI h2 (Q9 u _)) (T4 u _);have h4:=AJ u (cX t) g I z.1 h1 z.2;unfold oY at h3;have R:=@Nat.left_le_or ((2:Int)^g-1).toNat (eH u (cX t)).toNat;omega
def dT(l:List Int):List Int:=Lib.compact (l.mergeSort fun x y=>decide (x<=y))
theorem KP(d:Array Int)(mono:∀i j,i<=j->j<d.size->d[i]! <= d[j]!):∀m,m<=d.size ->
  (Lib.compactUpTo d m).Pairwise (· < ·)/\(∀x∈Lib.compactUpTo d m,∃j,j<m/\x=d[j]!)/\(∀j,j<m->d[j]! ∈ Lib.compactUpTo d m):=by
 intro m
 induction m with
 |zero=>intro _;simp[Lib.compactUpTo]
 |succ m ih=>
  intro hm;obtain⟨h1,h2,h3⟩:=ih aD;rw[Lib.compactUpTo_succ];by_cases hk:Lib.keeps d m=true
  ·rw[if_pos hk]
   have hlt:∀x∈Lib.compactUpTo d m,x<d[m]! := by
    intro x z;obtain⟨j,I,rfl⟩:=h2 x z;have e1:=mono j (m-1) aD aD;have e2:=mono (m-1) m aD aD;unfold Lib.keeps at hk;have D:=of_decide_eq_true hk;rcases D with J|N
    ·omega
    ·omega
   refine⟨?_,?_,?_⟩
   ·rw[List.pairwise_append];exact⟨h1,by simp,fun a K b hb=>by simp only[List.mem_singleton]at hb;rw[hb];exact hlt a K⟩
   ·intro x z;rcases List.mem_append.1 z with z|z
    ·obtain⟨j,I,e⟩:=h2 x z;exact⟨j,by omega,e⟩
    ·simp only[List.mem_singleton]at z;exact⟨m,by omega,z⟩
   ·intro j I;by_cases F:j<m
    ·exact List.mem_append.2 (.inl (h3 j F))
    ·have:j=m:=aD;subst this;exact List.mem_append.2 (.inr (by simp))
  ·rw[if_neg hk,List.append_nil];refine⟨h1,fun x z=>?_,fun j I=>?_⟩
   ·obtain⟨j,I,e⟩:=h2 x z;exact⟨j,by omega,e⟩
   ·by_cases F:j<m
    ·exact h3 j F
    ·have:j=m:=aD;subst this;unfold Lib.keeps at hk;have D:¬(j=0∨d[j]! ≠ d[j-1]!):=fun h=>hk (decide_eq_true h);have J:j≠0:=fun h=>D (.inl h);have M:d[j]! = d[j-1]! := Classical.byContradiction fun h=>D (.inr h);rw[M];exact h3 (j-1) aD
theorem SZ(l:List Int):∀i j,i<=j->j<(l.mergeSort fun x y=>decide (x<=y)).toArray.size->(l.mergeSort fun x y=>decide (x<=y)).toArray[i]! <= (l.mergeSort fun x y=>decide (x<=y)).toArray[j]! := by
 have F:(l.mergeSort fun x y=>decide (x<=y)).Pairwise (fun a b=>decide (a<=b)=true):=
  List.pairwise_mergeSort (le:=fun x y:Int=>decide (x<=y)) (fun a b c h1 h2=>decide_eq_true (Int.le_trans (of_decide_eq_true h1) (of_decide_eq_true h2))) (fun a b=>by
   rcases Int.le_total a b with h|h
   ·show(decide (a<=b)||decide (b<=a))=true;rw[decide_eq_true h];rfl
   ·show(decide (a<=b)||decide (b<=a))=true
    rw[decide_eq_true h];simp) l
 generalize l.mergeSort (fun x y=>decide (x<=y))=s at *
 intro i j D z;rw[getElem!_pos s.toArray i aD,getElem!_pos s.toArray j z];simp only[List.getElem_toArray];rcases Nat.lt_or_ge i j with h|h
 ·exact of_decide_eq_true (List.pairwise_iff_getElem.1 F i j (by simpa using(show i<s.toArray.size by omega)) (by simpa using z) h)
 ·have:i=j:=aD;subst this;exact Int.le_refl _
theorem uE(l:List Int):(dT l).Pairwise (· < ·):=by
 have:=(KP _ (SZ l) _ aI).1;simpa[dT,Lib.compact]using this
theorem nI(l:List Int)(x:Int):x∈dT l↔x∈l:=by
 have h:=KP _ (SZ l) _ aI;have hm:∀y,y∈(l.mergeSort fun x y=>decide (x<=y))↔y∈l:=fun y=>List.mem_mergeSort;have e:dT l=Lib.compactUpTo (l.mergeSort fun x y=>decide (x<=y)).toArray (l.mergeSort fun x y=>decide (x<=y)).toArray.size:=by simp[dT,Lib.compact]
 rw[e,<-hm]
 generalize l.mergeSort (fun x y=>decide (x<=y))=s at *
 constructor
 ·intro D;obtain⟨j,z,rfl⟩:=h.2.1 x D;rw[getElem!_pos s.toArray j z];simp
 ·intro D;obtain⟨j,z,rfl⟩:=List.getElem_of_mem D;have:=h.2.2 j (by simpa using z);rw[getElem!_pos s.toArray j (by simpa using z)]at this;simpa using this
theorem JK:∀(a b:List Int),a.Pairwise (· < ·)->b.Pairwise (· < ·)->(∀x,x∈a↔x∈b)->a=b:=by
 intro a
 induction a with
 |nil=>
  intro b _ _ h
  cases b with
  |nil=>rfl
  |cons y b=>have:=(h y).2 (by simp);simp at this
 |cons x a ih=>
  intro b N hb h
  cases b with
  |nil=>have:=(h x).1 (by simp);simp at this
  |cons y b=>
   obtain⟨D,J⟩:=List.pairwise_cons.1 N;obtain⟨F,K⟩:=List.pairwise_cons.1 hb;have M:x=y:=by
    have h1:=(h x).1 (by simp);have h2:=(h y).2 (by simp);rcases List.mem_cons.1 h1 with h1|h1
    ·exact h1
    ·rcases List.mem_cons.1 h2 with h2|h2
     ·exact h2.symm
     ·have:=F x h1;have:=D y h2;omega
   subst M;rw[ih b J K fun z=>?_];constructor
   ·intro I;rcases List.mem_cons.1 ((h z).1 (List.mem_cons.2 (.inr I))) with e|e
    ·subst e;have:=D z I;omega
    ·exact e
   ·intro I;rcases List.mem_cons.1 ((h z).2 (List.mem_cons.2 (.inr I))) with e|e
    ·subst e;have:=F z I;omega
    ·exact e
theorem EN(l:List Int)(h:l.Pairwise (· < ·)):dT l=l:=JK _ _ (uE l) h (nI l)
theorem KQ(d:Array Int)(m:Nat):(Lib.compactUpTo d m).length<=m:=by
 unfold Lib.compactUpTo;rw[List.length_map];have:=List.length_filter_le (Lib.keeps d) (List.range m);simpa using this
theorem KS(l:List Int):(dT l).length<=l.length:=by
 have:=KQ (l.mergeSort fun x y=>decide (x<=y)).toArray (l.mergeSort fun x y=>decide (x<=y)).length;unfold dT Lib.compact;simpa using this
def E7(l:List Int)(x:Int):List Int:=dT (l++[x])
theorem MU(l:List Int)(x y:Int):y∈E7 l x↔y∈l∨y=x:=by
 unfold E7;rw[nI];simp
theorem MT(l:List Int)(x:Int):(E7 l x).Pairwise (· < ·):=uE _
theorem aaG(A:List Int)(x:Int):E7 (dT A) x=dT (A++[x]):=by
 refine JK _ _ (MT _ _) (uE _) ?_;intro y;rw[MU,nI,nI];simp
theorem amB(l:List Int)(x:Int)(h:l.Pairwise (· < ·))(z:x∈l):E7 l x=l:=by
 refine JK _ _ (MT _ _) h ?_;intro y;rw[MU];constructor
 ·rintro(h|h)
  ·exact h
  ·rw[h];exact z
 ·exact .inl
theorem ao8(l:List Int)(x:Int)(i:Nat)(h:l.Pairwise (· < ·))(h1:∀y∈l.drop i,x<y)(h2:∀y∈l.take i,y<x):E7 l x=(l.take i++[x])++l.drop i:=by
 refine JK _ _ (MT _ _) ?_ ?_
 ·rw[<-List.take_append_drop i l,List.pairwise_append]at h;rw[List.pairwise_append,List.pairwise_append];refine⟨⟨h.1,by simp,?_⟩,h.2.1,?_⟩
  ·intro a z b hb;rw[List.mem_singleton]at hb;rw[hb];exact h2 a z
  ·intro a z b hb;rw[List.mem_append,List.mem_singleton]at z;rcases z with z|z
   ·exact h.2.2 a z b hb
   ·rw[z];exact h1 b hb
 ·intro y;rw[MU]
  conv=>lhs;rw[<-List.take_append_drop i l]
  simp only[List.mem_append,List.mem_singleton];constructor
  ·rintro((h|h)|h)
   ·exact .inl (.inl h)
   ·exact .inr h
   ·exact .inl (.inr h)
  ·rintro((h|h)|h)
   ·exact .inl (.inl h)
   ·exact .inr h
   ·exact .inl (.inr h)
theorem aeK(l:List Int)(x:Int)(i:Nat)(h:l.Pairwise (· < ·))(D:i<l.length)(I:l[i]<x):∀y∈l.take (i+1),y<x:=by
 intro y z;rw[List.take_succ_eq_append_getElem D,List.mem_append,List.mem_singleton]at z;rcases z with z|z
 ·obtain⟨j,F,rfl⟩:=List.getElem_of_mem z;rw[List.length_take]at F;have:=List.pairwise_iff_getElem.1 h j i aD D aD;rw[List.getElem_take];omega
 ·rw[z];exact I
theorem acX(l:List Int)(x:Int)(i:Nat)(D:i<l.length)(h:∀y∈l.drop (i+1),x<y)(F:x<l[i]):∀y∈l.drop i,x<y:=by
 intro y z;rw[List.drop_eq_getElem_cons D,List.mem_cons]at z;rcases z with z|z
 ·rw[z];exact F
 ·exact h y z
end
section
open Go.RowKit Go.G5 Go.Proofs.Tryz
end
section
open Go.RowKit Go.G5 Go.Proofs.Tryz
end
section
open Go.RowKit Go.G5 Go.Proofs.Tryz
def CS(s r:Int):Int:=max (cT (bB s r)-cT (cG s r)) (-(cT (bB s r)-cT (cG s r)))
theorem abC:∀s:Nat,s<64->∀r:Nat,r<64->bY (cO s r)+bY (s &&& r)=bY s:=by decide +kernel
theorem ad1:∀s:Nat,s<64->bY s<=6:=by decide +kernel
theorem alG{s r:Int}(z:0<=s/\s<64)(hr:0<=r/\r<64):2*cT (bB s r)-cT s=cT (bB s r)-cT (cG s r):=by
 have h:=abC s.toNat aD r.toNat aD;unfold cT bB cG;rw[Int.toNat_natCast,Int.toNat_natCast];omega
theorem WD{s r:Int}(z:0<=s/\s<64)(hr:0<=r/\r<64):-6<=cT (bB s r)-cT (cG s r)/\cT (bB s r)-cT (cG s r)<=6/\0<=cT (bB s r)/\cT (bB s r)<=6/\0<=cT (cG s r)/\cT (cG s r)<=6/\0<=cT s/\cT s<=6:=by
 have h:=abC s.toNat aD r.toNat aD;have h2:=ad1 s.toNat aD;unfold cT bB cG;rw[Int.toNat_natCast,Int.toNat_natCast];omega
def tZ(l:List Int)(r:Int):Nat->Int
 |0=>0
 |k+1=>max (tZ l r k) (CS (l.getD k 0) r)
def wF(l:List Int)(r:Int):Int:=tZ l r l.length
def jY(l:List Int):Nat->Int×Int
 |0=>(0,wF l 0)
 |r+1=>if wF l ((r+1:Nat):Int)<(jY l r).2 then (((r+1:Nat):Int),wF l ((r+1:Nat):Int)) else jY l r
def BK(g:Int)(l:List Int):Int:=if aU g l then (jY l (2^g.toNat-1)).1 else 0
def yR(g:Int)(l:List Int):Int:=if aU g l then (jY l (2^g.toNat-1)).2 else 0
theorem JZ(l:List Int)(r:Int)(h:∀s∈l,0<=s/\s<64)(hr:0<=r/\r<64):∀k,0<=tZ l r k/\tZ l r k<=6:=by
 intro k
 induction k with
 |zero=>simp[tZ]
 |succ k ih=>
  rw[tZ];have h2:0<=l.getD k 0/\l.getD k 0<64:=by
   rw[List.getD_eq_getElem?_getD]
   cases hk:l[k]? with
   |none=>simp
   |some x=>exact h x (List.mem_of_getElem? hk)
  have:=WD h2 hr;unfold CS;omega
theorem PL(l:List Int)(h:∀s∈l,0<=s/\s<64):∀r,r<64->(0<=(jY l r).1/\(jY l r).1<=r)/\0<=(jY l r).2/\(jY l r).2<=6:=by
 intro r
 induction r with
 |zero=>intro _;rw[jY];have:=JZ l 0 h aD l.length;unfold wF;simp;omega
 |succ r ih=>
  intro hr;have ih:=ih aD;rw[jY]
  split
  ·have:=JZ l ((r+1:Nat):Int) h aD l.length;unfold wF;simp only[];omega
  ·omega
def iJ(T:List Int->Int->Bool):List Int->List Int->List Int->List Int
 |[],_,b=>b
 |s::r,c,b=>if c.length+(r.length+1)<=b.length then b else if T c s then iJ T r c (cH b (iJ T r (c++[s]) (c++[s]))) else iJ T r c b
def uA(T:List Int->Int->Bool):List Int->List Int->List Int->List Int
 |[],_,b=>b
 |s::r,c,b=>if c.length+(r.length+1)<=b.length then b else if T c s then uA T r c (uA T r (c++[s]) (cH b (c++[s]))) else uA T r c b
theorem zN(a b:List Int):(cH a b).length=max a.length b.length:=by
 unfold cH
 split<;>omega
theorem zP(T:List Int->Int->Bool):∀(r c b:List Int),(iJ T r c b).length<=max b.length (c.length+r.length)
 |[],c,b=>by rw[iJ];omega
 |s::r,c,b=>by
  rw[iJ,List.length_cons]
  split
  ·omega
  ·split
   ·have h1:=zP T r c (cH b (iJ T r (c++[s]) (c++[s])));have h2:=zP T r (c++[s]) (c++[s]);rw[zN]at h1;rw[List.length_append,List.length_singleton]at h2;omega
   ·have h1:=zP T r c b;omega
theorem IR{a b:List Int}(h:b.length<=a.length):cH a b=a:=by unfold cH;rw[if_neg aD]
theorem GQ(T:List Int->Int->Bool):∀(r c b x:List Int),uA T r c (cH b x)=cH b (iJ T r c x)
 |[],_,_,_=>rfl
 |s::r,c,b,x=>by
  rw[uA,iJ];have hl:=zN b x;by_cases h1:c.length+(r.length+1)<=(cH b x).length
  ·rw[if_pos h1];by_cases h2:c.length+(r.length+1)<=x.length
   ·rw[if_pos h2]
   ·have hb:x.length<=b.length:=aD;have h3:=zP T (s::r) c x;rw[iJ,List.length_cons]at h3;rw[IR hb,IR (Nat.le_trans h3 aD)]
  ·rw[if_neg h1,if_neg (show ¬c.length+(r.length+1)<=x.length by omega)]
   split
   ·rw[GQ T r (c++[s]) (cH b x) (c++[s]),IQ,GQ T r c b]
   ·exact GQ T r c b x
theorem anO(T:List Int->Int->Bool)(r c b:List Int):(uA T r c b).length<=max b.length (c.length+r.length):=by
 have h:=GQ T r c b [];rw[IR (show([]:List Int).length<=b.length by simp)]at h;rw[h,zN];have h2:=zP T r c [];simp at h2;omega
def kQ(l:List Int)(s:Int):Bool:=cA (fun j=>lJ s (l.getD j 0)) l.length
theorem adQ(l:List Int):∀k,(mN l k).length=k↔∀i,i<k->zH l i=true:=by
 intro k
 induction k with
 |zero=>simp[mN]
 |succ k ih=>
  have F:=XF l k;rw[mN]
  cases z:zH l k with
  |true=>
   rw[if_pos rfl,List.length_append,List.length_singleton];constructor
   ·intro h i D;by_cases e:i=k
    ·rw[e];exact z
    ·exact ih.1 aD i aD
   ·intro h;rw[ih.2 (fun i D=>h i aD)]
  |false=>
   rw[if_neg (by simp)];constructor
   ·intro h;omega
   ·intro h;have:=h k aD;rw[z]at this;cases this
theorem IB(l:List Int):uM l=true↔∀i,i<l.length->∀k,k<l.length->k≠i->bB (l.getD k 0) (l.getD i 0)≠l.getD k 0:=by
 unfold uM;rw[beq_iff_eq,adQ];unfold zH;simp only[eP,Bool.or_eq_true,beq_iff_eq,bne_iff_ne,ne_eq];constructor
 ·intro h i z k hk D;rcases h i z k hk with e|e
  ·exact absurd e D
  ·exact e
 ·intro h i z k hk;by_cases e:k=i
  ·exact .inl e
  ·exact .inr (h i z k hk e)
theorem ak9:uM []=true:=rfl
theorem BP(l:List Int)(s:Int)(i:Nat)(h:i<l.length):(l++[s]).getD i 0=l.getD i 0:=by
 rw[List.getD_eq_getElem?_getD,List.getD_eq_getElem?_getD,List.getElem?_append_left h]
theorem EP(l:List Int)(s:Int):(l++[s]).getD l.length 0=s:=by
 rw[List.getD_eq_getElem?_getD,List.getElem?_append_right aI];simp
theorem tE{a b:Int}(z:0<=a):cG a b≠0↔bB a b≠a:=by
 rw[<-ME z];constructor<;>intro h<;>omega
theorem anR(l:List Int)(s:Int)(hl:uM l=true)(hm:∀x∈l,0<=x)(K:0<=s):kQ l s=uM (l++[s]):=by
 rw[Bool.eq_iff_iff,IB];unfold kQ lJ;simp only[eP,Bool.and_eq_true,bne_iff_ne];have J:∀j,j<l.length->0<=l.getD j 0:=fun j F=>by rw[List.getD_eq_getElem?_getD,List.getElem?_eq_getElem F];exact hm _ (List.getElem_mem F)
 rw[IB]at hl;constructor
 ·intro h i M k hk I;rw[List.length_append,List.length_singleton]at M hk;by_cases e1:i=l.length
  ·have z:k<l.length:=aD;rw[e1,EP,BP l s k z];exact(tE (J k z)).1 (h k z).2
  ·have D:i<l.length:=aD;rw[BP l s i D];by_cases e2:k=l.length
   ·rw[e2,EP];exact(tE K).1 (h i D).1
   ·have z:k<l.length:=aD;rw[BP l s k z];exact hl i D k z I
 ·intro h j F;have h1:=h l.length (by simp) j aT aD;have h2:=h j aT l.length (by simp) aD;rw[EP,BP l s j F]at h1 h2;exact⟨(tE K).2 h2,(tE (J j F)).2 h1⟩
theorem JI:∀(r c b:List Int),uM c=true->(∀x∈c,0<=x)->(∀x∈r,0<=x)->iJ (fun l s=>uM (l++[s])) r c b=iJ kQ r c b
 |[],_,_,_,_,_=>rfl
 |s::r,c,b,hc,hcm,hm=>by
  have h1:∀x∈r,0<=x:=fun x z=>hm x (List.mem_cons_of_mem _ z);have h2:=hm s (by simp);have ht:=anR c s hc hcm h2;rw[iJ,iJ,<-ht,JI r c b hc hcm h1]
  cases D:kQ c s with
  |false=>rfl
  |true=>
   rw[JI r (c++[s]) (c++[s]) (ht▸D) (fun x z=>by
    rcases List.mem_append.1 z with h|h
    ·exact hcm x h
    ·rw[List.mem_singleton]at h;omega) h1,JI r c _ hc hcm h1]
def vT(g:Int)(l:List Int):Bool:=aU g l&&decide (l.length<=12)
def tQ(g:Int)(l:List Int):List Int:=if vT g l then iJ kQ l [] [] else []
def LB(g:Int)(l:List Int):Int:=if vT g l then g else 0
theorem agF{g:Int}{l:List Int}(h:vT g l=false):LB g l=0/\tQ g l=[]:=by unfold LB tQ;rw[h];exact⟨rfl,rfl⟩
theorem JS{g:Int}{l:List Int}(h:vT g l=true):LB g l=g/\tQ g l=iJ kQ l [] []:=by unfold LB tQ;rw[h];exact⟨rfl,rfl⟩
theorem anQ(l:List Int):uA kQ l [] []=iJ kQ l [] []:=by
 have h:=GQ kQ l [] [] [];have e:cH [] []=([]:List Int):=rfl;rw[e]at h;rw[h];unfold cH
 split
 ·rfl
 ·rename_i D;have z:(iJ kQ l [] []).length=0:=by simpa using D
  exact(List.eq_nil_of_length_eq_zero z).symm
def U9(g:Nat)(a b:Int):Bool:=rD a b&&eH a b != 2^g-1
def nA(g:Int)(l:List Int):Bool:=aU g l&&cA (fun i=>cA (fun k=>!U9 g.toNat (l.getD i 0) (l.getD k 0)) i) l.length
theorem WC{a b:Int}(z:0<=a):(cG a b != 0)=(bB a b != a):=by
 rw[Bool.eq_iff_iff,bne_iff_ne,bne_iff_ne];exact tE z
theorem DQ{a b:Int}(z:0<=a)(hb:0<=b):rD a b=NE a b:=by
 unfold rD NE;rw[WC z,WC hb,xW b a]
theorem sI{l:List Int}(hm:∀x∈l,0<=x/\x<64)(k:Nat):0<=l.getD k 0/\l.getD k 0<64:=by
 rw[List.getD_eq_getElem?_getD]
 cases hk:l[k]? with
 |none=>simp
 |some x=>exact hm x (List.mem_of_getElem? hk)
theorem NF(a b:Int):rD a b=rD b a:=by
 unfold rD;rw[xW b a]
 cases(bB a b != 0)<;>cases(cG a b != 0)<;>cases(cG b a != 0)<;>rfl
theorem WS{l:List Int}(hm:∀x∈l,0<=x/\x<64):MG l=WR l:=by
 unfold MG WR;rw[Bool.eq_iff_iff];simp only[eP,Bool.or_eq_true,decide_eq_true_eq,Bool.not_eq_true'];constructor
 ·intro h i D k hk;rcases h k aD i D with h1|h1
  ·omega
  ·rw[<-DQ (sI hm i).1 (sI hm k).1,NF];exact h1
 ·intro h i D j F;by_cases z:j<=i
  ·exact .inl z
  ·right;have:=h j F i aD;rw[<-DQ (sI hm j).1 (sI hm i).1,NF]at this;exact this
theorem aeY{l:List Int}(hm:∀x∈l,0<=x/\x<64):JJ l=uM l:=by
 rw[Bool.eq_iff_iff,IB];unfold JJ lJ;simp only[eP,Bool.and_eq_true,bne_iff_ne];constructor
 ·intro h i z k hk D;rcases Nat.lt_or_gt_of_ne D with h1|h1
  ·exact(tE (sI hm k).1).1 (h i z k h1).2
  ·exact(tE (sI hm k).1).1 (h k hk i h1).1
 ·intro h i z j F;exact⟨(tE (sI hm i).1).2 (h j aD i z aD),(tE (sI hm j).1).2 (h i z j aD aD)⟩
theorem N5{l:List Int}:l.all (qQ l)=OK l:=by
 unfold OK qQ;rw[Bool.eq_iff_iff];simp only[eP,List.all_eq_true,bne_iff_ne];constructor
 ·intro h i z k hk;rw[aS l i z,aS l k aD,xW];exact h _ (List.getElem_mem z) _ (List.getElem_mem (show k<l.length by omega))
 ·intro h s F t ht;obtain⟨i,z,rfl⟩:=List.getElem_of_mem F;obtain⟨k,hk,rfl⟩:=List.getElem_of_mem ht;by_cases D:k<=i
  ·have:=h i z k aD;rw[aS l i z,aS l k hk,xW]at this;exact this
  ·have:=h k hk i aD;rw[aS l i z,aS l k hk]at this;exact this
def CI(l:List Int)(a e d:Int):Bool:=gQ l (eH (cG a (2^e.toNat)) (2^d.toNat))
def nN(l:List Int)(a b:Int):Bool:=(eK (cG a b)).all fun e=>(eK (cG b a)).any (CI l a e)
def yO(g:Int)(l:List Int):Bool:=aU g l&&(!l.isEmpty&&l.all fun a=>l.all (nN l a))
def nE(p:Nat->Bool):Nat->Bool
 |0=>false
 |k+1=>nE p k||p k
def wB(l:List Int)(a b:Int)(e d:Nat):Bool:=cZ b.toNat d&&(!cZ a.toNat d&&gQ l (a-2^e+2^d))
def AV(a b:Int)(e:Nat):Bool:=!cZ a.toNat e||cZ b.toNat e
def exS(g:Nat)(l:List Int)(a b:Int):Bool:=cA (fun e=>AV a b e||nE (wB l a b e) g) g
theorem UE(p:Nat->Bool):∀n,nE p n=true↔∃k,k<n/\p k=true:=by
 intro n
 induction n with
 |zero=>simp[nE]
 |succ n ih=>
  rw[nE,Bool.or_eq_true,ih];constructor
  ·rintro(⟨k,hk,h⟩|h)
   ·exact⟨k,by omega,h⟩
   ·exact⟨n,by omega,h⟩
  ·rintro⟨k,hk,h⟩;by_cases e:k=n
   ·right;rw[<-e];exact h
   ·left;exact⟨k,by omega,h⟩
theorem aaB(P:Nat->Bool)(n:Nat)(x:Int):x∈cD P n↔∃k:Nat,k<n/\P k=true/\x=(k:Int):=by
 unfold cD;rw[List.mem_map];constructor
 ·rintro⟨k,hk,rfl⟩;rw[List.mem_filter,List.mem_range]at hk;exact⟨k,hk.1,hk.2,rfl⟩
 ·rintro⟨k,h1,h2,rfl⟩;exact⟨k,by rw[List.mem_filter,List.mem_range];exact⟨h1,h2⟩,rfl⟩
theorem zX(s x:Int):x∈eK s↔∃k:Nat,k<6/\cZ s.toNat k=true/\x=(k:Int):=aaB _ _ _
theorem MM:∀a:Nat,a<64->∀b:Nat,b<64->∀e:Nat,e<6->cZ (cO a b) e=(cZ a e&&!cZ b e):=by decide +kernel
theorem an6:∀a:Nat,a<64->∀e:Nat,e<6->cZ a e=true->cO a (2^e)=a-2^e/\2^e<=a:=by decide +kernel
theorem aoW:∀a:Nat,a<64->∀e:Nat,e<6->cZ a e=false->a ||| 2^e=a+2^e:=by decide +kernel
theorem RJ:∀g:Nat,g<7->∀a:Nat,a<2^g->∀e:Nat,e<6->cZ a e=true->e<g:=by decide +kernel
theorem abZ(l:List Int)(a:Int)(e d:Nat)(F:0<=a/\a<64)(z:e<6)(hd:d<6)(h1:cZ a.toNat e=true)(h2:cZ a.toNat d=false):CI l a e d=gQ l (a-2^e+2^d):=by
 unfold CI
 congr 1
 obtain⟨n,rfl⟩:∃n:Nat,a=(n:Int):=⟨a.toNat,by omega⟩;rw[Int.toNat_natCast]at h1 h2;have e1:=an6 n aD e z h1;have D:∀k:Nat,((2:Int)^k).toNat=2^k:=fun k=>by
  have:((2:Int)^k)=((2^k:Nat):Int):=by simp
  rw[this,Int.toNat_natCast]
 unfold eH cG;simp only[Int.toNat_natCast,D];have hb:cZ (cO n (2^e)) d=false:=by
  have:=MM n aD (2^e) (by
   have:(2:Nat)^e<=2^5:=Nat.pow_le_pow_right aQ aD;omega) d hd
  rw[this,h2];rfl
 rw[e1.1]at hb ⊢;rw[aoW (n-2^e) (Nat.lt_of_le_of_lt (Nat.sub_le _ _) aD) d hd hb];have:((2:Int)^e)=((2^e:Nat):Int):=by simp
 have h3:((2:Int)^d)=((2^d:Nat):Int):=by simp
 rw[this,h3];omega
theorem aoB(g:Nat)(R:g<=6)(l:List Int)(a b:Int)(Y:0<=a/\a<2^g)(hb:0<=b/\b<2^g):nN l a b=exS g l a b:=by
 have Z:(2:Nat)^g<=2^6:=Nat.pow_le_pow_right aQ R;have S:((2:Int)^g)=((2^g:Nat):Int):=by simp
 have J:0<=a/\a<64:=aD;have O:0<=b/\b<64:=aD;have K:∀e,e<6->cZ (cG a b).toNat e=(cZ a.toNat e&&!cZ b.toNat e):=fun e F=>by unfold cG;rw[Int.toNat_natCast];exact MM _ aD _ aD e F
 have M:∀e,e<6->cZ (cG b a).toNat e=(cZ b.toNat e&&!cZ a.toNat e):=fun e F=>by unfold cG;rw[Int.toNat_natCast];exact MM _ aD _ aD e F
 unfold nN exS;rw[Bool.eq_iff_iff,List.all_eq_true,eP];constructor
 ·intro h e F;rw[Bool.or_eq_true];by_cases I:AV a b e=true
  ·exact .inl I
  ·right;unfold AV at I;rw[Bool.or_eq_true,not_or,Bool.not_eq_true',Bool.not_eq_false,Bool.not_eq_true]at I;have h1:=h (e:Int) ((zX _ _).2 ⟨e,by omega,by rw[K e aD,I.1,I.2];rfl,rfl⟩);rw[List.any_eq_true]at h1;obtain⟨x,N,h2⟩:=h1;obtain⟨d,hd,z,rfl⟩:=(zX _ _).1 N;rw[M d hd,Bool.and_eq_true,Bool.not_eq_true']at z;rw[abZ l a e d J aD hd I.1 z.2]at h2;exact(UE _ _).2 ⟨d,RJ g aD b.toNat aD d hd z.1,by unfold wB;rw[z.1,z.2,h2];rfl⟩
 ·intro h x N;obtain⟨e,F,D,rfl⟩:=(zX _ _).1 N;rw[K e F,Bool.and_eq_true,Bool.not_eq_true']at D;have h1:=h e (RJ g aD a.toNat aD e F D.1);rw[Bool.or_eq_true]at h1;rcases h1 with h1|h1
  ·unfold AV at h1;rw[D.1,D.2]at h1;simp at h1
  ·obtain⟨d,hd,h2⟩:=(UE _ _).1 h1;unfold wB at h2;rw[Bool.and_eq_true,Bool.and_eq_true,Bool.not_eq_true']at h2;rw[List.any_eq_true];exact⟨(d:Int),(zX _ _).2 ⟨d,by omega,by rw[M d aD,h2.1,h2.2.1];rfl,rfl⟩,by rw[abZ l a e d J F aD D.1 h2.2.1];exact h2.2.2⟩
end
end Go.Proofs.YtkdbkjjacgigiaaGreatDoor
