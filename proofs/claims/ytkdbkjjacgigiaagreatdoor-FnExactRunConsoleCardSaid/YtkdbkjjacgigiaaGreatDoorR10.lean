/- Lemmas for CardRunConsole. No condition. -/
import Derived.Test.YtkdbkjjacgigiaaGreatDoorR08
import Derived.Lib.SlicesCompact
set_option maxRecDepth 100000
set_option maxHeartbeats 64000000
namespace Go.Proofs.YtkdbkjjacgigiaaGreatDoor
section
open Go.RowKit Go.G5 Go.Proofs.Tryz
variable(w:World)(n:Int)(v:Value)(l:aI)
def gQ:List Int->Nat->Int->Option (List Int)
 |[],_,left=>if left=0 then some [] else none
 |_::_,0,left=>if left=0 then some [] else none
 |s::t,k+1,left=>if left=0 then some [] else
  match gQ t k (dQ left s) with
  |some x=>some (s::x)
  |none=>gQ t (k+1) left
def jH:List Int->Nat->Int->Option (List Int)
 |[],_,left=>if left=0 then some [] else none
 |_::_,0,left=>if left=0 then some [] else none
 |s::t,k+1,left=>if left=0 then some [] else
  if cU s left=0 then jH t (k+1) left else
  match jH t k (dQ left s) with
  |some x=>some (s::x)
  |none=>jH t (k+1) left
theorem xX(k:Nat):gQ l k 0=some []:=by cases l<;>cases k<;>simp[gQ]
theorem xZ(k:Nat):jH l k 0=some []:=by cases l<;>cases k<;>simp[jH]
theorem xY(left:Int)(h:left≠0):gQ l 0 left=none:=by cases l<;>simp[gQ,h]
theorem AW(left:Int)(h:left≠0):jH l 0 left=none:=by cases l<;>simp[jH,h]
theorem OP(k:Nat)(left:Int)(h:left≠0):gQ [] k left=none:=by cases k<;>simp[gQ,h]
theorem IF(k:Nat)(left:Int)(h:left≠0):jH [] k left=none:=by cases k<;>simp[jH,h]
theorem U3{a b:Int}(z:0<=a)(h:cU b a=0):dQ a b=a:=by
 unfold cU at h;unfold dQ dY;have hc:a.toNat &&& b.toNat=b.toNat &&& a.toNat:=Nat.and_comm _ _;omega
theorem aqX(a b:Int):0<=dQ a b:=by unfold dQ;omega
theorem am5:∀(t:aI) (k:Nat) (left:Int),0<=left->gQ t k left=none->gQ t (k+1) left=jH t (k+1) left/\jH t k left=none:=by
 intro t
 induction t with
 |nil=>
  intro k left F h;by_cases z:left=0
  .subst z;rw[xX]at h;cases h
  .exact⟨by rw[OP _ _ z,IF _ _ z],IF _ _ z⟩
 |cons s t ih=>
  intro k left F h;by_cases z:left=0
  .subst z;rw[xX]at h;cases h
  have hd:=aqX left s
  cases k with
  |zero=>
   have h1:=ih 0 left F (xY t left z);refine⟨?_,AW _ _ z⟩;simp only[gQ,jH,if_neg z];by_cases D:cU s left=0
   .rw[if_pos D,U3 F D,xY t left z];exact h1.1
   .rw[if_neg D]
    have e:gQ t 0 (dQ left s)=jH t 0 (dQ left s):=by
     by_cases I:dQ left s=0
     .rw[I,xX,xZ]
     .rw[xY _ _ I,AW _ _ I]
    rw[e,h1.1]
  |succ k=>
   simp only[gQ,if_neg z]at h
   cases h2:gQ t k (dQ left s) with
   |some x=>rw[h2]at h;cases h
   |none=>
    rw[h2]at h;simp only at h;have h3:=ih k (dQ left s) hd h2;have h4:=ih (k+1) left F h;constructor
    .simp only[gQ,jH,if_neg z];by_cases D:cU s left=0
     .rw[if_pos D,U3 F D,h];exact h4.1
     .rw[if_neg D,h3.1,h4.1]
    .simp only[jH,if_neg z];rw[h3.2,h4.2]
     split<;>rfl
def kC(f:Nat->Option (List Int)):Nat->Nat->Option (List Int)
 |_,0=>none
 |k,n+1=>match f k with
  |some x=>some x
  |none=>kC f (k+1) n
theorem ahY(t:aI)(left:Int)(z:0<=left):∀n k,gQ t k left=jH t k left->kC (fun k=>gQ t k left) k n=kC (fun k=>jH t k left) k n:=by
 intro n
 induction n with
 |zero=>intro k _;rfl
 |succ n ih=>
  intro k h;simp only[kC];rw[<-h]
  cases hk:gQ t k left with
  |some x=>rfl
  |none=>exact ih (k+1) (am5 t k left z hk).1
theorem YP(t:aI)(left:Int)(D:0<=left)(n:Nat):kC (fun k=>gQ t k left) 0 n=kC (fun k=>jH t k left) 0 n:=by
 refine ahY t left D n 0 ?_;by_cases z:left=0
 .subst z;rw[xX,xZ]
 .rw[xY _ _ z,AW _ _ z]
def tH(a b:Int):Prop:=a.toNat ||| b.toNat=b.toNat
theorem V0{a b u:Int}(D:0<=a/\a<64)(hb:0<=b/\b<64)(h1:tH (dQ a b) u)(h2:tH b u):tH a u:=by
 unfold tH at *;have z:=aaA a.toNat aA b.toNat aA;have e:(dQ a b).toNat=dY a.toNat b.toNat:=by unfold dQ;rw[cA]
 rw[e]at h1
 generalize u.toNat=U at *
 calc a.toNat ||| U=a.toNat ||| (b.toNat ||| U):=by rw[h2]
  _=(a.toNat ||| b.toNat) ||| U:=by rw[Nat.or_assoc]
  _=(dY a.toNat b.toNat ||| b.toNat) ||| U:=by rw[z]
  _=dY a.toNat b.toNat ||| (b.toNat ||| U):=by rw[Nat.or_assoc]
  _=U:=by rw[h2,h1]
theorem adF:∀(t:aI) (k:Nat) (left:Int) (u:Int) (x:aI),(∀s∈t,(0<=s/\s<64)/\tH s u)->0<=left->left<64->gQ t k left=some x->tH left u:=by
 intro t
 induction t with
 |nil=>
  intro k left u x _ D h1 h;by_cases z:left=0
  .subst z;unfold tH;simp
  .rw[OP _ _ z]at h;cases h
 |cons s t ih=>
  intro k left u x I D h1 h;by_cases z:left=0
  .subst z;unfold tH;simp
  cases k with
  |zero=>rw[xY _ _ z]at h;cases h
  |succ k=>
   simp only[gQ,if_neg z]at h;have J:=I s bF
   cases h2:gQ t k (dQ left s) with
   |some y=>have hd:=rK left s 64 D h1;exact V0 ⟨D,h1⟩ J.1 (ih k _ u y (fun q F=>I q (by simp[F])) hd.1 hd.2 h2) J.2
   |none=>rw[h2]at h;exact ih (k+1) left u x (fun q F=>I q (by simp[F])) D h1 h
theorem V1(h:∀s∈l,0<=s/\s<64):∀s∈l,(0<=s/\s<64)/\tH s (eU l):=
 fun s z=>⟨h s z,(V8 l (fun s z=>(h s z).1) 0).1 s z⟩
theorem XY:∀(t:aI) (k:Nat) (left:Int) (x:aI),jH t k left=some x->x.length<=k:=by
 intro t
 induction t with
 |nil=>
  intro k left x h;by_cases z:left=0
  .subst z;rw[xZ]at h;cases h;simp
  .rw[IF _ _ z]at h;cases h
 |cons s t ih=>
  intro k left x h;by_cases z:left=0
  .subst z;rw[xZ]at h;cases h;simp
  cases k with
  |zero=>rw[AW _ _ z]at h;cases h
  |succ k=>
   simp only[jH,if_neg z]at h
   split at h
   .exact ih _ _ _ h
   .cases h2:jH t k (dQ left s) with
    |some y=>
     rw[h2]at h
     cases h
     have:=ih _ _ _ h2;simp only[List.length_cons];omega
    |none=>rw[h2]at h;exact ih _ _ _ h
def qE(g:Int)(l:List Int):Option (List Int):=if cO g l then kC (fun k=>jH l k (2^g.toNat-1)) 0 (g.toNat+1) else none
def iV(g:Int)(l:List Int):List Int:=(qE g l).getD []
def mH(g:Int)(l:List Int):Bool:=(qE g l).isSome
theorem ae8(f:Nat->Option aI)(h:∀k x,f k=some x->x.length<=k):∀n k x,kC f k n=some x->x.length<=k+n:=by
 intro n
 induction n with
 |zero=>intro k x z;cases z
 |succ n ih=>
  intro k x z;simp only[kC]at z
  cases hk:f k with
  |some y=>rw[hk]at z;cases z;have:=h k _ hk;omega
  |none=>rw[hk]at z;have:=ih (k+1) x z;omega
theorem JV(g:Int)(l:aI):(iV g l).length<=1048576:=by
 unfold iV qE
 split
 .rename_i z;obtain⟨D,F,_⟩:=fF z
  cases hr:kC (fun k=>jH l k (2^g.toNat-1)) 0 (g.toNat+1) with
  |none=>simp
  |some x=>have:=ae8 _ (fun k x=>XY l k _ x) _ _ x hr;simp only[Option.getD_some];omega
 .simp
theorem ab2(f:Nat->Option aI)(h:∀k,f k=none):∀n k,kC f k n=none:=by
 intro n
 induction n with
 |zero=>intro k;rfl
 |succ n ih=>intro k;simp only[kC,h];exact ih _
theorem agK{g:Int}{l:aI}(z:cO g l=true)(J:eU l≠2^g.toNat-1):qE g l=none:=by
 unfold qE;rw[if_pos z];obtain⟨D,F,K,_⟩:=fF z;have hm:=fS z;have M:=nY D F;have I:=(dW g.toNat 6 aA).2;rw[<-YP l _ aA];refine ab2 _ (fun k=>?_) _ _
 cases hr:gQ l k (2^g.toNat-1) with
 |none=>rfl
 |some x=>
  exfalso
  apply J
  have h1:=adF l k _ (eU l) x (V1 l hm) aA aA hr;unfold tH at h1;exact ak0
theorem LR(a b i:Nat)(z:a<64)(hb:b<64):(dY a b).testBit i=(a.testBit i&&!b.testBit i):=by
 by_cases D:i<6
 .have h:∀a,a<64->∀b,b<64->∀i,i<6->(dY a b).testBit i=(a.testBit i&&!b.testBit i):=dS;exact h a z b hb i D
 .have F:(64:Nat)<=2^i:=bQ (n:=2) bZ (show 6<=i from aA);have hd:=zS a b 64 z;rw[Nat.testBit_lt_two_pow aA,Nat.testBit_lt_two_pow (i:=i) (x:=a) aA];rfl
theorem aoL(a b c:Nat)(z:a<64)(hb:b<64)(hc:c<64):dY a (b ||| c)=dY (dY a b) c:=by
 apply Nat.eq_of_testBit_eq
 intro i;rw[LR _ _ _ z (arB b c hb hc),LR _ _ _ (zS a b 64 z) hc,LR _ _ _ z hb,Nat.testBit_or]
 cases a.testBit i<;>cases b.testBit i<;>cases c.testBit i<;>rfl
theorem aqY{a b c:Int}(z:0<=a/\a<64)(hb:0<=b/\b<64)(hc:0<=c/\c<64):dQ a (gO b c)=dQ (dQ a b) c:=by
 have h:=aoL a.toNat b.toNat c.toNat aA aA aA;have e1:(gO b c).toNat=b.toNat ||| c.toNat:=by unfold gO;rw[cA]
 have e2:(dQ a b).toNat=dY a.toNat b.toNat:=by unfold dQ;rw[cA]
 unfold dQ at h e2 |-;rw[e1,h,e2]
theorem ac7(g:Nat):((2:Int)^g-1).toNat=2^g-1:=by
 have:((2:Int)^g)=((2^g:Nat):Int):=by push_cast;rfl
 rw[this];omega
theorem ED(g:Nat)(u:Int)(z:0<=u)(h1:u<2^g):dQ (2^g-1) u=2^g-1-u:=by
 have e:((2:Int)^g)=((2^g:Nat):Int):=by push_cast;rfl
 have h2:u.toNat<2^g:=aA;unfold dQ dY;rw[ac7,Nat.and_comm,Nat.and_two_pow_sub_one_eq_mod,Nat.mod_eq_of_lt h2];omega
theorem agR(s:Int):eU (l++[s])=gO (eU l) s:=by unfold eU;rw[List.foldl_append];rfl
theorem W6(a b:Int):tH a (gO a b):=by
 unfold tH gO;rw[cA,<-Nat.or_assoc,Nat.or_self]
theorem UC(a b:Int):tH b (gO a b):=by
 unfold tH gO;rw[cA,Nat.or_comm a.toNat b.toNat,<-Nat.or_assoc,Nat.or_self]
theorem agM{a b c:Int}(h1:tH a b)(h2:tH b c):tH a c:=by
 unfold tH at *;rw[<-h2,<-Nat.or_assoc,h1]
theorem aeY(g:Nat)(M:g<=6)(u:Int)(I:0<=u)(h1:u<2^g)(t:aI)(ht:∀s∈t,0<=s/\s<2^g)(k:Nat)(D:gO u (eU t)≠2^g-1):gQ t k (dQ (2^g-1) u)=none:=by
 have J:=dW g 6 M;have N:(2:Int)^g<=64:=by simpa using J.1
 have F:=J.2
 cases hr:gQ t k (dQ (2^g-1) u) with
 |none=>rfl
 |some x=>
  exfalso
  apply D
  have K:=AD g t ht 0 aA F;have z:0<=eU t/\eU t<2^g:=K;have hd:=rK (2^g-1) u 64 aA aA;have h2:=adF t k _ (eU t) x (V1 t (fun s O=>by have:=ht s O;omega)) hd.1 hd.2 hr;have h3:tH (2^g-1) (gO u (eU t)):=V0 ⟨aA,aA⟩ ⟨I,aA⟩ (agM h2 (UC u _)) (W6 u _);have h4:=DC u (eU t) g I z.1 h1 z.2;unfold tH at h3;have R:=@Nat.left_le_or ((2:Int)^g-1).toNat (gO u (eU t)).toNat;omega
def fU(l:List Int):List Int:=Lib.compact (l.mergeSort fun x y=>decide (x<=y))
theorem NX(d:Array Int)(mono:∀i j,i<=j->j<d.size->d[i]! <= d[j]!):∀m,m<=d.size ->
  (Lib.compactUpTo d m).Pairwise (· < ·)/\(∀x∈Lib.compactUpTo d m,∃j,j<m/\x=d[j]!)/\(∀j,j<m->d[j]! ∈ Lib.compactUpTo d m):=by
 intro m
 induction m with
 |zero=>intro _;simp[Lib.compactUpTo]
 |succ m ih=>
  intro hm;obtain⟨h1,h2,h3⟩:=ih aA;rw[Lib.compactUpTo_succ];by_cases hk:Lib.keeps d m=true
  .rw[if_pos hk]
   have hlt:∀x∈Lib.compactUpTo d m,x<d[m]! := by
    intro x z;obtain⟨j,I,rfl⟩:=h2 x z;have e1:=mono j (m-1) aA aA;have e2:=mono (m-1) m aA aA;unfold Lib.keeps at hk;have D:=eD hk;rcases D with J|N
    .omega
    .omega
   refine⟨?_,?_,?_⟩
   .rw[List.pairwise_append];exact⟨h1,bF,fun a K b hb=>by simp only[List.mem_singleton]at hb;rw[hb];exact hlt a K⟩
   .intro x z;rcases dM.1 z with z|z
    .obtain⟨j,I,e⟩:=h2 x z;exact⟨j,aA,e⟩
    .simp only[List.mem_singleton]at z;exact⟨m,aA,z⟩
   .intro j I;by_cases F:j<m
    .exact dM.2 (.inl (h3 j F))
    .have:j=m:=aA;subst this;exact dM.2 (.inr bF)
  .rw[if_neg hk,List.append_nil];refine⟨h1,fun x z=>?_,fun j I=>?_⟩
   .obtain⟨j,I,e⟩:=h2 x z;exact⟨j,aA,e⟩
   .by_cases F:j<m
    .exact h3 j F
    .have:j=m:=aA;subst this;unfold Lib.keeps at hk;have D:¬(j=0\/d[j]! ≠ d[j-1]!):=fun h=>hk (bH h);have J:j≠0:=fun h=>D (.inl h);have M:d[j]! = d[j-1]! := Classical.byContradiction fun h=>D (.inr h);rw[M];exact h3 (j-1) aA
theorem VW:∀i j,i<=j->j<(l.mergeSort fun x y=>decide (x<=y)).toArray.size->(l.mergeSort fun x y=>decide (x<=y)).toArray[i]! <= (l.mergeSort fun x y=>decide (x<=y)).toArray[j]! := by
 have F:(l.mergeSort fun x y=>decide (x<=y)).Pairwise (fun a b=>decide (a<=b)=true):=
  List.pairwise_mergeSort (le:=fun x y:Int=>decide (x<=y)) (fun a b c h1 h2=>bH (Int.le_trans (eD h1) (eD h2))) (fun a b=>by
   rcases Int.le_total a b with h|h
   .show(decide (a<=b)||decide (b<=a))=true;rw[bH h];rfl
   .show(decide (a<=b)||decide (b<=a))=true
    rw[bH h];simp) l
 generalize l.mergeSort (fun x y=>decide (x<=y))=s at *
 intro i j D z;rw[getElem!_pos s.toArray i aA,getElem!_pos s.toArray j z];simp only[List.getElem_toArray];rcases Nat.lt_or_ge i j with h|h
 .exact eD (List.pairwise_iff_getElem.1 F i j (by simpa using(show i<s.toArray.size from aA)) (by simpa using z) h)
 .have:i=j:=aA;subst this;exact Int.le_refl _
theorem wW:(fU l).Pairwise (· < ·):=by
 have:=(NX _ (VW l) _ aU).1;simpa[fU,Lib.compact]using this
theorem sC(x:Int):x∈fU l↔x∈l:=by
 have h:=NX _ (VW l) _ aU;have hm:∀y,y∈(l.mergeSort fun x y=>decide (x<=y))↔y∈l:=fun y=>List.mem_mergeSort;have e:fU l=Lib.compactUpTo (l.mergeSort fun x y=>decide (x<=y)).toArray (l.mergeSort fun x y=>decide (x<=y)).toArray.size:=by simp[fU,Lib.compact]
 rw[e,<-hm]
 generalize l.mergeSort (fun x y=>decide (x<=y))=s at *
 constructor
 .intro D;obtain⟨j,z,rfl⟩:=h.2.1 x D;rw[getElem!_pos s.toArray j z];simp
 .intro D;obtain⟨j,z,rfl⟩:=List.getElem_of_mem D;have:=h.2.2 j (by simpa using z);rw[getElem!_pos s.toArray j (by simpa using z)]at this;simpa using this
theorem MR:∀(a b:aI),a.Pairwise (· < ·)->b.Pairwise (· < ·)->(∀x,x∈a↔x∈b)->a=b:=by
 intro a
 induction a with
 |nil=>
  intro b _ _ h
  cases b with
  |nil=>rfl
  |cons y b=>have:=(h y).2 bF;simp at this
 |cons x a ih=>
  intro b N hb h
  cases b with
  |nil=>have:=(h x).1 bF;simp at this
  |cons y b=>
   obtain⟨D,J⟩:=List.pairwise_cons.1 N;obtain⟨F,K⟩:=List.pairwise_cons.1 hb;have M:x=y:=by
    have h1:=(h x).1 bF;have h2:=(h y).2 bF;rcases fK.1 h1 with h1|h1
    .exact h1
    .rcases fK.1 h2 with h2|h2
     .exact h2.symm
     .have:=F x h1;have:=D y h2;omega
   subst M;rw[ih b J K fun z=>?_];constructor
   .intro I;rcases fK.1 ((h z).1 (fK.2 (.inr I))) with e|e
    .subst e;have:=D z I;omega
    .exact e
   .intro I;rcases fK.1 ((h z).2 (fK.2 (.inr I))) with e|e
    .subst e;have:=F z I;omega
    .exact e
theorem CI(h:l.Pairwise (· < ·)):fU l=l:=MR _ _ (wW l) h (sC l)
theorem NY(d:Array Int)(m:Nat):(Lib.compactUpTo d m).length<=m:=by
 unfold Lib.compactUpTo;rw[List.length_map];have:=List.length_filter_le (Lib.keeps d) (List.range m);simpa using this
theorem NZ:(fU l).length<=l.length:=by
 have:=NY (l.mergeSort fun x y=>decide (x<=y)).toArray (l.mergeSort fun x y=>decide (x<=y)).length;unfold fU Lib.compact;simpa using this
def JM(l:List Int)(x:Int):List Int:=fU (l++[x])
theorem PG(x y:Int):y∈JM l x↔y∈l\/y=x:=by
 unfold JM;rw[sC];simp
theorem PF(x:Int):(JM l x).Pairwise (· < ·):=wW _
theorem acR(A:aI)(x:Int):JM (fU A) x=fU (A++[x]):=by
 refine MR _ _ (PF _ _) (wW _) ?_;intro y;rw[PG,sC,sC];simp
theorem aoX(x:Int)(h:l.Pairwise (· < ·))(z:x∈l):JM l x=l:=by
 refine MR _ _ (PF _ _) h ?_;intro y;rw[PG];constructor
 .rintro(h|h)
  .exact h
  .rw[h];exact z
 .exact .inl
theorem arO(x:Int)(i:Nat)(h:l.Pairwise (· < ·))(h1:∀y∈l.drop i,x<y)(h2:∀y∈l.take i,y<x):JM l x=(l.take i++[x])++l.drop i:=by
 refine MR _ _ (PF _ _) ?_ ?_
 .rw[<-List.take_append_drop i l,List.pairwise_append]at h;rw[List.pairwise_append,List.pairwise_append];refine⟨⟨h.1,bF,?_⟩,h.2.1,?_⟩
  .intro a z b hb;rw[eM]at hb;rw[hb];exact h2 a z
  .intro a z b hb;rw[dM,eM]at z;rcases z with z|z
   .exact h.2.2 a z b hb
   .rw[z];exact h1 b hb
 .intro y;rw[PG]
  conv=>lhs;rw[<-List.take_append_drop i l]
  simp only[List.mem_append,List.mem_singleton];constructor
  .rintro((h|h)|h)
   .exact .inl (.inl h)
   .exact .inr h
   .exact .inl (.inr h)
  .rintro((h|h)|h)
   .exact .inl (.inl h)
   .exact .inr h
   .exact .inl (.inr h)
theorem agO(x:Int)(i:Nat)(h:l.Pairwise (· < ·))(D:i<l)(I:l[i]<x):∀y∈l.take (i+1),y<x:=by
 intro y z;rw[cH D,dM,eM]at z;rcases z with z|z
 .obtain⟨j,F,rfl⟩:=List.getElem_of_mem z;rw[List.length_take]at F;have:=List.pairwise_iff_getElem.1 h j i aA D aA;rw[List.getElem_take];omega
 .rw[z];exact I
theorem ae5(x:Int)(i:Nat)(D:i<l)(h:∀y∈l.drop (i+1),x<y)(F:x<l[i]):∀y∈l.drop i,x<y:=by
 intro y z;rw[List.drop_eq_getElem_cons D,fK]at z;rcases z with z|z
 .rw[z];exact F
 .exact h y z
end
section
open Go.RowKit Go.G5 Go.Proofs.Tryz
end
section
open Go.RowKit Go.G5 Go.Proofs.Tryz
end
section
open Go.RowKit Go.G5 Go.Proofs.Tryz
variable(w:World)(n:Int)(v:Value)(l:aI)
def E2(s r:Int):Int:=max (eO (cU s r)-eO (dQ s r)) (-(eO (cU s r)-eO (dQ s r)))
theorem adR:∀s:Nat,s<64->∀r:Nat,r<64->dG (dY s r)+dG (s &&& r)=dG s:=dS
theorem af6:∀s:Nat,s<64->dG s<=6:=dS
theorem anZ{s r:Int}(z:0<=s/\s<64)(hr:0<=r/\r<64):2*eO (cU s r)-eO s=eO (cU s r)-eO (dQ s r):=by
 have h:=adR s.toNat aA r.toNat aA;unfold eO cU dQ;rw[cA,cA];omega
theorem Y9{s r:Int}(z:0<=s/\s<64)(hr:0<=r/\r<64):-6<=eO (cU s r)-eO (dQ s r)/\eO (cU s r)-eO (dQ s r)<=6/\0<=eO (cU s r)/\eO (cU s r)<=6/\0<=eO (dQ s r)/\eO (dQ s r)<=6/\0<=eO s/\eO s<=6:=by
 have h:=adR s.toNat aA r.toNat aA;have h2:=af6 s.toNat aA;unfold eO cU dQ;rw[cA,cA];omega
def wR(l:List Int)(r:Int):Nat->Int
 |0=>0
 |k+1=>max (wR l r k) (E2 (l.getD k 0) r)
def zA(l:List Int)(r:Int):Int:=wR l r l.length
def mN(l:List Int):Nat->Int×Int
 |0=>(0,zA l 0)
 |r+1=>if zA l ((r+1:Nat):Int)<(mN l r).2 then (((r+1:Nat):Int),zA l ((r+1:Nat):Int)) else mN l r
def D3(g:Int)(l:List Int):Int:=if cO g l then (mN l (2^g.toNat-1)).1 else 0
def BZ(g:Int)(l:List Int):Int:=if cO g l then (mN l (2^g.toNat-1)).2 else 0
theorem NH(r:Int)(h:∀s∈l,0<=s/\s<64)(hr:0<=r/\r<64):∀k,0<=wR l r k/\wR l r k<=6:=by
 intro k
 induction k with
 |zero=>simp[wR]
 |succ k ih=>
  rw[wR];have h2:0<=l.getD k 0/\l.getD k 0<64:=by
   rw[bR]
   cases hk:l[k]? with
   |none=>simp
   |some x=>exact h x (List.mem_of_getElem? hk)
  have:=Y9 h2 hr;unfold E2;omega
theorem SI(h:∀s∈l,0<=s/\s<64):∀r,r<64->(0<=(mN l r).1/\(mN l r).1<=r)/\0<=(mN l r).2/\(mN l r).2<=6:=by
 intro r
 induction r with
 |zero=>intro _;rw[mN];have:=NH l 0 h aA l.length;unfold zA;simp;omega
 |succ r ih=>
  intro hr;have ih:=ih aA;rw[mN]
  split
  .have:=NH l ((r+1:Nat):Int) h aA l.length;unfold zA;simp only[];omega
  .omega
def kU(T:List Int->Int->Bool):List Int->List Int->List Int->List Int
 |[],_,b=>b
 |s::r,c,b=>if c.length+(r.length+1)<=b.length then b else if T c s then kU T r c (dT b (kU T r (c++[s]) (c++[s]))) else kU T r c b
def wT(T:List Int->Int->Bool):List Int->List Int->List Int->List Int
 |[],_,b=>b
 |s::r,c,b=>if c.length+(r.length+1)<=b.length then b else if T c s then wT T r c (wT T r (c++[s]) (dT b (c++[s]))) else wT T r c b
theorem CM(a b:aI):(dT a b).length=max a.length b.length:=by
 unfold dT
 split<;>omega
theorem CO(T:aI->Int->Bool):∀(r c b:aI),(kU T r c b).length<=max b.length (c.length+r.length)
 |[],c,b=>by rw[kU];omega
 |s::r,c,b=>by
  rw[kU,jZ]
  split
  .omega
  .split
   .have h1:=CO T r c (dT b (kU T r (c++[s]) (c++[s])));have h2:=CO T r (c++[s]) (c++[s]);rw[CM]at h1;rw[bN,List.length_singleton]at h2;omega
   .have h1:=CO T r c b;omega
theorem LN{a b:aI}(h:b.length<=a.length):dT a b=a:=by unfold dT;rw[if_neg aA]
theorem KH(T:aI->Int->Bool):∀(r c b x:aI),wT T r c (dT b x)=dT b (kU T r c x)
 |[],_,_,_=>rfl
 |s::r,c,b,x=>by
  rw[wT,kU];have hl:=CM b x;by_cases h1:c.length+(r.length+1)<=(dT b x).length
  .rw[if_pos h1];by_cases h2:c.length+(r.length+1)<=x.length
   .rw[if_pos h2]
   .have hb:x.length<=b.length:=aA;have h3:=CO T (s::r) c x;rw[kU,jZ]at h3;rw[LN hb,LN (dC h3 aA)]
  .rw[if_neg h1,if_neg (show ¬c.length+(r.length+1)<=x.length from aA)]
   split
   .rw[KH T r (c++[s]) (dT b x) (c++[s]),LM,KH T r c b]
   .exact KH T r c b x
theorem ap0(T:aI->Int->Bool)(r c b:aI):(wT T r c b).length<=max b.length (c.length+r.length):=by
 have h:=KH T r c b [];rw[LN (show([]:aI).length<=b.length from bF)]at h;rw[h,CM];have h2:=CO T r c [];simp at h2;omega
def nH(l:List Int)(s:Int):Bool:=dP (fun j=>oH s (l.getD j 0)) l.length
theorem afW:∀k,(qV l k).length=k↔∀i,i<k->CH l i=true:=by
 intro k
 induction k with
 |zero=>simp[qV]
 |succ k ih=>
  have F:=Z2 l k;rw[qV]
  cases z:CH l k with
  |true=>
   rw[if_pos rfl,bN,List.length_singleton];constructor
   .intro h i D;by_cases e:i=k
    .rw[e];exact z
    .exact ih.1 aA i aA
   .intro h;rw[ih.2 (fun i D=>h i aA)]
  |false=>
   rw[if_neg bF];constructor
   .intro h;omega
   .intro h;have:=h k aA;rw[z]at this;cases this
theorem LA:xG l=true↔∀i,i<l.length->∀k,k<l.length->k≠i->cU (l.getD k 0) (l.getD i 0)≠l.getD k 0:=by
 unfold xG;rw[beq_iff_eq,afW];unfold CH;simp only[gD,Bool.or_eq_true,beq_iff_eq,bne_iff_ne,ne_eq];constructor
 .intro h i z k hk D;rcases h i z k hk with e|e
  .exact absurd e D
  .exact e
 .intro h i z k hk;by_cases e:k=i
  .exact .inl e
  .exact .inr (h i z k hk e)
theorem anR:xG []=true:=rfl
theorem D9(s:Int)(i:Nat)(h:i<l):(l++[s]).getD i 0=l.getD i 0:=by
 rw[bR,bR,List.getElem?_append_left h]
theorem IY(s:Int):(l++[s]).getD l.length 0=s:=by
 rw[bR,List.getElem?_append_right aU];simp
theorem vZ{a b:Int}(z:0<=a):dQ a b≠0↔cU a b≠a:=by
 rw[<-O3 z];constructor<;>intro h<;>omega
theorem ap2(s:Int)(hl:xG l=true)(hm:∀x∈l,0<=x)(K:0<=s):nH l s=xG (l++[s]):=by
 rw[Bool.eq_iff_iff,LA];unfold nH oH;simp only[gD,Bool.and_eq_true,bne_iff_ne];have J:∀j,j<l.length->0<=l.getD j 0:=fun j F=>by rw[bR,cG F];exact hm _ (aX F)
 rw[LA]at hl;constructor
 .intro h i M k hk I;rw[bN,List.length_singleton]at M hk;by_cases e1:i=l.length
  .have z:k<l.length:=aA;rw[e1,IY,D9 l s k z];exact(vZ (J k z)).1 (h k z).2
  .have D:i<l.length:=aA;rw[D9 l s i D];by_cases e2:k=l.length
   .rw[e2,IY];exact(vZ K).1 (h i D).1
   .have z:k<l.length:=aA;rw[D9 l s k z];exact hl i D k z I
 .intro h j F;have h1:=h l.length bF j bO aA;have h2:=h j bO l.length bF aA;rw[IY,D9 l s j F]at h1 h2;exact⟨(vZ K).2 h2,(vZ (J j F)).2 h1⟩
theorem MP:∀(r c b:aI),xG c=true->(∀x∈c,0<=x)->(∀x∈r,0<=x)->kU (fun l s=>xG (l++[s])) r c b=kU nH r c b
 |[],_,_,_,_,_=>rfl
 |s::r,c,b,hc,hcm,hm=>by
  have h1:∀x∈r,0<=x:=fun x z=>hm x (List.mem_cons_of_mem _ z);have h2:=hm s bF;have ht:=ap2 c s hc hcm h2;rw[kU,kU,<-ht,MP r c b hc hcm h1]
  cases D:nH c s with
  |false=>rfl
  |true=>
   rw[MP r (c++[s]) (c++[s]) (ht▸D) (fun x z=>by
    rcases dM.1 z with h|h
    .exact hcm x h
    .rw[eM]at h;omega) h1,MP r c _ hc hcm h1]
def yP(g:Int)(l:List Int):Bool:=cO g l&&decide (l.length<=12)
def wK(g:Int)(l:List Int):List Int:=if yP g l then kU nH l [] [] else []
def OA(g:Int)(l:List Int):Int:=if yP g l then g else 0
theorem aiQ{g:Int}{l:aI}(h:yP g l=false):OA g l=0/\wK g l=[]:=by unfold OA wK;rw[h];exact⟨rfl,rfl⟩
theorem M4{g:Int}{l:aI}(h:yP g l=true):OA g l=g/\wK g l=kU nH l [] []:=by unfold OA wK;rw[h];exact⟨rfl,rfl⟩
theorem ap1:wT nH l [] []=kU nH l [] []:=by
 have h:=KH nH l [] [] [];have e:dT [] []=([]:aI):=rfl;rw[e]at h;rw[h];unfold dT
 split
 .rfl
 .rename_i D;have z:(kU nH l [] []).length=0:=by simpa using D
  exact(eS z).symm
def XZ(g:Nat)(a b:Int):Bool:=uH a b&&gO a b != 2^g-1
def rV(g:Int)(l:List Int):Bool:=cO g l&&dP (fun i=>dP (fun k=>!XZ g.toNat (l.getD i 0) (l.getD k 0)) i) l.length
theorem Y8{a b:Int}(z:0<=a):(dQ a b != 0)=(cU a b != a):=by
 rw[Bool.eq_iff_iff,bne_iff_ne,bne_iff_ne];exact vZ z
theorem ID{a b:Int}(z:0<=a)(hb:0<=b):uH a b=PZ a b:=by
 unfold uH PZ;rw[Y8 z,Y8 hb,A7 b a]
theorem vH{l:aI}(hm:∀x∈l,0<=x/\x<64)(k:Nat):0<=l.getD k 0/\l.getD k 0<64:=by
 rw[bR]
 cases hk:l[k]? with
 |none=>simp
 |some x=>exact hm x (List.mem_of_getElem? hk)
theorem P0(a b:Int):uH a b=uH b a:=by
 unfold uH;rw[A7 b a]
 cases(cU a b != 0)<;>cases(dQ a b != 0)<;>cases(dQ b a != 0)<;>rfl
theorem ZO{l:aI}(hm:∀x∈l,0<=x/\x<64):O4 l=ZN l:=by
 unfold O4 ZN;rw[Bool.eq_iff_iff];simp only[gD,Bool.or_eq_true,decide_eq_true_eq,Bool.not_eq_true'];constructor
 .intro h i D k hk;rcases h k aA i D with h1|h1
  .omega
  .rw[<-ID (vH hm i).1 (vH hm k).1,P0];exact h1
 .intro h i D j F;by_cases z:j<=i
  .exact .inl z
  .right;have:=h j F i aA;rw[<-ID (vH hm j).1 (vH hm i).1,P0]at this;exact this
theorem ag6{l:aI}(hm:∀x∈l,0<=x/\x<64):MQ l=xG l:=by
 rw[Bool.eq_iff_iff,LA];unfold MQ oH;simp only[gD,Bool.and_eq_true,bne_iff_ne];constructor
 .intro h i z k hk D;rcases Nat.lt_or_gt_of_ne D with h1|h1
  .exact(vZ (vH hm k).1).1 (h i z k h1).2
  .exact(vZ (vH hm k).1).1 (h k hk i h1).1
 .intro h i z j F;exact⟨(vZ (vH hm i).1).2 (h j aA i z aA),(vZ (vH hm j).1).2 (h i z j aA aA)⟩
theorem QK{l:aI}:l.all (tX l)=RA l:=by
 unfold RA tX;rw[Bool.eq_iff_iff];simp only[gD,List.all_eq_true,bne_iff_ne];constructor
 .intro h i z k hk;rw[cJ l i z,cJ l k aA,A7];exact h _ (aX z) _ (aX (show k<l.length from aA))
 .intro h s F t ht;obtain⟨i,z,rfl⟩:=List.getElem_of_mem F;obtain⟨k,hk,rfl⟩:=List.getElem_of_mem ht;by_cases D:k<=i
  .have:=h i z k aA;rw[cJ l i z,cJ l k hk,A7]at this;exact this
  .have:=h k hk i aA;rw[cJ l i z,cJ l k hk]at this;exact this
def EQ(l:List Int)(a e d:Int):Bool:=jI l (gO (dQ a (2^e.toNat)) (2^d.toNat))
def sH(l:List Int)(a b:Int):Bool:=(iP (dQ a b)).all fun e=>(iP (dQ b a)).any (EQ l a e)
def BT(g:Int)(l:List Int):Bool:=cO g l&&(!l.isEmpty&&l.all fun a=>l.all (sH l a))
def sB(p:Nat->Bool):Nat->Bool
 |0=>false
 |k+1=>sB p k||p k
def yV(l:List Int)(a b:Int)(e d:Nat):Bool:=eI b.toNat d&&(!eI a.toNat d&&jI l (a-2^e+2^d))
def DO(a b:Int)(e:Nat):Bool:=!eI a.toNat e||eI b.toNat e
def exS(g:Nat)(l:List Int)(a b:Int):Bool:=dP (fun e=>DO a b e||sB (yV l a b e) g) g
theorem XF(p:Nat->Bool):∀n,sB p n=true↔∃k,k<n/\p k=true:=by
 intro n
 induction n with
 |zero=>simp[sB]
 |succ n ih=>
  rw[sB,Bool.or_eq_true,ih];constructor
  .rintro(⟨k,hk,h⟩|h)
   .exact⟨k,aA,h⟩
   .exact⟨n,aA,h⟩
  .rintro⟨k,hk,h⟩;by_cases e:k=n
   .right;rw[<-e];exact h
   .left;exact⟨k,aA,h⟩
theorem acN(P:Nat->Bool)(n:Nat)(x:Int):x∈dE P n↔∃k:Nat,k<n/\P k=true/\x=(k:Int):=by
 unfold dE;rw[List.mem_map];constructor
 .rintro⟨k,hk,rfl⟩;rw[List.mem_filter,List.mem_range]at hk;exact⟨k,hk.1,hk.2,rfl⟩
 .rintro⟨k,h1,h2,rfl⟩;exact⟨k,by rw[List.mem_filter,List.mem_range];exact⟨h1,h2⟩,rfl⟩
theorem CU(s x:Int):x∈iP s↔∃k:Nat,k<6/\eI s.toNat k=true/\x=(k:Int):=acN _ _ _
theorem O9:∀a:Nat,a<64->∀b:Nat,b<64->∀e:Nat,e<6->eI (dY a b) e=(eI a e&&!eI b e):=dS
theorem aqJ:∀a:Nat,a<64->∀e:Nat,e<6->eI a e=true->dY a (2^e)=a-2^e/\2^e<=a:=dS
theorem arC:∀a:Nat,a<64->∀e:Nat,e<6->eI a e=false->a ||| 2^e=a+2^e:=dS
theorem UL:∀g:Nat,g<7->∀a:Nat,a<2^g->∀e:Nat,e<6->eI a e=true->e<g:=dS
theorem aeA(a:Int)(e d:Nat)(F:0<=a/\a<64)(z:e<6)(hd:d<6)(h1:eI a.toNat e=true)(h2:eI a.toNat d=false):EQ l a e d=jI l (a-2^e+2^d):=by
 unfold EQ
 congr 1
 obtain⟨n,rfl⟩:∃n:Nat,a=(n:Int):=⟨a.toNat,aA⟩;rw[cA]at h1 h2;have e1:=aqJ n aA e z h1;have D:∀k:Nat,((2:Int)^k).toNat=2^k:=fun k=>by have:((2:Int)^k)=((2^k:Nat):Int):=bF;rw[this,cA]
 unfold gO dQ;simp only[Int.toNat_natCast,D];have hb:eI (dY n (2^e)) d=false:=by
  have:=O9 n aA (2^e) (by
   have:(2:Nat)^e<=2^5:=bQ bZ aA;omega) d hd
  rw[this,h2];rfl
 rw[e1.1]at hb |-;rw[arC (n-2^e) (Nat.lt_of_le_of_lt (Nat.sub_le _ _) aA) d hd hb];have:((2:Int)^e)=((2^e:Nat):Int):=bF;have h3:((2:Int)^d)=((2^d:Nat):Int):=bF;rw[this,h3];omega
theorem aqQ(g:Nat)(R:g<=6)(l:aI)(a b:Int)(Y:0<=a/\a<2^g)(hb:0<=b/\b<2^g):sH l a b=exS g l a b:=by
 have Z:(2:Nat)^g<=2^6:=bQ bZ R;have S:((2:Int)^g)=((2^g:Nat):Int):=bF;have J:0<=a/\a<64:=aA;have O:0<=b/\b<64:=aA;have K:∀e,e<6->eI (dQ a b).toNat e=(eI a.toNat e&&!eI b.toNat e):=fun e F=>by unfold dQ;rw[cA];exact O9 _ aA _ aA e F
 have M:∀e,e<6->eI (dQ b a).toNat e=(eI b.toNat e&&!eI a.toNat e):=fun e F=>by unfold dQ;rw[cA];exact O9 _ aA _ aA e F
 unfold sH exS;rw[Bool.eq_iff_iff,List.all_eq_true,gD];constructor
 .intro h e F;rw[Bool.or_eq_true];by_cases I:DO a b e=true
  .exact .inl I
  .right;unfold DO at I;rw[Bool.or_eq_true,not_or,Bool.not_eq_true',Bool.not_eq_false,Bool.not_eq_true]at I;have h1:=h (e:Int) ((CU _ _).2 ⟨e,aA,by rw[K e aA,I.1,I.2];rfl,rfl⟩);rw[List.any_eq_true]at h1;obtain⟨x,N,h2⟩:=h1;obtain⟨d,hd,z,rfl⟩:=(CU _ _).1 N;rw[M d hd,fB,Bool.not_eq_true']at z;rw[aeA l a e d J aA hd I.1 z.2]at h2;exact(XF _ _).2 ⟨d,UL g aA b.toNat aA d hd z.1,by unfold yV;rw[z.1,z.2,h2];rfl⟩
 .intro h x N;obtain⟨e,F,D,rfl⟩:=(CU _ _).1 N;rw[K e F,fB,Bool.not_eq_true']at D;have h1:=h e (UL g aA a.toNat aA e F D.1);rw[Bool.or_eq_true]at h1;rcases h1 with h1|h1
  .unfold DO at h1;rw[D.1,D.2]at h1;simp at h1
  .obtain⟨d,hd,h2⟩:=(XF _ _).1 h1;unfold yV at h2;rw[fB,fB,Bool.not_eq_true']at h2;rw[List.any_eq_true];exact⟨(d:Int),(CU _ _).2 ⟨d,aA,by rw[M d aA,h2.1,h2.2.1];rfl,rfl⟩,by rw[aeA l a e d J F aA D.1 h2.2.1];exact h2.2.2⟩
def yS(l:List Int)(s:Int)(i:Nat):Bool:=!(l.getD i 0==s)&&(cU s (l.getD i 0)==cU s (l.getD 0 0))&&(i==0||cU s (l.getD i 0)==cU (l.getD 0 0) (l.getD 1 0))
def nV(l:List Int)(s:Int):Bool:=dP (yS l s) l.length
def CN(l:List Int)(i k:Nat):Bool:=cU (l.getD i 0) (l.getD k 0)==cU (l.getD 0 0) (l.getD 1 0)
def vQ(l:List Int):Bool:=dP (fun i=>dP (CN l i) i) l.length
def gZ(T:List Int->Int->Bool):List Int->List Int->Int->Option (List Int)
 |sets,l,k=>if (l.length:Int)=k then some l else
  match sets with
  |[]=>none
  |s::rest=>if T l s then (match gZ T rest (l++[s]) k with|some x=>some x|none=>gZ T rest l k) else gZ T rest l k
theorem vX(T:aI->Int->Bool)(sets l:aI)(k:Int)(h:(l.length:Int)=k):gZ T sets l k=some l:=by unfold gZ;rw[if_pos h]
theorem D8(T:aI->Int->Bool)(l:aI)(k:Int)(h:(l.length:Int)≠k):gZ T [] l k=none:=by unfold gZ;rw[if_neg h]
theorem CG(T:aI->Int->Bool)(s:Int)(rest l:aI)(k:Int)(h:(l.length:Int)≠k):
  gZ T (s::rest) l k=if T l s then (match gZ T rest (l++[s]) k with|some x=>some x|none=>gZ T rest l k) else gZ T rest l k:=by
 rw[gZ];rw[if_neg h]
theorem afB(a b:Int):cU a b=cU b a:=by unfold cU;rw[Nat.and_comm]
theorem PO:vQ l=true↔∀i,i<l.length->∀k,k<i->cU (l.getD i 0) (l.getD k 0)=cU (l.getD 0 0) (l.getD 1 0):=by
 unfold vQ;rw[gD];constructor
 .intro h i z k hk;have:=gD.1 (h i z) k hk;unfold CN at this;simpa using this
 .intro h i z;rw[gD];intro k hk;unfold CN;simpa using h i z k hk
theorem sD(s:Int)(i:Nat)(h:i<l):(l++[s]).getD i 0=l.getD i 0:=by
 rw[bR,bR,List.getElem?_append_left h]
theorem LB(s:Int):(l++[s]).getD l.length 0=s:=by
 rw[bR,List.getElem?_append_right aU];simp
theorem EU(s:Int)(hl:vQ l=true)(Y:s∉l):nV l s=vQ (l++[s]):=by
 have N:=(PO l).1 hl;have M:∀i,i<l.length->l.getD i 0≠s:=fun i z e=>Y (by rw[<-e,cJ l i z];exact aX z);rw[Bool.eq_iff_iff,PO];unfold nV;rw[gD];rcases Nat.lt_or_ge l.length 2 with h2|h2
 ·
  constructor
  .intro _ i z k hk;rw[bN,List.length_singleton]at z;have O:i=1/\k=0/\l.length=1:=aA;obtain⟨rfl,rfl,_⟩:=O;exact afB _ _
  .intro _ i z;have:i=0:=aA;subst this;unfold yS;have I:(l.getD 0 0==s)=false:=dZ.2 (M 0 z);rw[I];simp
 .have R:(l++[s]).getD 0 0=l.getD 0 0:=sD l s 0 aA;have e1:(l++[s]).getD 1 0=l.getD 1 0:=sD l s 1 aA;rw[R,e1];constructor
  .intro h i z k hk;rw[bN,List.length_singleton]at z;by_cases K:i<l.length
   .rw[sD l s i K,sD l s k aA];exact N i K k hk
   .have:i=l.length:=aA;subst this;rw[LB,sD l s k hk];have h1:=h 1 aA;have F:=h k hk;unfold yS at h1 F;simp only[Bool.and_eq_true,Bool.or_eq_true,beq_iff_eq,Bool.not_eq_true',beq_eq_false_iff_ne,ne_eq]at h1 F;have S:=h1.2.resolve_left aA;rcases F.2 with I|I
    .subst I;rw[<-h1.1.2];exact S
    .exact I
  .intro h i z;have D:=h l.length (by rw[bN,List.length_singleton];omega) i z;have J:=h l.length (by rw[bN,List.length_singleton];omega) 0 aA;rw[LB,sD l s i z]at D;rw[LB,R]at J;unfold yS;simp only[Bool.and_eq_true,Bool.or_eq_true,beq_iff_eq,Bool.not_eq_true',beq_eq_false_iff_ne,ne_eq];exact⟨⟨M i z,by rw[D,J]⟩,.inr D⟩
theorem ahX:∀(sets l:aI) (k:Int),vQ l=true->(∀s∈sets,s∉l)->sets.Pairwise (· < ·)->gZ (fun l s=>vQ (l++[s])) sets l k=gZ nV sets l k:=by
 intro sets
 induction sets with
 |nil=>
  intro l k _ _ _;by_cases h:(l.length:Int)=k
  .rw[vX _ _ _ _ h,vX _ _ _ _ h]
  .rw[D8 _ _ _ h,D8 _ _ _ h]
 |cons s rest ih=>
  intro l k hl F z;by_cases h:(l.length:Int)=k
  .rw[vX _ _ _ _ h,vX _ _ _ _ h]
  .rw[CG _ _ _ _ _ h,CG _ _ _ _ _ h];rw[List.pairwise_cons]at z;have ht:=EU l s hl (F s bF);have hr:=ih l k hl (fun x D=>F x (by simp[D])) z.2;rw[<-ht,hr]
   cases I:nV l s with
   |false=>rfl
   |true=>
    rw[ih (l++[s]) k (ht▸I) (fun x D hm=>by
     rw[dM,eM]at hm;rcases hm with hm|hm
     .exact F x (by simp[D]) hm
     .have:=z.1 x D;omega) z.2]
theorem XI:∀(l:aI) (z n:Int),l.Pairwise (· < ·)->(∀x∈l,z<=x/\x<n)->z<=n->(l.length:Int)<=n-z:=by
 intro l
 induction l with
 |nil=>intro z n _ _ h;simp;omega
 |cons x l ih=>intro z n D hb I;have J:=hb x bF;rw[List.pairwise_cons]at D;have:=ih (x+1) n D.2 (fun y F=>⟨by have:=D.1 y F;omega,(hb y (by simp[F])).2⟩) aA;rw[jZ];omega
theorem OL(n:Nat)(z:l.Pairwise (· < ·))(hb:∀x∈l,0<=x/\x<(n:Int)):l.length<=n:=by
 have:=XI l 0 n z hb aA;omega
def sQ(g:Int)(l:List Int)(k:Int):Bool:=cO g l&&fN k 1 5
def vP(g:Int)(l:List Int)(k:Int):Option (List Int):=if sQ g l k then gZ nV l [] k else none
def kG(g:Int)(l:List Int)(k:Int):Bool:=(vP g l k).isSome
def kK(g:Int)(l:List Int)(k:Int):List Int:=(vP g l k).getD []
theorem amE(g:Int)(l:aI)(k:Int)(h:sQ g l k=true):vP g l k=gZ (fun l s=>vQ (l++[s])) l [] k:=by
 unfold vP;rw[h];unfold sQ at h;have z:=(Bool.and_eq_true_iff.1 h).1;exact(ahX l [] k bZ bF (fF z).2.2.2).symm
def uB(l:List Int):List Int:=l.filter fun s=>!jI (lF l) s
def tU:Nat->List Int->List (List Int)
 |0,_=>[]
 |k+1,l=>if l=[] then [] else lF l::tU k (uB l)
def aoB(l:List Int):List (List Int):=tU l.length l
def lenOf:Value->Nat
 |.slice _ n _=>n
 |_=>0
theorem sub_le:∀s:Nat,s<64->∀t:Nat,t<64->dY t s=0->t<=s:=dS
theorem afV(x:Int)(l:aI)(F:(x::l).Pairwise (· < ·))(hb:∀y∈x::l,0<=y/\y<64):x∈lF (x::l):=by
 unfold lF;rw[List.mem_filter];refine⟨bF,?_⟩;rw[Bool.not_eq_true',List.any_eq_false];intro y z;have h1:=hb y z;have h2:=hb x bF;unfold sP;intro h;rw[fB,bne_iff_ne,beq_iff_eq]at h;obtain⟨D,I⟩:=h;unfold dQ at I;have h3:=sub_le x.toNat aA y.toNat aA aA;rcases fK.1 z with e|z
 .exact D e
 .have:=(List.pairwise_cons.1 F).1 y z;omega
theorem ad4{l:aI}(z:l≠[])(D:l.Pairwise (· < ·))(hb:∀y∈l,0<=y/\y<64):(uB l).length<l.length:=by
 cases l with
 |nil=>exact absurd rfl z
 |cons x l=>unfold uB;rw[List.length_filter_lt_length_iff_exists];exact⟨x,bF,by rw[O0.2 (afV x l D hb)];simp⟩
theorem aaT{l:aI}(z:l.Pairwise (· < ·)):(uB l).Pairwise (· < ·):=z.filter _
theorem PH{l:aI}{x:Int}(h:x∈uB l):x∈l:=(List.mem_filter.1 h).1
theorem U8(k:Nat)(l:aI)(h:l≠[]):tU (k+1) l=lF l::tU k (uB l):=by rw[tU,if_neg h]
theorem ZP(k:Nat):tU k []=[]:=by cases k<;>simp[tU]
theorem O7:∀(k:Nat) (l:aI),(tU k l).length<=k:=by
 intro k
 induction k with
 |zero=>intro l;simp[tU]
 |succ k ih=>
  intro l;rw[tU]
  split
  .simp
  .have:=ih (uB l);rw[jZ];omega
theorem aoA:∀(k:Nat) (l:aI),∀m∈tU k l,m.length<=l.length/\∀x∈m,x∈l:=by
 intro k
 induction k with
 |zero=>intro l m hm;simp[tU]at hm
 |succ k ih=>
  intro l m hm;rw[tU]at hm
  split at hm
  .simp at hm
  .rcases fK.1 hm with e|hm
   .subst e;exact⟨Z0 l,fun x z=>Z1 z⟩
   .have h:=ih _ m hm;exact⟨dC h.1 (List.length_filter_le _ _),fun x z=>PH (h.2 x z)⟩
def gG(g:Int)(l:List Int):List (List Int):=if cO g l then aoB l else []
theorem VS(p:Int->Bool)(L:aI)(k:Nat)(h:k<L):(L.take (k+1)).filter p=(L.take k).filter p++(if p L[k] then [L[k]] else []):=by
 rw[cH h,List.filter_append]
 congr 1
 cases z:p L[k]<;>simp[z]
theorem W9{g:Int}{l:aI}(h:cO g l=true):l.length<=64:=by
 have h1:=fF h;have h2:=sZ h;exact OL l 64 h1.2.2.2 (fun x z=>by obtain⟨k,hk,rfl⟩:=List.getElem_of_mem z;have:=h2.2.2 k hk;omega)
def KU(out:List Int)(s:Int):Bool:=out.isEmpty||dQ s (out.headD 0)==0
def oX:List Int->List Int->List Int
 |[],out=>out
 |s::r,out=>if KU out s then s::out else oX r out
def BW(z:List (List Int)):Nat->List Int->List Int
 |0,out=>out
 |i+1,out=>BW z i (oX (z.getD i []) out)
def BY(g:Int)(l:List Int):List Int:=BW (gG g l) (gG g l).length []
theorem VZ:∀(M out:aI),(oX M out).length<=out.length+1
 |[],out=>by rw[oX];omega
 |s::r,out=>by
  rw[oX]
  split
  .simp
  .exact VZ r out
theorem adE(z:List aI):∀(i:Nat) (out:aI),(BW z i out).length<=out.length+i
 |0,out=>by rw[BW];omega
 |i+1,out=>by rw[BW];have h1:=adE z i (oX (z.getD i []) out);have h2:=VZ (z.getD i []) out;omega
theorem wD(g:Int)(l:aI):(gG g l).length<=64:=by
 unfold gG
 split
 .rename_i h;exact dC (O7 _ _) (W9 h)
 .simp
theorem QW(g:Int)(l:aI):∀m∈gG g l,m.length<=64/\∀x∈m,0<=x/\x<64:=by
 unfold gG
 split
 .rename_i h;intro m hm;have h1:=aoA _ _ m hm;refine⟨dC h1.1 (W9 h),fun x z=>?_⟩;obtain⟨k,hk,e⟩:=List.getElem_of_mem (h1.2 x z);rw[<-e];exact(sZ h).2.2 k hk
 .intro m hm;simp at hm
theorem SH(g:Int)(l:aI):(BY g l).length<=64:=by
 have h1:=adE (gG g l) (gG g l).length [];have h2:=wD g l;unfold BY;simp at h1;omega
theorem aa3(M:aI)(j:Nat)(h:j<M)(out:aI):oX (M.drop j) out=if KU out M[j] then M[j]::out else oX (M.drop (j+1)) out:=by
 rw[List.drop_eq_getElem_cons h,oX]
theorem VY(M out:aI):oX (M.drop M.length) out=out:=by rw[List.drop_length];rfl
theorem ahI(z:List aI)(i:Nat)(h:i<z)(out:aI):BW z (i+1) out=BW z i (oX z[i] out):=by
 rw[BW,bR,cG h];rfl
def fP(n:Int)(l:List Int)(m:Int)(k:List Int):Bool:=(eX n l&&eX m k)&&decide (n=m)
def gJ(l:List Int)(s:Nat):Bool:=decide (l.getD s 0=(dG s:Int))
def uQ(l k:List Int):Nat->Nat
 |0=>0
 |t+1=>if decide (dG (uQ l k t)<dG t)&&(gJ l t&&gJ k t) then t else uQ l k t
def uF(l k:List Int)(t:Nat):Int:=l.getD t 0+k.getD (l.length-1-t) 0
def kT(l k:List Int):Nat->Nat
 |0=>0
 |t+1=>if uF l k t<uF l k (kT l k t) then t else kT l k t
def tK(n:Int)(l:List Int)(m:Int)(k:List Int):Int:=if fP n l m k then (uQ l k l.length:Int) else 0
def uU(n:Int)(l:List Int)(m:Int)(k:List Int):Int:=if fP n l m k then (kT l k l.length:Int) else 0
def AO(n:Int)(l:List Int)(m:Int)(k:List Int):Int:=if fP n l m k then uF l k (kT l k l.length) else 0
theorem M5(l k:aI):∀t,0<t->uQ l k t<t:=by
 intro t
 induction t with
 |zero=>intro h;omega
 |succ t ih=>
  intro _;rw[uQ]
  split
  .omega
  .rcases Nat.eq_zero_or_pos t with rfl|h
   .simp[uQ]
   .have:=ih h;omega
theorem UB(l k:aI):∀t,0<t->kT l k t<t:=by
 intro t
 induction t with
 |zero=>intro h;omega
 |succ t ih=>
  intro _;rw[kT]
  split
  .omega
  .rcases Nat.eq_zero_or_pos t with rfl|h
   .simp[kT]
   .have:=ih h;omega
theorem an9(l k:aI):uQ l k 1=0:=by
 have:=M5 l k 1 aA;omega
theorem aaZ(l k:aI):kT l k 1=0:=by
 have:=UB l k 1 aA;omega
theorem sY{n m:Int}{l k:aI}(h:fP n l m k=true):m=n/\∃N:Nat,n=N/\N<=5/\l.length=2^N/\l.length<=32/\k.length=l.length/\(∀i,(R:i<l.length)->-1000<=l[i]/\l[i]<=1000)/\(∀i,(R:i<k.length)->-1000<=k[i]/\k[i]<=1000):=by
 unfold fP eX at h;simp only[Bool.and_eq_true,decide_eq_true_eq]at h;obtain⟨⟨⟨h1,_⟩,h2,_⟩,rfl⟩:=h;obtain⟨N,rfl,D,I,z,J⟩:=eJ (uA h1);obtain⟨M,Y,O,S,K,F⟩:=eJ (uA h2);have:N=M:=aA;subst this;exact⟨rfl,N,rfl,D,I,z,aA,J,F⟩
theorem xW(a b:Int):(a==b)=decide (a=b):=by by_cases h:a=b<;>simp[h]
theorem ajH{p:Prop}(h:p:=by
  intro Z b2;have D:=D.keep b2;have z:=z.keep b2;have B:=B.after b2 B.size;have I:fP n l m k=(eX m k&&decide (n=m)):=by unfold fP;rw[Y.out];rfl
  have M:=aT I;clear I;have S:=D.cell;have K:=z.cell;have z2:=z.lt
  cases h2:eX m k with
  |false=>have R:=aT h2;clear h2;go_wp2;go_ret;exact⟨cP (by rw[M.out,R.out];rfl),B⟩
  |true=>
   have R:=aT h2;clear h2;go_wp2;go_ret;exact⟨cP (by rw[M.out,R.out,Bool.true_and];exact xW n m),B⟩):p:=h
theorem AH(O:Ints w v l)(hl:l.length<=1048576)(m:Int)(u:Value)(k:aI)(N:Ints w u k)(hk:k.length<=1048576):
  aH 288 #[aM #[n,v],aM #[m,u]] w (aG (fP n l m k)):=by
 obtain⟨a,c,rfl⟩:=O.shape;obtain⟨b,d,rfl⟩:=N.shape;go_enter func288,ntmps288;go_wp2_with fail;refine cZ ?_;intro V F;have B:Below w w V:=iJ F;have D:bK V w 27 #[n,aD a l c]:=iQ F;have z:bK V (w+1) 27 #[m,aD b k d]:=jL F;clear F;refine aV (pQ n l _ V (O.below B aU) hl) ?_;intro w1 J;have D:=D.keep J;have z:=z.keep J;have B:=B.after J B.size;have z2:=z.lt
 cases h1:eX n l with
 |false=>
  have I:fP n l m k=false:=by unfold fP;rw[h1];rfl
  have M:=aT I;clear I h1;have S:=D.cell;have K:=z.cell;go_wp2;go_ret;exact⟨cP M.out.symm,B⟩
 |true=>have Y:=aT h1;clear h1;have K:=z.cell;go_wp2_with fail;clear K;refine aV (pQ m k _ w1 (N.below B aU) hk) ?_;exact ajH
theorem AI(O:Ints w v l)(hl:l.length<=1048576)(m:Int)(u:Value)(k:aI)(N:Ints w u k)(hk:k.length<=1048576):
  aH 332 #[aM #[n,v],aM #[m,u]] w (aG (fP n l m k)):=by
 obtain⟨a,c,rfl⟩:=O.shape;obtain⟨b,d,rfl⟩:=N.shape;go_enter func332,ntmps332;go_wp2_with fail;refine cZ ?_;intro V F;have B:Below w w V:=iJ F;have D:bK V w 27 #[n,aD a l c]:=iQ F;have z:bK V (w+1) 27 #[m,aD b k d]:=jL F;clear F;refine aV (pT n l _ V (O.below B aU) hl) ?_;intro w1 J;have D:=D.keep J;have z:=z.keep J;have B:=B.after J B.size;have z2:=z.lt
 cases h1:eX n l with
 |false=>
  have I:fP n l m k=false:=by unfold fP;rw[h1];rfl
  have M:=aT I;clear I h1;have S:=D.cell;have K:=z.cell;go_wp2;go_ret;exact⟨cP M.out.symm,B⟩
 |true=>have Y:=aT h1;clear h1;have K:=z.cell;go_wp2_with fail;clear K;refine aV (pT m k _ w1 (N.below B aU) hk) ?_;exact ajH
theorem wA(S:Ints w v l)(s:Nat)(M:s<l)(a6:s<64):
  aH 278 #[aM #[n,v],s] w (aG (gJ l s)):=by
 have a7:=S;obtain⟨a,b,N,c,rfl,R,D,hc,hb⟩:=S.vw;obtain⟨V,F⟩:=aW (w.alloc (.cells #[n,aD a l c] 27));have B:Below w w V:=jP F;have K1:bK V w 27 #[n,aD a l c]:=jV F;have J:=bY hc hb B aU s M;have ik:=fun W=>D W s M;have O:l.getD s 0=l[s]:=cJ l s M;have z:gJ l s=decide (l[s]=(dG s:Int)):=by unfold gJ;rw[O]
 obtain⟨x,Y⟩:=aW (l[s]);rw[<-Y]at J z;have I:=aT z;have Z:=aT (fun W=>jF s W aA);have e1:∀y:Ext V,y.w.cell? ⟨w,1,none⟩=some (aD a l c):=fun y=>y.cell (K1.cell 1);have e2:∀y:Ext V,y.w.cell? ⟨b,N+s,none⟩=some (aO x):=fun y=>y.cell J;clear hc D hb O z Y J;go_enter func278,ntmps278;go_wp2_with fail;rw[<-F];clear F;refine cW _ bM bM ?_
 repeat(first|go_big_quiet_skip|(go_big_quiet_want;go_big_quiet_op;first|go_big_quiet_on|(apply Exists.intro;refine⟨fun _=>?_,?_⟩;(go_at_call 214;exact fA (Z.out _));go_big_quiet_on)))
 refine wpQuiet_nil ?_;rintro w3 ⟨⟨w3,K⟩,rfl⟩
 try dsimp only
 go_wp2;go_ret;exact⟨cP (by rw[I.out];exact xW _ _),B.after K B.size⟩
theorem ab3(g1 O:Nat)(n m:Int)(v u:Value)(l k:aI)(Y:Ints w v l)(S:Ints w u k)(D:k.length=l.length)(hl:l.length<=32)(s:Nat)(R:s<l)(N:bK w g1 27 #[n,v])(K:bK w O 27 #[m,u]):
  aH 290 #[s,aP (some ⟨g1,0,none⟩),aP (some ⟨O,0,none⟩)] w (aG (gJ l s&&gJ k s)):=by
 obtain⟨a,c,rfl⟩:=Y.shape;obtain⟨b,d,rfl⟩:=S.shape;have Z:=N.cell;have z1:=N.lt;go_enter func290,ntmps290;go_wp2_with fail;clear Z;refine aV (wA w n _ l Y s R aA) ?_;intro w1 z;have K:=K.keep z;have M:=S.keep z;have I:=aT D;clear D
 cases h1:gJ l s with
 |false=>
  have F:(gJ l s&&gJ k s)=false:=by rw[h1];rfl
  have J:=aT F;clear F h1;go_wp2;go_ret;exact⟨cP (by first|exact J.out.symm|simp),z⟩
 |true=>
  have F:(gJ l s&&gJ k s)=gJ k s:=by rw[h1];rfl
  have J:=aT F;clear F h1;have G2:=K.cell;go_wp2_with fail;clear G2;refine aV (wA w1 m _ k M s (by rw[I.out];exact R) aA) ?_;intro w2 b2;go_wp2;go_ret;exact⟨cP (by first|exact J.out.symm|simp),z.after b2 z.size⟩
theorem KZ:∀args w,(callFunc 290 args).run prog w=.ok (.enter 290 args) w:=enters_of func290 bM rfl
end
section
open Go.RowKit Go.G5 Go.Proofs.Tryz
end
section
open Go.RowKit Go.G5 Go.Proofs.Tryz
end
section
open Go.RowKit Go.G5 Go.Proofs.Tryz
end
section
open Go.RowKit Go.G5 Go.Proofs.Tryz
end
section
open Go.RowKit Go.G5 Go.Proofs.Tryz
end
end Go.Proofs.YtkdbkjjacgigiaaGreatDoor
section
namespace Go.G5
open Go Go.RowKit
theorem eR.lit0{EI EO:TypeId}{B:Nat}(w:World)(hB:B<=w.heap.size):eR EI EO B (w.alloc (.cells #[] EO)) (aD (some ⟨w,0,none⟩) 0 0) []:=
 ⟨[],World.ownsRow_lit w #[] 0 hB (aZ _) rfl,bF⟩
theorem eR.alloc{EI EO:TypeId}{B:Nat}{w:World}{v:Value}{z:List aI}(h:eR EI EO B w v z)(o:Obj):eR EI EO B (w.alloc o) v z:=h.keep (cQ w o)
theorem eR.one{EI EO:TypeId}{B:Nat}{w:World}{v:Value}{l:aI}(h:bB EI B w v l)(hB:B<=w.heap.size):eR EI EO B (w.alloc (.cells #[v] EO)) (aD (some ⟨w,0,none⟩) 1 1) [l]:=by
 refine⟨[v],World.ownsRow_lit w #[v] 1 hB bZ rfl,?_⟩;intro k u z
 cases k with
 |zero=>simp only[List.getElem?_cons_zero,Option.some.injEq]at z;subst z;exact⟨l,rfl,h.alloc _⟩
 |succ k=>simp at z
theorem aaW{P:Program}{w:World}{EI EO:TypeId}(T ty:TypeId)(hT:P.underlying T=some (.slice EO))(hE:SliceElem P EO)(K:EI≠EO)(B:Nat)(v:Value)(Z:List aI)(O:eR EI EO B w v Z)
  (B':Nat) (sv:Value) (ms:List aI) (hs:eR EI EO B' w sv ms) (b0:B<=B') (b7:Z.length+ms.length<=5497558138879) (hB:B<=w.heap.size):
  ∃v' w',(Builtin.append_ #[T,T] ty #[v,sv]).run P w=.ok v' w'/\eR EI EO B w' v' (Z++ms)/\w.grownBy w' v.ownBlock/\yI w v v':=by
 obtain⟨i,hi,hz,h1,h8⟩:=hE.get;obtain⟨vs,z,M⟩:=O;obtain⟨I,F,S⟩:=hs;have Y:=F;have e8:=F.1;rcases F.2 with⟨rfl,b4⟩|⟨g,cap,a9,rfl,c8,hg,e4,e5,d0,ht⟩
 .have:ms=[]:=eS b4;subst this;refine⟨v,w,?_,by rw[List.append_nil];exact⟨vs,z,M⟩,dO w _,.inl rfl⟩;rcases z.2 with⟨rfl,hn⟩|⟨g,cap,a9,rfl,_,_,b5,_⟩
  .simp[Builtin.append_,run_underlying hT,sizeOf,typeInfo,hi,Builtin.lenOf,Builtin.firstCells]
  .simp[Builtin.append_,run_underlying hT,sizeOf,typeInfo,hi,Builtin.lenOf,Builtin.firstCells,b5,storeCells]
 .have N:∀u∈I,u.oneCell'=true:=by intro u hu;obtain⟨j,J,rfl⟩:=List.getElem_of_mem hu;obtain⟨l,_,h4⟩:=S j I[j] (cG J);obtain⟨a',n',c',e⟩:=h4.shape3;rw[e];rfl
  obtain⟨v',w',R,h2,h3,_,h5⟩:=run_append_own_at (P:=P) w B T ty EO i (aD none 0 0) 1 24 hT hi hz h1 h8 rfl bZ v Z.length vs z ⟨g,0,none⟩ ms.length cap I aA
   (by
    intro j u J;have e0:j<I.length:=by
     rcases Nat.lt_or_ge j I.length with h|h
     .exact h
     .rw[List.getElem?_eq_none h]at J;cases J
    have e:(⟨g,0,none⟩:Addr).add j=⟨g,j,none⟩:=by
     unfold Addr.add;split
     .rename_i h0;rw[h0]
     .simp
    rw[e,Y.cellAt j aA];exact J)
   N (by unfold maxLen;omega) aA hB
  refine⟨v',w',R,⟨vs++I,by rw[bN];exact h2,fun k q hq=>?_⟩,h3,h5⟩;have hl:=z.1;by_cases hk:k<vs.length
  .rw[List.getElem?_append_left hk]at hq;obtain⟨l',D,h4⟩:=M k q hq;exact⟨l',by rw[List.getElem?_append_left aA];exact D,h4.grow h3 (GY h4.1 z K)⟩
  .rw[List.getElem?_append_right aA]at hq;obtain⟨l',D,h4⟩:=S _ q hq;exact⟨l',by rw[List.getElem?_append_right aA,show k-Z.length=k-vs.length from aA];exact D,(h4.grow h3 (GY h4.1 z K)).mono b0⟩
theorem adB{P:Program}{w:World}{EI EO:TypeId}{o:Oper}{a:Act}{K:Act->World->Prop}{Q:Exit->Act->World->Prop}(s x:Operand)(t:TypeId)
  (ho:o.op=.call { callee:=.builtin .append,args:=#[s,x],argTypes:=#[t,t] })
  (Y:P.underlying t=some (.slice EO)) (S:SliceElem P EO) (Z:EI≠EO) (B:Nat) (v:Value) (N:List aI) (hs:a.eval s=v) (D:eR EI EO B w v N)
  (B':Nat) (M:Value) (O:List aI) (hx:a.eval x=M) (J:eR EI EO B' w M O) (R:B<=B') (z:N.length+O.length<=5497558138879) (hB:B<=w.heap.size)
  (h:∀F w',eR EI EO B w' F (N++O)->w.grownBy w' v.ownBlock->yI w v F->K (a.put o.dst F) w'):o.wp P a w K Q:=by
 obtain⟨F,w',I,h2,h3,h4⟩:=aaW (P:=P) t o.type Y S Z B v N D B' M O J R z hB;exact akY
theorem R8{P:Program}{w:World}{EI EO:TypeId}{ops:Array Oper}{rest:List Oper}{o:Oper}{a:Act}{Q:Exit->Act->World->Prop}(M:o.guard=none)(s x:Operand)(t:TypeId)
  (ho:o.op=.call { callee:=.builtin .append,args:=#[s,x],argTypes:=#[t,t] })
  (Z:P.underlying t=some (.slice EO)) (S:SliceElem P EO) (N:EI≠EO) (B:Nat) (v:Value) (I:List aI) (hs:a.eval s=v) (D:eR EI EO B w v I)
  (B':Nat) (R:Value) (J:List aI) (hx:a.eval x=R) (O:eR EI EO B' w R J) (K:B<=B') (z:I.length+J.length<=5497558138879) (hB:B<=w.heap.size)
  (h:∀F w',eR EI EO B w' F (I++J)->w.grownBy w' v.ownBlock->yI w v F->wpList P ops Q rest (a.put o.dst F) w'):wpList P ops Q (o::rest) a w:=
 wpList_plain M fun _ Y=>adB s x t ho Z S N B v I hs D B' R J hx O K z hB fun F w' h2 h3 h4=>Y _ _ (h F w' h2 h3 h4)
end Go.G5
namespace Go.Proofs.YtkdbkjjacgigiaaGreatDoor
open Go.RowKit Go.G5 Go.Proofs.Tryz
structure Dist (N:Nat) (o:List Int):Prop where
 bd:∀x∈o,0<=x/\x<(N:Int)
 nd:o.Nodup
