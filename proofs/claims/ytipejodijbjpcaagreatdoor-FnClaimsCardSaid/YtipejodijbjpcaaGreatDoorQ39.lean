/- Lemmas for CardClaims, part 39 of 52. No condition. -/
import Derived.Test.YtipejodijbjpcaaGreatDoorQ02
import Derived.Test.YtipejodijbjpcaaGreatDoorQ03
import Derived.Test.YtipejodijbjpcaaGreatDoorQ10
import Derived.Test.YtipejodijbjpcaaGreatDoorQ13
import Derived.Test.YtipejodijbjpcaaGreatDoorQ18
import Derived.Test.YtipejodijbjpcaaGreatDoorQ19
import Derived.Test.YtipejodijbjpcaaGreatDoorQ20
import Derived.Test.YtipejodijbjpcaaGreatDoorQ21
import Derived.Test.YtipejodijbjpcaaGreatDoorQ27
import Derived.Test.YtipejodijbjpcaaGreatDoorQ28
import Derived.Test.YtipejodijbjpcaaGreatDoorQ29
import Derived.Test.YtipejodijbjpcaaGreatDoorQ38
import Derived.Deep.RegionHeld3
set_option maxRecDepth 100000
set_option maxHeartbeats 64000000
namespace Go.Proofs.YtipejodijbjpcaaGreatDoor
section
open Go.RowKit Go.G5
def A7(N:Nat)(l:List Int):Prop:=∀s i k:Nat,s<2^N->i<k->k<N->aW s i=false->aW s k=false->iL l s i k<=0
theorem DI(N:Nat)(l:List Int)(h:A7 N l)(A B e:Nat)(D:B<2^N)(F:e<N)(o:∀j,A.testBit j=true->B.testBit j=true)(z:B.testBit e=false):dN l B e<=dN l A e:=by
 have h1:=DS N (dV l) (fun s i k a b c d f=>by rw[wV];have:=h s i k a b c d f;omega) A B e D F o z;unfold dN at h1 ⊢;simp only[nI]at h1;omega
theorem yJ(N:Nat)(l:List Int)(h:A7 N l)(A B:Nat)(K:A<2^N)(M:B<2^N):l.getD (A ||| B) 0+l.getD (A &&& B) 0<=l.getD A 0+l.getD B 0:=by
 have key:∀j,j<=N->l.getD (B ||| A%2^j) 0-l.getD B 0<=l.getD ((A &&& B) ||| A%2^j) 0-l.getD (A &&& B) 0:=by
  intro j
  induction j with
  |zero=>intro _;simp[Nat.mod_one]
  |succ j ih=>
   intro R;have ih:=ih (by omega)
   by_cases hb:A.testBit j=true/\B.testBit j=false
   ·have D:∀C:Nat,C ||| A%2^(j+1)=aP (C ||| A%2^j) j:=by
     intro C
     apply Nat.eq_of_testBit_eq
     intro i;rw[jU,Nat.testBit_or,Nat.testBit_or,Nat.testBit_mod_two_pow,Nat.testBit_mod_two_pow]
     by_cases z:j=i
     ·subst z;simp[hb.1]
     ·rw[decide_eq_false z,Bool.or_false]
      congr 2
      exact decide_eq_decide.2 ⟨fun q=>by omega,fun q=>by omega⟩
    have hlt:B ||| A%2^j<2^N:=Nat.or_lt_two_pow M (Nat.lt_of_le_of_lt (Nat.mod_le _ _) K);have h1:=DI N l h ((A &&& B) ||| A%2^j) (B ||| A%2^j) j hlt (by omega) (fun i L=>by
     rw[Nat.testBit_or,Nat.testBit_and]at L;rw[Nat.testBit_or]
     revert L
     cases A.testBit i<;>cases B.testBit i<;>cases(A%2^j).testBit i<;>simp) (by
     rw[Nat.testBit_or,hb.2,Nat.testBit_mod_two_pow];simp)
    rw[D,D];unfold dN at h1;omega
   ·have o:∀C:Nat,(A.testBit j=true->C.testBit j=true)->C ||| A%2^(j+1)=C ||| A%2^j:=by
     intro C O
     apply Nat.eq_of_testBit_eq
     intro i;rw[Nat.testBit_or,Nat.testBit_or,Nat.testBit_mod_two_pow,Nat.testBit_mod_two_pow]
     by_cases z:j=i
     ·subst z
      cases F:A.testBit j with
      |false=>simp
      |true=>simp[O F]
     ·have e:decide (i<j+1)=decide (i<j):=decide_eq_decide.2 ⟨fun q=>by omega,fun q=>by omega⟩
      rw[e]
    have I:A.testBit j=true->B.testBit j=true:=fun F=>by
     cases Q:B.testBit j with
     |true=>rfl
     |false=>exact absurd ⟨F,Q⟩ hb
    rw[o B I,o (A &&& B) (fun F=>by rw[Nat.testBit_and,F,I F];rfl)];exact ih
 have h1:=key N (Nat.le_refl _);rw[Nat.mod_eq_of_lt K]at h1;have e1:B ||| A=A ||| B:=Nat.or_comm _ _;have e2:(A &&& B) ||| A=A:=by
  apply Nat.eq_of_testBit_eq
  intro i;rw[Nat.testBit_or,Nat.testBit_and]
  cases A.testBit i<;>cases B.testBit i<;>rfl
 rw[e1,e2]at h1;omega
theorem JR(x:List Int)(A B:Nat):wt x ((A ||| B:Nat):Int)+wt x ((A &&& B:Nat):Int)=wt x (A:Int)+wt x (B:Int):=by
 unfold wt;have:∀k,cP x ((A ||| B:Nat):Int) k+cP x ((A &&& B:Nat):Int) k=cP x (A:Int) k+cP x (B:Int) k:=by
  intro k
  induction k with
  |zero=>rfl
  |succ k ih=>
   rw[cP,cP,cP,cP];simp only[gH,Nat.testBit_or,Nat.testBit_and]
   cases A.testBit k<;>cases B.testBit k<;>simp<;>omega
 exact this _
def mR(l x:List Int)(s:Nat):Prop:=aS l x (s:Int)=0
theorem jJ(l x:List Int)(s:Nat):aS l x (s:Int)=l.getD s 0-wt x (s:Int):=by unfold aS;rw[Int.toNat_natCast]
theorem SN(N:Nat)(l x:List Int)(h:A7 N l)(hb:∀s:Nat,s<2^N->0<=aS l x (s:Int))(A B:Nat)(o:A<2^N)(z:B<2^N)(D:mR l x A)(F:mR l x B):mR l x (A ||| B)/\mR l x (A &&& B):=by
 have h1:=yJ N l h A B o z;have h2:=JR x A B;have h3:=hb (A ||| B) (Nat.or_lt_two_pow o z);have h4:=hb (A &&& B) (Nat.lt_of_le_of_lt Nat.and_le_left o);unfold mR at D F ⊢;rw[jJ]at *;rw[jJ]at *;omega
theorem WK(l x:List Int)(e:Nat):∀m s:Nat,s<m->s.testBit e=true->dX l x e m<=aS l x (s:Int):=by
 intro m
 induction m with
 |zero=>intro s h;omega
 |succ m ih=>
  intro s z hb;rw[dX]
  by_cases o:s=m
  ·subst o
   rw[if_pos ((gH _ _).2 hb)];omega
  ·have:=ih s (by omega) hb
   split<;>omega
theorem WA(l x:List Int)(e:Nat):∀m,dX l x e m=100000∨∃s,s<m/\s.testBit e=true/\dX l x e m=aS l x (s:Int):=by
 intro m
 induction m with
 |zero=>exact .inl rfl
 |succ m ih=>
  rw[dX]
  by_cases o:bR (m:Int) e=1
  ·rw[if_pos o]
   by_cases D:dX l x e m<=aS l x (m:Int)
   ·rw[show min (dX l x e m) (aS l x (m:Int))=dX l x e m by omega]
    rcases ih with h|⟨s,A,hb,z⟩
    ·exact .inl h
    ·exact .inr ⟨s,by omega,hb,z⟩
   ·exact .inr ⟨m,by omega,(gH _ _).1 o,by omega⟩
  ·rw[if_neg o]
   rcases ih with h|⟨s,A,hb,z⟩
   ·exact .inl h
   ·exact .inr ⟨s,by omega,hb,z⟩
structure Raised (N:Nat) (l x:List Int) (k:Nat):Prop where
 len:x.length=N
 bd:∀y∈x,-2000<=y/\y<=0
 bel:∀s:Nat,s<2^N->0<=aS l x (s:Int)
 full:∀j,j<k->x.getD j 0=0∨∃s,s<2^N/\s.testBit j=true/\mR l x s
theorem WU(x:List Int)(s e:Nat)(y:Int)(o:e<x.length):wt (x.set e y) (s:Int)=wt x (s:Int)+(if s.testBit e=true then y-x.getD e 0 else 0):=by
 unfold wt;rw[List.length_set,FR x (s:Int) e y o _ (Nat.le_refl _)]
 congr 1
 by_cases h:s.testBit e=true
 ·rw[if_pos h,if_pos ⟨o,(gH _ _).2 h⟩]
 ·rw[if_neg h,if_neg (fun q=>h ((gH _ _).1 q.2))]
theorem IM{N:Nat}{l x:List Int}(o:bP (N:Int) l=true)(z:l.length=2^N){k:Nat}(h:Raised N l x k):dZ (N:Int) l x=true:=by
 unfold dZ cR dB;rw[o,h.len,decide_eq_true rfl,Bool.true_and,Bool.true_and];have h1:(x.all fun y=>cM y (-5000) 5000)=true:=by
  rw[List.all_eq_true];intro y A;have:=h.bd y A;exact bL.2 ⟨by omega,by omega⟩
 rw[h1,Bool.true_and];have h2:∀m,m<=2^N->gE l x m=true:=by
  intro m
  induction m with
  |zero=>intro _;rfl
  |succ m ih=>
   intro D;rw[gE,ih (by omega),decide_eq_true (h.bel m (by omega))];rfl
 rw[z];exact h2 _ (Nat.le_refl _)
theorem NX(N:Nat)(l x:List Int)(hg:bP (N:Int) l=true)(hl:l.length=2^N)(_:∀k,(hk:k<l.length)->-1000<=l[k]/\l[k]<=1000)(k:Nat)(hk:k<N)(h:Raised N l x k):
  Raised N l (if x.getD k 0<0 then x.set k (min (x.getD k 0+iA (N:Int) l x k) 0) else x) (k+1):=by
 have R:=IM hg hl h;have S:iA (N:Int) l x k=dX l x k (2^N):=by
  unfold iA lE;rw[R,decide_eq_true (by omega),Bool.true_and,if_pos rfl,hl]
 have I:k<x.length:=by rw[h.len];exact hk
 have b1:=h.bd _ (List.getElem_mem I);have M:=aJ x k I
 by_cases D:x.getD k 0<0
 ·rw[if_pos D,S]
  have A:=WK l x k (2^N);have o:=WA l x k (2^N);have Y:0<=dX l x k (2^N):=by
   rcases o with e|⟨s,K,_,e⟩
   ·rw[e];omega
   ·rw[e];exact h.bel s K
  obtain⟨c,hc⟩:∃c,c=dX l x k (2^N):=⟨_,rfl⟩;rw[<-hc]at A o Y ⊢;obtain⟨y,hy⟩:∃y,y=min (x.getD k 0+c) 0:=⟨_,rfl⟩;rw[<-hy];have U:x.getD k 0<=y/\y<=0/\y-x.getD k 0<=c:=by omega
  have O:∀s:Nat,aS l (x.set k y) (s:Int)=aS l x (s:Int)-(if s.testBit k=true then y-x.getD k 0 else 0):=by
   intro s;rw[jJ,jJ,WU x s k y I];omega
  refine⟨by rw[List.length_set];exact h.len,fun z Q=>?_,fun s K=>?_,fun j hj=>?_⟩
  ·rcases List.mem_or_eq_of_mem_set Q with Q|Q
   ·exact h.bd z Q
   ·subst Q;rw[M]at U;omega
  ·have:=h.bel s K
   rw[O]
   by_cases hb:s.testBit k=true
   ·rw[if_pos hb]
    have:=A s K hb;omega
   ·rw[if_neg hb];omega
  ·by_cases F:j=k
   ·subst F
    by_cases a1:y=0
    ·left
     rw[aJ _ j (by rw[List.length_set];exact I),List.getElem_set_self];exact a1
    ·right
     have Z:y=x.getD j 0+c:=by omega
     rcases o with e|⟨s,K,hb,e⟩
     ·rw[M]at Z U;omega
     ·refine⟨s,K,hb,?_⟩
      unfold mR;rw[O,if_pos hb];omega
   ·rcases h.full j (by omega) with Q|⟨s,K,hb,ht⟩
    ·left
     rw[List.getD_eq_getElem?_getD,List.getElem?_set_ne (fun q=>F q.symm),<-List.getD_eq_getElem?_getD];exact Q
    ·right
     refine⟨s,K,hb,?_⟩;unfold mR at ht ⊢;rw[O]
     by_cases L:s.testBit k=true
     ·have:=A s K L
      rw[if_pos L];omega
     ·rw[if_neg L];omega
 ·rw[if_neg D]
  refine⟨h.len,h.bd,h.bel,fun j hj=>?_⟩
  by_cases F:j=k
  ·subst F
   left;rw[M]at D ⊢;omega
  ·exact h.full j (by omega)
theorem IY(N j:Nat)(v:Int)(h:j<N):(List.replicate N v).getD j 0=v:=by rw[aJ _ j (by simpa using h)];simp
theorem XD(N:Nat)(s:Nat):∀k,k<=N->cP (List.replicate N (-2000)) (s:Int) k<=0/\((∃j,j<k/\s.testBit j=true)->cP (List.replicate N (-2000)) (s:Int) k<=-2000):=by
 intro k
 induction k with
 |zero=>intro _;exact⟨by simp[cP],fun⟨j,A,_⟩=>by omega⟩
 |succ k ih=>
  intro D;obtain⟨h1,h2⟩:=ih (by omega);rw[cP,IY N k _ (by omega)]
  by_cases hb:bR (s:Int) k=1
  ·rw[if_pos hb]
   exact⟨by omega,fun _=>by omega⟩
  ·rw[if_neg hb]
   refine⟨h1,fun⟨j,A,o⟩=>h2 ⟨j,?_,o⟩⟩
   by_cases z:j=k
   ·subst z;exact absurd ((gH _ _).2 o) hb
   ·omega
theorem ST(N:Nat)(l:List Int)(F:l.getD 0 0=0)(Q:l.length=2^N)(z:∀k,(O:k<l.length)->-1000<=l[k]/\l[k]<=1000):Raised N l (List.replicate N (-2000)) 0:=by
 refine⟨by simp,fun y M=>?_,fun s K=>?_,fun j o=>by omega⟩
 ·have:=List.eq_of_mem_replicate M;omega
 ·rw[jJ]
  have L:=XD N s N (Nat.le_refl _);have e:wt (List.replicate N (-2000)) (s:Int)=cP (List.replicate N (-2000)) (s:Int) N:=by unfold wt;rw[List.length_replicate]
  rw[e];have I:=z s (by omega);rw[aJ l s (by omega)]
  by_cases D:s=0
  ·subst D
   rw[aJ l 0 (by omega)]at F;omega
  ·have:∃j,j<N/\s.testBit j=true:=by
    obtain⟨j,o⟩:=Nat.exists_testBit_of_ne_zero D;refine⟨j,?_,o⟩;refine Nat.lt_of_not_le fun A=>?_;rw[Nat.testBit_lt_two_pow (Nat.lt_of_lt_of_le K (Nat.pow_le_pow_right (by decide) A))]at o
    cases o
   have:=L.2 this;omega
theorem MG(n:Int)(l:List Int)(h:oD n l=true):∃N:Nat,n=N/\N<=5/\l.length=2^N/\bP (N:Int) l=true/\A7 N l/\pM n l=true/\Raised N l (kW n l) N:=by
 have hd:=h;unfold oD at h;rw[Bool.and_eq_true]at h;obtain⟨A,R⟩:=h;obtain⟨N,rfl,U,M,_,F⟩:=bN (jD A);have S:=tO A;have L:A7 N l:=(oP N l (jD A)).1 R;have o:mT (N:Int)=List.replicate N (-2000):=by unfold mT;simp
 have z:nW (N:Int)=List.replicate N 0:=by unfold nW;simp
 have I:=ST N l S M F;have D:=IM A M I;have K:eV (N:Int) l (mT (N:Int)) (nW (N:Int))=true:=by
  unfold eV cR dB;rw[o,z,R,D];have h1:((List.replicate N (0:Int)).all fun y=>cM y (-5000) 5000)=true:=by
   rw[List.all_eq_true];intro y Y;have:=List.eq_of_mem_replicate Y;exact bL.2 ⟨by omega,by omega⟩
  rw[h1];simp
 have O:∀k,k<=N->Raised N l (dA (N:Int) l (List.replicate N (-2000)) (List.replicate N 0) k) k:=by
  intro k
  induction k with
  |zero=>intro _;exact I
  |succ k ih=>
   intro Q;have:=NX N l _ A M F k Q (ih (by omega));rw[dA,IY N k 0 Q];exact this
 refine⟨N,rfl,U,M,A,L,?_,?_⟩
 ·unfold pM;rw[hd,K];rfl
 ·have e:kW (N:Int) l=dA (N:Int) l (List.replicate N (-2000)) (List.replicate N 0) N:=by
   unfold kW kX;rw[if_pos hd,if_pos K,o,z,List.length_replicate]
  rw[e];exact O N (Nat.le_refl _)
theorem T8(x:List Int)(T F:Nat)(I:∀j,j<x.length->F.testBit j=true->T.testBit j=false->x.getD j 0=0)(A:∀j,T.testBit j=true->F.testBit j=true):wt x (F:Int)=wt x (T:Int):=by
 unfold wt;have:∀k,k<=x.length->cP x (F:Int) k=cP x (T:Int) k:=by
  intro k
  induction k with
  |zero=>intro _;rfl
  |succ k ih=>
   intro K;rw[cP,cP,ih (by omega)];simp only[gH]
   cases o:F.testBit k with
   |false=>
    cases z:T.testBit k with
    |false=>rfl
    |true=>rw[A k z]at o;cases o
   |true=>
    cases z:T.testBit k with
    |true=>rfl
    |false=>
     have D:=I k (by omega) o z;rw[List.getD_eq_getElem?_getD]at D;simp[D]
 exact this _ (Nat.le_refl _)
theorem VC(x:List Int)(D:∀y∈x,y<=0)(T F:Nat)(o:∀j,T.testBit j=true->F.testBit j=true):wt x (F:Int)<=wt x (T:Int):=by
 unfold wt;have:∀k,k<=x.length->cP x (F:Int) k<=cP x (T:Int) k:=by
  intro k
  induction k with
  |zero=>intro _;exact Int.le_refl _
  |succ k ih=>
   intro I;have ih:=ih (by omega);have K:=D _ (List.getElem_mem (show k<x.length by omega));rw[cP,cP,aJ x k (by omega)];simp only[gH]
   cases z:F.testBit k with
   |false=>
    cases A:T.testBit k with
    |false=>simpa using ih
    |true=>rw[o k A]at z;cases z
   |true=>
    cases A:T.testBit k with
    |true=>simp;omega
    |false=>simp;omega
 exact this _ (Nat.le_refl _)
theorem JA(l:List Int):∀m k:Nat,k<m->jA l m<=l.getD k 0:=by
 intro m
 induction m with
 |zero=>intro k h;omega
 |succ m ih=>
  intro k o;rw[jA]
  by_cases h:k=m
  ·subst h;omega
  ·have:=ih k (by omega);omega
theorem QQ{N:Nat}{l x:List Int}(I:A7 N l)(R:l.getD 0 0=0)(hl:l.length=2^N)(h:Raised N l x N):wt x ((2^N-1:Nat):Int)=cO l:=by
 have S:=Nat.two_pow_pos N;have t0:mR l x 0:=by
  unfold mR;rw[jJ,R];have:wt x ((0:Nat):Int)=0:=by
   have h1:=JR x 0 0;simp at h1;have h2:∀k,cP x 0 k=0:=by
    intro k
    induction k with
    |zero=>rfl
    |succ k ih=>rw[cP,ih];simp[bR]
   exact h2 _
  rw[this];omega
 have o:∀k,k<=N->∃T,T<2^N/\mR l x T/\∀j,j<k->x.getD j 0=0∨T.testBit j=true:=by
  intro k
  induction k with
  |zero=>intro _;exact⟨0,S,t0,fun j D=>by omega⟩
  |succ k ih=>
   intro hk;obtain⟨T,o,K,D⟩:=ih (by omega)
   rcases h.full k (by omega) with Y|⟨s,L,hb,Z⟩
   ·refine⟨T,o,K,fun j M=>?_⟩
    by_cases e:j=k
    ·subst e;exact .inl Y
    ·exact D j (by omega)
   ·refine⟨T ||| s,Nat.or_lt_two_pow o L,(SN N l x I h.bel T s o L K Z).1,fun j M=>?_⟩
    by_cases e:j=k
    ·subst e;right;rw[Nat.testBit_or,hb];simp
    ·rcases D j (by omega) with q|q
     ·exact .inl q
     ·right;rw[Nat.testBit_or,q];rfl
 obtain⟨T,o,K,D⟩:=o N (Nat.le_refl _);have z:∀s:Nat,s<2^N->∀j,s.testBit j=true->(2^N-1).testBit j=true:=fun s L j F=>by
  rw[Nat.testBit_two_pow_sub_one];refine decide_eq_true (Nat.lt_of_not_le fun Q=>?_);rw[Nat.testBit_lt_two_pow (Nat.lt_of_lt_of_le L (Nat.pow_le_pow_right (by decide) Q))]at F
  cases F
 have h1:wt x ((2^N-1:Nat):Int)=wt x (T:Int):=T8 x T (2^N-1) (fun j O _ A=>by
  rcases D j (by rw[<-h.len];exact O) with q|q
  ·exact q
  ·rw[q]at A;cases A) (z T o)
 have h2:wt x (T:Int)=l.getD T 0:=by
  unfold mR at K;rw[jJ]at K;omega
 obtain⟨i,hi,he⟩:=FQ l (by omega) l.length (Nat.le_refl _);have h3:=VC x (fun y U=>(h.bd y U).2) i (2^N-1) (z i (by omega));have h4:=h.bel i (by omega);rw[jJ]at h4;have h5:=JA l l.length T (by omega);unfold cO at *;omega
end
section
open Go.RowKit Go.G5
end
section
open Go.RowKit Go.G5
theorem DE{n:Int}{l:List Int}(h:dW n l=true):fT n l=true:=by
 unfold dW at h;simp only[Bool.and_eq_true]at h;exact h.1
theorem SZ{n:Int}{l:List Int}(h:dW n l=true):aN n l=true:=qZ (DE h)
end
section
open Go.RowKit Go.G5
end
section
open Go.RowKit Go.G5
def OK(l:List Int)(s:Int):Bool:=jX (l++[s])
theorem GD:∀(sets l:List Int) (k:Int) (x:List Int),cU OK sets l k=some x->jX l=true->jX x=true/\x.Sublist (l++sets):=by
 intro sets
 induction sets with
 |nil=>
  intro l k x h z
  by_cases o:(l.length:Int)=k
  ·rw[gT _ _ _ _ o]at h;cases h;exact⟨z,by simp⟩
  ·rw[nD _ _ _ o]at h;cases h
 |cons s rest ih=>
  intro l k x h z
  by_cases o:(l.length:Int)=k
  ·rw[gT _ _ _ _ o]at h;cases h;exact⟨z,List.sublist_append_left _ _⟩
  ·rw[lZ _ _ _ _ _ o]at h
   have skip:∀y,cU OK rest l k=some y->jX y=true/\y.Sublist (l++s::rest):=fun y D=>by
    obtain⟨h1,h2⟩:=ih l k y D z;exact⟨h1,h2.trans ((List.Sublist.refl l).append (List.sublist_cons_self s rest))⟩
   by_cases ht:OK l s=true
   ·rw[if_pos ht]at h
    cases A:cU OK rest (l++[s]) k with
    |some y=>
     rw[A]at h
     cases h
     obtain⟨h1,h2⟩:=ih (l++[s]) k x A ht;exact⟨h1,by simpa using h2⟩
    |none=>
     rw[A]at h;exact skip x h
   ·rw[if_neg ht]at h
    exact skip x h
theorem PB{g:Int}{l:List Int}{k:Int}(h:eS g l k=true):dP (eP g l k)=true/\((eP g l k).length:Int)=k/\bW g l=true/\1<=k/\k<=5:=by
 have z:gM g l k=true:=by
  cases S:gM g l k with
  |true=>rfl
  |false=>
   unfold eS jF at h;rw[S]at h
   cases h
 have A:=vY g l k z;obtain⟨x,N⟩:∃x,jF g l k=some x:=by
  unfold eS at h;exact Option.isSome_iff_exists.1 h
 have O:eP g l k=x:=by unfold eP;rw[N];rfl
 rw[N]at A;obtain⟨h1,h2⟩:=GD l [] k x A.symm (by decide);have h3:=DJ _ _ _ _ _ A.symm;unfold gM at z;obtain⟨M,I⟩:=Bool.and_eq_true_iff.1 z;have I:=bL.1 I;obtain⟨Y,Z,hb,F⟩:=jZ M;rw[List.nil_append]at h2;have R:(2:Int)^g.toNat<=64:=by have:=(bJ g.toNat 6 (by omega)).1;simpa using this
 have D:x.Pairwise (· < ·):=F.sublist h2;have L:∀y∈x,0<=y/\y<64:=fun y U=>by have:=hb y (h2.subset U);omega
 rw[O];refine⟨?_,h3,M,I.1,I.2⟩;unfold dP;rw[h1,Bool.and_true];unfold nT;rw[Bool.and_eq_true];refine⟨decide_eq_true (by omega),fI.2 fun i o=>?_⟩;unfold xM;rw[Bool.and_eq_true];refine⟨?_,fI.2 fun j Q=>?_⟩
 ·rw[aJ x i o]
  exact(tJ _).2 (L _ (List.getElem_mem o))
 ·unfold DD
  rw[aJ x i o,aJ x j (by omega)];have:=(List.pairwise_iff_getElem.1 D) j i (by omega) o Q;have K:¬x[j]'(by omega)=x[i]:=by omega
  simp[K]
end
section
open Go.RowKit Go.G5
theorem MO(l:List Int):dV (dV l)=l:=by
 refine List.ext_getElem (by rw[iP,iP]) fun i h1 h2=>?_;have h3:i<(dV l).length:=by rw[iP];exact h2
 rw[wL (dV l) i h3,wL l i h2];omega
theorem NH(l o:List Int):∀k,bQ (dV l) o k=lF (bQ l o k):=by
 intro k
 induction k with
 |zero=>
  rw[bQ,bQ];unfold lF;rw[List.map_replicate];rfl
 |succ k ih=>
  rw[bQ,bQ,ih];unfold lF;rw[List.map_set]
  congr 1
  unfold dN;rw[nI,nI];omega
theorem NG(x:List Int):lF (lF x)=x:=by
 unfold lF;rw[List.map_map];refine(List.map_congr_left fun y _=>?_).trans (List.map_id _);show - -y=id y;simp
theorem LC(n:Int)(l o:List Int)(D:bP n l=true)(I:cY n l=true)(F:(o.length:Int)=n)(hd:Dist o.length o):hH n l (dS l o)=true:=by
 have z:=PU n l D;have A:kD n (dV l)=true:=by unfold kD;rw[jD z,MO,I];rfl
 have h1:=MF n (dV l) o z A F hd;have h2:=P7 n (dV l) (dS (dV l) o) z;rw[h1,MO]at h2;have e:lF (dS (dV l) o)=dS l o:=by
  unfold dS;rw[NH,NG]
 rw[e]at h2;exact h2
theorem JD{N:Nat}{o:List Int}(h:Perm N o)(l:List Int)(j:Nat)(K:j<=N):wt (bQ l o N) (bU o j:Int)=l.getD (bU o j) 0-l.getD 0 0:=by
 have sub:∀a b,a<=b->b<=N->∀e,(bU o a).testBit e=true->(bU o b).testBit e=true:=by
  intro a b M hb e A;have R:=h.len;rw[yH o h.nn e a (by omega)]at A;rw[yH o h.nn e b (by omega)];refine decide_eq_true ?_;have L:=of_decide_eq_true A;have e2:o.take a=(o.take b).take a:=by rw[List.take_take];congr 1;omega
  rw[e2]at L;exact List.mem_of_mem_take L
 have h1:∀k,k<=j->wt (bQ l o k) (bU o j:Int)=l.getD (bU o k) 0-l.getD 0 0:=by
  intro k
  induction k with
  |zero=>intro _;rw[rB];simp[bU]
  |succ k ih=>
   intro D;have ih:=ih (by omega);obtain⟨e,A,F,z,I⟩:=mN h l (bU o j) k (by omega);have hb:(bU o j).testBit e=true:=sub (k+1) j D K e (by rw[z,jU];simp);rw[I,ih,if_pos hb,z];unfold dN;omega
 have h2:∀k,j<=k->k<=N->wt (bQ l o k) (bU o j:Int)=l.getD (bU o j) 0-l.getD 0 0:=by
  intro k
  induction k with
  |zero=>intro D _;exact h1 0 (by omega) |>.trans (by rw[show j=0 by omega])
  |succ k ih=>
   intro D O
   by_cases e:j=k+1
   ·rw[<-e];exact h1 j (Nat.le_refl _)
   ·have ih:=ih (by omega) (by omega)
    obtain⟨e,A,F,z,I⟩:=mN h l (bU o j) k (by omega);have hb:(bU o j).testBit e=false:=by
     cases Q:(bU o j).testBit e with
     |false=>rfl
     |true=>rw[sub j k (by omega) (by omega) e Q]at F;cases F
    rw[I,ih,hb];simp
 exact h2 N K (Nat.le_refl _)
end
section
open Go.RowKit Go.G5
end
section
open Go.RowKit Go.G5
theorem VD(n:Nat)(O:n<=6)(s:Int)(w:World)(L:0<=s)(h1:s<2^n):
  Calls Tryz.prog 60 #[.int .i64 n,.int .i64 s] w fun e w'=>∃I i K,e=.returned (.slice I i K)/\aC 3 w.heap.size w' (.slice I i K) (fA s)/\Below w.heap.size w w':=by
 have R:=bJ n 6 O;have o:cM (n:Int) 0 10=true:=bL.2 ⟨by omega,by omega⟩;have z:cM s 0 (2^n-1)=true:=bL.2 ⟨L,by omega⟩;have D:=Lib.hid (fun W=>aR (n:Int) 0 10 W);have F:=Lib.hid (fun W=>aR s 0 (2^n-1) W);have M:=Lib.hid (fun W=>cT n W (by omega));have A:s<64:=by omega
 go_enter Tryz.func60,Tryz.ntmps60;go_wp2_with fail;refine(D.out _).mono ?_;rintro e S ⟨rfl,rfl⟩;rw[o];go_wp2_with fail;refine(M.out _).mono ?_;rintro e w2 ⟨rfl,rfl⟩;go_wp2_with fail;refine(F.out _).mono ?_;rintro e w2 ⟨rfl,rfl⟩;rw[z];go_wp2_with fail;refine(tU s _ L A).mono ?_;rintro e U ⟨p,i,q,rfl,Q,N⟩;go_wp2;go_ret;exact⟨p,i,q,rfl,Q,N⟩
end
end Go.Proofs.YtipejodijbjpcaaGreatDoor
