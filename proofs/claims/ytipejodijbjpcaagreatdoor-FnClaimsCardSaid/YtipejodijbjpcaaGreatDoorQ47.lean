/- Lemmas for CardClaims, part 47 of 52. No condition. -/
import Derived.Test.YtipejodijbjpcaaGreatDoorQ19
import Derived.Test.YtipejodijbjpcaaGreatDoorQ20
import Derived.Test.YtipejodijbjpcaaGreatDoorQ22
import Derived.Test.YtipejodijbjpcaaGreatDoorQ24
import Derived.Test.YtipejodijbjpcaaGreatDoorQ25
import Derived.Test.YtipejodijbjpcaaGreatDoorQ26
import Derived.Test.YtipejodijbjpcaaGreatDoorQ29
import Derived.Test.YtipejodijbjpcaaGreatDoorQ30
import Derived.Test.YtipejodijbjpcaaGreatDoorQ33
import Derived.Test.YtipejodijbjpcaaGreatDoorQ38
import Derived.Test.YtipejodijbjpcaaGreatDoorQ39
import Derived.Test.YtipejodijbjpcaaGreatDoorQ44
import Derived.Test.YtipejodijbjpcaaGreatDoorQ45
set_option maxRecDepth 100000
set_option maxHeartbeats 64000000
namespace Go.Proofs.YtipejodijbjpcaaGreatDoor
section
open Go.RowKit Go.G5
theorem DN(N:Nat):((2^N-1:Nat):Int)=(2:Int)^N-1:=by
 have o:=Nat.two_pow_pos N;rw[Int.ofNat_sub o];simp
theorem UE(n:Int)(l:List Int)(h:oD n l=true):pM n l=true/\gR n l (kW n l)=true:=by
 obtain⟨N,rfl,K,D,A,o,z,hr⟩:=MG n l h;refine⟨z,?_⟩;have F:=QQ o (tO A) D hr;unfold gR;rw[IM A D hr,Int.toNat_natCast,<-DN,F];have:((kW (N:Int) l).all fun y=>decide (y<=0))=true:=by
  rw[List.all_eq_true];intro y I;exact decide_eq_true (hr.bd y I).2
 rw[this];simp
theorem XI(l:List Int)(m:Int):∀k x,x∈fW l m k↔∃s:Nat,s<k/\x=(s:Int)/\l.getD s 0=m:=by
 intro k
 induction k with
 |zero=>intro x;simp[fW]
 |succ k ih=>
  intro x;rw[fW]
  by_cases o:l.getD k 0=m
  ·rw[if_pos o,List.mem_append,ih,List.mem_singleton]
   constructor
   ·rintro(⟨s,z,h1,h2⟩|h)
    ·exact⟨s,by omega,h1,h2⟩
    ·exact⟨k,by omega,h,o⟩
   ·rintro⟨s,z,h1,h2⟩
    by_cases e:s=k
    ·subst e;exact .inr h1
    ·exact .inl ⟨s,by omega,h1,h2⟩
  ·rw[if_neg o,ih]
   constructor
   ·rintro⟨s,z,h1,h2⟩;exact⟨s,by omega,h1,h2⟩
   ·rintro⟨s,z,h1,h2⟩
    refine⟨s,?_,h1,h2⟩
    by_cases e:s=k
    ·subst e;exact absurd h2 o
    ·omega
theorem RX{N:Nat}{l:List Int}(o:A7 N l)(F:l.length=2^N)(A B:Nat)(z:A<2^N)(D:B<2^N)(a:l.getD A 0=cO l)(b:l.getD B 0=cO l):l.getD (A ||| B) 0=cO l/\l.getD (A &&& B) 0=cO l:=by
 have h1:=yJ N l o A B z D;have h2:=JA l l.length (A ||| B) (by rw[F];exact Nat.or_lt_two_pow z D);have h3:=JA l l.length (A &&& B) (by rw[F];exact Nat.lt_of_le_of_lt Nat.and_le_left z);unfold cO at *;omega
theorem VK(N:Nat)(l:List Int)(o:aN (N:Int) l=true)(z:l.length=2^N)(x:Int):x∈iR (N:Int) l↔∃s:Nat,s<2^N/\x=(s:Int)/\l.getD s 0=cO l:=by
 unfold iR;rw[if_pos o,XI,z]
theorem VX(n:Int)(l:List Int)(o:aN n l=true):iR n l≠[]:=by
 obtain⟨N,rfl,_,D,_⟩:=bN o;have F:=Nat.two_pow_pos N;obtain⟨i,A,z⟩:=FQ l (by omega) l.length (Nat.le_refl _);unfold iR;rw[if_pos o];exact TZ l _ i z _ A
theorem VP(N:Nat)(l:List Int)(O:aN (N:Int) l=true)(A:A7 N l)(Q:l.length=2^N):∃s:Nat,s<2^N/\iS (2^N-1) (iR (N:Int) l) (iR (N:Int) l).length=(s:Int)/\l.getD s 0=cO l:=by
 have o:=VK N l O Q;have z:=VX (N:Int) l O;obtain⟨q,S⟩:∃q,q=iR (N:Int) l:=⟨_,rfl⟩;rw[<-S]at o z ⊢;have L:∀k,0<k->k<=q.length->∃s:Nat,s<2^N/\iS (2^N-1) q k=(s:Int)/\l.getD s 0=cO l:=by
  intro k
  induction k with
  |zero=>intro h;omega
  |succ k ih=>
   intro _ U;obtain⟨t,ht,M,D⟩:=(o q[k]).1 (List.getElem_mem (show k<q.length by omega));rw[iS,aJ q k (by omega),M]
   by_cases F:k=0
   ·subst F
    refine⟨t,ht,?_,D⟩;rw[iS,<-DN];unfold cQ;rw[Int.toNat_natCast,Int.toNat_natCast,Nat.and_comm,Nat.and_two_pow_sub_one_eq_mod,Nat.mod_eq_of_lt ht]
   ·obtain⟨s,R,I,K⟩:=ih (by omega) (by omega)
    refine⟨s &&& t,Nat.lt_of_le_of_lt Nat.and_le_left R,?_,(RX A Q s t R ht K D).2⟩;rw[I];unfold cQ;rw[Int.toNat_natCast,Int.toNat_natCast]
 refine L q.length ?_ (Nat.le_refl _)
 cases q with
 |nil=>exact absurd rfl z
 |cons x r=>simp
theorem VM(l:List Int):∀(T:List jB) (t:jB),(eC (dH l) T none).1=some t->t∈T:=by
 intro T
 induction T with
 |nil=>intro t h;simp[eC]at h
 |cons u T ih=>
  intro t h;rw[eC]at h
  by_cases hb:jY l u=true
  ·have e:dH l none u=(some u,false):=by unfold dH;rw[if_pos hb]
   rw[e]at h;simp at h;rw[<-h];simp
  ·have e:dH l none u=(none,true):=by unfold dH;rw[if_neg hb];rfl
   rw[e]at h;exact List.mem_cons_of_mem _ (ih t h)
theorem VW(n:Int)(l:List Int)(h:fH n l=true):dU n l (fS n l)=true:=by
 have z:aN n l=true:=by
  cases z:aN n l with
  |true=>rfl
  |false=>unfold fH iI at h;rw[z]at h;cases h
 obtain⟨N,rfl,O,Q,_⟩:=bN z;unfold fH at h;obtain⟨t,ht⟩:=Option.isSome_iff_exists.1 h;have L:qL N l=some t:=by
  unfold iI at ht;rw[if_pos z,Int.toNat_natCast]at ht;exact ht
 have K:=VM l _ t L;have hb:=R9 l _ t L;obtain⟨h1,h2,h3⟩:=IR N (2^N) t K;have o:=DR N (2^N) t K;have M:fS (N:Int) l=[(t.1:Int),(t.2.1:Int),(t.2.2:Int)]:=by unfold fS;rw[ht];rfl
 unfold dU;rw[M,z];show((true&&decide (3=3))&&(sL (N:Int) (t.1:Int) (t.2.1:Int) (t.2.2:Int)&&qB l (t.1:Int) (t.2.1:Int) (t.2.2:Int)))=true;have D:bO ((N:Int)).toNat (t.1:Int)=true:=eN.2 ⟨by omega,by rw[Int.toNat_natCast];exact_mod_cast h1⟩;have F:fX (N:Int) (t.2.1:Int)=true:=by unfold fX;simp;omega
 have I:fX (N:Int) (t.2.2:Int)=true:=by unfold fX;simp;omega
 have A:((t.2.1:Int) != (t.2.2:Int))=true:=by rw[bne_iff_ne];omega
 unfold sL qB;rw[D,F,I,A];simp only[Int.toNat_natCast];rw[o.1,o.2,hb]
 rfl
theorem XO(n:Int)(l:List Int)(n2:Int)(l2:List Int)(n3:Int)(l3:List Int)(o:bP n l=true):fQ (nJ n l) (nH n l) (mE n l) n2 l2 n3 l3 (nF n l) (nE n l) (mF n l)=true:=by
 unfold nJ nH mE nF nE mF;simp only[o,if_true]
 cases M:fH n l with
 |true=>
  simp only[if_true];unfold fQ;rw[if_neg (by decide),if_pos rfl];exact VW n l M
 |false=>
  simp only[Bool.false_eq_true,if_false];unfold fQ;rw[if_pos rfl];have F:cY n l=true:=by unfold cY;rw[jD o,M];rfl
  have A:oD n l=true:=by unfold oD;rw[o,F];rfl
  have hd:=(UE n l A).2;obtain⟨N,rfl,R,O,_⟩:=bN (jD o);obtain⟨s,I,K,L⟩:=VP N l (jD o) ((oP N l (jD o)).1 F) O;have D:kY (N:Int) l=(s:Int):=by unfold kY;rw[if_pos F,Int.toNat_natCast];exact K
  unfold gN;have Q:(wt (kW (N:Int) l) (2^((N:Int)).toNat-1)==cO l)=true:=by
   unfold gR at hd;simp only[Bool.and_eq_true]at hd;exact hd.2.2
  have z:bO ((N:Int)).toNat (s:Int)=true:=eN.2 ⟨by omega,by rw[Int.toNat_natCast];exact_mod_cast I⟩;rw[hd,D,z,Q,Int.toNat_natCast,L];simp
theorem MK:∀N:Nat,N<7->∀c:Nat,c<2^N->fL (N:Int) (fA (c:Int)) 0=(c:Int):=by decide +kernel
theorem XT(g:Int)(l:List Int)(n1:Int)(l1:List Int)(n2:Int)(l2:List Int)(st:Int)(h:jG g l=true):fQ (nV g l) n1 l1 n2 l2 (nN g l) (mP g l) (jN g l) st (mQ g l)=true:=by
 have O:=h;unfold jG at h;rw[Bool.and_eq_true,decide_eq_true_eq]at h;obtain⟨D,K⟩:=h;have o:dO g l=true:=by
  unfold dO;rw[decide_eq_true K,Bool.true_and];unfold bW at D;rw[Bool.and_eq_true]at D;exact D.1
 have F:=(A5 g l).few o;unfold nV nN mP jN mQ;simp only[O,if_true,Bool.true_and];unfold fQ;rw[if_neg (by decide),if_neg (by decide),if_neg (by decide),if_neg (by decide),if_neg (by decide),if_neg (by decide),if_pos rfl];unfold dL;rw[D,Bool.true_and]
 cases hr:eR g l with
 |true=>
  simp only[if_true];exact DX g l hr
 |false=>
  have L:iB g l=true:=by rw[F.1,hr];rfl
  simp only[Bool.false_eq_true,if_false];rw[if_neg (by decide),decide_eq_true K];show(true&&true&&wP l (eQ g l))=true;rw[Bool.and_self,Bool.true_and];unfold iB at L;obtain⟨c,A⟩:=Option.isSome_iff_exists.1 L;have M:eQ g l=fA (c:Int):=by unfold eQ;rw[A]
  unfold kG at A;rw[o,if_pos rfl]at A;have hlt:=vB _ _ _ _ A;have z:=KB _ _ _ _ A;rw[Nat.zero_add]at hlt;have I:=MK l.length (by omega) c hlt;unfold mD at z;have z:=of_decide_eq_true z;have N:0<c:=by
   refine Nat.pos_of_ne_zero fun e=>?_;subst e;rw[dR]at z;unfold cK at z;omega
  rw[M];unfold wP;rw[I,Int.toNat_natCast];have e:cK (c:Int)=(aY c:Int):=by unfold cK;rw[Int.toNat_natCast]
  rw[e,decide_eq_true z,decide_eq_true (by omega)]
  rfl
end
section
open Go.RowKit Go.G5
theorem zP{N:Nat}{l:List Int}(h:dW (N:Int) l=true):RankF N (fun s=>l.getD s 0):=by
 have o:=DE h;have Q:=SZ h;obtain⟨_,K,h5,M,R,a1⟩:=bN Q;have K:=Int.ofNat.inj K;subst K;have F:cY (N:Int) l=true:=by unfold fT at o;simp only[Bool.and_eq_true]at o;exact o.2
 have L:lD (N:Int) l=true:=by unfold fT at o;simp only[Bool.and_eq_true]at o;exact o.1.2
 have S:l.getD 0 0=0:=by
  unfold fT bP at o;simp only[Bool.and_eq_true,decide_eq_true_eq]at o;exact o.1.1.2
 have h1:∀e,e<N->l.getD (2^e) 0<=1:=fun e D=>by
  unfold dW at h;simp only[Bool.and_eq_true,Int.toNat_natCast]at h;have:=fI.1 h.2 e D;unfold pZ at this;simp only[Bool.not_eq_true',decide_eq_false_iff_not]at this;omega
 have z:A7 N l:=(oP N l Q).1 F;refine⟨S,fun s e F D hb=>?_,fun A B U Y=>yJ N l z A B U Y⟩;have O:aP s e=s ||| 2^e:=rfl
 constructor
 ·unfold lD at L
  rw[Bool.and_eq_true,Int.toNat_natCast,M]at L;have:=fI.1 (fI.1 L.2 s F) e D;unfold pL dN at this;simp only[Bool.not_eq_true',decide_eq_false_iff_not]at this;rw[O]at this;show l.getD s 0<=l.getD (s ||| 2^e) 0;omega
 ·have I:=DI N l z 0 s e F D (fun j Z=>by simp at Z) hb
  have g2:=h1 e D;unfold dN at I;rw[O]at I;have e1:aP 0 e=2^e:=by unfold aP;simp
  rw[e1]at I;show l.getD (s ||| 2^e) 0<=l.getD s 0+1;omega
theorem RL:∀N:Nat,N<6->∀U:Nat,U<2^N->∀i:Nat,i<6->(2^N-1-U).testBit i=(decide (i<N)&&!U.testBit i):=by decide +kernel
theorem ML{N:Nat}(A:N<=5)(U:Nat)(o:U<2^N):iF N U (2^N-1-U):=by
 intro i
 by_cases z:i<6
 ·exact RL N (by omega) U o i z
 ·have h:2^N-1-U<2^N:=by have:=Nat.two_pow_pos N;omega
  rw[qS h (by omega),decide_eq_false (by omega),Bool.false_and]
theorem SP{N U V W:Nat}(h:iF N U V)(o:iF N U W):V=W:=Nat.eq_of_testBit_eq (fun i=>by rw[h i,o i])
theorem DW(l k:List Int):∀t,0<t->bH l 0=true->bH k 0=true->(bH l (fJ l k t)&&bH k (fJ l k t))=true/\∀s,s<t->bH l s=true->bH k s=true->aY s<=aY (fJ l k t):=by
 intro t
 induction t with
 |zero=>intro h;omega
 |succ t ih=>
  intro _ A z
  rcases Nat.eq_zero_or_pos t with rfl|ht
  ·rw[I7]
   refine⟨by rw[A,z];rfl,fun s D _ _=>?_⟩;have:s=0:=by omega
   rw[this];exact Nat.le_refl _
  ·obtain⟨h1,h2⟩:=ih ht A z
   rw[vW]
   by_cases o:(decide (aY (fJ l k t)<aY t)&&(bH l t&&bH k t))=true
   ·rw[if_pos o]
    rw[Bool.and_eq_true,decide_eq_true_eq]at o;refine⟨o.2,fun s D a b=>?_⟩
    by_cases e:s=t
    ·rw[e];exact Nat.le_refl _
    ·have:=h2 s (by omega) a b
     omega
   ·rw[if_neg o]
    refine⟨h1,fun s D a b=>?_⟩
    by_cases e:s=t
    ·subst e
     rw[Bool.and_eq_true,decide_eq_true_eq,a,b]at o;simp at o;exact o
    ·exact h2 s (by omega) a b
theorem PT(l k:List Int):∀t,∀s,s<t->gK l k (dQ l k t)<=gK l k s:=by
 intro t
 induction t with
 |zero=>intro s h;omega
 |succ t ih=>
  intro s z;rw[dQ]
  by_cases o:gK l k t<gK l k (dQ l k t)
  ·rw[if_pos o]
   by_cases e:s=t
   ·rw[e];exact Int.le_refl _
   ·have:=ih s (by omega);omega
  ·rw[if_neg o]
   by_cases e:s=t
   ·rw[e];omega
   ·exact ih s (by omega)
theorem IP{N:Nat}{l k:List Int}(h:cZ (N:Int) l (N:Int) k=true):N<=5/\l.length=2^N/\(bH l (fJ l k l.length)&&bH k (fJ l k l.length))=true/\gK l k (dQ l k l.length)=(aY (fJ l k l.length):Int)/\fJ l k l.length<2^N/\dQ l k l.length<2^N /\
  ∀s,s<2^N->bH l s=true->bH k s=true->∀U,U<2^N->(aY s:Int)<=gK l k U:=by
 obtain⟨_,N',I,z,L,_,a1,_⟩:=kH h;have I:=Int.ofNat.inj I;subst I;have hp:=Nat.two_pow_pos N;unfold cZ at h;simp only[Bool.and_eq_true]at h;have D:=zP h.1.1;have F:=zP h.1.2;have z1:bH l 0=true:=by have:=D.zero;unfold bH;rw[dR];exact decide_eq_true this
 have z2:bH k 0=true:=by have:=F.zero;unfold bH;rw[dR];exact decide_eq_true this
 obtain⟨M,b2⟩:=DW l k l.length (by omega) z1 z2;have Q:=PT l k l.length;have O:∀s,s<2^N->bH l s=true->bH k s=true->∀U,U<2^N->(aY s:Int)<=gK l k U:=by
  intro s hs a b U A;have a:=of_decide_eq_true a;have b:=of_decide_eq_true b;have:=sG z D F N (Nat.le_refl _) 0 hp s U (2^N-1-U) hs A (ML z U A) (by rw[Nat.zero_or,dR];simpa using a) (by rw[Nat.zero_or,dR];simpa using b);rw[Nat.zero_or,Nat.zero_or,dR]at this;unfold gK;rw[L];simpa using this
 obtain⟨S,U,V,hS,A,Z,f1,R,Y⟩:=YA z D F;have K:V=2^N-1-U:=SP Z (ML z U A);have a8:gK l k U=(aY S:Int):=by unfold gK;rw[L,<-K];exact Y
 have c1:=b2 S (by omega) (decide_eq_true f1) (decide_eq_true R);have c2:=Q U (by omega);have l1:=qQ l k l.length (by omega);have l2:=wJ l k l.length (by omega);have o:=M;rw[Bool.and_eq_true]at o;have c3:=O _ (by omega) o.1 o.2 (dQ l k l.length) (by omega);exact⟨z,L,M,by omega,by omega,by omega,O⟩
theorem XS(n:Int)(l:List Int)(m:Int)(k:List Int)(n3:Int)(l3:List Int)(h:cZ n l m k=true):fQ (rG n l m k) (qW n l m k) (pN n l m k) (qT n l m k) (pO n l m k) n3 l3 (qV n l m k) (lG n l m k) (pT n l m k)=true:=by
 obtain⟨R,N,O,M,_⟩:=kH h;subst R;subst O;have z:=h;obtain⟨_,Q,D,o,hlt,I,_⟩:=IP h;have F:gO (N:Int) l (N:Int) k=((fJ l k l.length:Nat):Int):=by unfold gO;rw[if_pos z]
 have A:lG (N:Int) l (N:Int) k=((dQ l k l.length:Nat):Int):=by unfold lG;rw[if_pos z]
 have S:=AM M;unfold rG qW pN qT pO qV pT;simp only[if_pos z];unfold fQ;rw[if_neg (by decide),if_neg (by decide),if_neg (by decide),if_pos rfl];unfold fR;rw[F,A,z];have e1:=BR ((fJ l k l.length:Nat):Int) (by omega);have e2:=MK N (by omega) (fJ l k l.length) hlt;have e3:bO ((N:Int)).toNat ((dQ l k l.length:Nat):Int)=true:=eN.2 ⟨by omega,by rw[Int.toNat_natCast];exact_mod_cast I⟩;rw[<-e1,e2,e3,decide_eq_true (by omega)];unfold yR;have K:((2:Int)^((N:Int)).toNat-1-((dQ l k l.length:Nat):Int)).toNat=l.length-1-dQ l k l.length:=by
  rw[Int.toNat_natCast,Q];have q:((2^N:Nat):Int)=(2:Int)^N:=by simp
  rw[<-q];omega
 rw[Int.toNat_natCast,Int.toNat_natCast,K,D,e1];have L:cK ((fJ l k l.length:Nat):Int)=(aY (fJ l k l.length):Int):=by unfold cK;rw[Int.toNat_natCast]
 rw[L];unfold gK at o;rw[o];simp
theorem UO(n:Int)(l:List Int)(m:Int)(k:List Int)(q st:Int)(x:List Int)(h:fR n l m k q st x=true):cZ n l m k=true/\cK (gO n l m k)=q:=by
 unfold fR at h;simp only[Bool.and_eq_true,decide_eq_true_eq,beq_iff_eq]at h;obtain⟨⟨⟨I,hq⟩,o⟩,K,F⟩:=h;refine⟨I,?_⟩;have A:=I;obtain⟨hm,N,hN,h5,_⟩:=kH I;subst hm;subst hN;obtain⟨_,hl,D,Q,hlt,b4,hw⟩:=IP I
 rcases tE N (by omega) x 0 (Nat.two_pow_pos N) with e|⟨s,hs,b3,M⟩
 ·rw[e]at K;omega
 rw[hs]at F;unfold yR at F;simp only[Bool.and_eq_true,beq_iff_eq,Int.toNat_natCast]at F;obtain⟨⟨f1,f2⟩,O⟩:=F;have o:=eN.1 o;rw[Int.toNat_natCast]at o;obtain⟨U,rfl⟩:=Int.eq_ofNat_of_zero_le o.1;have hU:U<2^N:=by exact_mod_cast o.2
 have Z:((2:Int)^N-1-(U:Int)).toNat=l.length-1-U:=by
  rw[hl];have q:((2^N:Nat):Int)=(2:Int)^N:=by simp
  rw[<-q];omega
 rw[Z,Int.toNat_natCast]at O;have O:gK l k U=q:=O;rw[dR,Nat.zero_add]at M;rw[Bool.and_eq_true]at D;have a1:=hw _ hlt D.1 D.2 U hU;have z:0<l.length:=by have:=Nat.two_pow_pos N;omega
 have R:bH l 0=true/\bH k 0=true:=by
  unfold cZ at A;simp only[Bool.and_eq_true]at A;have S:=zP A.1.1;have Y:=zP A.1.2;exact⟨by have:=S.zero;unfold bH;rw[dR];exact decide_eq_true this,by have:=Y.zero;unfold bH;rw[dR];exact decide_eq_true this⟩
 have a2:=(DW l k l.length z R.1 R.2).2 s (by omega) f1 f2;have L:gO (N:Int) l (N:Int) k=((fJ l k l.length:Nat):Int):=by unfold gO;rw[if_pos A]
 rw[L];unfold cK;rw[Int.toNat_natCast];omega
theorem XL(n:Int)(l:List Int)(n2:Int)(l2:List Int)(n3:Int)(l3 x:List Int)(h:eF n l=true):fQ (rS n l) (rQ n l) (pV n l) n2 l2 n3 l3 (gL n l) (gZ n l) x=true:=by
 obtain⟨h4,z,o,_⟩:=zL h;have hb:=vD l (l.length-1) (by omega);unfold rS rQ pV;simp only[if_pos h];unfold fQ;rw[if_neg (by decide),if_neg (by decide),if_neg (by decide),if_neg (by decide),if_pos rfl];unfold gX gL gZ;simp only[if_pos h];rw[h,Int.toNat_natCast,decide_eq_true (by omega),decide_eq_true (by rw[<-o];omega)];simp
theorem R7{g:Int}{l:List Int}{k:Int}(h:eS g l k=true):(eP g l k).Sublist l:=by
 have z:gM g l k=true:=by
  cases F:gM g l k with
  |true=>rfl
  |false=>
   unfold eS jF at h;rw[F]at h
   cases h
 have o:=vY g l k z;obtain⟨x,A⟩:∃x,jF g l k=some x:=by
  unfold eS at h;exact Option.isSome_iff_exists.1 h
 have D:eP g l k=x:=by unfold eP;rw[A];rfl
 rw[A]at o;have h2:=(GD l [] k x o.symm (by decide)).2;rw[D];simpa using h2
theorem XN(g:Int)(l:List Int)(k:Int)(n1:Int)(l1:List Int)(n2:Int)(l2:List Int)(st:Int)(h:eS g l k=true):fQ (rH g l k) n1 l1 n2 l2 (rP g l k) (pP g l k) (rJ g l k) st (eP g l k)=true:=by
 obtain⟨h1,h2,h3,h4,D⟩:=PB h;have z:=R7 h;unfold rH rP pP rJ;simp only[if_pos h];unfold fQ;rw[if_neg (by decide),if_neg (by decide),if_neg (by decide),if_neg (by decide),if_neg (by decide),if_pos rfl];unfold iC;have o:(eP g l k).all (iY l)=true:=by
  rw[List.all_eq_true];intro x A;exact IJ.2 (z.subset A)
 have e:(k==((eP g l k).length:Int))=true:=by rw[beq_iff_eq];exact h2.symm
 rw[h3,h1,o,e,decide_eq_true (by omega)]
 rfl
end
section
open Go.RowKit Go.G5
theorem N0(x:List Int):∀i,(cC x i).Nodup:=by
 intro i
 induction i with
 |zero=>exact List.nodup_nil
 |succ i ih=>
  rw[cC]
  generalize fF x (cC x i) (x.getD i 0) i=k
  have e:iD (cC x i) (i:Int) k=(cC x i).take k++(i:Int)::(cC x i).drop k:=by unfold iD;simp
  rw[e,(List.perm_middle (l₁:=(cC x i).take k) (a:=(i:Int)) (l₂:=(cC x i).drop k)).nodup_iff,List.take_append_drop,List.nodup_cons];exact⟨fun h=>by have:=kL x i _ h;omega,ih⟩
theorem SY(x:List Int):Perm x.length (cC x x.length):=⟨fD x x.length,⟨kL x x.length,N0 x x.length⟩⟩
theorem TM(o:List Int):∀k,jK o k=((bU o k:Nat):Int):=by
 intro k
 induction k with
 |zero=>rfl
 |succ k ih=>
  rw[jK,bU,ih];unfold jC aP;have e:((2:Int)^(o.getD k 0).toNat).toNat=2^(o.getD k 0).toNat:=by
   have q:((2^(o.getD k 0).toNat:Nat):Int)=(2:Int)^(o.getD k 0).toNat:=by simp
   rw[<-q,Int.toNat_natCast]
  rw[e,Int.toNat_natCast]
theorem PI(x:List Int)(e:Nat):∀k,cP x ((2^e:Nat):Int) k=if e<k then x.getD e 0 else 0:=by
 intro k
 induction k with
 |zero=>rfl
 |succ k ih=>
  rw[cP,ih];simp only[gH,Nat.testBit_two_pow]
  by_cases h:e=k
  ·subst h;simp
  ·rw[decide_eq_false h]
   by_cases h2:e<k
   ·rw[if_pos h2,if_pos (show e<k+1 by omega)];simp
   ·rw[if_neg h2,if_neg (show ¬e<k+1 by omega)];simp
theorem qR(F:Nat->Int)(m s:Nat)(h:s<m):(bM F m).getD s 0=F s:=by
 unfold bM;rw[List.getD_eq_getElem?_getD,List.getElem?_map,List.getElem?_range h]
 rfl
theorem VF(x:List Int):wt x ((0:Nat):Int)=0:=by
 have:∀k,cP x ((0:Nat):Int) k=0:=by
  intro k
  induction k with
  |zero=>rfl
  |succ k ih=>
   rw[cP,ih];simp only[gH,Nat.zero_testBit];simp
 exact this _
theorem QY(x:List Int)(N s i k:Nat)(o:s<2^N)(D:i<k)(F:k<N)(h1:aW s i=false)(_:aW s k=false):iL (bM (fZ x 0) (2^N)) s i k=0:=by
 rw[CX]at h1;have z:aP s i<2^N:=Nat.or_lt_two_pow o (Nat.pow_lt_pow_right (by decide) (by omega));have b2:aP s k<2^N:=Nat.or_lt_two_pow o (Nat.pow_lt_pow_right (by decide) F);have I:=JR x (aP s i) (aP s k);have e:aP s i &&& aP s k=s:=by
  apply Nat.eq_of_testBit_eq
  intro j;rw[Nat.testBit_and,jU,jU]
  by_cases A:i=j
  ·subst A
   rw[h1,decide_eq_true rfl,decide_eq_false (show ¬k=i by omega)];rfl
  ·rw[decide_eq_false A,Bool.or_false]
   cases s.testBit j<;>simp
 rw[e]at I;unfold iL;rw[qR _ _ _ (Nat.or_lt_two_pow z b2),qR _ _ _ o,qR _ _ _ z,qR _ _ _ b2];unfold fZ;omega
theorem SQ(x:List Int)(N s i k:Nat)(h:iL (bM (fZ x 0) (2^N)) s i k=0):iL (dV (bM (fZ x 0) (2^N))) s i k=0:=by rw[wV,h];rfl
theorem RS{w:List Int}(h:iT w 0=true):bP (dJ w 0) (iU w 0)=true/\iW (dJ w 0) (iU w 0)=true/\eW (dJ w 0) (iU w 0)=w/\dJ w 0=(w.length:Int):=by
 have F:=h;unfold iT at h;rw[Bool.and_eq_true]at h;obtain⟨N,A⟩:=h;have K:dJ w 0=(w.length:Int):=by unfold dJ;rw[if_pos F]
 have I:iU w 0=bM (fZ w 0) (2^w.length):=by unfold iU;rw[if_pos F]
 rw[K,I];have M:=Nat.two_pow_pos w.length;have L:(bM (fZ w 0) (2^w.length)).getD 0 0=0:=by
  rw[qR _ _ _ M];unfold fZ;rw[VF];rfl
 have D:bP (w.length:Int) (bM (fZ w 0) (2^w.length))=true:=by unfold bP;rw[A,L];rfl
 have o:cY (w.length:Int) (bM (fZ w 0) (2^w.length))=true:=(oP w.length _ A).2 (fun s i k a b c d e=>by rw[QY w w.length s i k a b c d e];exact Int.le_refl _);have z:kD (w.length:Int) (bM (fZ w 0) (2^w.length))=true:=by
  unfold kD;rw[A,Bool.true_and];exact(oP w.length _ (tA _ _ A)).2 (fun s i k a b c d e=>by rw[SQ w w.length s i k (QY w w.length s i k a b c d e)];exact Int.le_refl _)
 refine⟨D,by unfold iW;rw[o,z];rfl,?_,rfl⟩;unfold eW;rw[Int.toNat_natCast];refine List.ext_getElem (by simp) fun e h1 h2=>?_;rw[List.getElem_map,List.getElem_range,qR _ _ _ (Nat.pow_lt_pow_right (by decide) h2)];unfold fZ wt;rw[PI,if_pos h2,aJ w e h2];omega
theorem XM(n:Int)(l w:List Int)(n3:Int)(l3:List Int)(st:Int)(h:lI n l w=true):fQ (mL n l w) (mM n l w) (lT n l w) (mJ n l w) (lP n l w) n3 l3 (mK n l w) st (lO n l w)=true:=by
 have Q:=h;unfold lI at h;rw[Bool.and_eq_true]at h;obtain⟨S,F⟩:=h;obtain⟨Y,Z,m3,m4⟩:=RS S;obtain⟨h5,N,hl,_⟩:=oN F;have D:=F;unfold eT at D;simp only[Bool.and_eq_true]at D;obtain⟨⟨I,L⟩,_⟩:=D;have M:=SY w;have K:jE n l w=dS l (cC w w.length):=by unfold jE kA;rw[if_pos F]
 have o:=fD w w.length;have A:hH n l (jE n l w)=true:=by
  rw[K];exact LC n l _ I L (by rw[o];exact N.symm) (by rw[o];exact M.d)
 have z:rD l (jE n l w) (qC w)=true:=by
  unfold rD;rw[List.all_eq_true];intro s U;obtain⟨k,R,rfl⟩:=I9 _ _ _ s U;have O:=JD M l k R;rw[TM,jJ,K];unfold dS;rw[o,O,tO I];simp
 unfold mL mM lT mJ lP mK lO;simp only[if_pos Q];unfold fQ;rw[if_neg (by decide),if_neg (by decide),if_pos rfl];unfold dG;rw[Y,Z,m3];unfold fE;rw[F,A,z,m4,<-N];have e:kO n l w=cH w (jE n l w) w.length:=by unfold kO jE;rw[if_pos F,if_pos F]
 rw[e];simp
end
section
open Go.RowKit Go.G5
theorem TU{n:Int}{l:List Int}{q st:Int}{x:List Int}(h:gN n l q st x=true):aN n l=true/\cO l=q:=by
 unfold gN gR dZ at h;simp only[Bool.and_eq_true,beq_iff_eq]at h;exact⟨jD h.1.1.1.1.1,by rw[<-h.1.1.2.2];exact h.2.2⟩
theorem TS{n:Int}{l x:List Int}(h:dU n l x=true):aN n l=true/\cY n l=false:=by
 unfold dU sL qB fX at h;simp only[Bool.and_eq_true,Bool.not_eq_true',decide_eq_true_eq,bne_iff_ne]at h;obtain⟨⟨M,_⟩,⟨⟨⟨I,O,Q⟩,S,U⟩,F⟩,⟨z,A⟩,o⟩:=h;refine⟨M,?_⟩
 cases L:cY n l with
 |false=>rfl
 |true=>
  obtain⟨N,rfl,_⟩:=bN M;have hx:=(oP N l M).1 L;have I:=eN.1 I;rw[Int.toNat_natCast]at I;obtain⟨s,Z⟩:=Int.eq_ofNat_of_zero_le I.1;obtain⟨i,R⟩:=Int.eq_ofNat_of_zero_le O;obtain⟨k,Y⟩:=Int.eq_ofNat_of_zero_le S;rw[Z]at I z A o;rw[R]at Q z F o;rw[Y]at U A F o;simp only[Int.toNat_natCast]at z A o;have K:s<2^N:=by exact_mod_cast I.2
  have o:0<iL l s i k:=of_decide_eq_true o
  rcases Nat.lt_or_gt_of_ne (fun e:i=k=>F (by rw[e])) with D|D
  ·have:=hx s i k K D (by omega) z A
   omega
  ·have:=hx s k i K D (by omega) A z
   rw[JH]at o;omega
theorem PL{n1:Int}{l1:List Int}{n2:Int}{l2:List Int}{q:Int}{x:List Int}(h:dG n1 l1 n2 l2 q x=true):hH n1 l1 x=true:=by
 unfold dG fE at h;simp only[Bool.and_eq_true]at h;exact h.2.1.1.2
theorem SB{n:Int}{l:List Int}{q st:Int}(h:gX n l q st=true):gL n l=q:=by
 unfold gX at h;simp only[Bool.and_eq_true,beq_iff_eq]at h;exact h.1.2
theorem SI{g:Int}{f:List Int}{q:Int}{x:List Int}(h:iC g f q x=true):dP x=true:=by
 unfold iC at h;simp only[Bool.and_eq_true]at h;exact h.2.2
theorem NF:∀a:Nat,a<64->∀b:Nat,b<64->∀e:Nat,e<6->aW (dE a b) e=(aW a e&&!aW b e):=by decide +kernel
theorem R4(g:Int)(l x:List Int)(O:g<=6)(M:∀k,0<=l.getD k 0/\l.getD k 0<64)(N:∀k,k<x.length->mG g l x k=true):
  ∀n k,k+n=x.length->cX x k<64->(gW l n (cX x k:Int) (x.take k)).isSome=true:=by
 intro n
 induction n with
 |zero=>intro k _ _;rfl
 |succ n ih=>
  intro k Q K;have hr:=N k (by omega);unfold mG at hr;simp only[Bool.and_eq_true,Bool.not_eq_true',decide_eq_true_eq]at hr;obtain⟨⟨L,h1⟩,h2,h3⟩:=hr;have hb:=M k;have z:(x.take k).length=k:=by rw[List.length_take];omega
  obtain⟨e,F⟩:=Int.eq_ofNat_of_zero_le L;rw[F]at h1 h2 h3;rw[Int.toNat_natCast]at h2 h3;have D:cX x (k+1)=aP (cX x k) e:=by rw[cX,F,Int.toNat_natCast]
  have I:cX x (k+1)<64:=by rw[D];exact sF _ K e (by omega)
  have ih:=ih (k+1) (by omega) I;have o:x.take (k+1)=x.take k++[(e:Int)]:=by
   rw[List.take_succ_eq_append_getElem (by omega)]
   congr 2
   rw[<-F,List.getD_eq_getElem?_getD,List.getElem?_eq_getElem (by omega)];rfl
  rw[o,D]at ih;rw[gW,z];have A:(e:Int)∈fA (mV (l.getD k 0) (cX x k:Int)):=by
   unfold fA mV dT;rw[pD];refine⟨e,by omega,?_,rfl⟩;rw[Int.toNat_natCast,Int.toNat_natCast,NF _ (by omega) _ K e (by omega),h2,h3]
   rfl
  rw[List.findSome?_isSome_iff];refine⟨_,A,?_⟩;have e2:jC (cX x k:Int) (2^((e:Int)).toNat)=((aP (cX x k) e:Nat):Int):=by
   unfold jC aP;have q:((2^e:Nat):Int)=(2:Int)^e:=by simp
   rw[Int.toNat_natCast,Int.toNat_natCast,<-q,Int.toNat_natCast]
  rw[e2];exact ih
theorem VO{g:Int}{l:List Int}(h:dO g l=true):g<=6/\∀k,0<=l.getD k 0/\l.getD k 0<64:=by
 unfold dO dK at h;simp only[Bool.and_eq_true,List.all_eq_true]at h;obtain⟨_,h1,h2⟩:=h;have o:=bL.1 h1;have A:=lL o.1 o.2;refine⟨o.2,fun k=>?_⟩
 by_cases z:k<l.length
 ·have h3:=eN.1 (h2 _ (List.getElem_mem z))
  rw[aJ l k z];omega
 ·rw[List.getD_eq_getElem?_getD,List.getElem?_eq_none (by omega)]
  show(0:Int)<=0/\(0:Int)<64;omega
theorem RT{g:Int}{l x:List Int}(h:fC g l x=true):eR g l=true:=by
 unfold fC at h;simp only[Bool.and_eq_true,decide_eq_true_eq]at h;obtain⟨z,A,o⟩:=h;have o:=fI.1 o;obtain⟨D,hb⟩:=VO z;have:=R4 g l x D hb o l.length 0 (by omega) (by show 0<64;omega);unfold eR lC;rw[if_pos z];exact this
theorem P5{g:Int}{f:List Int}{q:Int}{x:List Int}(h:dL g f q x=true):bW g f=true/\eR g f=(q==1):=by
 unfold dL at h;rw[Bool.and_eq_true]at h;obtain⟨A,h⟩:=h;refine⟨A,?_⟩
 by_cases D:q=1
 ·rw[if_pos D]at h
  rw[RT h,D];rfl
 ·rw[if_neg D]at h
  simp only[Bool.and_eq_true,beq_iff_eq,decide_eq_true_eq]at h;obtain⟨⟨_,K⟩,z⟩:=h;have e:(q==1)=false:=by rw[beq_eq_false_iff_ne];exact D
  rw[e];have o:dO g f=true:=by
   unfold dO;rw[decide_eq_true K,Bool.true_and];unfold bW at A;rw[Bool.and_eq_true]at A;exact A.1
  have F:=((A5 g f).few o).1;unfold wP at z;simp only[Bool.and_eq_true,decide_eq_true_eq]at z
  rcases tE f.length K x 0 (Nat.two_pow_pos _) with L|⟨s,N,O,_⟩
  ·rw[L]at z;omega
  ·rw[N,Int.toNat_natCast]at z
   have M:mD f s=true:=by
    unfold mD;refine decide_eq_true ?_;have:=z.2;unfold cK at this ⊢;rw[Int.toNat_natCast]at this;exact this
   have I:iB g f=true:=by
    unfold iB kG;rw[if_pos o,zR];exact⟨s,Nat.zero_le _,by omega,M⟩
   rw[I]at F
   cases hr:eR g f with
   |false=>rfl
   |true=>rw[hr]at F;cases F
end
section
open Go.RowKit Go.G5
theorem PD(k n1:Int)(l1:List Int)(n2:Int)(l2:List Int)(n3:Int)(l3:List Int)(q st:Int)(l4:List Int):dF k n1 l1 n2 l2 n3 l3 q st l4 k n1 l1 n2 l2 n3 l3 q st l4=true:=by unfold dF;simp
section
variable {B:Nat} {w:World} {k n1 n2 n3 q st:Int} {s1 s2 s3 s4 r1 r2 r3 r4:Value} {l1 l2 l3 l4:List Int}
theorem tC(O:ClOk B w s1 s2 s3 s4 l1 l2 l3 l4)(o:ClOk B w r1 r2 r3 r4 l1 l2 l3 l4):
  Calls Tryz.prog 42 #[.agg #[.int .i64 k,.int .i64 n1,s1,.int .i64 n2,s2,.int .i64 n3,s3,.int .i64 q,.int .i64 st,s4],.agg #[.int .i64 k,.int .i64 n1,r1,.int .i64 n2,r2,.int .i64 n3,r3,.int .i64 q,.int .i64 st,r4]] w fun e w'=>e=.returned (.bool true)/\Below w.heap.size w w':=by
 have h:=sS w k n1 s1 l1 O.f1.1 O.h1 n2 s2 l2 O.f2.1 O.h2 n3 s3 l3 O.f3.1 O.h3 q st s4 l4 O.f4.1 O.h4 k n1 r1 l1 o.f1.1 O.h1 n2 r2 l2 o.f2.1 O.h2 n3 r3 l3 o.f3.1 O.h3 q st r4 l4 o.f4.1 O.h4;rw[PD]at h;exact h
theorem rT(O:ClOk B w s1 s2 s3 s4 l1 l2 l3 l4){b:Bool}(h:fQ k n1 l1 n2 l2 n3 l3 q st l4=b):
  Calls Tryz.prog 27 #[.agg #[.int .i64 k,.int .i64 n1,s1,.int .i64 n2,s2,.int .i64 n3,s3,.int .i64 q,.int .i64 st,s4]] w fun e w'=>e=.returned (.bool b)/\Below w.heap.size w w':=by
 rw[<-h];exact E7 w k n1 s1 l1 O.f1.1 n2 s2 l2 O.f2.1 n3 s3 l3 O.f3.1 q st s4 l4 O.f4.1 O.h1 O.h2 O.h3
theorem UJ(O:ClOk B w s1 s2 s3 s4 l1 l2 l3 l4){b:Bool}(h:fQ k n1 l1 n2 l2 n3 l3 q st l4=b):
  Calls Tryz.prog 55 #[.agg #[.int .i64 k,.int .i64 n1,s1,.int .i64 n2,s2,.int .i64 n3,s3,.int .i64 q,.int .i64 st,s4]] w fun e w'=>e=.returned (.bool b)/\Below w.heap.size w w':=by
 rw[<-h];exact FH w k n1 s1 l1 O.f1.1 n2 s2 l2 O.f2.1 n3 s3 l3 O.f3.1 q st s4 l4 O.f4.1 O.h1 O.h2
end
theorem R3{k n1:Int}{l1:List Int}{n2:Int}{l2:List Int}{n3:Int}{l3:List Int}{q st:Int}{l4:List Int}(h:fQ k n1 l1 n2 l2 n3 l3 q st l4=true):
  (k=1/\gN n1 l1 q st l4=true)∨(k=2/\dU n1 l1 l4=true)∨(k=3/\dG n1 l1 n2 l2 q l4=true)∨(k=4/\fR n1 l1 n2 l2 q st l4=true)∨(k=5/\gX n1 l1 q st=true)∨(k=6/\iC n3 l3 q l4=true)∨(k=7/\dL n3 l3 q l4=true):=by
 unfold fQ at h
 by_cases h1:k=1
 ·rw[if_pos h1]at h;exact .inl ⟨h1,h⟩
 rw[if_neg h1]at h
 by_cases h2:k=2
 ·rw[if_pos h2]at h;exact .inr (.inl ⟨h2,h⟩)
 rw[if_neg h2]at h
 by_cases h3:k=3
 ·rw[if_pos h3]at h;exact .inr (.inr (.inl ⟨h3,h⟩))
 rw[if_neg h3]at h
 by_cases h4:k=4
 ·rw[if_pos h4]at h;exact .inr (.inr (.inr (.inl ⟨h4,h⟩)))
 rw[if_neg h4]at h
 by_cases o:k=5
 ·rw[if_pos o]at h;exact .inr (.inr (.inr (.inr (.inl ⟨o,h⟩))))
 rw[if_neg o]at h
 by_cases z:k=6
 ·rw[if_pos z]at h;exact .inr (.inr (.inr (.inr (.inr (.inl ⟨z,h⟩)))))
 rw[if_neg z]at h
 by_cases A:k=7
 ·rw[if_pos A]at h;exact .inr (.inr (.inr (.inr (.inr (.inr ⟨A,h⟩)))))
 rw[if_neg A]at h;exact absurd h (by simp)
theorem RB(w:World)(n:Int)(v:Value)(l:List Int)(A:aD w v l)(D:aN n l=true)(F:0<l.length):
  Calls Tryz.prog 56 #[.agg #[.int .i64 n,v]] w fun e w'=>e=.returned (.tuple #[.int .i64 (cO l),.bool true])/\Below w.heap.size w w':=by
 obtain⟨a,c,rfl⟩:=A.shape;go_enter Tryz.func56,Tryz.ntmps56;go_wp2_with fail;refine aH ?_;intro V z;have K:aB V w.heap.size 32 #[.int .i64 n,.slice a l.length c]:=by rw[z];exact aB.new _ _ _
 have B:Below w.heap.size w V:=by rw[z];exact aM _ _
 clear z;have h1:=A.below B (Nat.le_refl _);refine(cI n l _ V h1).mono ?_;rintro e I ⟨rfl,o⟩;rw[D];have K:=K.keep o;have B:=B.after o B.size;have h2:=h1.keep o;have G:=K.cell;go_wp2_with fail;refine(nM I n _ l h2 F).mono ?_;rintro e w2 ⟨rfl,b2⟩;go_wp2;go_ret2;exact⟨rfl,B.after b2 B.size⟩
end
end Go.Proofs.YtipejodijbjpcaaGreatDoor
