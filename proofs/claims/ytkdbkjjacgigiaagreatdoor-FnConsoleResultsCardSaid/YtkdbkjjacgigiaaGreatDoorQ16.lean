/- Lemmas for CardConsoleResults. No condition. -/
import Derived.Test.YtkdbkjjacgigiaaGreatDoorQ12
import Derived.Test.YtkdbkjjacgigiaaGreatDoorQ13
import Derived.Test.YtkdbkjjacgigiaaGreatDoorQ14
set_option maxRecDepth 100000
set_option maxHeartbeats 64000000
namespace Go.Proofs.YtkdbkjjacgigiaaGreatDoor
section
open Go.RowKit Go.G5 Go.Proofs.Tryz
def b2(b:Bool):Int:=if b then 1 else 0
theorem abI(y e:Nat):cZ y e=y.testBit e:=by
 unfold cZ Nat.testBit;rw[Nat.shiftRight_eq_div_pow,Nat.one_and_eq_mod_two];rcases Nat.mod_two_eq_zero_or_one (y/2^e) with h|h<;>rw[h]<;>rfl
def JM(p:List Int)(s e:Nat):Int:=if cZ s e then p.getD e 0 else 0
def wtE(p:List Int)(s:Nat):Int:=JM p s 0+JM p s 1+JM p s 2+JM p s 3+JM p s 4+JM p s 5
structure PrInv (g:Nat) (l L:List Int) (j:Nat) (p:List Int) (left:Int):Prop where
 run:dJ l (64-j) left=some (L.drop j)
 bd:0<=left/\left<2^g
 len:p.length=g
 zero:∀e,e<6->cZ left.toNat e=true->p.getD e 0=0
 pos:∀e,0<=p.getD e 0
 top:∀e,p.getD e 0<=60
 AX:wtE p (2^g-1)=60*j
 pay:∀s∈l,wtE p s.toNat<=WA (bY s.toNat)-WA (bY (s.toNat &&& left.toNat))
structure PriceFacts (g:Int) (l:List Int):Prop where
 same:jU g l=eV g l
 greedy:eV g l=true->WI g l (dD g l)=true
 small:eV g l=true->WI g l (fB g l)=true
 less:eV g l=true->(fB g l).length<=(dD g l).length
def asI(l:List Int):Int:=l.foldl (· + ·) 0
structure PriceSums (g:Int) (l:List Int):Prop where
 total:asI (eG g l)=60*(dD g l).length
 pays:∀s∈l,wtE (eG g l) s.toNat<=WA (bY s.toNat)
 bound:60*((dD g l).length:Int)<=WA (IP g l).toNat*(fB g l).length
 size:0<=IP g l/\IP g l<=6
 pos:∀e,0<=(eG g l).getD e 0
 top:∀e,(eG g l).getD e 0<=60
 len:(eG g l).length=g.toNat
end
section
open Go.RowKit Go.G5 Go.Proofs.Tryz
end
section
open Go.RowKit Go.G5 Go.Proofs.Tryz
theorem aj1(s e j:Nat):(bX s e).testBit j=(s.testBit j||decide (e=j)):=by
 unfold bX;rw[Nat.testBit_or,Nat.testBit_two_pow]
structure Perm (N:Nat) (o:List Int):Prop where
 len:o.length=N
 d:Dist N o
theorem Perm.nn{N:Nat}{o:List Int}(h:Perm N o):∀x∈o,0<=x:=fun x z=>(h.d.bd x z).1
theorem Perm.fresh{N:Nat}{o:List Int}(h:Perm N o)(k:Nat)(hk:k<o.length):o[k]∉o.take k:=by
 intro hm;have:=h.d.nd;have e:o=o.take k++(o[k]::o.drop (k+1)):=by rw[<-List.drop_eq_getElem_cons hk,List.take_append_drop]
 rw[e]at this;have h2:=(List.nodup_append.1 this).2.2;exact h2 _ hm _ List.mem_cons_self rfl
theorem al8:∀s:Nat,s<32->bY s=0->s=0:=by decide +kernel
theorem al9:∀s:Nat,s<32->0<bY s->∃e,e<5/\(s.testBit e=true/\∃t,t<32/\(s=bX t e/\t.testBit e=false/\bY s=bY t+1)):=by decide +kernel
theorem CH{n:Int}{l:List Int}(h:dQ n l=true):eZ n l=true:=by
 unfold dQ at h;simp only[Bool.and_eq_true]at h;exact h.1
theorem uZ{n:Int}{l:List Int}(h:dQ n l=true):aY n l=true:=sO (CH h)
def vA(l:List Int):Int:=l.getD (l.length-1) 0
def mS(l:List Int)(s:Nat):Bool:=fX l s&&decide (l.getD s 0=vA l)
def CL(l:List Int)(s:Nat):Bool:=!fX l s
def qP(n:Int)(l:List Int):Int:=if dQ n l then n else 0
def mR(n:Int)(l:List Int):List Int:=if dQ n l then cD (mS l) l.length else []
def nX(n:Int)(l:List Int):List Int:=if dQ n l then jR (cD (CL l) l.length) else []
def DV(l:List Int)(n s:Nat):Bool:=cA (fun e=>cZ s e||!(gM l s e==0)) n
def AH(n:Int)(l:List Int):List Int:=if eZ n l then cD (DV l n.toNat) l.length else []
theorem QO{N:Nat}{l:List Int}(D:eZ N l=true):∀s,s<2^N->0<=l.getD s 0:=by
 have hf:=sO D;obtain⟨_,K,S,O,Z,a7⟩:=cS hf;have K:=Int.ofNat.inj K;subst K;have h0:l.getD 0 0=0:=by unfold eZ eD at D;simp only[Bool.and_eq_true,decide_eq_true_eq]at D;exact D.1.1.2
 have F:∀s e,s<2^N->e<N->l.getD s 0<=l.getD (bX s e) 0:=fun s e R Y=>by unfold eZ mU at D;simp only[Bool.and_eq_true,Int.toNat_natCast]at D;have h1:=eP.1 D.1.2.2 s (by rw[O];exact R);have h2:=eP.1 h1 e Y;unfold yJ gM at h2;simp only[Bool.not_eq_true',decide_eq_false_iff_not]at h2;omega
 have key:∀m s,bY s=m->s<2^N->0<=l.getD s 0:=by
  intro m
  induction m with
  |zero=>intro s I z;have p5:(2:Nat)^N<=32:=Nat.pow_le_pow_right (n:=2) aQ S;have:s=0:=al8 s aD I;subst this;rw[h0];simp
  |succ m ih=>
   intro s I z;have p5:(2:Nat)^N<=32:=Nat.pow_le_pow_right (n:=2) aQ S;obtain⟨e,Y,hb,t,_,ht,a9,a8⟩:=al9 s aD aD;have M:e<N:=by
    rcases Nat.lt_or_ge e N with h|h
    ·exact h
    ·have:=Nat.testBit_lt_two_pow (Nat.lt_of_lt_of_le z (Nat.pow_le_pow_right aQ h));rw[this]at hb;cases hb
   have J:t<2^N:=by rw[ht]at z;exact Nat.lt_of_le_of_lt (by unfold bX;exact Nat.left_le_or) z
   have h2:=ih t aD J;have h3:=F t e J M;rw[<-ht]at h3;omega
 exact fun s R=>key (bY s) s rfl R
def mZ(l:List Int)(s:Nat):Nat->Nat
 |0=>s
 |k+1=>if gM l s k=0 then bX (mZ l s k) k else mZ l s k
theorem DR(l:List Int)(s j:Nat):∀k,(mZ l s k).testBit j=(s.testBit j||(decide (j<k)&&decide (gM l s j=0)))
 |0=>by simp[mZ]
 |k+1=>by
  rw[mZ];by_cases z:gM l s k=0
  ·rw[if_pos z,aj1,DR l s j k];by_cases D:k=j
   ·subst D;rw[decide_eq_true (show k<k+1 by omega),decide_eq_true z];simp
   ·rw[decide_eq_false D,Bool.or_false];by_cases h:j<k
    ·rw[decide_eq_true h,decide_eq_true (show j<k+1 by omega)]
    ·rw[decide_eq_false h,decide_eq_false (show ¬j<k+1 by omega)]
  ·rw[if_neg z,DR l s j k];by_cases D:k=j
   ·subst D;rw[decide_eq_false z];simp
   ·by_cases h:j<k
    ·rw[decide_eq_true h,decide_eq_true (show j<k+1 by omega)]
    ·rw[decide_eq_false h,decide_eq_false (show ¬j<k+1 by omega)]
theorem LO(l:List Int)(s N:Nat)(z:s<2^N):∀k,k<=N->mZ l s k<2^N
 |0,_=>z
 |k+1,h=>by
  rw[mZ]
  split
  ·exact eI _ _ _ (LO l s N z k aD) aD
  ·exact LO l s N z k aD
theorem acK(l:List Int)(s n:Nat):decide (mZ l s n=s)=DV l n s:=by
 cases D:DV l n s with
 |true=>
  refine decide_eq_true (Nat.eq_of_testBit_eq fun j=>?_);rw[DR];by_cases z:j<n
  ·have:=eP.1 D j z;simp only[Bool.or_eq_true,Bool.not_eq_true',beq_eq_false_iff_ne]at this;rcases this with h|h
   ·rw[abI]at h;rw[h];rfl
   ·rw[decide_eq_false h];simp
  ·rw[decide_eq_false z];simp
 |false=>
  refine decide_eq_false (fun I=>?_);have:DV l n s=true:=eP.2 fun j z=>by
   have h1:=DR l s j n;rw[I,decide_eq_true z,Bool.true_and]at h1;by_cases F:gM l s j=0
   ·rw[decide_eq_true F,Bool.or_true]at h1;rw[abI,h1];rfl
   ·simp[F]
  rw[this]at D;cases D
def adY(l k:List Int)(s t:Nat):Bool:=(cO t s==0)&&(fX l t&&fX k (cO s t))
def OP(l k:List Int)(s m:Nat):Bool:=cA (fun t=>!adY l k s t) m
def xO(l k:List Int)(s:Nat):Bool:=!OP l k s (s+1)
theorem aaC(l k:List Int)(s m:Nat):OP l k s (m+1)=(OP l k s m&&!adY l k s m):=rfl
theorem apS{l k:List Int}{s t:Nat}(h:t<=s)(z:adY l k s t=true):xO l k s=true:=by
 unfold xO OP;rw[cW (k:=t) aD (by rw[z];rfl)];rfl
def vV(P:Nat->Bool):Nat->Nat
 |0=>0
 |t+1=>if decide (bY (vV P t)<bY t)&&P t then t else vV P t
theorem agO(P:Nat->Bool)(t:Nat):vV P (t+1)=if decide (bY (vV P t)<bY t)&&P t then t else vV P t:=rfl
theorem aoO(P:Nat->Bool):∀t,0<t->vV P t<t:=by
 intro t
 induction t with
 |zero=>intro h;omega
 |succ t ih=>
  intro _;rw[vV]
  split
  ·omega
  ·rcases Nat.eq_zero_or_pos t with rfl|h
   ·simp[vV]
   ·have:=ih h;omega
theorem aoN(P:Nat->Bool)(t:Nat):vV P t<=t:=by
 rcases Nat.eq_zero_or_pos t with rfl|h
 ·exact aI
 ·exact Nat.le_of_lt (aoO P t h)
def SH(n:Int)(l:List Int)(m:Int)(k:List Int):Int:=if fE n l m k then (vV (xO l k) l.length:Int) else 0
def asG(l k:List Int)(s:Nat):Bool:=mS l s&&mS k s
def GU(n:Int)(l:List Int)(m:Int)(k:List Int):Int:=if fE n l m k then n else 0
def GT(n:Int)(l:List Int)(m:Int)(k:List Int):List Int:=if fE n l m k then cD (asG l k) l.length else []
theorem akN{n m:Int}{l k:List Int}(h:fE n l m k=true):dQ n l=true/\dQ m k=true:=by
 unfold fE at h;simp only[Bool.and_eq_true]at h;exact h.1
theorem EW(P:Nat->Bool)(k s:Nat):(s:Int)∈cD P k↔(s<k/\P s=true):=by
 unfold cD;constructor
 ·intro h;obtain⟨t,ht,z⟩:=List.mem_map.1 h;have:=Int.ofNat.inj z;subst this;have h1:=List.mem_filter.1 ht;exact⟨List.mem_range.1 h1.1,h1.2⟩
 ·rintro⟨h1,h2⟩;exact List.mem_map.2 ⟨s,List.mem_filter.2 ⟨List.mem_range.2 h1,h2⟩,rfl⟩
theorem NX(P:Nat->Bool)(k s:Nat):gQ (cD P k) (s:Int)=(decide (s<k)&&P s):=by
 unfold gQ;by_cases h1:s<k
 ·rw[decide_eq_true h1,Bool.true_and]
  cases h2:P s with
  |true=>exact decide_eq_true ((EW P k s).2 ⟨h1,h2⟩)
  |false=>exact decide_eq_false (fun h=>by have:=((EW P k s).1 h).2;rw[h2]at this;cases this)
 ·rw[decide_eq_false h1,Bool.false_and];exact decide_eq_false (fun h=>h1 ((EW P k s).1 h).1)
def wN(l:List Int):Nat->Option Int
 |0=>some 0
 |k+1=>match wN l k with
  |none=>none
  |some m=>if l.getD (k+1) 0=0 then none else some (max m (Int.tdiv ((bY (k+1):Int)+l.getD (k+1) 0-1) (l.getD (k+1) 0)))
def NK(n:Int)(l:List Int):Option Int:=if dQ n l then wN l (l.length-1) else none
def BM(n:Int)(l:List Int):Int:=(NK n l).getD 0
def KR(n:Int)(l:List Int):Bool:=(NK n l).isSome
theorem RL(l:List Int)(k:Nat)(h:wN l k=none):∀m,k<=m->wN l m=none
 |0,hm=>by have:k=0:=aD;subst this;exact h
 |m+1,hm=>by
  by_cases hk:k=m+1
  ·subst hk;exact h
  ·rw[wN,RL l k h m aD]
theorem I4(a b:Int)(z:0<=a)(hb:0<b):0<=Int.tdiv a b/\Int.tdiv a b<=a:=⟨Int.tdiv_nonneg z aD,Int.tdiv_le_self b z⟩
def uX(l:List Int)(N:Nat)(m:Int):Nat->Int
 |0=>m
 |k+1=>if l.getD k 0<vA l then min (uX l N m k) (Int.tdiv ((N:Int)-(bY k:Int)) (vA l-l.getD k 0)) else uX l N m k
def FW(n:Int)(l:List Int):Bool:=dQ n l&&!(vA l==0)
def yF(n:Int)(l:List Int):Int:=if FW n l then uX l n.toNat 100 l.length else 0
theorem abO:∀N:Nat,N<6->∀s:Nat,s<2^N->bY s<=N:=by decide +kernel
theorem al7:∀N:Nat,N<6->∀s:Nat,s<2^N->bY (cO (2^N-1) s)=N-bY s:=by decide +kernel
theorem XV(l:List Int)(N:Nat)(D:N<=5)(z:l.getD 0 0=0)(ht:0<vA l):∀k,uX l N N (k+1)=uX l N 100 (k+1)
 |0=>by have p0:bY 0=0:=MQ;have h1:=I4 (N:Int) (vA l) aD ht;simp only[uX,z,p0];rw[if_pos ht,if_pos ht];simp only[Int.sub_zero,Int.natCast_zero];omega
 |k+1=>by
  rw[uX,XV l N D z ht k]
  rfl
theorem QK(l:List Int)(N:Nat)(z:N<=5)(m:Int)(hm:0<=m/\m<=100):∀k,k<=2^N->0<=uX l N m k/\uX l N m k<=100
 |0,_=>hm
 |k+1,hk=>by
  have h1:=QK l N z m hm k aD;have h2:=abO N aD k aD;rw[uX]
  split
  ·rename_i h;have:=I4 ((N:Int)-(bY k:Int)) (vA l-l.getD k 0) aD aD;omega
  ·exact h1
theorem ajI(n:Int)(l:List Int):0<=yF n l/\yF n l<=100:=by
 unfold yF
 split
 ·rename_i h;unfold FW at h;simp only[Bool.and_eq_true]at h;obtain⟨N,rfl,z,D,_⟩:=cS (uZ h.1);rw[Int.toNat_natCast];exact QK l N z 100 aD _ aD
 ·omega
theorem PJ(l:List Int)(hl:l.length<=32)(z:∀s,s<l.length->0<=l.getD s 0/\l.getD s 0<=1000):∀k m,k<l.length->wN l k=some m->0<=m/\m<=2000
 |0,m,_,h=>by cases h;omega
 |k+1,m,hk,h=>by
  rw[wN]at h
  cases hc:wN l k with
  |none=>rw[hc]at h;cases h
  |some m0=>
   rw[hc]at h;have h1:=PJ l hl z k m0 aD hc;simp only at h
   split at h
   ·cases h
   ·rename_i D;have h2:=z (k+1) hk;have h3:=vY (k+1) aD;have h4:=I4 ((bY (k+1):Int)+l.getD (k+1) 0-1) (l.getD (k+1) 0) aD aD
    cases h
    omega
theorem YD{N:Nat}{l:List Int}(h:dQ N l=true):0<=vA l/\l.getD 0 0=0:=by
 have z:=CH h;obtain⟨_,D,K,I,F,J⟩:=cS (uZ h);have D:=Int.ofNat.inj D;subst D;have p0:=Nat.two_pow_pos N;refine⟨QO z _ aD,?_⟩;unfold eZ eD at z;simp only[Bool.and_eq_true,decide_eq_true_eq]at z;exact z.1.1.2
theorem afI(n:Int)(l:List Int):0<=BM n l/\BM n l<=2000:=by
 unfold BM NK
 split
 ·rename_i h;obtain⟨N,rfl,J,I,z,D⟩:=cS (uZ h);have p0:=Nat.two_pow_pos N
  cases hc:wN l (l.length-1) with
  |none=>simp
  |some m=>refine PJ l z (fun s F=>⟨QO (CH h) s aD,?_⟩) (l.length-1) m aD hc;rw[aS l s F];exact(D s F).2
 ·simp
def lF(l:List Int):Nat->Nat
 |0=>0
 |t+1=>if l.getD (lF l t) 0<l.getD t 0 then t else lF l t
theorem SM(l:List Int)(t:Nat):lF l (t+1)=if l.getD (lF l t) 0<l.getD t 0 then t else lF l t:=rfl
theorem JV(l:List Int):∀t,0<t->lF l t<t:=by
 intro t
 induction t with
 |zero=>intro h;omega
 |succ t ih=>
  intro _;rw[lF]
  split
  ·omega
  ·rcases Nat.eq_zero_or_pos t with rfl|h
   ·simp[lF]
   ·have:=ih h;omega
theorem alY(l:List Int):lF l 1=0:=by have:=JV l 1 aD;omega
def CB(n:Int)(l:List Int):Int:=if aY n l then (lF l l.length:Int) else 0
def yC(n:Int)(l:List Int):Int:=if aY n l then l.getD (lF l l.length) 0 else 0
def jC(N x e:Nat):Nat:=x+(2^N-2^e)
def iQ(l:List Int)(N:Nat):Nat->Nat
 |0=>0
 |e+1=>if l.getD (cO (jC N (iQ l N e) e) (2^e)) 0-l.getD (jC N (iQ l N e) e) 0<=gM l (iQ l N e) e then bX (iQ l N e) e else iQ l N e
def BN(n:Int)(l:List Int):Int:=if aY n l then (iQ l n.toNat n.toNat:Int) else 0
theorem arV:∀N,N<6->∀e,e<N->∀x,x<32->x<2^e->(bX x e=x+2^e/\cO (jC N x e) (2^e)=jC N x (e+1)):=by decide +kernel
theorem arW:∀N,N<6->∀e,e<N->∀x,x<32->x<2^e->(jC N (x+2^e) (e+1)=jC N x e/\jC N x e<2^N):=by decide +kernel
theorem arX:∀N,N<6->∀e,e<N->∀x,x<32->x<2^e->(2^e<=jC N x e/\jC N x e-2^e=jC N x (e+1)):=by decide +kernel
theorem arY:∀N,N<6->∀e,e<N->∀x,x<32->x<2^e->(jC N x (e+1)<2^N/\x+2^e<2^N):=by decide +kernel
theorem LW(N:Nat)(z:N<6)(e:Nat)(D:e<N)(x:Nat)(F:x<32)(h:x<2^e):(bX x e=x+2^e/\cO (jC N x e) (2^e)=jC N x (e+1))/\(jC N (x+2^e) (e+1)=jC N x e/\jC N x e<2^N)/\((2^e<=jC N x e/\jC N x e-2^e=jC N x (e+1))/\(jC N x (e+1)<2^N/\x+2^e<2^N)):=
 ⟨arV N z e D x F h,arW N z e D x F h,arX N z e D x F h,arY N z e D x F h⟩
theorem ao4:∀n:Nat,n<6->∀s,s<32->s<2^n->bY s<=n:=by decide +kernel
theorem JQ(l:List Int)(N:Nat)(D:N<=5):∀e,e<=N->iQ l N e<2^e:=by
 intro e
 induction e with
 |zero=>intro _;exact Nat.one_pos
 |succ e ih=>
  intro F;have h:=ih aD;have I:(2:Nat)^(e+1)=2*2^e:=by rw[Nat.pow_succ];omega
  have z:(2:Nat)^e<=32:=Nat.pow_le_pow_right (n:=2) (j:=5) aQ aD;rw[iQ]
  split
  ·rw[(LW N aD e aD _ aD h).1.1];omega
  ·omega
theorem RO(l:List Int)(N e:Nat):iQ l N (e+1)=if l.getD (cO (jC N (iQ l N e) e) (2^e)) 0-l.getD (jC N (iQ l N e) e) 0<=gM l (iQ l N e) e then bX (iQ l N e) e else iQ l N e:=rfl
theorem VJ(N:Nat):jC N 0 0=2^N-1:=by unfold jC;simp
theorem an0(y e:Nat)(F:y<64)(z:e<6):bits .andNot .i64 (y:Int) (2^e)=((cO y (2^e):Nat):Int):=by
 have D:=Nat.pow_lt_pow_right (show 1<2 by decide) z;have:=xK y (2^e) F (by simp at D;omega);rw[<-this];push_cast;rfl
theorem xJ{l:List Int}(h:∀k,(hk:k<l.length)->-1000<=l[k]/\l[k]<=1000)(i:Nat):-1000<=l.getD i 0/\l.getD i 0<=1000:=by
 by_cases z:i<l.length
 ·rw[aS l i z];exact h i z
 ·have e:l.getD i 0=0:=by unfold List.getD;rw[List.getElem?_eq_none aD];rfl
  rw[e];omega
def nQ(l:List Int):Nat->Int
 |0=>l.getD 0 0
 |k+1=>min (nQ l k) (l.getD k 0)
def eM(l:List Int):Int:=nQ l l.length
def kJ(l:List Int)(m:Int):Nat->List Int
 |0=>[]
 |k+1=>if l.getD k 0=m then kJ l m k++[(k:Int)] else kJ l m k
def nP(n:Int)(l:List Int):List Int:=if aY n l then kJ l (eM l) l.length else []
def qK(M:Int)(q:List Int):Nat->Int
 |0=>M
 |k+1=>bB (qK M q k) (q.getD k 0)
def sL(n:Int)(l:List Int):Int:=if fO n l then qK (2^n.toNat-1) (nP n l) (nP n l).length else 0
def wT(n:Int)(l:List Int):Int:=if aY n l then eM l else 0
theorem abG(l:List Int):nQ l 1=l.getD 0 0:=by show min (l.getD 0 0) (l.getD 0 0)=_;omega
theorem agN(l:List Int)(h:0<l.length):∀k,k<=l.length->∃i,i<l.length/\l.getD i 0=nQ l k:=by
 intro k
 induction k with
 |zero=>intro _;exact⟨0,h,rfl⟩
 |succ k ih=>
  intro hk;obtain⟨i,z,D⟩:=ih aD;rw[nQ];by_cases hc:nQ l k<=l.getD k 0
  ·exact⟨i,z,by omega⟩
  ·exact⟨k,by omega,by omega⟩
theorem aqU(l:List Int)(m:Int):∀k,∀s∈kJ l m k,0<=s/\s<k:=by
 intro k
 induction k with
 |zero=>intro s h;simp[kJ]at h
 |succ k ih=>
  intro s h;rw[kJ]at h;by_cases hc:l.getD k 0=m
  ·rw[if_pos hc]at h;rcases List.mem_append.1 h with h|h
   ·have:=ih s h;omega
   ·have:=List.mem_singleton.1 h;omega
  ·rw[if_neg hc]at h;have:=ih s h;omega
theorem XL(l:List Int)(m:Int):∀k,(kJ l m k).length<=k:=by
 intro k
 induction k with
 |zero=>simp[kJ]
 |succ k ih=>
  rw[kJ]
  split
  ·simp;omega
  ·omega
theorem ar5(l:List Int)(m:Int)(i:Nat)(z:l.getD i 0=m):∀k,i<k->kJ l m k≠[]:=by
 intro k
 induction k with
 |zero=>intro h;omega
 |succ k ih=>
  intro hk;rw[kJ];by_cases hc:l.getD k 0=m
  ·rw[if_pos hc];simp
  ·rw[if_neg hc];have:i≠k:=fun e=>hc (e▸z);exact ih aD
theorem SN{n:Int}{l:List Int}(h:aY n l=true):nP n l≠[]/\(nP n l).length<=32/\∀s∈nP n l,0<=s/\s<2^n.toNat/\s<64:=by
 obtain⟨N,rfl,I,F,z,_⟩:=cS h;have O:nP (N:Int) l=kJ l (eM l) l.length:=by unfold nP;rw[h];rfl
 have D:0<l.length:=by rw[F];exact Nat.two_pow_pos N
 rw[O];obtain⟨i,K,J⟩:=agN l D l.length aI;refine⟨ar5 l (eM l) i J l.length K,Nat.le_trans (XL l _ _) z,fun s M=>?_⟩;have:=aqU l _ _ s M;have h4:((2^N:Nat):Int)=(2:Int)^N:=by push_cast;rfl
 simp only[Int.toNat_natCast];omega
theorem YK(l:List Int)(v:Value)(w:World)(hv:aK w v l)(z:0<l.length):
  Calls prog 270 #[v] w fun e w'=>e=.returned (eM l)/\w=w':=by
 obtain⟨a,b,I,c,rfl,M,D,hc,hb⟩:=hv.view prog 25 3 underlying25 aN;have h1:¬(l.length:Int)<1:=aD;have i0:∀W,(Instr.indexAt 25 (aA a l.length c) (aG 0)).run prog W=.ok (.pointer (some ⟨b,I,none⟩)) W:=fun W=>D W 0 z;have c0:w.cell? ⟨b,I,none⟩=some (aG (l.getD 0 0)):=by rw[aS l 0 z];exact hc 0 z
 go_enter func270,ntmps270;go_wp2;go_loop [3,4] (fun m i=>∃k:Nat,1<=k/\k<=l.length/\i=aG k/\m=aG (nQ l k)) (fun _ i=>l.length-(intOf i).toNat)
 case atStart=>exact⟨1,aI,z,rfl,by rw[abG,aS l 0 z]⟩
 case round=>
  obtain⟨k,Z,hk,rfl,rfl⟩:=hrel;by_cases hlt:k<l.length
  ·have K:=hc k hlt;have Y:=fun W=>D W k hlt;have J:nQ l (k+1)=min (nQ l k) l[k]:=by rw[nQ,aS l k hlt]
   obtain⟨p,N⟩:=aJ (l[k]);obtain⟨q,O⟩:=aJ (nQ l k);rw[<-N]at K J;rw[<-O]at J ⊢;have S:=aH J;clear J N O hc D;go_wp2;go_round
   case rel=>exact⟨k+1,by omega,by omega,by go_num,by rw[S.out]<;>(congr 1<;>(split<;>omega))⟩
   case measure=>simp[intOf];omega
  ·have F:k=l.length:=aD;have R:=aH F;clear F;go_wp2;go_ret;exact⟨fL (by rw[R.out];rfl),rfl⟩
theorem AQ(w:World)(n:Int)(v:Value)(l:List Int)(O:aK w v l):
  Calls prog 192 #[.agg #[n,v]] w fun e w'=>e=.returned (.tuple #[(wT n l),.bool (aY n l)])/\Below w w w':=by
 obtain⟨a,c,rfl⟩:=O.shape;go_enter func192,ntmps192;go_wp2_with fail;refine bU ?_;intro V J;have B:Below w w V:=gY J;have K:aP V w 27 #[n,aA a l.length c]:=gJ J;clear J;refine(dM n l _ V (O.below B aI)).mono ?_;rintro e w1 ⟨rfl,R⟩;have K:=K.keep R;have B:=B.after R B.size;have G:=K.cell
 cases z:aY n l with
 |false=>
  have I:wT n l=0:=by unfold wT;rw[z];rfl
  have D:=aH (And.intro I z);clear I z;go_wp2;go_ret2;exact⟨by rw[D.out.1,D.out.2];rfl,B⟩
 |true=>
  have I:wT n l=eM l:=by unfold wT;rw[z];rfl
  have F:0<l.length:=by obtain⟨N,rfl,_,M,_⟩:=cS z;rw[M];exact Nat.two_pow_pos N
  have D:=aH (And.intro I z);have S:=aH (YK l _ w1 (O.below B aI) F);clear I z;go_wp2_with (go_at_call 270;refine S.out.mono ?_;rintro e w' ⟨rfl,rfl⟩);go_ret2;exact⟨by rw[D.out.1,D.out.2];rfl,B⟩
theorem AL(w:World)(n:Int)(v:Value)(l:List Int)(hv:aK w v l)(z:0<l.length):
  Calls prog 28 #[.agg #[n,v]] w fun e w'=>e=.returned (eM l)/\Below w w w':=by
 obtain⟨a,b,J,c,rfl,N,F,hc,hb⟩:=hv.view prog 25 3 underlying25 aN;have D:=aR hc hb (bF w (.cells #[n,aA a l.length c] 27)) aI;have i0:∀W,(Instr.indexAt 25 (aA a l.length c) (aG 0)).run prog W=.ok (.pointer (some ⟨b,J,none⟩)) W:=fun W=>F W 0 z;have c0:(w.alloc (.cells #[n,aA a l.length c] 27)).cell? ⟨b,J,none⟩=some (aG (l.getD 0 0)):=by rw[aS l 0 z];exact D 0 z
 go_enter func28,ntmps28;go_wp2;go_loop [3,4] (fun m i=>∃k:Nat,1<=k/\k<=l.length/\i=aG k/\m=aG (nQ l k)) (fun _ i=>l.length-(intOf i).toNat)
 case atStart=>exact⟨1,aI,z,rfl,by rw[abG,aS l 0 z]⟩
 case round=>
  obtain⟨k,a1,hk,rfl,rfl⟩:=hrel;by_cases hlt:k<l.length
  ·have M:=D k hlt;have Z:=fun W=>F W k hlt;have K:nQ l (k+1)=min (nQ l k) l[k]:=by rw[nQ,aS l k hlt]
   obtain⟨p,O⟩:=aJ (l[k]);obtain⟨q,R⟩:=aJ (nQ l k);rw[<-O]at M K;rw[<-R]at K ⊢;have Y:=aH K;clear K O R hc D F;go_wp2;go_round
   case rel=>exact⟨k+1,by omega,by omega,by go_num,by rw[Y.out]<;>(congr 1<;>(split<;>omega))⟩
   case measure=>simp[intOf];omega
  ·have I:k=l.length:=aD;have S:=aH I;clear I;go_wp2;go_ret;exact⟨fL (by rw[S.out];rfl),bF _ _⟩
theorem BZ(w:World)(n:Int)(v:Value)(l:List Int)(hv:aK w v l):
  Calls prog 193 #[.agg #[n,v]] w fun e w'=>∃ad i c,e=.returned (.tuple #[aA ad i c,.bool (aY n l)])/\aM 3 w w' (aA ad i c) (nP n l)/\Below w w w':=by
 obtain⟨a,b,e8,c,rfl,c5,b5,hc,hb⟩:=hv.view prog 25 3 underlying25 aN;go_enter func193,ntmps193;go_wp2_with fail;refine bU ?_;intro V hV;have B:Below w w V:=gY hV;have K:aP V w 27 #[n,aA a l.length c]:=gJ hV;clear hV;refine(AQ V n _ l (hv.below B aI)).mono ?_;rintro e w1 ⟨rfl,b1⟩;have K:=K.keep b1;have B:=B.after b1 B.size;have G:=K.cell
 cases D:aY n l with
 |false=>
  have hx:nP n l=[]:=by unfold nP;rw[D];rfl
  have S:=aH (And.intro hx D);clear hx D;go_wp2;go_ret2;exact⟨none,0,0,by rw[S.out.2];rfl,by rw[S.out.1];exact aM.nil _ _ _,B⟩
 |true=>
  have hx:nP n l=kJ l (eM l) l.length:=by unfold nP;rw[D];rfl
  have hm:wT n l=eM l:=by unfold wT;rw[D];rfl
  have b9:l.length<=32:=by obtain⟨N,rfl,_,_,h,_⟩:=cS D;exact h
  obtain⟨M,hM⟩:=aJ (eM l);rw[hm,<-hM];have HM:=aH hM;have S:=aH (And.intro hx D);clear hx D hm hM;go_wp2_with fail;go_loopw [6,19] (fun out i wr=>∃(k:Nat) (ad:Option Addr) (nn Y:Nat),k<=l.length/\out=aA ad nn Y/\i=aG k/\aM 3 w wr (aA ad nn Y) (kJ l (eM l) k)/\Below w w wr) (fun _ i _=>l.length-(intOf i).toNat)
  case atStart=>exact⟨0,none,0,0,Nat.zero_le _,rfl,rfl,aM.nil _ _ _,B⟩
  case round=>
   obtain⟨k,ad,nn,Y,hk,rfl,rfl,O,J⟩:=hrel;have R:=aH O;clear O;by_cases hlt:k<l.length
   ·have a1:(k:Int)<(l.length:Int):=aD;have b3:=aR hc hb J aI k hlt;have e5:=fun W=>b5 W k hlt;have hn:kJ l (eM l) (k+1)=if l[k]=M then kJ l (eM l) k++[(k:Int)] else kJ l (eM l) k:=by rw[kJ,aS l k hlt,HM.out]
    obtain⟨y,hy⟩:=aJ (l[k]);rw[<-hy]at b3 hn;have HN:=aH hn;clear hn hy;by_cases z:y=M
    ·have b0:(y==M)=true:=by simp[z]
     have I:=aH z;clear z;have o4:=R.out;have r4:=o4.lt;have zr:=J.size;go_wp2_with (at_builtin;refine dA rfl _ _ _ rfl 3 underlying25 aN w.heap.size _ _ (k:Int) wr.heap.size rfl rfl (by simp) (o4.alloc _) ⟨by omega,by omega⟩ (by have:=XL l (eM l) k;omega) aT ?_;intro v' w6 F b4;obtain⟨av,nv,cv,rfl⟩:=F.shape3);have B6:Below w w w6:=(J.alloc J.size (.cells #[(k:Int)] 3)).grown b4 aT (fun q hq=>(r4 q hq).1);go_roundw
     case rel=>exact⟨k+1,av,nv,cv,by omega,rfl,by go_num,by rw[HN.out,if_pos I.out];exact F,B6⟩
     case measure=>simp[intOf];omega
    ·have b0:(y==M)=false:=by simp[z]
     have I:=aH z;clear z;go_wp2;go_roundw
     case rel=>exact⟨k+1,ad,nn,Y,by omega,rfl,by go_num,by rw[HN.out,if_neg I.out];exact R.out,J⟩
     case measure=>simp[intOf];omega
   ·have a1:¬(k:Int)<(l.length:Int):=aD;have Z:k=l.length:=aD;have O:=R.out;rw[Z,<-S.out.1]at O;have R:=aH O;clear Z O;go_wp2;go_ret2;exact⟨ad,nn,Y,by rw[S.out.2];rfl,R.out,J⟩
theorem TU(w:World)(n:Int)(v:Value)(l:List Int)(hv:aK w v l)(hl:l.length<=1048576):
  Calls prog 209 #[.agg #[n,v]] w fun e w'=>e=.returned (.tuple #[(sL n l),.bool (fO n l)])/\Below w w w':=by
 obtain⟨a,c,rfl⟩:=hv.shape;go_enter func209,ntmps209;go_wp2_with fail;refine bU ?_;intro V hV;have B:Below w w V:=gY hV;have K:aP V w 27 #[n,aA a l.length c]:=gJ hV;clear hV;refine(pX n l _ V (hv.below B aI) hl).mono ?_;rintro e w1 ⟨rfl,b1⟩;have K:=K.keep b1;have B:=B.after b1 B.size;have G:=K.cell
 cases I:fO n l with
 |false=>
  have hx:sL n l=0:=by unfold sL;rw[I];rfl
  have S:=aH (And.intro hx I);clear hx I;go_wp2;go_ret2;exact⟨by rw[S.out.1,S.out.2];rfl,B⟩
 |true=>
  have hf:aY n l=true:=by unfold fO at I;exact(Bool.and_eq_true_iff.1 I).1
  have hx:sL n l=qK (2^n.toNat-1) (nP n l) (nP n l).length:=by unfold sL;rw[I];rfl
  obtain⟨_,a9,R⟩:=SN hf;obtain⟨h0,h5,_,_⟩:=kP hf;have S:=aH (And.intro hx I);obtain⟨q,hq⟩:=aJ (nP n l);have O:=BZ w1 n _ l (hv.below B aI);rw[<-hq]at O a9 R;have b8:=aH O;have HQ:=aH hq;have b9:=aH R;clear hx I hf O hq R;go_wp2_with fail;clear G;refine b8.out.mono ?_;rintro e w2 ⟨p,i,cc,rfl,o,b2⟩;have K:=K.keep b2;have B1:=B.after b2 B.size;have hi:i=q.length:=by obtain⟨_,_,h⟩:=o.shape;injection h
  subst hi;have G:=K.cell;go_wp2_with fail;clear G;refine(sF n _ l w2 (hv.below B1 aI) h0 aD).mono ?_;rintro e w3 ⟨rfl,b3⟩;have B2:=B1.after b3 B1.size;have o:=o.keep b3;obtain⟨a1,bq,e8,c1,e0,c9,F,Z,D⟩:=o.ints.view prog 25 3 underlying25 aN;injection e0 with h1 h2 h3;subst h1 h3;have hM:=cJ n.toNat 5 aD;obtain⟨M,J⟩:∃M:Int,M=2^n.toNat-1:=⟨_,rfl⟩;have c6:0<=M/\M<64:=by have h1:=hM.1;have h2:=hM.2;simp at h1;omega
  rw[<-J];have b7:=aH J;clear hM J o;go_wp2_with fail;go_loop [6,21] (fun m i=>∃k:Nat,k<=q.length/\i=aG k/\m=aG (qK M q k)/\0<=qK M q k/\qK M q k<64) (fun _ i=>q.length-(intOf i).toNat)
  case atStart=>exact⟨0,Nat.zero_le _,rfl,rfl,c6⟩
  case round=>
   obtain⟨k,hk,rfl,rfl,D,Y⟩:=hrel;by_cases hlt:k<q.length
   ·have a7:(k:Int)<(q.length:Int):=aD;have ck:=Z k hlt;have ik:=fun W=>F W k hlt;have hm:=b9.out _ (List.getElem_mem hlt);have hn:qK M q (k+1)=bB (qK M q k) q[k]:=by rw[qK,aS q k hlt]
    obtain⟨y,hy⟩:=aJ (q[k]);obtain⟨z,hz⟩:=aJ (qK M q k);rw[<-hy]at ck hm hn;rw[<-hz]at hn D Y ⊢;have f7:=dU D aD hm.1 aD;have N:=kE z y 64 D Y;rw[<-hn]at N;have HN:=aH hn;have b6:=aH N;clear hn N hy hz hm Z F;go_wp2;go_round
    case rel=>exact⟨k+1,by omega,by go_num,by rw[HN.out],b6.out⟩
    case measure=>simp[intOf];omega
   ·have a7:¬(k:Int)<(q.length:Int):=aD;have a6:k=q.length:=aD;have HK:=aH a6;clear a6;go_wp2;go_ret2;exact⟨by rw[S.out.1,S.out.2,<-HQ.out,<-b7.out,<-HK.out];rfl,B2⟩
theorem CA(w:World)(n:Int)(v:Value)(l:List Int)(hv:aK w v l):
  Calls prog 49 #[.agg #[n,v]] w fun e w'=>∃ad i c,e=.returned (.tuple #[aA ad i c,.bool (aY n l)])/\aM 3 w w' (aA ad i c) (nP n l)/\Below w w w':=by
 obtain⟨a,b,e5,c,rfl,f0,b3,hc,hb⟩:=hv.view prog 25 3 underlying25 aN;obtain⟨V,hV⟩:=aJ ((w.alloc (.cells #[n,aA a l.length c] 27)).alloc (.cells #[] 3));have B:Below w w V:=gO hV;have K:aP V w 27 #[n,aA a l.length c]:=gR hV;have o0:aM 3 (w.heap.size+1) V (aA (some ⟨w.heap.size+1,0,none⟩) 0 0) []:=by rw[hV];have:=aM.lit0 (E:=3) (B:=w.heap.size+1) (w.alloc (.cells #[n,aA a l.length c] 27)) (by simp);simpa using this
 go_enter func49,ntmps49;go_wp2_with fail;rw[<-hV];clear hV;go_loopw [4,5] (fun out i wr=>∃(k:Nat) (ad:Option Addr) (nn cp:Nat),k<=l.length/\out=aA ad nn cp/\i=aG k/\aM 3 (w.heap.size+1) wr (aA ad nn cp) (kJ l (eM l) k)/\aP wr w 27 #[n,aA a l.length c]/\Below w w wr/\(aY n l=false->k=0)) (fun _ i _=>l.length-(intOf i).toNat)
 case atStart=>exact⟨0,_,_,_,Nat.zero_le _,rfl,rfl,o0,K,B,fun _=>rfl⟩
 case round=>
  obtain⟨k,ad,nn,cp,hk,rfl,rfl,ho,Kr,Br,hz⟩:=hrel;clear o0 K B;have HO:=aH ho;have HZ:=aH hz;have G:=Kr.cell;clear ho hz;go_wp2_with fail;clear G;refine(dH n l _ wr (hv.below Br aI)).mono ?_;rintro e w1 ⟨rfl,b1⟩;have K1:=Kr.keep b1;have F:=Br.after b1 Br.size;have Z:=HO.out.keep b1;have G:=K1.cell;clear Kr
  cases I:aY n l with
  |false=>
   have hx:nP n l=[]:=by unfold nP;rw[I];rfl
   rw[HZ.out I]at Z;have HX:=aH (And.intro hx I);clear hx I;have O:=aH (dH n l _ w1 (hv.below F aI));go_wp2_with (go_at_call 20;refine O.out.mono ?_;rintro e w2 ⟨rfl,b2⟩);go_ret2;exact⟨ad,nn,cp,rfl,by rw[HX.out.1];exact(Z.keep b2).mono aD,F.after b2 F.size⟩
  |true=>
   have hx:nP n l=kJ l (eM l) l.length:=by unfold nP;rw[I];rfl
   have e9:l.length<=32:=by obtain⟨N,rfl,_,_,h,_⟩:=cS I;exact h
   have HX:=aH (And.intro hx I);clear hx;by_cases hlt:k<l.length
   ·have b5:(k:Int)<(l.length:Int):=aD;have R:=aH (fun y:Ext w1=>AL y.w n _ l (y.ints (hv.below F aI)) aD);have Y:=aR hc hb F aI k hlt;have g7:=fun W=>b3 W k hlt;have hn:kJ l (eM l) (k+1)=if l[k]=eM l then kJ l (eM l) k++[(k:Int)] else kJ l (eM l) k:=by rw[kJ,aS l k hlt]
    obtain⟨y,hy⟩:=aJ (l[k]);rw[<-hy]at Y hn;obtain⟨M,hM⟩:=aJ (eM l);have b6:kJ l (eM l) (k+1)=if y=M then kJ l (eM l) k++[(k:Int)] else kJ l (eM l) k:=by rw[hn,hM]
    rw[<-hM]at R;have HN:=aH b6;have O1:=aH Z;have e4:∀x:Ext w1,x.w.cell? ⟨b,e5+k,none⟩=some (aG y):=fun x=>x.cell Y;have c0:∀x:Ext w1,x.w.cell? ⟨w.heap.size,0,none⟩=some (aG n):=fun x=>x.cell (K1.cell 0);have c1:∀x:Ext w1,x.w.cell? ⟨w.heap.size,1,none⟩=some (aA a l.length c):=fun x=>x.cell (K1.cell 1);clear hn hy b6 hM hc b3 Z Y I;by_cases D:y=M
    ·have d0:(y==M)=true:=by simp[D]
     have S:=aH D;clear D;go_wp2_with fail;refine bH _ aO aO ?_
     repeat(first|go_big_quiet_skip|(go_big_quiet_want;go_big_quiet_op;first|go_big_quiet_on|(apply Exists.intro;refine⟨fun _=>?_,?_⟩;(go_at_call 28;exact bW (R.out _));go_big_quiet_on)))
     refine wpQuiet_nil ?_;rintro w3 ⟨⟨w3,z⟩,rfl⟩
     try dsimp only
     have K3:=K1.keep z;have B3:=F.after z F.size;have o3:=O1.out.keep z;have r3:=o3.lt;have z3:=K3.lt;clear G e4 c0 c1;go_wp2_with (at_builtin;refine dA rfl _ _ _ rfl 3 underlying25 aN (w.heap.size+1) _ _ (k:Int) w3.heap.size rfl rfl (by simp) (o3.alloc _) ⟨by omega,by omega⟩ (by have:=XL l (eM l) k;omega) aT ?_;intro v' w6 J b0;obtain⟨av,nv,cv,rfl⟩:=J.shape3);have B6:Below w w w6:=(B3.alloc B3.size (.cells #[(k:Int)] 3)).grown b0 aT (fun q hq=>by have:=(r3 q hq).1;omega);have K6:=(K3.alloc (.cells #[(k:Int)] 3)).grow b0 (fun e=>by have:=(r3 _ e).1;omega);go_roundw
     case rel=>exact⟨k+1,av,nv,cv,by omega,rfl,by go_num,by rw[HN.out,if_pos S.out];exact J,K6,B6,fun h=>by rw[HX.out.2]at h;cases h⟩
     case measure=>simp[intOf];omega
    ·have d0:(y==M)=false:=by simp[D]
     have S:=aH D;clear D;go_wp2_with fail;refine bH _ aO aO ?_
     repeat(first|go_big_quiet_skip|(go_big_quiet_want;go_big_quiet_op;first|go_big_quiet_on|(apply Exists.intro;refine⟨fun _=>?_,?_⟩;(go_at_call 28;exact bW (R.out _));go_big_quiet_on)))
     refine wpQuiet_nil ?_;rintro w3 ⟨⟨w3,z⟩,rfl⟩
     try dsimp only
     go_wp2;go_roundw
     case rel=>exact⟨k+1,ad,nn,cp,by omega,rfl,by go_num,by rw[HN.out,if_neg S.out];exact O1.out.keep z,K1.keep z,F.after z F.size,fun h=>by rw[HX.out.2]at h;cases h⟩
     case measure=>simp[intOf];omega
   ·have b5:¬(k:Int)<(l.length:Int):=aD;have b4:k=l.length:=aD;rw[b4,<-HX.out.1]at Z;have O1:=aH Z;have O:=aH (dH n l _ w1 (hv.below F aI));clear b4 Z I;go_wp2_with (go_at_call 20;refine O.out.mono ?_;rintro e w2 ⟨rfl,b2⟩);go_ret2;exact⟨ad,nn,cp,rfl,(O1.out.keep b2).mono aD,F.after b2 F.size⟩
theorem TV(w:World)(n:Int)(v:Value)(l:List Int)(hv:aK w v l)(hl:l.length<=1048576):
  Calls prog 27 #[.agg #[n,v]] w fun e w'=>e=.returned (.tuple #[(sL n l),.bool (fO n l)])/\Below w w w':=by
 obtain⟨a,c,rfl⟩:=hv.shape;go_enter func27,ntmps27;go_wp2_with fail;refine bU ?_;intro V hV;have B:Below w w V:=gY hV;have K:aP V w 27 #[n,aA a l.length c]:=gJ hV;clear hV;refine(pY n l _ V (hv.below B aI) hl).mono ?_;rintro e w1 ⟨rfl,b1⟩;have K:=K.keep b1;have B:=B.after b1 B.size;have G:=K.cell
 cases J:fO n l with
 |false=>
  have hx:sL n l=0:=by unfold sL;rw[J];rfl
  have HX:=aH (And.intro hx J);clear hx J;go_wp2;go_ret2;exact⟨by rw[HX.out.1,HX.out.2];rfl,B⟩
 |true=>
  have hf:aY n l=true:=by unfold fO at J;exact(Bool.and_eq_true_iff.1 J).1
  have hx:sL n l=qK (2^n.toNat-1) (nP n l) (nP n l).length:=by unfold sL;rw[J];rfl
  obtain⟨b8,b7,a6⟩:=SN hf;have D:0<(nP n l).length:=List.length_pos_iff.2 b8;clear b8;obtain⟨h0,h5,_,_⟩:=kP hf;have HX:=aH (And.intro hx J);obtain⟨q,hq⟩:=aJ (nP n l);have Z:=CA w1 n _ l (hv.below B aI);rw[<-hq]at Z b7 a6 D;have c8:=aH Z;have HQ:=aH hq;have a7:=aH a6;clear hx J hf Z hq a6;go_wp2_with fail;clear G;refine c8.out.mono ?_;rintro e w2 ⟨p,i,cc,rfl,o,b2⟩;have K:=K.keep b2;have B1:=B.after b2 B.size;have hi:i=q.length:=by obtain⟨_,_,h⟩:=o.shape;injection h
  subst hi;obtain⟨a1,bq,N,c1,e8,e5,F,Y,I⟩:=o.ints.view prog 25 3 underlying25 aN;injection e8 with h1 h2 h3;subst h1 h3;have hM:=cJ n.toNat 5 aD;obtain⟨M,a9⟩:∃M:Int,M=2^n.toNat-1:=⟨_,rfl⟩;have g0:0<=M/\M<64:=by have h1:=hM.1;have h2:=hM.2;simp at h1;omega
  have c7:=aH a9;have e7:=a7.out _ (List.getElem_mem D);have R:qK M q 1=q[0]:=by
   show bB M (q.getD 0 0)=_;rw[aS q 0 D];unfold bB;have e1:∀y:Nat,y<2^n.toNat->(2^n.toNat-1) &&& y=y:=fun y hy=>by rw[Nat.and_comm,Nat.and_two_pow_sub_one_eq_mod];exact Nat.mod_eq_of_lt hy
   have h4:((2^n.toNat:Nat):Int)=(2:Int)^n.toNat:=by push_cast;rfl
   have hp:=Nat.two_pow_pos n.toNat;have d0:M.toNat=2^n.toNat-1:=aD;rw[d0,e1 _ aD];omega
  have c0:w2.cell? ⟨bq,N,none⟩=some (aG q[0]):=Y 0 D;have i0:∀W,(Instr.indexAt 25 (aA p q.length cc) (aG 0)).run prog W=.ok (.pointer (some ⟨bq,N,none⟩)) W:=fun W=>F W 0 D;obtain⟨q0,b6⟩:=aJ (q[0]);rw[<-b6]at R c0 e7;have O:=aH R;clear hM a9 o b6 R;go_wp2_with fail;go_loop [6,7] (fun m i=>∃k:Nat,1<=k/\k<=q.length/\i=aG k/\m=aG (qK M q k)/\0<=qK M q k/\qK M q k<64) (fun _ i=>q.length-(intOf i).toNat)
  case atStart=>exact⟨1,aI,D,rfl,by rw[O.out],by rw[O.out];omega,by rw[O.out];omega⟩
  case round=>
   obtain⟨k,g6,hk,rfl,rfl,I,b0⟩:=hrel;by_cases hlt:k<q.length
   ·have b4:(k:Int)<(q.length:Int):=aD;have ck:=Y k hlt;have ik:=fun W=>F W k hlt;have hm:=a7.out _ (List.getElem_mem hlt);have hn:qK M q (k+1)=bB (qK M q k) q[k]:=by rw[qK,aS q k hlt]
    obtain⟨y,hy⟩:=aJ (q[k]);obtain⟨z,hz⟩:=aJ (qK M q k);rw[<-hy]at ck hm hn;rw[<-hz]at hn I b0 ⊢;have g5:=dU I aD hm.1 aD;have S:=kE z y 64 I b0;rw[<-hn]at S;have HN:=aH hn;have c6:=aH S;clear hn S hy hz hm Y F;go_wp2;go_round
    case rel=>exact⟨k+1,by omega,by omega,by go_num,by rw[HN.out],c6.out⟩
    case measure=>simp[intOf];omega
   ·have b4:¬(k:Int)<(q.length:Int):=aD;have b3:k=q.length:=aD;have HK:=aH b3;clear b3;go_wp2;go_ret2;exact⟨by rw[HX.out.1,HX.out.2,<-HQ.out,<-c7.out,<-HK.out];rfl,B1⟩
end
end Go.Proofs.YtkdbkjjacgigiaaGreatDoor
