/- Lemmas for CardClaims, part 38 of 52. No condition. -/
import Derived.Test.YtipejodijbjpcaaGreatDoorQ02
import Derived.Test.YtipejodijbjpcaaGreatDoorQ03
import Derived.Test.YtipejodijbjpcaaGreatDoorQ05
import Derived.Test.YtipejodijbjpcaaGreatDoorQ06
import Derived.Test.YtipejodijbjpcaaGreatDoorQ08
import Derived.Test.YtipejodijbjpcaaGreatDoorQ16
import Derived.Test.YtipejodijbjpcaaGreatDoorQ27
import Derived.Test.YtipejodijbjpcaaGreatDoorQ35
import Derived.Test.YtipejodijbjpcaaGreatDoorQ36
import Derived.Test.YtipejodijbjpcaaGreatDoorQ37
import Derived.Maps.AppendAt
import Derived.StillTailTactics
import Derived.IntWalk
set_option maxRecDepth 100000
set_option maxHeartbeats 64000000
namespace Go.Proofs.YtipejodijbjpcaaGreatDoor
section
open Go.RowKit Go.G5
theorem FH(w:World)(k n1:Int)(L:Value)(l1:List Int)(h1:aD w L l1)(n2:Int)(v2:Value)(l2:List Int)(h2:aD w v2 l2)(n3:Int)(v3:Value)(l3:List Int)(h3:aD w v3 l3)(q st:Int)(v4:Value)(l4:List Int)(h4:aD w v4 l4)(M:l1.length<=1048576)(N:l2.length<=1048576):
  Calls Tryz.prog 55 #[clV k n1 L n2 v2 n3 v3 q st v4] w fun e w'=>e=.returned (.bool (fQ k n1 l1 n2 l2 n3 l3 q st l4))/\Below w.heap.size w w':=by
 by_cases o:k=1
 ·subst o
  exact PX w n1 L l1 h1 n2 v2 l2 h2 n3 v3 l3 h3 q st v4 l4 h4
 by_cases z:k=2
 ·subst z
  exact RV w n1 L l1 h1 n2 v2 l2 h2 n3 v3 l3 h3 q st v4 l4 h4
 by_cases A:k=3
 ·subst A
  exact QR w n1 L l1 h1 n2 v2 l2 h2 n3 v3 l3 h3 q st v4 l4 h4 M N
 by_cases D:k=4
 ·subst D
  exact RO w n1 L l1 h1 n2 v2 l2 h2 n3 v3 l3 h3 q st v4 l4 h4 M N
 by_cases F:k=5
 ·subst F
  exact PR w n1 L l1 h1 n2 v2 l2 h2 n3 v3 l3 h3 q st v4 l4 h4 M
 by_cases I:k=6
 ·subst I
  exact RJ w n1 L l1 h1 n2 v2 l2 h2 n3 v3 l3 h3 q st v4 l4 h4
 by_cases K:k=7
 ·subst K
  exact RR w n1 L l1 h1 n2 v2 l2 h2 n3 v3 l3 h3 q st v4 l4 h4
 have O:fQ k n1 l1 n2 l2 n3 l3 q st l4=false:=by unfold fQ;rw[if_neg o,if_neg z,if_neg A,if_neg D,if_neg F,if_neg I,if_neg K]
 have Q:=Lib.hid O;obtain⟨R,c1,rfl⟩:=h1.shape;obtain⟨a2,c2,rfl⟩:=h2.shape;obtain⟨a3,c3,rfl⟩:=h3.shape;obtain⟨a4,c4,rfl⟩:=h4.shape;have s1:(k==1)=false:=by simpa using o
 have s2:(k==2)=false:=by simpa using z
 have s3:(k==3)=false:=by simpa using A
 have s4:(k==4)=false:=by simpa using D
 have S:(k==5)=false:=by simpa using F
 have U:(k==6)=false:=by simpa using I
 have Y:(k==7)=false:=by simpa using K
 clear O o z A D F I K;go_enter Tryz.func55,Tryz.ntmps55;go_wp2;go_ret;exact⟨aE Q.out.symm,cD _ _ _⟩
end
section
open Go.RowKit Go.G5
structure RankF (N:Nat) (r:Nat->Int):Prop where
 zero:r 0=0
 up:∀s e,s<2^N->e<N->s.testBit e=false->r s<=r (s ||| 2^e)/\r (s ||| 2^e)<=r s+1
 sub:∀A B,A<2^N->B<2^N->r (A ||| B)+r (A &&& B)<=r A+r B
theorem TJ:∀B:Nat,B<32->∀j:Nat,j<5->aY (B%2^(j+1))=aY (B%2^j)+if B.testBit j then 1 else 0:=by decide +kernel
theorem JO:∀a:Nat,a<32->∀e:Nat,e<5->a.testBit e=false->aY (a ||| 2^e)=aY a+1:=by decide +kernel
theorem TH:∀a:Nat,a<32->∀b:Nat,b<32->a &&& b=0->aY (a ||| b)=aY a+aY b:=by decide +kernel
theorem UK(A B j:Nat):A ||| B%2^(j+1)=if B.testBit j then (A ||| B%2^j) ||| 2^j else A ||| B%2^j:=by
 have key:∀i,j≠i->decide (i<j+1)=decide (i<j):=fun i h=>decide_eq_decide.2 ⟨fun q=>by omega,fun q=>by omega⟩
 cases hb:B.testBit j with
 |true=>
  rw[if_pos rfl]
  apply Nat.eq_of_testBit_eq
  intro i;simp only[Nat.testBit_or,Nat.testBit_mod_two_pow,Nat.testBit_two_pow]
  by_cases o:j=i
  ·subst o;simp[hb]
  ·rw[key i o,decide_eq_false o,Bool.or_false]
 |false=>
  rw[if_neg (by simp)]
  apply Nat.eq_of_testBit_eq
  intro i;simp only[Nat.testBit_or,Nat.testBit_mod_two_pow]
  by_cases o:j=i
  ·subst o;simp[hb]
  ·rw[key i o]
theorem AM{N:Nat}(h:N<=5):(2:Nat)^N<=32:=Nat.pow_le_pow_right (n:=2) (by decide) h
theorem RankF.chain{N:Nat}{r:Nat->Int}(R:RankF N r)(L:N<=5)(A B:Nat)(I:A<2^N)(K:B<2^N):∀j,j<=N->r A<=r (A ||| B%2^j)/\r (A ||| B%2^j)<=r A+(aY (B%2^j):Int):=by
 have F:=AM L;intro j
 induction j with
 |zero=>intro _;rw[Nat.pow_zero,Nat.mod_one,Nat.or_zero,dR];omega
 |succ j ih=>
  intro M;have ih:=ih (by omega);have D:=TJ B (by omega) j (by omega);have hlt:A ||| B%2^j<2^N:=Nat.or_lt_two_pow I (Nat.lt_of_le_of_lt (Nat.mod_le _ _) K);rw[UK]
  cases hb:B.testBit j with
  |true=>
   rw[hb,if_pos rfl]at D;rw[if_pos rfl]
   cases z:(A ||| B%2^j).testBit j with
   |true=>
    have e:(A ||| B%2^j) ||| 2^j=A ||| B%2^j:=by
     apply Nat.eq_of_testBit_eq
     intro i;rw[Nat.testBit_or,Nat.testBit_two_pow]
     by_cases o:j=i
     ·subst o;rw[z];rfl
     ·rw[decide_eq_false o,Bool.or_false]
    rw[e];omega
   |false=>
    have O:=R.up _ j hlt (by omega) z;omega
  |false=>
   rw[hb,if_neg (by simp)]at D;rw[if_neg (by simp)];omega
theorem RankF.le_or{N:Nat}{r:Nat->Int}(R:RankF N r)(D:N<=5)(A B:Nat)(z:A<2^N)(o:B<2^N):r A<=r (A ||| B)/\r (A ||| B)<=r A+(aY B:Int):=by
 have h:=R.chain D A B z o N (Nat.le_refl _);rw[Nat.mod_eq_of_lt o]at h;exact h
def iF(m U V:Nat):Prop:=∀i,V.testBit i=(decide (i<m)&&!U.testBit i)
theorem qS{m U i:Nat}(h:U<2^m)(o:m<=i):U.testBit i=false:=Nat.testBit_lt_two_pow (Nat.lt_of_lt_of_le h (Nat.pow_le_pow_right (by decide) o))
theorem iF.lt{m U V:Nat}(h:iF m U V):V<2^m:=Nat.lt_pow_two_of_testBit V (fun i o=>by rw[h i,decide_eq_false (by omega),Bool.false_and])
theorem iF.add2{m U V:Nat}(h:iF m U V)(z:U<2^m):iF (m+1) U (V ||| 2^m):=by
 intro i;rw[Nat.testBit_or,Nat.testBit_two_pow,h i]
 by_cases o:m=i
 ·subst o;rw[qS z (Nat.le_refl _)];simp
 ·rw[decide_eq_false o,Bool.or_false]
  have:decide (i<m+1)=decide (i<m):=decide_eq_decide.2 ⟨fun q=>by omega,fun q=>by omega⟩;rw[this]
theorem iF.add1{m U V:Nat}(h:iF m U V):iF (m+1) (U ||| 2^m) V:=by
 intro i;rw[Nat.testBit_or,Nat.testBit_two_pow,h i]
 by_cases o:m=i
 ·subst o;simp
 ·rw[decide_eq_false o,Bool.or_false]
  have:decide (i<m+1)=decide (i<m):=decide_eq_decide.2 ⟨fun q=>by omega,fun q=>by omega⟩;rw[this]
theorem iF.meet{m U V o z:Nat}(h:iF m U V)(A:iF m o z):iF m (U ||| o) (V &&& z):=by
 intro i;rw[Nat.testBit_or,Nat.testBit_and,h i,A i]
 cases decide (i<m)<;>cases U.testBit i<;>cases o.testBit i<;>rfl
theorem iF.join{m U V o z:Nat}(h:iF m U V)(A:iF m o z):iF m (U &&& o) (V ||| z):=by
 intro i;rw[Nat.testBit_or,Nat.testBit_and,h i,A i]
 cases decide (i<m)<;>cases U.testBit i<;>cases o.testBit i<;>rfl
theorem tT(C U W m:Nat)(z:U.testBit m=false):(C ||| U) &&& ((C ||| 2^m) ||| W)=C ||| (U &&& W):=by
 apply Nat.eq_of_testBit_eq
 intro i;simp only[Nat.testBit_or,Nat.testBit_and,Nat.testBit_two_pow]
 by_cases o:m=i
 ·subst o;rw[z];simp
 ·rw[decide_eq_false o]
  cases C.testBit i<;>cases U.testBit i<;>cases W.testBit i<;>rfl
theorem wW(C U W m:Nat):(C ||| U) ||| ((C ||| 2^m) ||| W)=C ||| ((U ||| W) ||| 2^m):=by
 apply Nat.eq_of_testBit_eq
 intro i;simp only[Nat.testBit_or,Nat.testBit_two_pow]
 cases C.testBit i<;>cases U.testBit i<;>cases W.testBit i<;>cases decide (m=i)<;>rfl
theorem sG{N:Nat}(A:N<=5){r1 r2:Nat->Int}(K:RankF N r1)(L:RankF N r2)(m:Nat)(hm:m<=N)(C:Nat)(M:C<2^N)(S U V:Nat)(hS:S<2^m)(hU:U<2^m)(I:iF m U V)
  (h1:r1 (C ||| S)=(aY C:Int)+(aY S:Int)) (h2:r2 (C ||| S)=(aY C:Int)+(aY S:Int)):2*(aY C:Int)+(aY S:Int)<=r1 (C ||| U)+r2 (C ||| V):=by
 have a6:=AM A;have b3:(2:Nat)^m<=2^N:=Nat.pow_le_pow_right (by decide) hm;have a8:=I.lt;have D:S &&& U<2^N:=Nat.lt_of_le_of_lt Nat.and_le_left (by omega);have F:S &&& V<2^N:=Nat.lt_of_le_of_lt Nat.and_le_left (by omega);have e1:(S &&& U) ||| (S &&& V)=S:=by
  apply Nat.eq_of_testBit_eq
  intro i;rw[Nat.testBit_or,Nat.testBit_and,Nat.testBit_and,I i]
  by_cases hi:i<m
  ·rw[decide_eq_true hi]
   cases S.testBit i<;>cases U.testBit i<;>rfl
  ·rw[qS hS (by omega)];rfl
 have e2:(S &&& U) &&& (S &&& V)=0:=by
  apply Nat.eq_of_testBit_eq
  intro i;rw[Nat.testBit_and,Nat.testBit_and,Nat.testBit_and,I i,Nat.zero_testBit]
  cases S.testBit i<;>cases U.testBit i<;>simp
 have hp:=TH (S &&& U) (by omega) (S &&& V) (by omega) e2;rw[e1]at hp;have o:C ||| (S &&& U)<2^N:=Nat.or_lt_two_pow M D;have z:C ||| (S &&& V)<2^N:=Nat.or_lt_two_pow M F;have O:=(K.le_or A (C ||| (S &&& U)) (S &&& V) o F).2;have a2:=(K.le_or A (C ||| (S &&& U)) U o (by omega)).1;have Q:=(L.le_or A (C ||| (S &&& V)) (S &&& U) z D).2;have b2:=(L.le_or A (C ||| (S &&& V)) V z (by omega)).1;have f1:(C ||| (S &&& U)) ||| (S &&& V)=C ||| S:=by rw[Nat.or_assoc,e1]
 have R:(C ||| (S &&& V)) ||| (S &&& U)=C ||| S:=by rw[Nat.or_assoc,Nat.or_comm (S &&& V),e1]
 have Y:(C ||| (S &&& U)) ||| U=C ||| U:=by
  apply Nat.eq_of_testBit_eq
  intro i;simp only[Nat.testBit_or,Nat.testBit_and]
  cases C.testBit i<;>cases S.testBit i<;>cases U.testBit i<;>rfl
 have Z:(C ||| (S &&& V)) ||| V=C ||| V:=by
  apply Nat.eq_of_testBit_eq
  intro i;simp only[Nat.testBit_or,Nat.testBit_and]
  cases C.testBit i<;>cases S.testBit i<;>cases V.testBit i<;>rfl
 rw[f1]at O;rw[Y]at a2;rw[R]at Q;rw[Z]at b2;omega
theorem RC{N:Nat}(hN:N<=5){r1 r2:Nat->Int}(Q:RankF N r1)(R:RankF N r2):∀m,m<=N->∀C,C<2^N->(∀i,i<m->C.testBit i=false)->r1 C=(aY C:Int)->r2 C=(aY C:Int) ->
  ∃S U V,S<2^m/\U<2^m/\iF m U V/\r1 (C ||| S)=(aY C:Int)+(aY S:Int)/\r2 (C ||| S)=(aY C:Int)+(aY S:Int)/\r1 (C ||| U)+r2 (C ||| V)=2*(aY C:Int)+(aY S:Int):=by
 have f0:=AM hN;intro m
 induction m with
 |zero=>
  intro _ C M _ h1 h2;refine⟨0,0,0,by decide,by decide,fun i=>by simp,?_,?_,?_⟩
  all_goals
   rw[Nat.or_zero,dR];omega
 |succ m ih=>
  intro hm C M L h1 h2;have c6:(2:Nat)^m<2^N:=Nat.pow_lt_pow_right (by decide) hm;have b0:(2:Nat)^m<2^(m+1):=Nat.pow_lt_pow_right (by decide) (Nat.lt_succ_self m);have I:C.testBit m=false:=L m (Nat.lt_succ_self m);obtain⟨O,o,z,f2,K,A,s1,s2,s3⟩:=ih (by omega) C M (fun i hi=>L i (by omega)) h1 h2;have b6:=A.lt;have a1:=qS K (Nat.le_refl m);have a6:=qS b6 (Nat.le_refl m);have a7:C ||| o<2^N:=Nat.or_lt_two_pow M (by omega);have a8:C ||| z<2^N:=Nat.or_lt_two_pow M (by omega);have u1:=Q.up (C ||| o) m a7 (by omega) (by rw[Nat.testBit_or,I,a1];rfl);have u2:=R.up (C ||| z) m a8 (by omega) (by rw[Nat.testBit_or,I,a6];rfl);have b5:C ||| (o ||| 2^m)=(C ||| o) ||| 2^m:=by rw[Nat.or_assoc]
  have Z:C ||| (z ||| 2^m)=(C ||| z) ||| 2^m:=by rw[Nat.or_assoc]
  by_cases hv:r2 ((C ||| z) ||| 2^m)=r2 (C ||| z)
  ·exact⟨O,o,z ||| 2^m,by omega,by omega,A.add2 K,s1,s2,by rw[Z,hv];exact s3⟩
  by_cases hu:r1 ((C ||| o) ||| 2^m)=r1 (C ||| o)
  ·exact⟨O,o ||| 2^m,z,by omega,Nat.or_lt_two_pow (by omega) b0,A.add1,s1,s2,by rw[b5,hu];exact s3⟩
  have F:C ||| 2^m<2^N:=Nat.or_lt_two_pow M c6;have b3:aY (C ||| 2^m)=aY C+1:=JO C (by omega) m (by omega) I;have c1:=Q.up C m M (by omega) I;have c2:=R.up C m M (by omega) I;have m1:=Q.sub (C ||| o) (C ||| 2^m) a7 F;have m2:=R.sub (C ||| z) (C ||| 2^m) a8 F;have z1:=tT C o 0 m a1;have z2:=tT C z 0 m a6;rw[Nat.or_zero,Nat.and_zero,Nat.or_zero]at z1 z2;have y1:=wW C o 0 m;have y2:=wW C z 0 m;rw[Nat.or_zero,Nat.or_zero]at y1 y2;rw[z1,y1,b5]at m1;rw[z2,y2,Z]at m2;obtain⟨D,Y,V1,c5,f3,a9,t1,t2,t3⟩:=ih (by omega) (C ||| 2^m) F (fun i hi=>by rw[Nat.testBit_or,Nat.testBit_two_pow,L i (by omega),decide_eq_false (by omega)];rfl) (by omega) (by omega);have e0:=a9.lt
  by_cases hk:aY O<=aY D
  ·have b1:aY (D ||| 2^m)=aY D+1:=JO D (by omega) m (by omega) (qS c5 (Nat.le_refl m))
   have e:C ||| (D ||| 2^m)=(C ||| 2^m) ||| D:=by rw[Nat.or_comm D,Nat.or_assoc]
   have hS:D ||| 2^m<2^(m+1):=Nat.or_lt_two_pow (by omega) b0;have q1:r1 (C ||| (D ||| 2^m))=(aY C:Int)+(aY (D ||| 2^m):Int):=by rw[e,t1,b1,b3];push_cast;omega
   have q2:r2 (C ||| (D ||| 2^m))=(aY C:Int)+(aY (D ||| 2^m):Int):=by rw[e,t2,b1,b3];push_cast;omega
   have hw:=sG hN Q R (m+1) hm C M _ o (z ||| 2^m) hS (by omega) (A.add2 K) q1 q2;refine⟨D ||| 2^m,o,z ||| 2^m,hS,by omega,A.add2 K,q1,q2,?_⟩;rw[Z]at hw ⊢;rw[b1]at hw ⊢
   push_cast at hw ⊢
   omega
  ·have k1:=Q.sub (C ||| o) ((C ||| 2^m) ||| Y) a7 (Nat.or_lt_two_pow F (by omega))
   have k2:=R.sub (C ||| z) ((C ||| 2^m) ||| V1) a8 (Nat.or_lt_two_pow F (by omega));rw[tT C o Y m a1,wW]at k1;rw[tT C z V1 m a6,wW]at k2;have cA:iF (m+1) ((o ||| Y) ||| 2^m) (z &&& V1):=(A.meet a9).add1;have b9:o &&& Y<2^m:=Nat.lt_of_le_of_lt Nat.and_le_left K;have cB:iF (m+1) (o &&& Y) ((z ||| V1) ||| 2^m):=(A.join a9).add2 b9;have lA:(o ||| Y) ||| 2^m<2^(m+1):=Nat.or_lt_two_pow (Nat.or_lt_two_pow (by omega) (by omega)) b0;have wA:=sG hN Q R (m+1) hm C M O _ _ (by omega) lA cA s1 s2;have wB:=sG hN Q R (m+1) hm C M O _ _ (by omega) (by omega) cB s1 s2;rw[b3]at t3
   push_cast at t3
   by_cases hg:r1 (C ||| ((o ||| Y) ||| 2^m))+r2 (C ||| (z &&& V1))=2*(aY C:Int)+(aY O:Int)
   ·exact⟨O,_,_,by omega,lA,cA,s1,s2,hg⟩
   ·exact⟨O,_,_,by omega,by omega,cB,s1,s2,by omega⟩
theorem YA{N:Nat}(A:N<=5){r1 r2:Nat->Int}(o:RankF N r1)(z:RankF N r2):
  ∃S U V,S<2^N/\U<2^N/\iF N U V/\r1 S=(aY S:Int)/\r2 S=(aY S:Int)/\r1 U+r2 V=(aY S:Int):=by
 obtain⟨S,U,V,a,b,c,d,e,f⟩:=RC A o z N (Nat.le_refl _) 0 (Nat.two_pow_pos N) (fun i _=>Nat.zero_testBit i) (by rw[o.zero,dR];rfl) (by rw[z.zero,dR];rfl);simp only[Nat.zero_or,dR]at d e f;exact⟨S,U,V,a,b,c,by omega,by omega,by omega⟩
end
section
open Go.RowKit Go.G5
end
section
open Go.RowKit Go.G5
def XU(l:List Int)(os:List (List Int))(e:Nat):Nat->Int
 |0=>0
 |j+1=>XU l os e j+(dS l (os.getD j [])).getD e 0
def one(a i:Nat):Int:=if a=i then 1 else 0
end
end Go.Proofs.YtipejodijbjpcaaGreatDoor
section
namespace Go.G5
open Go Go.RowKit
theorem eG.lit0{z o:TypeId}{B:Nat}(w:World)(A:B<=w.heap.size):eG z o B (w.alloc (.cells #[] o)) (.slice (some ⟨w.heap.size,0,none⟩) 0 0) []:=
 ⟨[],World.ownsRow_lit w #[] 0 A (Nat.zero_le _) rfl,by simp⟩
theorem eG.alloc{z A:TypeId}{B:Nat}{w:World}{v:Value}{D:List (List Int)}(h:eG z A B w v D)(o:Obj):eG z A B (w.alloc o) v D:=h.keep (aM w o)
theorem eG.one{z A:TypeId}{B:Nat}{w:World}{v:Value}{l:List Int}(h:aC z B w v l)(D:B<=w.heap.size):eG z A B (w.alloc (.cells #[v] A)) (.slice (some ⟨w.heap.size,0,none⟩) 1 1) [l]:=by
 refine⟨[v],World.ownsRow_lit w #[v] 1 D (by decide) rfl,?_⟩;intro k u o
 cases k with
 |zero=>simp only[List.getElem?_cons_zero,Option.some.injEq]at o;subst o;exact⟨l,rfl,h.alloc _⟩
 |succ k=>simp at o
end Go.G5
namespace Go.Proofs.YtipejodijbjpcaaGreatDoor
open Go.RowKit Go.G5
structure Dist (N:Nat) (o:List Int):Prop where
 bd:∀x∈o,0<=x/\x<(N:Int)
 nd:o.Nodup
end Go.Proofs.YtipejodijbjpcaaGreatDoor
end
namespace Go.Proofs.YtipejodijbjpcaaGreatDoor
section
open Go.RowKit Go.G5
def XY(o x:List Int)(p:Int):Nat->List Int
 |0=>o
 |k+1=>(XY o x p k).set (x.getD k 0).toNat p
def CR(g:Nat)(L:List Int):Nat->List Int×Int
 |0=>(List.replicate g 0,2^g-1)
 |j+1=>(XY (CR g L j).1 (fA (cQ (L.getD j 0) (CR g L j).2)) (60/cK (cQ (L.getD j 0) (CR g L j).2)) (fA (cQ (L.getD j 0) (CR g L j).2)).length,mV (CR g L j).2 (L.getD j 0))
def tN(g:Int)(l:List Int):List Int:=if tL g l then (CR g.toNat (qO g l) (qO g l).length).1 else []
end
section
open Go.RowKit Go.G5
def OO:List Int->Nat->Int->Option (List Int)
 |[],_,left=>if left=0 then some [] else none
 |_::_,0,left=>if left=0 then some [] else none
 |s::t,k+1,left=>if left=0 then some [] else
  if cQ s left=0 then OO t (k+1) left else
  match OO t k (mV left s) with
  |some x=>some (s::x)
  |none=>OO t (k+1) left
def PG(f:Nat->Option (List Int)):Nat->Nat->Option (List Int)
 |_,0=>none
 |k,n+1=>match f k with
  |some x=>some x
  |none=>PG f (k+1) n
def MT(g:Int)(l:List Int):Option (List Int):=if bW g l then PG (fun k=>OO l k (2^g.toNat-1)) 0 (g.toNat+1) else none
def GR(g:Int)(l:List Int):List Int:=(MT g l).getD []
def VU(g:Int)(l:List Int):Bool:=(MT g l).isSome
end
section
open Go.RowKit Go.G5
def b2(b:Bool):Int:=if b then 1 else 0
theorem CX(y e:Nat):aW y e=y.testBit e:=by
 unfold aW Nat.testBit;rw[Nat.shiftRight_eq_div_pow,Nat.one_and_eq_mod_two]
 rcases Nat.mod_two_eq_zero_or_one (y/2^e) with h|h<;>rw[h]<;>rfl
def wS(p:List Int)(s e:Nat):Int:=if aW s e then p.getD e 0 else 0
def WJ(p:List Int)(s:Nat):Int:=wS p s 0+wS p s 1+wS p s 2+wS p s 3+wS p s 4+wS p s 5
structure PrInv (g:Nat) (l L:List Int) (j:Nat) (p:List Int) (left:Int):Prop where
 run:wH l (64-j) left=some (L.drop j)
 bd:0<=left/\left<2^g
 len:p.length=g
 zero:∀e,e<6->aW left.toNat e=true->p.getD e 0=0
 pos:∀e,0<=p.getD e 0
 top:∀e,p.getD e 0<=60
 XU:WJ p (2^g-1)=60*j
 pay:∀s∈l,WJ p s.toNat<=JW (aY s.toNat)-JW (aY (s.toNat &&& left.toNat))
end
section
open Go.RowKit Go.G5
structure PriceFacts (g:Int) (l:List Int):Prop where
 same:VU g l=tL g l
 greedy:tL g l=true->GK g l (qO g l)=true
 small:tL g l=true->GK g l (GR g l)=true
 less:tL g l=true->(GR g l).length<=(qO g l).length
def YB(l:List Int):Int:=l.foldl (· + ·) 0
structure PriceSums (g:Int) (l:List Int):Prop where
 total:YB (tN g l)=60*(qO g l).length
 pays:∀s∈l,WJ (tN g l) s.toNat<=JW (aY s.toNat)
 bound:60*((qO g l).length:Int)<=JW (vT g l).toNat*(GR g l).length
 size:0<=vT g l/\vT g l<=6
 pos:∀e,0<=(tN g l).getD e 0
 top:∀e,(tN g l).getD e 0<=60
 len:(tN g l).length=g.toNat
end
section
open Go.RowKit Go.G5
end
section
open Go.RowKit Go.G5
theorem SW(l:List Int):∀T:List jB,(∀t∈T,jY l t=false)->(eC (dH l) T none)=(none,true):=by
 intro T
 induction T with
 |nil=>intro _;rfl
 |cons t T ih=>
  intro h;have e:dH l none t=(none,true):=by unfold dH;rw[h t (by simp)];rfl
  rw[eC,e,if_pos rfl];exact ih (fun u o=>h u (by simp[o]))
theorem UV(l:List Int):∀T:List jB,(eC (dH l) T none).1=none->∀t∈T,jY l t=false:=by
 intro T
 induction T with
 |nil=>intro _ t ht;cases ht
 |cons u T ih=>
  intro h t ht
  by_cases hb:jY l u=true
  ·have e:dH l none u=(some u,false):=by unfold dH;rw[if_pos hb]
   rw[eC,e]at h;simp at h
  ·have e:dH l none u=(none,true):=by unfold dH;rw[if_neg hb];rfl
   rw[eC,e,if_pos rfl]at h
   rcases List.mem_cons.1 ht with rfl|ht
   ·simpa using hb
   ·exact ih h t ht
theorem UF(n N s i k:Nat)(z:s<N)(o:i<k)(A:k<n)(h1:aW s i=false)(h2:aW s k=false):(s,i,k)∈iE n N:=by
 obtain⟨r,hr⟩:=vF n N s i (k+1) z (by omega) (by omega);rw[hr];refine List.mem_append_left _ (List.mem_append_right _ ?_);rw[kF,h1,h2,decide_eq_true o];simp
theorem S0(s i k:Nat):∀t∈kF s i k,aW t.1 t.2.1=false/\aW t.1 t.2.2=false:=by
 induction k with
 |zero=>intro t h;cases h
 |succ k ih=>
  intro t h;rw[kF,List.mem_append]at h
  rcases h with h|h
  ·exact ih t h
  ·split at h
   ·rename_i o
    rw[List.mem_singleton]at h;simp only[Bool.and_eq_true,Bool.not_eq_true']at o;subst h;exact⟨o.2.1,o.2.2⟩
   ·cases h
theorem PJ(n s i:Nat):∀t∈iQ n s i,aW t.1 t.2.1=false/\aW t.1 t.2.2=false:=by
 induction i with
 |zero=>intro t h;cases h
 |succ i ih=>
  intro t h;rw[iQ,List.mem_append]at h
  rcases h with h|h
  ·exact ih t h
  ·exact S0 s i n t h
theorem DR(n s:Nat):∀t∈iE n s,aW t.1 t.2.1=false/\aW t.1 t.2.2=false:=by
 induction s with
 |zero=>intro t h;cases h
 |succ s ih=>
  intro t h;rw[iE,List.mem_append]at h
  rcases h with h|h
  ·exact ih t h
  ·exact PJ n s n t h
theorem oP(N:Nat)(l:List Int)(o:aN N l=true):cY N l=true↔∀s i k:Nat,s<2^N->i<k->k<N->aW s i=false->aW s k=false->iL l s i k<=0:=by
 have D:iI (N:Int) l=qL N l:=by unfold iI;rw[o,if_pos rfl,Int.toNat_natCast]
 constructor
 ·intro h s i k K z F h1 h2
  have A:qL N l=none:=by
   unfold cY fH at h;rw[o,D,Bool.true_and,Bool.not_eq_true']at h
   cases I:qL N l with
   |none=>rfl
   |some t=>rw[I]at h;cases h
  have:=UV l _ A (s,i,k) (UF N (2^N) s i k K z F h1 h2);unfold jY at this;have:=of_decide_eq_false this;dsimp only at this;omega
 ·intro h
  have A:qL N l=none:=by
   unfold qL;rw[SW l _ (fun t ht=>by
    obtain⟨h1,h2,h3⟩:=IR N (2^N) t ht;have hb:=DR N (2^N) t ht;unfold jY;exact decide_eq_false (by have:=h t.1 t.2.1 t.2.2 h1 h2 h3 hb.1 hb.2;omega))]
  unfold cY fH;rw[o,D,A];rfl
theorem nI(l:List Int)(s:Nat):(dV l).getD s 0=-(l.getD s 0):=by
 by_cases h:s<l.length
 ·rw[aJ (dV l) s (by rw[iP];exact h),wL l s h,aJ l s h]
 ·rw[List.getD_eq_getElem?_getD,List.getElem?_eq_none (by rw[iP];omega),List.getD_eq_getElem?_getD,List.getElem?_eq_none (by omega)];rfl
theorem wV(l:List Int)(s i k:Nat):iL (dV l) s i k=- iL l s i k:=by
 unfold iL;simp only[nI];omega
theorem T7(N:Nat)(l:List Int)(z:aN N l=true):kD N l=true↔∀s i k:Nat,s<2^N->i<k->k<N->aW s i=false->aW s k=false->0<=iL l s i k:=by
 unfold kD;rw[z,Bool.true_and,oP N (dV l) (tA _ _ z)]
 constructor
 ·intro h s i k h1 h2 h3 h4 o
  have:=h s i k h1 h2 h3 h4 o;rw[wV]at this;omega
 ·intro h s i k h1 h2 h3 h4 o
  have:=h s i k h1 h2 h3 h4 o;rw[wV];omega
theorem jU(s e j:Nat):(aP s e).testBit j=(s.testBit j||decide (e=j)):=by
 unfold aP;rw[Nat.testBit_or,Nat.testBit_two_pow]
theorem UP(l:List Int)(s i k:Nat):iL l s i k=dN l (aP s i) k-dN l s k:=by
 unfold iL dN;rw[nG];omega
theorem JH(l:List Int)(s i k:Nat):iL l s i k=iL l s k i:=by
 unfold iL;rw[Nat.or_comm (aP s i)];omega
theorem DS(N:Nat)(l:List Int)(h:∀s i k:Nat,s<2^N->i<k->k<N->aW s i=false->aW s k=false->0<=iL l s i k)
  (A B e:Nat) (R:B<2^N) (he:e<N) (I:∀j,A.testBit j=true->B.testBit j=true) (z:B.testBit e=false):dN l A e<=dN l B e:=by
 have Z:∀s i k:Nat,s<2^N->i≠k->i<N->k<N->s.testBit i=false->s.testBit k=false->0<=iL l s i k:=by
  intro s i k h1 h2 h3 h4 M O;rw[<-CX]at M O
  rcases Nat.lt_or_gt_of_ne h2 with Q|Q
  ·exact h s i k h1 Q h4 M O
  ·rw[JH];exact h s k i h1 Q h3 O M
 have step:∀j,dN l A e<=dN l (A ||| B%2^j) e:=by
  intro j
  induction j with
  |zero=>simp[Nat.mod_one]
  |succ j ih=>
   by_cases hb:B.testBit j=true/\A.testBit j=false
   ·have o:A ||| B%2^(j+1)=aP (A ||| B%2^j) j:=by
     apply Nat.eq_of_testBit_eq
     intro i;rw[jU,Nat.testBit_or,Nat.testBit_or,Nat.testBit_mod_two_pow,Nat.testBit_mod_two_pow]
     by_cases D:j=i
     ·subst D;simp[hb.1]
     ·rw[decide_eq_false D,Bool.or_false]
      congr 2
      exact decide_eq_decide.2 ⟨fun q=>by omega,fun q=>by omega⟩
    have U:j<N:=by
     rcases Nat.lt_or_ge j N with q|q
     ·exact q
     ·have:=Nat.testBit_lt_two_pow (x:=B) (i:=j) (Nat.lt_of_lt_of_le R (Nat.pow_le_pow_right (by decide) q))
      rw[this]at hb;cases hb.1
    have hlt:A ||| B%2^j<2^N:=by
     apply Nat.lt_pow_two_of_testBit
     intro i hi;have K:=Nat.testBit_lt_two_pow (x:=B) (i:=i) (Nat.lt_of_lt_of_le R (Nat.pow_le_pow_right (by decide) hi));rw[Nat.testBit_or,Nat.testBit_mod_two_pow,K]
     cases F:A.testBit i with
     |false=>simp
     |true=>rw[I i F]at K;cases K
    have Y:j≠e:=by intro q;rw[q,z]at hb;cases hb.1
    have h1:(A ||| B%2^j).testBit j=false:=by rw[Nat.testBit_or,Nat.testBit_mod_two_pow,hb.2];simp
    have h2:(A ||| B%2^j).testBit e=false:=by
     rw[Nat.testBit_or,Nat.testBit_mod_two_pow,z]
     cases F:A.testBit e with
     |false=>simp
     |true=>rw[I e F]at z;cases z
    have:=Z _ j e hlt Y U he h1 h2;rw[UP]at this;rw[o];omega
   ·have o:A ||| B%2^(j+1)=A ||| B%2^j:=by
     apply Nat.eq_of_testBit_eq
     intro i;rw[Nat.testBit_or,Nat.testBit_or,Nat.testBit_mod_two_pow,Nat.testBit_mod_two_pow]
     by_cases D:j=i
     ·subst D
      cases F:A.testBit j with
      |true=>simp
      |false=>
       cases S:B.testBit j with
       |false=>simp
       |true=>exact absurd ⟨S,F⟩ hb
     ·congr 2
      exact decide_eq_decide.2 ⟨fun q=>by omega,fun q=>by omega⟩
    rw[o];exact ih
 have L:A ||| B%2^N=B:=by
  rw[Nat.mod_eq_of_lt R]
  apply Nat.eq_of_testBit_eq
  intro i;rw[Nat.testBit_or]
  cases F:A.testBit i with
  |false=>simp
  |true=>rw[I i F];rfl
 have:=step N;rw[L]at this;exact this
theorem VG:∀s:Nat,s<32->∀e:Nat,e<5->s.testBit e=false->aY (aP s e)=aY s+1:=by decide +kernel
theorem LD:∀N:Nat,N<6->∀s:Nat,s<2^N->aY s=N->s=2^N-1:=by decide +kernel
theorem FR(x:List Int)(s:Int)(e:Nat)(y:Int)(F:e<x.length):∀k,k<=x.length->cP (x.set e y) s k=cP x s k+(if e<k/\bR s e=1 then y-x.getD e 0 else 0):=by
 intro k
 induction k with
 |zero=>intro _;simp[cP]
 |succ k ih=>
  intro I;have h1:=ih (by omega);rw[cP,cP,h1]
  by_cases z:e=k
  ·subst z
   rw[if_neg (show ¬(e<e/\bR s e=1) by omega)];have A:(x.set e y).getD e 0=y:=by rw[aJ _ e (by rw[List.length_set];exact F),List.getElem_set_self]
   rw[A]
   by_cases hb:bR s e=1
   ·rw[if_pos hb,if_pos hb,if_pos ⟨by omega,hb⟩];omega
   ·rw[if_neg hb,if_neg hb,if_neg (fun q=>hb q.2)]
  ·have A:(x.set e y).getD k 0=x.getD k 0:=by rw[aJ _ k (by rw[List.length_set];omega),aJ _ k (by omega),List.getElem_set_ne z]
   rw[A];have D:(e<k+1/\bR s e=1)↔(e<k/\bR s e=1):=⟨fun q=>⟨by omega,q.2⟩,fun q=>⟨by omega,q.2⟩⟩
   by_cases o:e<k/\bR s e=1
   ·rw[if_pos o,if_pos (D.2 o)];split<;>omega
   ·rw[if_neg o,if_neg (fun q=>o (D.1 q))];split<;>omega
theorem gH(s e:Nat):bR (s:Int) e=1↔s.testBit e=true:=by
 rw[<-CX,<-gP,beq_iff_eq]
theorem yH(o:List Int)(h:∀x∈o,0<=x)(e:Nat):∀k,k<=o.length->(bU o k).testBit e=decide ((e:Int)∈o.take k):=by
 intro k
 induction k with
 |zero=>intro _;simp[bU]
 |succ k ih=>
  intro A;have z:k<o.length:=by omega
  have D:=h _ (List.getElem_mem z);rw[bU,jU,ih (by omega),aJ o k z,List.take_succ_eq_append_getElem z];simp only[List.mem_append,List.mem_singleton,Bool.decide_or]
  congr 1
  exact decide_eq_decide.2 ⟨fun q=>by omega,fun q=>by omega⟩
theorem LN(l o:List Int)(e:Nat)(h:∀x∈o,0<=x):∀k,k<=o.length->(e:Int)∉o.take k->(bQ l o k).getD e 0=0:=by
 intro k
 induction k with
 |zero=>
  intro _ _;rw[bQ,List.getD_eq_getElem?_getD]
  by_cases F:e<o.length
  ·rw[List.getElem?_eq_getElem (by simpa using F)];simp
  ·rw[List.getElem?_eq_none (by simp;omega)];rfl
 |succ k ih=>
  intro I A;have z:k<o.length:=by omega
  have K:=h _ (List.getElem_mem z);rw[List.take_succ_eq_append_getElem z]at A;simp only[List.mem_append,List.mem_singleton,not_or]at A;have h1:=ih (by omega) A.1;rw[bQ,aJ o k z];have D:o[k].toNat≠e:=by intro q;apply A.2;omega
  rw[List.getD_eq_getElem?_getD,List.getElem?_set_ne D,<-List.getD_eq_getElem?_getD];exact h1
structure Perm (N:Nat) (o:List Int):Prop where
 len:o.length=N
 d:Dist N o
theorem Perm.nn{N:Nat}{o:List Int}(h:Perm N o):∀x∈o,0<=x:=fun x z=>(h.d.bd x z).1
theorem Perm.fresh{N:Nat}{o:List Int}(h:Perm N o)(k:Nat)(z:k<o.length):o[k]∉o.take k:=by
 intro A;have:=h.d.nd;have e:o=o.take k++(o[k]::o.drop (k+1)):=by rw[<-List.drop_eq_getElem_cons z,List.take_append_drop]
 rw[e]at this;have h2:=(List.nodup_append.1 this).2.2;exact h2 _ A _ List.mem_cons_self rfl
theorem mN{N:Nat}{o:List Int}(h:Perm N o)(l:List Int)(s k:Nat)(I:k<N):
  ∃e:Nat,e<N/\(bU o k).testBit e=false/\bU o (k+1)=aP (bU o k) e/\wt (bQ l o (k+1)) s=wt (bQ l o k) s+(if s.testBit e=true then dN l (bU o k) e else 0):=by
 have z:k<o.length:=by rw[h.len];exact I
 have hb:=h.d.bd _ (List.getElem_mem z);have F:=h.fresh k z;have D:((o[k].toNat:Nat):Int)=o[k]:=by omega
 have K:=LN l o o[k].toNat h.nn k (by omega) (by rw[D];exact F);refine⟨o[k].toNat,by omega,?_,?_,?_⟩
 ·rw[yH o h.nn _ k (by omega),D];exact decide_eq_false F
 ·rw[bU,aJ o k z]
 ·unfold wt
  rw[bQ,aJ o k z,List.length_set,FR _ _ _ _ (by rw[fY,h.len];omega) _ (Nat.le_refl _),K,fY,h.len]
  congr 1
  by_cases A:s.testBit o[k].toNat=true
  ·rw[if_pos A,if_pos ⟨by omega,(gH _ _).2 A⟩];omega
  ·rw[if_neg A,if_neg (fun q=>A ((gH _ _).1 q.2))]
theorem rB(l:List Int)(o:List Int)(s:Int):wt (bQ l o 0) s=0:=by
 unfold wt;rw[bQ];have:∀n k,k<=n->cP (List.replicate n (0:Int)) s k=0:=by
  intro n k
  induction k with
  |zero=>intro _;rfl
  |succ k ih=>
   intro z;rw[cP,ih (by omega),aJ _ k (by simp;omega)];simp
 exact this _ _ (by simp)
theorem BG{N:Nat}{o:List Int}(h:Perm N o)(k:Nat)(z:k<=N):bU o k<2^N:=uN o N k h.d.bd (by rw[h.len];exact z)
theorem O5(s P e:Nat):s &&& aP P e=if s.testBit e=true then aP (s &&& P) e else s &&& P:=by
 apply Nat.eq_of_testBit_eq
 intro j
 split
 ·rename_i h
  rw[Nat.testBit_and,jU,jU,Nat.testBit_and]
  by_cases o:e=j
  ·subst o;simp[h]
  ·rw[decide_eq_false o];simp
 ·rename_i h
  rw[Nat.testBit_and,jU,Nat.testBit_and]
  by_cases o:e=j
  ·subst o;simp[h]
  ·rw[decide_eq_false o];simp
theorem P9{N:Nat}{o:List Int}(h:Perm N o)(l:List Int)(K:∀s i k:Nat,s<2^N->i<k->k<N->aW s i=false->aW s k=false->0<=iL l s i k)(s:Nat):
  ∀k,k<=N->l.getD (s &&& bU o k) 0-l.getD 0 0<=wt (bQ l o k) s:=by
 intro k
 induction k with
 |zero=>intro _;rw[rB];simp[bU]
 |succ k ih=>
  intro M;have h1:=ih (by omega);obtain⟨e,D,I,z,L⟩:=mN h l s k (by omega);rw[L,z,O5]
  by_cases hb:s.testBit e=true
  ·rw[if_pos hb,if_pos hb]
   have:=DS N l K (s &&& bU o k) (bU o k) e (BG h k (by omega)) D (fun j A=>by rw[Nat.testBit_and,Bool.and_eq_true]at A;exact A.2) I;have F:l.getD (aP (s &&& bU o k) e) 0=dN l (s &&& bU o k) e+l.getD (s &&& bU o k) 0:=by unfold dN;omega
   rw[F];omega
  ·rw[if_neg hb,if_neg hb];omega
theorem RK{N:Nat}{o:List Int}(h:Perm N o)(l:List Int):∀k,k<=N->wt (bQ l o k) ((2^N-1:Nat):Int)=l.getD (bU o k) 0-l.getD 0 0:=by
 intro k
 induction k with
 |zero=>intro _;rw[rB];simp[bU]
 |succ k ih=>
  intro F;have h1:=ih (by omega);obtain⟨e,A,I,z,D⟩:=mN h l (2^N-1) k (by omega);have hb:(2^N-1).testBit e=true:=by rw[Nat.testBit_two_pow_sub_one];exact decide_eq_true A
  rw[D,h1,if_pos hb,z];unfold dN;omega
theorem DK{N:Nat}{o:List Int}(h:Perm N o)(I:N<=5):bU o N=2^N-1:=by
 have z:∀k,k<=N->aY (bU o k)=k:=by
  intro k
  induction k with
  |zero=>intro _;exact dR
  |succ k ih=>
   intro M;obtain⟨e,L,K,A,_⟩:=mN h [] 0 k (by omega);rw[A];have D:=BG h k (by omega);have F:(2:Nat)^N<=32:=Nat.pow_le_pow_right (n:=2) (by decide) I;have:=VG (bU o k) (by omega) e (by omega) K;rw[this,ih (by omega)]
 have h1:=z N (Nat.le_refl _);have D:=BG h N (Nat.le_refl _);exact LD N (by omega) _ D h1
end
section
open Go.RowKit Go.G5
theorem LE(l x:List Int):∀m,(∀k:Nat,k<m->aS l x k<=0)->mZ l x m=true:=by
 intro m
 induction m with
 |zero=>intro _;rfl
 |succ m ih=>
  intro h;rw[mZ,ih (fun k o=>h k (by omega)),decide_eq_true (h m (by omega))];rfl
theorem tO{n:Int}{l:List Int}(h:bP n l=true):l.getD 0 0=0:=by
 unfold bP at h;rw[Bool.and_eq_true,decide_eq_true_eq]at h;exact h.2
theorem MF(n:Int)(l o:List Int)(M:bP n l=true)(hs:kD n l=true)(ho:(o.length:Int)=n)(hd:Dist o.length o):wK n l (dS l o)=true:=by
 obtain⟨N,rfl,F,S,a9,U⟩:=bN (jD M);have z:o.length=N:=by omega
 rw[z]at hd;have O:Perm N o:=⟨z,hd⟩;have h0:=tO M;have a7:=(T7 N l (jD M)).1 hs;have L:(dS l o).length=N:=by unfold dS;rw[fY];exact z
 have Q:=xN l o (by rw[z];exact S) U (by rw[z];exact hd.bd) o.length (Nat.le_refl _);have D:cR (N:Int) (dS l o)=true:=by
  unfold cR dB;rw[L,decide_eq_true rfl,Bool.true_and,List.all_eq_true];intro y hy;have:=Q y hy;exact bL.2 ⟨by omega,by omega⟩
 have R:∀s:Nat,s<2^N->l.getD s 0<=wt (dS l o) s:=by
  intro s a1;have:=P9 O l a7 s N (Nat.le_refl _);rw[DK O F,h0]at this;have I:s &&& (2^N-1)=s:=by rw[Nat.and_two_pow_sub_one_eq_mod];exact Nat.mod_eq_of_lt a1
  rw[I]at this;unfold dS;rw[z];omega
 have K:=RK O l N (Nat.le_refl _);rw[DK O F,h0]at K;have Z:=Nat.two_pow_pos N;have A:((2^N-1:Nat):Int)=(2:Int)^N-1:=by rw[Int.ofNat_sub Z];simp
 have Y:mZ l (dS l o) l.length=true:=LE _ _ _ (fun k hk=>by
  have:=R k (by omega);unfold aS;rw[Int.toNat_natCast];omega)
 have a6:aS l (dS l o) (2^(N:Int).toNat-1)=0:=by
  unfold aS;rw[Int.toNat_natCast,<-A,Int.toNat_natCast];unfold dS;rw[z,K];omega
 unfold wK;rw[M,D,Y,a6];rfl
def lF(x:List Int):List Int:=x.map fun y=>-y
theorem JK(x:List Int):(lF x).length=x.length:=by unfold lF;simp
theorem PM(x:List Int)(k:Nat):(lF x).getD k 0=-(x.getD k 0):=by
 unfold lF;rw[List.getD_eq_getElem?_getD,List.getElem?_map,List.getD_eq_getElem?_getD]
 cases x[k]?<;>rfl
theorem WW(x:List Int)(s:Int):wt (lF x) s=- wt x s:=by
 unfold wt;rw[JK];have:∀k,cP (lF x) s k=- cP x s k:=by
  intro k
  induction k with
  |zero=>rfl
  |succ k ih=>
   rw[cP,cP,ih,PM]
   split<;>omega
 exact this _
theorem DC(l x:List Int)(s:Int):aS (dV l) (lF x) s=- aS l x s:=by
 unfold aS;rw[nI,WW];omega
theorem SS(n:Int)(x:List Int):cR n (lF x)=cR n x:=by
 unfold cR dB;rw[JK]
 congr 1
 unfold lF;rw[List.all_map]
 apply List.all_congr rfl
 intro y;have h1:cM (-y) (-5000) 5000=true↔cM y (-5000) 5000=true:=by rw[bL,bL];omega
 cases h2:cM y (-5000) 5000 with
 |true=>exact h1.2 h2
 |false=>
  cases h3:cM (-y) (-5000) 5000 with
  |true=>rw[h1.1 h3]at h2;cases h2
  |false=>exact h3
theorem PU(n:Int)(l:List Int)(h:bP n l=true):bP n (dV l)=true:=by
 have o:=tO h;unfold bP;rw[tA n l (jD h),nI,o];rfl
theorem P7(n : Int)(l x : List Int)(h : bP n l = true) : hH n (dV l) (lF x) = wK n l x := by
  unfold hH dZ wK
  rw [PU n l h, h, SS, iP, DC]
  have hok : ∀ m, gE (dV l) (lF x) m = mZ l x m := by
    intro m
    induction m with
    | zero => rfl
    | succ m ih =>
      rw [gE, mZ, ih, DC]
      congr 1
      exact decide_eq_decide.2 ⟨fun q => by omega, fun q => by omega⟩
  rw [hok]
  have hz : (-aS l x (2 ^ n.toNat - 1) == 0) = (aS l x (2 ^ n.toNat - 1) == 0) := by
    cases hq : (aS l x (2 ^ n.toNat - 1) == 0) with
    | true => rw [beq_iff_eq] at hq ⊢; omega
    | false =>
      cases hr : (-aS l x (2 ^ n.toNat - 1) == 0) with
      | true => rw [beq_iff_eq] at hr; have : aS l x (2 ^ n.toNat - 1) = 0 := by omega
                rw [this] at hq; cases hq
      | false => rfl
  rw [hz]
end
end Go.Proofs.YtipejodijbjpcaaGreatDoor
