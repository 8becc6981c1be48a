/- Lemmas for CardClaims, part 28 of 52. No condition. -/
import Derived.Test.YtipejodijbjpcaaGreatDoorQ06
import Derived.Test.YtipejodijbjpcaaGreatDoorQ27
set_option maxRecDepth 100000
set_option maxHeartbeats 64000000
namespace Go.Proofs.YtipejodijbjpcaaGreatDoor
section
open Go.RowKit Go.G5
theorem J9(l:List Int)(v:Value)(w:World)(hv:aD w v l):
  Calls Tryz.prog 200 #[v] w fun e w'=>e=.returned (.bool (nT l))/\Below w.heap.size w w':=by
 obtain⟨a,b,a8,c,rfl,f6,Z,hc,hb⟩:=hv.view Tryz.prog 22 3 Tryz.underlying22 aG
 by_cases b4:l.length<=64
 ·have b5:¬(64:Int)<(l.length:Int):=by omega
  have hx:nT l=bX (xM l) l.length:=by unfold nT;rw[decide_eq_true b4,Bool.true_and]
  have HX:=Lib.hid hx;clear hx;go_enter Tryz.func200,Tryz.ntmps200;go_wp2_with fail;go_loopw [3] (fun i wr=>∃k:Nat,k<=l.length/\i=.int .i64 k/\bX (xM l) k=true/\Below w.heap.size w wr) (fun i _=>l.length-(intOf i).toNat)
  case atStart=>exact⟨0,Nat.zero_le _,rfl,rfl,Below.refl _ _⟩
  case round=>
   obtain⟨k,hk,rfl,I,B⟩:=hrel;have H:=Lib.hid I;clear I
   by_cases hlt:k<l.length
   ·have b8:(k:Int)<(l.length:Int):=by omega
    have Q:=aK hc hb B (Nat.le_refl _) k hlt;have ik:=fun W=>Z W k hlt;have A:=aJ l k hlt;have a6:xM l k=(bO 6 l[k]&&bX (DD l k) k):=by unfold xM;rw[A]
    have HC:=Lib.hid hc;have b1:=Lib.hid Z;have Y:cM l[k] 0 63=bO 6 l[k]:=by
     cases D:bO 6 l[k]with
     |true=>have:=(tJ _).1 D;exact bL.2 ⟨this.1,by omega⟩
     |false=>
      cases hq:cM l[k] 0 63 with
      |false=>rfl
      |true=>
       have h2:=bL.1 hq;have:=(tJ l[k]).2 ⟨h2.1,by omega⟩;rw[this]at D
       cases D
    obtain⟨y,hy⟩:∃y,y=l[k]:=⟨_,rfl⟩;rw[<-hy]at Q a6 Y A;have M:=Lib.hid Y;have d0:=Lib.hid A;have e4:=Lib.hid hy.symm;have O:=Lib.hid a6;have R:(63:Int)=2^(6:Int).toNat-1:=by decide
    have f5:=Lib.hid R;rw[R]at M;clear Y A a6 hc Z hy R
    cases D:bO 6 y with
    |false=>
     have o:nT l=false:=by rw[HX.out];exact cL hlt (by rw[O.out,D];rfl)
     have N:=Lib.hid o;have HS:=Lib.hid D;clear o D;have c6:∀x:Ext wr,x.w.cell? ⟨b,a8+k,none⟩=some (.int .i64 y):=fun x=>x.cell Q;go_wp2_with fail;refine aO _ (by kernel_rfl) (by kernel_rfl) ?_
     repeat(first|go_big_quiet_skip|(go_big_quiet_want;go_big_quiet_op;first|go_big_quiet_on|(apply Exists.intro;refine⟨fun _=>?_,?_⟩;(first|(go_at_call 187;exact aX (yQ 6 _ (by decide) (by decide)))|(go_at_call 188;exact DV (aR _ _ _ _) (M.out.trans HS.out)));go_big_quiet_on)))
     refine wpQuiet_nil ?_;rintro w3 ⟨⟨w3,S⟩,rfl⟩
     try dsimp only
     go_wp2;go_ret;exact⟨aE N.out.symm,B.after S B.size⟩
    |true=>
     have HS:=Lib.hid D;clear D;have c6:∀x:Ext wr,x.w.cell? ⟨b,a8+k,none⟩=some (.int .i64 y):=fun x=>x.cell Q;go_wp2_with fail;refine aO _ (by kernel_rfl) (by kernel_rfl) ?_
     repeat(first|go_big_quiet_skip|(go_big_quiet_want;go_big_quiet_op;first|go_big_quiet_on|(apply Exists.intro;refine⟨fun _=>?_,?_⟩;(first|(go_at_call 187;exact aX (yQ 6 _ (by decide) (by decide)))|(go_at_call 188;exact DV (aR _ _ _ _) (M.out.trans HS.out)));go_big_quiet_on)))
     refine wpQuiet_nil ?_;rintro w3 ⟨⟨w3,S⟩,rfl⟩
     try dsimp only
     clear c6;have B3:=B.after S B.size;obtain⟨wo,rfl⟩:∃wo:World,wo=w3:=⟨_,rfl⟩;go_wp2_with fail;go_loopw [4] (fun i wi=>∃j:Nat,j<=k/\i=.int .i64 j/\bX (DD l k) j=true/\Below w.heap.size w wi) (fun i _=>k-(intOf i).toNat)
     case atStart=>exact⟨0,Nat.zero_le _,rfl,rfl,B3⟩
     case round=>
      obtain⟨j,hj,rfl,K,Bj⟩:=hrel;obtain⟨wi,e9⟩:∃wi:World,wi=wr:=⟨_,rfl⟩;subst e9;clear B3;have HD:=Lib.hid K;clear K Q ik;have Q:=aK HC.out hb Bj (Nat.le_refl _) k hlt;have g1:wi.cell? ⟨b,a8+k,none⟩=some (.int .i64 y):=by rw[Q,e4.out]
      clear Q
      by_cases e8:j<k
      ·have b6:(j:Int)<(k:Int):=by omega
       have a1:j<l.length:=by omega
       have cj:=aK HC.out hb Bj (Nat.le_refl _) j a1;have ij:=fun W=>b1.out W j a1;have ik:=fun W=>b1.out W k hlt;have U:DD l k j=!(l[j]==y):=by unfold DD;rw[aJ l j a1,d0.out]
       obtain⟨z,hz⟩:∃z,z=l[j]:=⟨_,rfl⟩;rw[<-hz]at cj U;have b0:=Lib.hid U;clear hz U
       by_cases F:z=y
       ·have a7:(z==y)=true:=by simp[F]
        have o:nT l=false:=by rw[HX.out];exact cL hlt (by rw[O.out];rw[cL e8 (by rw[b0.out,a7];rfl)];simp)
        have N:=Lib.hid o;clear o F;go_wp2;go_quiet (fail);go_wp2;go_ret;exact⟨aE N.out.symm,Bj.drewN' _⟩
       ·have a7:(z==y)=false:=by simp[F]
        have e5:=Lib.hid a7;clear F;go_wp2;go_quiet (fail);go_wp2;go_roundw
        case rel=>exact⟨j+1,by omega,by go_num,dM HD.out (by rw[b0.out,e5.out];rfl),Bj.drewN' _⟩
        case measure=>simp[intOf];omega
      ·have b6:¬(j:Int)<(k:Int):=by omega
       have e7:j=k:=by omega
       subst e7;have b9:xM l j=true:=by rw[O.out,HS.out,HD.out];rfl
       have e0:=Lib.hid b9;clear b9;go_wp2;go_roundw
       case rel=>exact⟨j+1,by omega,by go_num,dM H.out e0.out,Bj⟩
       case measure=>simp[intOf];omega
   ·have b8:¬(k:Int)<(l.length:Int):=by omega
    have b7:k=l.length:=by omega
    have L:nT l=true:=by rw[HX.out,<-b7];exact H.out
    have HY:=Lib.hid L;clear b7 L;go_wp2;go_ret;exact⟨aE HY.out.symm,B⟩
 ·have b5:(64:Int)<(l.length:Int):=by omega
  have hx:nT l=false:=by unfold nT;rw[decide_eq_false b4];rfl
  have HX:=Lib.hid hx;clear hx;go_enter Tryz.func200,Tryz.ntmps200;go_wp2;go_ret;exact⟨aE HX.out.symm,Below.refl _ _⟩
end
section
open Go.RowKit Go.G5
theorem AF(l:List Int)(v:Value)(w:World)(K:aD w v l):
  Calls Tryz.prog 62 #[v] w fun e w'=>e=.returned (.bool (dP l))/\Below w.heap.size w w':=by
 have D:=Lib.hid (J9 l v w K)
 cases o:nT l with
 |false=>
  have A:dP l=false:=by unfold dP;rw[o];rfl
  have F:=Lib.hid A;rw[o]at D;clear A o;go_enter Tryz.func62,Tryz.ntmps62;go_wp2_with (go_at_call 200;refine D.out.mono ?_;rintro e L ⟨rfl,z⟩);go_ret;exact⟨aE F.out.symm,z⟩
 |true=>
  have A:dP l=jX l:=by unfold dP;rw[o];rfl
  have I:=(zJ o).2.1;have F:=Lib.hid A;rw[o]at D;have M:=Lib.hid (fun W (h:Below w.heap.size w W)=>A6 l v W (K.below h (Nat.le_refl _)) I);clear A o I;go_enter Tryz.func62,Tryz.ntmps62;go_wp2_with (first|(go_at_call 200;refine D.out.mono ?_;rintro e L ⟨rfl,z⟩)|(go_at_call 201;refine(M.out L z).mono ?_;rintro e w2 ⟨rfl,b2⟩));go_ret;exact⟨aE F.out.symm,z.after b2 z.size⟩
end
section
open Go.RowKit Go.G5
theorem TW(y e:Nat):aW y e=y.testBit e:=by
 unfold aW;rw[Nat.testBit_eq_decide_div_mod_eq]
 rcases Nat.mod_two_eq_zero_or_one (y/2^e) with h|h<;>simp[h]
theorem TY(x y e:Nat):aW (x ||| y) e=(aW x e||aW y e):=by simp only[TW,Nat.testBit_or]
theorem XP(G x e:Nat)(o:x<2^G)(h:aW x e=true):e<G:=by
 rcases Nat.lt_or_ge e G with h1|h1
 ·exact h1
 ·rw[TW,Nat.testBit_lt_two_pow (Nat.lt_of_lt_of_le o (Nat.pow_le_pow_right (by decide) h1))]at h
  cases h
theorem XB:∀a,a<64->∀b,b<64->aY (a ||| b)+aY (a &&& b)=aY a+aY b:=by decide +kernel
theorem BM:∀a,a<64->∀b,b<64->aY a<=aY (a ||| b):=by decide +kernel
theorem A3:∀y,y<64->∀e,e<6->(aY (dE y (2^e))+(if aW y e then 1 else 0)=aY y/\dE y (2^e)<64):=by decide +kernel
theorem XR:∀x,x<64->∀u,u<64->∀e,e<6->dE x (u ||| 2^e)=dE (dE x u) (2^e):=by decide +kernel
theorem NB:∀a,a<64->∀b,b<64->∀e,e<6->dE (a ||| b) (2^e)=dE a (2^e) ||| dE b (2^e):=by decide +kernel
theorem VY:∀x,x<64->∀u,u<64->∀e,e<6->aW (dE x u) e=(aW x e&&!aW u e):=by decide +kernel
theorem V7:∀a,a<64->∀b,b<64->(∀e,e<6->aW a e=true->aW b e=true)->b ||| a=b:=by decide +kernel
theorem XC(x:Nat):dE x 0=x:=by unfold dE;simp
end
section
open Go.RowKit Go.G5
def cJ(used:Nat):List Nat->(Nat->Bool)->Nat
 |[],_=>0
 |x::t,J=>(if J 0 then dE x used else 0) ||| cJ used t (fun i=>J (i+1))
def cj:List Nat->(Nat->Bool)->Nat
 |[],_=>0
 |_::t,J=>(if J 0 then 1 else 0)+cj t (fun i=>J (i+1))
def FN(b:Bool)(J:Nat->Bool):Nat->Bool
 |0=>b
 |i+1=>J i
theorem MJ(x:Nat)(t:List Nat)(b:Bool)(J:Nat->Bool):cj (x::t) (FN b J)=(if b then 1 else 0)+cj t J:=rfl
theorem EG(used x:Nat)(t:List Nat)(b:Bool)(J:Nat->Bool):cJ used (x::t) (FN b J)=(if b then dE x used else 0) ||| cJ used t J:=rfl
theorem oK(used:Nat):∀(t:List Nat) (J:Nat->Bool),(∀x∈t,x<64)->cJ used t J<64:=by
 intro t
 induction t with
 |nil=>intro J _;simp[cJ]
 |cons x t ih=>
  intro J h;rw[cJ];have h1:=ih (fun i=>J (i+1)) (fun y o=>h y (List.mem_cons_of_mem _ o));have h2:dE x used<64:=uB x used 64 (h x List.mem_cons_self);refine tQ _ _ ?_ h1
  split<;>omega
theorem NC(used:Nat):∀(t:List Nat) (J K:Nat->Bool),cJ used t (fun i=>J i||K i)=cJ used t J ||| cJ used t K:=by
 intro t
 induction t with
 |nil=>intro J K;simp[cJ]
 |cons x t ih=>
  intro J K;simp only[cJ];rw[ih (fun i=>J (i+1)) (fun i=>K (i+1))]
  apply Nat.eq_of_testBit_eq
  intro i
  rcases Bool.eq_false_or_eq_true (J 0) with o|o<;>rcases Bool.eq_false_or_eq_true (K 0) with z|z<;>simp[o,z]<;>cases(dE x used).testBit i<;>cases(cJ used t (fun i=>J (i+1))).testBit i<;>simp
theorem TD(used:Nat):∀(t:List Nat) (J K:Nat->Bool),(cJ used t J &&& cJ used t K) ||| cJ used t (fun i=>J i&&K i)=cJ used t J &&& cJ used t K:=by
 intro t
 induction t with
 |nil=>intro J K;simp[cJ]
 |cons x t ih=>
  intro J K;have h:=ih (fun i=>J (i+1)) (fun i=>K (i+1));simp only[cJ]
  apply Nat.eq_of_testBit_eq
  intro i;have h2:=congrArg (fun y=>y.testBit i) h;simp only[Nat.testBit_or,Nat.testBit_and]at h2 ⊢
  revert h2
  rcases Bool.eq_false_or_eq_true (J 0) with o|o<;>rcases Bool.eq_false_or_eq_true (K 0) with z|z<;>simp[o,z]<;>cases(dE x used).testBit i<;>cases(cJ used t (fun i=>J (i+1))).testBit i<;>cases(cJ used t (fun i=>K (i+1))).testBit i<;>simp
theorem WN:∀(t:List Nat) (J K:Nat->Bool),cj t (fun i=>J i||K i)+cj t (fun i=>J i&&K i)=cj t J+cj t K:=by
 intro t
 induction t with
 |nil=>intro J K;simp[cj]
 |cons x t ih=>
  intro J K;have h:=ih (fun i=>J (i+1)) (fun i=>K (i+1));simp only[cj]
  rcases Bool.eq_false_or_eq_true (J 0) with o|o<;>rcases Bool.eq_false_or_eq_true (K 0) with z|z<;>simp[o,z]<;>omega
theorem U0(used:Nat)(t:List Nat)(J K:Nat->Bool)(h:∀x∈t,x<64):
  aY (cJ used t (fun i=>J i||K i))+aY (cJ used t (fun i=>J i&&K i))<=aY (cJ used t J)+aY (cJ used t K):=by
 have a:=oK used t J h;have b:=oK used t K h;have c:=oK used t (fun i=>J i&&K i) h;rw[NC,<-XB _ a _ b];have h2:=BM _ c _ (Nat.lt_of_le_of_lt Nat.and_le_left a:cJ used t J &&& cJ used t K<64);rw[Nat.or_comm,TD]at h2;omega
theorem RH(used e:Nat)(A:used<64)(o:e<6):∀(t:List Nat) (J:Nat->Bool),(∀x∈t,x<64)->cJ (used ||| 2^e) t J=dE (cJ used t J) (2^e):=by
 intro t
 induction t with
 |nil=>intro J _;simp[cJ,dE]
 |cons x t ih=>
  intro J h;have z:=h x List.mem_cons_self;have ht:=fun y D=>h y (List.mem_cons_of_mem x D);have h1:=ih (fun i=>J (i+1)) ht;have h2:=oK used t (fun i=>J (i+1)) ht;simp only[cJ];rw[h1,XR x z used A e o]
  cases J 0 with
  |false=>simp
  |true=>
   rw[if_pos rfl,if_pos rfl,NB _ (uB x used 64 z) _ h2 e o]
theorem GQ(used e:Nat)(z:used<64)(o:e<6)(t:List Nat)(J:Nat->Bool)(h:∀x∈t,x<64):
  aY (cJ (used ||| 2^e) t J)+(if aW (cJ used t J) e then 1 else 0)=aY (cJ used t J):=by
 rw[RH used e z o t J h];exact(A3 _ (oK used t J h) e o).1
def kN(P:Nat->Bool)(F:Nat->Nat)(z:Nat):Nat->Nat
 |0=>z
 |k+1=>if P k then max (kN P F z k) (F k) else kN P F z k
def tS(P:Nat->Bool)(F:Nat->Nat):Nat->Nat
 |0=>0
 |k+1=>if P k then tS P F k+F k else tS P F k
theorem yN(P:Nat->Bool)(F:Nat->Nat)(z:Nat):∀n,z<=kN P F z n/\∀k,k<n->P k=true->F k<=kN P F z n:=by
 intro n
 induction n with
 |zero=>exact⟨Nat.le_refl _,fun k A=>by omega⟩
 |succ n ih=>
  rw[kN]
  constructor
  ·split
   ·have:=ih.1;omega
   ·exact ih.1
  ·intro k A o
   by_cases h:k=n
   ·subst h;rw[if_pos o];omega
   ·have:=ih.2 k (by omega) o
    split<;>omega
theorem tW(P:Nat->Bool)(F:Nat->Nat)(z:Nat):∀n,kN P F z n=z∨∃k,k<n/\P k=true/\kN P F z n=F k:=by
 intro n
 induction n with
 |zero=>exact .inl rfl
 |succ n ih=>
  rw[kN]
  by_cases A:P n=true
  ·rw[if_pos A]
   by_cases K:kN P F z n<=F n
   ·exact .inr ⟨n,by omega,A,by omega⟩
   ·rcases ih with h|⟨k,I,o,D⟩
    ·exact .inl (by omega)
    ·exact .inr ⟨k,by omega,o,by omega⟩
  ·rw[if_neg A]
   rcases ih with h|⟨k,I,o,D⟩
   ·exact .inl h
   ·exact .inr ⟨k,by omega,o,D⟩
theorem JI(P:Nat->Bool)(F:Nat->Nat)(z n m:Nat)(h1:z<=m)(h2:∀k,k<n->P k=true->F k<=m)(h3:z=m∨∃k,k<n/\P k=true/\F k=m):kN P F z n=m:=by
 have D:=yN P F z n;have L:=tW P F z n;have M:kN P F z n<=m:=by
  rcases L with h|⟨k,o,A,I⟩
  ·omega
  ·have:=h2 k o A;omega
 have K:m<=kN P F z n:=by
  rcases h3 with h|⟨k,o,A,I⟩
  ·have:=D.1;omega
  ·have:=D.2 k o A;omega
 omega
theorem Q9(P:Nat->Bool)(F:Nat->Nat):∀n,(0<tS P F n)↔∃k,k<n/\P k=true/\0<F k:=by
 intro n
 induction n with
 |zero=>simp[tS]
 |succ n ih=>
  rw[tS]
  by_cases o:P n=true
  ·rw[if_pos o]
   constructor
   ·intro h
    by_cases D:0<F n
    ·exact⟨n,by omega,o,D⟩
    ·obtain⟨k,z,a,b⟩:=ih.1 (by omega)
     exact⟨k,by omega,a,b⟩
   ·rintro⟨k,z,a,b⟩
    by_cases A:k=n
    ·subst A;omega
    ·have:=ih.2 ⟨k,by omega,a,b⟩;omega
  ·rw[if_neg o,ih]
   constructor
   ·rintro⟨k,z,a,b⟩;exact⟨k,by omega,a,b⟩
   ·rintro⟨k,z,a,b⟩
    have:k≠n:=by intro e;subst e;exact o a
    exact⟨k,by omega,a,b⟩
def pJ(x used e:Nat):Bool:=aW x e&&!aW used e
def cS(G:Nat):List Nat->Nat->Nat
 |[],_=>0
 |x::t,used=>kN (pJ x used) (fun e=>1+cS G t (used ||| 2^e)) (cS G t used) G
def CI(G:Nat):List Nat->Nat->Nat
 |[],_=>1
 |x::t,used=>tS (pJ x used) (fun e=>CI G t (used ||| 2^e)) G
theorem yW(G:Nat):∀(t:List Nat) (used:Nat),cS G t used<=t.length:=by
 intro t
 induction t with
 |nil=>intro used;simp[cS]
 |cons x t ih=>
  intro used;rw[cS,List.length_cons]
  rcases tW (pJ x used) (fun e=>1+cS G t (used ||| 2^e)) (cS G t used) G with h|⟨k,_,_,h⟩
  ·rw[h];have:=ih used;omega
  ·rw[h];have:=ih (used ||| 2^k);omega
def wF(G:Nat):List Nat->Nat->Bool
 |[],_=>true
 |x::t,used=>(List.range G).any fun e=>pJ x used e&&wF G t (used ||| 2^e)
theorem zE(G x:Nat)(t:List Nat)(used:Nat):wF G (x::t) used=true↔∃e,e<G/\pJ x used e=true/\wF G t (used ||| 2^e)=true:=by
 rw[wF,List.any_eq_true]
 constructor
 ·rintro⟨e,o,h⟩
  rw[Bool.and_eq_true]at h;exact⟨e,List.mem_range.1 o,h.1,h.2⟩
 ·rintro⟨e,o,h1,h2⟩
  exact⟨e,List.mem_range.2 o,by rw[h1,h2];rfl⟩
theorem W8(G:Nat):∀(t:List Nat) (used:Nat),(0<CI G t used)↔wF G t used=true:=by
 intro t
 induction t with
 |nil=>intro used;simp[CI,wF]
 |cons x t ih=>
  intro used;rw[CI,Q9,zE]
  constructor
  ·rintro⟨e,o,a,b⟩;exact⟨e,o,a,(ih _).1 b⟩
  ·rintro⟨e,o,a,b⟩;exact⟨e,o,a,(ih _).2 b⟩
theorem VI(G:Nat):∀(t:List Nat) (used:Nat),cS G t used=t.length↔wF G t used=true:=by
 intro t
 induction t with
 |nil=>intro used;simp[cS,wF]
 |cons x t ih=>
  intro used;rw[cS,zE,List.length_cons]
  constructor
  ·intro h
   rcases tW (pJ x used) (fun e=>1+cS G t (used ||| 2^e)) (cS G t used) G with h2|⟨k,z,A,h2⟩
   ·have:=yW G t used;omega
   ·exact⟨k,z,A,(ih _).1 (by omega)⟩
  ·rintro⟨e,o,a,b⟩
   have h1:=(ih _).2 b;have h2:=(yN (pJ x used) (fun e=>1+cS G t (used ||| 2^e)) (cS G t used) G).2 e o a;have h3:=yW G (x::t) used;rw[cS,List.length_cons]at h3
   try dsimp only at h2
   omega
def rN:List Nat->(Nat->Bool)->List Nat
 |[],_=>[]
 |x::t,J=>(if J 0 then [x] else [])++rN t (fun i=>J (i+1))
theorem JJ:∀(t:List Nat) (J:Nat->Bool),(rN t J).length=cj t J:=by
 intro t
 induction t with
 |nil=>intro J;rfl
 |cons x t ih=>
  intro J;rw[rN,cj,List.length_append,ih]
  split<;>simp
theorem TF(G:Nat)(hG:G<=6):∀(t:List Nat) (used:Nat),(∀x∈t,x<2^G)->used<2^G ->
  (∀J,cS G t used+cj t J<=t.length+aY (cJ used t J))/\∃J,cS G t used+cj t J=t.length+aY (cJ used t J):=by
 intro t
 induction t with
 |nil=>intro used _ _;refine⟨fun J=>by simp[cS,cj],fun _=>false,by simp[cS,cj,cJ,dR]⟩
 |cons x t ih=>
  intro used hx hu;have b4:(2:Nat)^G<=64:=Nat.pow_le_pow_right (n:=2) (by decide) hG;have U:∀y∈t,y<2^G:=fun y hy=>hx y (List.mem_cons_of_mem _ hy);have ht:∀y∈t,y<64:=fun y hy=>Nat.lt_of_lt_of_le (U y hy) b4;have c5:=hx x List.mem_cons_self;have Q:x<64:=by omega
  have F:used<64:=by omega
  have Y:dE x used<64:=uB x used 64 Q;obtain⟨h1,J0,b7⟩:=ih used U hu;have z:∀e,e<G->(∀J,cS G t (used ||| 2^e)+cj t J+(if aW (cJ used t J) e then 1 else 0)<=t.length+aY (cJ used t J))/\∃J,cS G t (used ||| 2^e)+cj t J+(if aW (cJ used t J) e then 1 else 0)=t.length+aY (cJ used t J):=by
   intro e o;obtain⟨q1,K,q2⟩:=ih (used ||| 2^e) U (Nat.or_lt_two_pow hu (Nat.pow_lt_pow_right (by decide) o))
   constructor
   ·intro J
    have:=q1 J;have:=GQ used e F (by omega) t J ht;omega
   ·refine⟨K,?_⟩
    have:=GQ used e F (by omega) t K ht;omega
  have hg:=yN (pJ x used) (fun e=>1+cS G t (used ||| 2^e)) (cS G t used) G;have hi:=tW (pJ x used) (fun e=>1+cS G t (used ||| 2^e)) (cS G t used) G;have Z:∀e,e<6->pJ x used e=aW (dE x used) e:=fun e o=>(VY x Q used F e o).symm
  constructor
  ·intro J
   rw[cS,cj,cJ,List.length_cons];obtain⟨L,b6⟩:∃L:Nat->Bool,L=fun i=>J (i+1):=⟨_,rfl⟩;rw[<-b6];have hU:=oK used t L ht;have hb:=h1 L
   cases hJ:J 0 with
   |false=>
    simp only[Bool.false_eq_true,if_false,Nat.zero_or,Nat.zero_add]
    rcases hi with h|⟨e,o,A,h⟩
    ·omega
    ·have:=(z e o).1 L
     omega
   |true=>
    simp only[if_true];have hm:=BM _ hU _ Y;rw[Nat.or_comm]at hm
    rcases hi with h|⟨e,o,A,h⟩
    ·omega
    ·have hs:=(z e o).1 L
     rw[h];rw[Z e (by omega)]at A
     cases R:aW (cJ used t L) e with
     |true=>rw[R,if_pos rfl]at hs;omega
     |false=>
      rw[R]at hs;simp only[Bool.false_eq_true,if_false]at hs;have hlt:aY (cJ used t L)+1<=aY (dE x used ||| cJ used t L):=by
       have a1:=A3 _ (tQ _ _ Y hU) e (by omega);have a2:=A3 _ hU e (by omega);have a3:=A3 _ Y e (by omega);rw[TY,A,Bool.true_or,if_pos rfl,NB _ Y _ hU e (by omega)]at a1;rw[R]at a2;have a4:=BM _ a2.2 _ a3.2;rw[Nat.or_comm]at a4;have:=a1.1;have:=a2.1;simp only[Bool.false_eq_true,if_false]at this;omega
      omega
  ·rw[cS,List.length_cons]
   by_cases hex:∃e,e<G/\pJ x used e=true/\cS G t used<=cS G t (used ||| 2^e)
   ·obtain⟨e,o,A,e7⟩:=hex
    have a8:∀e,e<G->cS G t (used ||| 2^e)<=cS G t used:=fun e o=>by
     have:=(z e o).1 J0;omega
    have I:kN (pJ x used) (fun e=>1+cS G t (used ||| 2^e)) (cS G t used) G=1+cS G t used:=by
     refine JI _ _ _ _ _ (by omega) (fun k hk _=>by have:=a8 k hk;omega) (.inr ⟨e,o,A,?_⟩);have:=a8 e o
     try dsimp only
     omega
    rw[I];refine⟨FN false J0,?_⟩;rw[MJ,EG];simp only[Bool.false_eq_true,if_false,Nat.zero_or,Nat.zero_add];omega
   ·have a6:∀e,e<G->pJ x used e=true->1+cS G t (used ||| 2^e)<=cS G t used:=fun e o A=>by
     rcases Nat.lt_or_ge (cS G t (used ||| 2^e)) (cS G t used) with h|h
     ·omega
     ·exact absurd ⟨e,o,A,h⟩ hex
    have I:kN (pJ x used) (fun e=>1+cS G t (used ||| 2^e)) (cS G t used) G=cS G t used:=
     JI _ _ _ _ _ (Nat.le_refl _) (fun k hk A=>a6 k hk A) (.inl rfl)
    rw[I];have N:∀k,k<=G->∃J,cS G t used+cj t J=t.length+aY (cJ used t J)/\∀e,e<k->pJ x used e=true->aW (cJ used t J) e=true:=by
     intro k
     induction k with
     |zero=>intro _;exact⟨J0,b7,fun e o=>by omega⟩
     |succ k ihk=>
      intro hk;obtain⟨J,hJ,M⟩:=ihk (by omega)
      cases A:pJ x used k with
      |false=>
       refine⟨J,hJ,fun e o D=>?_⟩
       by_cases S:e=k
       ·subst S;rw[A]at D;cases D
       ·exact M e (by omega) D
      |true=>
       obtain⟨K,hK⟩:=(z k (by omega)).2;have hn:=a6 k (by omega) A;have e6:=h1 K;have O:aW (cJ used t K) k=true:=by
        cases hc:aW (cJ used t K) k with
        |true=>rfl
        |false=>rw[hc]at hK;simp only[Bool.false_eq_true,if_false]at hK;omega
       rw[O,if_pos rfl]at hK;have hm:=U0 used t J K ht;have hc:=WN t J K;have b1:=h1 (fun i=>J i||K i);have b2:=h1 (fun i=>J i&&K i);refine⟨fun i=>J i||K i,by omega,fun e o D=>?_⟩;rw[NC,TY]
       by_cases S:e=k
       ·subst S;rw[O,Bool.or_true]
       ·rw[M e (by omega) D,Bool.true_or]
    obtain⟨J,hJ,M⟩:=N G (Nat.le_refl _);refine⟨FN true J,?_⟩;rw[MJ,EG];simp only[if_true];have a7:cJ used t J ||| dE x used=cJ used t J:=by
     refine V7 _ Y _ (oK used t J ht) (fun e o hb=>?_);rw[<-Z e o]at hb;refine M e ?_ hb;refine XP G x e c5 ?_;unfold pJ at hb;exact(Bool.and_eq_true_iff.1 hb).1
    rw[Nat.or_comm,a7];omega
end
end Go.Proofs.YtipejodijbjpcaaGreatDoor
