/- Lemmas for CardClaims, part 29 of 52. No condition. -/
import Derived.Test.YtipejodijbjpcaaGreatDoorQ08
import Derived.Test.YtipejodijbjpcaaGreatDoorQ28
set_option maxRecDepth 100000
set_option maxHeartbeats 64000000
namespace Go.Proofs.YtipejodijbjpcaaGreatDoor
section
open Go.RowKit Go.G5
def fK(l:List Int):List Nat:=l.map Int.toNat
theorem pD(P:Nat->Bool)(n:Nat)(e:Int):e∈fB P n↔∃k:Nat,k<n/\P k=true/\e=(k:Int):=by
 unfold fB;rw[List.mem_map]
 constructor
 ·rintro⟨k,o,rfl⟩
  rw[List.mem_filter,List.mem_range]at o;exact⟨k,o.1,o.2,rfl⟩
 ·rintro⟨k,o,z,rfl⟩
  exact⟨k,by rw[List.mem_filter,List.mem_range];exact⟨o,z⟩,rfl⟩
theorem CP(u k:Nat):jC (u:Int) (2^k)=((u ||| 2^k:Nat):Int):=by
 unfold jC;have:((2:Int)^k).toNat=2^k:=by
  have h:((2^k:Nat):Int)=(2:Int)^k:=by push_cast;rfl
  rw[<-h];exact Int.toNat_natCast _
 rw[this,Int.toNat_natCast]
theorem RA(l:List Int)(i:Nat)(h:i<l.length):(fK l).drop i=(l.getD i 0).toNat::(fK l).drop (i+1):=by
 have h2:i<(fK l).length:=by unfold fK;rw[List.length_map];exact h
 rw[List.drop_eq_getElem_cons h2,aJ l i h]
 congr 1
 simp[fK]
theorem W7(G:Nat)(K:G<=6)(l:List Int)(M:∀x∈l,0<=x/\x<2^G):∀(n:Nat) (used:Nat) (list:List Int),list.length+n=l.length->used<64 ->
  (gW l n (used:Int) list).isSome=wF G ((fK l).drop list.length) used:=by
 intro n
 induction n with
 |zero=>
  intro used list N _;rw[uY,List.drop_eq_nil_of_le (by unfold fK;rw[List.length_map];omega)]
  rfl
 |succ n ih=>
  intro used list N A;have hlt:list.length<l.length:=by omega
  rw[pW,RA l _ hlt];have D:=M _ (List.getElem_mem hlt);rw[<-aJ l _ hlt]at D;obtain⟨x,F⟩:∃x:Nat,l.getD list.length 0=(x:Int):=⟨(l.getD list.length 0).toNat,by omega⟩;rw[F]at D ⊢;have I:x<2^G:=by have:=D.2;exact_mod_cast this
  rw[yI x used G K I A,Int.toNat_natCast];rw[Bool.eq_iff_iff,zE,List.findSome?_isSome_iff]
  constructor
  ·rintro⟨e,L,h⟩
   obtain⟨k,o,z,rfl⟩:=(pD _ _ _).1 L;refine⟨k,o,z,?_⟩;unfold pI at h;rw[Int.toNat_natCast,CP,ih _ _ (by simp;omega) (tQ _ _ A (by have:=Nat.pow_lt_pow_right (a:=2) (by decide) (show k<6 by omega);omega)),List.length_append,List.length_singleton]at h;exact h
  ·rintro⟨k,o,z,h⟩
   refine⟨(k:Int),(pD _ _ _).2 ⟨k,o,z,rfl⟩,?_⟩;unfold pI;rw[Int.toNat_natCast,CP,ih _ _ (by simp;omega) (tQ _ _ A (by have:=Nat.pow_lt_pow_right (a:=2) (by decide) (show k<6 by omega);omega)),List.length_append,List.length_singleton];exact h
theorem qN{g:Int}{l:List Int}(h:dO g l=true):∃G:Nat,g=(G:Int)/\G<=6/\l.length<=6/\(∀x∈l,0<=x/\x<2^G)/\(∀x∈fK l,x<2^G):=by
 obtain⟨D,A,F,o,_⟩:=vS h;obtain⟨G,rfl⟩:=Int.eq_ofNat_of_zero_le A;refine⟨G,rfl,by omega,D,o,fun x z=>?_⟩;unfold fK at z;obtain⟨y,I,rfl⟩:=List.mem_map.1 z;have:=o y I;have K:((2^G:Nat):Int)=(2:Int)^G:=by push_cast;rfl
 rw[Int.toNat_natCast]at this;omega
theorem U8(g:Int)(l:List Int)(h:dO g l=true):eR g l=wF g.toNat (fK l) 0:=by
 obtain⟨G,rfl,o,A,z,D⟩:=qN h;unfold eR lC;rw[h,if_pos rfl];have:=W7 G o l z l.length 0 [] (by simp) (by omega);rw[Int.toNat_natCast];exact this
theorem P4(used x:Nat):∀(t:List Nat) (J:Nat->Bool),cJ used (t++[x]) J=cJ used t J ||| (if J t.length then dE x used else 0):=by
 intro t
 induction t with
 |nil=>intro J;simp[cJ]
 |cons y t ih=>intro J;rw[List.cons_append,cJ,ih,cJ,Nat.or_assoc];rfl
theorem N7(used:Nat):∀(t:List Nat) (J K:Nat->Bool),(∀i,i<t.length->J i=K i)->cJ used t J=cJ used t K:=by
 intro t
 induction t with
 |nil=>intro J K _;rfl
 |cons y t ih=>intro J K h;rw[cJ,cJ,h 0 (by simp),ih _ (fun i=>K (i+1)) (fun i o=>h (i+1) (by simp;omega))]
theorem NJ:∀(t:List Nat) (J K:Nat->Bool),(∀i,i<t.length->J i=K i)->rN t J=rN t K:=by
 intro t
 induction t with
 |nil=>intro J K _;rfl
 |cons y t ih=>intro J K h;rw[rN,rN,h 0 (by simp),ih _ (fun i=>K (i+1)) (fun i o=>h (i+1) (by simp;omega))]
theorem GB(t:List Nat)(J K:Nat->Bool)(h:∀i,i<t.length->J i=K i):cj t J=cj t K:=by
 rw[<-JJ,<-JJ,NJ t J K h]
theorem DL(code i:Nat):aW code (i+1)=aW (code/2) i:=by
 unfold aW;rw[Nat.pow_succ,Nat.mul_comm,<-Nat.div_div_eq_div_mul]
theorem W9 : ∀ (t : List Nat) (code : Nat), code < 2 ^ t.length -> t.length <= 6 -> aY code = cj t (aW code) := by
  intro t
  induction t with
  | nil => intro code h _; have : code = 0 := by simpa using h
           subst this; rfl
  | cons y t ih =>
    intro code h hl
    rw [List.length_cons, Nat.pow_succ] at h
    rw [List.length_cons] at hl
    have h2 : (2 : Nat) ^ t.length <= 32 := Nat.le_trans (Nat.pow_le_pow_right (by decide) (show t.length <= 5 by omega)) (by decide)
    rw [IN code (by omega), cj, ih (code / 2) (by omega) (by omega)]
    congr 1
    · unfold aW
      rw [Nat.pow_zero, Nat.div_one]
      rcases Nat.mod_two_eq_zero_or_one code with h | h <;> rw [h] <;> rfl
    · refine GB _ _ _ (fun i _ => ?_)
      rw [DL]
theorem UX:∀(n:Nat) (J:Nat->Bool),∃code,code<2^n/\∀i,i<n->aW code i=J i:=by
 intro n
 induction n with
 |zero=>intro J;exact⟨0,by decide,fun i o=>by omega⟩
 |succ n ih=>
  intro J;obtain⟨c,z,h⟩:=ih (fun i=>J (i+1));refine⟨2*c+(if J 0 then 1 else 0),by rw[Nat.pow_succ];split<;>omega,fun i o=>?_⟩
  cases i with
  |zero=>
   unfold aW;rw[Nat.pow_zero,Nat.div_one]
   cases J 0 with
   |true=>simp<;>omega
   |false=>simp
  |succ i=>
   rw[DL,<-h i (by omega)]
   congr 1
   split<;>omega
theorem PK(l:List Int)(k:Nat)(h:k<l.length):fK (l.take (k+1))=fK (l.take k)++[(l.getD k 0).toNat]:=by
 unfold fK;rw[List.take_succ_eq_append_getElem h,List.map_append,aJ l k h];rfl
theorem lJ(l:List Int):(fK l).length=l.length:=by unfold fK;rw[List.length_map]
theorem RP(l:List Int)(code:Nat):∀k,k<=l.length->bD l code k=((cJ 0 (fK (l.take k)) (aW code):Nat):Int):=by
 intro k
 induction k with
 |zero=>intro _;rfl
 |succ k ih=>
  intro o;have h1:=ih (by omega);rw[bD,PK l k (by omega),P4,lJ,List.length_take,show min k l.length=k by omega,XC,h1]
  split
  ·unfold jC;rw[Int.toNat_natCast]
  ·rw[Nat.or_zero]
theorem QZ(l:List Int)(code:Nat):bD l code l.length=((cJ 0 (fK l) (aW code):Nat):Int):=by
 have:=RP l code l.length (Nat.le_refl _);rw[List.take_length]at this;exact this
theorem GL(l:List Int)(z:l.length<=6)(code:Nat)(o:code<2^l.length):sA l code=(cj (fK l) (aW code):Int)-(aY (cJ 0 (fK l) (aW code)):Int):=by
 unfold sA;rw[QZ,W9 (fK l) code (by rw[lJ];exact o) (by rw[lJ];exact z)];unfold cK;rw[Int.toNat_natCast]
theorem zN(l:List Int):∀n,0<=lV l n/\∀k,k<n->sA l k<=lV l n:=by
 intro n
 induction n with
 |zero=>exact⟨by simp[lV],fun k o=>by omega⟩
 |succ n ih=>
  rw[lV];refine⟨by have:=ih.1;omega,fun k o=>?_⟩
  by_cases h:k=n
  ·subst h;omega
  ·have:=ih.2 k (by omega);omega
theorem FW(l:List Int):∀n,lV l n=0∨∃k,k<n/\lV l n=sA l k:=by
 intro n
 induction n with
 |zero=>exact .inl rfl
 |succ n ih=>
  rw[lV]
  by_cases h:sA l n<=lV l n
  ·rcases ih with h2|⟨k,o,h2⟩
   ·exact .inl (by omega)
   ·exact .inr ⟨k,by omega,by omega⟩
  ·exact .inr ⟨n,by omega,by omega⟩
theorem R8(g:Int)(l:List Int)(h:dO g l=true):(cS g.toNat (fK l) 0:Int)=(l.length:Int)-lV l (2^l.length):=by
 obtain⟨G,rfl,K,F,Q,N⟩:=qN h;rw[Int.toNat_natCast];obtain⟨h1,J,h2⟩:=TF G K (fK l) 0 N (Nat.two_pow_pos G);obtain⟨code,I,o⟩:=UX l.length J;have M:=GL l F code I;rw[GB (fK l) (aW code) J (fun i z=>o i (by rw[lJ]at z;exact z)),N7 0 (fK l) (aW code) J (fun i z=>o i (by rw[lJ]at z;exact z))]at M;have L:=(zN l (2^l.length)).2 code I;have D:=yW G (fK l) 0;rw[lJ]at h2 D
 rcases FW l (2^l.length) with h3|⟨k,A,h3⟩
 ·omega
 ·have h4:=h1 (aW k)
  rw[lJ]at h4;have O:=GL l F k A;omega
theorem zR(P:Nat->Bool):∀(n s:Nat),(dC P n s).isSome=true↔∃k,s<=k/\k<s+n/\P k=true:=by
 intro n
 induction n with
 |zero=>
  intro s
  constructor
  ·intro h
   cases h
  ·rintro⟨k,a,b,_⟩
   omega
 |succ n ih=>
  intro s;rw[dC]
  by_cases o:P s=true
  ·rw[if_pos o]
   exact⟨fun _=>⟨s,Nat.le_refl _,by omega,o⟩,fun _=>rfl⟩
  ·rw[if_neg o,ih]
   constructor
   ·rintro⟨k,a,b,c⟩;exact⟨k,by omega,by omega,c⟩
   ·rintro⟨k,a,b,c⟩
    have:k≠s:=by intro e;subst e;exact o c
    exact⟨k,by omega,by omega,c⟩
theorem KB(P:Nat->Bool):∀(n s c:Nat),dC P n s=some c->P c=true:=by
 intro n
 induction n with
 |zero=>intro s c h;cases h
 |succ n ih=>
  intro s c h;rw[dC]at h
  split at h
  ·cases h;assumption
  ·exact ih _ _ h
theorem UC(g:Int)(l:List Int)(h:dO g l=true):iB g l=decide (0<lV l (2^l.length)):=by
 unfold iB kG;rw[h,if_pos rfl,Bool.eq_iff_iff,zR,decide_eq_true_eq]
 constructor
 ·rintro⟨k,_,A,o⟩
  have h1:=(zN l (2^l.length)).2 k (by omega);unfold mD at o;have h2:=of_decide_eq_true o;unfold sA at h1;omega
 ·intro hd
  rcases FW l (2^l.length) with h3|⟨k,z,h3⟩
  ·omega
  ·refine⟨k,Nat.zero_le _,by omega,?_⟩
   unfold mD;refine decide_eq_true ?_;unfold sA at h3;omega
theorem M0(l:List Int)(z:l.length<=6)(code:Nat)(o:code<2^l.length):fA (code:Int)=dT code l.length:=by
 unfold fA;rw[Int.toNat_natCast];exact nS code 6 l.length (Nat.lt_of_lt_of_le o (Nat.pow_le_pow_right (by decide) z)) o
theorem zU(list y:List Int):∀k,k<=list.length->cX (list++y) k=cX list k:=by
 intro k
 induction k with
 |zero=>intro _;rfl
 |succ k ih=>
  intro o;rw[cX,cX,ih (by omega)]
  congr 2
  rw[List.getD_eq_getElem?_getD,List.getElem?_append_left (by omega),<-List.getD_eq_getElem?_getD]
theorem RY(G:Nat)(R:G<=6)(l:List Int)(Y:∀x∈l,0<=x/\x<2^G):∀(n:Nat) (used:Nat) (list x:List Int),list.length+n=l.length->used<64->cX list list.length=used ->
  gW l n (used:Int) list=some x->(∃y,x=list++y)/\∀k,list.length<=k->k<l.length->mG (G:Int) l x k=true:=by
 intro n
 induction n with
 |zero=>
  intro used list x Z _ _ h;rw[uY]at h
  cases h
  exact⟨⟨[],by simp⟩,fun k h1 h2=>by omega⟩
 |succ n ih=>
  intro used list x Z Q z h;have hlt:list.length<l.length:=by omega
  rw[pW]at h;have L:=Y _ (List.getElem_mem hlt);rw[<-aJ l _ hlt]at L;obtain⟨s,O⟩:∃s:Nat,l.getD list.length 0=(s:Int):=⟨(l.getD list.length 0).toNat,by omega⟩;rw[O]at L h;have I:s<2^G:=by have:=L.2;exact_mod_cast this
  rw[yI s used G R I Q]at h;obtain⟨e,S,h2⟩:=List.exists_of_findSome?_eq_some h;obtain⟨k,hk,hp,rfl⟩:=(pD _ _ _).1 S;unfold pI at h2;rw[Int.toNat_natCast,CP]at h2;have o:(list++[(k:Int)]).getD list.length 0=(k:Int):=by
   rw[List.getD_eq_getElem?_getD,List.getElem?_append_right (Nat.le_refl _)];simp
  have A:cX (list++[(k:Int)]) (list++[(k:Int)]).length=(used ||| 2^k):=by
   rw[List.length_append,List.length_singleton,cX,zU _ _ _ (Nat.le_refl _),z,o,Int.toNat_natCast];rfl
  obtain⟨⟨y,N⟩,hr⟩:=ih _ _ x (by simp;omega) (tQ _ _ Q (by have:=Nat.pow_lt_pow_right (a:=2) (by decide) (show k<6 by omega);omega)) A h2;refine⟨⟨(k:Int)::y,by rw[N,List.append_assoc];rfl⟩,fun j U D=>?_⟩
  by_cases F:j=list.length
  ·subst F
   have M:x.getD list.length 0=(k:Int):=by
    rw[N,List.append_assoc,List.getD_eq_getElem?_getD,List.getElem?_append_right (Nat.le_refl _)];simp
   have K:cX x list.length=used:=by rw[N,List.append_assoc,zU _ _ _ (Nat.le_refl _),z]
   unfold mG;rw[M,K,O,Int.toNat_natCast,Int.toNat_natCast,hp,decide_eq_true (show(0:Int)<=k by omega),decide_eq_true (show(k:Int)<G by omega)]
   rfl
  ·exact hr j (by rw[List.length_append,List.length_singleton];omega) D
theorem Q7{p:Nat->Bool}:∀{n:Nat},(∀k,k<n->p k=true)->bX p n=true:=by
 intro n
 induction n with
 |zero=>intro _;rfl
 |succ n ih=>intro h;exact dM (ih (fun k o=>h k (by omega))) (h n (by omega))
theorem DX(g:Int)(l:List Int)(h:eR g l=true):fC g l (kC g l)=true:=by
 have z:dO g l=true:=by
  cases z:dO g l with
  |true=>rfl
  |false=>unfold eR lC at h;rw[z]at h;cases h
 obtain⟨G,rfl,D,K,I,M⟩:=qN z;unfold eR at h;obtain⟨x,A⟩:=Option.isSome_iff_exists.1 h;have F:kC (G:Int) l=x:=by unfold kC;rw[A];rfl
 rw[F];unfold lC at A;rw[z,if_pos rfl]at A;have o:=F7 l _ _ _ _ A;rw[List.length_nil,Nat.zero_add]at o;obtain⟨_,hr⟩:=RY G D l I l.length 0 [] x (by simp) (by omega) rfl A;unfold fC;rw[z,decide_eq_true o,Bool.true_and,Bool.true_and];exact Q7 (fun k L=>hr k (Nat.zero_le _) (by omega))
def BP(l w:List Int)(k:Nat):Int:=(w.take k).foldl (fun a i=>jC a (l.getD i.toNat 0)) 0
theorem XF(l:List Int)(code:Nat):∀k,(dT code k).foldl (fun a i=>jC a (l.getD i.toNat 0)) 0=bD l code k:=by
 intro k
 induction k with
 |zero=>rfl
 |succ k ih=>
  have o:dT code (k+1)=if aW code k then dT code k++[(k:Int)] else dT code k:=gQ (aW code) k;rw[o,bD,<-ih]
  cases aW code k with
  |false=>simp
  |true=>rw[if_pos rfl,if_pos rfl,List.foldl_append];simp
theorem QG(g:Int)(l:List Int)(h:iB g l=true):dO g l=true/\(∀i∈eQ g l,0<=i/\i<(l.length:Int))/\cK (BP l (eQ g l) (eQ g l).length)<((eQ g l).length:Int)/\bO g.toNat (BP l (eQ g l) (eQ g l).length)=true:=by
 have z:dO g l=true:=by
  cases z:dO g l with
  |true=>rfl
  |false=>unfold iB kG at h;rw[z]at h;cases h
 obtain⟨G,rfl,O,D,N,R⟩:=qN z;unfold iB at h;obtain⟨c,o⟩:=Option.isSome_iff_exists.1 h;have M:eQ (G:Int) l=fA (c:Int):=by unfold eQ;rw[o]
 rw[M];unfold kG at o;rw[z,if_pos rfl]at o;have hlt:=vB _ _ _ _ o;have L:=KB _ _ _ _ o;rw[Nat.zero_add]at hlt;have K:c<64:=Nat.lt_of_lt_of_le hlt (Nat.le_trans (Nat.pow_le_pow_right (by decide) D) (by decide));have A:BP l (fA (c:Int)) (fA (c:Int)).length=bD l c l.length:=by
  unfold BP;rw[List.take_length,M0 l D c hlt];exact XF l c l.length
 have F:0<=bD l c l.length/\bD l c l.length<2^G:=by
  have:∀k,k<=l.length->0<=bD l c k/\bD l c k<2^G:=by
   intro k
   induction k with
   |zero=>intro _;simp[bD];exact_mod_cast Nat.two_pow_pos G
   |succ k ih=>
    intro Q;have h1:=ih (by omega);have h2:=N _ (List.getElem_mem (show k<l.length by omega));rw[bD,aJ l k (by omega)]
    split
    ·exact sU _ _ G h1.1 h2.1 h1.2 h2.2
    ·exact h1
  exact this _ (Nat.le_refl _)
 refine⟨z,?_,?_,?_⟩
 ·intro i I
  rw[M0 l D c hlt]at I;exact JT c l.length i I
 ·rw[A,BR (c:Int) (by omega)]
  unfold mD at L;have:=of_decide_eq_true L;unfold cK at this ⊢;rw[Int.toNat_natCast];exact this
 ·rw[A]
  exact eN.2 F
def WI(g:Int)(l:List Int):Int:=if dO g l then (CI g.toNat (fK l) 0:Int) else -1
def WE(g:Int)(l:List Int):Int:=if dO g l then (cS g.toNat (fK l) 0:Int) else 0
structure HallFacts (g:Int) (l:List Int):Prop where
 few:dO g l=true->iB g l=(!eR g l)/\WE g l=(l.length:Int)-TI g l/\(decide (0<WI g l)=eR g l)/\((TI g l==0)=eR g l)
 rep:eR g l=true->fC g l (kC g l)=true
 vio:iB g l=true->dO g l=true/\(∀i∈eQ g l,0<=i/\i<(l.length:Int))/\cK (BP l (eQ g l) (eQ g l).length)<((eQ g l).length:Int)/\bO g.toNat (BP l (eQ g l) (eQ g l).length)=true
theorem A5(g:Int)(l:List Int):HallFacts g l:=by
 refine⟨fun h=>?_,DX g l,QG g l⟩;have h1:=U8 g l h;have h2:=R8 g l h;have h3:=UC g l h;have h4:=VI g.toNat (fK l) 0;have o:=W8 g.toNat (fK l) 0;have F:=(zN l (2^l.length)).1;rw[lJ]at h4;unfold WE WI TI;rw[h,if_pos rfl,if_pos rfl,if_pos rfl]
 cases hr:wF g.toNat (fK l) 0 with
 |true=>
  rw[hr]at h1 h4 o;have z:=h4.2 rfl;have A:=o.2 rfl;have D:lV l (2^l.length)=0:=by omega
  rw[h1,h3,D];exact⟨rfl,by omega,decide_eq_true (by omega),rfl⟩
 |false=>
  rw[hr]at h1 h4 o;have z:cS g.toNat (fK l) 0≠l.length:=fun e=>by cases h4.1 e
  have A:¬0<CI g.toNat (fK l) 0:=fun e=>by cases o.1 e
  rw[h1,h3];exact⟨decide_eq_true (by omega),by omega,decide_eq_false (by omega),by simp;omega⟩
end
section
open Go.RowKit Go.G5
theorem UR{g:Int}{l x:List Int}{k:Nat}(h:mG g l x k=true):0<=x.getD k 0/\x.getD k 0<g:=by
 unfold mG at h;simp only[Bool.and_eq_true,decide_eq_true_eq]at h;exact h.1
theorem TN{p:Nat->Bool}:∀{n:Nat},bX p n=true->∀k,k<n->p k=true:=by
 intro n h k o
 cases z:p k with
 |true=>rfl
 |false=>rw[cL o z]at h;cases h
theorem MV{G:Nat}{l x:List Int}{k:Nat}(h:bX (mG (G:Int) l x) k=true)(o:G<=6):cX x k<64:=
 Nat.lt_of_lt_of_le (RQ x G k (fun i z=>UR (TN h i z))) (Nat.pow_le_pow_right (n:=2) (by decide) o)
theorem OH(w:World)(g:Int)(v vx:Value)(l x:List Int)(hv:aD w v l)(f2:aD w vx x):
  Calls Tryz.prog 256 #[.int .i64 g,v,vx] w fun e w'=>e=.returned (.bool (fC g l x))/\w=w':=by
 have b0:=hv;obtain⟨a,b,h6,c,rfl,f6,S,hc,hb⟩:=hv.view Tryz.prog 22 3 Tryz.underlying22 aG;obtain⟨ax,bx,g2,cx,rfl,f0,D,Q,M⟩:=f2.view Tryz.prog 22 3 Tryz.underlying22 aG
 cases R:dO g l with
 |false=>
  have hx:fC g l x=false:=by unfold fC;rw[R];rfl
  have HX:=Lib.hid hx;have HF:=Lib.hid R;clear hx R hc hb S Q M D;go_enter Tryz.func256,Tryz.ntmps256;go_wp2_with (go_at_call 266;refine(jR g l _ _ b0).mono ?_;rintro e w1 ⟨rfl,rfl⟩;rw[HF.out]);go_ret;exact⟨aE HX.out.symm,rfl⟩
 |true=>
  obtain⟨G,rfl,hG,g8,hm,_⟩:=qN R
  by_cases N:x.length=l.length
  ·have hx:fC (G:Int) l x=bX (mG (G:Int) l x) x.length:=by unfold fC;rw[R,decide_eq_true N];rfl
   have ht:((x.length:Int) != (l.length:Int))=false:=by simp;omega
   have HX:=Lib.hid hx;have HF:=Lib.hid R;have HM:=Lib.hid hm;have e4:=Lib.hid N;clear hx R hm hb M N;go_enter Tryz.func256,Tryz.ntmps256;go_wp2_with (go_at_call 266;refine(jR (G:Int) l _ _ b0).mono ?_;rintro e w1 ⟨rfl,rfl⟩;rw[HF.out]);go_loop [7,23] (fun u i=>∃k:Nat,k<=x.length/\i=.int .i64 k/\u=.int .i64 ((cX x k:Nat):Int)/\bX (mG (G:Int) l x) k=true) (fun _ i=>x.length-(intOf i).toNat)
   case atStart=>exact⟨0,Nat.zero_le _,rfl,rfl,rfl⟩
   case round=>
    obtain⟨k,hk,rfl,rfl,L⟩:=hrel;have hu:=MV L hG;have HA:=Lib.hid L;clear L
    by_cases hlt:k<x.length
    ·have U:k<l.length:=by have:=e4.out;omega
     have e7:=hc k U;have f5:=fun W=>S W k U;have b4:=Q k hlt;have e9:=fun W=>D W k hlt;have b6:=HM.out _ (List.getElem_mem U);have o:mG (G:Int) l x k=((decide (0<=x[k])&&decide (x[k]<(G:Int)))&&(aW l[k].toNat x[k].toNat&&!aW (cX x k) x[k].toNat)):=by unfold mG;rw[aJ l k U,aJ x k hlt]
     have Z:cX x (k+1)=aP (cX x k) x[k].toNat:=by rw[cX,aJ x k hlt]
     have b7:(2:Int)^G<=64:=(bJ G 6 hG).1;obtain⟨u,b9⟩:∃u,u=cX x k:=⟨_,rfl⟩;rw[<-b9]at hu o Z ⊢;obtain⟨y,hy⟩:∃y,y=x[k]:=⟨_,rfl⟩;rw[<-hy]at b4 o Z;obtain⟨s,hs⟩:∃s:Nat,l[k]=(s:Int):=⟨l[k].toNat,by omega⟩;rw[hs]at e7 b6 o;rw[Int.toNat_natCast]at o;have f9:s<64:=by omega
     have a8:=nK (G:Int) y w;obtain⟨el,A⟩:∃el,el=(decide (0<=y)&&decide (y<(G:Int))):=⟨_,rfl⟩;rw[<-A]at a8 o;have O:=Lib.hid a8;have e0:=Lib.hid Z;clear a8 Z b9 hy hs hc S Q D b7 b6
     cases el with
     |false=>
      have z:=cL (n:=x.length) hlt (o.trans rfl);have K:=Lib.hid z;clear z o A;go_wp2_with (go_at_call 248;refine O.out.mono ?_;rintro e w' ⟨rfl,rfl⟩);go_ret;exact⟨aE (by rw[HX.out,K.out]),rfl⟩
     |true=>
      have c5:0<=y/\y<(G:Int):=by
       have:=A.symm;simp only[Bool.and_eq_true,decide_eq_true_eq]at this;exact this
      obtain⟨e,rfl⟩:=Int.eq_ofNat_of_zero_le c5.1;rw[Int.toNat_natCast]at o;have M:=dY (s:Int) e (by omega) (by omega);have e6:=dY (u:Int) e (by omega) (by omega);have Y:=gP s e;have F:=gP u e;have I:=lK s e;have e8:e<6:=by omega
      have b8:=eK u e (by omega) e8;have hp:=mW (e:Int) (by omega);rw[Int.toNat_natCast]at hp;have g9:=hp.1;have h0:=hp.2;obtain⟨z1,c6⟩:∃y,y=bR (s:Int) e:=⟨_,rfl⟩;obtain⟨z2,c7⟩:∃y,y=bR (u:Int) e:=⟨_,rfl⟩;rw[<-c6]at M Y I;rw[<-c7]at e6 F;clear A c5 c6 c7 hp
      cases h1:aW s e with
      |false=>
       have t1:(z1==0)=true:=by rw[I,h1];rfl
       have z:=cL (n:=x.length) hlt (o.trans (by rw[h1];rfl));have K:=Lib.hid z;clear z o h1 Y F I;go_wp2_with (go_at_call 248;refine O.out.mono ?_;rintro e w' ⟨rfl,rfl⟩);go_ret;exact⟨aE (by rw[HX.out,K.out]),rfl⟩
      |true=>
       have t1:(z1==0)=false:=by rw[I,h1];rfl
       cases h2:aW u e with
       |true=>
        have t2:(z2==1)=true:=by rw[F,h2]
        have z:=cL (n:=x.length) hlt (o.trans (by rw[h1,h2];rfl));have K:=Lib.hid z;clear z o h1 h2 Y F I;go_wp2_with (go_at_call 248;refine O.out.mono ?_;rintro e w' ⟨rfl,rfl⟩);go_ret;exact⟨aE (by rw[HX.out,K.out]),rfl⟩
       |false=>
        have t2:(z2==1)=false:=by rw[F,h2]
        have a7:=dM HA.out (o.trans (by rw[h1,h2];rfl));have b3:=Lib.hid a7;obtain⟨u2,a9⟩:∃q,q=aP u e:=⟨_,rfl⟩;rw[<-a9]at b8;have d0:=Lib.hid a9;clear a7 o h1 h2 Y F I a9;go_wp2_with (go_at_call 248;refine O.out.mono ?_;rintro e w' ⟨rfl,rfl⟩);go_round
        case rel=>exact⟨k+1,by omega,by go_num,by rw[e0.out,Int.toNat_natCast,<-d0.out],b3.out⟩
        case measure=>simp[intOf];omega
    ·have b5:k=x.length:=by omega
     have HK:=Lib.hid b5;clear b5;go_wp2;go_ret;exact⟨aE (by rw[HX.out,<-HK.out,HA.out]),rfl⟩
  ·have hx:fC (G:Int) l x=false:=by unfold fC;rw[decide_eq_false N,Bool.false_and,Bool.and_false]
   have ht:((x.length:Int) != (l.length:Int))=true:=by simp;omega
   have HX:=Lib.hid hx;have HF:=Lib.hid R;clear hx R hc hb S Q M D N;go_enter Tryz.func256,Tryz.ntmps256;go_wp2_with (go_at_call 266;refine(jR (G:Int) l _ _ b0).mono ?_;rintro e w1 ⟨rfl,rfl⟩;rw[HF.out]);go_ret;exact⟨aE HX.out.symm,rfl⟩
theorem uC(g y:Int):cM y 0 (g-1)=(decide (0<=y)&&decide (y<g)):=by
 unfold cM
 congr 1
 rw[Bool.eq_iff_iff,decide_eq_true_eq,decide_eq_true_eq];omega
theorem OS(w:World)(g:Int)(v vx:Value)(l x:List Int)(hv:aD w v l)(f6:aD w vx x):
  Calls Tryz.prog 196 #[.int .i64 g,v,vx] w fun e w'=>e=.returned (.bool (fC g l x))/\Below w.heap.size w w':=by
 have f5:=hv;obtain⟨a,b,i6,c,rfl,g0,Q,hc,hb⟩:=hv.view Tryz.prog 22 3 Tryz.underlying22 aG;obtain⟨ax,bx,g6,cx,rfl,f4,D,O,M⟩:=f6.view Tryz.prog 22 3 Tryz.underlying22 aG;have HL:=Lib.hid (iO g l _ w f5)
 cases hf:dO g l with
 |false=>
  have hx:fC g l x=false:=by unfold fC;rw[hf];rfl
  have Z:=Lib.hid hx;rw[hf]at HL;clear hx hf hc hb Q O M D;go_enter Tryz.func196,Tryz.ntmps196;go_wp2_with (go_at_call 202;refine HL.out.mono ?_;rintro e w1 ⟨rfl,b1⟩);go_ret;exact⟨aE Z.out.symm,b1⟩
 |true=>
  rw[hf]at HL;obtain⟨G,rfl,hG,h7,hm,_⟩:=qN hf
  by_cases N:x.length=l.length
  ·have hx:fC (G:Int) l x=bX (mG (G:Int) l x) x.length:=by unfold fC;rw[hf,decide_eq_true N];rfl
   have ht:((x.length:Int) != (l.length:Int))=false:=by simp;omega
   have Z:=Lib.hid hx;have HM:=Lib.hid hm;have e7:=Lib.hid N;have HC:=Lib.hid hc;have e4:=Lib.hid O;have wg:IntKind.i64.wrap ((G:Int)-1)=(G:Int)-1:=IntWalk.i64_in _ ⟨by omega,by omega⟩;clear hx hf hm hb M N hc O;go_enter Tryz.func196,Tryz.ntmps196;go_wp2_with (go_at_call 202;refine HL.out.mono ?_;rintro e w1 ⟨rfl,b1⟩);go_loopw [7,8] (fun u i wr=>∃k:Nat,k<=x.length/\i=.int .i64 k/\u=.int .i64 ((cX x k:Nat):Int)/\bX (mG (G:Int) l x) k=true/\Below w.heap.size w wr) (fun _ i _=>x.length-(intOf i).toNat)
   case atStart=>exact⟨0,Nat.zero_le _,rfl,rfl,rfl,b1⟩
   case round=>
    obtain⟨k,hk,rfl,rfl,L,Bw⟩:=hrel;have hu:=MV L hG;have HA:=Lib.hid L;clear L b1
    by_cases hlt:k<x.length
    ·have R:k<l.length:=by have:=e7.out;omega
     have f0:=keep Bw (HC.out k R);have f9:=fun W=>Q W k R;have b6:=keep Bw (e4.out k hlt);have f3:=fun W=>D W k hlt;have b8:=HM.out _ (List.getElem_mem R);have o:mG (G:Int) l x k=((decide (0<=x[k])&&decide (x[k]<(G:Int)))&&(aW l[k].toNat x[k].toNat&&!aW (cX x k) x[k].toNat)):=by unfold mG;rw[aJ l k R,aJ x k hlt]
     have U:cX x (k+1)=aP (cX x k) x[k].toNat:=by rw[cX,aJ x k hlt]
     have b9:(2:Int)^G<=64:=(bJ G 6 hG).1;obtain⟨u,c6⟩:∃u,u=cX x k:=⟨_,rfl⟩;rw[<-c6]at hu o U ⊢;obtain⟨y,hy⟩:∃y,y=x[k]:=⟨_,rfl⟩;rw[<-hy]at b6 o U;obtain⟨s,hs⟩:∃s:Nat,l[k]=(s:Int):=⟨l[k].toNat,by omega⟩;rw[hs]at f0 b8 o;rw[Int.toNat_natCast]at o;have g3:s<64:=by omega
     have a9:=uC (G:Int) y;obtain⟨el,A⟩:∃el,el=(decide (0<=y)&&decide (y<(G:Int))):=⟨_,rfl⟩;rw[<-A]at a9 o;have Y:=Lib.hid a9;have e6:=Lib.hid U;clear a9 U c6 hy hs Q D b9 b8
     cases el with
     |false=>
      have z:=cL (n:=x.length) hlt (o.trans rfl);have K:=Lib.hid z;clear z o A;go_wp2_with fail;go_quiet ((go_at_call 188;first|exact iN (aR _ _ _ _) Y.out|exact kE (aR _ _ _ _) Y.out));go_wp2;go_ret;exact⟨aE (by rw[Z.out,K.out]),Bw.drewN' _⟩
     |true=>
      have c7:0<=y/\y<(G:Int):=by
       have:=A.symm;simp only[Bool.and_eq_true,decide_eq_true_eq]at this;exact this
      obtain⟨e,rfl⟩:=Int.eq_ofNat_of_zero_le c7.1;rw[Int.toNat_natCast]at o;have M:=dY (s:Int) e (by omega) (by omega);have e9:=dY (u:Int) e (by omega) (by omega);have S:=gP s e;have F:=gP u e;have I:=lK s e;have f2:e<6:=by omega
      have c5:=eK u e (by omega) f2;have hp:=mW (e:Int) (by omega);rw[Int.toNat_natCast]at hp;have h8:=hp.1;have h9:=hp.2;obtain⟨z1,c8⟩:∃y,y=bR (s:Int) e:=⟨_,rfl⟩;obtain⟨z2,c9⟩:∃y,y=bR (u:Int) e:=⟨_,rfl⟩;rw[<-c8]at M S I;rw[<-c9]at e9 F;clear A c7 c8 c9 hp
      cases h1:aW s e with
      |false=>
       have t1:(z1==0)=true:=by rw[I,h1];rfl
       have z:=cL (n:=x.length) hlt (o.trans (by rw[h1];rfl));have K:=Lib.hid z;clear z o h1 S F I;go_wp2_with fail;go_quiet ((go_at_call 188;first|exact iN (aR _ _ _ _) Y.out|exact kE (aR _ _ _ _) Y.out));go_wp2;go_ret;exact⟨aE (by rw[Z.out,K.out]),Bw.drewN' _⟩
      |true=>
       have t1:(z1==0)=false:=by rw[I,h1];rfl
       cases h2:aW u e with
       |true=>
        have t2:(z2==1)=true:=by rw[F,h2]
        have z:=cL (n:=x.length) hlt (o.trans (by rw[h1,h2];rfl));have K:=Lib.hid z;clear z o h1 h2 S F I;go_wp2_with fail;go_quiet ((go_at_call 188;first|exact iN (aR _ _ _ _) Y.out|exact kE (aR _ _ _ _) Y.out));go_wp2;go_ret;exact⟨aE (by rw[Z.out,K.out]),Bw.drewN' _⟩
       |false=>
        have t2:(z2==1)=false:=by rw[F,h2]
        have a7:=dM HA.out (o.trans (by rw[h1,h2];rfl));have b5:=Lib.hid a7;obtain⟨u2,b0⟩:∃q,q=aP u e:=⟨_,rfl⟩;rw[<-b0]at c5;have e5:=Lib.hid b0;clear a7 o h1 h2 S F I b0;go_wp2_with fail;go_quiet ((go_at_call 188;first|exact iN (aR _ _ _ _) Y.out|exact kE (aR _ _ _ _) Y.out));go_wp2;go_roundw
        case rel=>exact⟨k+1,by omega,by go_num,by rw[e6.out,Int.toNat_natCast,<-e5.out],b5.out,Bw.drewN' _⟩
        case measure=>simp[intOf];omega
    ·have b7:k=x.length:=by omega
     have HK:=Lib.hid b7;clear b7;go_wp2;go_ret;exact⟨aE (by rw[Z.out,<-HK.out,HA.out]),Bw⟩
  ·have hx:fC (G:Int) l x=false:=by unfold fC;rw[decide_eq_false N,Bool.false_and,Bool.and_false]
   have ht:((x.length:Int) != (l.length:Int))=true:=by simp;omega
   have Z:=Lib.hid hx;clear hx hf hc hb Q O M D N;go_enter Tryz.func196,Tryz.ntmps196;go_wp2_with (go_at_call 202;refine HL.out.mono ?_;rintro e w1 ⟨rfl,b1⟩);go_ret;exact⟨aE Z.out.symm,b1⟩
end
end Go.Proofs.YtipejodijbjpcaaGreatDoor
