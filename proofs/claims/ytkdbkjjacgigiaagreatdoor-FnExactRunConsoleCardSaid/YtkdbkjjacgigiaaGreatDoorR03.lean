/- Lemmas for CardRunConsole. No condition. -/
import Derived.Test.YtkdbkjjacgigiaaGreatDoorR02
import Derived.Deep.RegionHeld3
import Derived.Deep.AppendLies
set_option maxRecDepth 100000
set_option maxHeartbeats 64000000
namespace Go.Proofs.YtkdbkjjacgigiaaGreatDoor
section
open Go.RowKit Go.G5 Go.Proofs.Tryz
variable(w:World)(n:Int)(v:Value)(l:aI)
def jI(l:List Int)(s:Int):Bool:=decide (s∈l)
theorem O0{l:aI}{s:Int}:jI l s=true↔s∈l:=by simp[jI]
theorem Y7(k:Nat)(h:k<l):jI l l[k]=true:=O0.2 (aX h)
theorem EB{l:aI}{s:Int}(h:∀k,(hk:k<l.length)->l[k]≠s):jI l s=false:=by
 unfold jI;rw[decide_eq_false_iff_not];intro hm;obtain⟨k,hk,z⟩:=List.getElem_of_mem hm;exact h k hk z
theorem rX(v:Value)(s:Int)(w:World)(S:Ints w v l):
  Calls prog 110 #[v,s] w fun e w'=>e=aQ (aG (jI l s))/\w=w':=by
 obtain⟨a,b,Y,c,rfl,M,O,hc,hb⟩:=S.vw;go_enter func110,ntmps110;go_wp2;go_loop [5] (fun i=>∃k:Nat,k<=l/\i=aO k/\(∀j,(J:j<l.length)->j<k->l[j]≠s)) (fun i=>l.length-(intOf i).toNat)
 .exact⟨0,aZ _,rfl,by intros;omega⟩
 obtain⟨k,hk,rfl,I⟩:=hrel;have H:=aT I;clear I;by_cases hlt:k<l
 .by_cases z:l[k]=s
  .have ht:(l[k]==s)=true:=by simp[z]
   have D:jI l s=true:=by rw[<-z];exact Y7 l k hlt
   have K:=aT D;clear z D;go_wp2;go_ret;exact⟨by rw[K.out];rfl,rfl⟩
  .have ht:(l[k]==s)=false:=by simp[z]
   have N:=aT z;clear z;go_wp2;go_round
   .refine⟨k+1,aA,cD,fun j J R=>?_⟩;by_cases F:j=k
    .subst F;exact N.out
    .exact H.out j J aA
   exact aY
 .have D:jI l s=false:=EB fun j J=>H.out j J aA;have K:=aT D;clear D;go_wp2;go_ret;exact⟨by rw[K.out];rfl,rfl⟩
theorem aeU(x:Int)(w:World):Calls prog 385 #[x] w fun e w'=>e=aQ (aG false)/\w=w':=by
 have h:(x != x)=false:=bF;go_enter func385,ntmps385;go_wp2;go_ret;exact⟨rfl,rfl⟩
theorem VU(x:Int)(w:World):Calls prog 369 #[x] w fun e w'=>e=aQ (aG false)/\w=w':=by
 have h:(x != x)=false:=bF;go_enter func369,ntmps369;go_wp2;go_ret;exact⟨rfl,rfl⟩
theorem NW(x y:Int)(w:World):Calls prog 368 #[x,y] w fun e w'=>e=aQ (aG (decide (x<y)))/\w=w':=by
 go_enter func368,ntmps368;go_wp2_with (go_at_call 385;refine aV (aeU _ _) ?_;rintro w' rfl);go_ret;exact⟨rfl,rfl⟩
theorem WD(v:Value)(s:Int)(w:World)(hv:Ints w v l)(J:l.Pairwise (· < ·))(hl:l.length<=1048576):
  Calls prog 347 #[v,s] w fun e w'=>(∃i:Int,e=aQ (aS #[i,aG (jI l s)]))/\w=w':=by
 obtain⟨a,b,b0,c,rfl,b5,a6,hc,hb⟩:=hv.vw;have z:∀i j,(hi:i<l.length)->(hj:j<l.length)->i<j->l[i]<l[j]:=fun i j hi hj a1=>List.pairwise_iff_getElem.1 J i j hi hj a1;have N:=aT z;clear z J;go_enter func347,ntmps347;go_wp2;go_loop [7,8] (fun i j=>∃p q:Nat,p<=q/\q<=l/\i=aO p/\j=aO q/\(∀t,(ht:t<l.length)->t<p->l[t]<s)/\(∀t,(ht:t<l.length)->q<=t->s<=l[t])) (fun i j=>(intOf j).toNat-(intOf i).toNat)
 .exact⟨0,l.length,aZ _,aU,rfl,rfl,by intros;omega,by intros;omega⟩
 obtain⟨p,q,b7,a8,rfl,rfl,hlo,Y⟩:=hrel;have M:=aT hlo;have S:=aT Y;clear hlo Y;by_cases hlt:p<q
 .have hm:(p+q)/2<l.length:=aA;have hcm:=hc ((p+q)/2) hm;have b3:∀w',(Instr.indexAt 25 (aD a l c) (aO (((p:Int)+(q:Int))/2))).run prog w'=.ok (aP (some ⟨b,b0+(p+q)/2,none⟩)) w':=fun w'=>by rw[show(((p:Int)+(q:Int))/2)=(((p+q)/2:Nat):Int) from aA];exact a6 w' _ hm
  by_cases a7:l[(p+q)/2]<s
  .go_wp2_with (go_at_call 368;refine aV (NW _ _ _) ?_;rintro w' rfl)
   go_round
   .refine⟨(p+q)/2+1,q,aA,a8,cD,rfl,fun t ht a9=>?_,S.out⟩;by_cases h:t=(p+q)/2
    .subst h;exact a7
    .have:=N.out t ((p+q)/2) ht hm aA;omega
   exact aY
  .go_wp2_with (go_at_call 368;refine aV (NW _ _ _) ?_;rintro w' rfl)
   go_round
   .refine⟨p,(p+q)/2,aA,aA,rfl,cD,M.out,fun t ht a9=>?_⟩;by_cases h:t=(p+q)/2
    .subst h;omega
    .have:=N.out ((p+q)/2) t hm ht aA;omega
   exact aY
 .have D:p=q:=aA;by_cases F:p<l
  .have b6:=hc p F;by_cases O:l[p]=s
   .have ht:(l[p]==s)=true:=by simp[O]
    have K:jI l s=true:=by rw[<-O];exact Y7 l p F
    have R:=aT K;clear O K D;go_wp2_with (go_at_call 369;refine aV (VU _ _) ?_;rintro w' rfl);go_ret2;exact⟨⟨p,by rw[R.out];rfl⟩,rfl⟩
   .have ht:(l[p]==s)=false:=by simp[O]
    have K:jI l s=false:=EB fun t I Z=>by
     rcases Nat.lt_trichotomy t p with h|h|h
     .have:=M.out t I h;omega
     .subst h;exact O Z
     .have h1:=S.out p F aA;have h2:=N.out p t F I h;omega
    have R:=aT K;clear O K D;go_wp2_with (go_at_call 369;refine aV (VU _ _) ?_;rintro w' rfl);go_ret2;exact⟨⟨p,by rw[R.out];rfl⟩,rfl⟩
  .have K:jI l s=false:=EB fun t I Z=>by have:=M.out t I aA;omega
   have R:=aT K;clear K D;go_wp2;go_ret2;exact⟨⟨p,by rw[R.out];rfl⟩,rfl⟩
theorem CK(g:Int)(l:aI)(v:Value)(s:Int)(w:World)(D:Ints w v l)(z:l.Pairwise (· < ·))(hl:l.length<=1048576):
  aH 295 #[aM #[g,v],s] w (aG (jI l s)):=by
 obtain⟨F,I,rfl⟩:=D.shape;have H:=aT z;clear z;go_enter func295,ntmps295;go_wp2_with (go_at_call 347;refine(WD l _ _ _ (D.alloc _) H.out hl).mono ?_;rintro e w' ⟨⟨i,rfl⟩,rfl⟩);go_ret;exact⟨rfl,cQ _ _⟩
def eU(l:List Int):Int:=l.foldl gO 0
theorem AD(g:Nat)(l:aI)(h:∀s∈l,0<=s/\s<2^g):∀z,0<=z->z<2^g->0<=l.foldl gO z/\l.foldl gO z<2^g:=by
 induction l with
 |nil=>intro z D h1;exact⟨D,h1⟩
 |cons a l ih=>intro z D h1;have F:=h a bF;have I:=DC z a g D F.1 h1 F.2;exact ih (fun s J=>h s (by simp[J])) _ I.1 I.2
theorem pW(v:Value)(w:World)(N:Ints w v l)(h:∀s∈l,0<=s/\s<64):
  Calls prog 314 #[v] w fun e w'=>e=aQ (eU l)/\w=w':=by
 obtain⟨a,b,O,c,rfl,I,J,hc,hb⟩:=N.vw;go_enter func314,ntmps314;go_wp2;go_loop [3,8] (fun m i=>∃k:Nat,k<=l/\i=aO k/\m=aO (eU (l.take k))) (fun _ i=>l.length-(intOf i).toNat)
 .exact⟨0,aZ _,rfl,rfl⟩
 obtain⟨k,hk,rfl,rfl⟩:=hrel;have z:=AD 6 (l.take k) (fun s M=>by have:=h s (List.mem_of_mem_take M);simpa using this) 0 aA bZ;obtain⟨m,hm⟩:=aW (eU (l.take k));rw[show(l.take k).foldl gO 0=m from hm.symm]at z;rw[<-hm];have F:=aT hm;have h1:0<=m:=z.1;have h2:m<64:=by simpa using z.2
 clear hm z;by_cases hlt:k<l
 .have D:=h _ (aX hlt);have K:=vJ h1 aA D.1 aA;go_wp2;go_round
  .exact⟨k+1,aA,cD,by unfold eU;rw[A0 _ _ _ _ hlt];rw[F.out];rfl⟩
  exact aY
 .go_wp2;go_ret;exact⟨jK (by rw[F.out];unfold eU;rw[OU _ _ _ _ aA]),rfl⟩
theorem lC(w:World)(z:Ints w v l)(I:0<=n)(h1:n<=40):
  aH 302 #[aM #[n,v]] w (aO (2^n.toNat-1)):=by
 obtain⟨D,F,rfl⟩:=z.shape;have h2:=dW n.toNat 40 aA;have h3:=h2.1;have h4:=h2.2;simp at h3;clear h2;go_enter func302,ntmps302;go_wp2;go_ret;exact⟨rfl,cQ _ _⟩
def ZE(g:Int)(l x:List Int):Bool:=cO g l&&x.all (jI l)&&(eU x==2^g.toNat-1)
theorem fS{g:Int}{l:aI}(h:cO g l=true):∀s∈l,0<=s/\s<64:=by
 obtain⟨z,D,F,_⟩:=fF h;intro s hm;have:=F s hm;have:=nY z D;omega
def dP(p:Nat->Bool):Nat->Bool
 |0=>true
 |k+1=>dP p k&&p k
theorem eT{p:Nat->Bool}{k n:Nat}(h:k<n)(z:p k=false):dP p n=false:=by
 induction n with
 |zero=>omega
 |succ n ih=>
  rw[dP];by_cases hk:k=n
  .rw[<-hk,z];simp
  .rw[ih aA];rfl
theorem fJ{p:Nat->Bool}{k:Nat}(h:dP p k=true)(z:p k=true):dP p (k+1)=true:=by rw[dP,h,z];rfl
theorem cJ(k:Nat)(h:k<l):l.getD k 0=l[k]:=by rw[bR,cG h,Option.getD_some]
def tX(l:List Int)(s:Int):Bool:=l.all fun t=>cU t s != 0
def qQ(g:Int)(l:List Int):Bool:=cO g l&&l.all (tX l)
def RA(l:List Int):Bool:=dP (fun i=>dP (fun k=>cU (l.getD i 0) (l.getD k 0) != 0) (i+1)) l.length
theorem ai9{p:Prop}(h:p:=by
  obtain⟨k,hk,rfl,z⟩:=hrel;have H:=aT z;clear z;by_cases hlt:k<l.length
  .have M:=hm _ (aX hlt);have S:=fV M.1 (show l[k]<4611686018427387904 from aA) R aA;by_cases D:cU l[k] s=0
   .have ht:(cU l[k] s==0)=true:=by simp[D]
    have I:(cU l[k] s != 0)=false:=by simp[D]
    have J:=aT I;clear D I;go_wp2;go_ret;exact⟨cP (by unfold tX;rw[lW _ _ _ hlt J.out]),rfl⟩
   .have ht:(cU l[k] s==0)=false:=by simp[D]
    have I:(cU l[k] s != 0)=true:=by simp[D]
    have J:=aT I;clear D I;go_wp2;go_round
    .exact⟨k+1,aA,cD,by rw[lG _ _ _ hlt,H.out,J.out];rfl⟩
    exact aY
  .go_wp2
   go_ret;exact⟨cP (by unfold tX;rw[<-nD _ l k aA,H.out]),rfl⟩):p:=h
theorem LP(v:Value)(s:Int)(w:World)(N:Ints w v l)(hm:∀x∈l,0<=x/\x<64)(R:0<=s)(h1:s<64):
  Calls prog 300 #[v,s] w fun e w'=>e=aQ (aG (tX l s))/\w=w':=by
 obtain⟨a,b,O,c,rfl,F,K,hc,hb⟩:=N.vw;go_enter func300,ntmps300;go_wp2;go_loop [9] (fun i=>∃k:Nat,k<=l/\i=aO k/\(l.take k).all (fun t=>cU t s != 0)=true) (fun i=>l.length-(intOf i).toNat)
 .exact⟨0,aZ _,rfl,bF⟩
 exact ai9
theorem acB(g:Int)(l:aI)(v:Value)(w:World)(O:Ints w v l):
  aH 227 #[aM #[g,v]] w (aG (qQ g l)):=by
 obtain⟨a,b,a7,c,rfl,Z,a6,hc,hb⟩:=O.vw;have Y:=Box2.new w g (aD a l c) 29;go_enter func227,ntmps227;go_wp2_with fail;refine aV (eP g l _ _ (O.alloc _)) ?_;intro w1 F;obtain⟨d0,d1,D,z1⟩:=Y.after F;have a1:=bY hc hb D aU;have R:=O.below D aU;clear hc hb F Y
 cases N:cO g l with
 |false=>
  have J:qQ g l=false:=by unfold qQ;rw[N];rfl
  have K:=aT J;clear J;go_wp2;go_ret;exact⟨by rw[K.out];rfl,D⟩
 |true=>
  have hm:=fS N;have J:qQ g l=l.all (tX l):=by unfold qQ;rw[N];rfl
  have K:=aT J;have S:=aT hm;clear J hm;go_wp2_with fail;go_loop [11] (fun i=>∃k:Nat,k<=l/\i=aO k/\(l.take k).all (tX l)=true) (fun i=>l.length-(intOf i).toNat)
  .exact⟨0,aZ _,rfl,bF⟩
  obtain⟨k,hk,rfl,z⟩:=hrel;have H:=aT z;clear z;by_cases hlt:k<l
  .have I:=S.out _ (aX hlt);have hcl:=LP l (aD a l c) l[k] w1 R S.out I.1 I.2
   cases M:tX l l[k]with
   |true=>
    rw[M]at hcl;go_wp2_with (go_at_call 300;refine aV hcl ?_;rintro w' rfl);go_round
    .exact⟨k+1,aA,cD,by rw[lG _ _ _ hlt,H.out,M];rfl⟩
    exact aY
   |false=>rw[M]at hcl;go_wp2_with (go_at_call 300;refine aV hcl ?_;rintro w' rfl);go_ret;exact⟨cP (by rw[K.out,lW _ _ _ hlt M]),D⟩
  .go_wp2;go_ret;exact⟨cP (by rw[K.out,<-nD _ l k aA,H.out]),D⟩
theorem ZJ(v:Value)(w:World)(hv:Ints w v l)(hm:∀x∈l,0<=x/\x<64):
  aH 108 #[v] w (aG (RA l)):=by
 obtain⟨a,b,a6,c,rfl,S,Y,hc,hb⟩:=hv.vw;have R:=aT hm;clear hm;go_enter func108,ntmps108;go_wp2;go_loopw [3] (fun i wr=>∃k m:Nat,k<=l.length/\i=aO k/\wr=w.drewN m/\dP (fun i=>dP (fun k=>cU (l.getD i 0) (l.getD k 0) != 0) (i+1)) k=true) (fun i _=>l.length-(intOf i).toNat)
 .exact⟨0,0,aZ _,rfl,rfl,rfl⟩
 obtain⟨k,m,hk,rfl,rfl,z⟩:=hrel;have H:=aT z;clear z;by_cases hlt:k<l.length
 .have M:=R.out _ (aX hlt);go_wp2;go_loopw [4] (fun j wr=>∃q n:Nat,q<=k+1/\j=aO q/\wr=w.drewN n/\dP (fun q=>cU (l.getD k 0) (l.getD q 0) != 0) q=true) (fun j _=>k+1-(intOf j).toNat)
  .exact⟨0,m,aA,rfl,rfl,rfl⟩
  obtain⟨q,n,hq,rfl,rfl,I⟩:=hrel;have O:=aT I;clear I;by_cases Z:q<=k
  .have D:q<l.length:=aA;have N:=R.out _ (aX D);have hA:=fV M.1 (show l[k]<4611686018427387904 from aA) N.1 (show l[q]<4611686018427387904 from aA);by_cases F:cU l[k] l[q]=0
   .have ht:(cU l[k] l[q]==0)=true:=by simp[F]
    have J:(cU (l.getD k 0) (l.getD q 0) != 0)=false:=by rw[cJ l k hlt,cJ l q D];simp[F]
    have K:=aT J;clear F J;go_wp2;go_quiet (fail);go_wp2;go_ret;exact⟨cP (eT (p:=fun i=>dP (fun k=>cU (l.getD i 0) (l.getD k 0) != 0) (i+1)) hlt (eT (p:=fun q=>cU (l.getD k 0) (l.getD q 0) != 0) (show q<k+1 from aA) K.out)).symm,((bJ _ _).drewN' _).drewN' _⟩
   .have ht:(cU l[k] l[q]==0)=false:=by simp[F]
    have J:(cU (l.getD k 0) (l.getD q 0) != 0)=true:=by rw[cJ l k hlt,cJ l q D];simp[F]
    have K:=aT J;clear F J;go_wp2;go_quiet (fail);go_wp2;go_roundw
    .exact⟨q+1,n+nq,aA,cD,bF,fJ O.out K.out⟩
    exact aY
  .go_wp2
   go_roundw
   .exact⟨k+1,n,aA,cD,rfl,fJ H.out (by rw[show k+1=q from aA];exact O.out)⟩
   exact aY
 .go_wp2;go_ret;exact⟨cP (by unfold RA;rw[show l.length=k from aA,H.out]),(bJ _ _).drewN' _⟩
def tA(g:Int)(l:List Int):Bool:=decide (l.length<=6)&&gE g l
def uC(l:List Int):Nat->Int->List Int->Option (List Int)
 |0,_,list=>some list
 |n+1,used,list=>(iP (dQ (l.getD list.length 0) used)).findSome? fun e=>uC l n (gO used (2^e.toNat)) (list++[e])
def MA(l:List Int)(n:Nat)(used:Int)(list:List Int)(e:Int):Option (List Int):=uC l n (gO used (2^e.toNat)) (list++[e])
theorem VR(n:Nat)(used:Int)(list:aI):uC l (n+1) used list=(iP (dQ (l.getD list.length 0) used)).findSome? (MA l n used list):=rfl
def zY(g:Int)(l:List Int):Option (List Int):=if tA g l then uC l l.length 0 [] else none
def qT(g:Int)(l:List Int):Bool:=(zY g l).isSome
def yU(g:Int)(l:List Int):List Int:=(zY g l).getD []
theorem J3{α β:Type}(F:α->Option β)(l:List α)(k:Nat)(h:k<l):(l.take (k+1)).findSome? F=((l.take k).findSome? F).or (F l[k]):=by
 rw[cH h,List.findSome?_append]
 cases z:F l[k]<;>simp[z]
theorem YN{α β:Type}(F:α->Option β)(l:List α)(k:Nat)(h:k<l)(x:β)(z:(l.take k).findSome? F=none)(D:F l[k]=some x):l.findSome? F=some x:=by
 have e:l=l.take (k+1)++l.drop (k+1):=(List.take_append_drop _ _).symm;rw[e,List.findSome?_append,J3 F l k h,z,D];rfl
theorem JL(e:Int)(h:0<=e/\e<6):0<(2:Int)^e.toNat/\(2:Int)^e.toNat<64:=by
 rcases(show e=0\/e=1\/e=2\/e=3\/e=4\/e=5 from aA) with rfl|rfl|rfl|rfl|rfl|rfl<;>decide
theorem L2{g:Int}{l:aI}(h:qT g l=false):yU g l=[]:=by
 unfold qT at h;unfold yU
 cases hr:zY g l with
 |none=>rfl
 |some x=>rw[hr]at h;simp at h
def gA(l:List Int)(code:Nat):Nat->Int
 |0=>0
 |k+1=>if eI code k then gO (gA l code k) (l.getD k 0) else gA l code k
def I8(l:List Int)(code:Nat):Bool:=decide (eO (gA l code l.length)<(dG code:Int))
def kI(P:Nat->Bool):Nat->Nat->Option Nat
 |0,_=>none
 |n+1,s=>if P s then some s else kI P n (s+1)
def yZ(g:Int)(l:List Int):Option Nat:=if tA g l then kI (I8 l) (2^l.length) 0 else none
def yY(g:Int)(l:List Int):Bool:=(yZ g l).isSome
def vR(g:Int)(l:List Int):List Int:=match yZ g l with|none=>[]|some c=>iP (c:Int)
theorem wH(code:Nat)(h:∀x∈l,0<=x/\x<64):∀k,k<=l.length->0<=gA l code k/\gA l code k<64:=by
 intro k
 induction k with
 |zero=>intro _;simp[gA]
 |succ k ih=>
  intro hk;have z:=ih aA;have D:=h _ (aX (show k<l.length from aA));rw[gA,cJ l k aA]
  split
  .exact DC _ _ 6 z.1 D.1 z.2 D.2
  .exact z
theorem aiR(h:∀x∈l,0<=x/\x<64):I8 l 0=false:=by
 unfold I8;have:=wH l 0 h l.length aU;have z:=(zP (gA l 0 l.length) aA).1;simp[PD];exact z
theorem ahZ(P:Nat->Bool)(n:Nat)(h:P 0=false):kI P (n+1) 0=kI P n 1:=by rw[kI,h];rfl
theorem P9{g:Int}{l:aI}(h:tA g l=true):l.length<=6/\0<=g/\g<=6/\(∀s∈l,0<=s/\s<2^g.toNat)/\(∀s∈l,0<=s/\s<64):=by
 unfold tA gE at h;simp only[Bool.and_eq_true,decide_eq_true_eq,List.all_eq_true]at h;have z:=eW.1 h.2.1;have F:=nY z.1 z.2;have hm:∀s∈l,0<=s/\s<2^g.toNat:=fun s D=>nF.1 (h.2.2 s D);exact⟨h.1,z.1,z.2,hm,fun s D=>by have:=hm s D;omega⟩
end
end Go.Proofs.YtkdbkjjacgigiaaGreatDoor
section
namespace Go.G5
open Go Go.RowKit
section
variable {P:Program} {w:World}
theorem ajI{p:Prop}(h:p:=by
  intro j u M;rcases h4 with h|⟨b,N,hb,_,hc⟩
  .subst h;simp at M
  .simp only[Option.some.injEq]at hb
   subst hb;have hj:j<m.length:=by
    rcases Nat.lt_or_ge j m.length with h|h
    .exact h
    .rw[List.getElem?_eq_none (by simpa using h)]at M;cases M
   have:=hc j hj;have e:(⟨b,N,none⟩:Addr).add j=⟨b,N+j,none⟩:=by
    unfold Addr.add;split
    .rename_i h0;rw[h0];rfl
    .rfl
   rw[e,this];rw[List.getElem?_map,cG hj]at M;exact M):p:=h
theorem aj1{p:Prop}(h:p:=by
  rcases z.1.2 with⟨rfl,hn⟩|⟨g,cap,b4,rfl,_,_,a8,_⟩
  .simp[Builtin.append_,run_underlying O,sizeOf,typeInfo,R,Builtin.lenOf,Builtin.firstCells]
  .simp[Builtin.append_,run_underlying O,sizeOf,typeInfo,R,Builtin.lenOf,Builtin.firstCells,a8,storeCells]):p:=h
theorem acW(T E Z:TypeId)(O:P.underlying T=some (.slice E))(hE:IntElem P E)(B:Nat)(v:Value)(l:aI)(z:bB E B w v l)
  (Y:Value) (m:aI) (hs:Ints w Y m) (S:l.length+m.length<=17592186044416) (hB:B<=w.heap.size):
  ∃K w',(Builtin.append_ #[T,T] Z #[v,Y]).run P w=.ok K w'/\bB E B w' K (l++m)/\w.grownBy w' v.ownBlock:=by
 obtain⟨i,R,hz,h1,h8⟩:=hE.get;obtain⟨ad,c,rfl,a7,hcm,hr,h4⟩:=hs;have I:∀q∈l++m,fM q:=fun q hq=>(dM.1 hq).elim (z.2 q) (hr q);have F:ad=none->m=[]:=by
  intro e;rcases h4 with h|⟨b,N,hb,_⟩
  .exact h
  .rw[e]at hb;cases hb
 cases ad with
 |none=>have:=F rfl;subst this;refine⟨v,w,?_,by simpa using z,dO w _⟩;exact aj1
 |some ad=>
  have D:∀j u,(m.map (Value.int .i64))[j]?=some u->w.cell? (ad.add j)=some u:=by exact ajI
  obtain⟨K,w',J,h2,h3,_⟩:=run_append_own_at (P:=P) w B T Z E i (aO 0) 1 8 O R hz h1 h8 rfl bZ v l.length (l.map (Value.int .i64)) z.1 ad m.length c (m.map (Value.int .i64)) bF D
   (by intro u M;obtain⟨q,_,rfl⟩:=List.mem_map.1 M;rfl) (by unfold maxLen;omega) aA hB
  exact⟨K,w',J,⟨by simpa using h2,I⟩,h3⟩
theorem SA{o:Oper}{a:Act}{K:Act->World->Prop}{Q:Exit->Act->World->Prop}(s x:Operand)(t:TypeId)
  (R:o.op=.call { callee:=.builtin .append,args:=#[s,x],argTypes:=#[t,t] })
  (E:TypeId) (O:P.underlying t=some (.slice E)) (N:IntElem P E) (B:Nat) (v:Value) (l:aI) (S:a.eval s=v) (D:bB E B w v l)
  (M:Value) (m:aI) (Y:a.eval x=M) (J:Ints w M m) (z:l.length+m.length<=17592186044416) (hB:B<=w.heap.size)
  (h:∀I w',bB E B w' I (l++m)->w.grownBy w' v.ownBlock->K (a.put o.dst I) w'):o.wp P a w K Q:=by
 obtain⟨I,w',F,h2,h3⟩:=acW (P:=P) t E o.type O N B v l D M m J z hB;unfold Oper.wp execOp;simp only[R,resolve,invoke,builtin,Sem.run_bind,Sem.run_pure,Result.andThen_ok,List.map_toArray,List.map_cons,List.map_nil,S,Y,F];exact h I w' h2 h3
theorem AG{ops:Array Oper}{rest:List Oper}{o:Oper}{a:Act}{Q:Exit->Act->World->Prop}(I:o.guard=none)(s x:Operand)(t:TypeId)
  (R:o.op=.call { callee:=.builtin .append,args:=#[s,x],argTypes:=#[t,t] })
  (E:TypeId) (O:P.underlying t=some (.slice E)) (M:IntElem P E) (B:Nat) (v:Value) (l:aI) (S:a.eval s=v) (D:bB E B w v l)
  (K:Value) (m:aI) (Y:a.eval x=K) (J:Ints w K m) (z:l.length+m.length<=17592186044416) (hB:B<=w.heap.size)
  (h:∀F w',bB E B w' F (l++m)->w.grownBy w' v.ownBlock->wpList P ops Q rest (a.put o.dst F) w'):wpList P ops Q (o::rest) a w:=
 wpList_plain I fun _ N=>SA s x t R E O M B v l S D K m Y J z hB fun F w' h2 h3=>N _ _ (h F w' h2 h3)
theorem MH{ops:Array Oper}{o:Oper}{a:Act}{K:Act->World->Prop}{Q:Exit->Act->World->Prop}{F:Prop}(I:o.guard=none)(s x:Operand)(t:TypeId)
  (S:o.op=.call { callee:=.builtin .append,args:=#[s,x],argTypes:=#[t,t] })
  (E:TypeId) (R:P.underlying t=some (.slice E)) (O:IntElem P E) (B:Nat) (v:Value) (l:aI) (Y:a.eval s=v) (D:bB E B w v l)
  (M:Value) (m:aI) (Z:a.eval x=M) (J:Ints w M m) (z:l.length+m.length<=17592186044416) (hB:B<=w.heap.size)
  (h:∀N w',bB E B w' N (l++m)->w.grownBy w' v.ownBlock->K (a.put o.dst N) w'):if Region.wanted o (yielded ops a.tmps)=true then Oper.wp P o a w K Q else F:=by
 have hw:Region.wanted o (yielded ops a.tmps)=true:=by simp[Region.wanted,I]
 rw[if_pos hw];exact SA s x t S E R O B v l Y D M m Z J z hB h
theorem MG{ops:Array Oper}{o:Oper}{a:Act}{K:Act->World->Prop}{Q:Exit->Act->World->Prop}{F:Prop}(D:o.guard=none)(s x:Operand)(t:TypeId)
  (Y:o.op=.call { callee:=.builtin .append,args:=#[s,x],argTypes:=#[t,t] })
  (E:TypeId) (S:P.underlying t=some (.slice E)) (R:IntElem P E) (B:Nat) (v:Value) (l:aI) (y:Int) (b:Nat) (Z:a.eval s=v) (hx:a.eval x=aD (some ⟨b,0,none⟩) 1 1)
  (N:w.cell? ⟨b,0,none⟩=some (aO y))
  (z:bB E B w v l) (I:fM y) (J:l.length<17592186044415) (hB:B<=w.heap.size)
  (h:∀O w',bB E B w' O (l++[y])->w.grownBy w' v.ownBlock->K (a.put o.dst O) w'):if Region.wanted o (yielded ops a.tmps)=true then Oper.wp P o a w K Q else F:=
 MH D s x t Y E S R B v l Z z (aD (some ⟨b,0,none⟩) 1 1) [y] hx
  ⟨some ⟨b,0,none⟩,1,rfl,aU,bZ,by intro q M;simp only[List.mem_singleton]at M;subst M;exact I,
   .inr ⟨b,0,rfl,World.block_lt_of_cell? w _ N,fun k hk=>by have:k=0:=(by simpa using hk);subst this;exact N⟩⟩ bO hB h
end
theorem Ints.from{P:Program}{w:World}{a:Option Addr}{c:Nat}{l:aI}(h:Ints w (aD a l c) l)(T E:TypeId)(N:P.underlying T=some (.slice E))(R:IntElem P E)(k:Nat)(hk:k<=l):
  ∃K M,(∀(J:IntKind) (w':World),(Instr.slice T (aD a l c) (some (.int J (k:Int))) none none).run P w'=.ok (.slice K (l.drop k).length M) w')/\Ints w (.slice K (l.drop k).length M) (l.drop k):=by
 obtain⟨i,S,_,h1,_⟩:=R.get;have z:P.elem T=E:=by simp[Program.elem,N]
 obtain⟨hl,hcl,hcm⟩:=h.capLe;refine⟨if c=k then a else a.map (·.add (k*1)),c-k,fun J w'=>?_,?_⟩
 .rw[run_slice_l w' T a l.length c (by rw[z];exact N) J k aA aA];simp[sizeOf,typeInfo,z,S,h1,Result.andThen,sliced,List.length_drop]
 .rcases Nat.lt_or_ge k l.length with hlt|I
  .have F:=h;obtain⟨Y,c1,O,_,_,_,h4⟩:=F;simp only[Value.slice.injEq]at O;obtain⟨rfl,_,rfl⟩:=O;rcases h4 with rfl|⟨b,D,rfl,_,_⟩
   .simp at hlt
   .rw[if_neg aA]
    have:=Ints.dropK h k aA;rw[List.length_drop];have e:(Option.map (fun x:Addr=>x.add (k*1)) (some (⟨b,D,none⟩:Addr)))=some ⟨b,D+k,none⟩:=by
     simp only[Option.map_some,Nat.mul_one,Addr.add]
     split
     .rename_i F;rw[F];rfl
     .rfl
    rw[e];exact this
  .have e:l.drop k=[]:=List.drop_eq_nil_of_le I;rw[e];exact Ints.empty w _ _ _ rfl aA
end Go.G5
namespace Go.Proofs.YtkdbkjjacgigiaaGreatDoor
open Go.RowKit Go.G5 Go.Proofs.Tryz
theorem nI(v:Value)(l:aI)(w:World)(K:Ints w v l)(hl:l.length<=1048576):
  Calls prog 287 #[v] w fun e w'=>∃ad i c,e=aQ (aD ad i c)/\bB 3 w w' (aD ad i c) l/\Below w w w':=by
 have I:=K;obtain⟨a,c,rfl,h1,h2,h3,h4⟩:=K;have J:=fun(w:World) (a:Option Addr) (n c R N:Nat)=>Lib.run_eql_slice_nil (P:=prog) w 25 3 a n c R N underlying25
 cases a with
 |none=>
  have e:l=[]:=by
   rcases h4 with h|⟨b,Y,hb,_⟩
   .exact h
   .cases hb
  subst e;clear h4 h3;go_enter func287,ntmps287;go_wp2;go_ret;exact⟨none,0,0,rfl,bB.nil _ _ _,bJ _ _⟩
 |some ad=>clear h4 h3;go_enter func287,ntmps287;go_wp2_with (at_builtin;refine AG rfl _ _ _ rfl 3 underlying25 intElem w.heap.size _ [] rfl (bB.lit0 w aU) _ l rfl (I.alloc _) bO bF ?_;intro Z w6 z D;obtain⟨M,S,O,rfl⟩:=z.shape3);go_ret;refine⟨M,S,O,rfl,by simpa using z,(cQ w (.cells #[] 3)).grown D bF ?_⟩;intro k hk;have F:some w.heap.size=some k:=hk;exact Nat.le_of_eq (cI F)
end Go.Proofs.YtkdbkjjacgigiaaGreatDoor
end
section
namespace Go.G5
open Go Go.RowKit
def cY(E:TypeId)(B:Nat)(w:World)(v:Value)(l:List Int):Prop:=
 (∀x∈l,fM x)/\((v=.slice none 0 0/\l=[])\/∃g cap z,v=.slice (some ⟨g,0,none⟩) l.length cap/\B<=g/\w.heap[g]?=some (.cells z E (0,0))/\l.length<=cap/\cap<=z.size/\cap<=maxLen/\z.toList.take l.length=l.map (Value.int .i64))
section
variable {E:TypeId} {B:Nat} {w w':World} {v:Value} {l:List Int}
theorem bB.toW(h:bB E B w v l):cY E B w v l:=by
 obtain⟨⟨J,h1⟩,h2⟩:=h;refine⟨h2,?_⟩
 rcases h1 with⟨rfl,D⟩|⟨g,cap,z,rfl,hB,I,D,hm,F,ht⟩
 .exact .inl ⟨rfl,eS D⟩
 .exact .inr ⟨g,cap,z,rfl,hB,I,D,aA,hm,by simpa using ht⟩
theorem cY.toW(h:cY E B w v l):cY E B w v l:=h
theorem cY.nil(E:TypeId)(B:Nat)(w:World):cY E B w (.slice none 0 0) []:=⟨bF,.inl ⟨rfl,rfl⟩⟩
theorem cY.below{B':Nat}(h:cY E B w v l)(hb:Below B' w w')(hB:w.heap.size<=B'):cY E B w' v l:=by
 refine⟨h.1,?_⟩
 rcases h.2 with h1|⟨g,cap,z,rfl,D,F,r⟩
 .exact .inl h1
 .exact .inr ⟨g,cap,z,rfl,D,by rw[hb.block g (by have:=(dU.1 F).1;omega)];exact F,r⟩
theorem cY.keep(h:cY E B w v l)(hb:Below w.heap.size w w'):cY E B w' v l:=h.below hb aU
theorem cY.alloc(h:cY E B w v l)(o:Obj):cY E B (w.alloc o) v l:=h.keep (cQ w o)
theorem cY.drewN(h:cY E B w v l)(n:Nat):cY E B (w.drewN n) v l:=h.below ((bJ w.heap.size w).drewN' n) aU
theorem cY.mono{B':Nat}(h:cY E B w v l)(hB:B'<=B):cY E B' w v l:=by
 refine⟨h.1,?_⟩
 rcases h.2 with h1|⟨g,cap,z,rfl,D,r⟩
 .exact .inl h1
 .exact .inr ⟨g,cap,z,rfl,aA,r⟩
theorem cY.lt(h:cY E B w v l):∀k,v.ownBlock=some k->B<=k/\k<w.heap.size:=by
 intro k hk
 rcases h.2 with⟨rfl,_⟩|⟨g,cap,D,rfl,z,F,_⟩
 .simp[Value.ownBlock]at hk
 .have:g=k:=by simpa[Value.ownBlock]using hk
  subst this;exact⟨z,(dU.1 F).1⟩
theorem cY.grow{row:Option Nat}(h:cY E B w v l)(J:w.grownBy w' row)(F:∀k,row=some k->v.ownBlock≠some k):cY E B w' v l:=by
 refine⟨h.1,?_⟩
 rcases h.2 with h1|⟨g,cap,z,rfl,D,I,r⟩
 .exact .inl h1
 .refine .inr ⟨g,cap,z,rfl,D,?_,r⟩
  rw[J.block g (dU.1 I).1 (fun e=>F g e.symm rfl)];exact I
theorem cY.setBelow(h:cY E B w v l){a:Addr}(I:a.block<B)(u:Value):cY E B (w.setCell a u) v l:=by
 refine⟨h.1,?_⟩
 rcases h.2 with h1|⟨g,cap,z,rfl,D,F,r⟩
 .exact .inl h1
 .refine .inr ⟨g,cap,z,rfl,D,?_,r⟩
  rw[Below.heap_setCell w a u g aA];exact F
theorem cY.cases(h:cY E B w v l):(v=.slice none 0 0/\l=[])\/∃g cap,v=.slice (some ⟨g,0,none⟩) l.length cap/\B<=g/\g<w.heap.size:=by
 rcases h.2 with h1|⟨g,cap,D,rfl,z,F,_⟩
 .exact .inl h1
 .exact .inr ⟨g,cap,rfl,z,(dU.1 F).1⟩
theorem cY.cell'{g n cap:Nat}(h:cY E B w (.slice (some ⟨g,0,none⟩) n cap) l)(j:Nat)(F:j<l.length):w.cell? ⟨g,j,none⟩=some (.int .i64 l[j]):=by
 rcases h.2 with⟨e,_⟩|⟨M,D,z,e,_,J,K,I,_,ht⟩
 .simp at e
 .simp only[Value.slice.injEq,Option.some.injEq,Addr.mk.injEq,and_true]at e
  obtain⟨rfl,_,rfl⟩:=e;have hc:w.cell? ⟨g,j,none⟩=z[j]?:=cell_of_row w g j z E (0,0) J;rw[hc];have h1:(z.toList.take l.length)[j]?=some (.int .i64 l[j]):=by rw[ht,List.getElem?_map,cG F];rfl
  rw[List.getElem?_take_of_lt F]at h1;rw[<-Array.getElem?_toList];exact h1
theorem cY.ints(h:cY E B w v l):Ints w v l:=by
 rcases h.2 with⟨rfl,rfl⟩|⟨g,cap,D,rfl,F,J,z,I,hm,ht⟩
 .exact⟨none,0,rfl,aU,aZ _,bF,.inl rfl⟩
 .exact⟨_,cap,rfl,z,hm,h.1,.inr ⟨g,0,rfl,(dU.1 J).1,fun k hk=>by rw[Nat.zero_add];exact h.cell' k hk⟩⟩
theorem cY.shape(h:cY E B w v l):∃a c,v=.slice a l.length c:=by
 obtain⟨a,c,rfl,_⟩:=h.ints;exact⟨a,c,rfl⟩
theorem cY.shape3(h:cY E B w v l):∃a n c,v=.slice a n c:=by
 obtain⟨a,c,rfl,_⟩:=h.ints;exact⟨a,_,c,rfl⟩
theorem cY.cellAt{g n cap:Nat}(h:cY E B w (.slice (some ⟨g,0,none⟩) n cap) l)(_:n=l.length)(j:Nat)(z:j<l.length):w.cell? ⟨g,j,none⟩=some (.int .i64 l[j]):=h.cell' j z
theorem cY.frozenAt{g n cap:Nat}(h:cY E B w (.slice (some ⟨g,0,none⟩) n cap) l)(_:n=l.length)(j:Nat):w.frozen? ⟨g,j,none⟩=false:=by
 rcases h.2 with⟨e,_⟩|⟨I,z,D,e,_,F,_⟩
 .simp at e
 .simp only[Value.slice.injEq,Option.some.injEq,Addr.mk.injEq,and_true]at e
  obtain⟨rfl,_,rfl⟩:=e;simp[World.frozen?,F]
theorem cY.stored{g n cap:Nat}(h:cY E B w (.slice (some ⟨g,0,none⟩) n cap) l)(O:n=l.length)(j:Nat)(y:Int)(R:fM y):
  cY E B (w.setCell ⟨g,j,none⟩ (.int .i64 y)) (.slice (some ⟨g,0,none⟩) n cap) (l.set j y)/\w.grownBy (w.setCell ⟨g,j,none⟩ (.int .i64 y)) (some g):=by
 subst O;refine⟨⟨?_,?_⟩,⟨rfl,rfl,rfl,bF,fun b hb K=>Below.heap_setCell w _ _ b (by intro e;exact K (by rw[e]))⟩⟩
 .intro z D
  rcases List.mem_or_eq_of_mem_set D with D|D
  .exact h.1 z D
  .subst D;exact R
 .right
  rcases h.2 with⟨e,_⟩|⟨S,M,F,e,hB,N,J,I,hm,ht⟩
  .simp at e
  .simp only[Value.slice.injEq,Option.some.injEq,Addr.mk.injEq,and_true]at e
   obtain⟨rfl,_,rfl⟩:=e;refine⟨g,cap,F.setIfInBounds j (.int .i64 y),bF,hB,?_,by simpa using J,by simpa using I,hm,?_⟩
   .simp[World.setCell,Array.getElem?_modify,N]
   .rw[List.length_set,Array.toList_setIfInBounds,List.take_set,ht,List.map_set]
end
def cB(u v:Value):Prop:=∀k,u.ownBlock=some k->v.ownBlock≠some k
theorem cB.symm{u v:Value}(h:cB u v):cB v u:=fun k hk z=>h k z hk
theorem cB.of_lt{E z:TypeId}{B B':Nat}{w w':World}{u v:Value}{l m:List Int}(h:cY E B w u l)(D:cY z B' w' v m)(hB:w.heap.size<=B'):cB u v:=fun k hk F=>by
 have:=(h.lt k hk).2;have:=(D.lt k F).1;omega
theorem bB.cut{E:TypeId}{B:Nat}{w:World}{g n cap:Nat}{l:List Int}(h:bB E B w (.slice (some ⟨g,0,none⟩) n cap) l)(k:Nat)(hk:k<=l.length):bB E B w (.slice (some ⟨g,0,none⟩) k cap) (l.take k):=by
 obtain⟨⟨M,h1⟩,h2⟩:=h
 rcases h1 with⟨e,_⟩|⟨K,F,z,e,hB,I,N,hm,D,ht⟩
 .simp at e
 .simp only[Value.slice.injEq,Option.some.injEq,Addr.mk.injEq,and_true]at e
  obtain⟨rfl,rfl,rfl⟩:=e;have hl:(l.take k).length=k:=bO;refine⟨⟨by rw[List.length_map,hl];omega,.inr ⟨g,cap,z,by rw[hl],hB,I,aA,hm,D,?_⟩⟩,fun x J=>h2 x (List.mem_of_mem_take J)⟩;rw[hl,Nat.mul_one];rw[Nat.mul_one]at ht;rw[List.map_take,<-ht,List.take_take,Nat.min_eq_left hk]
theorem bB.holds{E:TypeId}{B:Nat}{w:World}{g n cap:Nat}{l:List Int}(h:bB E B w (.slice (some ⟨g,0,none⟩) n cap) l)(F:n=l.length):Go.Sort.Holds (Value.int .i64) w g 0 l.toArray:=by
 intro j D;have z:j<l.length:=by simpa using D
 refine⟨?_,?_⟩
 .rw[Nat.zero_add,h.cellAt F j z,getElem!_pos l.toArray j D];simp
 .rw[Nat.zero_add];exact h.frozenAt F j
theorem bB.put{E:TypeId}{B:Nat}{w:World}{g n cap:Nat}{l:List Int}(h:bB E B w (.slice (some ⟨g,0,none⟩) n cap) l)(D:List Int)(hl:D.length=l.length)(hr:∀x∈D,fM x)(q:Nat)(os:Array Obj):
  bB E B (Go.Sort.grow (Go.Sort.putRow (Value.int .i64) (Go.Sort.ahead w q) g 0 D.toArray) os) (.slice (some ⟨g,0,none⟩) n cap) D/\w.grownBy (Go.Sort.grow (Go.Sort.putRow (Value.int .i64) (Go.Sort.ahead w q) g 0 D.toArray) os) (some g):=by
 obtain⟨⟨O,h1⟩,h2⟩:=h
 rcases h1 with⟨e,_⟩|⟨N,K,F,e,hB,M,R,hm,I,ht⟩
 .simp at e
 .simp only[Value.slice.injEq,Option.some.injEq,Addr.mk.injEq,and_true]at e
  obtain⟨rfl,rfl,rfl⟩:=e;have hlt:=(dU.1 M).1;have z:∀b,b<w.heap.size->(Go.Sort.grow (Go.Sort.putRow (Value.int .i64) (Go.Sort.ahead w q) g 0 D.toArray) os).heap[b]?=(w.heap.modify g (Go.Sort.onCells (Go.Sort.putCells (Value.int .i64) 0 D.toArray)))[b]?:=by
   intro b hb;unfold Go.Sort.grow Go.Sort.putRow Go.Sort.mapBlock Go.Sort.ahead;simp only;rw[Array.getElem?_append_left (by simpa using hb)]
  refine⟨⟨⟨by rw[List.length_map,Nat.mul_one],.inr ⟨g,cap,Go.Sort.putCells (Value.int .i64) 0 D.toArray F,by rw[hl],hB,?_,aA,hm,?_,?_⟩⟩,hr⟩,⟨rfl,rfl,rfl,?_,?_⟩⟩
  .rw[z g hlt,Array.getElem?_modify,if_pos rfl,M];rfl
  .unfold Go.Sort.putCells;simpa using I
  .rw[Nat.mul_one]
   have hcl:l.length<=F.size:=aA
   apply List.ext_getElem?
   intro k
   by_cases hk:k<D.length
   .rw[List.getElem?_take_of_lt hk,Array.getElem?_toList]
    unfold Go.Sort.putCells;rw[Array.getElem?_mapIdx,Array.getElem?_eq_getElem (show k<F.size from aA),Option.map_some,if_pos ⟨aA,by simpa using hk⟩,Nat.sub_zero,getElem!_pos D.toArray k (by simpa using hk),List.getElem?_map,cG hk];simp
   .rw[List.getElem?_eq_none bO,List.getElem?_eq_none (by simpa using hk)]
  .simp[Go.Sort.grow,Go.Sort.putRow,Go.Sort.mapBlock,Go.Sort.ahead]
  .intro b hb J
   rw[z b hb,Array.getElem?_modify,if_neg (fun e=>J (by rw[e]))]
end Go.G5
end
section
namespace Go.G5
open Go Go.RowKit
section
variable {P:Program} {w:World}
def yI(w:World)(v z:Value):Prop:=z.ownBlock=v.ownBlock\/z.ownBlock=some w.heap.size
theorem acU(T E Z:TypeId)(O:P.underlying T=some (.slice E))(hE:IntElem P E)(B:Nat)(v:Value)(l:List Int)(z:bB E B w v l)
  (Y:Value) (m:List Int) (hs:Ints w Y m) (S:l.length+m.length<=17592186044416) (hB:B<=w.heap.size):
  ∃K w',(Builtin.append_ #[T,T] Z #[v,Y]).run P w=.ok K w'/\bB E B w' K (l++m)/\w.grownBy w' v.ownBlock/\yI w v K:=by
 obtain⟨i,R,hz,h1,h8⟩:=hE.get;obtain⟨ad,c,rfl,a7,hcm,hr,h4⟩:=hs;have I:∀q∈l++m,fM q:=fun q hq=>(dM.1 hq).elim (z.2 q) (hr q);have F:ad=none->m=[]:=by
  intro e
  rcases h4 with h|⟨b,N,hb,_⟩
  .exact h
  .rw[e]at hb;cases hb
 cases ad with
 |none=>
  have:=F rfl;subst this;refine⟨v,w,?_,by simpa using z,dO w _,.inl rfl⟩;exact aj1
 |some ad=>
  have D:∀j u,(m.map (Value.int .i64))[j]?=some u->w.cell? (ad.add j)=some u:=by
   exact ajI
  obtain⟨K,w',J,h2,h3,_,h5⟩:=run_append_own_at (P:=P) w B T Z E i (.int .i64 0) 1 8 O R hz h1 h8 rfl bZ v l.length (l.map (Value.int .i64)) z.1 ad m.length c (m.map (Value.int .i64)) bF D
   (by intro u M;obtain⟨q,_,rfl⟩:=List.mem_map.1 M;rfl) (by unfold maxLen;omega) aA hB
  exact⟨K,w',J,⟨by simpa using h2,I⟩,h3,h5⟩
theorem akY{p:Prop}(h:p:=by
  unfold Oper.wp execOp;simp only[ho,resolve,invoke,builtin,Sem.run_bind,Sem.run_pure,Result.andThen_ok,List.map_toArray,List.map_cons,List.map_nil,hs,hx,I];exact h F w' h2 h3 h4):p:=h
theorem JY{o:Oper}{a:Act}{K:Act->World->Prop}{Q:Exit->Act->World->Prop}(s x:Operand)(t:TypeId)
  (ho:o.op=.call { callee:=.builtin .append,args:=#[s,x],argTypes:=#[t,t] })
  (E:TypeId) (Y:P.underlying t=some (.slice E)) (S:IntElem P E) (B:Nat) (v:Value) (l:List Int) (hs:a.eval s=v) (D:bB E B w v l)
  (M:Value) (m:List Int) (hx:a.eval x=M) (J:Ints w M m) (z:l.length+m.length<=17592186044416) (hB:B<=w.heap.size)
  (h:∀F w',bB E B w' F (l++m)->w.grownBy w' v.ownBlock->yI w v F->K (a.put o.dst F) w'):o.wp P a w K Q:=by
 obtain⟨F,w',I,h2,h3,h4⟩:=acU (P:=P) t E o.type Y S B v l D M m J z hB;exact akY
theorem Ints.one{w:World}{b:Nat}{y:Int}(F:w.cell? ⟨b,0,none⟩=some (.int .i64 y))(z:fM y):Ints w (.slice (some ⟨b,0,none⟩) 1 1) [y]:=
 ⟨some ⟨b,0,none⟩,1,rfl,aU,bZ,by intro q D;simp only[List.mem_singleton]at D;subst D;exact z,
  .inr ⟨b,0,rfl,World.block_lt_of_cell? w _ F,fun k hk=>by have:k=0:=(by simpa using hk);subst this;exact F⟩⟩
theorem kX{ops:Array Oper}{rest:List Oper}{o:Oper}{a:Act}{Q:Exit->Act->World->Prop}(F:o.guard=none)(s x:Operand)(t:TypeId)
  (O:o.op=.call { callee:=.builtin .append,args:=#[s,x],argTypes:=#[t,t] })
  (E:TypeId) (N:P.underlying t=some (.slice E)) (K:IntElem P E) (B:Nat) (v:Value) (l:List Int) (y:Int) (b:Nat) (R:a.eval s=v) (S:a.eval x=.slice (some ⟨b,0,none⟩) 1 1)
  (Y:w.cell? ⟨b,0,none⟩=some (.int .i64 y))
  (z:bB E B w v l) (I:fM y) (J:l.length<17592186044415) (hB:B<=w.heap.size)
  (h:∀D w',bB E B w' D (l++[y])->w.grownBy w' v.ownBlock->yI w v D->wpList P ops Q rest (a.put o.dst D) w'):wpList P ops Q (o::rest) a w:=
 wpList_plain F fun _ M=>JY s x t O E N K B v l R z _ [y] S (Ints.one Y I) bO hB fun D w' h2 h3 h4=>M _ _ (h D w' h2 h3 h4)
theorem qH{ops:Array Oper}{rest:List Oper}{o:Oper}{a:Act}{Q:Exit->Act->World->Prop}(I:o.guard=none)(s x:Operand)(t:TypeId)
  (R:o.op=.call { callee:=.builtin .append,args:=#[s,x],argTypes:=#[t,t] })
  (E:TypeId) (O:P.underlying t=some (.slice E)) (M:IntElem P E) (B:Nat) (v:Value) (l:List Int) (S:a.eval s=v) (D:bB E B w v l)
  (K:Value) (m:List Int) (Y:a.eval x=K) (J:Ints w K m) (z:l.length+m.length<=17592186044416) (hB:B<=w.heap.size)
  (h:∀F w',bB E B w' F (l++m)->w.grownBy w' v.ownBlock->yI w v F->wpList P ops Q rest (a.put o.dst F) w'):wpList P ops Q (o::rest) a w:=
 wpList_plain I fun _ N=>JY s x t R E O M B v l S D K m Y J z hB fun F w' h2 h3 h4=>N _ _ (h F w' h2 h3 h4)
end
theorem yI.apart{w:World}{v D u:Value}(h:yI w v D)(F:cB v u)(I:∀k,u.ownBlock=some k->k<w.heap.size):cB D u:=by
 intro k hk z
 rcases h with h|h
 .exact F k (h▸hk) z
 .rw[h]at hk
  have e:w.heap.size=k:=cI hk;have:=I k z;omega
theorem bB.growA{E:TypeId}{B:Nat}{w w':World}{u v:Value}{l:List Int}(h:bB E B w u l)(D:w.grownBy w' v.ownBlock)(z:cB v u):bB E B w' u l:=
 h.grow D (fun k hk F=>z k hk F)
theorem cY.growA{E:TypeId}{B:Nat}{w w':World}{u v:Value}{l:List Int}(h:cY E B w u l)(D:w.grownBy w' v.ownBlock)(z:cB v u):cY E B w' u l:=
 h.grow D (fun k hk F=>z k hk F)
theorem cB.nil(c d:Nat)(u:Value):cB (.slice none c d) u:=fun k hk _=>by simp[Value.ownBlock]at hk
theorem Ints.upto{P:Program}{w:World}{a:Option Addr}{c:Nat}{l:List Int}(h:Ints w (.slice a l.length c) l)(T E:TypeId)(K:P.underlying T=some (.slice E))(N:IntElem P E)(k:Nat)(hk:k<=l.length):
  (∀(I:IntKind) (w':World),(Instr.slice T (.slice a l.length c) none (some (.int I (k:Int))) none).run P w'=.ok (.slice a k c) w')/\Ints w (.slice a k c) (l.take k):=by
 obtain⟨i,O,_,h1,_⟩:=N.get;have z:P.elem T=E:=by simp[Program.elem,K]
 obtain⟨hl,hcl,hcm⟩:=h.capLe;have D:(l.take k).length=k:=bO;refine⟨fun I w'=>?_,?_⟩
 .rw[run_slice_h w' T a l.length c (by rw[z];exact K) I k aA aA]
  simp[sizeOf,typeInfo,z,O,h1,Result.andThen,sliced]
  cases a with
  |none=>simp
  |some x=>simp[Addr.add]
 .obtain⟨Z,c1,M,q1,S,Y,h4⟩:=h
  simp only[Value.slice.injEq]at M;obtain⟨rfl,_,rfl⟩:=M;refine⟨a,c,by rw[D],aA,S,fun x R=>Y x (List.mem_of_mem_take R),?_⟩
  rcases h4 with e|⟨b,J,rfl,hb,F⟩
  .rw[e];exact .inl bF
  .exact .inr ⟨b,J,rfl,hb,fun j hj=>by rw[F j aA,List.getElem_take]⟩
theorem bB.drew'{E:TypeId}{B:Nat}{w:World}{v:Value}{l:List Int}(h:bB E B w v l):bB E B w.drew v l:=h.drewN 1
theorem Ints.drew'{w:World}{v:Value}{l:List Int}(h:Ints w v l):Ints w.drew v l:=h.drewN 1
theorem jT{P:Program}{w:World}{ops:Array Oper}{o:Oper}{a:Act}{K:Act->World->Prop}{Q:Exit->Act->World->Prop}{F:Prop}(M:o.guard=none)(s x:Operand)(t:TypeId)
  (ho:o.op=.call { callee:=.builtin .append,args:=#[s,x],argTypes:=#[t,t] })
  (E:TypeId) (Z:P.underlying t=some (.slice E)) (Y:IntElem P E) (B:Nat) (v:Value) (l:List Int) (hs:a.eval s=v)
  (R:Value) (m:List Int) (hx:a.eval x=R) (z:bB E B w v l) (O:Ints w R m) (D:l.length+m.length<=17592186044416) (S:World) (hb:Below B S w) (J:B<=S.heap.size)
  (h:∀I w',bB E B w' I (l++m)->Below B S w'->(∀b u,w.cell? ⟨b,0,none⟩=some u->some b≠v.ownBlock->w'.cell? ⟨b,0,none⟩=some u)->K (a.put o.dst I) w'):if Region.wanted o (yielded ops a.tmps)=true then Oper.wp P o a w K Q else F:=by
 have hB:=dC J hb.size;refine MH M s x t ho E Z Y B v l hs z R m hx O D hB fun I w' h1 h2=>h I w' h1 (hb.grown h2 hB (fun q hq=>(z.lt q hq).1)) fun b u hc N=>?_;have hlt:=World.block_lt_of_cell? w _ hc;have e:=h2.block b hlt N;unfold World.cell? at hc |-;simp only at hc |-;rw[e];exact hc
theorem D1(w:World)(T:TypeId)(u:Value):(w.alloc (.cells #[u] T)).drew.cell? ⟨w.heap.size,0,none⟩=some u:=cR w #[u] T 0 u rfl
theorem uM(w:World)(o:Obj)(T:TypeId)(u:Value):((w.alloc o).alloc (.cells #[u] T)).drew.cell? ⟨w.heap.size+1,0,none⟩=some u:=by
 have h:=cR (w.alloc o) #[u] T 0 u rfl;have e:(w.alloc o).heap.size=w.heap.size+1:=bF;rw[e]at h;exact h
theorem vT(w:World)(o:Obj)(T:TypeId)(u:Value):((w.alloc (.cells #[u] T)).alloc o).drew.cell? ⟨w.heap.size,0,none⟩=some u:=amW (cR w #[u] T 0 u rfl) o
theorem zW(n:Nat)(a b:Nat):some (n+1)≠(Value.slice (some ⟨n,0,none⟩) a b).ownBlock:=by intro e;have h:n+1=n:=cI e;omega
theorem zX(n:Nat)(a b:Nat):some n≠(Value.slice (some ⟨n+1,0,none⟩) a b).ownBlock:=by intro e;have h:n=n+1:=cI e;omega
theorem bB.lit0'{E:TypeId}(w:World)(o:Obj):bB E w.heap.size ((w.alloc o).alloc (.cells #[] E)) (.slice (some ⟨w.heap.size+1,0,none⟩) 0 0) []:=by
 have:=bB.lit0 (E:=E) (B:=w.heap.size) (w.alloc o) bF;simpa using this
theorem amC{P:Program}{w:World}{ops:Array Oper}{o:Oper}{a:Act}{K:Act->World->Prop}{Q:Exit->Act->World->Prop}{F:Prop}(N:o.guard=none)(s x:Operand)(t:TypeId)
  (ho:o.op=.call { callee:=.builtin .append,args:=#[s,x],argTypes:=#[t,t] })
  (E:TypeId) (Z:P.underlying t=some (.slice E)) (Y:IntElem P E) (B:Nat) (v:Value) (l:List Int) (hs:a.eval s=v)
  (R:Value) (m:List Int) (hx:a.eval x=R) (z:bB E B w v l) (O:Ints w R m) (D:l.length+m.length<=17592186044416) (S:World) (hb:Below B S w) (M:B<=S.heap.size)
  (h:∀J w',bB E B w' J (l++m)->Below B S w'->(∀b t cs,bK w b t cs->some b≠v.ownBlock->bK w' b t cs/\J.ownBlock≠some b)->K (a.put o.dst J) w'):if Region.wanted o (yielded ops a.tmps)=true then Oper.wp P o a w K Q else F:=by
 have hB:=dC M hb.size;have hw:Region.wanted o (yielded ops a.tmps)=true:=by simp[Region.wanted,N]
 rw[if_pos hw];refine JY s x t ho E Z Y B v l hs z R m hx O D hB fun J w' h1 h2 h3=>h J w' h1 (hb.grown h2 hB (fun q hq=>(z.lt q hq).1)) fun b t cs hc I=>⟨hc.grow h2 (fun e=>I e.symm),?_⟩
 rcases h3 with h3|h3
 .rw[h3];exact fun e=>I e.symm
 .rw[h3];intro e;have:=cI e;have:=hc.lt;omega
theorem mK(w:World)(a:Addr)(u:Value):w.grownBy (w.setCell a u) (some a.block):=
 ⟨rfl,rfl,rfl,bF,fun b _ z=>Below.heap_setCell w _ _ b (fun e=>z (by rw[e]))⟩
theorem cX{w w':World}{g:Nat}(h:w.grownBy w' (some g))(i:Nat)(u:Value):w.grownBy (w'.setCell ⟨g,i,none⟩ u) (some g):=YX h (mK w' ⟨g,i,none⟩ u)
theorem bB.setFar{E:TypeId}{B:Nat}{w:World}{v:Value}{l:List Int}(h:bB E B w v l)(a:Addr)(z:v.ownBlock≠some a.block)(u:Value):bB E B (w.setCell a u) v l:=
 h.grow (mK w a u) (fun _ hk D=>z (D.trans hk.symm))
theorem arX{B g:Nat}{w w':World}(h:Below B w w')(z:g<w.heap.size):¬w'.heap.size=g:=by have:=h.size;omega
theorem bK.drew'{w:World}{g:Nat}{t:TypeId}{cs:Array Value}(h:bK w g t cs):bK w.drew g t cs:=h
theorem bK.second(w:World)(o:Obj)(t:TypeId)(cs:Array Value):bK ((w.alloc o).alloc (.cells cs t)).drew (w.heap.size+1) t cs:=by
 have h:=bK.new (w.alloc o) t cs;have e:(w.alloc o).heap.size=w.heap.size+1:=bF;rw[e]at h;exact h
theorem bK.first(w:World)(o:Obj)(t:TypeId)(cs:Array Value):bK ((w.alloc (.cells cs t)).alloc o).drew w.heap.size t cs:=(bK.new w t cs).alloc o
