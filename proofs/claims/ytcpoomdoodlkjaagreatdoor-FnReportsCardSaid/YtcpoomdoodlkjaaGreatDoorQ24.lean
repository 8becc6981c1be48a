/- Lemmas for CardReports. No condition. -/
import Derived.Test.YtcpoomdoodlkjaaGreatDoorQ19
set_option maxRecDepth 100000
set_option maxHeartbeats 64000000
namespace Go.Proofs.YtcpoomdoodlkjaaGreatDoor
section
open Go.RowKit Go.G5 Go.Proofs.Tryz
end
section
open Go.RowKit Go.G5 Go.Proofs.Tryz
end
section
open Go.RowKit Go.G5 Go.Proofs.Tryz
def zS(s r:Int):Int:=max (dI (bG s r)-dI (cI s r)) (-(dI (bG s r)-dI (cI s r)))
theorem WY:∀s:Nat,s<64->∀r:Nat,r<64->bN (cS s r)+bN (s &&& r)=bN s:=by decide +kernel
theorem ZQ:∀s:Nat,s<64->bN s<=6:=by decide +kernel
theorem ad3{s r:Int}(z:0<=s/\s<64)(hr:0<=r/\r<64):2*dI (bG s r)-dI s=dI (bG s r)-dI (cI s r):=by
 have h:=WY s.toNat aI r.toNat aI;unfold dI bG cI;rw[Int.toNat_natCast,Int.toNat_natCast];omega
theorem SF{s r:Int}(z:0<=s/\s<64)(hr:0<=r/\r<64):-6<=dI (bG s r)-dI (cI s r)/\dI (bG s r)-dI (cI s r)<=6/\0<=dI (bG s r)/\dI (bG s r)<=6/\0<=dI (cI s r)/\dI (cI s r)<=6/\0<=dI s/\dI s<=6:=by
 have h:=WY s.toNat aI r.toNat aI;have h2:=ZQ s.toNat aI;unfold dI bG cI;rw[Int.toNat_natCast,Int.toNat_natCast];omega
def sQ(l:List Int)(r:Int):Nat->Int
 |0=>0
 |k+1=>max (sQ l r k) (zS (l.getD k 0) r)
def uV(l:List Int)(r:Int):Int:=sQ l r l.length
def jV(l:List Int):Nat->Int×Int
 |0=>(0,uV l 0)
 |r+1=>if uV l ((r+1:Nat):Int)<(jV l r).2 then (((r+1:Nat):Int),uV l ((r+1:Nat):Int)) else jV l r
def yJ(g:Int)(l:List Int):Int:=if bF g l then (jV l (2^g.toNat-1)).1 else 0
def wM(g:Int)(l:List Int):Int:=if bF g l then (jV l (2^g.toNat-1)).2 else 0
theorem EZ(l:List Int)(r:Int)(h:∀s∈l,0<=s/\s<64)(hr:0<=r/\r<64):∀k,0<=sQ l r k/\sQ l r k<=6:=by
 intro k
 induction k with
 |zero=>simp[sQ]
 |succ k ih=>
  rw[sQ];have h2:0<=l.getD k 0/\l.getD k 0<64:=by
   rw[List.getD_eq_getElem?_getD]
   cases hk:l[k]? with
   |none=>simp
   |some x=>exact h x (List.mem_of_getElem? hk)
  have:=SF h2 hr;unfold zS;omega
theorem LQ(l:List Int)(h:∀s∈l,0<=s/\s<64):∀r,r<64->(0<=(jV l r).1/\(jV l r).1<=r)/\0<=(jV l r).2/\(jV l r).2<=6:=by
 intro r
 induction r with
 |zero=>intro _;rw[jV];have:=EZ l 0 h aI l.length;unfold uV;simp;omega
 |succ r ih=>
  intro hr;have ih:=ih aI;rw[jV]
  split
  ·have:=EZ l ((r+1:Nat):Int) h aI l.length;unfold uV;simp only[];omega
  ·omega
def iP(T:List Int->Int->Bool):List Int->List Int->List Int->List Int
 |[],_,b=>b
 |s::r,c,b=>if c.length+(r.length+1)<=b.length then b else if T c s then iP T r c (cJ b (iP T r (c++[s]) (c++[s]))) else iP T r c b
def sT(T:List Int->Int->Bool):List Int->List Int->List Int->List Int
 |[],_,b=>b
 |s::r,c,b=>if c.length+(r.length+1)<=b.length then b else if T c s then sT T r c (sT T r (c++[s]) (cJ b (c++[s]))) else sT T r c b
theorem wW(a b:List Int):(cJ a b).length=max a.length b.length:=by
 unfold cJ
 split<;>omega
theorem xA(T:List Int->Int->Bool):∀(r c b:List Int),(iP T r c b).length<=max b.length (c.length+r.length)
 |[],c,b=>by rw[iP];omega
 |s::r,c,b=>by
  rw[iP,List.length_cons]
  split
  ·omega
  ·split
   ·have h1:=xA T r c (cJ b (iP T r (c++[s]) (c++[s])));have h2:=xA T r (c++[s]) (c++[s]);rw[wW]at h1;rw[List.length_append,List.length_singleton]at h2;omega
   ·have h1:=xA T r c b;omega
theorem DG{a b:List Int}(h:b.length<=a.length):cJ a b=a:=by unfold cJ;rw[if_neg aI]
theorem CD(T:List Int->Int->Bool):∀(r c b x:List Int),sT T r c (cJ b x)=cJ b (iP T r c x)
 |[],_,_,_=>rfl
 |s::r,c,b,x=>by
  rw[sT,iP];have hl:=wW b x;by_cases h1:c.length+(r.length+1)<=(cJ b x).length
  ·rw[if_pos h1];by_cases h2:c.length+(r.length+1)<=x.length
   ·rw[if_pos h2]
   ·have hb:x.length<=b.length:=aI;have h3:=xA T (s::r) c x;rw[iP,List.length_cons]at h3;rw[DG hb,DG (Nat.le_trans h3 aI)]
  ·rw[if_neg h1,if_neg (show ¬c.length+(r.length+1)<=x.length by omega)]
   split
   ·rw[CD T r (c++[s]) (cJ b x) (c++[s]),DE,CD T r c b]
   ·exact CD T r c b x
theorem afM(T:List Int->Int->Bool)(r c b:List Int):(sT T r c b).length<=max b.length (c.length+r.length):=by
 have h:=CD T r c b [];rw[DG (show([]:List Int).length<=b.length by simp)]at h;rw[h,wW];have h2:=xA T r c [];simp at h2;omega
def kS(l:List Int)(s:Int):Bool:=bY (fun j=>lD s (l.getD j 0)) l.length
theorem ZI(l:List Int):∀k,(mC l k).length=k↔∀i,i<k->wT l i=true:=by
 intro k
 induction k with
 |zero=>simp[mC]
 |succ k ih=>
  have F:=S6 l k;rw[mC]
  cases z:wT l k with
  |true=>
   rw[if_pos rfl,List.length_append,List.length_singleton];constructor
   ·intro h i D;by_cases e:i=k
    ·rw[e];exact z
    ·exact ih.1 aI i aI
   ·intro h;rw[ih.2 (fun i D=>h i aI)]
  |false=>
   rw[if_neg (by simp)];constructor
   ·intro h;omega
   ·intro h;have:=h k aI;rw[z]at this;cases this
theorem CT(l:List Int):tD l=true↔∀i,i<l.length->∀k,k<l.length->k≠i->bG (l.getD k 0) (l.getD i 0)≠l.getD k 0:=by
 unfold tD;rw[beq_iff_eq,ZI];unfold wT;simp only[eH,Bool.or_eq_true,beq_iff_eq,bne_iff_ne,ne_eq];constructor
 ·intro h i z k hk D;rcases h i z k hk with e|e
  ·exact absurd e D
  ·exact e
 ·intro h i z k hk;by_cases e:k=i
  ·exact .inl e
  ·exact .inr (h i z k hk e)
theorem adY:tD []=true:=rfl
theorem yO(l:List Int)(s:Int)(i:Nat)(h:i<l.length):(l++[s]).getD i 0=l.getD i 0:=by
 rw[List.getD_eq_getElem?_getD,List.getD_eq_getElem?_getD,List.getElem?_append_left h]
theorem AX(l:List Int)(s:Int):(l++[s]).getD l.length 0=s:=by
 rw[List.getD_eq_getElem?_getD,List.getElem?_append_right aK];simp
theorem rY{a b:Int}(z:0<=a):cI a b≠0↔bG a b≠a:=by
 rw[<-GQ z];constructor<;>intro h<;>omega
theorem afO(l:List Int)(s:Int)(hl:tD l=true)(hm:∀x∈l,0<=x)(K:0<=s):kS l s=tD (l++[s]):=by
 rw[Bool.eq_iff_iff,CT];unfold kS lD;simp only[eH,Bool.and_eq_true,bne_iff_ne];have J:∀j,j<l.length->0<=l.getD j 0:=fun j F=>by rw[List.getD_eq_getElem?_getD,List.getElem?_eq_getElem F];exact hm _ (List.getElem_mem F)
 rw[CT]at hl;constructor
 ·intro h i M k hk I;rw[List.length_append,List.length_singleton]at M hk;by_cases e1:i=l.length
  ·have z:k<l.length:=aI;rw[e1,AX,yO l s k z];exact(rY (J k z)).1 (h k z).2
  ·have D:i<l.length:=aI;rw[yO l s i D];by_cases e2:k=l.length
   ·rw[e2,AX];exact(rY K).1 (h i D).1
   ·have z:k<l.length:=aI;rw[yO l s k z];exact hl i D k z I
 ·intro h j F;have h1:=h l.length (by simp) j aS aI;have h2:=h j aS l.length (by simp) aI;rw[AX,yO l s j F]at h1 h2;exact⟨(rY K).2 h2,(rY (J j F)).2 h1⟩
theorem EC:∀(r c b:List Int),tD c=true->(∀x∈c,0<=x)->(∀x∈r,0<=x)->iP (fun l s=>tD (l++[s])) r c b=iP kS r c b
 |[],_,_,_,_,_=>rfl
 |s::r,c,b,hc,hcm,hm=>by
  have h1:∀x∈r,0<=x:=fun x z=>hm x (List.mem_cons_of_mem _ z);have h2:=hm s (by simp);have ht:=afO c s hc hcm h2;rw[iP,iP,<-ht,EC r c b hc hcm h1]
  cases D:kS c s with
  |false=>rfl
  |true=>
   rw[EC r (c++[s]) (c++[s]) (ht▸D) (fun x z=>by
    rcases List.mem_append.1 z with h|h
    ·exact hcm x h
    ·rw[List.mem_singleton]at h;omega) h1,EC r c _ hc hcm h1]
def uR(g:Int)(l:List Int):Bool:=bF g l&&decide (l.length<=12)
def sI(g:Int)(l:List Int):List Int:=if uR g l then iP kS l [] [] else []
def FM(g:Int)(l:List Int):Int:=if uR g l then g else 0
theorem abM{g:Int}{l:List Int}(h:uR g l=false):FM g l=0/\sI g l=[]:=by unfold FM sI;rw[h];exact⟨rfl,rfl⟩
theorem EP{g:Int}{l:List Int}(h:uR g l=true):FM g l=g/\sI g l=iP kS l [] []:=by unfold FM sI;rw[h];exact⟨rfl,rfl⟩
theorem afN(l:List Int):sT kS l [] []=iP kS l [] []:=by
 have h:=CD kS l [] [] [];have e:cJ [] []=([]:List Int):=rfl;rw[e]at h;rw[h];unfold cJ
 split
 ·rfl
 ·rename_i D;have z:(iP kS l [] []).length=0:=by simpa using D
  exact(List.eq_nil_of_length_eq_zero z).symm
def Q8(g:Nat)(a b:Int):Bool:=pQ a b&&fQ a b != 2^g-1
def mP(g:Int)(l:List Int):Bool:=bF g l&&bY (fun i=>bY (fun k=>!Q8 g.toNat (l.getD i 0) (l.getD k 0)) i) l.length
theorem SE{a b:Int}(z:0<=a):(cI a b != 0)=(bG a b != a):=by
 rw[Bool.eq_iff_iff,bne_iff_ne,bne_iff_ne];exact rY z
theorem AS{a b:Int}(z:0<=a)(hb:0<=b):pQ a b=IU a b:=by
 unfold pQ IU;rw[SE z,SE hb,vX b a]
theorem rG{l:List Int}(hm:∀x∈l,0<=x/\x<64)(k:Nat):0<=l.getD k 0/\l.getD k 0<64:=by
 rw[List.getD_eq_getElem?_getD]
 cases hk:l[k]? with
 |none=>simp
 |some x=>exact hm x (List.mem_of_getElem? hk)
theorem IV(a b:Int):pQ a b=pQ b a:=by
 unfold pQ;rw[vX b a]
 cases(bG a b != 0)<;>cases(cI a b != 0)<;>cases(cI b a != 0)<;>rfl
theorem SV{l:List Int}(hm:∀x∈l,0<=x/\x<64):GS l=SU l:=by
 unfold GS SU;rw[Bool.eq_iff_iff];simp only[eH,Bool.or_eq_true,decide_eq_true_eq,Bool.not_eq_true'];constructor
 ·intro h i D k hk;rcases h k aI i D with h1|h1
  ·omega
  ·rw[<-AS (rG hm i).1 (rG hm k).1,IV];exact h1
 ·intro h i D j F;by_cases z:j<=i
  ·exact .inl z
  ·right;have:=h j F i aI;rw[<-AS (rG hm j).1 (rG hm i).1,IV]at this;exact this
theorem Z8{l:List Int}(hm:∀x∈l,0<=x/\x<64):ED l=tD l:=by
 rw[Bool.eq_iff_iff,CT];unfold ED lD;simp only[eH,Bool.and_eq_true,bne_iff_ne];constructor
 ·intro h i z k hk D;rcases Nat.lt_or_gt_of_ne D with h1|h1
  ·exact(rY (rG hm k).1).1 (h i z k h1).2
  ·exact(rY (rG hm k).1).1 (h k hk i h1).1
 ·intro h i z j F;exact⟨(rY (rG hm i).1).2 (h j aI i z aI),(rY (rG hm j).1).2 (h i z j aI aI)⟩
theorem JH{l:List Int}:l.all (mR l)=JX l:=by
 unfold JX mR;rw[Bool.eq_iff_iff];simp only[eH,List.all_eq_true,bne_iff_ne];constructor
 ·intro h i z k hk;rw[aU l i z,aU l k aI,vX];exact h _ (List.getElem_mem z) _ (List.getElem_mem (show k<l.length by omega))
 ·intro h s F t ht;obtain⟨i,z,rfl⟩:=List.getElem_of_mem F;obtain⟨k,hk,rfl⟩:=List.getElem_of_mem ht;by_cases D:k<=i
  ·have:=h i z k aI;rw[aU l i z,aU l k hk,vX]at this;exact this
  ·have:=h k hk i aI;rw[aU l i z,aU l k hk]at this;exact this
def zJ(l:List Int)(a e d:Int):Bool:=fP l (fQ (cI a (2^e.toNat)) (2^d.toNat))
def nI(l:List Int)(a b:Int):Bool:=(gU (cI a b)).all fun e=>(gU (cI b a)).any (zJ l a e)
def wI(g:Int)(l:List Int):Bool:=bF g l&&(!l.isEmpty&&l.all fun a=>l.all (nI l a))
def mH(p:Nat->Bool):Nat->Bool
 |0=>false
 |k+1=>mH p k||p k
def uE(l:List Int)(a b:Int)(e d:Nat):Bool:=cZ b.toNat d&&(!cZ a.toNat d&&fP l (a-2^e+2^d))
def wH(a b:Int)(e:Nat):Bool:=!cZ a.toNat e||cZ b.toNat e
def WP(g:Nat)(l:List Int)(a b:Int):Bool:=bY (fun e=>wH a b e||mH (uE l a b e) g) g
theorem QL(p:Nat->Bool):∀n,mH p n=true↔∃k,k<n/\p k=true:=by
 intro n
 induction n with
 |zero=>simp[mH]
 |succ n ih=>
  rw[mH,Bool.or_eq_true,ih];constructor
  ·rintro(⟨k,hk,h⟩|h)
   ·exact⟨k,by omega,h⟩
   ·exact⟨n,by omega,h⟩
  ·rintro⟨k,hk,h⟩;by_cases e:k=n
   ·right;rw[<-e];exact h
   ·left;exact⟨k,by omega,h⟩
theorem VS(P:Nat->Bool)(n:Nat)(x:Int):x∈bQ P n↔∃k:Nat,k<n/\P k=true/\x=(k:Int):=by
 unfold bQ;rw[List.mem_map];constructor
 ·rintro⟨k,hk,rfl⟩;rw[List.mem_filter,List.mem_range]at hk;exact⟨k,hk.1,hk.2,rfl⟩
 ·rintro⟨k,h1,h2,rfl⟩;exact⟨k,by rw[List.mem_filter,List.mem_range];exact⟨h1,h2⟩,rfl⟩
theorem xF(s x:Int):x∈gU s↔∃k:Nat,k<6/\cZ s.toNat k=true/\x=(k:Int):=VS _ _ _
theorem G6:∀a:Nat,a<64->∀b:Nat,b<64->∀e:Nat,e<6->cZ (cS a b) e=(cZ a e&&!cZ b e):=by decide +kernel
theorem af2:∀a:Nat,a<64->∀e:Nat,e<6->cZ a e=true->cS a (2^e)=a-2^e/\2^e<=a:=by decide +kernel
theorem agP:∀a:Nat,a<64->∀e:Nat,e<6->cZ a e=false->a ||| 2^e=a+2^e:=by decide +kernel
theorem NM:∀g:Nat,g<7->∀a:Nat,a<2^g->∀e:Nat,e<6->cZ a e=true->e<g:=by decide +kernel
theorem XM(l:List Int)(a:Int)(e d:Nat)(F:0<=a/\a<64)(z:e<6)(hd:d<6)(h1:cZ a.toNat e=true)(h2:cZ a.toNat d=false):zJ l a e d=fP l (a-2^e+2^d):=by
 unfold zJ
 congr 1
 obtain⟨n,rfl⟩:∃n:Nat,a=(n:Int):=⟨a.toNat,by omega⟩;rw[Int.toNat_natCast]at h1 h2;have e1:=af2 n aI e z h1;have D:∀k:Nat,((2:Int)^k).toNat=2^k:=fun k=>by
  have:((2:Int)^k)=((2^k:Nat):Int):=by simp
  rw[this,Int.toNat_natCast]
 unfold fQ cI;simp only[Int.toNat_natCast,D];have hb:cZ (cS n (2^e)) d=false:=by have:=G6 n aI (2^e) (by have:(2:Nat)^e<=2^5:=Nat.pow_le_pow_right aV aI;omega) d hd;rw[this,h2];rfl
 rw[e1.1]at hb ⊢;rw[agP (n-2^e) (Nat.lt_of_le_of_lt (Nat.sub_le _ _) aI) d hd hb];have:((2:Int)^e)=((2^e:Nat):Int):=by simp
 have h3:((2:Int)^d)=((2^d:Nat):Int):=by simp
 rw[this,h3];omega
theorem af9(g:Nat)(R:g<=6)(l:List Int)(a b:Int)(Y:0<=a/\a<2^g)(hb:0<=b/\b<2^g):nI l a b=WP g l a b:=by
 have Z:(2:Nat)^g<=2^6:=Nat.pow_le_pow_right aV R;have S:((2:Int)^g)=((2^g:Nat):Int):=by simp
 have J:0<=a/\a<64:=aI;have O:0<=b/\b<64:=aI;have K:∀e,e<6->cZ (cI a b).toNat e=(cZ a.toNat e&&!cZ b.toNat e):=fun e F=>by unfold cI;rw[Int.toNat_natCast];exact G6 _ aI _ aI e F
 have M:∀e,e<6->cZ (cI b a).toNat e=(cZ b.toNat e&&!cZ a.toNat e):=fun e F=>by unfold cI;rw[Int.toNat_natCast];exact G6 _ aI _ aI e F
 unfold nI WP;rw[Bool.eq_iff_iff,List.all_eq_true,eH];constructor
 ·intro h e F;rw[Bool.or_eq_true];by_cases I:wH a b e=true
  ·exact .inl I
  ·right;unfold wH at I;rw[Bool.or_eq_true,not_or,Bool.not_eq_true',Bool.not_eq_false,Bool.not_eq_true]at I;have h1:=h (e:Int) ((xF _ _).2 ⟨e,by omega,by rw[K e aI,I.1,I.2];rfl,rfl⟩);rw[List.any_eq_true]at h1;obtain⟨x,N,h2⟩:=h1;obtain⟨d,hd,z,rfl⟩:=(xF _ _).1 N;rw[M d hd,Bool.and_eq_true,Bool.not_eq_true']at z;rw[XM l a e d J aI hd I.1 z.2]at h2;exact(QL _ _).2 ⟨d,NM g aI b.toNat aI d hd z.1,by unfold uE;rw[z.1,z.2,h2];rfl⟩
 ·intro h x N;obtain⟨e,F,D,rfl⟩:=(xF _ _).1 N;rw[K e F,Bool.and_eq_true,Bool.not_eq_true']at D;have h1:=h e (NM g aI a.toNat aI e F D.1);rw[Bool.or_eq_true]at h1;rcases h1 with h1|h1
  ·unfold wH at h1;rw[D.1,D.2]at h1;simp at h1
  ·obtain⟨d,hd,h2⟩:=(QL _ _).1 h1;unfold uE at h2;rw[Bool.and_eq_true,Bool.and_eq_true,Bool.not_eq_true']at h2;rw[List.any_eq_true];exact⟨(d:Int),(xF _ _).2 ⟨d,by omega,by rw[M d aI,h2.1,h2.2.1];rfl,rfl⟩,by rw[XM l a e d J F aI D.1 h2.2.1];exact h2.2.2⟩
theorem MP(l:List Int)(v:Value)(w:World)(hv:aO w v l)(c:FuncId)(he:∀args w,(callFunc c args).run prog w=.ok (.enter c args) w)(N O R:Nat)(P:Int->Bool)
  (hw:∀(t:Int) W',t∈l->Below w w W'->Calls prog c #[t,.pointer (some ⟨N,0,none⟩),.pointer (some ⟨O,0,none⟩),.pointer (some ⟨R,0,none⟩)] W' fun e w2=>e=.returned (.bool (P t))/\Below W' W' w2):
  Calls prog 284 #[v,.func (.func c) #[] #[.pointer (some ⟨N,0,none⟩),.pointer (some ⟨O,0,none⟩),.pointer (some ⟨R,0,none⟩)]] w fun e w'=>(∃i:Int,e=.returned i/\(0<=i↔l.any P=true)/\-1<=i/\i<=9223372036854775807)/\Below w w w':=by
 obtain⟨a,b,a8,cp,rfl,S,a6,hc,hb⟩:=hv.view prog 24 3 underlying24 aP;have Z:=aJ hw;clear hw;go_enter func284,ntmps284;go_wp2_with fail;go_loopw [8] (fun i wr=>∃k:Nat,k<=l.length/\i=ajJ k/\(l.take k).any P=false/\Below w w wr) (fun i _=>l.length-(intOf i).toNat)
 case atStart=>exact⟨0,Nat.zero_le _,rfl,by simp,Below.refl _ _⟩
 case round=>
  obtain⟨k,hk,rfl,z,B⟩:=hrel;have H:=aJ z;clear z;by_cases hlt:k<l.length
  ·have a1:=aT hc hb B aK k hlt;have hcl:=Z.out l[k] wr (List.getElem_mem hlt) B;have J:(l.take (k+1)).any P=((l.take k).any P||P l[k]):=by rw[List.take_succ_eq_append_getElem hlt,List.any_append];simp
   have M:=aJ J;clear J
   cases F:P l[k]with
   |true=>have I:l.any P=true:=List.any_eq_true.2 ⟨_,List.getElem_mem hlt,F⟩;have K:=aJ I;rw[F]at hcl;clear I F;go_wp2_with (go_at_fn c;refine hcl.mono ?_;rintro e w2 ⟨rfl,D⟩);go_ret;exact⟨⟨k,rfl,by rw[K.out];simp,by omega,by omega⟩,B.after D B.size⟩
   |false=>
    have Y:=aJ F;rw[F]at hcl;clear F;go_wp2_with (go_at_fn c;refine hcl.mono ?_;rintro e w2 ⟨rfl,D⟩);go_roundw
    case rel=>exact⟨k+1,by omega,by go_num,by rw[M.out,H.out,Y.out];rfl,B.after D B.size⟩
    case measure=>simp[intOf];omega
  ·have I:l.any P=false:=by have:=H.out;rw[List.take_of_length_le aI]at this;exact this
   have K:=aJ I;clear I;go_wp2;go_ret;exact⟨⟨-1,rfl,by rw[K.out];simp,by omega,by omega⟩,B⟩
theorem E4(l:List Int)(v:Value)(w:World)(N:aO w v l)(c:FuncId)(K:∀args w,(callFunc c args).run prog w=.ok (.enter c args) w)(z D F:Nat)(P:Int->Bool)
  (hw:∀(t:Int) W',t∈l->Below w w W'->Calls prog c #[t,.pointer (some ⟨z,0,none⟩),.pointer (some ⟨D,0,none⟩),.pointer (some ⟨F,0,none⟩)] W' fun e w2=>e=.returned (.bool (P t))/\Below W' W' w2):
  Calls prog 223 #[v,.func (.func c) #[] #[.pointer (some ⟨z,0,none⟩),.pointer (some ⟨D,0,none⟩),.pointer (some ⟨F,0,none⟩)]] w fun e w'=>e=.returned (.bool (l.any P))/\Below w w w':=by
 have hcl:=MP l v w N c K z D F P hw;clear hw K;obtain⟨a,S,rfl⟩:=N.shape;go_enter func223,ntmps223;go_wp2_with (go_at_call 284;refine hcl.mono ?_;rintro e w' ⟨⟨i,rfl,M,O,R⟩,hb⟩;have J:=aJ M;clear M);go_ret;refine⟨aW ?_,hb⟩
 cases I:l.any P with
 |true=>have:=J.out.2 I;simpa using this
 |false=>
  have h:¬0<=i:=fun h=>by rw[J.out.1 h]at I;cases I
  simpa using h
theorem CL:∀args w,(callFunc 285 args).run prog w=.ok (.enter 285 args) w:=enters_of func285 aQ rfl
theorem UZ(w:World)(N Z g3:Nat)(g:Int)(l:List Int)(v:Value)(a e d:Nat)(hv:aO w v l)(D:l.Pairwise (· < ·))(hl:l.length<=1048576)
  (d0:w.cell? ⟨N,0,none⟩=some (ajJ g)) (d1:w.cell? ⟨N,1,none⟩=some v) (d2:w.cell? ⟨Z,0,none⟩=some (ajJ (a:Int))) (d3:w.cell? ⟨g3,0,none⟩=some (ajJ (e:Int)))
  (ha:a<64) (he:e<6) (hd:d<6):
  Calls prog 285 #[(d:Int),.pointer (some ⟨N,0,none⟩),.pointer (some ⟨Z,0,none⟩),.pointer (some ⟨g3,0,none⟩)] w fun r w'=>r=.returned (.bool (zJ l (a:Int) (e:Int) (d:Int)))/\Below w w w':=by
 obtain⟨p,c,rfl⟩:=hv.shape;have I:=cK e 5 aI;have F:=cK d 5 aI;have Y:=I.1;have b3:=I.2;have S:=F.1;have b0:=F.2;simp at Y S;have b4:wrap64 ((2:Int)^e)=2^e:=by unfold wrap64;omega
 have b5:wrap64 ((2:Int)^d)=2^d:=by unfold wrap64;omega
 have O:=lS (a:=(a:Int)) (b:=2^e) aI aI aI aI;have hy:=nQ (a:Int) (2^e) 64 aI aI;have K:zJ l (a:Int) (e:Int) (d:Int)=fP l (fQ (cI (a:Int) (2^e)) (2^d)):=by unfold zJ;rw[Int.toNat_natCast,Int.toNat_natCast]
 obtain⟨y,J⟩:=aN (cI (a:Int) (2^e));rw[<-J]at O hy K;have R:=xN (a:=y) (b:=2^d) aI aI aI aI;obtain⟨z,hz⟩:=aN (fQ y (2^d));rw[<-hz]at R K;have hcl:=wU g l _ z w hv D hl;have M:=aJ hcl;have HX:=aJ K;clear hcl D K hz J I F;go_enter func285,ntmps285;go_wp2_with fail;refine M.out.mono ?_;rintro r w1 ⟨rfl,b1⟩;go_wp2;go_ret;exact⟨aW HX.out.symm,b1⟩
theorem ME(w:World)(g:Int)(v:Value)(l:List Int)(hv:aO w v l)(O:l.Pairwise (· < ·))(hl:l.length<=1048576)(a b:Int)(ha:0<=a/\a<64)(hb:0<=b/\b<64):
  Calls prog 225 #[.agg #[g,v],a,b] w fun r w'=>r=.returned (.bool (nI l a b))/\Below w w w':=by
 obtain⟨p,c,rfl⟩:=hv.shape;have j4:∀(fn:Fn) (first cap:Array Value) (w:World),(Instr.makeFunc fn first cap).run prog w=.ok (.func fn first cap) w:=fun _ _ _ _=>rfl;obtain⟨V,hV⟩:=aN ((w.alloc (.cells #[g,ajH p l.length c] 31)).alloc (.cells #[a] 3));have B:Below w w V:=fY hV;have K1:aR V w 31 #[g,ajH p l.length c]:=gL hV;have K2:aR V (w.heap.size+1) 3 #[a]:=gV hV;have f9:=lS ha.1 ha.2 hb.1 hb.2;have g0:=lS hb.1 hb.2 ha.1 ha.2;have a6:=nQ a b 64 ha.1 ha.2;have a7:=nQ b a 64 hb.1 hb.2;have hx:nI l a b=(gU (cI a b)).all fun e=>(gU (cI b a)).any (zJ l a e):=rfl;obtain⟨A,hA⟩:=aN (cI a b);obtain⟨D,hD⟩:=aN (cI b a);rw[<-hA]at f9 a6 hx;rw[<-hD]at g0 a7 hx;have Y:=fun W=>rF A W a6.1 a6.2;have R:=fun W=>rF D W a7.1 a7.2;have Z:=xF A;have a1:=xF D;have g4:=vB A;obtain⟨I,b6⟩:=aN (gU A);obtain⟨J,b7⟩:=aN (gU D);simp only[<-b6]at Y Z hx g4;simp only[<-b7]at R a1 hx;have F:∀(W:World) (ge e:Nat) (u:Value),e<6->aO W u J->aO W (ajH p l.length c) l->aR W w 31 #[g,ajH p l.length c]->aR W (w.heap.size+1) 3 #[a]->aR W ge 3 #[(e:Int)] ->
   Calls prog 223 #[u,.func (.func 285) #[] #[.pointer (some ⟨w,0,none⟩),.pointer (some ⟨w.heap.size+1,0,none⟩),.pointer (some ⟨ge,0,none⟩)]] W fun r w'=>r=.returned (.bool (J.any (zJ l a (e:Int))))/\Below W W w':=by
  intro W ge e u he h1 h2 k1 k2 k3;refine E4 J u W h1 285 CL _ _ _ (zJ l a (e:Int)) ?_;intro t W' ht hB;obtain⟨d,hd,_,rfl⟩:=(a1 t).1 ht;obtain⟨n,rfl⟩:∃n:Nat,a=(n:Int):=⟨a.toNat,by omega⟩;exact UZ W' _ _ _ g l _ n e d (h2.keep hB) O hl ((k1.keep hB).cell 0) ((k1.keep hB).cell 1) ((k2.keep hB).cell 0) ((k3.keep hB).cell 0) aI he hd
 have HV:=aJ hV;have e0:=aJ Y;have d9:=aJ R;have e6:=aJ Z;have d8:=aJ F;have HX:=aJ hx;clear hV Y R Z a1 F hx hA hD b6 b7 O;have z1:=K1.lt;have z2:=K2.lt;have G:=K2.cell;go_enter func225,ntmps225;go_wp2_with fail;rw[HV.out.symm];refine(e0.out V).mono ?_;rintro r w1 ⟨pa,ia,qa,rfl,o1,b1⟩;have g3:ia=I.length:=o1.ints.capLe.1;subst g3;have B1:=B.after b1 B.size;have e8:=K1.keep b1;have f3:=K2.keep b1;obtain⟨_,bb,j9,_,g5,_,c7,hc,g1⟩:=o1.ints.view prog 24 3 underlying24 aP;injection g5 with x1 _ x3;subst x1 x3;have HC:=aJ hc;have e5:=aJ c7;clear G hc c7 o1;go_wp2_with fail;go_loopw [15] (fun iv wr=>∃j:Nat,j<=I.length/\iv=ajJ j/\(I.take j).all (fun e=>J.any (zJ l a e))=true/\Below w1 w1 wr) (fun iv _=>I.length-(intOf iv).toNat)
 case atStart=>
  trace_state
  exact⟨0,Nat.zero_le _,rfl,by simp,Below.refl _ _⟩
 case round=>
  obtain⟨j,hj,rfl,N,Bw⟩:=hrel;have K:=aJ N;clear N;have B2:=B1.after Bw B1.size;have e9:=e8.keep Bw;have f4:=f3.keep Bw;have z3:=Bw.size;by_cases hlt:j<I.length
  ·have c8:(j:Int)<(I.length:Int):=aI;have ck:=aT HC.out g1 Bw aK j hlt;have ik:=fun W=>e5.out W j hlt;obtain⟨e,he,_,S⟩:=(e6.out _).1 (List.getElem_mem hlt);have c9:(I.take (j+1)).all (fun e=>J.any (zJ l a e))=J.any (zJ l a (e:Int)):=by rw[List.take_succ_eq_append_getElem hlt,List.all_append,K.out,S];simp
   rw[S]at ck;have e7:=aJ c9;clear c9;have f0:aR (wr.alloc (.cells #[(e:Int)] 3)) w.heap.size 31 #[g,ajH p l.length c]:=e9.alloc _;have b3:aR (wr.alloc (.cells #[(e:Int)] 3)) (w.heap.size+1) 3 #[a]:=f4.alloc _;have f5:aR (wr.alloc (.cells #[(e:Int)] 3)) wr.heap.size 3 #[(e:Int)]:=aR.new _ _ _;have B3:Below w1 w1 (wr.alloc (.cells #[(e:Int)] 3)):=Bw.alloc z3 _;have G:=b3.cell;go_wp2_with fail;refine(d9.out _).mono ?_;rintro r w4 ⟨pd,id,qd,rfl,o4,b4⟩;have c6:id=J.length:=o4.ints.capLe.1;subst c6;have B4:=B3.after b4 B3.size;have B5:=B1.after B4 B1.size;have F:=d8.out w4 wr.heap.size e _ he o4.ints (hv.below B5 aK) (f0.keep b4) (b3.keep b4) (f5.keep b4);obtain⟨z,hz⟩:=aN (J.any (zJ l a (e:Int)));rw[<-hz]at F;have M:=aJ F;have HZ:=aJ hz;clear F hz G
   cases z with
   |true=>
    go_wp2_with fail;refine M.out.mono ?_;rintro r w5 ⟨rfl,b5⟩;go_wp2;go_roundw
    case rel=>exact⟨j+1,by omega,by go_num,by rw[e7.out,<-HZ.out],B4.after b5 B4.size⟩
    case measure=>simp[intOf];omega
   |false=>
    have b9:nI l a b=false:=by
     rw[HX.out]
     cases hh:(I.all fun e=>J.any (zJ l a e)) with
     |false=>rfl
     |true=>
      have:=List.all_eq_true.1 hh _ (List.getElem_mem hlt);rw[S,<-HZ.out]at this
      cases this
    have e4:=aJ b9;clear b9;go_wp2_with fail;refine M.out.mono ?_;rintro r w5 ⟨rfl,b5⟩;go_wp2;go_ret;exact⟨aW e4.out.symm,B5.after b5 B5.size⟩
  ·have c8:¬(j:Int)<(I.length:Int):=aI;have hh:=K.out;rw[List.take_of_length_le aI]at hh;have HH:=aJ hh;clear hh;go_wp2;go_ret;exact⟨aW (by rw[HX.out,HH.out]),B2⟩
end
end Go.Proofs.YtcpoomdoodlkjaaGreatDoor
