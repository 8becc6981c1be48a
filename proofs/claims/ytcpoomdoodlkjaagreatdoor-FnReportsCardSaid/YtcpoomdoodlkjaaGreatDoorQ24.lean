/- Lemmas for CardReports. No condition. -/
import Derived.Test.YtcpoomdoodlkjaaGreatDoorQ19
set_option maxRecDepth 100000
set_option maxHeartbeats 64000000
namespace Go.Proofs.YtcpoomdoodlkjaaGreatDoor
section
open Go.RowKit Go.G5 Go.Proofs.Tryz
end
section
open Go.RowKit Go.G5 Go.Proofs.Tryz
end
section
open Go.RowKit Go.G5 Go.Proofs.Tryz
def zZ(s r:Int):Int:=max (dL (bK s r)-dL (cM s r)) (-(dL (bK s r)-dL (cM s r)))
theorem W9:∀s:Nat,s<64->∀r:Nat,r<64->bR (cV s r)+bR (s &&& r)=bR s:=by decide +kernel
theorem ZU:∀s:Nat,s<64->bR s<=6:=by decide +kernel
theorem ad7{s r:Int}(z:0<=s/\s<64)(hr:0<=r/\r<64):2*dL (bK s r)-dL s=dL (bK s r)-dL (cM s r):=by
 have h:=W9 s.toNat aK r.toNat aK;unfold dL bK cM;rw[Int.toNat_natCast,Int.toNat_natCast];omega
theorem SJ{s r:Int}(z:0<=s/\s<64)(hr:0<=r/\r<64):-6<=dL (bK s r)-dL (cM s r)/\dL (bK s r)-dL (cM s r)<=6/\0<=dL (bK s r)/\dL (bK s r)<=6/\0<=dL (cM s r)/\dL (cM s r)<=6/\0<=dL s/\dL s<=6:=by
 have h:=W9 s.toNat aK r.toNat aK;have h2:=ZU s.toNat aK;unfold dL bK cM;rw[Int.toNat_natCast,Int.toNat_natCast];omega
def sU(l:List Int)(r:Int):Nat->Int
 |0=>0
 |k+1=>max (sU l r k) (zZ (l.getD k 0) r)
def uY(l:List Int)(r:Int):Int:=sU l r l.length
def jY(l:List Int):Nat->Int×Int
 |0=>(0,uY l 0)
 |r+1=>if uY l ((r+1:Nat):Int)<(jY l r).2 then (((r+1:Nat):Int),uY l ((r+1:Nat):Int)) else jY l r
def yN(g:Int)(l:List Int):Int:=if bJ g l then (jY l (2^g.toNat-1)).1 else 0
def wP(g:Int)(l:List Int):Int:=if bJ g l then (jY l (2^g.toNat-1)).2 else 0
theorem E2(l:List Int)(r:Int)(h:∀s∈l,0<=s/\s<64)(hr:0<=r/\r<64):∀k,0<=sU l r k/\sU l r k<=6:=by
 intro k
 induction k with
 |zero=>simp[sU]
 |succ k ih=>
  rw[sU];have h2:0<=l.getD k 0/\l.getD k 0<64:=by
   rw[List.getD_eq_getElem?_getD]
   cases hk:l[k]? with
   |none=>simp
   |some x=>exact h x (List.mem_of_getElem? hk)
  have:=SJ h2 hr;unfold zZ;omega
theorem LU(l:List Int)(h:∀s∈l,0<=s/\s<64):∀r,r<64->(0<=(jY l r).1/\(jY l r).1<=r)/\0<=(jY l r).2/\(jY l r).2<=6:=by
 intro r
 induction r with
 |zero=>intro _;rw[jY];have:=E2 l 0 h aK l.length;unfold uY;simp;omega
 |succ r ih=>
  intro hr;have ih:=ih aK;rw[jY]
  split
  ·have:=E2 l ((r+1:Nat):Int) h aK l.length;unfold uY;simp only[];omega
  ·omega
def iU(T:List Int->Int->Bool):List Int->List Int->List Int->List Int
 |[],_,b=>b
 |s::r,c,b=>if c.length+(r.length+1)<=b.length then b else if T c s then iU T r c (cN b (iU T r (c++[s]) (c++[s]))) else iU T r c b
def sW(T:List Int->Int->Bool):List Int->List Int->List Int->List Int
 |[],_,b=>b
 |s::r,c,b=>if c.length+(r.length+1)<=b.length then b else if T c s then sW T r c (sW T r (c++[s]) (cN b (c++[s]))) else sW T r c b
theorem wZ(a b:List Int):(cN a b).length=max a.length b.length:=by
 unfold cN
 split<;>omega
theorem xD(T:List Int->Int->Bool):∀(r c b:List Int),(iU T r c b).length<=max b.length (c.length+r.length)
 |[],c,b=>by rw[iU];omega
 |s::r,c,b=>by
  rw[iU,List.length_cons]
  split
  ·omega
  ·split
   ·have h1:=xD T r c (cN b (iU T r (c++[s]) (c++[s])));have h2:=xD T r (c++[s]) (c++[s]);rw[wZ]at h1;rw[List.length_append,List.length_singleton]at h2;omega
   ·have h1:=xD T r c b;omega
theorem DJ{a b:List Int}(h:b.length<=a.length):cN a b=a:=by unfold cN;rw[if_neg aK]
theorem CH(T:List Int->Int->Bool):∀(r c b x:List Int),sW T r c (cN b x)=cN b (iU T r c x)
 |[],_,_,_=>rfl
 |s::r,c,b,x=>by
  rw[sW,iU];have hl:=wZ b x;by_cases h1:c.length+(r.length+1)<=(cN b x).length
  ·rw[if_pos h1];by_cases h2:c.length+(r.length+1)<=x.length
   ·rw[if_pos h2]
   ·have hb:x.length<=b.length:=aK;have h3:=xD T (s::r) c x;rw[iU,List.length_cons]at h3;rw[DJ hb,DJ (Nat.le_trans h3 aK)]
  ·rw[if_neg h1,if_neg (show ¬c.length+(r.length+1)<=x.length by omega)]
   split
   ·rw[CH T r (c++[s]) (cN b x) (c++[s]),DI,CH T r c b]
   ·exact CH T r c b x
theorem afQ(T:List Int->Int->Bool)(r c b:List Int):(sW T r c b).length<=max b.length (c.length+r.length):=by
 have h:=CH T r c b [];rw[DJ (show([]:List Int).length<=b.length by simp)]at h;rw[h,wZ];have h2:=xD T r c [];simp at h2;omega
def kV(l:List Int)(s:Int):Bool:=cJ (fun j=>lG s (l.getD j 0)) l.length
theorem ZM(l:List Int):∀k,(mF l k).length=k↔∀i,i<k->wW l i=true:=by
 intro k
 induction k with
 |zero=>simp[mF]
 |succ k ih=>
  have F:=TA l k;rw[mF]
  cases z:wW l k with
  |true=>
   rw[if_pos rfl,List.length_append,List.length_singleton];constructor
   ·intro h i D;by_cases e:i=k
    ·rw[e];exact z
    ·exact ih.1 aK i aK
   ·intro h;rw[ih.2 (fun i D=>h i aK)]
  |false=>
   rw[if_neg (by simp)];constructor
   ·intro h;omega
   ·intro h;have:=h k aK;rw[z]at this;cases this
theorem CW(l:List Int):tG l=true↔∀i,i<l.length->∀k,k<l.length->k≠i->bK (l.getD k 0) (l.getD i 0)≠l.getD k 0:=by
 unfold tG;rw[beq_iff_eq,ZM];unfold wW;simp only[eK,Bool.or_eq_true,beq_iff_eq,bne_iff_ne,ne_eq];constructor
 ·intro h i z k hk D;rcases h i z k hk with e|e
  ·exact absurd e D
  ·exact e
 ·intro h i z k hk;by_cases e:k=i
  ·exact .inl e
  ·exact .inr (h i z k hk e)
theorem ad2:tG []=true:=rfl
theorem yR(l:List Int)(s:Int)(i:Nat)(h:i<l.length):(l++[s]).getD i 0=l.getD i 0:=by
 rw[List.getD_eq_getElem?_getD,List.getD_eq_getElem?_getD,List.getElem?_append_left h]
theorem A0(l:List Int)(s:Int):(l++[s]).getD l.length 0=s:=by
 rw[List.getD_eq_getElem?_getD,List.getElem?_append_right aO];simp
theorem sB{a b:Int}(z:0<=a):cM a b≠0↔bK a b≠a:=by
 rw[<-GT z];constructor<;>intro h<;>omega
theorem afS(l:List Int)(s:Int)(hl:tG l=true)(hm:∀x∈l,0<=x)(K:0<=s):kV l s=tG (l++[s]):=by
 rw[Bool.eq_iff_iff,CW];unfold kV lG;simp only[eK,Bool.and_eq_true,bne_iff_ne];have J:∀j,j<l.length->0<=l.getD j 0:=fun j F=>by rw[List.getD_eq_getElem?_getD,List.getElem?_eq_getElem F];exact hm _ (List.getElem_mem F)
 rw[CW]at hl;constructor
 ·intro h i M k hk I;rw[List.length_append,List.length_singleton]at M hk;by_cases e1:i=l.length
  ·have z:k<l.length:=aK;rw[e1,A0,yR l s k z];exact(sB (J k z)).1 (h k z).2
  ·have D:i<l.length:=aK;rw[yR l s i D];by_cases e2:k=l.length
   ·rw[e2,A0];exact(sB K).1 (h i D).1
   ·have z:k<l.length:=aK;rw[yR l s k z];exact hl i D k z I
 ·intro h j F;have h1:=h l.length (by simp) j aV aK;have h2:=h j aV l.length (by simp) aK;rw[A0,yR l s j F]at h1 h2;exact⟨(sB K).2 h2,(sB (J j F)).2 h1⟩
theorem EF:∀(r c b:List Int),tG c=true->(∀x∈c,0<=x)->(∀x∈r,0<=x)->iU (fun l s=>tG (l++[s])) r c b=iU kV r c b
 |[],_,_,_,_,_=>rfl
 |s::r,c,b,hc,hcm,hm=>by
  have h1:∀x∈r,0<=x:=fun x z=>hm x (List.mem_cons_of_mem _ z);have h2:=hm s (by simp);have ht:=afS c s hc hcm h2;rw[iU,iU,<-ht,EF r c b hc hcm h1]
  cases D:kV c s with
  |false=>rfl
  |true=>
   rw[EF r (c++[s]) (c++[s]) (ht▸D) (fun x z=>by
    rcases List.mem_append.1 z with h|h
    ·exact hcm x h
    ·rw[List.mem_singleton]at h;omega) h1,EF r c _ hc hcm h1]
def uU(g:Int)(l:List Int):Bool:=bJ g l&&decide (l.length<=12)
def sL(g:Int)(l:List Int):List Int:=if uU g l then iU kV l [] [] else []
def FP(g:Int)(l:List Int):Int:=if uU g l then g else 0
theorem abQ{g:Int}{l:List Int}(h:uU g l=false):FP g l=0/\sL g l=[]:=by unfold FP sL;rw[h];exact⟨rfl,rfl⟩
theorem ES{g:Int}{l:List Int}(h:uU g l=true):FP g l=g/\sL g l=iU kV l [] []:=by unfold FP sL;rw[h];exact⟨rfl,rfl⟩
theorem afR(l:List Int):sW kV l [] []=iU kV l [] []:=by
 have h:=CH kV l [] [] [];have e:cN [] []=([]:List Int):=rfl;rw[e]at h;rw[h];unfold cN
 split
 ·rfl
 ·rename_i D;have z:(iU kV l [] []).length=0:=by simpa using D
  exact(List.eq_nil_of_length_eq_zero z).symm
def RC(g:Nat)(a b:Int):Bool:=pV a b&&fT a b != 2^g-1
def mS(g:Int)(l:List Int):Bool:=bJ g l&&cJ (fun i=>cJ (fun k=>!RC g.toNat (l.getD i 0) (l.getD k 0)) i) l.length
theorem SI{a b:Int}(z:0<=a):(cM a b != 0)=(bK a b != a):=by
 rw[Bool.eq_iff_iff,bne_iff_ne,bne_iff_ne];exact sB z
theorem AV{a b:Int}(z:0<=a)(hb:0<=b):pV a b=IY a b:=by
 unfold pV IY;rw[SI z,SI hb,wA b a]
theorem rJ{l:List Int}(hm:∀x∈l,0<=x/\x<64)(k:Nat):0<=l.getD k 0/\l.getD k 0<64:=by
 rw[List.getD_eq_getElem?_getD]
 cases hk:l[k]? with
 |none=>simp
 |some x=>exact hm x (List.mem_of_getElem? hk)
theorem IZ(a b:Int):pV a b=pV b a:=by
 unfold pV;rw[wA b a]
 cases(bK a b != 0)<;>cases(cM a b != 0)<;>cases(cM b a != 0)<;>rfl
theorem SZ{l:List Int}(hm:∀x∈l,0<=x/\x<64):GV l=SY l:=by
 unfold GV SY;rw[Bool.eq_iff_iff];simp only[eK,Bool.or_eq_true,decide_eq_true_eq,Bool.not_eq_true'];constructor
 ·intro h i D k hk;rcases h k aK i D with h1|h1
  ·omega
  ·rw[<-AV (rJ hm i).1 (rJ hm k).1,IZ];exact h1
 ·intro h i D j F;by_cases z:j<=i
  ·exact .inl z
  ·right;have:=h j F i aK;rw[<-AV (rJ hm j).1 (rJ hm i).1,IZ]at this;exact this
theorem aaC{l:List Int}(hm:∀x∈l,0<=x/\x<64):EG l=tG l:=by
 rw[Bool.eq_iff_iff,CW];unfold EG lG;simp only[eK,Bool.and_eq_true,bne_iff_ne];constructor
 ·intro h i z k hk D;rcases Nat.lt_or_gt_of_ne D with h1|h1
  ·exact(sB (rJ hm k).1).1 (h i z k h1).2
  ·exact(sB (rJ hm k).1).1 (h k hk i h1).1
 ·intro h i z j F;exact⟨(sB (rJ hm i).1).2 (h j aK i z aK),(sB (rJ hm j).1).2 (h i z j aK aK)⟩
theorem JL{l:List Int}:l.all (mU l)=J3 l:=by
 unfold J3 mU;rw[Bool.eq_iff_iff];simp only[eK,List.all_eq_true,bne_iff_ne];constructor
 ·intro h i z k hk;rw[aX l i z,aX l k aK,wA];exact h _ (List.getElem_mem z) _ (List.getElem_mem (show k<l.length by omega))
 ·intro h s F t ht;obtain⟨i,z,rfl⟩:=List.getElem_of_mem F;obtain⟨k,hk,rfl⟩:=List.getElem_of_mem ht;by_cases D:k<=i
  ·have:=h i z k aK;rw[aX l i z,aX l k hk,wA]at this;exact this
  ·have:=h k hk i aK;rw[aX l i z,aX l k hk]at this;exact this
def zO(l:List Int)(a e d:Int):Bool:=fS l (fT (cM a (2^e.toNat)) (2^d.toNat))
def nL(l:List Int)(a b:Int):Bool:=(gX (cM a b)).all fun e=>(gX (cM b a)).any (zO l a e)
def wL(g:Int)(l:List Int):Bool:=bJ g l&&(!l.isEmpty&&l.all fun a=>l.all (nL l a))
def mK(p:Nat->Bool):Nat->Bool
 |0=>false
 |k+1=>mK p k||p k
def uH(l:List Int)(a b:Int)(e d:Nat):Bool:=dC b.toNat d&&(!dC a.toNat d&&fS l (a-2^e+2^d))
def wK(a b:Int)(e:Nat):Bool:=!dC a.toNat e||dC b.toNat e
def WU(g:Nat)(l:List Int)(a b:Int):Bool:=cJ (fun e=>wK a b e||mK (uH l a b e) g) g
theorem QP(p:Nat->Bool):∀n,mK p n=true↔∃k,k<n/\p k=true:=by
 intro n
 induction n with
 |zero=>simp[mK]
 |succ n ih=>
  rw[mK,Bool.or_eq_true,ih];constructor
  ·rintro(⟨k,hk,h⟩|h)
   ·exact⟨k,by omega,h⟩
   ·exact⟨n,by omega,h⟩
  ·rintro⟨k,hk,h⟩;by_cases e:k=n
   ·right;rw[<-e];exact h
   ·left;exact⟨k,by omega,h⟩
theorem VW(P:Nat->Bool)(n:Nat)(x:Int):x∈bW P n↔∃k:Nat,k<n/\P k=true/\x=(k:Int):=by
 unfold bW;rw[List.mem_map];constructor
 ·rintro⟨k,hk,rfl⟩;rw[List.mem_filter,List.mem_range]at hk;exact⟨k,hk.1,hk.2,rfl⟩
 ·rintro⟨k,h1,h2,rfl⟩;exact⟨k,by rw[List.mem_filter,List.mem_range];exact⟨h1,h2⟩,rfl⟩
theorem xI(s x:Int):x∈gX s↔∃k:Nat,k<6/\dC s.toNat k=true/\x=(k:Int):=VW _ _ _
theorem H7:∀a:Nat,a<64->∀b:Nat,b<64->∀e:Nat,e<6->dC (cV a b) e=(dC a e&&!dC b e):=by decide +kernel
theorem af6:∀a:Nat,a<64->∀e:Nat,e<6->dC a e=true->cV a (2^e)=a-2^e/\2^e<=a:=by decide +kernel
theorem agT:∀a:Nat,a<64->∀e:Nat,e<6->dC a e=false->a ||| 2^e=a+2^e:=by decide +kernel
theorem NQ:∀g:Nat,g<7->∀a:Nat,a<2^g->∀e:Nat,e<6->dC a e=true->e<g:=by decide +kernel
theorem XQ(l:List Int)(a:Int)(e d:Nat)(F:0<=a/\a<64)(z:e<6)(hd:d<6)(h1:dC a.toNat e=true)(h2:dC a.toNat d=false):zO l a e d=fS l (a-2^e+2^d):=by
 unfold zO
 congr 1
 obtain⟨n,rfl⟩:∃n:Nat,a=(n:Int):=⟨a.toNat,by omega⟩;rw[Int.toNat_natCast]at h1 h2;have e1:=af6 n aK e z h1;have D:∀k:Nat,((2:Int)^k).toNat=2^k:=fun k=>by
  have:((2:Int)^k)=((2^k:Nat):Int):=by simp
  rw[this,Int.toNat_natCast]
 unfold fT cM;simp only[Int.toNat_natCast,D];have hb:dC (cV n (2^e)) d=false:=by have:=H7 n aK (2^e) (by have:(2:Nat)^e<=2^5:=Nat.pow_le_pow_right aY aK;omega) d hd;rw[this,h2];rfl
 rw[e1.1]at hb ⊢;rw[agT (n-2^e) (Nat.lt_of_le_of_lt (Nat.sub_le _ _) aK) d hd hb];have:((2:Int)^e)=((2^e:Nat):Int):=by simp
 have h3:((2:Int)^d)=((2^d:Nat):Int):=by simp
 rw[this,h3];omega
theorem agD(g:Nat)(R:g<=6)(l:List Int)(a b:Int)(Y:0<=a/\a<2^g)(hb:0<=b/\b<2^g):nL l a b=WU g l a b:=by
 have Z:(2:Nat)^g<=2^6:=Nat.pow_le_pow_right aY R;have S:((2:Int)^g)=((2^g:Nat):Int):=by simp
 have J:0<=a/\a<64:=aK;have O:0<=b/\b<64:=aK;have K:∀e,e<6->dC (cM a b).toNat e=(dC a.toNat e&&!dC b.toNat e):=fun e F=>by unfold cM;rw[Int.toNat_natCast];exact H7 _ aK _ aK e F
 have M:∀e,e<6->dC (cM b a).toNat e=(dC b.toNat e&&!dC a.toNat e):=fun e F=>by unfold cM;rw[Int.toNat_natCast];exact H7 _ aK _ aK e F
 unfold nL WU;rw[Bool.eq_iff_iff,List.all_eq_true,eK];constructor
 ·intro h e F;rw[Bool.or_eq_true];by_cases I:wK a b e=true
  ·exact .inl I
  ·right;unfold wK at I;rw[Bool.or_eq_true,not_or,Bool.not_eq_true',Bool.not_eq_false,Bool.not_eq_true]at I;have h1:=h (e:Int) ((xI _ _).2 ⟨e,by omega,by rw[K e aK,I.1,I.2];rfl,rfl⟩);rw[List.any_eq_true]at h1;obtain⟨x,N,h2⟩:=h1;obtain⟨d,hd,z,rfl⟩:=(xI _ _).1 N;rw[M d hd,Bool.and_eq_true,Bool.not_eq_true']at z;rw[XQ l a e d J aK hd I.1 z.2]at h2;exact(QP _ _).2 ⟨d,NQ g aK b.toNat aK d hd z.1,by unfold uH;rw[z.1,z.2,h2];rfl⟩
 ·intro h x N;obtain⟨e,F,D,rfl⟩:=(xI _ _).1 N;rw[K e F,Bool.and_eq_true,Bool.not_eq_true']at D;have h1:=h e (NQ g aK a.toNat aK e F D.1);rw[Bool.or_eq_true]at h1;rcases h1 with h1|h1
  ·unfold wK at h1;rw[D.1,D.2]at h1;simp at h1
  ·obtain⟨d,hd,h2⟩:=(QP _ _).1 h1;unfold uH at h2;rw[Bool.and_eq_true,Bool.and_eq_true,Bool.not_eq_true']at h2;rw[List.any_eq_true];exact⟨(d:Int),(xI _ _).2 ⟨d,by omega,by rw[M d aK,h2.1,h2.2.1];rfl,rfl⟩,by rw[XQ l a e d J F aK D.1 h2.2.1];exact h2.2.2⟩
theorem MT(l:List Int)(v:Value)(w:World)(hv:aR w v l)(c:FuncId)(he:∀args w,(callFunc c args).run prog w=.ok (.enter c args) w)(N O R:Nat)(P:Int->Bool)
  (hw:∀(t:Int) W',t∈l->Below w w W'->Calls prog c #[t,.pointer (some ⟨N,0,none⟩),.pointer (some ⟨O,0,none⟩),.pointer (some ⟨R,0,none⟩)] W' fun e w2=>e=.returned (.bool (P t))/\Below W' W' w2):
  Calls prog 284 #[v,.func (.func c) #[] #[.pointer (some ⟨N,0,none⟩),.pointer (some ⟨O,0,none⟩),.pointer (some ⟨R,0,none⟩)]] w fun e w'=>(∃i:Int,e=.returned i/\(0<=i↔l.any P=true)/\-1<=i/\i<=9223372036854775807)/\Below w w w':=by
 obtain⟨a,b,a8,cp,rfl,S,a6,hc,hb⟩:=hv.view prog 24 3 underlying24 aS;have Z:=aN hw;clear hw;go_enter func284,ntmps284;go_wp2_with fail;go_loopw [8] (fun i wr=>∃k:Nat,k<=l.length/\i=aM k/\(l.take k).any P=false/\Below w w wr) (fun i _=>l.length-(intOf i).toNat)
 case atStart=>exact⟨0,Nat.zero_le _,rfl,by simp,Below.refl _ _⟩
 case round=>
  obtain⟨k,hk,rfl,z,B⟩:=hrel;have H:=aN z;clear z;by_cases hlt:k<l.length
  ·have a1:=aW hc hb B aO k hlt;have hcl:=Z.out l[k] wr (List.getElem_mem hlt) B;have J:(l.take (k+1)).any P=((l.take k).any P||P l[k]):=by rw[List.take_succ_eq_append_getElem hlt,List.any_append];simp
   have M:=aN J;clear J
   cases F:P l[k]with
   |true=>have I:l.any P=true:=List.any_eq_true.2 ⟨_,List.getElem_mem hlt,F⟩;have K:=aN I;rw[F]at hcl;clear I F;go_wp2_with (go_at_fn c;refine hcl.mono ?_;rintro e w2 ⟨rfl,D⟩);go_ret;exact⟨⟨k,rfl,by rw[K.out];simp,by omega,by omega⟩,B.after D B.size⟩
   |false=>
    have Y:=aN F;rw[F]at hcl;clear F;go_wp2_with (go_at_fn c;refine hcl.mono ?_;rintro e w2 ⟨rfl,D⟩);go_roundw
    case rel=>exact⟨k+1,by omega,by go_num,by rw[M.out,H.out,Y.out];rfl,B.after D B.size⟩
    case measure=>simp[intOf];omega
  ·have I:l.any P=false:=by have:=H.out;rw[List.take_of_length_le aK]at this;exact this
   have K:=aN I;clear I;go_wp2;go_ret;exact⟨⟨-1,rfl,by rw[K.out];simp,by omega,by omega⟩,B⟩
theorem E7(l:List Int)(v:Value)(w:World)(N:aR w v l)(c:FuncId)(K:∀args w,(callFunc c args).run prog w=.ok (.enter c args) w)(z D F:Nat)(P:Int->Bool)
  (hw:∀(t:Int) W',t∈l->Below w w W'->Calls prog c #[t,.pointer (some ⟨z,0,none⟩),.pointer (some ⟨D,0,none⟩),.pointer (some ⟨F,0,none⟩)] W' fun e w2=>e=.returned (.bool (P t))/\Below W' W' w2):
  Calls prog 223 #[v,.func (.func c) #[] #[.pointer (some ⟨z,0,none⟩),.pointer (some ⟨D,0,none⟩),.pointer (some ⟨F,0,none⟩)]] w fun e w'=>e=.returned (.bool (l.any P))/\Below w w w':=by
 have hcl:=MT l v w N c K z D F P hw;clear hw K;obtain⟨a,S,rfl⟩:=N.shape;go_enter func223,ntmps223;go_wp2_with (go_at_call 284;refine hcl.mono ?_;rintro e w' ⟨⟨i,rfl,M,O,R⟩,hb⟩;have J:=aN M;clear M);go_ret;refine⟨aZ ?_,hb⟩
 cases I:l.any P with
 |true=>have:=J.out.2 I;simpa using this
 |false=>
  have h:¬0<=i:=fun h=>by rw[J.out.1 h]at I;cases I
  simpa using h
theorem CO:∀args w,(callFunc 285 args).run prog w=.ok (.enter 285 args) w:=enters_of func285 aT rfl
theorem U3(w:World)(N Z g3:Nat)(g:Int)(l:List Int)(v:Value)(a e d:Nat)(hv:aR w v l)(D:l.Pairwise (· < ·))(hl:l.length<=1048576)
  (d0:w.cell? ⟨N,0,none⟩=some (aM g)) (d1:w.cell? ⟨N,1,none⟩=some v) (d2:w.cell? ⟨Z,0,none⟩=some (aM (a:Int))) (d3:w.cell? ⟨g3,0,none⟩=some (aM (e:Int)))
  (ha:a<64) (he:e<6) (hd:d<6):
  Calls prog 285 #[(d:Int),.pointer (some ⟨N,0,none⟩),.pointer (some ⟨Z,0,none⟩),.pointer (some ⟨g3,0,none⟩)] w fun r w'=>r=.returned (.bool (zO l (a:Int) (e:Int) (d:Int)))/\Below w w w':=by
 obtain⟨p,c,rfl⟩:=hv.shape;have I:=cO e 5 aK;have F:=cO d 5 aK;have Y:=I.1;have b3:=I.2;have S:=F.1;have b0:=F.2;simp at Y S;have b4:wrap64 ((2:Int)^e)=2^e:=by unfold wrap64;omega
 have b5:wrap64 ((2:Int)^d)=2^d:=by unfold wrap64;omega
 have O:=lV (a:=(a:Int)) (b:=2^e) aK aK aK aK;have hy:=nT (a:Int) (2^e) 64 aK aK;have K:zO l (a:Int) (e:Int) (d:Int)=fS l (fT (cM (a:Int) (2^e)) (2^d)):=by unfold zO;rw[Int.toNat_natCast,Int.toNat_natCast]
 obtain⟨y,J⟩:=aQ (cM (a:Int) (2^e));rw[<-J]at O hy K;have R:=xQ (a:=y) (b:=2^d) aK aK aK aK;obtain⟨z,hz⟩:=aQ (fT y (2^d));rw[<-hz]at R K;have hcl:=wX g l _ z w hv D hl;have M:=aN hcl;have HX:=aN K;clear hcl D K hz J I F;go_enter func285,ntmps285;go_wp2_with fail;refine M.out.mono ?_;rintro r w1 ⟨rfl,b1⟩;go_wp2;go_ret;exact⟨aZ HX.out.symm,b1⟩
theorem MI(w:World)(g:Int)(v:Value)(l:List Int)(hv:aR w v l)(O:l.Pairwise (· < ·))(hl:l.length<=1048576)(a b:Int)(ha:0<=a/\a<64)(hb:0<=b/\b<64):
  Calls prog 225 #[.agg #[g,v],a,b] w fun r w'=>r=.returned (.bool (nL l a b))/\Below w w w':=by
 obtain⟨p,c,rfl⟩:=hv.shape;have j4:∀(fn:Fn) (first cap:Array Value) (w:World),(Instr.makeFunc fn first cap).run prog w=.ok (.func fn first cap) w:=fun _ _ _ _=>rfl;obtain⟨V,hV⟩:=aQ ((w.alloc (.cells #[g,aI p l.length c] 31)).alloc (.cells #[a] 3));have B:Below w w V:=gD hV;have K1:aU V w 31 #[g,aI p l.length c]:=gO hV;have K2:aU V (w.heap.size+1) 3 #[a]:=gY hV;have f9:=lV ha.1 ha.2 hb.1 hb.2;have g0:=lV hb.1 hb.2 ha.1 ha.2;have a6:=nT a b 64 ha.1 ha.2;have a7:=nT b a 64 hb.1 hb.2;have hx:nL l a b=(gX (cM a b)).all fun e=>(gX (cM b a)).any (zO l a e):=rfl;obtain⟨A,hA⟩:=aQ (cM a b);obtain⟨D,hD⟩:=aQ (cM b a);rw[<-hA]at f9 a6 hx;rw[<-hD]at g0 a7 hx;have Y:=fun W=>rI A W a6.1 a6.2;have R:=fun W=>rI D W a7.1 a7.2;have Z:=xI A;have a1:=xI D;have g4:=vE A;obtain⟨I,b6⟩:=aQ (gX A);obtain⟨J,b7⟩:=aQ (gX D);simp only[<-b6]at Y Z hx g4;simp only[<-b7]at R a1 hx;have F:∀(W:World) (ge e:Nat) (u:Value),e<6->aR W u J->aR W (aI p l.length c) l->aU W w 31 #[g,aI p l.length c]->aU W (w.heap.size+1) 3 #[a]->aU W ge 3 #[(e:Int)] ->
   Calls prog 223 #[u,.func (.func 285) #[] #[.pointer (some ⟨w,0,none⟩),.pointer (some ⟨w.heap.size+1,0,none⟩),.pointer (some ⟨ge,0,none⟩)]] W fun r w'=>r=.returned (.bool (J.any (zO l a (e:Int))))/\Below W W w':=by
  intro W ge e u he h1 h2 k1 k2 k3;refine E7 J u W h1 285 CO _ _ _ (zO l a (e:Int)) ?_;intro t W' ht hB;obtain⟨d,hd,_,rfl⟩:=(a1 t).1 ht;obtain⟨n,rfl⟩:∃n:Nat,a=(n:Int):=⟨a.toNat,by omega⟩;exact U3 W' _ _ _ g l _ n e d (h2.keep hB) O hl ((k1.keep hB).cell 0) ((k1.keep hB).cell 1) ((k2.keep hB).cell 0) ((k3.keep hB).cell 0) aK he hd
 have HV:=aN hV;have e0:=aN Y;have d9:=aN R;have e6:=aN Z;have d8:=aN F;have HX:=aN hx;clear hV Y R Z a1 F hx hA hD b6 b7 O;have z1:=K1.lt;have z2:=K2.lt;have G:=K2.cell;go_enter func225,ntmps225;go_wp2_with fail;rw[HV.out.symm];refine(e0.out V).mono ?_;rintro r w1 ⟨pa,ia,qa,rfl,o1,b1⟩;have g3:ia=I.length:=o1.ints.capLe.1;subst g3;have B1:=B.after b1 B.size;have e8:=K1.keep b1;have f3:=K2.keep b1;obtain⟨_,bb,j9,_,g5,_,c7,hc,g1⟩:=o1.ints.view prog 24 3 underlying24 aS;injection g5 with x1 _ x3;subst x1 x3;have HC:=aN hc;have e5:=aN c7;clear G hc c7 o1;go_wp2_with fail;go_loopw [15] (fun iv wr=>∃j:Nat,j<=I.length/\iv=aM j/\(I.take j).all (fun e=>J.any (zO l a e))=true/\Below w1 w1 wr) (fun iv _=>I.length-(intOf iv).toNat)
 case atStart=>
  trace_state
  exact⟨0,Nat.zero_le _,rfl,by simp,Below.refl _ _⟩
 case round=>
  obtain⟨j,hj,rfl,N,Bw⟩:=hrel;have K:=aN N;clear N;have B2:=B1.after Bw B1.size;have e9:=e8.keep Bw;have f4:=f3.keep Bw;have z3:=Bw.size;by_cases hlt:j<I.length
  ·have c8:(j:Int)<(I.length:Int):=aK;have ck:=aW HC.out g1 Bw aO j hlt;have ik:=fun W=>e5.out W j hlt;obtain⟨e,he,_,S⟩:=(e6.out _).1 (List.getElem_mem hlt);have c9:(I.take (j+1)).all (fun e=>J.any (zO l a e))=J.any (zO l a (e:Int)):=by rw[List.take_succ_eq_append_getElem hlt,List.all_append,K.out,S];simp
   rw[S]at ck;have e7:=aN c9;clear c9;have f0:aU (wr.alloc (.cells #[(e:Int)] 3)) w.heap.size 31 #[g,aI p l.length c]:=e9.alloc _;have b3:aU (wr.alloc (.cells #[(e:Int)] 3)) (w.heap.size+1) 3 #[a]:=f4.alloc _;have f5:aU (wr.alloc (.cells #[(e:Int)] 3)) wr.heap.size 3 #[(e:Int)]:=aU.new _ _ _;have B3:Below w1 w1 (wr.alloc (.cells #[(e:Int)] 3)):=Bw.alloc z3 _;have G:=b3.cell;go_wp2_with fail;refine(d9.out _).mono ?_;rintro r w4 ⟨pd,id,qd,rfl,o4,b4⟩;have c6:id=J.length:=o4.ints.capLe.1;subst c6;have B4:=B3.after b4 B3.size;have B5:=B1.after B4 B1.size;have F:=d8.out w4 wr.heap.size e _ he o4.ints (hv.below B5 aO) (f0.keep b4) (b3.keep b4) (f5.keep b4);obtain⟨z,hz⟩:=aQ (J.any (zO l a (e:Int)));rw[<-hz]at F;have M:=aN F;have HZ:=aN hz;clear F hz G
   cases z with
   |true=>
    go_wp2_with fail;refine M.out.mono ?_;rintro r w5 ⟨rfl,b5⟩;go_wp2;go_roundw
    case rel=>exact⟨j+1,by omega,by go_num,by rw[e7.out,<-HZ.out],B4.after b5 B4.size⟩
    case measure=>simp[intOf];omega
   |false=>
    have b9:nL l a b=false:=by
     rw[HX.out]
     cases hh:(I.all fun e=>J.any (zO l a e)) with
     |false=>rfl
     |true=>
      have:=List.all_eq_true.1 hh _ (List.getElem_mem hlt);rw[S,<-HZ.out]at this
      cases this
    have e4:=aN b9;clear b9;go_wp2_with fail;refine M.out.mono ?_;rintro r w5 ⟨rfl,b5⟩;go_wp2;go_ret;exact⟨aZ e4.out.symm,B5.after b5 B5.size⟩
  ·have c8:¬(j:Int)<(I.length:Int):=aK;have hh:=K.out;rw[List.take_of_length_le aK]at hh;have HH:=aN hh;clear hh;go_wp2;go_ret;exact⟨aZ (by rw[HX.out,HH.out]),B2⟩
end
end Go.Proofs.YtcpoomdoodlkjaaGreatDoor
