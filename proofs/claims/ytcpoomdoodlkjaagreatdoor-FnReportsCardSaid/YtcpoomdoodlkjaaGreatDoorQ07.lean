/- Lemmas for CardReports. No condition. -/
import Derived.Test.YtcpoomdoodlkjaaGreatDoorQ06
set_option maxRecDepth 100000
set_option maxHeartbeats 64000000
namespace Go.Proofs.YtcpoomdoodlkjaaGreatDoor
section
open Go.RowKit Go.G5 Go.Proofs.Tryz
theorem VQ{w:World}{a:Addr}{v:Value}(h:w.cell? a=some v):a.block<w.heap.size:=World.block_lt_of_cell? w a h
theorem V7(l:List Int)(v:Value)(s:Int)(w:World)(R:aO w v l):
  Calls prog 289 #[v,s] w fun e w'=>(∃i:Int,e=.returned i/\(0<=i↔fP l s=true)/\-1<=i/\i<=9223372036854775807)/\w=w':=by
 obtain⟨a,b,S,c,rfl,K,N,hc,hb⟩:=R.view prog 24 3 underlying24 aP;go_enter func289,ntmps289;go_wp2;go_loop [8] (fun i=>∃k:Nat,k<=l.length/\i=ajJ k/\∀j,(I:j<l.length)->j<k->l[j]≠s) (fun i=>l.length-(intOf i).toNat)
 case atStart=>exact⟨0,Nat.zero_le _,rfl,fun j _ h=>by omega⟩
 case round=>
  obtain⟨k,hk,rfl,z⟩:=hrel;have H:=aJ z;clear z;by_cases hlt:k<l.length
  ·have M:=hc k hlt;by_cases D:s=l[k]
   ·have ht:(s==l[k])=true:=by simp[D]
    have F:fP l s=true:=by rw[D];exact SD l k hlt
    have J:=aJ F;clear D F;go_wp2;go_ret;exact⟨⟨k,rfl,by rw[J.out];simp,by omega,by omega⟩,rfl⟩
   ·have ht:(s==l[k])=false:=by simp[D]
    go_wp2;go_round
    case rel=>
     refine⟨k+1,by omega,by go_num,fun j I O=>?_⟩;by_cases h:j<k
     ·exact H.out j I h
     ·have:j=k:=aI;subst this;exact fun h=>D h.symm
    case measure=>simp[intOf];omega
  ·have F:fP l s=false:=yQ fun j I=>H.out j I aI;have J:=aJ F;clear F;go_wp2;go_ret;exact⟨⟨-1,rfl,by rw[J.out];simp,by omega,by omega⟩,rfl⟩
theorem nW(l:List Int)(v:Value)(s:Int)(w:World)(I:aO w v l):
  Calls prog 242 #[v,s] w fun e w'=>e=.returned (.bool (fP l s))/\w=w':=by
 obtain⟨a,c,rfl⟩:=I.shape;go_enter func242,ntmps242;go_wp2_with (go_at_call 289;refine(V7 l _ s _ I).mono ?_;rintro e w' ⟨⟨i,rfl,F,J,K⟩,rfl⟩;have D:=aJ F;clear F);go_ret;refine⟨aW ?_,rfl⟩
 cases z:fP l s with
 |true=>have:=D.out.2 z;simpa using this
 |false=>
  have h:¬0<=i:=fun h=>by rw[D.out.1 h]at z;cases z
  simpa using h
def bO(s e:Nat):Nat:=s ||| 2^e
def dX(l:List Int)(s e:Nat):Int:=l.getD (bO s e) 0-l.getD s 0
theorem fW(s e:Nat)(F:s<4611686018427387904)(z:e<6):bits .or .i64 (s:Int) (2^e)=((bO s e:Nat):Int):=by
 have D:=Nat.pow_lt_pow_right (show 1<2 by decide) z;have:=IN s (2^e) aI (by simp at D;omega);unfold bO;rw[<-this];push_cast;rfl
theorem eM(s e n:Nat)(D:s<2^n)(z:e<n):bO s e<2^n:=Nat.or_lt_two_pow D (Nat.pow_lt_pow_right aV z)
theorem AW(n:Int)(l:List Int)(v:Value)(s e:Nat)(w:World)(hv:aO w v l)(hl:l.length<=64)(M:s<l.length)(he:e<6)(D:bO s e<l.length)(J:∀k,(hk:k<l.length)->-1000<=l[k]/\l[k]<=1000):
  Calls prog 170 #[.agg #[n,v],(s:Int),(e:Int)] w fun e' w'=>e'=.returned (dX l s e)/\Below w w w':=by
 obtain⟨a,b,b6,c,rfl,Y,I,hc,hb⟩:=hv.view prog 24 3 underlying24 aP;have F:=aT hc hb (aY w (.cells #[n,ajH a l.length c] 26)) aK;have h1:=J s M;have h2:=J _ D;have N:dX l s e=l[bO s e]-l[s]:=by unfold dX;rw[List.getD_eq_getElem?_getD,List.getD_eq_getElem?_getD,List.getElem?_eq_getElem M,List.getElem?_eq_getElem D];rfl
 have S:=fW s e aI he;have K:=F _ D;have O:=F s M;have R:=fun w'=>I w' _ D;have b1:=fun w'=>I w' s M;have z:=cK e 6 aI;have b3:(2:Int)^e<=64:=by simpa using z.1
 have b4:=z.2;have b0:(0:Int)<=(e:Int):=Int.natCast_nonneg _;obtain⟨x,hx⟩:=aN (l[bO s e]);obtain⟨y,hy⟩:=aN (l[s]);obtain⟨q,Z⟩:=aN (bO s e);rw[<-hx]at N h2 K;rw[<-hy]at N h1 O;rw[<-Z]at S R K;have hw:IntKind.i64.wrap (x-y)=x-y:=by rw[IntKind.wrap_i64];omega
 have HG:=aJ N;clear N J hc hb F I hx hy Z z D M;go_enter func170,ntmps170;go_wp2;go_quiet (fail);go_wp2;go_ret;exact⟨fF (by rw[HG.out]),(aY _ _).drewN' _⟩
def qT(o:List Int):Nat->Nat
 |0=>0
 |k+1=>bO (qT o k) (o.getD k 0).toNat
def jD(l o:List Int):Nat->List Int
 |0=>List.replicate o.length 0
 |k+1=>(jD l o k).set (o.getD k 0).toNat (dX l (qT o k) (o.getD k 0).toNat)
def rW(l o:List Int):List Int:=jD l o o.length
theorem xJ(l o:List Int)(k:Nat):(jD l o k).length=o.length:=by
 induction k with
 |zero=>simp[jD]
 |succ k ih=>simp[jD,ih]
theorem TO(o:List Int)(n k:Nat)(h:∀x∈o,0<=x/\x<n)(hk:k<=o.length):qT o k<2^n:=by
 induction k with
 |zero=>exact Nat.two_pow_pos n
 |succ k ih=>have hm:=h _ (List.getElem_mem (show k<o.length by omega));rw[qT,List.getD_eq_getElem?_getD,List.getElem?_eq_getElem (show k<o.length by omega),Option.getD_some];exact eM _ _ _ (ih aI) aI
theorem GM(l:List Int)(s e:Nat)(F:s<l.length)(D:bO s e<l.length)(z:∀k,(hk:k<l.length)->-1000<=l[k]/\l[k]<=1000):-2000<=dX l s e/\dX l s e<=2000:=by
 have h1:=z s F;have h2:=z _ D;unfold dX;rw[List.getD_eq_getElem?_getD,List.getD_eq_getElem?_getD,List.getElem?_eq_getElem F,List.getElem?_eq_getElem D,Option.getD_some,Option.getD_some];omega
theorem YD(g:Int)(l o:List Int)(v u:Value)(w:World)(hv:aO w v l)(hu:aO w u o)(hn:o.length<=5)(hl:l.length=2^o.length)(Y:∀k,(hk:k<l.length)->-1000<=l[k]/\l[k]<=1000)(ho:∀x∈o,0<=x/\x<o.length):
  Calls prog 167 #[.agg #[g,v],u] w fun e w'=>∃ad i c,e=.returned (ajH ad i c)/\aM 3 w w' (ajH ad i c) (rW l o)/\Below w w w':=by
 obtain⟨av,cv,rfl⟩:=hv.shape;obtain⟨a,b,f8,c,rfl,e0,f2,hc,hb⟩:=hu.view prog 24 3 underlying24 aP;have d9:l.length<=32:=by rw[hl];exact Nat.pow_le_pow_right aV hn
 have X0:=Box2.new w g (ajH av l.length cv) 26;have HL:=aJ hl;have S:=aJ Y;have HO:=aJ ho;clear hl Y ho;go_enter func167,ntmps167;go_wp2_with (at_make;refine kX rfl _ _ _ rfl 3 underlying24 aP o.length _ _ rfl rfl rfl rfl aI ?_;intro w2 J hg);have X2:=X0.grow hg (by simp);simp at J;clear X0 hg;go_loopw [6,14] (fun s i wr=>∃k:Nat,k<=o.length/\i=ajJ k/\s=ajJ (qT o k)/\aM 3 (w.heap.size+1) wr (ajH (some ⟨w.heap.size+1,0,none⟩) o.length o.length) (jD l o k)/\Box2 w wr g (ajH av l.length cv))
  (fun _ i _=>o.length-(intOf i).toNat)
 case atStart=>exact⟨0,Nat.zero_le _,rfl,rfl,J,X2⟩
 case round=>
  obtain⟨k,hk,rfl,rfl,ow,X⟩:=hrel;clear J X2;have HW:=aJ ow;clear ow;obtain⟨d0,d1,B1,z1⟩:=X;by_cases hlt:k<o.length
  ·have b3:=aT hc hb B1 aK k hlt;have hm:=HO.out _ (List.getElem_mem hlt);obtain⟨e,he⟩:∃e:Nat,o[k]=(e:Int):=⟨o[k].toNat,by omega⟩;rw[he]at b3;have b5:e<o.length:=aI;have N:(o.getD k 0).toNat=e:=by rw[List.getD_eq_getElem?_getD,List.getElem?_eq_getElem hlt,Option.getD_some,he];omega
   have F:=TO o o.length k HO.out hk;rw[<-HL.out]at F;have R:bO (qT o k) e<l.length:=by rw[HL.out]at F ⊢;exact eM _ _ _ F b5
   have O:qT o (k+1)=bO (qT o k) e:=by rw[qT,N]
   have I:jD l o (k+1)=(jD l o k).set e (dX l (qT o k) e):=by rw[jD,N]
   have b7:=GM l (qT o k) e F R S.out;obtain⟨p,hp⟩:=aN (qT o k);rw[<-hp]at F R O I b7 ⊢;have f4:=fW p e aI aI;have K:=cK e 6 aI;have f5:(2:Int)^e<=64:=by simpa using K.1
   have f6:=K.2;have b9:=hv.below B1 aK;have a9:=aJ O;have a8:=aJ I;have D:o.length=(jD l o k).length:=(xJ l o k).symm;have z:∃q,wr.cell? ⟨w.heap.size+1,e,none⟩=some q:=⟨_,HW.out.cellAt D e aI⟩;obtain⟨q,z⟩:=z;have b6:=HW.out.frozenAt D e;have b1:w.heap.size+1<wr.heap.size:=VQ z;have f0:(0:Int)<=(e:Int):=Int.natCast_nonneg _;have d6:(e:Int)<(o.length:Int):=aI;clear hp he N O I hm D K;go_wp2_with (go_at_call 170;refine(AW g l _ p e _ b9 aI F aI R S.out).mono ?_;rintro e' w3 ⟨rfl,M⟩;have a7:=keep M z;have d7:w3.frozen? ⟨w.heap.size+1,e,none⟩=false:=(M.frozen (p:=⟨w.heap.size+1,e,none⟩) b1).trans b6);have Z:=(HW.out.keep M).stored (xJ l o k).symm e (dX l p e) ⟨by omega,by omega⟩;have X3:=((Box2.mk d0 d1 B1 z1).after M).grow Z.2 (by simp);have b0:=aJ Z.1;go_roundw
   case rel=>exact⟨k+1,by omega,by go_num,by rw[a9.out],by rw[a8.out];exact b0.out,X3⟩
   case measure=>simp[intOf];omega
  ·have b8:k=o.length:=aI;subst b8;go_wp2;go_ret;exact⟨_,_,_,rfl,HW.out.mono aI,B1⟩
end
section
open Go.RowKit Go.G5 Go.Proofs.Tryz
end
section
open Go.RowKit Go.G5 Go.Proofs.Tryz
def fS(left:Int)(b s:Int):Int:=if dI (bG b left)<dI (bG s left) then s else b
def fN(l:List Int)(left:Int):Int:=l.foldl (fS left) 0
def dR(l:List Int):Nat->Int->Option (List Int)
 |0,left=>if left=0 then some [] else none
 |n+1,left=>if left=0 then some [] else if bG (fN l left) left=0 then none else (dR l n (cI left (fN l left))).map (fN l left::·)
def gN(g:Int)(l:List Int):Option (List Int):=if bF g l then dR l 64 (2^g.toNat-1) else none
def dJ(g:Int)(l:List Int):List Int:=(gN g l).getD []
def fD(g:Int)(l:List Int):Bool:=(gN g l).isSome
theorem AR(left:Int)(l:List Int):∀z,l.foldl (fS left) z=z∨l.foldl (fS left) z∈l:=by
 induction l with
 |nil=>intro z;exact .inl rfl
 |cons a l ih=>
  intro z;simp only[List.foldl_cons];rcases ih (fS left z a) with h|h
  ·rw[h];unfold fS;split
   ·right;simp
   ·left;rfl
  ·right;simp[h]
theorem adA(left:Int)(l:List Int):∀z,dI (bG z left)<=dI (bG (l.foldl (fS left) z) left)/\∀s∈l,dI (bG s left)<=dI (bG (l.foldl (fS left) z) left):=by
 induction l with
 |nil=>intro z;exact⟨Int.le_refl _,by simp⟩
 |cons a l ih=>
  intro z;simp only[List.foldl_cons];obtain⟨h1,h2⟩:=ih (fS left z a);have h3:dI (bG z left)<=dI (bG (fS left z a) left)/\dI (bG a left)<=dI (bG (fS left z a) left):=by unfold fS;split<;>omega
  refine⟨by omega,fun s D=>?_⟩;rcases List.mem_cons.1 D with rfl|D
  ·omega
  ·exact h2 s D
theorem EE(l:List Int)(left:Int)(h:∀s∈l,0<=s/\s<64):0<=fN l left/\fN l left<64:=by
 rcases AR left l 0 with h1|h1
 ·unfold fN;rw[h1];omega
 ·exact h _ h1
theorem agU:∀n,n<64->0<n->0<bN n:=by decide +kernel
theorem abD{a:Int}(D:0<=a)(h1:a<64)(h:dI a<=0):a=0:=by
 by_cases z:a=0
 ·exact z
 ·have:=agU a.toNat aI aI;unfold dI at h;omega
theorem ac0(c:Nat)(l:List Int)(h:∀s∈l,s.toNat &&& c=0):∀z:Int,z.toNat &&& c=0->(l.foldl fQ z).toNat &&& c=0:=by
 induction l with
 |nil=>intro z D;exact D
 |cons a l ih=>intro z D;simp only[List.foldl_cons];refine ih (fun s I=>h s (by simp[I])) _ ?_;have F:=h a (by simp);unfold fQ;rw[Int.toNat_natCast,Nat.and_or_distrib_right,D,F];rfl
theorem ZX(g:Nat)(l:List Int)(z:Int)(R:0<z)(h1:z<2^g)(O:dB l=2^g-1):∃s∈l,bG s z≠0:=by
 refine Classical.byContradiction fun I=>?_;have D:∀s∈l,s.toNat &&& z.toNat=0:=fun s N=>by refine Classical.byContradiction fun M=>I ⟨s,N,?_⟩;unfold bG;omega
 have K:=ac0 z.toNat l D 0 (by simp);have J:(l.foldl fQ 0)=2^g-1:=O;have F:((2:Int)^g-1).toNat=2^g-1:=by
  have:((2:Int)^g)=((2^g:Nat):Int):=by push_cast;rfl
  rw[this];omega
 rw[J,F,Nat.and_comm,Nat.and_two_pow_sub_one_eq_mod]at K;have hlt:z.toNat<2^g:=by
  have:((2:Int)^g)=((2^g:Nat):Int):=by push_cast;rfl
  omega
 rw[Nat.mod_eq_of_lt hlt]at K;omega
theorem XV(g:Nat)(l:List Int)(z:Int)(hl:∀s∈l,0<=s/\s<64)(K:0<z)(h1:z<2^g)(M:dB l=2^g-1):bG (fN l z) z≠0:=by
 obtain⟨s,J,I⟩:=ZX g l z K h1 M;have hm:=(adA z l 0).2 s J;intro N;have hb:dI (bG (fN l z) z)=0:=by rw[N];decide
 have F:=hl s J;have D:=lR s z 64 F.1 F.2;exact I (abD D.1 D.2 (by unfold fN at hb;omega))
theorem WW{a b:Int}(D:0<=a)(z:bG b a≠0):cI a b<a:=by
 unfold bG at z;unfold cI cS;have hc:a.toNat &&& b.toNat=b.toNat &&& a.toNat:=Nat.and_comm _ _;have:=@Nat.and_le_left a.toNat b.toNat;omega
theorem TA:∀a,a<64->∀b,b<64->cS a b ||| b=a ||| b:=by decide +kernel
theorem OZ(l:List Int)(h:∀s∈l,0<=s):∀(z:Int),(∀s∈l,s.toNat ||| (l.foldl fQ z).toNat=(l.foldl fQ z).toNat)/\z.toNat ||| (l.foldl fQ z).toNat=(l.foldl fQ z).toNat:=by
 induction l with
 |nil=>intro z;exact⟨by simp,by simp⟩
 |cons a l ih=>
  intro z;simp only[List.foldl_cons];obtain⟨h1,h2⟩:=ih (fun s D=>h s (by simp[D])) (fQ z a)
  generalize (l.foldl fQ (fQ z a)).toNat=U at *
  have F:(fQ z a).toNat=z.toNat ||| a.toNat:=by unfold fQ;rw[Int.toNat_natCast]
  rw[F]at h2;refine⟨fun s D=>?_,?_⟩
  ·rcases List.mem_cons.1 D with rfl|D
   ·calc s.toNat ||| U=s.toNat ||| (z.toNat ||| s.toNat ||| U):=by rw[h2]
     _=z.toNat ||| s.toNat ||| U:=by rw[<-Nat.or_assoc,<-Nat.or_assoc,Nat.or_comm s.toNat z.toNat,Nat.or_assoc z.toNat,Nat.or_self]
     _=U:=h2
   ·exact h1 s D
  ·calc z.toNat ||| U=z.toNat ||| (z.toNat ||| a.toNat ||| U):=by rw[h2]
    _=z.toNat ||| a.toNat ||| U:=by rw[<-Nat.or_assoc,<-Nat.or_assoc,Nat.or_self]
    _=U:=h2
theorem abC(l:List Int)(hl:∀s∈l,0<=s/\s<64):∀n (z:Int) L,0<=z->z<64->dR l n z=some L->z.toNat ||| (dB l).toNat=(dB l).toNat:=by
 intro n
 induction n with
 |zero=>
  intro z L K h1 h;simp only[dR]at h
  split at h
  ·rename_i J;subst J;simp
  ·cases h
 |succ n ih=>
  intro z L K h1 h;simp only[dR]at h
  split at h
  ·rename_i J;subst J;simp
  ·split at h
   ·cases h
   ·rename_i I
    cases hr:dR l n (cI z (fN l z)) with
    |none=>rw[hr]at h;cases h
    |some L'=>
     have hb:=EE l z hl;have hd:=nQ z (fN l z) 64 K h1;have M:=ih _ _ hd.1 hd.2 hr;have F:fN l z∈l:=by
      rcases AR z l 0 with h1|h1
      ·exfalso
       apply I
       have:fN l z=0:=h1;rw[this];unfold bG;simp
      ·exact h1
     have D:=(OZ l (fun s R=>(hl s R).1) 0).1 _ F;have O:=TA z.toNat aI (fN l z).toNat aI;have e:(cI z (fN l z)).toNat=cS z.toNat (fN l z).toNat:=by unfold cI;rw[Int.toNat_natCast]
     rw[e]at M;have N:(dB l).toNat=(l.foldl fQ 0).toNat:=rfl;rw[<-N]at D
     generalize (dB l).toNat=U at *
     calc z.toNat ||| U=z.toNat ||| ((fN l z).toNat ||| U):=by rw[D]
      _=(z.toNat ||| (fN l z).toNat) ||| U:=by rw[Nat.or_assoc]
      _=(cS z.toNat (fN l z).toNat ||| (fN l z).toNat) ||| U:=by rw[O]
      _=cS z.toNat (fN l z).toNat ||| ((fN l z).toNat ||| U):=by rw[Nat.or_assoc]
      _=U:=by rw[D,M]
theorem U7{g:Int}{l:List Int}(z:bF g l=true)(K:dB l≠2^g.toNat-1):gN g l=none:=by
 unfold gN;rw[if_pos z];obtain⟨D,F,J,_⟩:=dQ z;have hm:=dV z;have M:=lZ D F;have I:=(cK g.toNat 6 aI).2
 cases hr:dR l 64 (2^g.toNat-1) with
 |none=>rfl
 |some L=>
  exfalso
  apply K
  have h1:=abC l hm 64 _ L aI aI hr;have h2:=tU g.toNat l J 0 aI aI;have h3:=@Nat.left_le_or ((2:Int)^g.toNat-1).toNat (dB l).toNat;have h4:dB l=l.foldl fQ 0:=rfl;rw[h4]at h1 h3 ⊢;omega
theorem CV(w:World)(g:Int)(v:Value)(l:List Int)(hv:aO w v l)(i8:l.length<=1048576):
  Calls prog 128 #[.agg #[g,v]] w fun e w'=>∃ad i cp,e=.returned (.tuple #[ajH ad i cp,.bool (fD g l)])/\aM 3 w w' (ajH ad i cp) (dJ g l)/\Below w w w':=by
 obtain⟨a,b,j1,c,rfl,f8,i7,hc,hb⟩:=hv.view prog 24 3 underlying24 aP;obtain⟨Y,d1,B1,z1⟩:=Box2.new w g (ajH a l.length c) 31;obtain⟨W0,K⟩:=aN (w.alloc (.cells #[g,ajH a l.length c] 31));rw[<-K]at Y d1 B1 z1
 cases hf:bF g l with
 |false=>
  have hx:gN g l=none:=by unfold gN;rw[hf];rfl
  have F:fD g l=false:=by unfold fD;rw[hx];rfl
  have I:dJ g l=[]:=by unfold dJ;rw[hx];rfl
  have HB:=aJ F;have HL:=aJ I;clear hx F I hc;go_enter func128,ntmps128;go_wp2;rw[<-K];clear K;have e0:∀x:Ext W0,x.w.cell? ⟨w.heap.size,0,none⟩=some (ajJ g):=fun x=>x.cell Y;have e1:∀x:Ext W0,x.w.cell? ⟨w.heap.size,1,none⟩=some (ajH a l.length c):=fun x=>x.cell d1;have D:=hv.below B1 aK;refine bJ _ aQ aQ ?_
  repeat(first|go_big_quiet_skip|(go_big_quiet_want;go_big_quiet_op;first|go_big_quiet_on|(apply Exists.intro;refine⟨fun _=>?_,?_⟩;(go_at_call 101;exact vC (dC g l _ _ (Ext.ints _ D)) hf);go_big_quiet_on)))
  refine wpQuiet_nil ?_;rintro w3 ⟨⟨w3,M⟩,rfl⟩
  try dsimp only
  clear e0 e1;have B3:=B1.after M B1.size;go_wp2;go_ret2;exact⟨none,0,0,by rw[HB.out];rfl,by rw[HL.out];exact aM.nil _ _ _,(by repeat(first|exact Below.refl _ _|(with_reducible refine Below.setCell ?_ (by first|omega|(simp;done)|(simp;omega)) _)|(with_reducible refine Below.alloc ?_ (by first|omega|(simp;done)|(simp;omega)) _)|(with_reducible refine Below.drewN' ?_ _)|(with_reducible refine Below.drew ?_)|(with_reducible assumption)|refine Below.trans ?_ (Below.mono (by assumption) (by first|omega|(simp;done)|(simp;omega)))))⟩
 |true=>
  obtain⟨h0,h6,hs,_⟩:=dQ hf;have hm:=dV hf;have hp:=lZ h0 h6;have j0:=(cK g.toNat 6 aI).2;have D:=hv.below B1 aK;have e0:∀x:Ext W0,x.w.cell? ⟨w.heap.size,0,none⟩=some (ajJ g):=fun x=>x.cell Y;have e1:∀x:Ext W0,x.w.cell? ⟨w.heap.size,1,none⟩=some (ajH a l.length c):=fun x=>x.cell d1;have HM:=aJ hm;have HS:=aJ hs;clear hm hs;by_cases hu:dB l=2^g.toNat-1
  ·have f3:(dB l != 2^g.toNat-1)=false:=by simp[hu]
   have HU:=aJ hu;clear hu;go_enter func128,ntmps128;go_wp2;rw[<-K];clear K;refine bJ _ aQ aQ ?_
   repeat(first|go_big_quiet_skip|(go_big_quiet_want;go_big_quiet_op;first|go_big_quiet_on|(apply Exists.intro;refine⟨fun _=>?_,?_⟩;(first|(go_at_call 101;exact vC (dC g l _ _ (Ext.ints _ D)) hf)|(go_at_call 236;exact cO (lP l _ _ (Ext.ints _ D) HM.out))|(go_at_call 215;exact bK (iW g _ l _ (Ext.ints _ D) h0 aI)));go_big_quiet_on)))
   refine wpQuiet_nil ?_;rintro w3 ⟨⟨w3,M⟩,rfl⟩
   try dsimp only
   clear e0 e1;have X3:=(Box2.mk Y d1 B1 z1).after M;obtain⟨c0,c1,B3,z3⟩:=X3;clear Y d1 M z1;go_wp2_with fail;refine(iW g _ l _ (hv.below B3 aK) h0 aI).mono ?_;rintro e w4 ⟨rfl,c7⟩;have X4:=(Box2.mk c0 c1 B3 z3).after c7;clear c7 c0 c1 B3 z3;obtain⟨Y,d1,B4,z4⟩:=X4;go_wp2_with fail;go_loopw [4,5] (fun out lf wr=>∃(ad:Option Addr) (nn cp:Nat) (J:List Int) (z:Int) (n:Nat),out=ajH ad nn cp/\lf=ajJ z/\0<=z/\z<2^g.toNat/\z<=n/\J.length<=64-n/\n<=64 /\
     dR l 64 (2^g.toNat-1)=(dR l n z).map (J++·)/\aM 3 (w.heap.size+1) wr (ajH ad nn cp) J/\Box2 w wr g (ajH a l.length c))
    (fun _ lf _=>(intOf lf).toNat)
   case atStart=>exact⟨none,0,0,[],_,64,rfl,rfl,by omega,by omega,by omega,by simp,by omega,by simp,aM.nil _ _ _,⟨Y,d1,B4,z4⟩⟩
   case round=>
    obtain⟨ad,nn,cp,J,z,n,rfl,rfl,Z,f2,h9,h7,f9,a8,ho,X⟩:=hrel;have HR:=aJ a8;have HO:=aJ ho;clear a8 ho Y d1;obtain⟨Y,d1,B5,z5⟩:=X;by_cases O:z=0
    ·have ht:(z != 0)=false:=by simp[O]
     have S:gN g l=some J:=by
      unfold gN;rw[if_pos hf,HR.out,O]
      cases n<;>simp[dR]
     have F:fD g l=true:=by unfold fD;rw[S];rfl
     have I:dJ g l=J:=by unfold dJ;rw[S];rfl
     have HB:=aJ F;have HL:=aJ I;clear O S F I;go_wp2;go_ret2;exact⟨ad,nn,cp,by rw[HB.out];rfl,by rw[HL.out];exact HO.out.mono (Nat.le_succ _),B5⟩
    ·have ht:(z != 0)=true:=by simp[O]
     have c9:=aT hc hb B5 aK;have c8:=XV g.toNat l z HM.out aI f2 HU.out;have h8:=EE l z HM.out;have b9:=aJ c8;clear c8;go_wp2_with fail;go_loop [6,27] (fun m i=>∃k:Nat,k<=l.length/\i=ajJ k/\m=ajJ ((l.take k).foldl (fS z) 0)) (fun _ i=>l.length-(intOf i).toNat)
     case atStart=>exact⟨0,Nat.zero_le _,rfl,rfl⟩
     case round=>
      obtain⟨k,hk,rfl,rfl⟩:=hrel;have N:0<=(l.take k).foldl (fS z) 0/\(l.take k).foldl (fS z) 0<64:=by
       rcases AR z (l.take k) 0 with h1|h1
       ·rw[h1];omega
       ·exact HM.out _ (List.mem_of_mem_take h1)
      obtain⟨m,b3⟩:=aN ((l.take k).foldl (fS z) 0);rw[<-b3]at N ⊢;have a9:=aJ b3;clear b3;by_cases hlt:k<l.length
      ·have b1:=HM.out _ (List.getElem_mem hlt);have g9:=eB b1.1 (show l[k]<4611686018427387904 by omega) Z aI;have h5:=eB N.1 (show m<4611686018427387904 by omega) Z aI;have i1:=lR l[k] z 64 b1.1 b1.2;have i6:=lR m z 64 N.1 N.2;by_cases f0:dI (bG m z)<dI (bG l[k] z)
       ·go_wp2_with (go_at_call 165;refine(vI _ _ aI aI).mono ?_;rintro e w' ⟨rfl,rfl⟩)
        go_round
        case rel=>exact⟨k+1,by omega,by go_num,by rw[vU _ _ _ _ hlt,<-a9.out,fS,if_pos f0]⟩
        case measure=>simp[intOf];omega
       ·go_wp2_with (go_at_call 165;refine(vI _ _ aI aI).mono ?_;rintro e w' ⟨rfl,rfl⟩)
        go_round
        case rel=>exact⟨k+1,by omega,by go_num,by rw[vU _ _ _ _ hlt,<-a9.out,fS,if_neg aI]⟩
        case measure=>simp[intOf];omega
      ·have a7:m=fN l z:=by rw[a9.out];unfold fN;rw[GL _ _ _ _ aI]
       have c6:=aJ a7;have hN:=lS Z aI N.1 N.2;clear a7 c9;go_wp2_with (at_builtin;refine cW rfl _ _ _ rfl 3 underlying24 aP (w.heap.size+1) _ _ m wr.heap.size rfl rfl (by simp) (HO.out.alloc _) ⟨by omega,by omega⟩ aI aS ?_;intro v' w6 R d5;obtain⟨av,nv,cv,rfl⟩:=R.shape3);have X6:=((Box2.mk Y d1 B5 z5).after (aY _ (.cells #[m] 3))).grow d5 (fun k hk=>by have:=(HO.out.lt k hk).1;omega);have HW:=aJ R;have f7:cI z m<z:=by rw[c6.out];exact WW Z b9.out
       have d6:0<=cI z m:=by unfold cI;omega
       clear R d5;go_wp2;go_roundw
       case rel=>
        obtain⟨n',rfl⟩:∃n',n=n'+1:=⟨n-1,by omega⟩;refine⟨_,_,_,J++[m],cI z m,n',rfl,rfl,d6,by omega,by omega,by simp;omega,by omega,?_,HW.out,X6⟩;rw[HR.out,dR,if_neg O,if_neg b9.out,<-c6.out]
        cases dR l n' (cI z m)<;>simp
       case measure=>simp[intOf];omega
  ·have f3:(dB l != 2^g.toNat-1)=true:=by simp[hu]
   have hx:=U7 hf hu;have F:fD g l=false:=by unfold fD;rw[hx];rfl
   have I:dJ g l=[]:=by unfold dJ;rw[hx];rfl
   have HB:=aJ F;have HL:=aJ I;clear hx F I hu hc;go_enter func128,ntmps128;go_wp2;rw[<-K];clear K;refine bJ _ aQ aQ ?_
   repeat(first|go_big_quiet_skip|(go_big_quiet_want;go_big_quiet_op;first|go_big_quiet_on|(apply Exists.intro;refine⟨fun _=>?_,?_⟩;(first|(go_at_call 101;exact vC (dC g l _ _ (Ext.ints _ D)) hf)|(go_at_call 236;exact cO (lP l _ _ (Ext.ints _ D) HM.out))|(go_at_call 215;exact bK (iW g _ l _ (Ext.ints _ D) h0 aI)));go_big_quiet_on)))
   refine wpQuiet_nil ?_;rintro w3 ⟨⟨w3,M⟩,rfl⟩
   try dsimp only
   clear e0 e1;have B3:=B1.after M B1.size;go_wp2;go_ret2;exact⟨none,0,0,by rw[HB.out];rfl,by rw[HL.out];exact aM.nil _ _ _,B3⟩
theorem GQ{a b:Int}(z:0<=a):a-bG a b=cI a b:=by
 have:=@Nat.and_le_left a.toNat b.toNat;unfold bG cI cS;omega
theorem vX(a b:Int):bG a b=bG b a:=by unfold bG;rw[Nat.and_comm]
theorem NY(w:World)(g:Int)(v:Value)(l:List Int)(hv:aO w v l)(h5:l.length<=1048576):
  Calls prog 133 #[.agg #[g,v]] w fun e w'=>∃ad i cp,e=.returned (.tuple #[ajH ad i cp,.bool (fD g l)])/\aM 3 w w' (ajH ad i cp) (dJ g l)/\Below w w w':=by
 obtain⟨a,b,h9,c,rfl,e8,g9,hc,hb⟩:=hv.view prog 24 3 underlying24 aP;have o0:aM 3 (w.heap.size+1) ((w.alloc (.cells #[g,ajH a l.length c] 31)).alloc (.cells #[] 3)) (ajH (some ⟨w.heap.size+1,0,none⟩) 0 0) []:=by have:=aM.lit0 (E:=3) (B:=w.heap.size+1) (w.alloc (.cells #[g,ajH a l.length c] 31)) (by simp);simpa using this
 have X0:=(Box2.new w g (ajH a l.length c) 31).after (aY _ (.cells #[] 3));go_enter func133,ntmps133;go_wp2_with fail;refine(cP g l _ _ (hv.below X0.B aK)).mono ?_;rintro e w1 ⟨rfl,a9⟩;have X1:=X0.after a9;have o1:=o0.keep a9;clear X0 o0 a9;obtain⟨d0,d1,B1,z1⟩:=X1
 cases hf:bF g l with
 |false=>
  have hx:gN g l=none:=by unfold gN;rw[hf];rfl
  have F:fD g l=false:=by unfold fD;rw[hx];rfl
  have I:dJ g l=[]:=by unfold dJ;rw[hx];rfl
  have HB:=aJ F;have HL:=aJ I;clear hx F I hc;go_wp2;go_ret2;exact⟨_,_,_,by rw[HB.out];rfl,by rw[HL.out];exact o1.mono (Nat.le_succ _),B1⟩
 |true=>
  obtain⟨h0,h6,_,_⟩:=dQ hf;have hm:=dV hf;have hp:=lZ h0 h6;have h7:=(cK g.toNat 6 aI).2;have HM:=aJ hm;clear hm;go_wp2_with (go_at_call 187;refine(A7 g _ h0 aI).mono ?_;rintro e w' ⟨rfl,rfl⟩);go_loopw [4,5] (fun out lf wr=>∃(ad:Option Addr) (nn cp:Nat) (J:List Int) (z:Int) (n:Nat),out=ajH ad nn cp/\lf=ajJ z/\0<=z/\z<2^g.toNat/\z<=n/\J.length<=64-n/\n<=64 /\
    dR l 64 (2^g.toNat-1)=(dR l n z).map (J++·)/\aM 3 (w.heap.size+1) wr (ajH ad nn cp) J/\Box2 w wr g (ajH a l.length c))
   (fun _ lf _=>(intOf lf).toNat)
  case atStart=>exact⟨_,_,_,[],_,64,rfl,rfl,by omega,by omega,by omega,by simp,by omega,by simp,o1,⟨d0,d1,B1,z1⟩⟩
  case round=>
   obtain⟨ad,nn,cp,J,z,n,rfl,rfl,K,g3,g4,g1,e9,a6,ho,X⟩:=hrel;have HR:=aJ a6;have HO:=aJ ho;clear a6 ho d0 d1 o1;obtain⟨d0,d1,B5,z5⟩:=X;by_cases g5:0<z
   ·have b7:=aT hc hb B5 aK;have g2:=EE l z HM.out;go_wp2_with fail;go_loop [6,7] (fun m i=>∃k:Nat,k<=l.length/\i=ajJ k/\m=ajJ ((l.take k).foldl (fS z) 0)) (fun _ i=>l.length-(intOf i).toNat)
    case atStart=>exact⟨0,Nat.zero_le _,rfl,rfl⟩
    case round=>
     obtain⟨k,hk,rfl,rfl⟩:=hrel;have R:0<=(l.take k).foldl (fS z) 0/\(l.take k).foldl (fS z) 0<64:=by
      rcases AR z (l.take k) 0 with h1|h1
      ·rw[h1];omega
      ·exact HM.out _ (List.mem_of_mem_take h1)
     obtain⟨m,b1⟩:=aN ((l.take k).foldl (fS z) 0);rw[<-b1]at R ⊢;have a7:=aJ b1;clear b1;have f9:=eB R.1 (show m<4611686018427387904 by omega) K aI;have g0:=eB K (show z<4611686018427387904 by omega) R.1 aI;have g7:=lR m z 64 R.1 R.2;by_cases hlt:k<l.length
     ·have b0:=HM.out _ (List.getElem_mem hlt);have f8:=eB b0.1 (show l[k]<4611686018427387904 by omega) K aI;have g6:=lR l[k] z 64 b0.1 b0.2;by_cases d8:dI (bG m z)<dI (bG l[k] z)
      ·go_wp2_with (go_at_call 154;refine(tN _ _ aI aI).mono ?_;rintro e w' ⟨rfl,rfl⟩)
       go_round
       case rel=>exact⟨k+1,by omega,by go_num,by rw[vU _ _ _ _ hlt,<-a7.out,fS,if_pos d8]⟩
       case measure=>simp[intOf];omega
      ·go_wp2_with (go_at_call 154;refine(tN _ _ aI aI).mono ?_;rintro e w' ⟨rfl,rfl⟩)
       go_round
       case rel=>exact⟨k+1,by omega,by go_num,by rw[vU _ _ _ _ hlt,<-a7.out,fS,if_neg aI]⟩
       case measure=>simp[intOf];omega
     ·have a1:m=fN l z:=by rw[a7.out];unfold fN;rw[GL _ _ _ _ aI]
      have O:=aJ a1;have g8:=lR z m 64 K aI;clear a1 b7;by_cases M:bG m z=0
      ·have ht:(bG m z==0)=true:=by simp[M]
       have D:gN g l=none:=by
        unfold gN;rw[if_pos hf,HR.out]
        cases n with
        |zero=>omega
        |succ n=>rw[dR,if_neg aI,if_pos (by rw[<-O.out];exact M)];rfl
       have F:fD g l=false:=by unfold fD;rw[D];rfl
       have I:dJ g l=[]:=by unfold dJ;rw[D];rfl
       have HB:=aJ F;have HL:=aJ I;have o9:=aM.lit0 (E:=3) (B:=wr.heap.size) wr aK;clear D F I M;go_wp2;go_ret2;exact⟨_,_,_,by rw[HB.out];rfl,by rw[HL.out];exact o9.mono B5.size,B5.alloc B5.size _⟩
      ·have ht:(bG m z==0)=false:=by simp[M]
       have b6:=aJ M;clear M;go_wp2_with (at_builtin;refine cW rfl _ _ _ rfl 3 underlying24 aP (w.heap.size+1) _ _ m wr.heap.size rfl rfl (by simp) (HO.out.alloc _) ⟨by omega,by omega⟩ aI aS ?_;intro v' w6 S b9;obtain⟨av,nv,cv,rfl⟩:=S.shape3);have X6:=((Box2.mk d0 d1 B5 z5).after (aY _ (.cells #[m] 3))).grow b9 (fun k hk=>by have:=(HO.out.lt k hk).1;omega);have HW:=aJ S;have Z:z-bG z m=cI z m:=GQ K;have N:=aJ Z;have e7:cI z m<z:=by rw[O.out];exact WW K (by rw[<-O.out];exact b6.out)
       have c5:0<=cI z m:=by unfold cI;omega
       clear S b9 Z;go_wp2;go_roundw
       case rel=>
        obtain⟨n',rfl⟩:∃n',n=n'+1:=⟨n-1,by omega⟩;refine⟨_,_,_,J++[m],z-bG z m,n',rfl,rfl,by rw[N.out];exact c5,by rw[N.out];omega,by rw[N.out];omega,by simp;omega,by omega,?_,HW.out,X6⟩;rw[HR.out,dR,if_neg aI,if_neg (by rw[<-O.out];exact b6.out),<-O.out,N.out]
        cases dR l n' (cI z m)<;>simp
       case measure=>have:=N.out;simp only[intOf];omega
   ·have Y:z=0:=aI
    have D:gN g l=some J:=by
     unfold gN;rw[if_pos hf,HR.out,Y]
     cases n<;>simp[dR]
    have F:fD g l=true:=by unfold fD;rw[D];rfl
    have I:dJ g l=J:=by unfold dJ;rw[D];rfl
    have HB:=aJ F;have HL:=aJ I;clear Y D F I;go_wp2;go_ret2;exact⟨ad,nn,cp,by rw[HB.out];rfl,by rw[HL.out];exact HO.out.mono (Nat.le_succ _),B5⟩
theorem agY(l:List Int):∀n z L,dR l n z=some L->L.length<=n:=by
 intro n
 induction n with
 |zero=>
  intro z L h;simp only[dR]at h
  split at h
  ·simp at h;subst h;simp
  ·cases h
 |succ n ih=>
  intro z L h;simp only[dR]at h
  split at h
  ·simp at h;subst h;simp
  ·split at h
   ·cases h
   ·cases hr:dR l n (cI z (fN l z)) with
    |none=>rw[hr]at h;cases h
    |some L'=>rw[hr]at h;simp at h;subst h;have:=ih _ _ hr;simp;omega
end
end Go.Proofs.YtcpoomdoodlkjaaGreatDoor
