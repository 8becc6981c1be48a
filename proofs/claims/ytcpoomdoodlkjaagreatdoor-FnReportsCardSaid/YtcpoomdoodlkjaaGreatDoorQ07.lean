/- Lemmas for CardReports. No condition. -/
import Derived.Test.YtcpoomdoodlkjaaGreatDoorQ06
set_option maxRecDepth 100000
set_option maxHeartbeats 64000000
namespace Go.Proofs.YtcpoomdoodlkjaaGreatDoor
section
open Go.RowKit Go.G5 Go.Proofs.Tryz
theorem VU{w:World}{a:Addr}{v:Value}(h:w.cell? a=some v):a.block<w.heap.size:=World.block_lt_of_cell? w a h
theorem WD(l:List Int)(v:Value)(s:Int)(w:World)(R:aR w v l):
  Calls prog 289 #[v,s] w fun e w'=>(∃i:Int,e=.returned i/\(0<=i↔fS l s=true)/\-1<=i/\i<=9223372036854775807)/\w=w':=by
 obtain⟨a,b,S,c,rfl,K,N,hc,hb⟩:=R.view prog 24 3 underlying24 aS;go_enter func289,ntmps289;go_wp2;go_loop [8] (fun i=>∃k:Nat,k<=l.length/\i=aM k/\∀j,(I:j<l.length)->j<k->l[j]≠s) (fun i=>l.length-(intOf i).toNat)
 case atStart=>exact⟨0,Nat.zero_le _,rfl,fun j _ h=>by omega⟩
 case round=>
  obtain⟨k,hk,rfl,z⟩:=hrel;have H:=aN z;clear z;by_cases hlt:k<l.length
  ·have M:=hc k hlt;by_cases D:s=l[k]
   ·have ht:(s==l[k])=true:=by simp[D]
    have F:fS l s=true:=by rw[D];exact SH l k hlt
    have J:=aN F;clear D F;go_wp2;go_ret;exact⟨⟨k,rfl,by rw[J.out];simp,by omega,by omega⟩,rfl⟩
   ·have ht:(s==l[k])=false:=by simp[D]
    go_wp2;go_round
    case rel=>
     refine⟨k+1,by omega,by go_num,fun j I O=>?_⟩;by_cases h:j<k
     ·exact H.out j I h
     ·have:j=k:=aK;subst this;exact fun h=>D h.symm
    case measure=>simp[intOf];omega
  ·have F:fS l s=false:=yT fun j I=>H.out j I aK;have J:=aN F;clear F;go_wp2;go_ret;exact⟨⟨-1,rfl,by rw[J.out];simp,by omega,by omega⟩,rfl⟩
theorem nZ(l:List Int)(v:Value)(s:Int)(w:World)(I:aR w v l):
  Calls prog 242 #[v,s] w fun e w'=>e=.returned (.bool (fS l s))/\w=w':=by
 obtain⟨a,c,rfl⟩:=I.shape;go_enter func242,ntmps242;go_wp2_with (go_at_call 289;refine(WD l _ s _ I).mono ?_;rintro e w' ⟨⟨i,rfl,F,J,K⟩,rfl⟩;have D:=aN F;clear F);go_ret;refine⟨aZ ?_,rfl⟩
 cases z:fS l s with
 |true=>have:=D.out.2 z;simpa using this
 |false=>
  have h:¬0<=i:=fun h=>by rw[D.out.1 h]at z;cases z
  simpa using h
def bU(s e:Nat):Nat:=s ||| 2^e
def eA(l:List Int)(s e:Nat):Int:=l.getD (bU s e) 0-l.getD s 0
theorem fZ(s e:Nat)(F:s<4611686018427387904)(z:e<6):bits .or .i64 (s:Int) (2^e)=((bU s e:Nat):Int):=by
 have D:=Nat.pow_lt_pow_right (show 1<2 by decide) z;have:=IR s (2^e) aK (by simp at D;omega);unfold bU;rw[<-this];push_cast;rfl
theorem eQ(s e n:Nat)(D:s<2^n)(z:e<n):bU s e<2^n:=Nat.or_lt_two_pow D (Nat.pow_lt_pow_right aY z)
theorem AZ(n:Int)(l:List Int)(v:Value)(s e:Nat)(w:World)(hv:aR w v l)(hl:l.length<=64)(M:s<l.length)(he:e<6)(D:bU s e<l.length)(J:∀k,(hk:k<l.length)->-1000<=l[k]/\l[k]<=1000):
  Calls prog 170 #[.agg #[n,v],(s:Int),(e:Int)] w fun e' w'=>e'=.returned (eA l s e)/\Below w w w':=by
 obtain⟨a,b,b6,c,rfl,Y,I,hc,hb⟩:=hv.view prog 24 3 underlying24 aS;have F:=aW hc hb (bF w (.cells #[n,aI a l.length c] 26)) aO;have h1:=J s M;have h2:=J _ D;have N:eA l s e=l[bU s e]-l[s]:=by unfold eA;rw[List.getD_eq_getElem?_getD,List.getD_eq_getElem?_getD,List.getElem?_eq_getElem M,List.getElem?_eq_getElem D];rfl
 have S:=fZ s e aK he;have K:=F _ D;have O:=F s M;have R:=fun w'=>I w' _ D;have b1:=fun w'=>I w' s M;have z:=cO e 6 aK;have b3:(2:Int)^e<=64:=by simpa using z.1
 have b4:=z.2;have b0:(0:Int)<=(e:Int):=Int.natCast_nonneg _;obtain⟨x,hx⟩:=aQ (l[bU s e]);obtain⟨y,hy⟩:=aQ (l[s]);obtain⟨q,Z⟩:=aQ (bU s e);rw[<-hx]at N h2 K;rw[<-hy]at N h1 O;rw[<-Z]at S R K;have hw:IntKind.i64.wrap (x-y)=x-y:=by rw[IntKind.wrap_i64];omega
 have HG:=aN N;clear N J hc hb F I hx hy Z z D M;go_enter func170,ntmps170;go_wp2;go_quiet (fail);go_wp2;go_ret;exact⟨fI (by rw[HG.out]),(bF _ _).drewN' _⟩
def qW(o:List Int):Nat->Nat
 |0=>0
 |k+1=>bU (qW o k) (o.getD k 0).toNat
def jG(l o:List Int):Nat->List Int
 |0=>List.replicate o.length 0
 |k+1=>(jG l o k).set (o.getD k 0).toNat (eA l (qW o k) (o.getD k 0).toNat)
def rZ(l o:List Int):List Int:=jG l o o.length
theorem xM(l o:List Int)(k:Nat):(jG l o k).length=o.length:=by
 induction k with
 |zero=>simp[jG]
 |succ k ih=>simp[jG,ih]
theorem TS(o:List Int)(n k:Nat)(h:∀x∈o,0<=x/\x<n)(hk:k<=o.length):qW o k<2^n:=by
 induction k with
 |zero=>exact Nat.two_pow_pos n
 |succ k ih=>have hm:=h _ (List.getElem_mem (show k<o.length by omega));rw[qW,List.getD_eq_getElem?_getD,List.getElem?_eq_getElem (show k<o.length by omega),Option.getD_some];exact eQ _ _ _ (ih aK) aK
theorem GP(l:List Int)(s e:Nat)(F:s<l.length)(D:bU s e<l.length)(z:∀k,(hk:k<l.length)->-1000<=l[k]/\l[k]<=1000):-2000<=eA l s e/\eA l s e<=2000:=by
 have h1:=z s F;have h2:=z _ D;unfold eA;rw[List.getD_eq_getElem?_getD,List.getD_eq_getElem?_getD,List.getElem?_eq_getElem F,List.getElem?_eq_getElem D,Option.getD_some,Option.getD_some];omega
theorem YH(g:Int)(l o:List Int)(v u:Value)(w:World)(hv:aR w v l)(hu:aR w u o)(hn:o.length<=5)(hl:l.length=2^o.length)(Y:∀k,(hk:k<l.length)->-1000<=l[k]/\l[k]<=1000)(ho:∀x∈o,0<=x/\x<o.length):
  Calls prog 167 #[.agg #[g,v],u] w fun e w'=>∃ad i c,e=.returned (aI ad i c)/\aP 3 w w' (aI ad i c) (rZ l o)/\Below w w w':=by
 obtain⟨av,cv,rfl⟩:=hv.shape;obtain⟨a,b,f8,c,rfl,e0,f2,hc,hb⟩:=hu.view prog 24 3 underlying24 aS;have d9:l.length<=32:=by rw[hl];exact Nat.pow_le_pow_right aY hn
 have X0:=Box2.new w g (aI av l.length cv) 26;have HL:=aN hl;have S:=aN Y;have HO:=aN ho;clear hl Y ho;go_enter func167,ntmps167;go_wp2_with (at_make;refine lA rfl _ _ _ rfl 3 underlying24 aS o.length _ _ rfl rfl rfl rfl aK ?_;intro w2 J hg);have X2:=X0.grow hg (by simp);simp at J;clear X0 hg;go_loopw [6,14] (fun s i wr=>∃k:Nat,k<=o.length/\i=aM k/\s=aM (qW o k)/\aP 3 (w.heap.size+1) wr (aI (some ⟨w.heap.size+1,0,none⟩) o.length o.length) (jG l o k)/\Box2 w wr g (aI av l.length cv))
  (fun _ i _=>o.length-(intOf i).toNat)
 case atStart=>exact⟨0,Nat.zero_le _,rfl,rfl,J,X2⟩
 case round=>
  obtain⟨k,hk,rfl,rfl,ow,X⟩:=hrel;clear J X2;have HW:=aN ow;clear ow;obtain⟨d0,d1,B1,z1⟩:=X;by_cases hlt:k<o.length
  ·have b3:=aW hc hb B1 aO k hlt;have hm:=HO.out _ (List.getElem_mem hlt);obtain⟨e,he⟩:∃e:Nat,o[k]=(e:Int):=⟨o[k].toNat,by omega⟩;rw[he]at b3;have b5:e<o.length:=aK;have N:(o.getD k 0).toNat=e:=by rw[List.getD_eq_getElem?_getD,List.getElem?_eq_getElem hlt,Option.getD_some,he];omega
   have F:=TS o o.length k HO.out hk;rw[<-HL.out]at F;have R:bU (qW o k) e<l.length:=by rw[HL.out]at F ⊢;exact eQ _ _ _ F b5
   have O:qW o (k+1)=bU (qW o k) e:=by rw[qW,N]
   have I:jG l o (k+1)=(jG l o k).set e (eA l (qW o k) e):=by rw[jG,N]
   have b7:=GP l (qW o k) e F R S.out;obtain⟨p,hp⟩:=aQ (qW o k);rw[<-hp]at F R O I b7 ⊢;have f4:=fZ p e aK aK;have K:=cO e 6 aK;have f5:(2:Int)^e<=64:=by simpa using K.1
   have f6:=K.2;have b9:=hv.below B1 aO;have a9:=aN O;have a8:=aN I;have D:o.length=(jG l o k).length:=(xM l o k).symm;have z:∃q,wr.cell? ⟨w.heap.size+1,e,none⟩=some q:=⟨_,HW.out.cellAt D e aK⟩;obtain⟨q,z⟩:=z;have b6:=HW.out.frozenAt D e;have b1:w.heap.size+1<wr.heap.size:=VU z;have f0:(0:Int)<=(e:Int):=Int.natCast_nonneg _;have d6:(e:Int)<(o.length:Int):=aK;clear hp he N O I hm D K;go_wp2_with (go_at_call 170;refine(AZ g l _ p e _ b9 aK F aK R S.out).mono ?_;rintro e' w3 ⟨rfl,M⟩;have a7:=keep M z;have d7:w3.frozen? ⟨w.heap.size+1,e,none⟩=false:=(M.frozen (p:=⟨w.heap.size+1,e,none⟩) b1).trans b6);have Z:=(HW.out.keep M).stored (xM l o k).symm e (eA l p e) ⟨by omega,by omega⟩;have X3:=((Box2.mk d0 d1 B1 z1).after M).grow Z.2 (by simp);have b0:=aN Z.1;go_roundw
   case rel=>exact⟨k+1,by omega,by go_num,by rw[a9.out],by rw[a8.out];exact b0.out,X3⟩
   case measure=>simp[intOf];omega
  ·have b8:k=o.length:=aK;subst b8;go_wp2;go_ret;exact⟨_,_,_,rfl,HW.out.mono aK,B1⟩
end
section
open Go.RowKit Go.G5 Go.Proofs.Tryz
end
section
open Go.RowKit Go.G5 Go.Proofs.Tryz
def fV(left:Int)(b s:Int):Int:=if dL (bK b left)<dL (bK s left) then s else b
def fQ(l:List Int)(left:Int):Int:=l.foldl (fV left) 0
def dU(l:List Int):Nat->Int->Option (List Int)
 |0,left=>if left=0 then some [] else none
 |n+1,left=>if left=0 then some [] else if bK (fQ l left) left=0 then none else (dU l n (cM left (fQ l left))).map (fQ l left::·)
def gQ(g:Int)(l:List Int):Option (List Int):=if bJ g l then dU l 64 (2^g.toNat-1) else none
def dM(g:Int)(l:List Int):List Int:=(gQ g l).getD []
def fG(g:Int)(l:List Int):Bool:=(gQ g l).isSome
theorem AU(left:Int)(l:List Int):∀z,l.foldl (fV left) z=z∨l.foldl (fV left) z∈l:=by
 induction l with
 |nil=>intro z;exact .inl rfl
 |cons a l ih=>
  intro z;simp only[List.foldl_cons];rcases ih (fV left z a) with h|h
  ·rw[h];unfold fV;split
   ·right;simp
   ·left;rfl
  ·right;simp[h]
theorem adE(left:Int)(l:List Int):∀z,dL (bK z left)<=dL (bK (l.foldl (fV left) z) left)/\∀s∈l,dL (bK s left)<=dL (bK (l.foldl (fV left) z) left):=by
 induction l with
 |nil=>intro z;exact⟨Int.le_refl _,by simp⟩
 |cons a l ih=>
  intro z;simp only[List.foldl_cons];obtain⟨h1,h2⟩:=ih (fV left z a);have h3:dL (bK z left)<=dL (bK (fV left z a) left)/\dL (bK a left)<=dL (bK (fV left z a) left):=by unfold fV;split<;>omega
  refine⟨by omega,fun s D=>?_⟩;rcases List.mem_cons.1 D with rfl|D
  ·omega
  ·exact h2 s D
theorem EH(l:List Int)(left:Int)(h:∀s∈l,0<=s/\s<64):0<=fQ l left/\fQ l left<64:=by
 rcases AU left l 0 with h1|h1
 ·unfold fQ;rw[h1];omega
 ·exact h _ h1
theorem agY:∀n,n<64->0<n->0<bR n:=by decide +kernel
theorem abH{a:Int}(D:0<=a)(h1:a<64)(h:dL a<=0):a=0:=by
 by_cases z:a=0
 ·exact z
 ·have:=agY a.toNat aK aK;unfold dL at h;omega
theorem ac4(c:Nat)(l:List Int)(h:∀s∈l,s.toNat &&& c=0):∀z:Int,z.toNat &&& c=0->(l.foldl fT z).toNat &&& c=0:=by
 induction l with
 |nil=>intro z D;exact D
 |cons a l ih=>intro z D;simp only[List.foldl_cons];refine ih (fun s I=>h s (by simp[I])) _ ?_;have F:=h a (by simp);unfold fT;rw[Int.toNat_natCast,Nat.and_or_distrib_right,D,F];rfl
theorem Z1(g:Nat)(l:List Int)(z:Int)(R:0<z)(h1:z<2^g)(O:dE l=2^g-1):∃s∈l,bK s z≠0:=by
 refine Classical.byContradiction fun I=>?_;have D:∀s∈l,s.toNat &&& z.toNat=0:=fun s N=>by refine Classical.byContradiction fun M=>I ⟨s,N,?_⟩;unfold bK;omega
 have K:=ac4 z.toNat l D 0 (by simp);have J:(l.foldl fT 0)=2^g-1:=O;have F:((2:Int)^g-1).toNat=2^g-1:=by
  have:((2:Int)^g)=((2^g:Nat):Int):=by push_cast;rfl
  rw[this];omega
 rw[J,F,Nat.and_comm,Nat.and_two_pow_sub_one_eq_mod]at K;have hlt:z.toNat<2^g:=by
  have:((2:Int)^g)=((2^g:Nat):Int):=by push_cast;rfl
  omega
 rw[Nat.mod_eq_of_lt hlt]at K;omega
theorem XZ(g:Nat)(l:List Int)(z:Int)(hl:∀s∈l,0<=s/\s<64)(K:0<z)(h1:z<2^g)(M:dE l=2^g-1):bK (fQ l z) z≠0:=by
 obtain⟨s,J,I⟩:=Z1 g l z K h1 M;have hm:=(adE z l 0).2 s J;intro N;have hb:dL (bK (fQ l z) z)=0:=by rw[N];decide
 have F:=hl s J;have D:=lU s z 64 F.1 F.2;exact I (abH D.1 D.2 (by unfold fQ at hb;omega))
theorem W8{a b:Int}(D:0<=a)(z:bK b a≠0):cM a b<a:=by
 unfold bK at z;unfold cM cV;have hc:a.toNat &&& b.toNat=b.toNat &&& a.toNat:=Nat.and_comm _ _;have:=@Nat.and_le_left a.toNat b.toNat;omega
theorem TE:∀a,a<64->∀b,b<64->cV a b ||| b=a ||| b:=by decide +kernel
theorem O4(l:List Int)(h:∀s∈l,0<=s):∀(z:Int),(∀s∈l,s.toNat ||| (l.foldl fT z).toNat=(l.foldl fT z).toNat)/\z.toNat ||| (l.foldl fT z).toNat=(l.foldl fT z).toNat:=by
 induction l with
 |nil=>intro z;exact⟨by simp,by simp⟩
 |cons a l ih=>
  intro z;simp only[List.foldl_cons];obtain⟨h1,h2⟩:=ih (fun s D=>h s (by simp[D])) (fT z a)
  generalize (l.foldl fT (fT z a)).toNat=U at *
  have F:(fT z a).toNat=z.toNat ||| a.toNat:=by unfold fT;rw[Int.toNat_natCast]
  rw[F]at h2;refine⟨fun s D=>?_,?_⟩
  ·rcases List.mem_cons.1 D with rfl|D
   ·calc s.toNat ||| U=s.toNat ||| (z.toNat ||| s.toNat ||| U):=by rw[h2]
     _=z.toNat ||| s.toNat ||| U:=by rw[<-Nat.or_assoc,<-Nat.or_assoc,Nat.or_comm s.toNat z.toNat,Nat.or_assoc z.toNat,Nat.or_self]
     _=U:=h2
   ·exact h1 s D
  ·calc z.toNat ||| U=z.toNat ||| (z.toNat ||| a.toNat ||| U):=by rw[h2]
    _=z.toNat ||| a.toNat ||| U:=by rw[<-Nat.or_assoc,<-Nat.or_assoc,Nat.or_self]
    _=U:=h2
theorem abG(l:List Int)(hl:∀s∈l,0<=s/\s<64):∀n (z:Int) L,0<=z->z<64->dU l n z=some L->z.toNat ||| (dE l).toNat=(dE l).toNat:=by
 intro n
 induction n with
 |zero=>
  intro z L K h1 h;simp only[dU]at h
  split at h
  ·rename_i J;subst J;simp
  ·cases h
 |succ n ih=>
  intro z L K h1 h;simp only[dU]at h
  split at h
  ·rename_i J;subst J;simp
  ·split at h
   ·cases h
   ·rename_i I
    cases hr:dU l n (cM z (fQ l z)) with
    |none=>rw[hr]at h;cases h
    |some L'=>
     have hb:=EH l z hl;have hd:=nT z (fQ l z) 64 K h1;have M:=ih _ _ hd.1 hd.2 hr;have F:fQ l z∈l:=by
      rcases AU z l 0 with h1|h1
      ·exfalso
       apply I
       have:fQ l z=0:=h1;rw[this];unfold bK;simp
      ·exact h1
     have D:=(O4 l (fun s R=>(hl s R).1) 0).1 _ F;have O:=TE z.toNat aK (fQ l z).toNat aK;have e:(cM z (fQ l z)).toNat=cV z.toNat (fQ l z).toNat:=by unfold cM;rw[Int.toNat_natCast]
     rw[e]at M;have N:(dE l).toNat=(l.foldl fT 0).toNat:=rfl;rw[<-N]at D
     generalize (dE l).toNat=U at *
     calc z.toNat ||| U=z.toNat ||| ((fQ l z).toNat ||| U):=by rw[D]
      _=(z.toNat ||| (fQ l z).toNat) ||| U:=by rw[Nat.or_assoc]
      _=(cV z.toNat (fQ l z).toNat ||| (fQ l z).toNat) ||| U:=by rw[O]
      _=cV z.toNat (fQ l z).toNat ||| ((fQ l z).toNat ||| U):=by rw[Nat.or_assoc]
      _=U:=by rw[D,M]
theorem VB{g:Int}{l:List Int}(z:bJ g l=true)(K:dE l≠2^g.toNat-1):gQ g l=none:=by
 unfold gQ;rw[if_pos z];obtain⟨D,F,J,_⟩:=dT z;have hm:=dY z;have M:=mC D F;have I:=(cO g.toNat 6 aK).2
 cases hr:dU l 64 (2^g.toNat-1) with
 |none=>rfl
 |some L=>
  exfalso
  apply K
  have h1:=abG l hm 64 _ L aK aK hr;have h2:=tX g.toNat l J 0 aK aK;have h3:=@Nat.left_le_or ((2:Int)^g.toNat-1).toNat (dE l).toNat;have h4:dE l=l.foldl fT 0:=rfl;rw[h4]at h1 h3 ⊢;omega
theorem CY(w:World)(g:Int)(v:Value)(l:List Int)(hv:aR w v l)(i8:l.length<=1048576):
  Calls prog 128 #[.agg #[g,v]] w fun e w'=>∃ad i cp,e=.returned (.tuple #[aI ad i cp,.bool (fG g l)])/\aP 3 w w' (aI ad i cp) (dM g l)/\Below w w w':=by
 obtain⟨a,b,j1,c,rfl,f8,i7,hc,hb⟩:=hv.view prog 24 3 underlying24 aS;obtain⟨Y,d1,B1,z1⟩:=Box2.new w g (aI a l.length c) 31;obtain⟨W0,K⟩:=aQ (w.alloc (.cells #[g,aI a l.length c] 31));rw[<-K]at Y d1 B1 z1
 cases hf:bJ g l with
 |false=>
  have hx:gQ g l=none:=by unfold gQ;rw[hf];rfl
  have F:fG g l=false:=by unfold fG;rw[hx];rfl
  have I:dM g l=[]:=by unfold dM;rw[hx];rfl
  have HB:=aN F;have HL:=aN I;clear hx F I hc;go_enter func128,ntmps128;go_wp2;rw[<-K];clear K;have e0:∀x:Ext W0,x.w.cell? ⟨w.heap.size,0,none⟩=some (aM g):=fun x=>x.cell Y;have e1:∀x:Ext W0,x.w.cell? ⟨w.heap.size,1,none⟩=some (aI a l.length c):=fun x=>x.cell d1;have D:=hv.below B1 aO;refine bN _ aT aT ?_
  repeat(first|go_big_quiet_skip|(go_big_quiet_want;go_big_quiet_op;first|go_big_quiet_on|(apply Exists.intro;refine⟨fun _=>?_,?_⟩;(go_at_call 101;exact vG (dF g l _ _ (Ext.ints _ D)) hf);go_big_quiet_on)))
  refine wpQuiet_nil ?_;rintro w3 ⟨⟨w3,M⟩,rfl⟩
  try dsimp only
  clear e0 e1;have B3:=B1.after M B1.size;go_wp2;go_ret2;exact⟨none,0,0,by rw[HB.out];rfl,by rw[HL.out];exact aP.nil _ _ _,(by repeat(first|exact Below.refl _ _|(with_reducible refine Below.setCell ?_ (by first|omega|(simp;done)|(simp;omega)) _)|(with_reducible refine Below.alloc ?_ (by first|omega|(simp;done)|(simp;omega)) _)|(with_reducible refine Below.drewN' ?_ _)|(with_reducible refine Below.drew ?_)|(with_reducible assumption)|refine Below.trans ?_ (Below.mono (by assumption) (by first|omega|(simp;done)|(simp;omega)))))⟩
 |true=>
  obtain⟨h0,h6,hs,_⟩:=dT hf;have hm:=dY hf;have hp:=mC h0 h6;have j0:=(cO g.toNat 6 aK).2;have D:=hv.below B1 aO;have e0:∀x:Ext W0,x.w.cell? ⟨w.heap.size,0,none⟩=some (aM g):=fun x=>x.cell Y;have e1:∀x:Ext W0,x.w.cell? ⟨w.heap.size,1,none⟩=some (aI a l.length c):=fun x=>x.cell d1;have HM:=aN hm;have HS:=aN hs;clear hm hs;by_cases hu:dE l=2^g.toNat-1
  ·have f3:(dE l != 2^g.toNat-1)=false:=by simp[hu]
   have HU:=aN hu;clear hu;go_enter func128,ntmps128;go_wp2;rw[<-K];clear K;refine bN _ aT aT ?_
   repeat(first|go_big_quiet_skip|(go_big_quiet_want;go_big_quiet_op;first|go_big_quiet_on|(apply Exists.intro;refine⟨fun _=>?_,?_⟩;(first|(go_at_call 101;exact vG (dF g l _ _ (Ext.ints _ D)) hf)|(go_at_call 236;exact cR (lS l _ _ (Ext.ints _ D) HM.out))|(go_at_call 215;exact bO (jA g _ l _ (Ext.ints _ D) h0 aK)));go_big_quiet_on)))
   refine wpQuiet_nil ?_;rintro w3 ⟨⟨w3,M⟩,rfl⟩
   try dsimp only
   clear e0 e1;have X3:=(Box2.mk Y d1 B1 z1).after M;obtain⟨c0,c1,B3,z3⟩:=X3;clear Y d1 M z1;go_wp2_with fail;refine(jA g _ l _ (hv.below B3 aO) h0 aK).mono ?_;rintro e w4 ⟨rfl,c7⟩;have X4:=(Box2.mk c0 c1 B3 z3).after c7;clear c7 c0 c1 B3 z3;obtain⟨Y,d1,B4,z4⟩:=X4;go_wp2_with fail;go_loopw [4,5] (fun out lf wr=>∃(ad:Option Addr) (nn cp:Nat) (J:List Int) (z:Int) (n:Nat),out=aI ad nn cp/\lf=aM z/\0<=z/\z<2^g.toNat/\z<=n/\J.length<=64-n/\n<=64 /\
     dU l 64 (2^g.toNat-1)=(dU l n z).map (J++·)/\aP 3 (w.heap.size+1) wr (aI ad nn cp) J/\Box2 w wr g (aI a l.length c))
    (fun _ lf _=>(intOf lf).toNat)
   case atStart=>exact⟨none,0,0,[],_,64,rfl,rfl,by omega,by omega,by omega,by simp,by omega,by simp,aP.nil _ _ _,⟨Y,d1,B4,z4⟩⟩
   case round=>
    obtain⟨ad,nn,cp,J,z,n,rfl,rfl,Z,f2,h9,h7,f9,a8,ho,X⟩:=hrel;have HR:=aN a8;have HO:=aN ho;clear a8 ho Y d1;obtain⟨Y,d1,B5,z5⟩:=X;by_cases O:z=0
    ·have ht:(z != 0)=false:=by simp[O]
     have S:gQ g l=some J:=by
      unfold gQ;rw[if_pos hf,HR.out,O]
      cases n<;>simp[dU]
     have F:fG g l=true:=by unfold fG;rw[S];rfl
     have I:dM g l=J:=by unfold dM;rw[S];rfl
     have HB:=aN F;have HL:=aN I;clear O S F I;go_wp2;go_ret2;exact⟨ad,nn,cp,by rw[HB.out];rfl,by rw[HL.out];exact HO.out.mono (Nat.le_succ _),B5⟩
    ·have ht:(z != 0)=true:=by simp[O]
     have c9:=aW hc hb B5 aO;have c8:=XZ g.toNat l z HM.out aK f2 HU.out;have h8:=EH l z HM.out;have b9:=aN c8;clear c8;go_wp2_with fail;go_loop [6,27] (fun m i=>∃k:Nat,k<=l.length/\i=aM k/\m=aM ((l.take k).foldl (fV z) 0)) (fun _ i=>l.length-(intOf i).toNat)
     case atStart=>exact⟨0,Nat.zero_le _,rfl,rfl⟩
     case round=>
      obtain⟨k,hk,rfl,rfl⟩:=hrel;have N:0<=(l.take k).foldl (fV z) 0/\(l.take k).foldl (fV z) 0<64:=by
       rcases AU z (l.take k) 0 with h1|h1
       ·rw[h1];omega
       ·exact HM.out _ (List.mem_of_mem_take h1)
      obtain⟨m,b3⟩:=aQ ((l.take k).foldl (fV z) 0);rw[<-b3]at N ⊢;have a9:=aN b3;clear b3;by_cases hlt:k<l.length
      ·have b1:=HM.out _ (List.getElem_mem hlt);have g9:=eG b1.1 (show l[k]<4611686018427387904 by omega) Z aK;have h5:=eG N.1 (show m<4611686018427387904 by omega) Z aK;have i1:=lU l[k] z 64 b1.1 b1.2;have i6:=lU m z 64 N.1 N.2;by_cases f0:dL (bK m z)<dL (bK l[k] z)
       ·go_wp2_with (go_at_call 165;refine(vL _ _ aK aK).mono ?_;rintro e w' ⟨rfl,rfl⟩)
        go_round
        case rel=>exact⟨k+1,by omega,by go_num,by rw[vX _ _ _ _ hlt,<-a9.out,fV,if_pos f0]⟩
        case measure=>simp[intOf];omega
       ·go_wp2_with (go_at_call 165;refine(vL _ _ aK aK).mono ?_;rintro e w' ⟨rfl,rfl⟩)
        go_round
        case rel=>exact⟨k+1,by omega,by go_num,by rw[vX _ _ _ _ hlt,<-a9.out,fV,if_neg aK]⟩
        case measure=>simp[intOf];omega
      ·have a7:m=fQ l z:=by rw[a9.out];unfold fQ;rw[GO _ _ _ _ aK]
       have c6:=aN a7;have hN:=lV Z aK N.1 N.2;clear a7 c9;go_wp2_with (at_builtin;refine cZ rfl _ _ _ rfl 3 underlying24 aS (w.heap.size+1) _ _ m wr.heap.size rfl rfl (by simp) (HO.out.alloc _) ⟨by omega,by omega⟩ aK aV ?_;intro v' w6 R d5;obtain⟨av,nv,cv,rfl⟩:=R.shape3);have X6:=((Box2.mk Y d1 B5 z5).after (bF _ (.cells #[m] 3))).grow d5 (fun k hk=>by have:=(HO.out.lt k hk).1;omega);have HW:=aN R;have f7:cM z m<z:=by rw[c6.out];exact W8 Z b9.out
       have d6:0<=cM z m:=by unfold cM;omega
       clear R d5;go_wp2;go_roundw
       case rel=>
        obtain⟨n',rfl⟩:∃n',n=n'+1:=⟨n-1,by omega⟩;refine⟨_,_,_,J++[m],cM z m,n',rfl,rfl,d6,by omega,by omega,by simp;omega,by omega,?_,HW.out,X6⟩;rw[HR.out,dU,if_neg O,if_neg b9.out,<-c6.out]
        cases dU l n' (cM z m)<;>simp
       case measure=>simp[intOf];omega
  ·have f3:(dE l != 2^g.toNat-1)=true:=by simp[hu]
   have hx:=VB hf hu;have F:fG g l=false:=by unfold fG;rw[hx];rfl
   have I:dM g l=[]:=by unfold dM;rw[hx];rfl
   have HB:=aN F;have HL:=aN I;clear hx F I hu hc;go_enter func128,ntmps128;go_wp2;rw[<-K];clear K;refine bN _ aT aT ?_
   repeat(first|go_big_quiet_skip|(go_big_quiet_want;go_big_quiet_op;first|go_big_quiet_on|(apply Exists.intro;refine⟨fun _=>?_,?_⟩;(first|(go_at_call 101;exact vG (dF g l _ _ (Ext.ints _ D)) hf)|(go_at_call 236;exact cR (lS l _ _ (Ext.ints _ D) HM.out))|(go_at_call 215;exact bO (jA g _ l _ (Ext.ints _ D) h0 aK)));go_big_quiet_on)))
   refine wpQuiet_nil ?_;rintro w3 ⟨⟨w3,M⟩,rfl⟩
   try dsimp only
   clear e0 e1;have B3:=B1.after M B1.size;go_wp2;go_ret2;exact⟨none,0,0,by rw[HB.out];rfl,by rw[HL.out];exact aP.nil _ _ _,B3⟩
theorem GT{a b:Int}(z:0<=a):a-bK a b=cM a b:=by
 have:=@Nat.and_le_left a.toNat b.toNat;unfold bK cM cV;omega
theorem wA(a b:Int):bK a b=bK b a:=by unfold bK;rw[Nat.and_comm]
theorem N7(w:World)(g:Int)(v:Value)(l:List Int)(hv:aR w v l)(h5:l.length<=1048576):
  Calls prog 133 #[.agg #[g,v]] w fun e w'=>∃ad i cp,e=.returned (.tuple #[aI ad i cp,.bool (fG g l)])/\aP 3 w w' (aI ad i cp) (dM g l)/\Below w w w':=by
 obtain⟨a,b,h9,c,rfl,e8,g9,hc,hb⟩:=hv.view prog 24 3 underlying24 aS;have o0:aP 3 (w.heap.size+1) ((w.alloc (.cells #[g,aI a l.length c] 31)).alloc (.cells #[] 3)) (aI (some ⟨w.heap.size+1,0,none⟩) 0 0) []:=by have:=aP.lit0 (E:=3) (B:=w.heap.size+1) (w.alloc (.cells #[g,aI a l.length c] 31)) (by simp);simpa using this
 have X0:=(Box2.new w g (aI a l.length c) 31).after (bF _ (.cells #[] 3));go_enter func133,ntmps133;go_wp2_with fail;refine(cS g l _ _ (hv.below X0.B aO)).mono ?_;rintro e w1 ⟨rfl,a9⟩;have X1:=X0.after a9;have o1:=o0.keep a9;clear X0 o0 a9;obtain⟨d0,d1,B1,z1⟩:=X1
 cases hf:bJ g l with
 |false=>
  have hx:gQ g l=none:=by unfold gQ;rw[hf];rfl
  have F:fG g l=false:=by unfold fG;rw[hx];rfl
  have I:dM g l=[]:=by unfold dM;rw[hx];rfl
  have HB:=aN F;have HL:=aN I;clear hx F I hc;go_wp2;go_ret2;exact⟨_,_,_,by rw[HB.out];rfl,by rw[HL.out];exact o1.mono (Nat.le_succ _),B1⟩
 |true=>
  obtain⟨h0,h6,_,_⟩:=dT hf;have hm:=dY hf;have hp:=mC h0 h6;have h7:=(cO g.toNat 6 aK).2;have HM:=aN hm;clear hm;go_wp2_with (go_at_call 187;refine(BA g _ h0 aK).mono ?_;rintro e w' ⟨rfl,rfl⟩);go_loopw [4,5] (fun out lf wr=>∃(ad:Option Addr) (nn cp:Nat) (J:List Int) (z:Int) (n:Nat),out=aI ad nn cp/\lf=aM z/\0<=z/\z<2^g.toNat/\z<=n/\J.length<=64-n/\n<=64 /\
    dU l 64 (2^g.toNat-1)=(dU l n z).map (J++·)/\aP 3 (w.heap.size+1) wr (aI ad nn cp) J/\Box2 w wr g (aI a l.length c))
   (fun _ lf _=>(intOf lf).toNat)
  case atStart=>exact⟨_,_,_,[],_,64,rfl,rfl,by omega,by omega,by omega,by simp,by omega,by simp,o1,⟨d0,d1,B1,z1⟩⟩
  case round=>
   obtain⟨ad,nn,cp,J,z,n,rfl,rfl,K,g3,g4,g1,e9,a6,ho,X⟩:=hrel;have HR:=aN a6;have HO:=aN ho;clear a6 ho d0 d1 o1;obtain⟨d0,d1,B5,z5⟩:=X;by_cases g5:0<z
   ·have b7:=aW hc hb B5 aO;have g2:=EH l z HM.out;go_wp2_with fail;go_loop [6,7] (fun m i=>∃k:Nat,k<=l.length/\i=aM k/\m=aM ((l.take k).foldl (fV z) 0)) (fun _ i=>l.length-(intOf i).toNat)
    case atStart=>exact⟨0,Nat.zero_le _,rfl,rfl⟩
    case round=>
     obtain⟨k,hk,rfl,rfl⟩:=hrel;have R:0<=(l.take k).foldl (fV z) 0/\(l.take k).foldl (fV z) 0<64:=by
      rcases AU z (l.take k) 0 with h1|h1
      ·rw[h1];omega
      ·exact HM.out _ (List.mem_of_mem_take h1)
     obtain⟨m,b1⟩:=aQ ((l.take k).foldl (fV z) 0);rw[<-b1]at R ⊢;have a7:=aN b1;clear b1;have f9:=eG R.1 (show m<4611686018427387904 by omega) K aK;have g0:=eG K (show z<4611686018427387904 by omega) R.1 aK;have g7:=lU m z 64 R.1 R.2;by_cases hlt:k<l.length
     ·have b0:=HM.out _ (List.getElem_mem hlt);have f8:=eG b0.1 (show l[k]<4611686018427387904 by omega) K aK;have g6:=lU l[k] z 64 b0.1 b0.2;by_cases d8:dL (bK m z)<dL (bK l[k] z)
      ·go_wp2_with (go_at_call 154;refine(tQ _ _ aK aK).mono ?_;rintro e w' ⟨rfl,rfl⟩)
       go_round
       case rel=>exact⟨k+1,by omega,by go_num,by rw[vX _ _ _ _ hlt,<-a7.out,fV,if_pos d8]⟩
       case measure=>simp[intOf];omega
      ·go_wp2_with (go_at_call 154;refine(tQ _ _ aK aK).mono ?_;rintro e w' ⟨rfl,rfl⟩)
       go_round
       case rel=>exact⟨k+1,by omega,by go_num,by rw[vX _ _ _ _ hlt,<-a7.out,fV,if_neg aK]⟩
       case measure=>simp[intOf];omega
     ·have a1:m=fQ l z:=by rw[a7.out];unfold fQ;rw[GO _ _ _ _ aK]
      have O:=aN a1;have g8:=lU z m 64 K aK;clear a1 b7;by_cases M:bK m z=0
      ·have ht:(bK m z==0)=true:=by simp[M]
       have D:gQ g l=none:=by
        unfold gQ;rw[if_pos hf,HR.out]
        cases n with
        |zero=>omega
        |succ n=>rw[dU,if_neg aK,if_pos (by rw[<-O.out];exact M)];rfl
       have F:fG g l=false:=by unfold fG;rw[D];rfl
       have I:dM g l=[]:=by unfold dM;rw[D];rfl
       have HB:=aN F;have HL:=aN I;have o9:=aP.lit0 (E:=3) (B:=wr.heap.size) wr aO;clear D F I M;go_wp2;go_ret2;exact⟨_,_,_,by rw[HB.out];rfl,by rw[HL.out];exact o9.mono B5.size,B5.alloc B5.size _⟩
      ·have ht:(bK m z==0)=false:=by simp[M]
       have b6:=aN M;clear M;go_wp2_with (at_builtin;refine cZ rfl _ _ _ rfl 3 underlying24 aS (w.heap.size+1) _ _ m wr.heap.size rfl rfl (by simp) (HO.out.alloc _) ⟨by omega,by omega⟩ aK aV ?_;intro v' w6 S b9;obtain⟨av,nv,cv,rfl⟩:=S.shape3);have X6:=((Box2.mk d0 d1 B5 z5).after (bF _ (.cells #[m] 3))).grow b9 (fun k hk=>by have:=(HO.out.lt k hk).1;omega);have HW:=aN S;have Z:z-bK z m=cM z m:=GT K;have N:=aN Z;have e7:cM z m<z:=by rw[O.out];exact W8 K (by rw[<-O.out];exact b6.out)
       have c5:0<=cM z m:=by unfold cM;omega
       clear S b9 Z;go_wp2;go_roundw
       case rel=>
        obtain⟨n',rfl⟩:∃n',n=n'+1:=⟨n-1,by omega⟩;refine⟨_,_,_,J++[m],z-bK z m,n',rfl,rfl,by rw[N.out];exact c5,by rw[N.out];omega,by rw[N.out];omega,by simp;omega,by omega,?_,HW.out,X6⟩;rw[HR.out,dU,if_neg aK,if_neg (by rw[<-O.out];exact b6.out),<-O.out,N.out]
        cases dU l n' (cM z m)<;>simp
       case measure=>have:=N.out;simp only[intOf];omega
   ·have Y:z=0:=aK
    have D:gQ g l=some J:=by
     unfold gQ;rw[if_pos hf,HR.out,Y]
     cases n<;>simp[dU]
    have F:fG g l=true:=by unfold fG;rw[D];rfl
    have I:dM g l=J:=by unfold dM;rw[D];rfl
    have HB:=aN F;have HL:=aN I;clear Y D F I;go_wp2;go_ret2;exact⟨ad,nn,cp,by rw[HB.out];rfl,by rw[HL.out];exact HO.out.mono (Nat.le_succ _),B5⟩
theorem ag2(l:List Int):∀n z L,dU l n z=some L->L.length<=n:=by
 intro n
 induction n with
 |zero=>
  intro z L h;simp only[dU]at h
  split at h
  ·simp at h;subst h;simp
  ·cases h
 |succ n ih=>
  intro z L h;simp only[dU]at h
  split at h
  ·simp at h;subst h;simp
  ·split at h
   ·cases h
   ·cases hr:dU l n (cM z (fQ l z)) with
    |none=>rw[hr]at h;cases h
    |some L'=>rw[hr]at h;simp at h;subst h;have:=ih _ _ hr;simp;omega
end
end Go.Proofs.YtcpoomdoodlkjaaGreatDoor
