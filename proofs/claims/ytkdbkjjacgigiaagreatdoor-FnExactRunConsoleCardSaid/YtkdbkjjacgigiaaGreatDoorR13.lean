/- Lemmas for CardRunConsole. No condition. -/
import Derived.Test.YtkdbkjjacgigiaaGreatDoorR08
import Derived.Deep.OwnRows
set_option maxRecDepth 100000
set_option maxHeartbeats 64000000
namespace Go.Proofs.YtkdbkjjacgigiaaGreatDoor
section
open Go.RowKit Go.G5 Go.Proofs.Tryz
variable(w:World)(n:Int)(v:Value)(l:aI)
def mQ(l x:List Int)(e:Nat):Nat->Int
 |0=>100000
 |k+1=>if fE (k:Int) e=1 then min (mQ l x e k) (fT l x k) else mQ l x e k
def tW(l x:List Int)(e:Nat):Nat->Option Int
 |0=>none
 |k+1=>if fE (k:Int) e=1 then (match tW l x e k with|none=>some (fT l x k)|some m=>if fT l x k<m then some (fT l x k) else some m) else tW l x e k
def xL(n:Int)(l x:List Int)(e:Nat):Bool:=oP n l x&&decide ((e:Int)<n)
def sV(n:Int)(l x:List Int)(e:Nat):Int:=if xL n l x e then mQ l x e l.length else 0
theorem at1(x:aI)(s:Int)(h:∀k,(hk:k<x.length)->-5000<=x[k]/\x[k]<=5000)(k:Nat)(hk:k<=x.length):-5000*(k:Int)<=zD x s k/\zD x s k<=5000*(k:Int):=by
 exact akM
theorem PM(l x:aI)(z:∀k,(hk:k<l.length)->-1000<=l[k]/\l[k]<=1000)(F:∀k,(hk:k<x.length)->-5000<=x[k]/\x[k]<=5000)(I:x.length<=6)(k:Nat)(hk:k<l.length):-31000<=fT l x k/\fT l x k<=31000:=by
 have h1:=z k hk;have h2:=at1 x k F x.length aU;have D:l.getD (k:Int).toNat 0=l[k]:=by simp[hk]
 unfold fT wt;rw[D];omega
theorem as6(l x:aI)(e:Nat)(hb:∀k,k<l.length->fT l x k<=31000):∀k,k<=l.length->(∀m,tW l x e k=some m->mQ l x e k=m/\m<=31000)/\(tW l x e k=none->mQ l x e k=100000):=by
 intro k
 induction k with
 |zero=>intro _;exact⟨fun m h=>(by rw[tW]at h;cases h),fun _=>rfl⟩
 |succ k ih=>
  intro hk;obtain⟨h1,h2⟩:=ih aA;have h3:=hb k aA;rw[tW,mQ];by_cases z:fE (k:Int) e=1
  .rw[if_pos z,if_pos z]
   cases F:tW l x e k with
   |none=>rw[h2 F];refine⟨fun m h=>?_,fun h=>by cases h⟩;have D:fT l x k=m:=cI h;omega
   |some q=>
    obtain⟨h4,I⟩:=h1 q F;rw[h4];refine⟨fun m h=>?_,fun h=>?_⟩
    .by_cases hlt:fT l x k<q
     .simp only[if_pos hlt]at h;have D:fT l x k=m:=cI h;omega
     .simp only[if_neg hlt]at h;have D:q=m:=cI h;omega
    .by_cases hlt:fT l x k<q
     .simp only[if_pos hlt]at h;cases h
     .simp only[if_neg hlt]at h;cases h
  .rw[if_neg z,if_neg z];exact⟨h1,h2⟩
theorem aq3(l x:aI)(e:Nat):∀k,2^e<k->∃m,tW l x e k=some m:=by
 intro k
 induction k with
 |zero=>intro h;exact absurd h (Nat.not_lt_zero _)
 |succ k ih=>
  intro hk;rw[tW];by_cases hlt:2^e<k
  .obtain⟨m,hm⟩:=ih hlt;rw[hm];by_cases z:fE (k:Int) e=1
   .rw[if_pos z];by_cases h:fT l x k<m
    .exact⟨fT l x k,by simp only[if_pos h]⟩
    .exact⟨m,by simp only[if_neg h]⟩
   .rw[if_neg z];exact⟨m,rfl⟩
  .have D:k=2^e:=aA
   have z:fE (k:Int) e=1:=by
    subst D;unfold fE;have F:(2:Int)^e≠0:=by have:=dJ e;have h:((2^e:Nat):Int)=(2:Int)^e:=(by push_cast;rfl);omega
    push_cast
    rw[Int.ediv_self F]
    rfl
   rw[if_pos z]
   cases tW l x e k with
   |none=>exact⟨_,rfl⟩
   |some m=>
    by_cases h:fT l x k<m
    .exact⟨fT l x k,by simp only[if_pos h]⟩
    .exact⟨m,by simp only[if_neg h]⟩
theorem aeP(W:World)(g e s:Nat)(F:e<6)(I:s<1073741824)(d:W.cell? ⟨g,0,none⟩=some (aO (e:Int))):
  Calls prog 367 #[(s:Int),aP (some ⟨g,0,none⟩)] W fun D w'=>D=aQ (aG (fE (s:Int) e==1))/\Below W W w':=by
 have z:=lL (s:Int) e aA aA;go_enter func367,ntmps367;go_wp2;go_ret;exact⟨rfl,bJ _ _⟩
theorem NK:∀args w,(callFunc 367 args).run prog w=.ok (.enter 367 args) w:=enters_of func367 bM rfl
theorem ajK{p:Prop}(h:p:=by
  clear z hcl I hr D ht hq;have G:=K.cell;go_wp2_with fail;refine M.out.mono ?_;rintro S w3 ⟨rfl,O⟩;have N:=K.keep O;have J:=B.after O B.size;have G3:=N.cell;go_wp2_with fail;refine(R.out w3 J).mono ?_;rintro S w4 ⟨rfl,b4⟩;have K4:=N.keep b4;have Z:=J.after b4 J.size;go_wp2;go_roundw
  .exact⟨k+1,aA,cD,by rw[F.out];rfl,by rw[F.out];rfl,K4,Z⟩
  exact aY):p:=h
theorem S6(hv:Ints w v l)(u:Value)(x:aI)(hu:Ints w u x)(e g:Nat)(he:e<6)(d:w.cell? ⟨g,0,none⟩=some (aO (e:Int)))(b9:l.length<=64)
  (b8:∀k,(hk:k<l.length)->-1000<=l[k]/\l[k]<=1000) (hx:∀k,(hk:k<x.length)->-5000<=x[k]/\x[k]<=5000) (c6:x.length<=6):
  Calls prog 366 #[aM #[n,v],u,.func (.func 367) #[] #[aP (some ⟨g,0,none⟩)]] w fun S w'=>S=aQ (aO ((tW l x e l.length).getD 0))/\Below w w w':=by
 obtain⟨a,c,rfl⟩:=hv.shape;obtain⟨b,cu,rfl⟩:=hu.shape;have b7:=World.block_lt_of_cell? w _ d;have f3:=NK;obtain⟨V,hV⟩:=aW (w.alloc (.cells #[n,aD a l c] 27));have B:Below w w V:=jP hV;have K:bK V w 27 #[n,aD a l c]:=jV hV;have HD:=aT (And.intro d b7);have Y:=aT (And.intro b8 (And.intro hx c6));go_enter func366,ntmps366;go_wp2_with fail;rw[<-hV];clear hV;go_loopw [7,8,13] (fun m f i wr=>∃k:Nat,k<=l.length/\i=aO k/\m=aO ((tW l x e k).getD 0)/\f=aG (tW l x e k).isSome/\bK wr w 27 #[n,aD a l c]/\Below w w wr) (fun _ _ i _=>l.length-(intOf i).toNat)
 .exact⟨0,aZ _,rfl,rfl,rfl,K,B⟩
 obtain⟨k,hk,rfl,rfl,rfl,Kr,Br⟩:=hrel;clear K B;have K:=Kr;have B:=Br;by_cases hlt:k<l.length
 .have a8:(k:Int)<(l.length:Int):=aA;have hcl:=aeP wr g e k he aA ((B.cell (p:=⟨g,0,none⟩) HD.out.2).trans HD.out.1);have I:=fun(W:World) (h:Below w w W)=>VV n l (aD a l c) x (aD b x cu) k W (hv.below h aU) (hu.below h aU) aA aA b9 Y.out.1 Y.out.2.1 Y.out.2.2;have c5:=PM l x Y.out.1 Y.out.2.1 Y.out.2.2 k hlt;have z:tW l x e (k+1)=if fE (k:Int) e=1 then (match tW l x e k with|none=>some (fT l x k)|some m=>if fT l x k<m then some (fT l x k) else some m) else tW l x e k:=rfl;obtain⟨r,hr⟩:=aW (fT l x k);simp only[<-hr]at I c5 z;have R:=aT I;by_cases D:fE (k:Int) e=1
  .have ht:(fE (k:Int) e==1)=true:=by simp[D]
   rw[if_pos D]at z;rw[ht]at hcl;have M:=aT hcl
   cases hq:tW l x e k with
   |none=>rw[hq]at z;have F:=aT z;exact ajK
   |some m=>
    rw[hq]at z;by_cases a7:r<m
    .simp only[if_pos a7]at z;have F:=aT z;clear z hcl I hr D ht hq;have G:=K.cell;go_wp2_with fail;refine M.out.mono ?_;rintro S w3 ⟨rfl,O⟩;have N:=K.keep O;have J:=B.after O B.size;have G3:=N.cell;go_wp2_with fail;refine(R.out w3 J).mono ?_;rintro S w4 ⟨rfl,b4⟩;have K4:=N.keep b4;have Z:=J.after b4 J.size;have G4:=K4.cell;go_wp2_with fail;refine(R.out w4 Z).mono ?_;rintro S w5 ⟨rfl,b5⟩;have K5:=K4.keep b5;have B5:=Z.after b5 Z.size;go_wp2;go_roundw
     .exact⟨k+1,aA,cD,by rw[F.out];rfl,by rw[F.out];rfl,K5,B5⟩
     exact aY
    .simp only[if_neg a7]at z;have F:=aT z;exact ajK
  .have ht:(fE (k:Int) e==1)=false:=by simp[D]
   rw[if_neg D]at z;rw[ht]at hcl;have M:=aT hcl;have F:=aT z;clear z hcl I hr D ht;have G:=K.cell;go_wp2_with fail;refine M.out.mono ?_;rintro S w3 ⟨rfl,O⟩;have N:=K.keep O;have J:=B.after O B.size;have G3:=N.cell;go_wp2;go_roundw
   .exact⟨k+1,aA,cD,by rw[F.out],by rw[F.out],N,J⟩
   exact aY
 .have a8:¬(k:Int)<(l.length:Int):=aA;have a6:k=l.length:=aA;have HK:=aT a6;clear a6;go_wp2;go_ret;exact⟨jK (by rw[<-HK.out]),B⟩
theorem E5{n:Int}{l x:aI}(h:oP n l x=true):∃N:Nat,n=N/\N<=5/\l.length=2^N/\l.length<=32/\x.length=N/\(∀k,(hk:k<l.length)->-1000<=l[k]/\l[k]<=1000)/\(∀k,(hk:k<x.length)->-5000<=x[k]/\x[k]<=5000)/\∀k:Nat,k<l.length->0<=fT l x k:=by
 unfold oP at h;simp only[Bool.and_eq_true]at h;obtain⟨⟨h1,h2⟩,h3⟩:=h;obtain⟨I,J,hl,D⟩:=nE (LC h1);have M:=nX I J;obtain⟨K,F⟩:=QY h2;have z:l.length=2^n.toNat:=by
  have h4:((2^n.toNat:Nat):Int)=(2:Int)^n.toNat:=by push_cast;rfl
  omega
 exact⟨n.toNat,aA,aA,z,aA,aA,D,F,aeJ l x _ h3⟩
theorem ahC{n:Int}{l x:aI}{e:Nat}(h:xL n l x e=true):(tW l x e l.length).getD 0=mQ l x e l.length/\0<=mQ l x e l.length/\mQ l x e l.length<=31000:=by
 unfold xL at h;obtain⟨h1,h2⟩:=Bool.and_eq_true_iff.1 h;have h2:=eD h2;obtain⟨N,rfl,K,D,J,O,F,I,M⟩:=E5 h1;have hlt:2^e<l.length:=by rw[D];exact Nat.pow_lt_pow_right bZ aA
 obtain⟨m,hm⟩:=aq3 l x e l.length hlt;have hb:=(as6 l x e (fun k hk=>(PM l x F I aA k hk).2) l.length aU).1 m hm;have z:∀k,k<=l.length->0<=mQ l x e k:=by
  intro k
  induction k with
  |zero=>intro _;simp[mQ]
  |succ k ih=>
   intro hk;have:=ih aA;have:=M k aA;rw[mQ]
   split<;>omega
 rw[hm];have:=z l.length aU;exact⟨hb.1.symm,this,aA⟩
theorem asJ(l x:aI)(e:Nat)(z:∀k:Nat,k<l.length->0<=fT l x k):∀k,k<=l.length->0<=mQ l x e k/\mQ l x e k<=100000:=by
 intro k
 induction k with
 |zero=>intro _;simp[mQ]
 |succ k ih=>
  intro hk;have:=ih aA;have:=z k aA;rw[mQ]
  split<;>omega
theorem SG(l x:aI)(e:Nat):0<=sV n l x e/\sV n l x e<=31000:=by
 unfold sV
 split
 .rename_i h;exact(ahC h).2
 .omega
theorem WP(e:Nat)(F:e<6)(w:World):
  Calls prog 218 #[n,(e:Int)] w fun z w'=>z=aQ (aG (decide ((e:Int)<n)))/\w=w':=by
 have D:(0:Int)<=(e:Int):=aA;go_enter func218,ntmps218;go_wp2;go_ret;exact⟨rfl,rfl⟩
theorem akL{p:Prop}(h:p:=by
  have F:xL n l x e=false:=by unfold xL;rw[hb];rfl
  have I:sV n l x e=0:=by unfold sV;rw[F];rfl
  have R:=aT (And.intro F I);clear F I hb;go_wp2;go_ret2;exact⟨by rw[R.out.1,R.out.2];rfl,B⟩):p:=h
theorem WF(hv:Ints w v l)(u:Value)(x:aI)(hu:Ints w u x)(e:Nat)(he:e<6):
  Calls prog 344 #[aM #[n,v],u,(e:Int)] w fun e' w'=>e'=aQ (aS #[(sV n l x e),aG (xL n l x e)])/\Below w w w':=by
 obtain⟨a,c,rfl⟩:=hv.shape;obtain⟨b,cu,rfl⟩:=hu.shape;have g6:∀(fn:Fn) (first cap:Array Value) (w:World),(Instr.makeFunc fn first cap).run prog w=.ok (.func fn first cap) w:=fun _ _ _ _=>rfl;obtain⟨V,hV⟩:=aW ((w.alloc (.cells #[n,aD a l c] 27)).alloc (.cells #[(e:Int)] 3));have B:Below w w V:=iJ hV;have K:bK V w 27 #[n,aD a l c]:=iQ hV;have KE:bK V (w+1) 3 #[(e:Int)]:=jL hV;go_enter func344,ntmps344;go_wp2_with fail;rw[<-hV];clear hV;refine(LF V n _ l (hv.below B aU) _ x (hu.below B aU)).mono ?_;rintro e' w1 ⟨rfl,b1⟩;have K:=K.keep b1;have KE:=KE.keep b1;have B:=B.after b1 B.size;have G:=K.cell;have GE:=KE.cell
 cases hb:oP n l x with
 |false=>exact akL
 |true=>
  obtain⟨N,rfl,e9,Z,S,a1,M,O,hs⟩:=E5 hb;have HE:=aT (WP (N:Int) e he w1);by_cases z:(e:Int)<(N:Int)
  .have F:xL N l x e=true:=by unfold xL;rw[hb,bH z];rfl
   have I:sV N l x e=(tW l x e l.length).getD 0:=by unfold sV;rw[F,(ahC F).1];rfl
   have R:=aT (And.intro F I);have hd:=bH z;rw[hd]at HE;have HL:=aT (S6 w1 N _ l (hv.below B aU) _ x (hu.below B aU) e (w.heap.size+1) he (KE.cell 0) aA M O aA);clear F I hb Z S a1 M O hs hd z;go_wp2_with (first|(go_at_call 218;refine HE.out.mono ?_;rintro e' w' ⟨rfl,rfl⟩)|(go_at_call 366;refine HL.out.mono ?_;rintro e' w2 ⟨rfl,b2⟩));go_ret2;exact⟨by rw[R.out.1,R.out.2];rfl,B.after b2 B.size⟩
  .have F:xL N l x e=false:=by unfold xL;rw[bG z];simp
   have I:sV N l x e=0:=by unfold sV;rw[F];rfl
   have R:=aT (And.intro F I);have hd:=bG z;rw[hd]at HE;clear F I hb Z S a1 M O hs hd z;go_wp2_with (go_at_call 218;refine HE.out.mono ?_;rintro e' w' ⟨rfl,rfl⟩);go_ret2;exact⟨by rw[R.out.1,R.out.2];rfl,B⟩
theorem WG(hv:Ints w v l)(u:Value)(x:aI)(hu:Ints w u x)(e:Nat)(he:e<6):
  Calls prog 126 #[aM #[n,v],u,(e:Int)] w fun e' w'=>e'=aQ (aS #[(sV n l x e),aG (xL n l x e)])/\Below w w w':=by
 obtain⟨a,b,g9,c,rfl,f9,b8,hc,f0⟩:=hv.vw;obtain⟨au,cu,rfl⟩:=hu.shape;obtain⟨V,hV⟩:=aW (w.alloc (.cells #[n,aD a l c] 27));have B:Below w w V:=jP hV;have K:bK V w 27 #[n,aD a l c]:=jV hV;go_enter func126,ntmps126;go_wp2_with fail;rw[<-hV];clear hV;refine(LG V n _ l (hv.below B aU) _ x (hu.below B aU)).mono ?_;rintro e' w1 ⟨rfl,b1⟩;have K:=K.keep b1;have B:=B.after b1 B.size;have G:=K.cell
 cases hb:oP n l x with
 |false=>exact akL
 |true=>
  obtain⟨N,rfl,e9,Z,S,a1,M,O,hs⟩:=E5 hb;have Y:fN (e:Int) 0 ((N:Int)-1)=decide ((e:Int)<(N:Int)):=by
   by_cases h:(e:Int)<(N:Int)
   .rw[bH h];exact eW.2 ⟨aA,aA⟩
   .rw[bG h]
    cases hq:fN (e:Int) 0 ((N:Int)-1) with
    |false=>rfl
    |true=>have:=eW.1 hq;omega
  have hw:IntKind.i64.wrap ((N:Int)-1)=(N:Int)-1:=IntWalk.i64_in _ ⟨aA,aA⟩;by_cases z:(e:Int)<(N:Int)
  .have F:xL N l x e=true:=by unfold xL;rw[hb,bH z];rfl
   have I:sV N l x e=mQ l x e l.length:=by unfold sV;rw[F];rfl
   have R:=aT (And.intro F I);rw[bH z]at Y;have a9:=aT Y;have e7:=aT O;have e4:=aT M;have e5:=aT (asJ l x e hs);have e6:=aT (PM l x M O aA);have g8:x.length<=6:=aA;clear F I hb Z a1 hs z Y O M;go_wp2_with (go_at_call 77;refine(eH _ _ _ _).mono ?_;rintro e' w' ⟨rfl,rfl⟩;rw[a9.out]);clear G;go_loopw [8,9] (fun m i wr=>∃k:Nat,k<=l/\i=aO k/\m=aO (mQ l x e k)/\bK wr w 27 #[(N:Int),aD a l c]/\Below w w wr) (fun _ i _=>l.length-(intOf i).toNat)
   .exact⟨0,aZ _,rfl,rfl,K,B⟩
   obtain⟨k,hk,rfl,rfl,Kr,Br⟩:=hrel;clear K B;have K:=Kr;have B:=Br;have G:=K.cell;clear Kr Br;by_cases hlt:k<l
   .have c5:(k:Int)<(l.length:Int):=aA;have f8:=lL (k:Int) e aA aA;have J:mQ l x e (k+1)=if fE (k:Int) e=1 then min (mQ l x e k) (fT l x k) else mQ l x e k:=rfl;have f2:=e5.out k hk;by_cases D:fE (k:Int) e=1
    .have ht:(fE (k:Int) e==1)=true:=by simp[D]
     rw[if_pos D]at J;have c7:fT l x k=l[k]-wt x k:=by unfold fT;simp[hlt]
     have c6:=e6.out k hlt;rw[c7]at J c6;have ck:=bY hc f0 B aU k hlt;have ik:=fun W=>b8 W k hlt;have f4:=e4.out k hlt;obtain⟨q,hq⟩:=aW (wt x (k:Int));obtain⟨C,hC⟩:=aW (mQ l x e k);obtain⟨y,I⟩:=aW (l[k]);have c9:∀W,Ints W (aD au x cu) x->Calls prog 168 #[aD au x cu,(k:Int)] W fun e w'=>e=aQ q/\W=w':=by rw[hq];exact fun W h=>wZ x _ _ W h aA aA (fun j hj=>by have:=e7.out j hj;omega) aA
     have c8:=hu.below B aU;rw[<-hq,<-I,<-hC]at J;rw[<-hq,<-I]at c6;rw[<-hC]at f2 |-;rw[<-I]at ck f4;have b7:=aT c9;have a8:=aT J;have g7:IntKind.i64.wrap (y-q)=y-q:=IntWalk.i64_in _ ⟨aA,aA⟩;clear J c9 hq hC I c7 D hc b8;go_wp2;go_quiet ((go_at_call 168;first|exact kH (b7.out _ (c8.drewN _))|exact lO (b7.out _ (c8.drewN _))));go_wp2;go_roundw
     .exact⟨k+1,aA,cD,by rw[a8.out]<;>(congr 1<;>(split<;>omega)),K.drewN _,B.drewN' _⟩
     exact aY
    .have ht:(fE (k:Int) e==1)=false:=by simp[D]
     rw[if_neg D]at J;have a8:=aT J;clear J D;go_wp2;go_roundw
     .exact⟨k+1,aA,cD,by rw[a8.out],K,B⟩
     exact aY
   .have c5:¬(k:Int)<(l.length:Int):=aA;have b9:k=l.length:=aA;have HK:=aT b9;clear b9;go_wp2;go_ret2;exact⟨by rw[R.out.1,R.out.2,<-HK.out];rfl,B⟩
  .have F:xL N l x e=false:=by unfold xL;rw[bG z];simp
   have I:sV N l x e=0:=by unfold sV;rw[F];rfl
   have R:=aT (And.intro F I);rw[bG z]at Y;have a9:=aT Y;clear F I hb Z S a1 M O hs z Y;go_wp2_with (go_at_call 77;refine(eH _ _ _ _).mono ?_;rintro e' w' ⟨rfl,rfl⟩;rw[a9.out]);go_ret2;exact⟨by rw[R.out.1,R.out.2];rfl,B⟩
def kV(n:Int)(l x m:List Int):Bool:=iW n l&&oP n l x&&jY n m
def hH(n:Int)(l x m:List Int):Nat->List Int
 |0=>x
 |k+1=>if (hH n l x m k).getD k 0<m.getD k 0 then (hH n l x m k).set k (min ((hH n l x m k).getD k 0+sV n l (hH n l x m k) k) (m.getD k 0)) else hH n l x m k
def uY(n:Int)(l x m:List Int):List Int:=if kV n l x m then hH n l x m x.length else []
theorem JP(l x m:aI):∀k,(hH n l x m k).length=x.length:=by
 intro k
 induction k with
 |zero=>rfl
 |succ k ih=>rw[hH];split<;>simp[ih]
theorem ad6(l x m:aI)(hm:m.length=x.length)(I:∀k,(hk:k<x.length)->-5000<=x[k]/\x[k]<=5000)(D:∀k,(hk:k<m.length)->-5000<=m[k]/\m[k]<=5000):∀k,k<=x.length->∀y∈hH n l x m k,-5000<=y/\y<=5000:=by
 intro k
 induction k with
 |zero=>intro _ y z;obtain⟨i,F,rfl⟩:=List.getElem_of_mem z;exact I i F
 |succ k ih=>
  intro hk y z;have ih:=ih aA;rw[hH]at z;by_cases hc:(hH n l x m k).getD k 0<m.getD k 0
  .rw[if_pos hc]at z;rcases List.mem_or_eq_of_mem_set z with z|z
   .exact ih y z
   .have hl:=JP n l x m k;have h1:(hH n l x m k).getD k 0=(hH n l x m k)[k]'aA:=cJ _ k aA;have h2:m.getD k 0=m[k]'aA:=cJ _ k aA;have h3:=ih _ (aX (show k<(hH n l x m k).length from aA));have h4:=D k aA;have J:=SG n l (hH n l x m k) k;rw[h1,h2]at z;omega
  .rw[if_neg hc]at z;exact ih y z
theorem aaS{n:Int}{l x m:aI}(h:kV n l x m=true):∃N:Nat,n=N/\N<=5/\x.length=N/\m.length=x.length/\(∀k,(hk:k<x.length)->-5000<=x[k]/\x[k]<=5000)/\(∀k,(hk:k<m.length)->-5000<=m[k]/\m[k]<=5000):=by
 unfold kV at h;simp only[Bool.and_eq_true]at h;obtain⟨⟨_,h2⟩,h3⟩:=h;obtain⟨N,rfl,z,_,_,F,_,D,_⟩:=E5 h2;obtain⟨h4,I⟩:=QY h3;exact⟨N,rfl,z,F,aA,D,I⟩
theorem akI{p:Prop}(h:p:=by
  rw[h7];have s1:=(j1.out.drewN z).stored g2.out.symm k (min (F+C) mv) ⟨aA,aA⟩;rw[g4.out,if_pos e4.out];exact⟨s1.1,(K5.drewN z).far (by show w.heap.size≠g;omega) _,(B5.drewN' z).grown s1.2 (B5.drewN' z).size kF⟩):p:=h
theorem af8(hv:Ints w v l)(hl:l.length<=1048576)(u:Value)(x:aI)(hu:Ints w u x)(t:Value)(m:aI)(ht:Ints w t m):
  Calls prog 274 #[aM #[n,v],u,t] w fun e' w'=>∃ad i c,e'=aQ (aS #[aD ad i c,aG (kV n l x m)])/\bB 3 w w' (aD ad i c) (uY n l x m)/\Below w w w':=by
 obtain⟨a,c,rfl⟩:=hv.shape;obtain⟨b,cu,rfl⟩:=hu.shape;obtain⟨bt,bq,h9,ct,rfl,j8,c5,f0,j5⟩:=ht.vw;obtain⟨V,hV⟩:=aW (w.alloc (.cells #[n,aD a l c] 27));have B:Below w w V:=jP hV;have K:bK V w 27 #[n,aD a l c]:=jV hV;go_enter func274,ntmps274;go_wp2_with fail;rw[<-hV];clear hV;refine(tP n l _ V (hv.below B aU) hl).mono ?_;rintro e' w1 ⟨rfl,b1⟩;have K:=K.keep b1;have B:=B.after b1 B.size;have G:=K.cell
 cases hs:iW n l with
 |false=>
  have D:kV n l x m=false:=by unfold kV;rw[hs];rfl
  have I:uY n l x m=[]:=by unfold uY;rw[D];rfl
  have J:=aT (And.intro D I);clear D I hs;go_wp2;go_ret2;exact⟨none,0,0,by rw[J.out.1];rfl,by rw[J.out.2];exact bB.nil _ _ _,B⟩
 |true=>
 go_wp2_with fail;clear G;refine(LF w1 n _ l (hv.below B aU) _ x (hu.below B aU)).mono ?_;rintro e' Y ⟨rfl,b2⟩;have K:=K.keep b2;have B:=B.after b2 B.size;have G:=K.cell
 cases hb:oP n l x with
 |false=>
  have D:kV n l x m=false:=by unfold kV;rw[hb];simp
  have I:uY n l x m=[]:=by unfold uY;rw[D];rfl
  have J:=aT (And.intro D I);clear D I hs hb;go_wp2;go_ret2;exact⟨none,0,0,by rw[J.out.1];rfl,by rw[J.out.2];exact bB.nil _ _ _,B⟩
 |true=>
 go_wp2_with fail;clear G;refine(QM n l _ m _ Y (hv.below B aU) (ht.below B aU)).mono ?_;rintro e' w3 ⟨rfl,b3⟩;have K:=K.keep b3;have B:=B.after b3 B.size;have G:=K.cell
 cases hlo:jY n m with
 |false=>
  have D:kV n l x m=false:=by unfold kV;rw[hlo];simp
  have I:uY n l x m=[]:=by unfold uY;rw[D];rfl
  have J:=aT (And.intro D I);clear D I hs hb hlo;go_wp2;go_ret2;exact⟨none,0,0,by rw[J.out.1];rfl,by rw[J.out.2];exact bB.nil _ _ _,B⟩
 |true=>
 have D:kV n l x m=true:=by unfold kV;rw[hs,hb,hlo];rfl
 have I:uY n l x m=hH n l x m x.length:=by unfold uY;rw[D];rfl
 obtain⟨N,rfl,j4,f7,R,f6,c7⟩:=aaS D;have i7:=aT (ad6 N l x m R f6 c7);have i8:=aT c7;have J:=aT (And.intro D I);have j0:=aT R;have e7:=aT f7;clear D I hs hb hlo f6 c7 R f7;go_wp2_with fail;clear G;refine(nI _ x w3 (hu.below B aU) (by have:=e7.out;omega)).mono ?_;rintro e' w4 ⟨p,i,q,rfl,o,b4⟩;have zk:=K.lt;have O:∀g,(Value.slice p i q).ownBlock=some g->w.heap.size<g:=fun g h=>by have:=(o.lt g h).1;omega
 have K:=K.keep b4;have o:=o.mono (B':=w.heap.size) B.size;have B:=B.after b4 B.size;have hi:i=x.length:=by obtain⟨_,_,h⟩:=o.shape;injection h
 subst hi;go_wp2_with fail;go_loopw [31] (fun i wr=>∃k:Nat,k<=x/\i=aO k/\bB 3 w wr (aD p x q) (hH N l x m k)/\(∀g,(Value.slice p x.length q).ownBlock=some g->w.heap.size<g)/\bK wr w 27 #[(N:Int),aD a l c]/\Below w w wr) (fun i _=>x.length-(intOf i).toNat)
 .exact⟨0,aZ _,rfl,o,O,K,B⟩
 clear O;obtain⟨k,hk,rfl,ow,O,Kr,Br⟩:=hrel;clear o K B;have HO:=aT ow;have Z:=aT O;clear ow O;by_cases hlt:k<x
 .have c6:(k:Int)<(x.length:Int):=aA;have M:=JP N l x m k;rcases HO.out.cases with⟨h1,h2⟩|⟨g,cap,h1,n0,n3⟩
  .rw[h2]at M;simp at M;omega
  .injection h1 with h1 h3 h4;subst h1 h4;have o0:=Z.out g rfl;clear h3;have a8:k<(hH N l x m k).length:=aA;have co:=HO.out.cellAt M.symm k a8;have ob:=i7.out k hk _ (aX a8);have f5:(hH N l x m k).getD k 0=(hH N l x m k)[k]:=cJ _ k a8;have a7:k<m:=by have:=j0.out;omega
   have cm:=bY f0 j5 Br aU k a7;have im:=fun W=>c5 W k a7;have mb:=i8.out k a7;have f4:m.getD k 0=m[k]:=cJ _ k a7;have j6:=SG N l (hH N l x m k) k;have a9:hH N l x m (k+1)=if (hH N l x m k).getD k 0<m.getD k 0 then (hH N l x m k).set k (min ((hH N l x m k).getD k 0+sV N l (hH N l x m k) k) (m.getD k 0)) else hH N l x m k:=rfl;rw[f5,f4]at a9;have hcl:=fun(W:World) (h1:Ints W (aD a l c) l) (h2:Ints W (aD (some ⟨g,0,none⟩) x q) (hH N l x m k))=>WF W N _ l h1 _ _ h2 k (by have:=e7.out;omega);obtain⟨C,hC⟩:=aW (sV N l (hH N l x m k) k);obtain⟨F,c9⟩:=aW ((hH N l x m k)[k]);obtain⟨mv,c8⟩:=aW (m[k]);simp only[<-hC]at hcl;rw[<-hC,<-c9,<-c8]at a9;rw[<-hC]at j6;rw[<-c9]at co ob;rw[<-c8]at cm mb;have e6:=aT hcl;have g4:=aT a9;have g2:=aT M;have fo:=HO.out.frozenAt M.symm k;have G:=Kr.cell;clear hcl a9 M hC c9 c8 f5 f4 a8 f0 c5;by_cases f3:F<mv
   .have e4:=aT f3;go_wp2;go_quiet (fail);go_wp2_with fail;refine(e6.out _ (hv.below (Br.drewN' _) aU) (HO.out.drewN _).ints).mono ?_;rintro e' w5 ⟨rfl,b5⟩;have K5:=(Kr.drewN nq).keep b5;have o5:=(HO.out.drewN nq).keep b5;have B5:=(Br.drewN' nq).after b5 (Br.drewN' nq).size;have m4:=keep b5 (show(wr.drewN nq).cell? ⟨g,k,none⟩=some (aO F) from co);have m3:=keep b5 (show(wr.drewN nq).cell? ⟨bq,h9+k,none⟩=some (aO mv) from cm);have m6:=o5.frozenAt g2.out.symm k;have o4:IntKind.i64.wrap (F+C)=F+C:=IntWalk.i64_in _ ⟨aA,aA⟩;have j1:=aT o5;clear co cm fo G o5;go_wp2;go_region
    all_goals go_wp2
    go_roundw
    .have S:∀z,bB 3 w ((w5.drewN z).setCell ⟨g,k,none⟩ (aO (if mv<F+C then mv else F+C))) (aD (some ⟨g,0,none⟩) x q) (hH N l x m (k+1))/\bK ((w5.drewN z).setCell ⟨g,k,none⟩ (aO (if mv<F+C then mv else F+C))) w.heap.size 27 #[(N:Int),aD a l c]/\Below w w ((w5.drewN z).setCell ⟨g,k,none⟩ (aO (if mv<F+C then mv else F+C))):=by
      intro z;have h7:(if mv<F+C then mv else F+C)=min (F+C) mv:=by split<;>omega
      exact akI
     first|exact⟨k+1,aA,cD,(S _).1,Z.out,(S _).2.1,(S _).2.2⟩|(simp only[show(if mv<F+C then mv else F+C)=min (F+C) mv by split<;>omega]at S;exact⟨k+1,aA,cD,(S _).1,Z.out,(S _).2.1,(S _).2.2⟩)
    exact aY
   .have e4:=aT f3;go_wp2;go_quiet (fail);go_wp2;go_roundw
    .exact⟨k+1,aA,cD,by rw[g4.out,if_neg (by have:=e4.out;omega)];exact HO.out.drewN _,Z.out,Kr.drewN _,Br.drewN' _⟩
    exact aY
 .have c6:¬(k:Int)<(x.length:Int):=aA;have f2:k=x.length:=aA;have HK:=aT f2;clear f2;go_wp2;go_ret2;have ho:=HO.out;rw[HK.out]at ho;exact⟨p,x.length,q,by rw[J.out.1];rfl,by rw[J.out.2];exact ho,Br⟩
theorem Q8{p:Prop}(h:p:=by
  go_wp2;go_ret2;exact⟨some ⟨Y,0,none⟩,0,0,by rw[J.out.1];rfl,by rw[J.out.2];exact bB.lit0 _ B.size,B.after (cQ _ _) B.size⟩):p:=h
theorem af9(hv:Ints w v l)(hl:l.length<=1048576)(u:Value)(x:aI)(hu:Ints w u x)(t:Value)(m:aI)(ht:Ints w t m):
  Calls prog 81 #[aM #[n,v],u,t] w fun e' w'=>∃ad i c,e'=aQ (aS #[aD ad i c,aG (kV n l x m)])/\bB 3 w w' (aD ad i c) (uY n l x m)/\Below w w w':=by
 obtain⟨a,c,rfl⟩:=hv.shape;obtain⟨b,cu,rfl⟩:=hu.shape;obtain⟨bt,bq,h9,ct,rfl,j8,c5,f0,j5⟩:=ht.vw;obtain⟨V,hV⟩:=aW (w.alloc (.cells #[n,aD a l c] 27));have B:Below w w V:=jP hV;have K:bK V w 27 #[n,aD a l c]:=jV hV;go_enter func81,ntmps81;go_wp2_with fail;rw[<-hV];clear hV;refine(tQ n l _ V (hv.below B aU) hl).mono ?_;rintro e' w1 ⟨rfl,b1⟩;have K:=K.keep b1;have B:=B.after b1 B.size;have G:=K.cell
 cases hs:iW n l with
 |false=>
  have D:kV n l x m=false:=by unfold kV;rw[hs];rfl
  have I:uY n l x m=[]:=by unfold uY;rw[D];rfl
  have J:=aT (And.intro D I);clear D I hs;go_wp2;go_ret2;exact⟨some ⟨w1,0,none⟩,0,0,by rw[J.out.1];rfl,by rw[J.out.2];exact bB.lit0 _ B.size,B.after (cQ _ _) B.size⟩
 |true=>
 go_wp2_with fail;clear G;refine(LG w1 n _ l (hv.below B aU) _ x (hu.below B aU)).mono ?_;rintro e' Y ⟨rfl,b2⟩;have K:=K.keep b2;have B:=B.after b2 B.size;have G:=K.cell
 cases hb:oP n l x with
 |false=>
  have D:kV n l x m=false:=by unfold kV;rw[hb];simp
  have I:uY n l x m=[]:=by unfold uY;rw[D];rfl
  have J:=aT (And.intro D I);clear D I hs hb;exact Q8
 |true=>
 go_wp2_with fail;clear G;refine(DF m _ Y (ht.below B aU)).mono ?_;rintro e' w3 ⟨rfl,rfl⟩;have G:=K.cell;have HN:=aT (show(x.length:Int)=n/\n<=5 from by
  obtain⟨N,hN,j4,_,_,r9,_,_,_⟩:=E5 hb;exact⟨aA,aA⟩)
 cases g7:(nC m (-5000) 5000&&decide (m.length<=5)) with
 |false=>
  have hlo:jY n m=false:=by
   unfold jY
   cases m9:nC m (-5000) 5000 with
   |false=>simp
   |true=>rw[m9,Bool.true_and]at g7;have:=eZ g7;have:=HN.out;rw[bG aA];rfl
  have D:kV n l x m=false:=by unfold kV;rw[hlo];simp
  have I:uY n l x m=[]:=by unfold uY;rw[D];rfl
  have J:=aT (And.intro D I);clear D I hs hb hlo;exact Q8
 |true=>
 by_cases R:m.length=x.length
 .have hlo:jY n m=true:=by
   unfold jY;rw[(Bool.and_eq_true_iff.1 g7).1,bH (by have:=HN.out;omega)]
   rfl
  have o3:((m.length:Int) != (x.length:Int))=false:=by simp[R]
  have D:kV n l x m=true:=by unfold kV;rw[hs,hb,hlo];rfl
  clear HN g7 R;have I:uY n l x m=hH n l x m x.length:=by unfold uY;rw[D];rfl
  obtain⟨N,rfl,j4,f7,R,f6,c7⟩:=aaS D;have i7:=aT (ad6 N l x m R f6 c7);have i8:=aT c7;have J:=aT (And.intro D I);have j0:=aT R;have e7:=aT f7;clear D I hs hb hlo f6 c7 R f7;have l0:=hu.below B aU;have o7:x.length<=5:=by have:=e7.out;omega
  go_wp2_with (at_builtin;(refine AG rfl _ _ _ rfl 3 underlying25 intElem Y.heap.size _ [] rfl (bB.lit0 Y aU) _ x rfl (l0.alloc _) bO bF ?_);intro v' w4 o k8;obtain⟨p,i,q,rfl⟩:=o.shape3);have b4:Below Y Y w4:=(cQ Y (.cells #[] 3)).grown k8 bF (fun k hk=>by
   have o2:some Y.heap.size=some k:=hk;exact Nat.le_of_eq (cI o2))
  have o:bB 3 Y w4 (aD p i q) x:=by simpa using o
  clear k8 o7 l0;have zk:=K.lt;have O:∀g,(Value.slice p i q).ownBlock=some g->w.heap.size<g:=fun g h=>by have:=(o.lt g h).1;omega
  have K:=K.keep b4;have o:=o.mono (B':=w.heap.size) B.size;have B:=B.after b4 B.size;have hi:i=x.length:=by obtain⟨_,_,h⟩:=o.shape;injection h
  subst hi;go_loopw [9] (fun i wr=>∃k:Nat,k<=x.length/\i=aO k/\bB 3 w wr (aD p x q) (hH N l x m k)/\(∀g,(Value.slice p x.length q).ownBlock=some g->w.heap.size<g)/\bK wr w 27 #[(N:Int),aD a l c]/\Below w w wr) (fun i _=>x.length-(intOf i).toNat)
  .exact⟨0,aZ _,rfl,o,O,K,B⟩
  clear O;obtain⟨k,hk,rfl,ow,O,Kr,Br⟩:=hrel;clear o K B;have HO:=aT ow;have Z:=aT O;clear ow O;by_cases hlt:k<x.length
  .have c6:(k:Int)<(x.length:Int):=aA;have M:=JP N l x m k;rcases HO.out.cases with⟨h1,h2⟩|⟨g,cap,h1,n0,n3⟩
   .rw[h2]at M;simp at M;omega
   .injection h1 with h1 h3 h4;subst h1 h4;have o0:=Z.out g rfl;clear h3;have a8:k<(hH N l x m k).length:=aA;have co:=HO.out.cellAt M.symm k a8;have ob:=i7.out k hk _ (aX a8);have f5:(hH N l x m k).getD k 0=(hH N l x m k)[k]:=cJ _ k a8;have a7:k<m.length:=by have:=j0.out;omega
    have cm:=bY f0 j5 Br aU k a7;have im:=fun W=>c5 W k a7;have mb:=i8.out k a7;have f4:m.getD k 0=m[k]:=cJ _ k a7;have j6:=SG N l (hH N l x m k) k;have a9:hH N l x m (k+1)=if (hH N l x m k).getD k 0<m.getD k 0 then (hH N l x m k).set k (min ((hH N l x m k).getD k 0+sV N l (hH N l x m k) k) (m.getD k 0)) else hH N l x m k:=rfl;rw[f5,f4]at a9;have hcl:=fun(W:World) (h1:Ints W (aD a l c) l) (h2:Ints W (aD (some ⟨g,0,none⟩) x q) (hH N l x m k))=>WG W N _ l h1 _ _ h2 k (by have:=e7.out;omega);obtain⟨C,hC⟩:=aW (sV N l (hH N l x m k) k);obtain⟨F,c9⟩:=aW ((hH N l x m k)[k]);obtain⟨mv,c8⟩:=aW (m[k]);simp only[<-hC]at hcl;rw[<-hC,<-c9,<-c8]at a9;rw[<-hC]at j6;rw[<-c9]at co ob;rw[<-c8]at cm mb;have e6:=aT hcl;have g4:=aT a9;have g2:=aT M;have fo:=HO.out.frozenAt M.symm k;have G:=Kr.cell;clear hcl a9 M hC c9 c8 f5 f4 a8 f0 c5;go_wp2_with fail;refine(e6.out _ (hv.below Br aU) HO.out.ints).mono ?_;rintro e' w5 ⟨rfl,b5⟩;have K5:=Kr.keep b5;have o5:=HO.out.keep b5;have B5:=Br.after b5 Br.size;have m4:=keep b5 co;have m3:=keep b5 cm;have m6:=o5.frozenAt g2.out.symm k;have o4:IntKind.i64.wrap (F+C)=F+C:=IntWalk.i64_in _ ⟨aA,aA⟩;have j1:=aT o5;clear co cm fo G o5;by_cases f3:F<mv
    .have e4:=aT f3;go_wp2;go_quiet (fail);go_wp2;go_region
     all_goals go_wp2
     go_roundw
     .have S:∀z,bB 3 w ((w5.drewN z).setCell ⟨g,k,none⟩ (aO (if F+C<mv then F+C else mv))) (aD (some ⟨g,0,none⟩) x q) (hH N l x m (k+1))/\bK ((w5.drewN z).setCell ⟨g,k,none⟩ (aO (if F+C<mv then F+C else mv))) w.heap.size 27 #[(N:Int),aD a l c]/\Below w w ((w5.drewN z).setCell ⟨g,k,none⟩ (aO (if F+C<mv then F+C else mv))):=by
       intro z;have h7:(if F+C<mv then F+C else mv)=min (F+C) mv:=by split<;>omega
       exact akI
      first|exact⟨k+1,aA,cD,(S _).1,Z.out,(S _).2.1,(S _).2.2⟩|(simp only[show(if F+C<mv then F+C else mv)=min (F+C) mv by split<;>omega]at S;exact⟨k+1,aA,cD,(S _).1,Z.out,(S _).2.1,(S _).2.2⟩)|(simp only[show(if F+C<mv then F+C else mv)=min mv (F+C) by split<;>omega]at S;exact⟨k+1,aA,cD,(S _).1,Z.out,(S _).2.1,(S _).2.2⟩)
     exact aY
    .have e4:=aT f3;go_wp2;go_quiet (fail);go_wp2;go_roundw
     .exact⟨k+1,aA,cD,by rw[g4.out,if_neg (by have:=e4.out;omega)];exact j1.out.drewN _,Z.out,K5.drewN _,B5.drewN' _⟩
     exact aY
  .have c6:¬(k:Int)<(x.length:Int):=aA;have f2:k=x.length:=aA;have HK:=aT f2;clear f2;go_wp2;go_ret2;have ho:=HO.out;rw[HK.out]at ho;exact⟨p,x.length,q,by rw[J.out.1];rfl,by rw[J.out.2];exact ho,Br⟩
 .have hlo:jY n m=false:=by unfold jY;rw[bG (by have:=HN.out;omega)];rfl
  have o3:((m.length:Int) != (x.length:Int))=true:=bO;have D:kV n l x m=false:=by unfold kV;rw[hlo];simp
  have I:uY n l x m=[]:=by unfold uY;rw[D];rfl
  have J:=aT (And.intro D I);clear D I hs hb hlo R;exact Q8
end
end Go.Proofs.YtkdbkjjacgigiaaGreatDoor
section
namespace Go.G5
open Go.RowKit
theorem ZZ{P:Program}(t E:TypeId)(ht:P.underlying t=some (.slice E))(K:IntElem P E)(n:Nat)(N:n<=17592186044416)(w:World):
  (Instr.makeSlice t (aO (n:Int)) (aO (n:Int))).run P w=.ok (aD (some ⟨w,0,none⟩) n n) (w.alloc (.cells (madeCells #[aK] n) E))/\bB E w.heap.size (w.alloc (.cells (madeCells #[aK] n) E)) (aD (some ⟨w,0,none⟩) n n) (List.replicate n 0):=by
 obtain⟨i,F,I,h1,D⟩:=K.get;obtain⟨w',z,J,O⟩:=run_make_full (P:=P) w w.heap.size t E i (aO 0) 1 ht F I h1 .i64 .i64 n (by rw[D];omega) (by unfold maxLen;omega) aU;have h2:=run_make_row (P:=P) t E i (aO 0) ht F I h1 rfl .i64 .i64 n (by rw[D];omega) aA w;refine⟨h2,?_⟩;rw[z]at h2;injection h2 with _ h3;subst h3;refine⟨?_,by intro y M;have:=List.eq_of_mem_replicate M;subst this;exact⟨aA,aA⟩⟩;have e:(madeCells (Value.int IntKind.i64 0).cells (n*1)).toList=(List.replicate n (0:Int)).map (Value.int .i64):=by rw[show(Value.int IntKind.i64 0).cells=#[Value.int .i64 0] from rfl,toList_madeCells_one];simp
 rw[e]at J;simpa using J
end Go.G5
namespace Go.Proofs.YtkdbkjjacgigiaaGreatDoor
open Go.RowKit Go.G5 Go.Proofs.Tryz
def C7(n:Int)(l:List Int):Bool:=gP n l&&iW n l
def BP(n:Int):List Int:=List.replicate n.toNat (-2000)
def DU(n:Int):List Int:=List.replicate n.toNat 0
def zG(n:Int)(l:List Int):Bool:=C7 n l&&kV n l (BP n) (DU n)
def sG(n:Int)(l:List Int):List Int:=if C7 n l then uY n l (BP n) (DU n) else []
theorem KQ(w:World)(n:Int)(v:Value)(l:aI)(hv:Ints w v l)(hl:l.length<=1048576):
  Calls prog 199 #[aM #[n,v]] w fun e' w'=>∃ad i c,e'=aQ (aS #[aD ad i c,aG (zG n l)])/\bB 3 w w' (aD ad i c) (sG n l)/\Below w w w':=by
 obtain⟨a,c,rfl⟩:=hv.shape;obtain⟨V,hV⟩:=aW (w.alloc (.cells #[n,aD a l c] 27));have B:Below w w V:=jP hV;have K:bK V w 27 #[n,aD a l c]:=jV hV;go_enter func199,ntmps199;go_wp2_with fail;rw[<-hV];clear hV;refine(A8 n l _ V (hv.below B aU)).mono ?_;rintro e' w1 ⟨rfl,b1⟩;have K:=K.keep b1;have B:=B.after b1 B.size;have G:=K.cell
 cases hg:gP n l with
 |false=>
  have hd:C7 n l=false:=by unfold C7;rw[hg];rfl
  have Y:zG n l=false:=by unfold zG;rw[hd];rfl
  have Z:sG n l=[]:=by unfold sG;rw[hd];rfl
  have R:=aT (And.intro Y Z);clear Y Z hg hd;go_wp2;go_ret2;exact⟨none,0,0,by rw[R.out.1];rfl,by rw[R.out.2];exact bB.nil _ _ _,B⟩
 |true=>
 go_wp2_with fail;clear G;refine(tP n l _ w1 (hv.below B aU) hl).mono ?_;rintro e' w2 ⟨rfl,b2⟩;have K:=K.keep b2;have B:=B.after b2 B.size;have G:=K.cell
 cases hs:iW n l with
 |false=>
  have hd:C7 n l=false:=by unfold C7;rw[hs];simp
  have Y:zG n l=false:=by unfold zG;rw[hd];rfl
  have Z:sG n l=[]:=by unfold sG;rw[hd];rfl
  have R:=aT (And.intro Y Z);clear Y Z hg hd hs;go_wp2;go_ret2;exact⟨none,0,0,by rw[R.out.1];rfl,by rw[R.out.2];exact bB.nil _ _ _,B⟩
 |true=>
 have hd:C7 n l=true:=by unfold C7;rw[hg,hs];rfl
 have Y:zG n l=kV n l (BP n) (DU n):=by unfold zG;rw[hd];rfl
 have Z:sG n l=uY n l (BP n) (DU n):=by unfold sG;rw[hd];rfl
 obtain⟨N,hN,g8⟩:∃N:Nat,n=N/\N<=5:=by obtain⟨N,h1,h2,_⟩:=eJ (LC hg);exact⟨N,h1,h2⟩
 subst hN;have S:BP (N:Int)=List.replicate N (-2000):=by unfold BP;simp
 have a1:DU (N:Int)=List.replicate N 0:=by unfold DU;simp
 have R:=aT (And.intro Y (And.intro Z (And.intro S a1)));clear Y Z hd hg hs S a1;go_wp2_with (at_make;refine nP rfl _ _ _ rfl 3 underlying25 intElem N _ _ rfl rfl rfl rfl aA ?_;intro w3 z b4);have b3:Below w2 w2 w3:=(bJ _ _).grown b4 aU bF;have zk:=K.lt;have K:=K.keep b3;have z:=z.mono (B':=w.heap.size+1) zk;have B:=B.after b3 B.size;obtain⟨g,b0⟩:=aW w2.heap.size;rw[<-b0]at z |-;clear b0 b4 b3 G;obtain⟨F,hlo⟩:∃F:aI,F=List.replicate N (-2000):=⟨_,rfl⟩;have M:F.length=N:=by rw[hlo];simp
 have a9:∀k,(h:k<F.length)->F[k]=-2000:=by subst hlo;intro k h;simp
 have e0:List.replicate N (0:Int)=F.take 0++List.replicate (F.length-0) 0:=by rw[M];simp
 rw[e0]at z;have D:=aT (And.intro hlo (And.intro M a9));clear hlo M a9 e0;go_loopw [19] (fun i wr=>∃k:Nat,k<=N/\i=aO k/\bB 3 (w.heap.size+1) wr (aD (some ⟨g,0,none⟩) N N) (F.take k++List.replicate (F.length-k) 0)/\bK wr w 27 #[(N:Int),aD a l c]/\Below w w wr) (fun i _=>N-(intOf i).toNat)
 .exact⟨0,aZ _,rfl,z,K,B⟩
 obtain⟨k,hk,rfl,o,Kr,Br⟩:=hrel;clear z K B;have HO:=aT o;clear o;have J:=anJ F k (by rw[D.out.2.1];exact hk);rw[D.out.2.1]at J HO;by_cases hlt:k<N
 .have b8:(k:Int)<(N:Int):=aA;have I:∃q,wr.cell? ⟨g,k,none⟩=some q:=⟨_,HO.out.cellAt J.symm k aA⟩;obtain⟨q,I⟩:=I;have g9:=HO.out.frozenAt J.symm k;have h0:=(HO.out.lt g rfl).1;have st:=HO.out.stored J.symm k (-2000) ⟨aA,aA⟩;have a6:k<F.length:=by rw[D.out.2.1];exact hlt
  have fs:=UY F k a6;rw[D.out.2.2 k a6,D.out.2.1]at fs;rw[fs]at st;have B1:=Br.grown st.2 Br.size kF;have K1:=Kr.far (p:=⟨g,k,none⟩) (by show w.heap.size≠g;omega) (aO (-2000));have e9:=aT st.1;clear st fs J a6;go_wp2;go_roundw
  .exact⟨k+1,aA,cD,by rw[D.out.2.1];exact e9.out,K1,B1⟩
  exact aY
 .have b8:¬(k:Int)<(N:Int):=aA;have b7:k=N:=aA;have o:=HO.out;rw[b7,Nat.sub_self,List.take_of_length_le (by rw[D.out.2.1];exact aU)]at o;simp only[List.replicate_zero,List.append_nil]at o;rw[D.out.1,<-R.out.2.2.1]at o;have od:bB 3 (w.heap.size+1) wr.drew (aD (some ⟨g,0,none⟩) N N) (BP (N:Int)):=o.drewN 1;have Kd:bK wr.drew w.heap.size 27 #[(N:Int),aD a l c]:=Kr;have Bd:Below w w wr.drew:=Br.drew;have f4:Ints wr.drew (aD a l c) l:=hv.below Bd aU;have HZ:=aT R.out.2.2.2;have G:=Kr.cell;have Gd:=Kd.cell;have e7:=aT (fun(W:World) (t:Value) (h:Below wr.drew.heap.size wr.drew W) (ht:Ints W t (DU (N:Int)))=>af8 W N _ l (f4.keep h) hl _ _ (od.keep h).ints t _ ht);obtain⟨O,hO⟩:=aW (Obj.cells (madeCells #[aK] N) 3);have h5:∀W,(Instr.makeSlice 25 (aO (N:Int)) (aO (N:Int))).run prog W=.ok (aD (some ⟨W,0,none⟩) N N) (W.alloc O):=by rw[hO];exact fun W=>(ZZ 25 3 underlying25 intElem N aA W).1
  have b9:bB 3 wr (wr.alloc O) (aD (some ⟨wr,0,none⟩) N N) (List.replicate N 0):=by rw[hO];exact(ZZ 25 3 underlying25 intElem N aA wr).2
  have e8:=aT (b9.drewN 1);have K5:bK (wr.alloc O) w.heap.size 27 #[(N:Int),aD a l c]:=Kr.alloc O;have G5:=K5.cell;have b5:Below wr.drew.heap.size wr.drew (wr.alloc O).drew:=cQ wr.drew O;have B5:Below w w (wr.alloc O).drew:=Bd.after b5 Bd.size;clear o b7 hO b9;go_wp2_with fail;go_region_law
   (go_simp;go_at_call 274;refine(e7.out (wr.alloc O).drew _ b5 (by rw[HZ.out];exact e8.out.ints)).mono ?_;rintro e' w6 ⟨p6,i6,q6,rfl,o6,b6⟩)
  all_goals
   go_wp2;go_ret2;exact⟨p6,i6,q6,by rw[R.out.1];rfl,by rw[R.out.2.1];exact o6.mono B5.size,B5.after b6 B5.size⟩
theorem UT(w:World)(n:Int)(v:Value)(l:aI)(hv:Ints w v l)(hl:l.length<=1048576):
  Calls prog 26 #[aM #[n,v]] w fun e' w'=>∃ad i c,e'=aQ (aS #[aD ad i c,aG (zG n l)])/\bB 3 w w' (aD ad i c) (sG n l)/\Below w w w':=by
 obtain⟨a,c,rfl⟩:=hv.shape;obtain⟨V,hV⟩:=aW (w.alloc (.cells #[n,aD a l c] 27));have B:Below w w V:=jP hV;have K:bK V w 27 #[n,aD a l c]:=jV hV;go_enter func26,ntmps26;go_wp2_with fail;rw[<-hV];clear hV;refine(A9 n l _ V (hv.below B aU)).mono ?_;rintro e' w1 ⟨rfl,b1⟩;have K:=K.keep b1;have B:=B.after b1 B.size;have G:=K.cell
 cases hg:gP n l with
 |false=>
  have hd:C7 n l=false:=by unfold C7;rw[hg];rfl
  have D:zG n l=false:=by unfold zG;rw[hd];rfl
  have I:sG n l=[]:=by unfold sG;rw[hd];rfl
  have J:=aT (And.intro D I);clear D I hg hd;go_wp2;go_ret2;exact⟨some ⟨w1,0,none⟩,0,0,by rw[J.out.1];rfl,by rw[J.out.2];exact bB.lit0 _ B.size,B.after (cQ _ _) B.size⟩
 |true=>
 go_wp2_with fail;clear G;refine(tQ n l _ w1 (hv.below B aU) hl).mono ?_;rintro e' Y ⟨rfl,b2⟩;have K:=K.keep b2;have B:=B.after b2 B.size;have G:=K.cell
 cases hs:iW n l with
 |false=>
  have hd:C7 n l=false:=by unfold C7;rw[hs];simp
  have D:zG n l=false:=by unfold zG;rw[hd];rfl
  have I:sG n l=[]:=by unfold sG;rw[hd];rfl
  have J:=aT (And.intro D I);clear D I hg hd hs;exact Q8
 |true=>
 have hd:C7 n l=true:=by unfold C7;rw[hg,hs];rfl
 have D:zG n l=kV n l (BP n) (DU n):=by unfold zG;rw[hd];rfl
 have I:sG n l=uY n l (BP n) (DU n):=by unfold sG;rw[hd];rfl
 obtain⟨N,hN,j4⟩:∃N:Nat,n=N/\N<=5:=by obtain⟨N,h1,h2,_⟩:=eJ (LC hg);exact⟨N,h1,h2⟩
 subst hN;have h0:BP (N:Int)=List.replicate N (-2000):=by unfold BP;simp
 have h8:DU (N:Int)=List.replicate N 0:=by unfold DU;simp
 have J:=aT (And.intro D (And.intro I (And.intro h0 h8)));clear D I hd hg hs h0 h8;obtain⟨W0,e9⟩:=aW ((Y.alloc (.cells #[] 3)).alloc (.cells #[] 3));have b0:Below Y Y W0:=iJ e9;have zk:=K.lt;have ox:bB 3 (w.heap.size+1) W0 (aD (some ⟨Y,0,none⟩) 0 0) (List.replicate 0 (-2000)):=by rw[e9];exact(bB.lit0 Y zk).alloc _
 have oz:bB 3 (w.heap.size+1) W0 (aD (some ⟨Y+1,0,none⟩) 0 0) (List.replicate 0 0):=by rw[e9];exact(bB.lit0' Y _).mono zk
 have ap:cB (aD (some ⟨Y,0,none⟩) 0 0) (aD (some ⟨Y+1,0,none⟩) 0 0):=fun k h1 h2=>by have e1:Y.heap.size=k:=cI h1;have e2:Y.heap.size+1=k:=cI h2;omega
 have K:=K.keep b0;have B:=B.after b0 B.size;go_wp2_with fail;rw[<-e9];clear e9 b0 G;go_loopw [4,5,6] (fun x z i wr=>∃(k:Nat) (a1:Option Addr) (n1 c1:Nat) (a2:Option Addr) (n2 c2:Nat),k<=N/\i=aO k/\x=aD a1 n1 c1/\z=aD a2 n2 c2/\bB 3 (w.heap.size+1) wr (aD a1 n1 c1) (List.replicate k (-2000))/\bB 3 (w.heap.size+1) wr (aD a2 n2 c2) (List.replicate k 0)/\cB (aD a1 n1 c1) (aD a2 n2 c2)/\bK wr w 27 #[(N:Int),aD a l c]/\Below w w wr) (fun _ _ i _=>N-(intOf i).toNat)
 .exact⟨0,_,_,_,_,_,_,aZ _,rfl,rfl,rfl,ox,oz,ap,K,B⟩
 obtain⟨k,a1,n1,c1,a2,n2,c2,hk,rfl,rfl,rfl,e5,f9,k5,Kr,Br⟩:=hrel;clear ox oz ap K B;have G:=Kr.cell;by_cases hlt:k<N
 .have c6:(k:Int)<(N:Int):=aA
  have s5:=Kr.lt;go_wp2_with (first
   |(at_builtin;refine kX rfl _ _ _ rfl 3 underlying25 intElem (w.heap.size+1) (aD a1 n1 c1) (List.replicate k (-2000)) (-2000) _ rfl rfl (cR _ _ _ _ _ rfl) (e5.alloc _) ⟨aA,aA⟩ bO bO ?_;intro v5 w5 o5 g5 h5;obtain⟨p5,i5,q5,rfl⟩:=o5.shape3;have k1:=(f9.alloc (.cells #[aO (-2000)] 3)).growA g5 k5;have k6:=h5.apart k5 (fun q hq=>(((f9.alloc (.cells #[aO (-2000)] 3))).lt q hq).2);have B5:=(Br.after (cQ wr (.cells #[aO (-2000)] 3)) Br.size).grown g5 bO (fun q hq=>by have:=(e5.lt q hq).1;omega);have K5:=(Kr.alloc (.cells #[aO (-2000)] 3)).grow g5 (fun e=>by have:=(e5.lt _ e).1;omega);have z5:=K5.lt)
   |(at_builtin;refine kX rfl _ _ _ rfl 3 underlying25 intElem (w.heap.size+1) (aD a2 n2 c2) (List.replicate k 0) 0 _ rfl rfl (cR _ _ _ _ _ rfl) (k1.alloc _) ⟨aA,aA⟩ bO bO ?_;intro v6 w6 o6 g6 h6;obtain⟨p6,i6,q6,rfl⟩:=o6.shape3))
  have p8:=(o5.alloc (.cells #[aK] 3)).growA g6 k6.symm;have l9:=(h6.apart k6.symm (fun q hq=>((o5.alloc (.cells #[aK] 3)).lt q hq).2)).symm;have B6:=(B5.after (cQ w5 (.cells #[aK] 3)) B5.size).grown g6 bO (fun q hq=>by have:=(k1.lt q hq).1;omega);have K6:=(K5.alloc (.cells #[aK] 3)).grow g6 (fun e=>by have:=(k1.lt _ e).1;omega);go_roundw
  .exact⟨k+1,p5,i5,q5,p6,i6,q6,aA,cD,rfl,rfl,by rw[List.replicate_succ'];exact p8,by rw[List.replicate_succ'];exact o6,l9,K6,B6⟩
  exact aY
 .have c6:¬(k:Int)<(N:Int):=aA;have j7:k=N:=aA;rw[j7,<-J.out.2.2.1]at e5;rw[j7,<-J.out.2.2.2]at f9;have HO:=aT (And.intro e5 f9);clear j7 e5 f9;have e6:=aT (af9 wr N _ l (hv.below Br aU) hl _ _ HO.out.1.ints _ _ HO.out.2.ints);go_wp2_with (go_at_call 81;refine e6.out.mono ?_;rintro e' w6 ⟨p6,i6,q6,rfl,o6,b6⟩);go_ret2;exact⟨p6,i6,q6,by rw[J.out.1];rfl,by rw[J.out.2.1];exact o6.mono Br.size,Br.after b6 Br.size⟩
end Go.Proofs.YtkdbkjjacgigiaaGreatDoor
end
namespace Go.Proofs.YtkdbkjjacgigiaaGreatDoor
section
open Go.RowKit Go.G5 Go.Proofs.Tryz
variable(w:World)(n:Int)(v:Value)(l:aI)
def E6(n:Int)(l:List Int):Int:=if jQ n l then 5 else 0
def E8(n:Int)(l:List Int):Int:=if jQ n l then n else 0
def E7(n:Int)(l:List Int):List Int:=if jQ n l then l else []
theorem wV(hv:Ints w v l)(hl:l.length<=1048576):
  Calls prog 208 #[aM #[n,v]] w fun e w'=>∃ad i cp,e=aQ (aM #[n,aD ad i cp])/\bB 3 w w' (aD ad i cp) l/\Below w w w':=by
 obtain⟨a,c,rfl⟩:=hv.shape;have F:([]:aI).length+l.length<=17592186044416:=bO;have b5:=aT F;clear F;go_enter func208,ntmps208;go_wp2_with fail;obtain⟨V,D⟩:=aW ((w.alloc (.cells #[n,aD a l c] 27)).alloc (.cells #[aK,()] 27));rw[<-D];have B:Below w w V:=iJ D;have R:bK V w 27 #[n,aD a l c]:=iQ D;have K2:bK V (w+1) 27 #[aK,()]:=jL D;clear D;have Z:=hv.below B aU;have e1:V.cell? ⟨w,0,none⟩=some (aO n):=R.cell 0;have e2:V.cell? ⟨w,1,none⟩=some (aD a l c):=R.cell 1;have z2:=K2.lt;have z1:=R.lt;go_region_held3 (fun w'=>w'.cell? ⟨w,0,none⟩=some (aO n)/\w'.cell? ⟨w,1,none⟩=some (aD a l c)) (go_keep)
  (first
   |(go_at_call 287;refine(nI _ l _ ?_ hl).mono ?_;(with_reducible exact Z.drew');rintro b6 w7 ⟨J,I,K,rfl,a1,N⟩;have o7:bB 3 V w7 (aD J I K) l:=a1;have M:=(K2.drewN 1).keep N;have G2:=M.cell;have F2:=M.frozen;have z7:=M.lt;obtain⟨b8,b9⟩:=jN N V.heap.size aU))
 go_wp2;refine cT ?_;intro Wf z;have S:bK Wf (w+1) 27 #[n,aD J I K]:=by rw[z];have:=(M.set 0 (aO n)).set 1 (aD J I K);simpa using this
 have hg:w7.grownBy Wf (some (w.heap.size+1)):=by rw[z];exact cX (cX (dO _ _) 0 _) 1 _
 have O:Below w w w7:=by first|exact B.after N B.size|exact(B.drewN' 1).after N B.size
 have y7:=O.size;have yB:=B.size;have Bf:Below w w Wf:=O.grown hg O.size kF;have of:=(o7.grow hg (fun q hq Y=>by have:=cI hq;have:=(o7.lt q Y).1;omega)).mono (B':=w.heap.size) aA;have Gf:=S.cell;clear z;exact bW (v:=aM #[n,aD J I K]) (by simp[results,results208,go_sem,Gf]) rfl ⟨J,I,K,rfl,of,Bf⟩
theorem wY(hv:Ints w v l)(hl:l.length<=1048576):
  Calls prog 25 #[aM #[n,v]] w fun e w'=>∃ad i cp,e=aQ (aM #[n,aD ad i cp])/\bB 3 w w' (aD ad i cp) l/\Below w w w':=by
 obtain⟨a,c,rfl⟩:=hv.shape;have F:([]:aI).length+l.length<=17592186044416:=bO;have R:=aT F;clear F;go_enter func25,ntmps25;go_wp2_with fail;obtain⟨V,D⟩:=aW ((w.alloc (.cells #[n,aD a l c] 27)).alloc (.cells #[aK,()] 27));rw[<-D];have B:Below w w V:=iJ D;have S:bK V w 27 #[n,aD a l c]:=iQ D;have K2:bK V (w+1) 27 #[aK,()]:=jL D;clear D;have a1:=hv.below B aU;have e1:V.cell? ⟨w,0,none⟩=some (aO n):=S.cell 0;have e2:V.cell? ⟨w,1,none⟩=some (aD a l c):=S.cell 1;have z2:=K2.lt;have z1:=S.lt;go_region_held3 (fun w'=>w'.cell? ⟨w,0,none⟩=some (aO n)/\w'.cell? ⟨w,1,none⟩=some (aD a l c)) (go_keep)
  (first
   |(refine jT rfl _ _ _ rfl 3 underlying25 intElem V.heap.size (aD (some ⟨_,0,none⟩) 0 0) [] rfl (aD a l c) l rfl ?_ ?_ R.out V ?_ aU ?_;(with_reducible exact(bB.lit0 V aU).drew');(with_reducible exact(a1.alloc _).drew');(with_reducible exact(cQ V _).drew);(intro v7 w7 o7 J _;obtain⟨M,K,N,rfl⟩:=o7.shape3;have I:=K2.keep J;have G2:=I.cell;have F2:=I.frozen;have z7:=I.lt;obtain⟨b5,b6⟩:=jN J V.heap.size aU)))
 go_wp2;refine cT ?_;intro Wf z;have Y:bK Wf (w+1) 27 #[n,aD M K N]:=by rw[z];have:=(I.set 0 (aO n)).set 1 (aD M K N);simpa using this
 have hg:w7.grownBy Wf (some (w.heap.size+1)):=by rw[z];exact cX (cX (dO _ _) 0 _) 1 _
 have O:Below w w w7:=by first|exact B.after J B.size|exact(B.drewN' 1).after J B.size
 have y7:=O.size;have yB:=B.size;have Bf:Below w w Wf:=O.grown hg O.size kF;have of:=(o7.grow hg (fun q hq Z=>by have:=cI hq;have:=(o7.lt q Z).1;omega)).mono (B':=w.heap.size) aA;have Gf:=Y.cell;clear z;exact bW (v:=aM #[n,aD M K N]) (by simp[results,results25,go_sem,Gf]) rfl ⟨M,K,N,rfl,of,Bf⟩
theorem aj6{p:Prop}(h:p:=by
  rw[D];have:=(((((((((K7.set 0 (aO 5)).set 1 (aO n)).set 2 (aD p7 i7 q7)).set 3 (aO 0)).set 4 (aD none 0 0)).set 5 (aO 0)).set 6 (aD none 0 0)).set 7 (aO cn)).set 8 (aO cs)).set 9 (aD none 0 0);simpa using this):p:=h
theorem aj7{p:Prop}(h:p:=by
  rw[D];have:=(((((((((K2.set 0 (aO 0)).set 1 (aO 0)).set 2 (aD none 0 0)).set 3 (aO 0)).set 4 (aD none 0 0)).set 5 (aO 0)).set 6 (aD none 0 0)).set 7 (aO 0)).set 8 (aO 0)).set 9 (aD none 0 0);simpa using this):p:=h
theorem rY{p:Prop}(h:p:=by
  rw[D];exact(cX (cX (cX (cX (cX (cX (cX (cX (cX (cX (dO _ _) 0 _) 1 _) 2 _) 3 _) 4 _) 5 _) 6 _) 7 _) 8 _) 9 _)):p:=h
theorem abR(hv:Ints w v l)(hl:l.length<=1048576):
  Calls prog 139 #[aM #[n,v]] w fun e w'=>∃p0 i0 J p1 i1 q1 p2 i2 q2 p3 i3 q3,e=aQ (aS #[aM #[(E6 n l),(E8 n l),aD p0 i0 J,aK,aD p1 i1 q1,aK,aD p2 i2 q2,(mA n l),(nU n l),aD p3 i3 q3],aG (jQ n l)])/\cY 3 w.heap.size w' (aD p0 i0 J) (E7 n l)/\cY 3 w.heap.size w' (aD p1 i1 q1) []/\cY 3 w.heap.size w' (aD p2 i2 q2) []/\cY 3 w.heap.size w' (aD p3 i3 q3) []/\(cB (aD p0 i0 J) (aD p1 i1 q1)/\cB (aD p0 i0 J) (aD p2 i2 q2)/\cB (aD p0 i0 J) (aD p3 i3 q3)/\cB (aD p1 i1 q1) (aD p2 i2 q2)/\cB (aD p1 i1 q1) (aD p3 i3 q3)/\cB (aD p2 i2 q2) (aD p3 i3 q3))/\Below w w w':=by
 obtain⟨a,c,rfl⟩:=hv.shape;go_enter func139,ntmps139;go_wp2_with fail;refine cZ ?_;intro V hV;have B:Below w w V:=iJ hV;have O:bK V w 27 #[n,aD a l c]:=iQ hV;have K2:bK V (w+1) 34 #[aK,aK,(),aK,(),aK,(),aK,aK,()]:=jL hV;clear hV;refine aV (VE _ n _ l (hv.below B aU) hl) ?_;intro w1 g9;have O:=O.keep g9;have K2:=K2.keep g9;have B1:=B.after g9 B.size;have j8:=hv.below B1 aU;have z1:=O.lt;have z2:=K2.lt;clear g9 B
 cases z:jQ n l with
 |false=>
  have F:E6 n l=0:=by unfold E6;rw[z];rfl
  have hN:E8 n l=0:=by unfold E8;rw[z];rfl
  have I:E7 n l=[]:=by unfold E7;rw[z];rfl
  have vI:mA n l=0:=by unfold mA;rw[z];rfl
  have h5:nU n l=0:=by unfold nU;rw[z];rfl
  have H:=aT (And.intro F (And.intro hN (And.intro I (And.intro vI h5))));have HB:=aT z;clear F hN I vI h5 z;have G2:=K2.cell;have F2:=K2.frozen;go_wp2;refine cT ?_;intro Wf D;have j2:bK Wf (w+1) 34 #[aK,aK,(),aK,(),aK,(),aK,aK,()]:=by exact aj7
  have hg:w1.grownBy Wf (some (w.heap.size+1)):=by exact rY
  have Bf:Below w w Wf:=B1.grown hg B1.size kF;have Gf:=j2.cell;clear D G2 F2;obtain⟨F,hN,I,vI,h5⟩:=H.out;exact bW (v:=aS #[aM #[aK,aK,(),aK,(),aK,(),aK,aK,()],aG false]) (by simp[results,results139,go_sem,Gf]) rfl
   ⟨none,0,0,none,0,0,none,0,0,none,0,0,by rw[F,hN,vI,h5,HB.out],by rw[I];exact cY.nil _ _ _,cY.nil _ _ _,cY.nil _ _ _,cY.nil _ _ _,
    ⟨cB.nil _ _ _,cB.nil _ _ _,cB.nil _ _ _,cB.nil _ _ _,cB.nil _ _ _,cB.nil _ _ _⟩,Bf⟩
 |true=>
  have F:E6 n l=5:=by unfold E6;rw[z];rfl
  have hN:E8 n l=n:=by unfold E8;rw[z];rfl
  have I:E7 n l=l:=by unfold E7;rw[z];rfl
  have H:=aT (And.intro F (And.intro hN I));have HB:=aT z;obtain⟨cn,j6⟩:=aW (mA n l);obtain⟨cs,j7⟩:=aW (nU n l);rw[<-j6,<-j7];have m7:=aT j6;have m8:=aT j7;clear F hN I z j6 j7;have G1:=O.cell;go_wp2_with fail;refine(wV _ n _ l j8 hl).mono ?_;rintro e w7 ⟨p7,i7,q7,rfl,o7,j5⟩;have K7:=K2.keep j5;have B7:=B1.after j5 B1.size;have l4:=o7.toW.mono (B':=w.heap.size+2) aA;have G2:=K7.cell;have F2:=K7.frozen;have z7:=K7.lt;clear j5 G1 o7;go_wp2;refine cT ?_;intro Wf D;have j2:bK Wf (w+1) 34 #[aO 5,n,aD p7 i7 q7,aK,(),aK,(),cn,cs,()]:=by exact aj6
  have hg:w7.grownBy Wf (some (w.heap.size+1)):=by exact rY
  have y7:=B7.size;have Bf:Below w w Wf:=B7.grown hg B7.size kF;have f7:=(l4.grow hg (fun q hq K=>by have:=cI hq;have:=(l4.lt q K).1;omega)).mono (B':=w.heap.size) aA;have Gf:=j2.cell;clear D;obtain⟨F,hN,I⟩:=H.out;exact bW (v:=aS #[aM #[aO 5,n,aD p7 i7 q7,aK,(),aK,(),cn,cs,()],aG true]) (by simp[results,results139,go_sem,Gf]) rfl
   ⟨p7,i7,q7,none,0,0,none,0,0,none,0,0,by rw[F,hN,m7.out,m8.out,HB.out],by rw[I];exact f7,cY.nil _ _ _,cY.nil _ _ _,cY.nil _ _ _,
    ⟨(cB.nil _ _ _).symm,(cB.nil _ _ _).symm,(cB.nil _ _ _).symm,cB.nil _ _ _,cB.nil _ _ _,cB.nil _ _ _⟩,Bf⟩
theorem abS(hv:Ints w v l)(hl:l.length<=1048576):
  Calls prog 163 #[aM #[n,v]] w fun e w'=>∃p0 i0 J p1 i1 q1 p2 i2 q2 p3 i3 q3,e=aQ (aS #[aM #[(E6 n l),(E8 n l),aD p0 i0 J,aK,aD p1 i1 q1,aK,aD p2 i2 q2,(mA n l),(nU n l),aD p3 i3 q3],aG (jQ n l)])/\cY 3 w.heap.size w' (aD p0 i0 J) (E7 n l)/\cY 3 w.heap.size w' (aD p1 i1 q1) []/\cY 3 w.heap.size w' (aD p2 i2 q2) []/\cY 3 w.heap.size w' (aD p3 i3 q3) []/\(cB (aD p0 i0 J) (aD p1 i1 q1)/\cB (aD p0 i0 J) (aD p2 i2 q2)/\cB (aD p0 i0 J) (aD p3 i3 q3)/\cB (aD p1 i1 q1) (aD p2 i2 q2)/\cB (aD p1 i1 q1) (aD p3 i3 q3)/\cB (aD p2 i2 q2) (aD p3 i3 q3))/\Below w w w':=by
 obtain⟨a,c,rfl⟩:=hv.shape;go_enter func163,ntmps163;go_wp2_with fail;refine cZ ?_;intro V hV;have B:Below w w V:=iJ hV;have O:bK V w 27 #[n,aD a l c]:=iQ hV;have K2:bK V (w+1) 34 #[aK,aK,(),aK,(),aK,(),aK,aK,()]:=jL hV;clear hV;refine aV (VF _ n _ l (hv.below B aU) hl) ?_;intro w1 g9;have O:=O.keep g9;have K2:=K2.keep g9;have B1:=B.after g9 B.size;have j8:=hv.below B1 aU;have z1:=O.lt;have z2:=K2.lt;clear g9 B
 cases z:jQ n l with
 |false=>
  have F:E6 n l=0:=by unfold E6;rw[z];rfl
  have hN:E8 n l=0:=by unfold E8;rw[z];rfl
  have I:E7 n l=[]:=by unfold E7;rw[z];rfl
  have vI:mA n l=0:=by unfold mA;rw[z];rfl
  have h5:nU n l=0:=by unfold nU;rw[z];rfl
  have H:=aT (And.intro F (And.intro hN (And.intro I (And.intro vI h5))));have HB:=aT z;clear F hN I vI h5 z;have G2:=K2.cell;have F2:=K2.frozen;go_wp2;refine cT ?_;intro Wf D;have j2:bK Wf (w+1) 34 #[aK,aK,(),aK,(),aK,(),aK,aK,()]:=by exact aj7
  have hg:w1.grownBy Wf (some (w.heap.size+1)):=by exact rY
  have Bf:Below w w Wf:=B1.grown hg B1.size kF;have Gf:=j2.cell;clear D G2 F2;obtain⟨F,hN,I,vI,h5⟩:=H.out;exact bW (v:=aS #[aM #[aK,aK,(),aK,(),aK,(),aK,aK,()],aG false]) (by simp[results,results163,go_sem,Gf]) rfl
   ⟨none,0,0,none,0,0,none,0,0,none,0,0,by rw[F,hN,vI,h5,HB.out],by rw[I];exact cY.nil _ _ _,cY.nil _ _ _,cY.nil _ _ _,cY.nil _ _ _,
    ⟨cB.nil _ _ _,cB.nil _ _ _,cB.nil _ _ _,cB.nil _ _ _,cB.nil _ _ _,cB.nil _ _ _⟩,Bf⟩
 |true=>
  have F:E6 n l=5:=by unfold E6;rw[z];rfl
  have hN:E8 n l=n:=by unfold E8;rw[z];rfl
  have I:E7 n l=l:=by unfold E7;rw[z];rfl
  have H:=aT (And.intro F (And.intro hN I));have HB:=aT z;obtain⟨cn,j6⟩:=aW (mA n l);obtain⟨cs,j7⟩:=aW (nU n l);rw[<-j6,<-j7];have m7:=aT j6;have m8:=aT j7;clear F hN I z j6 j7;have G1:=O.cell;go_wp2_with fail;refine(wY _ n _ l j8 hl).mono ?_;rintro e w7 ⟨p7,i7,q7,rfl,o7,j5⟩;have K7:=K2.keep j5;have B7:=B1.after j5 B1.size;have l4:=o7.toW.mono (B':=w.heap.size+2) aA;have G2:=K7.cell;have F2:=K7.frozen;have z7:=K7.lt;clear j5 G1 o7;go_wp2;refine cT ?_;intro Wf D;have j2:bK Wf (w+1) 34 #[aO 5,n,aD p7 i7 q7,aK,(),aK,(),cn,cs,()]:=by exact aj6
  have hg:w7.grownBy Wf (some (w.heap.size+1)):=by exact rY
  have y7:=B7.size;have Bf:Below w w Wf:=B7.grown hg B7.size kF;have f7:=(l4.grow hg (fun q hq K=>by have:=cI hq;have:=(l4.lt q K).1;omega)).mono (B':=w.heap.size) aA;have Gf:=j2.cell;clear D;obtain⟨F,hN,I⟩:=H.out;exact bW (v:=aS #[aM #[aO 5,n,aD p7 i7 q7,aK,(),aK,(),cn,cs,()],aG true]) (by simp[results,results163,go_sem,Gf]) rfl
   ⟨p7,i7,q7,none,0,0,none,0,0,none,0,0,by rw[F,hN,m7.out,m8.out,HB.out],by rw[I];exact f7,cY.nil _ _ _,cY.nil _ _ _,cY.nil _ _ _,
    ⟨(cB.nil _ _ _).symm,(cB.nil _ _ _).symm,(cB.nil _ _ _).symm,cB.nil _ _ _,cB.nil _ _ _,cB.nil _ _ _⟩,Bf⟩
