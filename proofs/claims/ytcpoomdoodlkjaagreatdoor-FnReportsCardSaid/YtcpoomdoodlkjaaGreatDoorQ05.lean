/- Lemmas for CardReports. No condition. -/
import Derived.Test.YtcpoomdoodlkjaaGreatDoorQ04
import Derived.Shelf.Abstract
import Derived.Deep.RegionLaw
import Derived.StillTailTactics
set_option maxRecDepth 100000
set_option maxHeartbeats 64000000
namespace Go.Proofs.YtcpoomdoodlkjaaGreatDoor
section
open Go.RowKit Go.G5 Go.Proofs.Tryz
def kC(l x:List Int)(e:Nat):Nat->Int
 |0=>100000
 |k+1=>if dO (k:Int) e=1 then min (kC l x e k) (dZ l x k) else kC l x e k
def oY(l x:List Int)(e:Nat):Nat->Option Int
 |0=>none
 |k+1=>if dO (k:Int) e=1 then (match oY l x e k with|none=>some (dZ l x k)|some m=>if dZ l x k<m then some (dZ l x k) else some m) else oY l x e k
def rF(n:Int)(l x:List Int)(e:Nat):Bool:=lJ n l x&&decide ((e:Int)<n)
def mL(n:Int)(l x:List Int)(e:Nat):Int:=if rF n l x e then kC l x e l.length else 0
theorem aiI(x:List Int)(s:Int)(h:∀k,(hk:k<x.length)->-5000<=x[k]/\x[k]<=5000)(k:Nat)(hk:k<=x.length):-5000*(k:Int)<=pU x s k/\pU x s k<=5000*(k:Int):=by
 induction k with
 |zero=>simp[pU]
 |succ k ih=>
  have h1:=ih aK;have h2:=h k aK;rw[pU,List.getD_eq_getElem?_getD,List.getElem?_eq_getElem (show k<x.length by omega),Option.getD_some]
  split<;>omega
theorem II(l x:List Int)(z:∀k,(hk:k<l.length)->-1000<=l[k]/\l[k]<=1000)(F:∀k,(hk:k<x.length)->-5000<=x[k]/\x[k]<=5000)(I:x.length<=6)(k:Nat)(hk:k<l.length):-31000<=dZ l x k/\dZ l x k<=31000:=by
 have h1:=z k hk;have h2:=aiI x k F x.length aO;have D:l.getD (k:Int).toNat 0=l[k]:=by simp[hk]
 unfold dZ wt;rw[D];omega
theorem ahX(l x:List Int)(e:Nat)(hb:∀k,k<l.length->dZ l x k<=31000):∀k,k<=l.length->(∀m,oY l x e k=some m->kC l x e k=m/\m<=31000)/\(oY l x e k=none->kC l x e k=100000):=by
 intro k
 induction k with
 |zero=>intro _;exact⟨fun m h=>(by rw[oY]at h;cases h),fun _=>rfl⟩
 |succ k ih=>
  intro hk;obtain⟨h1,h2⟩:=ih aK;have h3:=hb k aK;rw[oY,kC];by_cases z:dO (k:Int) e=1
  ·rw[if_pos z,if_pos z]
   cases F:oY l x e k with
   |none=>rw[h2 F];refine⟨fun m h=>?_,fun h=>by cases h⟩;have D:dZ l x k=m:=Option.some.inj h;omega
   |some q=>
    obtain⟨h4,I⟩:=h1 q F;rw[h4];refine⟨fun m h=>?_,fun h=>?_⟩
    ·by_cases hlt:dZ l x k<q
     ·simp only[if_pos hlt]at h;have D:dZ l x k=m:=Option.some.inj h;omega
     ·simp only[if_neg hlt]at h;have D:q=m:=Option.some.inj h;omega
    ·by_cases hlt:dZ l x k<q
     ·simp only[if_pos hlt]at h;cases h
     ·simp only[if_neg hlt]at h;cases h
  ·rw[if_neg z,if_neg z];exact⟨h1,h2⟩
theorem agM(l x:List Int)(e:Nat):∀k,2^e<k->∃m,oY l x e k=some m:=by
 intro k
 induction k with
 |zero=>intro h;exact absurd h (Nat.not_lt_zero _)
 |succ k ih=>
  intro hk;rw[oY];by_cases hlt:2^e<k
  ·obtain⟨m,hm⟩:=ih hlt;rw[hm];by_cases z:dO (k:Int) e=1
   ·rw[if_pos z];by_cases h:dZ l x k<m
    ·exact⟨dZ l x k,by simp only[if_pos h]⟩
    ·exact⟨m,by simp only[if_neg h]⟩
   ·rw[if_neg z];exact⟨m,rfl⟩
  ·have D:k=2^e:=aK
   have z:dO (k:Int) e=1:=by
    subst D;unfold dO;have F:(2:Int)^e≠0:=by have:=Nat.two_pow_pos e;have h:((2^e:Nat):Int)=(2:Int)^e:=(by push_cast;rfl);omega
    push_cast
    rw[Int.ediv_self F]
    rfl
   rw[if_pos z]
   cases oY l x e k with
   |none=>exact⟨_,rfl⟩
   |some m=>
    by_cases h:dZ l x k<m
    ·exact⟨dZ l x k,by simp only[if_pos h]⟩
    ·exact⟨m,by simp only[if_neg h]⟩
theorem YB(W:World)(g e s:Nat)(F:e<6)(I:s<1073741824)(d:W.cell? ⟨g,0,none⟩=some (aM (e:Int))):
  Calls prog 304 #[(s:Int),.pointer (some ⟨g,0,none⟩)] W fun D w'=>D=.returned (.bool (dO (s:Int) e==1))/\Below W W w':=by
 have z:=jO (s:Int) e aK aK;go_enter func304,ntmps304;go_wp2;go_ret;exact⟨rfl,Below.refl _ _⟩
theorem E5:∀args w,(callFunc 304 args).run prog w=.ok (.enter 304 args) w:=enters_of func304 aT rfl
theorem MW(w:World)(n:Int)(v:Value)(l:List Int)(hv:aR w v l)(u:Value)(x:List Int)(hu:aR w u x)(e g:Nat)(he:e<6)(d:w.cell? ⟨g,0,none⟩=some (aM (e:Int)))(c5:l.length<=64)
  (b9:∀k,(hk:k<l.length)->-1000<=l[k]/\l[k]<=1000) (hx:∀k,(hk:k<x.length)->-5000<=x[k]/\x[k]<=5000) (c7:x.length<=6):
  Calls prog 303 #[.agg #[n,v],u,.func (.func 304) #[] #[.pointer (some ⟨g,0,none⟩)]] w fun S w'=>S=.returned (aM ((oY l x e l.length).getD 0))/\Below w w w':=by
 obtain⟨a,c,rfl⟩:=hv.shape;obtain⟨b,cu,rfl⟩:=hu.shape;have b8:=World.block_lt_of_cell? w _ d;have e7:=E5;obtain⟨V,hV⟩:=aQ (w.alloc (.cells #[n,aI a l.length c] 26));have B:Below w w V:=fU hV;have K:aU V w 26 #[n,aI a l.length c]:=eJ hV;have HD:=aN (And.intro d b8);have HX:=aN (And.intro b9 (And.intro hx c7));go_enter func303,ntmps303;go_wp2_with fail;rw[<-hV];clear hV;go_loopw [7,8,13] (fun m f i wr=>∃k:Nat,k<=l.length/\i=aM k/\m=aM ((oY l x e k).getD 0)/\f=.bool (oY l x e k).isSome/\aU wr w 26 #[n,aI a l.length c]/\Below w w wr) (fun _ _ i _=>l.length-(intOf i).toNat)
 case atStart=>exact⟨0,Nat.zero_le _,rfl,rfl,rfl,K,B⟩
 case round=>
  obtain⟨k,hk,rfl,rfl,rfl,Kr,Br⟩:=hrel;clear K B;have K:=Kr;have B:=Br;by_cases hlt:k<l.length
  ·have b0:(k:Int)<(l.length:Int):=aK;have hcl:=YB wr g e k he aK ((B.cell (p:=⟨g,0,none⟩) HD.out.2).trans HD.out.1);have J:=fun(W:World) (h:Below w w W)=>OV n l (aI a l.length c) x (aI b x.length cu) k W (hv.below h aO) (hu.below h aO) aK aK c5 HX.out.1 HX.out.2.1 HX.out.2.2;have c6:=II l x HX.out.1 HX.out.2.1 HX.out.2.2 k hlt;have z:oY l x e (k+1)=if dO (k:Int) e=1 then (match oY l x e k with|none=>some (dZ l x k)|some m=>if dZ l x k<m then some (dZ l x k) else some m) else oY l x e k:=rfl;obtain⟨r,hr⟩:=aQ (dZ l x k);simp only[<-hr]at J c6 z;have R:=aN J;by_cases D:dO (k:Int) e=1
   ·have ht:(dO (k:Int) e==1)=true:=by simp[D]
    rw[if_pos D]at z;rw[ht]at hcl;have M:=aN hcl
    cases hq:oY l x e k with
    |none=>
     rw[hq]at z;have F:=aN z;clear z hcl J hr D ht hq;have G:=K.cell;go_wp2_with fail;refine M.out.mono ?_;rintro S w3 ⟨rfl,O⟩;have N:=K.keep O;have I:=B.after O B.size;have G3:=N.cell;go_wp2_with fail;refine(R.out w3 I).mono ?_;rintro S w4 ⟨rfl,Y⟩;have K4:=N.keep Y;have Z:=I.after Y I.size;go_wp2;go_roundw
     case rel=>exact⟨k+1,by omega,by go_num,by rw[F.out];rfl,by rw[F.out];rfl,K4,Z⟩
     case measure=>simp[intOf];omega
    |some m=>
     rw[hq]at z;by_cases a9:r<m
     ·simp only[if_pos a9]at z;have F:=aN z;clear z hcl J hr D ht hq;have G:=K.cell;go_wp2_with fail;refine M.out.mono ?_;rintro S w3 ⟨rfl,O⟩;have N:=K.keep O;have I:=B.after O B.size;have G3:=N.cell;go_wp2_with fail;refine(R.out w3 I).mono ?_;rintro S w4 ⟨rfl,Y⟩;have K4:=N.keep Y;have Z:=I.after Y I.size;have G4:=K4.cell;go_wp2_with fail;refine(R.out w4 Z).mono ?_;rintro S w5 ⟨rfl,b5⟩;have K5:=K4.keep b5;have B5:=Z.after b5 Z.size;go_wp2;go_roundw
      case rel=>exact⟨k+1,by omega,by go_num,by rw[F.out];rfl,by rw[F.out];rfl,K5,B5⟩
      case measure=>simp[intOf];omega
     ·simp only[if_neg a9]at z;have F:=aN z;clear z hcl J hr D ht hq;have G:=K.cell;go_wp2_with fail;refine M.out.mono ?_;rintro S w3 ⟨rfl,O⟩;have N:=K.keep O;have I:=B.after O B.size;have G3:=N.cell;go_wp2_with fail;refine(R.out w3 I).mono ?_;rintro S w4 ⟨rfl,Y⟩;have K4:=N.keep Y;have Z:=I.after Y I.size;go_wp2;go_roundw
      case rel=>exact⟨k+1,by omega,by go_num,by rw[F.out];rfl,by rw[F.out];rfl,K4,Z⟩
      case measure=>simp[intOf];omega
   ·have ht:(dO (k:Int) e==1)=false:=by simp[D]
    rw[if_neg D]at z;rw[ht]at hcl;have M:=aN hcl;have F:=aN z;clear z hcl J hr D ht;have G:=K.cell;go_wp2_with fail;refine M.out.mono ?_;rintro S w3 ⟨rfl,O⟩;have N:=K.keep O;have I:=B.after O B.size;have G3:=N.cell;go_wp2;go_roundw
    case rel=>exact⟨k+1,by omega,by go_num,by rw[F.out],by rw[F.out],N,I⟩
    case measure=>simp[intOf];omega
  ·have b0:¬(k:Int)<(l.length:Int):=aK;have a8:k=l.length:=aK;have HK:=aN a8;clear a8;go_wp2;go_ret;exact⟨fI (by rw[<-HK.out]),B⟩
theorem AD{n:Int}{l x:List Int}(h:lJ n l x=true):∃N:Nat,n=N/\N<=5/\l.length=2^N/\l.length<=32/\x.length=N/\(∀k,(hk:k<l.length)->-1000<=l[k]/\l[k]<=1000)/\(∀k,(hk:k<x.length)->-5000<=x[k]/\x[k]<=5000)/\∀k:Nat,k<l.length->0<=dZ l x k:=by
 unfold lJ at h;simp only[Bool.and_eq_true]at h;obtain⟨⟨h1,h2⟩,h3⟩:=h;obtain⟨I,J,hl,D⟩:=lB (MS h1);have M:=kJ I J;obtain⟨K,F⟩:=JY h2;have z:l.length=2^n.toNat:=by
  have h4:((2^n.toNat:Nat):Int)=(2:Int)^n.toNat:=by push_cast;rfl
  omega
 exact⟨n.toNat,by omega,by omega,z,by omega,by omega,D,F,XW l x _ h3⟩
theorem aaH{n:Int}{l x:List Int}{e:Nat}(h:rF n l x e=true):(oY l x e l.length).getD 0=kC l x e l.length/\0<=kC l x e l.length/\kC l x e l.length<=31000:=by
 unfold rF at h;obtain⟨h1,h2⟩:=Bool.and_eq_true_iff.1 h;have h2:=of_decide_eq_true h2;obtain⟨N,rfl,K,D,J,O,F,I,M⟩:=AD h1;have hlt:2^e<l.length:=by rw[D];exact Nat.pow_lt_pow_right aY aK
 obtain⟨m,hm⟩:=agM l x e l.length hlt;have hb:=(ahX l x e (fun k hk=>(II l x F I aK k hk).2) l.length aO).1 m hm;have z:∀k,k<=l.length->0<=kC l x e k:=by
  intro k
  induction k with
  |zero=>intro _;simp[kC]
  |succ k ih=>
   intro hk;have:=ih aK;have:=M k aK;rw[kC]
   split<;>omega
 rw[hm];have:=z l.length aO;exact⟨hb.1.symm,this,by omega⟩
theorem ahO(l x:List Int)(e:Nat)(z:∀k:Nat,k<l.length->0<=dZ l x k):∀k,k<=l.length->0<=kC l x e k/\kC l x e k<=100000:=by
 intro k
 induction k with
 |zero=>intro _;simp[kC]
 |succ k ih=>
  intro hk;have:=ih aK;have:=z k aK;rw[kC]
  split<;>omega
theorem LS(n:Int)(l x:List Int)(e:Nat):0<=mL n l x e/\mL n l x e<=31000:=by
 unfold mL
 split
 ·rename_i h;exact(aaH h).2
 ·omega
theorem P7(n:Int)(e:Nat)(F:e<6)(w:World):
  Calls prog 302 #[n,(e:Int)] w fun z w'=>z=.returned (.bool (decide ((e:Int)<n)))/\w=w':=by
 have D:(0:Int)<=(e:Int):=aK;go_enter func302,ntmps302;go_wp2;go_ret;exact⟨rfl,rfl⟩
theorem PC(w:World)(n:Int)(v:Value)(l:List Int)(hv:aR w v l)(u:Value)(x:List Int)(hu:aR w u x)(e:Nat)(he:e<6):
  Calls prog 272 #[.agg #[n,v],u,(e:Int)] w fun R w'=>R=.returned (.tuple #[(mL n l x e),.bool (rF n l x e)])/\Below w w w':=by
 obtain⟨a,c,rfl⟩:=hv.shape;obtain⟨b,cu,rfl⟩:=hu.shape;have b7:∀(fn:Fn) (first cap:Array Value) (w:World),(Instr.makeFunc fn first cap).run prog w=.ok (.func fn first cap) w:=fun _ _ _ _=>rfl;obtain⟨V,S⟩:=aQ ((w.alloc (.cells #[n,aI a l.length c] 26)).alloc (.cells #[(e:Int)] 3));have B:Below w w V:=gD S;have K:aU V w 26 #[n,aI a l.length c]:=gO S;have KE:aU V (w.heap.size+1) 3 #[(e:Int)]:=gY S;go_enter func272,ntmps272;go_wp2_with fail;rw[<-S];clear S;refine(C0 V n _ l (hv.below B aO) _ x (hu.below B aO)).mono ?_;rintro R w1 ⟨rfl,b1⟩;have K:=K.keep b1;have KE:=KE.keep b1;have B:=B.after b1 B.size;have G:=K.cell;have GE:=KE.cell
 cases hb:lJ n l x with
 |false=>
  have D:rF n l x e=false:=by unfold rF;rw[hb];rfl
  have J:mL n l x e=0:=by unfold mL;rw[D];rfl
  have F:=aN (And.intro D J);clear D J hb;go_wp2;go_ret2;exact⟨by rw[F.out.1,F.out.2];rfl,B⟩
 |true=>
  obtain⟨N,rfl,b6,Y,I,Z,M,O,hs⟩:=AD hb;have HE:=aN (P7 (N:Int) e he w1);by_cases z:(e:Int)<(N:Int)
  ·have D:rF N l x e=true:=by unfold rF;rw[hb,decide_eq_true z];rfl
   have J:mL N l x e=(oY l x e l.length).getD 0:=by unfold mL;rw[D,(aaH D).1];rfl
   have F:=aN (And.intro D J);have hd:=decide_eq_true z;rw[hd]at HE;have HL:=aN (MW w1 N _ l (hv.below B aO) _ x (hu.below B aO) e (w.heap.size+1) he (KE.cell 0) aK M O aK);clear D J hb Y I Z M O hs hd z;go_wp2_with (first|(go_at_call 302;refine HE.out.mono ?_;rintro R w' ⟨rfl,rfl⟩)|(go_at_call 303;refine HL.out.mono ?_;rintro R w2 ⟨rfl,b2⟩));go_ret2;exact⟨by rw[F.out.1,F.out.2];rfl,B.after b2 B.size⟩
  ·have D:rF N l x e=false:=by unfold rF;rw[decide_eq_false z];simp
   have J:mL N l x e=0:=by unfold mL;rw[D];rfl
   have F:=aN (And.intro D J);have hd:=decide_eq_false z;rw[hd]at HE;clear D J hb Y I Z M O hs hd z;go_wp2_with (go_at_call 302;refine HE.out.mono ?_;rintro R w' ⟨rfl,rfl⟩);go_ret2;exact⟨by rw[F.out.1,F.out.2];rfl,B⟩
theorem PD(w:World)(n:Int)(v:Value)(l:List Int)(hv:aR w v l)(u:Value)(x:List Int)(hu:aR w u x)(e:Nat)(he:e<6):
  Calls prog 275 #[.agg #[n,v],u,(e:Int)] w fun e' w'=>e'=.returned (.tuple #[(mL n l x e),.bool (rF n l x e)])/\Below w w w':=by
 obtain⟨a,b,f7,c,rfl,e8,a7,hc,d0⟩:=hv.view prog 24 3 underlying24 aS;obtain⟨au,cu,rfl⟩:=hu.shape;obtain⟨V,hV⟩:=aQ (w.alloc (.cells #[n,aI a l.length c] 26));have B:Below w w V:=fU hV;have K:aU V w 26 #[n,aI a l.length c]:=eJ hV;go_enter func275,ntmps275;go_wp2_with fail;rw[<-hV];clear hV;refine(DA V n _ l (hv.below B aO) _ x (hu.below B aO)).mono ?_;rintro e' w1 ⟨rfl,b1⟩;have K:=K.keep b1;have B:=B.after b1 B.size;have G:=K.cell
 cases hb:lJ n l x with
 |false=>
  have M:rF n l x e=false:=by unfold rF;rw[hb];rfl
  have J:mL n l x e=0:=by unfold mL;rw[M];rfl
  have S:=aN (And.intro M J);clear M J hb;go_wp2;go_ret2;exact⟨by rw[S.out.1,S.out.2];rfl,B⟩
 |true=>
  obtain⟨N,rfl,f3,a9,b0,b8,O,R,hs⟩:=AD hb;have I:eZ (e:Int) 0 ((N:Int)-1)=decide ((e:Int)<(N:Int)):=by
   by_cases h:(e:Int)<(N:Int)
   ·rw[decide_eq_true h];exact dK.2 ⟨by omega,by omega⟩
   ·rw[decide_eq_false h]
    cases hq:eZ (e:Int) 0 ((N:Int)-1) with
    |false=>rfl
    |true=>have:=dK.1 hq;omega
  have hw:IntKind.i64.wrap ((N:Int)-1)=(N:Int)-1:=IntWalk.i64_in _ ⟨by omega,by omega⟩;by_cases F:(e:Int)<(N:Int)
  ·have M:rF N l x e=true:=by unfold rF;rw[hb,decide_eq_true F];rfl
   have J:mL N l x e=kC l x e l.length:=by unfold mL;rw[M];rfl
   have S:=aN (And.intro M J);rw[decide_eq_true F]at I;have Z:=aN I;have c9:=aN R;have c6:=aN O;have c7:=aN (ahO l x e hs);have c8:=aN (II l x O R aK);have f6:x.length<=6:=aK;clear M J hb a9 b8 hs F I R O;go_wp2_with (go_at_call 174;refine(cQ _ _ _ _).mono ?_;rintro e' w' ⟨rfl,rfl⟩;rw[Z.out]);clear G;go_loopw [8,9] (fun m i wr=>∃k:Nat,k<=l.length/\i=aM k/\m=aM (kC l x e k)/\aU wr w 26 #[(N:Int),aI a l.length c]/\Below w w wr) (fun _ i _=>l.length-(intOf i).toNat)
   case atStart=>exact⟨0,Nat.zero_le _,rfl,rfl,K,B⟩
   case round=>
    obtain⟨k,hk,rfl,rfl,Kr,Br⟩:=hrel;clear K B;have K:=Kr;have B:=Br;have G:=K.cell;clear Kr Br;by_cases hlt:k<l.length
    ·have b3:(k:Int)<(l.length:Int):=aK;have e7:=jO (k:Int) e aK aK;have D:kC l x e (k+1)=if dO (k:Int) e=1 then min (kC l x e k) (dZ l x k) else kC l x e k:=rfl;have d5:=c7.out k hk;by_cases z:dO (k:Int) e=1
     ·have ht:(dO (k:Int) e==1)=true:=by simp[z]
      rw[if_pos z]at D;have b5:dZ l x k=l[k]-wt x k:=by unfold dZ;simp[hlt]
      have b4:=c8.out k hlt;rw[b5]at D b4;have ck:=aW hc d0 B aO k hlt;have ik:=fun W=>a7 W k hlt;have d6:=c6.out k hlt;obtain⟨q,hq⟩:=aQ (wt x (k:Int));obtain⟨C,hC⟩:=aQ (kC l x e k);obtain⟨y,J⟩:=aQ (l[k]);have b7:∀W,aR W (aI au x.length cu) x->Calls prog 305 #[aI au x.length cu,(k:Int)] W fun e w'=>e=.returned q/\W=w':=by rw[hq];exact fun W h=>tB x _ _ W h aK aK (fun j hj=>by have:=c9.out j hj;omega) aK
      have b6:=hu.below B aO;rw[<-hq,<-J,<-hC]at D;rw[<-hq,<-J]at b4;rw[<-hC]at d5 ⊢;rw[<-J]at ck d6;have a6:=aN b7;have Y:=aN D;have f5:IntKind.i64.wrap (y-q)=y-q:=IntWalk.i64_in _ ⟨by omega,by omega⟩;clear D b7 hq hC J b5 z hc a7;go_wp2;go_quiet ((go_at_call 305;first|exact iX (a6.out _ (b6.drewN _))|exact kF (a6.out _ (b6.drewN _))));go_wp2;go_roundw
      case rel=>exact⟨k+1,by omega,by go_num,by rw[Y.out]<;>(congr 1<;>(split<;>omega)),K.drewN _,B.drewN' _⟩
      case measure=>simp[intOf];omega
     ·have ht:(dO (k:Int) e==1)=false:=by simp[z]
      rw[if_neg z]at D;have Y:=aN D;clear D z;go_wp2;go_roundw
      case rel=>exact⟨k+1,by omega,by go_num,by rw[Y.out],K,B⟩
      case measure=>simp[intOf];omega
    ·have b3:¬(k:Int)<(l.length:Int):=aK;have a8:k=l.length:=aK;have HK:=aN a8;clear a8;go_wp2;go_ret2;exact⟨by rw[S.out.1,S.out.2,<-HK.out];rfl,B⟩
  ·have M:rF N l x e=false:=by unfold rF;rw[decide_eq_false F];simp
   have J:mL N l x e=0:=by unfold mL;rw[M];rfl
   have S:=aN (And.intro M J);rw[decide_eq_false F]at I;have Z:=aN I;clear M J hb a9 b0 b8 O R hs F I;go_wp2_with (go_at_call 174;refine(cQ _ _ _ _).mono ?_;rintro e' w' ⟨rfl,rfl⟩;rw[Z.out]);go_ret2;exact⟨by rw[S.out.1,S.out.2];rfl,B⟩
structure BoxAt (wr:World) (B:Nat) (x y:Value):Prop where
 d0:wr.cell? ⟨B,0,none⟩=some x
 d1:wr.cell? ⟨B,1,none⟩=some y
 f0:wr.frozen? ⟨B,0,none⟩=false
 f1:wr.frozen? ⟨B,1,none⟩=false
theorem BoxAt.lt{wr:World}{B:Nat}{x y:Value}(h:BoxAt wr B x y):B<wr.heap.size:=World.block_lt_of_cell? wr _ h.d0
theorem BoxAt.keep{wr w2:World}{B:Nat}{x y:Value}(h:BoxAt wr B x y)(hb:Below wr wr w2):BoxAt w2 B x y:=
 ⟨G5.keep hb h.d0,G5.keep hb h.d1,(hb.frozen (p:=⟨B,0,none⟩) h.lt).trans h.f0,(hb.frozen (p:=⟨B,1,none⟩) h.lt).trans h.f1⟩
theorem BoxAt.grow{wr w2:World}{row:Option Nat}{B:Nat}{x y:Value}(h:BoxAt wr B x y)(D:wr.grownBy w2 row)(z:row≠some B):BoxAt w2 B x y:=
 ⟨G5.grown_keep D h.d0 (fun k hk e=>z (by rw[hk,<-e])),G5.grown_keep D h.d1 (fun k hk e=>z (by rw[hk,<-e])),
  by rw[World.frozen?_of_block (D.block B h.lt (fun e=>z e.symm))];exact h.f0,by rw[World.frozen?_of_block (D.block B h.lt (fun e=>z e.symm))];exact h.f1⟩
theorem BoxAt.set1{wr:World}{B:Nat}{x y:Value}(h:BoxAt wr B x y)(v:Value):BoxAt (wr.setCell ⟨B,1,none⟩ v) B x v:=
 ⟨by rw[World.cell?_setCell_other _ _ _ _ (by simp)];exact h.d0,World.cell?_setCell_same _ _ _ h.d1,by rw[World.frozen?_setCell];exact h.f0,by rw[World.frozen?_setCell];exact h.f1⟩
theorem BoxAt.other{wr:World}{B B' j:Nat}{x y:Value}(h:BoxAt wr B x y)(z:B'≠B)(v:Value):BoxAt (wr.setCell ⟨B',j,none⟩ v) B x y:=
 ⟨by rw[World.cell?_setCell_other _ _ _ _ (fun e=>z (congrArg Addr.block e))];exact h.d0,by rw[World.cell?_setCell_other _ _ _ _ (fun e=>z (congrArg Addr.block e))];exact h.d1,by rw[World.frozen?_setCell];exact h.f0,by rw[World.frozen?_setCell];exact h.f1⟩
theorem BoxAt.new(w:World)(x y:Value)(T:TypeId):BoxAt (w.alloc (.cells #[x,y] T)) w.heap.size x y:=
 ⟨bB w #[x,y] T 0 _ rfl,bB w #[x,y] T 1 _ rfl,World.frozen?_alloc_at _ _ _ _ rfl,World.frozen?_alloc_at _ _ _ _ rfl⟩
def bW(P:Nat->Bool)(k:Nat):List Int:=((List.range k).filter P).map Int.ofNat
theorem fM(P:Nat->Bool)(k:Nat):bW P (k+1)=if P k then bW P k++[(k:Int)] else bW P k:=by
 unfold bW;rw[List.range_succ,List.filter_append,List.map_append];by_cases h:P k=true
 ·simp[h]
 ·simp[h]
theorem fJ(P:Nat->Bool)(k:Nat):(bW P k).length<=k:=by
 unfold bW;rw[List.length_map];have:=List.length_filter_le P (List.range k);simpa using this
theorem wT(w:World)(n:Nat)(hn:n<=6)(c:FuncId)(he:∀args w,(callFunc c args).run prog w=.ok (.enter c args) w)(g:Nat)(P:Nat->Bool)
  (hw:∀(s:Nat) W',s<2^n->Below w w W'->Calls prog c #[(s:Int),.pointer (some ⟨g,0,none⟩)] W' fun e w2=>e=.returned (.bool (P s))/\Below W' W' w2):
  Calls prog 191 #[(n:Int),.func (.func c) #[] #[.pointer (some ⟨g,0,none⟩)]] w fun e w'=>
   ∃ad i F,e=.returned (.agg #[(n:Int),aI ad i F])/\aP 3 w w' (aI ad i F) (bW P (2^n))/\Below w w w':=by
 have Z:(2:Nat)^n<=64:=Nat.pow_le_pow_right aY hn;have a8:=Nat.two_pow_pos n;have K:((2^n:Nat):Int)=(2:Int)^n:=by simp
 obtain⟨N,hN⟩:∃N:Nat,N=2^n:=⟨_,rfl⟩;rw[<-hN]at hw Z a8 K ⊢;have HN:=aN hN;clear hN;have r0:=(BoxAt.new w (aM 0) (aI none 0 0) 31);have r1:=r0.keep (bF _ (.cells #[n,()] 31));have b1:=BoxAt.new (w.alloc (.cells #[aJ,()] 31)) (aM n) (aI none 0 0) 31;go_enter func191,ntmps191;go_wp2_with fail;go_loopw [12] (fun i wr=>∃(k:Nat) (ad:Option Addr) (M F:Nat),k<=N/\i=aM k/\aP 3 (w.heap.size+1+1) wr (aI ad M F) (bW P k)/\Below w w wr /\
   BoxAt wr w.heap.size (aM 0) (aI none 0 0)/\BoxAt wr (w.heap.size+1) (aM n) (aI ad M F))
  (fun i _=>N-(intOf i).toNat)
 case atStart=>exact⟨0,none,0,0,Nat.zero_le _,rfl,aP.nil _ _ _,(by repeat(first|exact Below.refl _ _|(with_reducible refine Below.setCell ?_ (by first|omega|(simp;done)|(simp;omega)) _)|(with_reducible refine Below.alloc ?_ (by first|omega|(simp;done)|(simp;omega)) _)|(with_reducible refine Below.drewN' ?_ _)|(with_reducible refine Below.drew ?_)|(with_reducible assumption)|refine Below.trans ?_ (Below.mono (by assumption) (by first|omega|(simp;done)|(simp;omega))))),r1,by simpa using b1⟩
 case round=>
  obtain⟨k,ad,M,F,hk,rfl,Y,B,R,X⟩:=hrel;clear r0 r1 b1;by_cases hlt:k<N
  ·have S:(k:Int)<2^n:=by rw[<-K];exact_mod_cast hlt
   have hcl:=hw k wr hlt B;have zr:=R.lt;have zx:=X.lt
   cases hP:P k with
   |false=>
    rw[hP]at hcl;go_wp2_with (go_at_fn c;refine hcl.mono ?_;rintro e w2 ⟨rfl,z⟩);go_roundw
    case rel=>exact⟨k+1,ad,M,F,by omega,by go_num,by rw[fM,hP];exact Y.keep z,B.after z B.size,R.keep z,X.keep z⟩
    case measure=>simp[intOf];omega
   |true=>
    rw[hP]at hcl;have O:=fJ P k;have c7:(bW P k).length<=64:=Nat.le_trans O (Nat.le_trans hk Z);go_wp2_with (first
     |(go_at_fn c;refine hcl.mono ?_;rintro e w2 ⟨rfl,z⟩;have d9:=(X.keep z).lt;obtain⟨e0,e1,g0,g1⟩:=X.keep z)
     |(at_builtin;refine cZ rfl _ _ _ rfl 3 underlying24 aS (w.heap.size+1+1) _ _ (k:Int) w2.heap.size rfl rfl (by simp) ((Y.keep z).alloc _) ⟨by omega,by omega⟩ aK aV ?_;intro v' w6 I J;obtain⟨av,nv,cv,rfl⟩:=I.shape3;have D:=(Y.keep z).lt;have X6:=((X.keep z).keep (bF _ (.cells #[k] 3))).grow J (fun e=>by have:=(D _ e).1;omega);have R6:=((R.keep z).keep (bF _ (.cells #[k] 3))).grow J (fun e=>by have:=(D _ e).1;omega);obtain⟨i0,i1,j0,j1⟩:=X6))
    have B6:Below w w w6:=((B.after z B.size).alloc (B.after z B.size).size (.cells #[k] 3)).grown J (by have:=(B.after z B.size).size;simp;omega) (fun q hq=>by have:=(D q hq).1;omega);go_roundw
    case rel=>exact⟨k+1,av,nv,cv,by omega,by go_num,by rw[fM,if_pos hP];exact I.setBelow (by first|omega|(simp;done)|(simp;omega)) _,B6.setCell (by first|omega|(simp;done)|(simp;omega)) _,R6.other aK _,(BoxAt.mk i0 i1 j0 j1).set1 _⟩
    case measure=>simp[intOf];omega
  ·have S:¬(k:Int)<2^n:=by rw[<-K];exact_mod_cast hlt
   have a7:k=N:=aK;obtain⟨e0,e1,g0,g1⟩:=X;obtain⟨e2,e3,g2,g3⟩:=R;go_wp2;refine bodyPost_ret (v:=.agg #[n,aI ad M F]) (by simp[results,results191,go_sem,e2,e3]) rfl ⟨ad,M,F,rfl,?_,?_⟩
   ·rw[a7]at Y;exact((Y.setBelow (by first|omega|(simp;done)|(simp;omega)) _).setBelow (by first|omega|(simp;done)|(simp;omega)) _).mono (by first|omega|(simp;done)|(simp;omega))
   ·exact Below.setCell (Below.setCell B aO _) aO _
def eR(F:Nat->Int)(k:Nat):List Int:=(List.range k).map F
theorem xA(F:Nat->Int)(k:Nat):eR F (k+1)=eR F k++[F k]:=by unfold eR;rw[List.range_succ,List.map_append];rfl
theorem G8(w:World)(n:Nat)(hn:n<=5)(c:FuncId)(he:∀args w,(callFunc c args).run prog w=.ok (.enter c args) w)(g:Nat)(F:Nat->Int)(hF:∀s,s<2^n->dD (F s))
  (hw:∀(s:Nat) W',s<2^n->Below w w W'->Calls prog c #[(s:Int),.pointer (some ⟨g,0,none⟩)] W' fun e w2=>e=.returned (F s)/\Below W' W' w2):
  Calls prog 262 #[(n:Int),.func (.func c) #[] #[.pointer (some ⟨g,0,none⟩)]] w fun e w'=>
   ∃ad i I,e=.returned (.tuple #[.agg #[aM (if bM n (eR F (2^n)) then (n:Int) else 0),aI ad i I],.bool (bM n (eR F (2^n)))])/\aP 3 w w' (aI ad i I) (if bM n (eR F (2^n)) then eR F (2^n) else [])/\Below w w w':=by
 have b5:(2:Nat)^n<=32:=Nat.pow_le_pow_right aY hn;have b4:=Nat.two_pow_pos n;have O:((2^n:Nat):Int)=(2:Int)^n:=by simp
 obtain⟨N,hN⟩:∃N:Nat,N=2^n:=⟨_,rfl⟩;rw[<-hN]at hw hF b5 b4 O ⊢;clear hN;have r0:=(BoxAt.new w (aM 0) (aI none 0 0) 26);have r1:=r0.keep (bF _ (.cells #[n,()] 26));have b1:=BoxAt.new (w.alloc (.cells #[aJ,()] 26)) (aM n) (aI none 0 0) 26;go_enter func262,ntmps262;go_wp2_with fail;go_loopw [13] (fun i wr=>∃(k:Nat) (ad:Option Addr) (Z I:Nat),k<=N/\i=aM k/\aP 3 (w.heap.size+1+1) wr (aI ad Z I) (eR F k)/\Below w w wr /\
   BoxAt wr w.heap.size (aM 0) (aI none 0 0)/\BoxAt wr (w.heap.size+1) (aM n) (aI ad Z I))
  (fun i _=>N-(intOf i).toNat)
 case atStart=>exact⟨0,none,0,0,Nat.zero_le _,rfl,aP.nil _ _ _,(by repeat(first|exact Below.refl _ _|(with_reducible refine Below.setCell ?_ (by first|omega|(simp;done)|(simp;omega)) _)|(with_reducible refine Below.alloc ?_ (by first|omega|(simp;done)|(simp;omega)) _)|(with_reducible refine Below.drewN' ?_ _)|(with_reducible refine Below.drew ?_)|(with_reducible assumption)|refine Below.trans ?_ (Below.mono (by assumption) (by first|omega|(simp;done)|(simp;omega))))),r1,by simpa using b1⟩
 case round=>
  obtain⟨k,ad,Z,I,hk,rfl,S,B,R,X⟩:=hrel;clear r0 r1 b1;by_cases hlt:k<N
  ·have Y:(k:Int)<2^n:=by rw[<-O];exact_mod_cast hlt
   have zr:=R.lt;have zx:=X.lt;have b0:=hF k hlt;have d5:(eR F k).length=k:=by simp[eR]
   have f4:(eR F k).length<=64:=aK;have D:=S.lt;have HO:=aN S;have HR:=aN R;have K:=aN X;obtain⟨e0,e1,g0,g1⟩:=X;clear S R;have hcl:=hw k wr.drew hlt B.drew;clear hw;go_wp2;go_region_law
     (first
      |(go_simp;go_at_fn c;refine hcl.mono ?_;rintro e w2 ⟨rfl,z⟩;have X2:=K.out.keep ((Below.refl _ _).drew.after z aO);have X3:=X2.keep (bF w2 (.cells #[(F k)] 3));have f9:=X2.lt;have x1:=X2.d1;have x2:=X2.f1;have x3:=X3.d1;have x4:=X3.f1)
      |(refine rU rfl _ _ _ rfl 3 underlying24 aS (w.heap.size+1+1) _ _ (F k) w2.heap.size rfl rfl (bB w2 #[(F k)] 3 0 _ rfl) ((HO.out.keep ((Below.refl _ _).drew.after z aO)).alloc (.cells #[(F k)] 3)) b0 aK aV ?_;intro v' w6 J M;obtain⟨av,nv,cv,rfl⟩:=J.shape3;have X6:=X3.grow M (fun e=>by have:=(D _ e).1;omega);obtain⟨i0,i1,j0,j1⟩:=X6))
   all_goals
    have B6:Below w w w6:=(((B.drew).after z B.size).alloc (B.drew.after z B.size).size (.cells #[(F k)] 3)).grown M aV (fun q hq=>by have:=(D q hq).1;omega);have R6:=((HR.out.keep ((Below.refl _ _).drew.after z aO)).keep (bF w2 (.cells #[(F k)] 3))).grow M (fun e=>by have:=(D _ e).1;omega);go_wp2;go_roundw
    case rel=>exact⟨k+1,av,nv,cv,by omega,by go_num,by rw[xA];exact J.setBelow (by first|omega|(simp;done)|(simp;omega)) _,B6.setCell (by first|omega|(simp;done)|(simp;omega)) _,R6.other aK _,(BoxAt.mk i0 i1 j0 j1).set1 _⟩
    case measure=>simp[intOf];omega
  ·have Y:¬(k:Int)<2^n:=by rw[<-O];exact_mod_cast hlt
   have b3:k=N:=aK;subst b3;have HO:=aN S;have HR:=aN R;have K:=aN X;obtain⟨e0,e1,g0,g1⟩:=X;have hi:=S.ints;clear S hw R;go_wp2_with fail;refine(dV n _ _ _ hi).mono ?_;rintro e w2 ⟨rfl,z⟩;have B2:=B.after z B.size;have o2:=HO.out.keep z;have a7:=aN o2;obtain⟨f0,f1,j0,j1⟩:=HR.out.keep z;obtain⟨i0,i1,q0,q1⟩:=K.out.keep z;clear e0 e1 g0 g1 z B o2 hi
   cases hf:bM n (eR F k) with
   |false=>
     have HF:=aN hf;go_wp2
     all_goals refine bodyPost_ret (v:=.tuple #[.agg #[aJ,()],.bool false]) (by simp[results,results262,go_sem,f0,f1]) rfl ⟨none,0,0,rfl,aP.nil _ _ _,Below.setCell (Below.setCell B2 aO _) aO _⟩
   |true=>
     have HF:=aN hf;go_wp2;refine bodyPost_ret (v:=.tuple #[.agg #[n,aI ad Z I],.bool true]) (by simp[results,results262,go_sem,f0,f1]) rfl ⟨ad,Z,I,rfl,?_,?_⟩
     ·exact((a7.out.setBelow (by first|omega|(simp;done)|(simp;omega)) _).setBelow (by first|omega|(simp;done)|(simp;omega)) _).mono (by first|omega|(simp;done)|(simp;omega))
     ·exact Below.setCell (Below.setCell B2 aO _) aO _
end
section
open Go.RowKit Go.G5 Go.Proofs.Tryz
end
section
open Go.RowKit Go.G5 Go.Proofs.Tryz
def iN(l:List Int)(s:Nat):Nat->Int
 |0=>0
 |k+1=>if cV k s=0 then (if bR (cV s k)%2=1 then iN l s k-l.getD k 0 else iN l s k+l.getD k 0) else iN l s k
def jI(l:List Int):List Int:=(List.range l.length).map fun s=>iN l s (s+1)
def fO(n:Int)(l:List Int):List Int:=if bM n l then jI l else []
theorem OH(l:List Int)(s:Nat)(h:∀k,(hk:k<l.length)->-1000<=l[k]/\l[k]<=1000)(k:Nat)(hk:k<=l.length):-1000*(k:Int)<=iN l s k/\iN l s k<=1000*(k:Int):=by
 induction k with
 |zero=>simp[iN]
 |succ k ih=>
  have h1:=ih aK;have h2:=h k aK;rw[iN,List.getD_eq_getElem?_getD,List.getElem?_eq_getElem (show k<l.length by omega),Option.getD_some]
  split
  ·split<;>omega
  ·omega
theorem lL(l:List Int):(jI l).length=l.length:=by simp[jI]
theorem J0(l:List Int)(s:Nat)(h:s<(jI l).length):(jI l)[s]=iN l s (s+1):=by simp[jI]
theorem ae6(l:List Int)(s n:Nat)(h:s<n)(hl:s<=l.length):(l.take s++List.replicate (n-s) (0:Int)).set s 0=l.take s++List.replicate (n-s) 0:=by
 rw[show n-s=(n-s-1)+1 by omega,List.replicate_succ];have e:(l.take s).length=s:=by simp;omega
 rw[List.set_append_right _ _ aK,e];simp
theorem abV(l:List Int)(s:Nat)(h:s<l.length):((jI l).take s++List.replicate (l.length-s) (0:Int)).set s (iN l s (s+1))=(jI l).take (s+1)++List.replicate (l.length-(s+1)) 0:=by
 have:=NY (jI l) s (by rw[lL];exact h);simp only[J0,lL]at this;exact this
theorem abW(w:World)(n:Int)(v:Value)(l:List Int)(hv:aR w v l)(_:l.length<=1048576):
  Calls prog 40 #[.agg #[n,v]] w fun e w'=>∃ad i cp,e=.returned (aI ad i cp)/\aP 3 w w' (aI ad i cp) (fO n l)/\Below w w w':=by
 obtain⟨a,b,f8,c,rfl,d8,f3,hc,hb⟩:=hv.view prog 24 3 underlying24 aS;go_enter func40,ntmps40;go_wp2_with fail;refine(dV n l _ _ (hv.alloc _)).mono ?_;rintro e w1 ⟨rfl,a6⟩;have X1:=(Box2.new w n (aI a l.length c) 26).after a6;clear a6
 cases hf:bM n l with
 |false=>
  have hx:fO n l=[]:=by unfold fO;rw[hf];rfl
  have HX:=aN hx;obtain⟨N,d1,B1,z1⟩:=X1;clear hx;go_wp2;go_ret;exact⟨none,0,0,rfl,by rw[HX.out];exact aP.nil _ _ _,B1⟩
 |true=>
  obtain⟨h0,h5,hl,a7⟩:=lB hf;have hp:=kJ h0 h5;have d7:l.length<=32:=aK;have hx:fO n l=jI l:=by unfold fO;rw[hf];rfl
  have HX:=aN hx;have a1:=aN a7;clear hx hl a7 hp;have f7:=X1.z;obtain⟨N,d1,B1,z1⟩:=X1;go_wp2_with (at_make;refine lA rfl _ _ _ rfl 3 underlying24 aS l.length _ _ rfl rfl rfl rfl aK ?_;intro w2 R hg);have X2:=(Box2.mk N d1 B1 z1).grow hg (by simp);have f2:=hg.size;clear hg N d1;go_loopw [15] (fun i wr=>∃s:Nat,s<=l.length/\i=aM s/\aP 3 w1 wr (aI (some ⟨w1,0,none⟩) l.length l.length) ((jI l).take s++List.replicate (l.length-s) 0)/\Box2 w wr n (aI a l.length c))
   (fun i _=>l.length-(intOf i).toNat)
  case atStart=>exact⟨0,Nat.zero_le _,rfl,by simpa using R,X2⟩
  case round=>
   obtain⟨s,hs,rfl,I,X⟩:=hrel;clear R X2;by_cases hlt:s<l.length
   ·go_wp2_with fail
    go_loopw [20] (fun i b1=>∃k:Nat,k<=s+1/\i=aM k/\aP 3 w1 b1 (aI (some ⟨w1,0,none⟩) l.length l.length) (((jI l).take s++List.replicate (l.length-s) 0).set s (iN l s k))/\Box2 w b1 n (aI a l.length c))
     (fun i _=>s+1-(intOf i).toNat)
    case atStart=>exact⟨0,Nat.zero_le _,rfl,by rw[iN,ae6 _ _ _ hlt (by rw[lL];omega)];exact I,X⟩
    case round=>
     obtain⟨k,hk,rfl,I,X⟩:=hrel;have S:=X.B;have Y:=aW hc hb S aO;obtain⟨N,d1,_,z2⟩:=X;have b9:=OH l s a1.out k aK;obtain⟨m,hm⟩:=aQ (iN l s k);rw[<-hm]at b9 I;have F:l.length=(((jI l).take s++List.replicate (l.length-s) 0).set s m).length:=by simp[lL];omega
     have HM:=aN hm;clear hm;by_cases f4:k<s+1
     ·have Z:k<l.length:=aK;have f5:=a1.out k Z;have d6:=Y k Z;have e7:=vS k s aK aK;have e8:=vS s k aK aK;have hd:=xY s k 64 aK;have d9:=rR (cV s k) aK;have M:iN l s (k+1)=if cV k s=0 then (if bR (cV s k)%2=1 then m-l[k] else m+l[k]) else m:=by rw[iN,<-HM.out,List.getD_eq_getElem?_getD,List.getElem?_eq_getElem Z,Option.getD_some]
      have HS:=aN M;have e9:wr.cell? ⟨w1.heap.size,s,none⟩=some (aM m):=by have:=I.cellAt F s aK;rw[this];simp
      have f0:=I.frozenAt F s;clear Y M;by_cases hz:cV k s=0
      ·have ht:(((cV k s:Nat):Int) != 0)=false:=by simp[hz]
       have HZ:=aN hz;clear hz;by_cases J:bR (cV s k)%2=1
       ·have c7:(((bR (cV s k):Nat):Int)%2==1)=true:=by simp;omega
        have D:=I.stored F s (m-l[k]) ⟨by omega,by omega⟩;rw[List.set_set]at D;have K:=aN D;have HD:=aN J;clear D I F J;go_wp2_with (go_at_call 165;refine(gI _ _ aK).mono ?_;rintro e w' ⟨rfl,rfl⟩);go_still_tail 11,aT;go_wp2;go_roundw
        case rel=>exact⟨k+1,by omega,by go_num,by rw[HS.out,if_pos HZ.out,if_pos HD.out];exact K.out.1.drewN 1,((Box2.mk N d1 S z2).grow K.out.2 aV).drewN 1⟩
        case measure=>simp[intOf];omega
       ·have c7:(((bR (cV s k):Nat):Int)%2==1)=false:=by simp;omega
        have D:=I.stored F s (m+l[k]) ⟨by omega,by omega⟩;rw[List.set_set]at D;have K:=aN D;have HD:=aN J;clear D I F J;go_wp2_with (go_at_call 165;refine(gI _ _ aK).mono ?_;rintro e w' ⟨rfl,rfl⟩);go_still_tail 11,aT;go_wp2;go_roundw
        case rel=>exact⟨k+1,by omega,by go_num,by rw[HS.out,if_pos HZ.out,if_neg HD.out];exact K.out.1.drewN 1,((Box2.mk N d1 S z2).grow K.out.2 aV).drewN 1⟩
        case measure=>simp[intOf];omega
      ·have ht:(((cV k s:Nat):Int) != 0)=true:=by simp;omega
       have HZ:=aN hz;have K:=aN I;clear hz I F;go_wp2;go_roundw
       case rel=>exact⟨k+1,by omega,by go_num,by rw[HS.out,if_neg HZ.out];exact K.out,⟨N,d1,S,z2⟩⟩
       case measure=>simp[intOf];omega
     ·have O:k=s+1:=aK;have D:aP 3 w1 wr (aI (some ⟨w1,0,none⟩) l.length l.length) ((jI l).take (s+1)++List.replicate (l.length-(s+1)) 0):=by rw[<-abV l s hlt,<-O,<-HM.out];exact I
      have K:=aN D;clear D I F Y O;go_wp2;go_roundw
      case rel=>exact⟨s+1,by omega,by go_num,K.out,⟨N,d1,S,z2⟩⟩
      case measure=>simp[intOf];omega
   ·have a8:s=l.length:=aK;have D:aP 3 w1 wr (aI (some ⟨w1,0,none⟩) l.length l.length) (jI l):=by have:=I;rw[a8,List.take_of_length_le (by rw[lL];exact aO)]at this;simpa using this
    obtain⟨N,d1,S,z2⟩:=X;have K:=aN D;clear D I a8;go_wp2;go_ret;exact⟨_,_,_,rfl,by rw[HX.out];exact K.out.mono B1.size,S⟩
theorem J9(a b:Nat):cV a b=0↔a &&& b=a:=by
 have:=@Nat.and_le_left a b;unfold cV;omega
theorem ab6(a b:Nat)(h:b &&& a=b):cV a b=a-b:=by unfold cV;rw[Nat.and_comm,h]
theorem VV(l:List Int)(s:Nat)(h:s<l.length):(jI l).take (s+1)=(jI l).take s++[iN l s (s+1)]:=by
 rw[List.take_succ_eq_append_getElem (by rw[lL];exact h),J0]
theorem abX(w:World)(n:Int)(v:Value)(l:List Int)(hv:aR w v l)(_:l.length<=1048576):
  Calls prog 56 #[.agg #[n,v]] w fun e w'=>∃ad i O,e=.returned (aI ad i O)/\aP 3 w w' (aI ad i O) (fO n l)/\Below w w w':=by
 obtain⟨a,b,g9,c,rfl,f3,g5,hc,hb⟩:=hv.view prog 24 3 underlying24 aS;have X0:=Box2.new w n (aI a l.length c) 26;have o0:aP 3 (w.heap.size+1) ((w.alloc (.cells #[n,aI a l.length c] 26)).alloc (.cells #[] 3)) (aI (some ⟨w.heap.size+1,0,none⟩) 0 0) []:=by have:=aP.lit0 (E:=3) (B:=w.heap.size+1) (w.alloc (.cells #[n,aI a l.length c] 26)) (by simp);simpa using this
 have X1:=X0.after (bF _ (.cells #[] 3));have c8:=aN o0;have d8:=aN X1;clear o0 X0 X1;go_enter func56,ntmps56;go_wp2;go_loopw [3,4] (fun out i wr=>∃(s:Nat) (ad:Option Addr) (nn O:Nat),s<=l.length/\i=aM s/\out=aI ad nn O/\(0<s->bM n l=true)/\aP 3 (w.heap.size+1) wr (aI ad nn O) ((jI l).take s)/\Box2 w wr n (aI a l.length c))
  (fun _ i _=>l.length-(intOf i).toNat)
 case atStart=>exact⟨0,_,_,_,Nat.zero_le _,rfl,rfl,fun h=>by omega,c8.out,d8.out⟩
 case round=>
  obtain⟨s,ad,nn,O,hs,rfl,rfl,M,ho,X⟩:=hrel;have HF:=aN M;clear M;have HO:=aN ho;clear ho;obtain⟨d0,d1,K,z1⟩:=X;go_wp2_with fail;refine(dJ n l _ _ (hv.below K aO)).mono ?_;rintro e w2 ⟨rfl,R⟩;have X2:=(Box2.mk d0 d1 K z1).after R;have b3:=HO.out.keep R;have J:=aN b3;clear R d0 d1 K z1 HO b3;obtain⟨d0,d1,K,z1⟩:=X2
  cases hf:bM n l with
  |false=>
   have e0:s=0:=by
    by_cases h:0<s
    ·have:=HF.out h;rw[hf]at this;cases this
    ·omega
   have hx:fO n l=[]:=by unfold fO;rw[hf];rfl
   have HX:=aN hx;clear hx;go_wp2;go_ret;exact⟨_,_,_,rfl,by rw[HX.out];have:=J.out;rw[e0]at this;exact(by simpa using this:aP _ _ _ _ []).mono (Nat.le_succ _),K⟩
  |true=>
   obtain⟨h0,h5,hl,a9⟩:=lB hf;have hp:=kJ h0 h5;have f2:l.length<=32:=aK;have hx:fO n l=jI l:=by unfold fO;rw[hf];rfl
   have HX:=aN hx;have a1:=aN a9;have a6:=aW hc hb K aO;clear hx hl a9 hp;by_cases hlt:s<l.length
   ·go_wp2_with fail
    go_loop [5,6] (fun m t=>∃k:Nat,k<=s+1/\t=aM k/\m=aM (iN l s k)) (fun _ t=>s+1-(intOf t).toNat)
    case atStart=>exact⟨0,Nat.zero_le _,rfl,rfl⟩
    case round=>
     obtain⟨k,hk,rfl,rfl⟩:=hrel;have d9:=OH l s a1.out k aK;obtain⟨m,hm⟩:=aQ (iN l s k);rw[<-hm]at d9 ⊢;have HM:=aN hm;clear hm;by_cases g6:k<s+1
     ·have S:k<l.length:=aK;have g7:=a1.out k S;have f0:=a6 k S;have I:iN l s (k+1)=if cV k s=0 then (if bR (cV s k)%2=1 then m-l[k] else m+l[k]) else m:=by rw[iN,<-HM.out,List.getD_eq_getElem?_getD,List.getElem?_eq_getElem S,Option.getD_some]
      have HS:=aN I;have hA:=IQ k s aK aK;clear I;by_cases Z:k &&& s=k
      ·have ht:(((k &&& s:Nat):Int) != (k:Int))=false:=by simp[Z]
       have F:cV k s=0:=(J9 k s).2 Z;have b1:cV s k=s-k:=ab6 s k Z;have f6:=ER ((s:Int)-k) aK;have b5:dL ((s:Int)-k)=(bR (cV s k):Int):=by rw[b1];unfold dL;rw[show((s:Int)-k).toNat=s-k by omega]
       have HZ:=aN F;have HP:=aN b5;clear Z F b1 b5;by_cases z:bR (cV s k)%2=1
       ·have e4:(dL ((s:Int)-k)%2==1)=true:=by rw[HP.out];simp;omega
        have HD:=aN z;clear z;go_wp2_with (go_at_call 154;refine(tQ _ _ aK aK).mono ?_;rintro e w' ⟨rfl,rfl⟩);go_round
        case rel=>exact⟨k+1,by omega,by go_num,by rw[HS.out,if_pos HZ.out,if_pos HD.out]⟩
        case measure=>simp[intOf];omega
       ·have e4:(dL ((s:Int)-k)%2==1)=false:=by rw[HP.out];simp;omega
        have HD:=aN z;clear z;go_wp2_with (go_at_call 154;refine(tQ _ _ aK aK).mono ?_;rintro e w' ⟨rfl,rfl⟩);go_round
        case rel=>exact⟨k+1,by omega,by go_num,by rw[HS.out,if_pos HZ.out,if_neg HD.out]⟩
        case measure=>simp[intOf];omega
      ·have ht:(((k &&& s:Nat):Int) != (k:Int))=true:=by simp;omega
       have F:¬cV k s=0:=fun h=>Z ((J9 k s).1 h);have HZ:=aN F;clear Z F;go_wp2;go_round
       case rel=>exact⟨k+1,by omega,by go_num,by rw[HS.out,if_neg HZ.out]⟩
       case measure=>simp[intOf];omega
     ·have N:k=s+1:=aK;have b0:m=iN l s (s+1):=by rw[HM.out,N]
      have c7:=aN b0;clear N b0 a6;have Y:(iN l s (s+1))=m:=c7.out.symm;have d6:=aN Y;clear Y;go_wp2_with (at_builtin;refine cZ rfl _ _ _ rfl 3 underlying24 aS (w.heap.size+1) _ _ m w2.heap.size rfl rfl (by simp) (J.out.alloc _) ⟨by omega,by omega⟩ (by simp[lL];omega) aV ?_;intro v' w3 D a8;obtain⟨av,nv,cv,rfl⟩:=D.shape3);have f4:l.length<=1048576:=aK;have X3:=((Box2.mk d0 d1 K z1).after (bF _ (.cells #[m] 3))).grow a8 (fun k hk=>by have:=(J.out.lt k hk).1;omega);rw[<-d6.out,<-VV l s hlt]at D;have HW:=aN D;clear D a8;go_wp2;go_roundw
      case rel=>exact⟨s+1,_,_,_,by omega,by go_num,rfl,fun _=>hf,HW.out,X3⟩
      case measure=>simp[intOf];omega
   ·have Y:s=l.length:=aK;have b4:aP 3 (w.heap.size+1) w2 (aI ad nn O) (jI l):=by have:=J.out;rw[List.take_of_length_le (by rw[lL];omega)]at this;exact this
    have c9:=aN b4;clear b4;go_wp2;go_ret;exact⟨_,_,_,rfl,by rw[HX.out];exact c9.out.mono (Nat.le_succ _),K⟩
end
end Go.Proofs.YtcpoomdoodlkjaaGreatDoor
