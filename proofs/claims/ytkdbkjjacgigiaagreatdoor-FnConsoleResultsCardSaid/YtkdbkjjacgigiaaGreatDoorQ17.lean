/- Lemmas for CardConsoleResults. No condition. -/
import Derived.Test.YtkdbkjjacgigiaaGreatDoorQ11
set_option maxRecDepth 100000
set_option maxHeartbeats 64000000
namespace Go.Proofs.YtkdbkjjacgigiaaGreatDoor
section
open Go.RowKit Go.G5 Go.Proofs.Tryz
def kB(l x:List Int)(e:Nat):Nat->Int
 |0=>100000
 |k+1=>if dI (k:Int) e=1 then min (kB l x e k) (dS l x k) else kB l x e k
def qN(l x:List Int)(e:Nat):Nat->Option Int
 |0=>none
 |k+1=>if dI (k:Int) e=1 then (match qN l x e k with|none=>some (dS l x k)|some m=>if dS l x k<m then some (dS l x k) else some m) else qN l x e k
def uR(n:Int)(l x:List Int)(e:Nat):Bool:=lN n l x&&decide ((e:Int)<n)
def nW(n:Int)(l x:List Int)(e:Nat):Int:=if uR n l x e then kB l x e l.length else 0
theorem arI(x:List Int)(s:Int)(h:∀k,(hk:k<x.length)->-5000<=x[k]/\x[k]<=5000)(k:Nat)(hk:k<=x.length):-5000*(k:Int)<=wG x s k/\wG x s k<=5000*(k:Int):=by
 exact ahY
theorem M0(l x:List Int)(z:∀k,(hk:k<l.length)->-1000<=l[k]/\l[k]<=1000)(F:∀k,(hk:k<x.length)->-5000<=x[k]/\x[k]<=5000)(I:x.length<=6)(k:Nat)(hk:k<l.length):-31000<=dS l x k/\dS l x k<=31000:=by
 have h1:=z k hk;have h2:=arI x k F x.length aI;have D:l.getD (k:Int).toNat 0=l[k]:=by simp[hk]
 unfold dS wt;rw[D];omega
theorem aqO(l x:List Int)(e:Nat)(hb:∀k,k<l.length->dS l x k<=31000):∀k,k<=l.length->(∀m,qN l x e k=some m->kB l x e k=m/\m<=31000)/\(qN l x e k=none->kB l x e k=100000):=by
 intro k
 induction k with
 |zero=>intro _;exact⟨fun m h=>(by rw[qN]at h;cases h),fun _=>rfl⟩
 |succ k ih=>
  intro hk;obtain⟨h1,h2⟩:=ih aD;have h3:=hb k aD;rw[qN,kB];by_cases z:dI (k:Int) e=1
  ·rw[if_pos z,if_pos z]
   cases F:qN l x e k with
   |none=>rw[h2 F];refine⟨fun m h=>?_,fun h=>by cases h⟩;have D:dS l x k=m:=Option.some.inj h;omega
   |some q=>
    obtain⟨h4,I⟩:=h1 q F;rw[h4];refine⟨fun m h=>?_,fun h=>?_⟩
    ·by_cases hlt:dS l x k<q
     ·simp only[if_pos hlt]at h;have D:dS l x k=m:=Option.some.inj h;omega
     ·simp only[if_neg hlt]at h;have D:q=m:=Option.some.inj h;omega
    ·by_cases hlt:dS l x k<q
     ·simp only[if_pos hlt]at h;cases h
     ·simp only[if_neg hlt]at h;cases h
  ·rw[if_neg z,if_neg z];exact⟨h1,h2⟩
theorem aoM(l x:List Int)(e:Nat):∀k,2^e<k->∃m,qN l x e k=some m:=by
 intro k
 induction k with
 |zero=>intro h;exact absurd h (Nat.not_lt_zero _)
 |succ k ih=>
  intro hk;rw[qN];by_cases hlt:2^e<k
  ·obtain⟨m,hm⟩:=ih hlt;rw[hm];by_cases z:dI (k:Int) e=1
   ·rw[if_pos z];by_cases h:dS l x k<m
    ·exact⟨dS l x k,by simp only[if_pos h]⟩
    ·exact⟨m,by simp only[if_neg h]⟩
   ·rw[if_neg z];exact⟨m,rfl⟩
  ·have D:k=2^e:=aD
   have z:dI (k:Int) e=1:=by
    subst D;unfold dI;have F:(2:Int)^e≠0:=by have:=Nat.two_pow_pos e;have h:((2^e:Nat):Int)=(2:Int)^e:=(by push_cast;rfl);omega
    push_cast
    rw[Int.ediv_self F]
    rfl
   rw[if_pos z]
   cases qN l x e k with
   |none=>exact⟨_,rfl⟩
   |some m=>
    by_cases h:dS l x k<m
    ·exact⟨dS l x k,by simp only[if_pos h]⟩
    ·exact⟨m,by simp only[if_neg h]⟩
theorem acF(W:World)(g e s:Nat)(F:e<6)(I:s<1073741824)(d:W.cell? ⟨g,0,none⟩=some (aG (e:Int))):
  Calls prog 367 #[(s:Int),.pointer (some ⟨g,0,none⟩)] W fun D w'=>D=.returned (.bool (dI (s:Int) e==1))/\Below W W w':=by
 have z:=jN (s:Int) e aD aD;go_enter func367,ntmps367;go_wp2;go_ret;exact⟨rfl,Below.refl _ _⟩
theorem J4:∀args w,(callFunc 367 args).run prog w=.ok (.enter 367 args) w:=enters_of func367 aO rfl
theorem ag3{p:Prop}(h:p:=by
  clear z hcl I hr D ht hq;have G:=K.cell;go_wp2_with fail;refine M.out.mono ?_;rintro S w3 ⟨rfl,O⟩;have N:=K.keep O;have J:=B.after O B.size;have G3:=N.cell;go_wp2_with fail;refine(R.out w3 J).mono ?_;rintro S w4 ⟨rfl,b4⟩;have K4:=N.keep b4;have Z:=J.after b4 J.size;go_wp2;go_roundw
  case rel=>exact⟨k+1,by omega,by go_num,by rw[F.out];rfl,by rw[F.out];rfl,K4,Z⟩
  case measure=>simp[intOf];omega):p:=h
theorem P7(w:World)(n:Int)(v:Value)(l:List Int)(hv:aK w v l)(u:Value)(x:List Int)(hu:aK w u x)(e g:Nat)(he:e<6)(d:w.cell? ⟨g,0,none⟩=some (aG (e:Int)))(b9:l.length<=64)
  (b8:∀k,(hk:k<l.length)->-1000<=l[k]/\l[k]<=1000) (hx:∀k,(hk:k<x.length)->-5000<=x[k]/\x[k]<=5000) (c6:x.length<=6):
  Calls prog 366 #[.agg #[n,v],u,.func (.func 367) #[] #[.pointer (some ⟨g,0,none⟩)]] w fun S w'=>S=.returned (aG ((qN l x e l.length).getD 0))/\Below w w w':=by
 obtain⟨a,c,rfl⟩:=hv.shape;obtain⟨b,cu,rfl⟩:=hu.shape;have b7:=World.block_lt_of_cell? w _ d;have f3:=J4;obtain⟨V,hV⟩:=aJ (w.alloc (.cells #[n,aA a l.length c] 27));have B:Below w w V:=gY hV;have K:aP V w 27 #[n,aA a l.length c]:=gJ hV;have HD:=aH (And.intro d b7);have Y:=aH (And.intro b8 (And.intro hx c6));go_enter func366,ntmps366;go_wp2_with fail;rw[<-hV];clear hV;go_loopw [7,8,13] (fun m f i wr=>∃k:Nat,k<=l.length/\i=aG k/\m=aG ((qN l x e k).getD 0)/\f=.bool (qN l x e k).isSome/\aP wr w 27 #[n,aA a l.length c]/\Below w w wr) (fun _ _ i _=>l.length-(intOf i).toNat)
 case atStart=>exact⟨0,Nat.zero_le _,rfl,rfl,rfl,K,B⟩
 case round=>
  obtain⟨k,hk,rfl,rfl,rfl,Kr,Br⟩:=hrel;clear K B;have K:=Kr;have B:=Br;by_cases hlt:k<l.length
  ·have a8:(k:Int)<(l.length:Int):=aD;have hcl:=acF wr g e k he aD ((B.cell (p:=⟨g,0,none⟩) HD.out.2).trans HD.out.1);have I:=fun(W:World) (h:Below w w W)=>SY n l (aA a l.length c) x (aA b x.length cu) k W (hv.below h aI) (hu.below h aI) aD aD b9 Y.out.1 Y.out.2.1 Y.out.2.2;have c5:=M0 l x Y.out.1 Y.out.2.1 Y.out.2.2 k hlt;have z:qN l x e (k+1)=if dI (k:Int) e=1 then (match qN l x e k with|none=>some (dS l x k)|some m=>if dS l x k<m then some (dS l x k) else some m) else qN l x e k:=rfl;obtain⟨r,hr⟩:=aJ (dS l x k);simp only[<-hr]at I c5 z;have R:=aH I;by_cases D:dI (k:Int) e=1
   ·have ht:(dI (k:Int) e==1)=true:=by simp[D]
    rw[if_pos D]at z;rw[ht]at hcl;have M:=aH hcl
    cases hq:qN l x e k with
    |none=>rw[hq]at z;have F:=aH z;exact ag3
    |some m=>
     rw[hq]at z;by_cases a7:r<m
     ·simp only[if_pos a7]at z;have F:=aH z;clear z hcl I hr D ht hq;have G:=K.cell;go_wp2_with fail;refine M.out.mono ?_;rintro S w3 ⟨rfl,O⟩;have N:=K.keep O;have J:=B.after O B.size;have G3:=N.cell;go_wp2_with fail;refine(R.out w3 J).mono ?_;rintro S w4 ⟨rfl,b4⟩;have K4:=N.keep b4;have Z:=J.after b4 J.size;have G4:=K4.cell;go_wp2_with fail;refine(R.out w4 Z).mono ?_;rintro S w5 ⟨rfl,b5⟩;have K5:=K4.keep b5;have B5:=Z.after b5 Z.size;go_wp2;go_roundw
      case rel=>exact⟨k+1,by omega,by go_num,by rw[F.out];rfl,by rw[F.out];rfl,K5,B5⟩
      case measure=>simp[intOf];omega
     ·simp only[if_neg a7]at z;have F:=aH z;exact ag3
   ·have ht:(dI (k:Int) e==1)=false:=by simp[D]
    rw[if_neg D]at z;rw[ht]at hcl;have M:=aH hcl;have F:=aH z;clear z hcl I hr D ht;have G:=K.cell;go_wp2_with fail;refine M.out.mono ?_;rintro S w3 ⟨rfl,O⟩;have N:=K.keep O;have J:=B.after O B.size;have G3:=N.cell;go_wp2;go_roundw
    case rel=>exact⟨k+1,by omega,by go_num,by rw[F.out],by rw[F.out],N,J⟩
    case measure=>simp[intOf];omega
  ·have a8:¬(k:Int)<(l.length:Int):=aD;have a6:k=l.length:=aD;have HK:=aH a6;clear a6;go_wp2;go_ret;exact⟨fL (by rw[<-HK.out]),B⟩
theorem CW{n:Int}{l x:List Int}(h:lN n l x=true):∃N:Nat,n=N/\N<=5/\l.length=2^N/\l.length<=32/\x.length=N/\(∀k,(hk:k<l.length)->-1000<=l[k]/\l[k]<=1000)/\(∀k,(hk:k<x.length)->-5000<=x[k]/\x[k]<=5000)/\∀k:Nat,k<l.length->0<=dS l x k:=by
 unfold lN at h;simp only[Bool.and_eq_true]at h;obtain⟨⟨h1,h2⟩,h3⟩:=h;obtain⟨I,J,hl,D⟩:=kP (IE h1);have M:=lG I J;obtain⟨K,F⟩:=OF h2;have z:l.length=2^n.toNat:=by
  have h4:((2^n.toNat:Nat):Int)=(2:Int)^n.toNat:=by push_cast;rfl
  omega
 exact⟨n.toNat,by omega,by omega,z,by omega,by omega,D,F,ab8 l x _ h3⟩
theorem ae4{n:Int}{l x:List Int}{e:Nat}(h:uR n l x e=true):(qN l x e l.length).getD 0=kB l x e l.length/\0<=kB l x e l.length/\kB l x e l.length<=31000:=by
 unfold uR at h;obtain⟨h1,h2⟩:=Bool.and_eq_true_iff.1 h;have h2:=of_decide_eq_true h2;obtain⟨N,rfl,K,D,J,O,F,I,M⟩:=CW h1;have hlt:2^e<l.length:=by rw[D];exact Nat.pow_lt_pow_right aQ aD
 obtain⟨m,hm⟩:=aoM l x e l.length hlt;have hb:=(aqO l x e (fun k hk=>(M0 l x F I aD k hk).2) l.length aI).1 m hm;have z:∀k,k<=l.length->0<=kB l x e k:=by
  intro k
  induction k with
  |zero=>intro _;simp[kB]
  |succ k ih=>
   intro hk;have:=ih aD;have:=M k aD;rw[kB]
   split<;>omega
 rw[hm];have:=z l.length aI;exact⟨hb.1.symm,this,by omega⟩
theorem ap6(l x:List Int)(e:Nat)(z:∀k:Nat,k<l.length->0<=dS l x k):∀k,k<=l.length->0<=kB l x e k/\kB l x e k<=100000:=by
 intro k
 induction k with
 |zero=>intro _;simp[kB]
 |succ k ih=>
  intro hk;have:=ih aD;have:=z k aD;rw[kB]
  split<;>omega
theorem PI(n:Int)(l x:List Int)(e:Nat):0<=nW n l x e/\nW n l x e<=31000:=by
 unfold nW
 split
 ·rename_i h;exact(ae4 h).2
 ·omega
theorem TQ(n:Int)(e:Nat)(F:e<6)(w:World):
  Calls prog 218 #[n,(e:Int)] w fun z w'=>z=.returned (.bool (decide ((e:Int)<n)))/\w=w':=by
 have D:(0:Int)<=(e:Int):=aD;go_enter func218,ntmps218;go_wp2;go_ret;exact⟨rfl,rfl⟩
theorem ahW{p:Prop}(h:p:=by
  have F:uR n l x e=false:=by unfold uR;rw[hb];rfl
  have I:nW n l x e=0:=by unfold nW;rw[F];rfl
  have R:=aH (And.intro F I);clear F I hb;go_wp2;go_ret2;exact⟨by rw[R.out.1,R.out.2];rfl,B⟩):p:=h
theorem TI(w:World)(n:Int)(v:Value)(l:List Int)(hv:aK w v l)(u:Value)(x:List Int)(hu:aK w u x)(e:Nat)(he:e<6):
  Calls prog 344 #[.agg #[n,v],u,(e:Int)] w fun e' w'=>e'=.returned (.tuple #[(nW n l x e),.bool (uR n l x e)])/\Below w w w':=by
 obtain⟨a,c,rfl⟩:=hv.shape;obtain⟨b,cu,rfl⟩:=hu.shape;have g7:∀(fn:Fn) (first cap:Array Value) (w:World),(Instr.makeFunc fn first cap).run prog w=.ok (.func fn first cap) w:=fun _ _ _ _=>rfl;obtain⟨V,hV⟩:=aJ ((w.alloc (.cells #[n,aA a l.length c] 27)).alloc (.cells #[(e:Int)] 3));have B:Below w w V:=gO hV;have K:aP V w 27 #[n,aA a l.length c]:=gR hV;have KE:aP V (w.heap.size+1) 3 #[(e:Int)]:=iP hV;go_enter func344,ntmps344;go_wp2_with fail;rw[<-hV];clear hV;refine(II V n _ l (hv.below B aI) _ x (hu.below B aI)).mono ?_;rintro e' w1 ⟨rfl,b1⟩;have K:=K.keep b1;have KE:=KE.keep b1;have B:=B.after b1 B.size;have G:=K.cell;have GE:=KE.cell
 cases hb:lN n l x with
 |false=>exact ahW
 |true=>
  obtain⟨N,rfl,e9,Z,S,a1,M,O,hs⟩:=CW hb;have HE:=aH (TQ (N:Int) e he w1);by_cases z:(e:Int)<(N:Int)
  ·have F:uR N l x e=true:=by unfold uR;rw[hb,decide_eq_true z];rfl
   have I:nW N l x e=(qN l x e l.length).getD 0:=by unfold nW;rw[F,(ae4 F).1];rfl
   have R:=aH (And.intro F I);have hd:=decide_eq_true z;rw[hd]at HE;have HL:=aH (P7 w1 N _ l (hv.below B aI) _ x (hu.below B aI) e (w.heap.size+1) he (KE.cell 0) aD M O aD);clear F I hb Z S a1 M O hs hd z;go_wp2_with (first|(go_at_call 218;refine HE.out.mono ?_;rintro e' w' ⟨rfl,rfl⟩)|(go_at_call 366;refine HL.out.mono ?_;rintro e' w2 ⟨rfl,b2⟩));go_ret2;exact⟨by rw[R.out.1,R.out.2];rfl,B.after b2 B.size⟩
  ·have F:uR N l x e=false:=by unfold uR;rw[decide_eq_false z];simp
   have I:nW N l x e=0:=by unfold nW;rw[F];rfl
   have R:=aH (And.intro F I);have hd:=decide_eq_false z;rw[hd]at HE;clear F I hb Z S a1 M O hs hd z;go_wp2_with (go_at_call 218;refine HE.out.mono ?_;rintro e' w' ⟨rfl,rfl⟩);go_ret2;exact⟨by rw[R.out.1,R.out.2];rfl,B⟩
theorem TJ(w:World)(n:Int)(v:Value)(l:List Int)(hv:aK w v l)(u:Value)(x:List Int)(hu:aK w u x)(e:Nat)(he:e<6):
  Calls prog 126 #[.agg #[n,v],u,(e:Int)] w fun e' w'=>e'=.returned (.tuple #[(nW n l x e),.bool (uR n l x e)])/\Below w w w':=by
 obtain⟨a,b,h0,c,rfl,f9,b8,hc,f0⟩:=hv.view prog 25 3 underlying25 aN;obtain⟨au,cu,rfl⟩:=hu.shape;obtain⟨V,hV⟩:=aJ (w.alloc (.cells #[n,aA a l.length c] 27));have B:Below w w V:=gY hV;have K:aP V w 27 #[n,aA a l.length c]:=gJ hV;go_enter func126,ntmps126;go_wp2_with fail;rw[<-hV];clear hV;refine(IJ V n _ l (hv.below B aI) _ x (hu.below B aI)).mono ?_;rintro e' w1 ⟨rfl,b1⟩;have K:=K.keep b1;have B:=B.after b1 B.size;have G:=K.cell
 cases hb:lN n l x with
 |false=>exact ahW
 |true=>
  obtain⟨N,rfl,e9,Z,S,a1,M,O,hs⟩:=CW hb;have Y:dV (e:Int) 0 ((N:Int)-1)=decide ((e:Int)<(N:Int)):=by
   by_cases h:(e:Int)<(N:Int)
   ·rw[decide_eq_true h];exact cR.2 ⟨by omega,by omega⟩
   ·rw[decide_eq_false h]
    cases hq:dV (e:Int) 0 ((N:Int)-1) with
    |false=>rfl
    |true=>have:=cR.1 hq;omega
  have hw:IntKind.i64.wrap ((N:Int)-1)=(N:Int)-1:=IntWalk.i64_in _ ⟨by omega,by omega⟩;by_cases z:(e:Int)<(N:Int)
  ·have F:uR N l x e=true:=by unfold uR;rw[hb,decide_eq_true z];rfl
   have I:nW N l x e=kB l x e l.length:=by unfold nW;rw[F];rfl
   have R:=aH (And.intro F I);rw[decide_eq_true z]at Y;have a9:=aH Y;have e7:=aH O;have e4:=aH M;have e5:=aH (ap6 l x e hs);have e6:=aH (M0 l x M O aD);have g9:x.length<=6:=aD;clear F I hb Z a1 hs z Y O M;go_wp2_with (go_at_call 77;refine(cP _ _ _ _).mono ?_;rintro e' w' ⟨rfl,rfl⟩;rw[a9.out]);clear G;go_loopw [8,9] (fun m i wr=>∃k:Nat,k<=l.length/\i=aG k/\m=aG (kB l x e k)/\aP wr w 27 #[(N:Int),aA a l.length c]/\Below w w wr) (fun _ i _=>l.length-(intOf i).toNat)
   case atStart=>exact⟨0,Nat.zero_le _,rfl,rfl,K,B⟩
   case round=>
    obtain⟨k,hk,rfl,rfl,Kr,Br⟩:=hrel;clear K B;have K:=Kr;have B:=Br;have G:=K.cell;clear Kr Br;by_cases hlt:k<l.length
    ·have c5:(k:Int)<(l.length:Int):=aD;have f8:=jN (k:Int) e aD aD;have J:kB l x e (k+1)=if dI (k:Int) e=1 then min (kB l x e k) (dS l x k) else kB l x e k:=rfl;have f2:=e5.out k hk;by_cases D:dI (k:Int) e=1
     ·have ht:(dI (k:Int) e==1)=true:=by simp[D]
      rw[if_pos D]at J;have c7:dS l x k=l[k]-wt x k:=by unfold dS;simp[hlt]
      have c6:=e6.out k hlt;rw[c7]at J c6;have ck:=aR hc f0 B aI k hlt;have ik:=fun W=>b8 W k hlt;have f4:=e4.out k hlt;obtain⟨q,hq⟩:=aJ (wt x (k:Int));obtain⟨C,hC⟩:=aJ (kB l x e k);obtain⟨y,I⟩:=aJ (l[k]);have c9:∀W,aK W (aA au x.length cu) x->Calls prog 168 #[aA au x.length cu,(k:Int)] W fun e w'=>e=.returned q/\W=w':=by rw[hq];exact fun W h=>uG x _ _ W h aD aD (fun j hj=>by have:=e7.out j hj;omega) aD
      have c8:=hu.below B aI;rw[<-hq,<-I,<-hC]at J;rw[<-hq,<-I]at c6;rw[<-hC]at f2 ⊢;rw[<-I]at ck f4;have b7:=aH c9;have a8:=aH J;have g8:IntKind.i64.wrap (y-q)=y-q:=IntWalk.i64_in _ ⟨by omega,by omega⟩;clear J c9 hq hC I c7 D hc b8;go_wp2;go_quiet ((go_at_call 168;first|exact gL (b7.out _ (c8.drewN _))|exact jF (b7.out _ (c8.drewN _))));go_wp2;go_roundw
      case rel=>exact⟨k+1,by omega,by go_num,by rw[a8.out]<;>(congr 1<;>(split<;>omega)),K.drewN _,B.drewN' _⟩
      case measure=>simp[intOf];omega
     ·have ht:(dI (k:Int) e==1)=false:=by simp[D]
      rw[if_neg D]at J;have a8:=aH J;clear J D;go_wp2;go_roundw
      case rel=>exact⟨k+1,by omega,by go_num,by rw[a8.out],K,B⟩
      case measure=>simp[intOf];omega
    ·have c5:¬(k:Int)<(l.length:Int):=aD;have b9:k=l.length:=aD;have HK:=aH b9;clear b9;go_wp2;go_ret2;exact⟨by rw[R.out.1,R.out.2,<-HK.out];rfl,B⟩
  ·have F:uR N l x e=false:=by unfold uR;rw[decide_eq_false z];simp
   have I:nW N l x e=0:=by unfold nW;rw[F];rfl
   have R:=aH (And.intro F I);rw[decide_eq_false z]at Y;have a9:=aH Y;clear F I hb Z S a1 M O hs z Y;go_wp2_with (go_at_call 77;refine(cP _ _ _ _).mono ?_;rintro e' w' ⟨rfl,rfl⟩;rw[a9.out]);go_ret2;exact⟨by rw[R.out.1,R.out.2];rfl,B⟩
def iK(n:Int)(l x m:List Int):Bool:=fO n l&&lN n l x&&fZ n m
def eU(n:Int)(l x m:List Int):Nat->List Int
 |0=>x
 |k+1=>if (eU n l x m k).getD k 0<m.getD k 0 then (eU n l x m k).set k (min ((eU n l x m k).getD k 0+nW n l (eU n l x m k) k) (m.getD k 0)) else eU n l x m k
def sB(n:Int)(l x m:List Int):List Int:=if iK n l x m then eU n l x m x.length else []
theorem FA(n:Int)(l x m:List Int):∀k,(eU n l x m k).length=x.length:=by
 intro k
 induction k with
 |zero=>rfl
 |succ k ih=>rw[eU];split<;>simp[ih]
theorem abV(n:Int)(l x m:List Int)(hm:m.length=x.length)(I:∀k,(hk:k<x.length)->-5000<=x[k]/\x[k]<=5000)(D:∀k,(hk:k<m.length)->-5000<=m[k]/\m[k]<=5000):∀k,k<=x.length->∀y∈eU n l x m k,-5000<=y/\y<=5000:=by
 intro k
 induction k with
 |zero=>intro _ y z;obtain⟨i,F,rfl⟩:=List.getElem_of_mem z;exact I i F
 |succ k ih=>
  intro hk y z;have ih:=ih aD;rw[eU]at z;by_cases hc:(eU n l x m k).getD k 0<m.getD k 0
  ·rw[if_pos hc]at z;rcases List.mem_or_eq_of_mem_set z with z|z
   ·exact ih y z
   ·have hl:=FA n l x m k;have h1:(eU n l x m k).getD k 0=(eU n l x m k)[k]'aD:=aS _ k aD;have h2:m.getD k 0=m[k]'aD:=aS _ k aD;have h3:=ih _ (List.getElem_mem (show k<(eU n l x m k).length by omega));have h4:=D k aD;have J:=PI n l (eU n l x m k) k;rw[h1,h2]at z;omega
  ·rw[if_neg hc]at z;exact ih y z
theorem YC{n:Int}{l x m:List Int}(h:iK n l x m=true):∃N:Nat,n=N/\N<=5/\x.length=N/\m.length=x.length/\(∀k,(hk:k<x.length)->-5000<=x[k]/\x[k]<=5000)/\(∀k,(hk:k<m.length)->-5000<=m[k]/\m[k]<=5000):=by
 unfold iK at h;simp only[Bool.and_eq_true]at h;obtain⟨⟨_,h2⟩,h3⟩:=h;obtain⟨N,rfl,z,_,_,F,_,D,_⟩:=CW h2;obtain⟨h4,I⟩:=OF h3;exact⟨N,rfl,z,F,by omega,D,I⟩
theorem ahR{p:Prop}(h:p:=by
  rw[h8];have s1:=(j2.out.drewN z).stored g2.out.symm k (min (F+C) mv) ⟨by omega,by omega⟩;rw[g7.out,if_pos e4.out];exact⟨s1.1,(K5.drewN z).far (by show w.heap.size≠g;omega) _,(B5.drewN' z).grown s1.2 (B5.drewN' z).size jI⟩):p:=h
theorem ad3(w:World)(n:Int)(v:Value)(l:List Int)(hv:aK w v l)(hl:l.length<=1048576)(u:Value)(x:List Int)(hu:aK w u x)(t:Value)(m:List Int)(ht:aK w t m):
  Calls prog 274 #[.agg #[n,v],u,t] w fun e' w'=>∃ad i c,e'=.returned (.tuple #[aA ad i c,.bool (iK n l x m)])/\aM 3 w w' (aA ad i c) (sB n l x m)/\Below w w w':=by
 obtain⟨a,c,rfl⟩:=hv.shape;obtain⟨b,cu,rfl⟩:=hu.shape;obtain⟨bt,bq,i1,ct,rfl,j9,c5,f0,j6⟩:=ht.view prog 25 3 underlying25 aN;obtain⟨V,hV⟩:=aJ (w.alloc (.cells #[n,aA a l.length c] 27));have B:Below w w V:=gY hV;have K:aP V w 27 #[n,aA a l.length c]:=gJ hV;go_enter func274,ntmps274;go_wp2_with fail;rw[<-hV];clear hV;refine(pX n l _ V (hv.below B aI) hl).mono ?_;rintro e' w1 ⟨rfl,b1⟩;have K:=K.keep b1;have B:=B.after b1 B.size;have G:=K.cell
 cases hs:fO n l with
 |false=>
  have D:iK n l x m=false:=by unfold iK;rw[hs];rfl
  have I:sB n l x m=[]:=by unfold sB;rw[D];rfl
  have J:=aH (And.intro D I);clear D I hs;go_wp2;go_ret2;exact⟨none,0,0,by rw[J.out.1];rfl,by rw[J.out.2];exact aM.nil _ _ _,B⟩
 |true=>
 go_wp2_with fail;clear G;refine(II w1 n _ l (hv.below B aI) _ x (hu.below B aI)).mono ?_;rintro e' Y ⟨rfl,b2⟩;have K:=K.keep b2;have B:=B.after b2 B.size;have G:=K.cell
 cases hb:lN n l x with
 |false=>
  have D:iK n l x m=false:=by unfold iK;rw[hb];simp
  have I:sB n l x m=[]:=by unfold sB;rw[D];rfl
  have J:=aH (And.intro D I);clear D I hs hb;go_wp2;go_ret2;exact⟨none,0,0,by rw[J.out.1];rfl,by rw[J.out.2];exact aM.nil _ _ _,B⟩
 |true=>
 go_wp2_with fail;clear G;refine(N7 n l _ m _ Y (hv.below B aI) (ht.below B aI)).mono ?_;rintro e' w3 ⟨rfl,b3⟩;have K:=K.keep b3;have B:=B.after b3 B.size;have G:=K.cell
 cases hlo:fZ n m with
 |false=>
  have D:iK n l x m=false:=by unfold iK;rw[hlo];simp
  have I:sB n l x m=[]:=by unfold sB;rw[D];rfl
  have J:=aH (And.intro D I);clear D I hs hb hlo;go_wp2;go_ret2;exact⟨none,0,0,by rw[J.out.1];rfl,by rw[J.out.2];exact aM.nil _ _ _,B⟩
 |true=>
 have D:iK n l x m=true:=by unfold iK;rw[hs,hb,hlo];rfl
 have I:sB n l x m=eU n l x m x.length:=by unfold sB;rw[D];rfl
 obtain⟨N,rfl,j5,f7,R,f6,c7⟩:=YC D;have i8:=aH (abV N l x m R f6 c7);have j0:=aH c7;have J:=aH (And.intro D I);have j1:=aH R;have e7:=aH f7;clear D I hs hb hlo f6 c7 R f7;go_wp2_with fail;clear G;refine(kR _ x w3 (hu.below B aI) (by have:=e7.out;omega)).mono ?_;rintro e' w4 ⟨p,i,q,rfl,o,b4⟩;have zk:=K.lt;have O:∀g,(Value.slice p i q).ownBlock=some g->w.heap.size<g:=fun g h=>by have:=(o.lt g h).1;omega
 have K:=K.keep b4;have o:=o.mono (B':=w.heap.size) B.size;have B:=B.after b4 B.size;have hi:i=x.length:=by obtain⟨_,_,h⟩:=o.shape;injection h
 subst hi;go_wp2_with fail;go_loopw [31] (fun i wr=>∃k:Nat,k<=x.length/\i=aG k/\aM 3 w wr (aA p x.length q) (eU N l x m k)/\(∀g,(Value.slice p x.length q).ownBlock=some g->w.heap.size<g)/\aP wr w 27 #[(N:Int),aA a l.length c]/\Below w w wr) (fun i _=>x.length-(intOf i).toNat)
 case atStart=>exact⟨0,Nat.zero_le _,rfl,o,O,K,B⟩
 case round=>
  clear O;obtain⟨k,hk,rfl,ow,O,Kr,Br⟩:=hrel;clear o K B;have HO:=aH ow;have Z:=aH O;clear ow O;by_cases hlt:k<x.length
  ·have c6:(k:Int)<(x.length:Int):=aD;have M:=FA N l x m k;rcases HO.out.cases with⟨h1,h2⟩|⟨g,cap,h1,n3,o0⟩
   ·rw[h2]at M;simp at M;omega
   ·injection h1 with h1 h3 h4;subst h1 h4;have o1:=Z.out g rfl;clear h3;have a8:k<(eU N l x m k).length:=aD;have co:=HO.out.cellAt M.symm k a8;have ob:=i8.out k hk _ (List.getElem_mem a8);have f5:(eU N l x m k).getD k 0=(eU N l x m k)[k]:=aS _ k a8;have a7:k<m.length:=by have:=j1.out;omega
    have cm:=aR f0 j6 Br aI k a7;have im:=fun W=>c5 W k a7;have mb:=j0.out k a7;have f4:m.getD k 0=m[k]:=aS _ k a7;have j7:=PI N l (eU N l x m k) k;have a9:eU N l x m (k+1)=if (eU N l x m k).getD k 0<m.getD k 0 then (eU N l x m k).set k (min ((eU N l x m k).getD k 0+nW N l (eU N l x m k) k) (m.getD k 0)) else eU N l x m k:=rfl;rw[f5,f4]at a9;have hcl:=fun(W:World) (h1:aK W (aA a l.length c) l) (h2:aK W (aA (some ⟨g,0,none⟩) x.length q) (eU N l x m k))=>TI W N _ l h1 _ _ h2 k (by have:=e7.out;omega);obtain⟨C,hC⟩:=aJ (nW N l (eU N l x m k) k);obtain⟨F,c9⟩:=aJ ((eU N l x m k)[k]);obtain⟨mv,c8⟩:=aJ (m[k]);simp only[<-hC]at hcl;rw[<-hC,<-c9,<-c8]at a9;rw[<-hC]at j7;rw[<-c9]at co ob;rw[<-c8]at cm mb;have e6:=aH hcl;have g7:=aH a9;have g2:=aH M;have fo:=HO.out.frozenAt M.symm k;have G:=Kr.cell;clear hcl a9 M hC c9 c8 f5 f4 a8 f0 c5;by_cases f3:F<mv
    ·have e4:=aH f3;go_wp2;go_quiet (fail);go_wp2_with fail;refine(e6.out _ (hv.below (Br.drewN' _) aI) (HO.out.drewN _).ints).mono ?_;rintro e' w5 ⟨rfl,b5⟩;have K5:=(Kr.drewN nq).keep b5;have o5:=(HO.out.drewN nq).keep b5;have B5:=(Br.drewN' nq).after b5 (Br.drewN' nq).size;have m5:=keep b5 (show(wr.drewN nq).cell? ⟨g,k,none⟩=some (aG F) from co);have m4:=keep b5 (show(wr.drewN nq).cell? ⟨bq,i1+k,none⟩=some (aG mv) from cm);have m7:=o5.frozenAt g2.out.symm k;have o7:IntKind.i64.wrap (F+C)=F+C:=IntWalk.i64_in _ ⟨by omega,by omega⟩;have j2:=aH o5;clear co cm fo G o5;go_wp2;go_region
     all_goals go_wp2
     go_roundw
     case rel=>
      have S:∀z,aM 3 w ((w5.drewN z).setCell ⟨g,k,none⟩ (aG (if mv<F+C then mv else F+C))) (aA (some ⟨g,0,none⟩) x.length q) (eU N l x m (k+1))/\aP ((w5.drewN z).setCell ⟨g,k,none⟩ (aG (if mv<F+C then mv else F+C))) w.heap.size 27 #[(N:Int),aA a l.length c]/\Below w w ((w5.drewN z).setCell ⟨g,k,none⟩ (aG (if mv<F+C then mv else F+C))):=by
       intro z;have h8:(if mv<F+C then mv else F+C)=min (F+C) mv:=by split<;>omega
       exact ahR
      first|exact⟨k+1,by omega,by go_num,(S _).1,Z.out,(S _).2.1,(S _).2.2⟩|(simp only[show(if mv<F+C then mv else F+C)=min (F+C) mv by split<;>omega]at S;exact⟨k+1,by omega,by go_num,(S _).1,Z.out,(S _).2.1,(S _).2.2⟩)
     case measure=>simp[intOf];omega
    ·have e4:=aH f3;go_wp2;go_quiet (fail);go_wp2;go_roundw
     case rel=>exact⟨k+1,by omega,by go_num,by rw[g7.out,if_neg (by have:=e4.out;omega)];exact HO.out.drewN _,Z.out,Kr.drewN _,Br.drewN' _⟩
     case measure=>simp[intOf];omega
  ·have c6:¬(k:Int)<(x.length:Int):=aD;have f2:k=x.length:=aD;have HK:=aH f2;clear f2;go_wp2;go_ret2;have ho:=HO.out;rw[HK.out]at ho;exact⟨p,x.length,q,by rw[J.out.1];rfl,by rw[J.out.2];exact ho,Br⟩
theorem OI{p:Prop}(h:p:=by
  go_wp2;go_ret2;exact⟨some ⟨Y,0,none⟩,0,0,by rw[J.out.1];rfl,by rw[J.out.2];exact aM.lit0 _ B.size,B.after (bF _ _) B.size⟩):p:=h
theorem ad4(w:World)(n:Int)(v:Value)(l:List Int)(hv:aK w v l)(hl:l.length<=1048576)(u:Value)(x:List Int)(hu:aK w u x)(t:Value)(m:List Int)(ht:aK w t m):
  Calls prog 81 #[.agg #[n,v],u,t] w fun e' w'=>∃ad i c,e'=.returned (.tuple #[aA ad i c,.bool (iK n l x m)])/\aM 3 w w' (aA ad i c) (sB n l x m)/\Below w w w':=by
 obtain⟨a,c,rfl⟩:=hv.shape;obtain⟨b,cu,rfl⟩:=hu.shape;obtain⟨bt,bq,i1,ct,rfl,j9,c5,f0,j6⟩:=ht.view prog 25 3 underlying25 aN;obtain⟨V,hV⟩:=aJ (w.alloc (.cells #[n,aA a l.length c] 27));have B:Below w w V:=gY hV;have K:aP V w 27 #[n,aA a l.length c]:=gJ hV;go_enter func81,ntmps81;go_wp2_with fail;rw[<-hV];clear hV;refine(pY n l _ V (hv.below B aI) hl).mono ?_;rintro e' w1 ⟨rfl,b1⟩;have K:=K.keep b1;have B:=B.after b1 B.size;have G:=K.cell
 cases hs:fO n l with
 |false=>
  have D:iK n l x m=false:=by unfold iK;rw[hs];rfl
  have I:sB n l x m=[]:=by unfold sB;rw[D];rfl
  have J:=aH (And.intro D I);clear D I hs;go_wp2;go_ret2;exact⟨some ⟨w1,0,none⟩,0,0,by rw[J.out.1];rfl,by rw[J.out.2];exact aM.lit0 _ B.size,B.after (bF _ _) B.size⟩
 |true=>
 go_wp2_with fail;clear G;refine(IJ w1 n _ l (hv.below B aI) _ x (hu.below B aI)).mono ?_;rintro e' Y ⟨rfl,b2⟩;have K:=K.keep b2;have B:=B.after b2 B.size;have G:=K.cell
 cases hb:lN n l x with
 |false=>
  have D:iK n l x m=false:=by unfold iK;rw[hb];simp
  have I:sB n l x m=[]:=by unfold sB;rw[D];rfl
  have J:=aH (And.intro D I);clear D I hs hb;exact OI
 |true=>
 go_wp2_with fail;clear G;refine(AM m _ Y (ht.below B aI)).mono ?_;rintro e' w3 ⟨rfl,rfl⟩;have G:=K.cell;have HN:=aH (show(x.length:Int)=n/\n<=5 from by
  obtain⟨N,hN,j5,_,_,s0,_,_,_⟩:=CW hb;exact⟨by omega,by omega⟩)
 cases g8:(kA m (-5000) 5000&&decide (m.length<=5)) with
 |false=>
  have hlo:fZ n m=false:=by
   unfold fZ
   cases n0:kA m (-5000) 5000 with
   |false=>simp
   |true=>rw[n0,Bool.true_and]at g8;have:=of_decide_eq_false g8;have:=HN.out;rw[decide_eq_false aD];rfl
  have D:iK n l x m=false:=by unfold iK;rw[hlo];simp
  have I:sB n l x m=[]:=by unfold sB;rw[D];rfl
  have J:=aH (And.intro D I);clear D I hs hb hlo;exact OI
 |true=>
 by_cases R:m.length=x.length
 ·have hlo:fZ n m=true:=by
   unfold fZ;rw[(Bool.and_eq_true_iff.1 g8).1,decide_eq_true (by have:=HN.out;omega)]
   rfl
  have o4:((m.length:Int) != (x.length:Int))=false:=by simp[R]
  have D:iK n l x m=true:=by unfold iK;rw[hs,hb,hlo];rfl
  clear HN g8 R;have I:sB n l x m=eU n l x m x.length:=by unfold sB;rw[D];rfl
  obtain⟨N,rfl,j5,f7,R,f6,c7⟩:=YC D;have i8:=aH (abV N l x m R f6 c7);have j0:=aH c7;have J:=aH (And.intro D I);have j1:=aH R;have e7:=aH f7;clear D I hs hb hlo f6 c7 R f7;have l1:=hu.below B aI;have o8:x.length<=5:=by have:=e7.out;omega
  go_wp2_with (at_builtin;(refine xG rfl _ _ _ rfl 3 underlying25 aN Y.heap.size _ [] rfl (aM.lit0 Y aI) _ x rfl (l1.alloc _) aT (by simp) ?_);intro v' w4 o k9;obtain⟨p,i,q,rfl⟩:=o.shape3);have b4:Below Y Y w4:=(bF Y (.cells #[] 3)).grown k9 (by simp) (fun k hk=>by
   have o3:some Y.heap.size=some k:=hk;exact Nat.le_of_eq (Option.some.inj o3))
  have o:aM 3 Y w4 (aA p i q) x:=by simpa using o
  clear k9 o8 l1;have zk:=K.lt;have O:∀g,(Value.slice p i q).ownBlock=some g->w.heap.size<g:=fun g h=>by have:=(o.lt g h).1;omega
  have K:=K.keep b4;have o:=o.mono (B':=w.heap.size) B.size;have B:=B.after b4 B.size;have hi:i=x.length:=by obtain⟨_,_,h⟩:=o.shape;injection h
  subst hi;go_loopw [9] (fun i wr=>∃k:Nat,k<=x.length/\i=aG k/\aM 3 w wr (aA p x.length q) (eU N l x m k)/\(∀g,(Value.slice p x.length q).ownBlock=some g->w.heap.size<g)/\aP wr w 27 #[(N:Int),aA a l.length c]/\Below w w wr) (fun i _=>x.length-(intOf i).toNat)
  case atStart=>exact⟨0,Nat.zero_le _,rfl,o,O,K,B⟩
  case round=>
   clear O;obtain⟨k,hk,rfl,ow,O,Kr,Br⟩:=hrel;clear o K B;have HO:=aH ow;have Z:=aH O;clear ow O;by_cases hlt:k<x.length
   ·have c6:(k:Int)<(x.length:Int):=aD;have M:=FA N l x m k;rcases HO.out.cases with⟨h1,h2⟩|⟨g,cap,h1,n3,o0⟩
    ·rw[h2]at M;simp at M;omega
    ·injection h1 with h1 h3 h4;subst h1 h4;have o1:=Z.out g rfl;clear h3;have a8:k<(eU N l x m k).length:=aD;have co:=HO.out.cellAt M.symm k a8;have ob:=i8.out k hk _ (List.getElem_mem a8);have f5:(eU N l x m k).getD k 0=(eU N l x m k)[k]:=aS _ k a8;have a7:k<m.length:=by have:=j1.out;omega
     have cm:=aR f0 j6 Br aI k a7;have im:=fun W=>c5 W k a7;have mb:=j0.out k a7;have f4:m.getD k 0=m[k]:=aS _ k a7;have j7:=PI N l (eU N l x m k) k;have a9:eU N l x m (k+1)=if (eU N l x m k).getD k 0<m.getD k 0 then (eU N l x m k).set k (min ((eU N l x m k).getD k 0+nW N l (eU N l x m k) k) (m.getD k 0)) else eU N l x m k:=rfl;rw[f5,f4]at a9;have hcl:=fun(W:World) (h1:aK W (aA a l.length c) l) (h2:aK W (aA (some ⟨g,0,none⟩) x.length q) (eU N l x m k))=>TJ W N _ l h1 _ _ h2 k (by have:=e7.out;omega);obtain⟨C,hC⟩:=aJ (nW N l (eU N l x m k) k);obtain⟨F,c9⟩:=aJ ((eU N l x m k)[k]);obtain⟨mv,c8⟩:=aJ (m[k]);simp only[<-hC]at hcl;rw[<-hC,<-c9,<-c8]at a9;rw[<-hC]at j7;rw[<-c9]at co ob;rw[<-c8]at cm mb;have e6:=aH hcl;have g7:=aH a9;have g2:=aH M;have fo:=HO.out.frozenAt M.symm k;have G:=Kr.cell;clear hcl a9 M hC c9 c8 f5 f4 a8 f0 c5;go_wp2_with fail;refine(e6.out _ (hv.below Br aI) HO.out.ints).mono ?_;rintro e' w5 ⟨rfl,b5⟩;have K5:=Kr.keep b5;have o5:=HO.out.keep b5;have B5:=Br.after b5 Br.size;have m5:=keep b5 co;have m4:=keep b5 cm;have m7:=o5.frozenAt g2.out.symm k;have o7:IntKind.i64.wrap (F+C)=F+C:=IntWalk.i64_in _ ⟨by omega,by omega⟩;have j2:=aH o5;clear co cm fo G o5;by_cases f3:F<mv
     ·have e4:=aH f3;go_wp2;go_quiet (fail);go_wp2;go_region
      all_goals go_wp2
      go_roundw
      case rel=>
       have S:∀z,aM 3 w ((w5.drewN z).setCell ⟨g,k,none⟩ (aG (if F+C<mv then F+C else mv))) (aA (some ⟨g,0,none⟩) x.length q) (eU N l x m (k+1))/\aP ((w5.drewN z).setCell ⟨g,k,none⟩ (aG (if F+C<mv then F+C else mv))) w.heap.size 27 #[(N:Int),aA a l.length c]/\Below w w ((w5.drewN z).setCell ⟨g,k,none⟩ (aG (if F+C<mv then F+C else mv))):=by
        intro z;have h8:(if F+C<mv then F+C else mv)=min (F+C) mv:=by split<;>omega
        exact ahR
       first|exact⟨k+1,by omega,by go_num,(S _).1,Z.out,(S _).2.1,(S _).2.2⟩|(simp only[show(if F+C<mv then F+C else mv)=min (F+C) mv by split<;>omega]at S;exact⟨k+1,by omega,by go_num,(S _).1,Z.out,(S _).2.1,(S _).2.2⟩)|(simp only[show(if F+C<mv then F+C else mv)=min mv (F+C) by split<;>omega]at S;exact⟨k+1,by omega,by go_num,(S _).1,Z.out,(S _).2.1,(S _).2.2⟩)
      case measure=>simp[intOf];omega
     ·have e4:=aH f3;go_wp2;go_quiet (fail);go_wp2;go_roundw
      case rel=>exact⟨k+1,by omega,by go_num,by rw[g7.out,if_neg (by have:=e4.out;omega)];exact j2.out.drewN _,Z.out,K5.drewN _,B5.drewN' _⟩
      case measure=>simp[intOf];omega
   ·have c6:¬(k:Int)<(x.length:Int):=aD;have f2:k=x.length:=aD;have HK:=aH f2;clear f2;go_wp2;go_ret2;have ho:=HO.out;rw[HK.out]at ho;exact⟨p,x.length,q,by rw[J.out.1];rfl,by rw[J.out.2];exact ho,Br⟩
 ·have hlo:fZ n m=false:=by unfold fZ;rw[decide_eq_false (by have:=HN.out;omega)];rfl
  have o4:((m.length:Int) != (x.length:Int))=true:=by simp;omega
  have D:iK n l x m=false:=by unfold iK;rw[hlo];simp
  have I:sB n l x m=[]:=by unfold sB;rw[D];rfl
  have J:=aH (And.intro D I);clear D I hs hb hlo R;exact OI
end
end Go.Proofs.YtkdbkjjacgigiaaGreatDoor
