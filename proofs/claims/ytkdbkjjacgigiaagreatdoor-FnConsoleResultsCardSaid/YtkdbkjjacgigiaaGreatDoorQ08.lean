/- Lemmas for CardConsoleResults. No condition. -/
import Derived.Test.YtkdbkjjacgigiaaGreatDoorQ07
set_option maxRecDepth 100000
set_option maxHeartbeats 64000000
namespace Go.Proofs.YtkdbkjjacgigiaaGreatDoor
section
open Go.RowKit Go.G5 Go.Proofs.Tryz
theorem adG(w:World)(n:Int)(ad:Option Addr)(i D:Nat)(l:List Int)(J:aK w (aA ad i D) l)(F:aY n l=true):
  Calls prog 153 #[n,aA ad i D] w fun e w'=>e=.returned (.tuple #[.agg #[n,aA ad i D],.bool true])/\Below w w w':=by
 go_enter func153,ntmps153;go_wp2_with fail;refine(dH n l _ _ (J.below (by repeat(first|exact Below.refl _ _|(with_reducible refine Below.setCell ?_ (by first|omega|(simp;done)|(simp;omega)) _)|(with_reducible refine Below.alloc ?_ (by first|omega|(simp;done)|(simp;omega)) _)|(with_reducible refine Below.drewN' ?_ _)|(with_reducible refine Below.drew ?_)|(with_reducible assumption)|refine Below.trans ?_ (Below.mono (by assumption) (by first|omega|(simp;done)|(simp;omega))))) aI)).mono ?_;rintro e w1 ⟨rfl,hb⟩;rw[F];obtain⟨hc,I⟩:=gN hb (w.heap.size+1+1) (by first|omega|(simp;done)|(simp;omega));have z:=hb.size;simp at z;go_wp2;exact bodyPost_ret (v:=.tuple #[.agg #[n,aA ad i D],.bool true]) (by simp[results,results153,go_sem,hc]) rfl ⟨rfl,(by repeat(first|exact Below.refl _ _|(with_reducible refine Below.setCell ?_ (by first|omega|(simp;done)|(simp;omega)) _)|(with_reducible refine Below.alloc ?_ (by first|omega|(simp;done)|(simp;omega)) _)|(with_reducible refine Below.drewN' ?_ _)|(with_reducible refine Below.drew ?_)|(with_reducible assumption)|refine Below.trans ?_ (Below.mono (by assumption) (by first|omega|(simp;done)|(simp;omega)))))⟩
abbrev kN:=Nat×Nat×Nat
def pE(s i:Nat):Nat->List kN
 |0=>[]
 |k+1=>pE s i k++(if (decide (i<k)&&(!cZ s i&&!cZ s k)) then [(s,i,k)] else [])
def lT(n s:Nat):Nat->List kN
 |0=>[]
 |i+1=>lT n s i++pE s i n
def kK(n:Nat):Nat->List kN
 |0=>[]
 |s+1=>kK n s++lT n s n
theorem S9(s i:Nat):∀k,k<=i+1->pE s i k=[]:=by
 intro k
 induction k with
 |zero=>intro _;rfl
 |succ k ih=>intro hk;rw[pE,ih aD,decide_eq_false aD];rfl
theorem arE(s i k m:Nat)(h:k<=m):∃r,pE s i m=pE s i k++r:=by
 induction m with
 |zero=>have:k=0:=aD;subst this;exact⟨[],rfl⟩
 |succ m ih=>
  by_cases hk:k=m+1
  ·subst hk;exact⟨[],by simp⟩
  ·obtain⟨r,hr⟩:=ih aD;exact⟨r++_,by rw[pE,hr,List.append_assoc]⟩
theorem apN(n s i m:Nat)(h:i<=m):∃r,lT n s m=lT n s i++r:=by
 induction m with
 |zero=>have:i=0:=aD;subst this;exact⟨[],rfl⟩
 |succ m ih=>
  by_cases hk:i=m+1
  ·subst hk;exact⟨[],by simp⟩
  ·obtain⟨r,hr⟩:=ih aD;exact⟨r++_,by rw[lT,hr,List.append_assoc]⟩
theorem apO(n s m:Nat)(h:s<=m):∃r,kK n m=kK n s++r:=by
 induction m with
 |zero=>have:s=0:=aD;subst this;exact⟨[],rfl⟩
 |succ m ih=>
  by_cases hk:s=m+1
  ·subst hk;exact⟨[],by simp⟩
  ·obtain⟨r,hr⟩:=ih aD;exact⟨r++_,by rw[kK,hr,List.append_assoc]⟩
theorem S8(n N s i k:Nat)(D:s<N)(z:i<n)(hk:k<=n):∃r,kK n N=((kK n s++lT n s i)++pE s i k)++r:=by
 obtain⟨J,h3⟩:=apO n (s+1) N D;obtain⟨I,h2⟩:=apN n s (i+1) n z;obtain⟨F,h1⟩:=arE s i k n hk;rw[kK]at h3;rw[lT]at h2;exact⟨F++(I++J),by rw[h3,h2,h1];simp[List.append_assoc]⟩
theorem apQ(s i k:Nat):∀t∈pE s i k,t.1=s/\t.2.1=i/\i<t.2.2/\t.2.2<k:=by
 induction k with
 |zero=>intro t h;cases h
 |succ k ih=>
  intro t h;rw[pE,List.mem_append]at h;rcases h with h|h
  ·have:=ih t h;omega
  ·split at h
   ·rename_i hc;rw[List.mem_singleton]at h;rw[Bool.and_eq_true]at hc;have:=of_decide_eq_true hc.1;subst h;simp;omega
   ·cases h
theorem amV(n s i:Nat):∀t∈lT n s i,t.1=s/\t.2.1<i/\t.2.1<t.2.2/\t.2.2<n:=by
 induction i with
 |zero=>intro t h;cases h
 |succ i ih=>
  intro t h;rw[lT,List.mem_append]at h;rcases h with h|h
  ·have:=ih t h;omega
  ·have:=apQ s i n t h;omega
theorem amW(n s:Nat):∀t∈kK n s,t.1<s/\t.2.1<t.2.2/\t.2.2<n:=by
 induction s with
 |zero=>intro t h;cases h
 |succ s ih=>
  intro t h;rw[kK,List.mem_append]at h;rcases h with h|h
  ·have:=ih t h;omega
  ·have:=amV n s n t h;omega
def hH{α:Type}(step:α->kN->α×Bool):List kN->α->α×Bool
 |[],a=>(a,true)
 |t::r,a=>if (step a t).2 then hH step r (step a t).1 else ((step a t).1,false)
theorem LG{α:Type}(step:α->kN->α×Bool)(x y:List kN)(a:α):hH step (x++y) a=if (hH step x a).2 then hH step y (hH step x a).1 else hH step x a:=by
 induction x generalizing a with
 |nil=>rfl
 |cons t x ih=>
  rw[List.cons_append,hH,hH]
  split
  ·exact ih _
  ·rename_i h;simp
theorem abU{α:Type}{step:α->kN->α×Bool}{x y:List kN}{a b:α}(h:hH step x a=(b,true)):hH step (x++y) a=hH step y b:=by rw[LG,h];rfl
theorem SV{α:Type}{step:α->kN->α×Bool}{x y:List kN}{a b:α}(h:hH step x a=(b,false)):hH step (x++y) a=(b,false):=by rw[LG,h];rfl
theorem YH{α:Type}(step:α->kN->α×Bool)(t:kN)(a:α):hH step [t] a=step a t:=by
 rw[hH]
 split
 ·rename_i h;rw[hH];ext<;>simp[h]
 ·rename_i h;ext<;>simp_all
def rZ(l:List Int)(s i k:Nat):Int:=l.getD (bX s i ||| bX s k) 0+l.getD s 0-l.getD (bX s i) 0-l.getD (bX s k) 0
def GR(l:List Int)(t:kN):Bool:=decide (0<rZ l t.1 t.2.1 t.2.2)
def mP(l:List Int)(a:Option kN)(t:kN):Option kN×Bool:=if GR l t then (some t,false) else (a,a.isNone)
def aeR(n:Nat)(l:List Int):Option kN:=(hH (mP l) (kK n (2^n)) none).1
def sD(n:Int)(l:List Int):Option kN:=if aY n l then aeR n.toNat l else none
def lC(n:Int)(l:List Int):Bool:=(sD n l).isSome
def amX:Option kN->List Int
 |none=>[]
 |some t=>[(t.1:Int),(t.2.1:Int),(t.2.2:Int)]
def lU(n:Int)(l:List Int):List Int:=amX (sD n l)
def fO(n:Int)(l:List Int):Bool:=aY n l&&!lC n l
theorem al2(s x y:Nat):(s ||| x) ||| (s ||| y)=(s ||| x) ||| y:=by
 apply Nat.eq_of_testBit_eq
 intro j;simp only[Nat.testBit_or]
 cases s.testBit j<;>cases x.testBit j<;>cases y.testBit j<;>rfl
theorem sQ(s i k:Nat):bX s i ||| bX s k=bX (bX s i) k:=by unfold bX;exact al2 s (2^i) (2^k)
theorem VN(n:Nat)(l:List Int)(hl:l.length=2^n)(hb:∀k,(hk:k<l.length)->-1000<=l[k]/\l[k]<=1000)(s i k:Nat)(z:s<2^n)(D:i<n)(hk:k<n):-4000<=rZ l s i k/\rZ l s i k<=4000:=by
 have h1:=eI s i n z D;have h2:=eI s k n z hk;have h3:=eI (bX s i) k n h1 hk;rw[<-sQ]at h3;unfold rZ;rw[aS l _ aD,aS l _ aD,aS l _ aD,aS l _ aD];have F:=hb (bX s i) aD;have b2:=hb (bX s k) aD;have I:=hb (bX s i ||| bX s k) aD;have J:=hb s aD;omega
def yJ(l:List Int)(s e:Nat):Bool:=!decide (gM l s e<0)
def mU(n:Int)(l:List Int):Bool:=aY n l&&cA (fun s=>cA (yJ l s) n.toNat) l.length
theorem cS{n:Int}{l:List Int}(h:aY n l=true):∃N:Nat,n=N/\N<=5/\l.length=2^N/\l.length<=32/\∀k,(hk:k<l.length)->-1000<=l[k]/\l[k]<=1000:=by
 obtain⟨J,K,z,I⟩:=kP h;obtain⟨N,rfl⟩:=Int.eq_ofNat_of_zero_le J;have D:N<=5:=aD;have F:l.length=2^N:=by
  have e2:(N:Int).toNat=N:=aD;rw[e2]at z
  exact_mod_cast z
 have M:(2:Nat)^N<=32:=Nat.pow_le_pow_right (n:=2) aQ D;exact⟨N,rfl,D,F,by omega,I⟩
theorem WE(n:Int)(l:List Int)(v:Value)(w:World)(hv:aK w v l):
  Calls prog 186 #[.agg #[n,v]] w fun e w'=>e=.returned (.bool (mU n l))/\Below w w w':=by
 have Y:=hv;obtain⟨a,c,rfl⟩:=hv.shape;have K0:=aP.new w 27 #[n,aA a l.length c]
 cases R:aY n l with
 |false=>
  have hx:mU n l=false:=by unfold mU;rw[R];rfl
  have HX:=aH hx;have HF:=aH R;clear hx R;go_enter func186,ntmps186;go_wp2_with (go_at_call 132;refine(dM n l _ _ (Y.alloc _)).mono ?_;rintro e w1 ⟨rfl,D⟩;rw[HF.out]);go_ret;exact⟨aW HX.out.symm,(bF _ _).after D (by simp)⟩
 |true=>
  obtain⟨N,rfl,f5,b1,e9,b3⟩:=cS R;have hx:mU N l=cA (fun s=>cA (yJ l s) N) l.length:=by unfold mU;rw[R];simp
  obtain⟨F,hF⟩:∃F:Nat->Bool,F=fun s=>cA (yJ l s) N:=⟨_,rfl⟩;rw[<-hF]at hx;have HX:=aH hx;have HF:=aH R;have c5:=aH hF;have c7:=aH b3;have c6:=aH b1;clear hx R hF b3 b1;go_enter func186,ntmps186;go_wp2_with fail;refine(dM N l _ _ (Y.alloc _)).mono ?_;rintro e w1 ⟨rfl,D⟩;rw[HF.out];have K1:=K0.keep D;have B1:Below w w w1:=(bF _ _).after D (by simp);have G1:=K1.cell;clear K0 D;go_wp2_with fail;go_loopw [11] (fun i wr=>∃s:Nat,s<=l.length/\i=aG s/\cA F s=true/\Below w w wr/\aP wr w 27 #[N,aA a l.length c]) (fun i _=>l.length-(intOf i).toNat)
  case atStart=>exact⟨0,Nat.zero_le _,rfl,rfl,B1,K1⟩
  case round=>
   obtain⟨s,hs,rfl,z,B,K⟩:=hrel;obtain⟨wo,rfl⟩:∃wo:World,wo=wr:=⟨_,rfl⟩;have H:=aH z;clear z G1;have G1:=K.cell;by_cases J:s<l.length
   ·have a9:F s=cA (yJ l s) N:=by rw[c5.out]
    have a7:=aH a9;clear a9;go_wp2_with fail;go_loopw [16] (fun i wr=>∃k:Nat,k<=N/\i=aG k/\cA (yJ l s) k=true/\Below w w wr/\aP wr w 27 #[N,aA a l.length c]) (fun i _=>N-(intOf i).toNat)
    case atStart=>exact⟨0,Nat.zero_le _,rfl,rfl,B,K⟩
    case round=>
     obtain⟨k,hk,rfl,z,Z,K2⟩:=hrel;obtain⟨wi,rfl⟩:∃wo:World,wo=wr:=⟨_,rfl⟩;have H2:=aH z;clear z G1;have G1:=K2.cell;by_cases b0:k<N
     ·have e4:bX s k<l.length:=by rw[c6.out]at J ⊢;exact eI _ _ _ J b0
      have hg:=EM N l _ s k wi (Y.below Z aI) aD J aD e4 c7.out;have S:yJ l s k=!decide (gM l s k<0):=rfl;obtain⟨q,hq⟩:=aJ (gM l s k);rw[<-hq]at hg S;have HG:=aH hg;have a8:=aH S;clear hg S hq;by_cases O:q<0
      ·have hu:yJ l s k=false:=by rw[a8.out,decide_eq_true O];rfl
       have M:mU N l=false:=by rw[HX.out];exact cW J (by rw[a7.out];exact cW b0 hu)
       have a6:=aH M;clear hu M;go_wp2_with (go_at_call 266;refine HG.out.mono ?_;rintro e w3 ⟨rfl,I⟩);go_ret;exact⟨aW a6.out.symm,Z.after I Z.size⟩
      ·have hu:yJ l s k=true:=by rw[a8.out,decide_eq_false O];rfl
       have HU:=aH hu;clear hu;go_wp2_with (go_at_call 266;refine HG.out.mono ?_;rintro e w3 ⟨rfl,I⟩);go_roundw
       case rel=>exact⟨k+1,by omega,by go_num,dG H2.out HU.out,Z.after I Z.size,K2.keep I⟩
       case measure=>simp[intOf];omega
     ·have e0:k=N:=aD;subst e0;go_wp2;go_roundw
      case rel=>exact⟨s+1,by omega,by go_num,dG H.out (by rw[a7.out];exact H2.out),Z,K2⟩
      case measure=>simp[intOf];omega
   ·have b4:s=l.length:=aD;subst b4;go_wp2;go_ret;exact⟨aW (by rw[HX.out,H.out]),B⟩
end
section
open Go.RowKit Go.G5 Go.Proofs.Tryz
end
section
open Go.RowKit Go.G5 Go.Proofs.Tryz
theorem agV{p:Prop}(h:p:=by
  obtain⟨k,n,hk,rfl,rfl,I⟩:=hrel;have H:=aH I;clear I;by_cases hlt:k<l.length
  ·have b5:k<z.length:=aD;by_cases F:l[k]=z[k]
   ·have ht:(l[k] != z[k])=false:=by simp[F]
    have HQ:=aH F;clear F;go_wp2;go_quiet (fail);go_wp2;go_roundw
    case rel=>
     refine⟨k+1,_,by omega,by go_num,rfl,fun j h M hj=>?_⟩;by_cases b0:j=k
     ·subst b0;exact HQ.out
     ·exact H.out j h M aD
    case measure=>simp[intOf];omega
   ·have ht:(l[k] != z[k])=true:=by simp[F]
    have HQ:=aH F;clear F;go_wp2;go_quiet (fail);go_wp2;go_ret;exact⟨aW (by simp;intro e;subst e;exact HQ.out rfl),⟨n+nq,by simp⟩⟩
  ·have b9:l.length<=k:=aD
   go_wp2;go_ret;exact⟨aW (by simp;exact List.ext_getElem HL.out fun j h M=>H.out j h M aD),⟨n,rfl⟩⟩):p:=h
theorem adH(v Z:Value)(l z:List Int)(w:World)(hv:aK w v l)(K:aK w Z z):
  Calls prog 98 #[v,Z] w fun e w'=>e=.returned (.bool (decide (l=z)))/\∃n,w'=w.drewN n:=by
 obtain⟨a,b,b3,c,rfl,S,a9,hc,hb⟩:=hv.view prog 25 3 underlying25 aN;obtain⟨a',b',Y,c',rfl,J,N,a8,a6⟩:=K.view prog 25 3 underlying25 aN;by_cases D:l.length=z.length
 ·have HL:=aH D;have O:l.length<=z.length:=aD;have R:z.length<=l.length:=aD;have a7:((l.length:Int) != (z.length:Int))=false:=by simp[D]
  clear D;go_enter func98,ntmps98;go_wp2;go_loopw [5] (fun i wr=>∃k n:Nat,k<=l.length/\i=aG k/\wr=w.drewN n/\(∀j (h:j<l.length) (M:j<z.length),j<k->l[j]=z[j]))
   (fun i _=>l.length-(intOf i).toNat)
  case atStart=>exact⟨0,0,Nat.zero_le _,rfl,rfl,by intros;omega⟩
  case round=>exact agV
 ·go_enter func98,ntmps98;go_wp2;go_ret;exact⟨aW (by simp;intro h;exact D (by rw[h])),⟨0,rfl⟩⟩
theorem O4(v Z:Value)(l z:List Int)(w:World)(hv:aK w v l)(K:aK w Z z):
  Calls prog 340 #[v,Z] w fun e w'=>e=.returned (.bool (decide (l=z)))/\∃n,w'=w.drewN n:=by
 obtain⟨a,b,b3,c,rfl,S,a9,hc,hb⟩:=hv.view prog 25 3 underlying25 aN;obtain⟨a',b',Y,c',rfl,J,N,a8,a6⟩:=K.view prog 25 3 underlying25 aN;by_cases D:l.length=z.length
 ·have HL:=aH D;have O:l.length<=z.length:=aD;have R:z.length<=l.length:=aD;have a7:((l.length:Int) != (z.length:Int))=false:=by simp[D]
  clear D;go_enter func340,ntmps340;go_wp2;go_loopw [13] (fun i wr=>∃k n:Nat,k<=l.length/\i=aG k/\wr=w.drewN n/\(∀j (h:j<l.length) (M:j<z.length),j<k->l[j]=z[j]))
   (fun i _=>l.length-(intOf i).toNat)
  case atStart=>exact⟨0,0,Nat.zero_le _,rfl,rfl,by intros;omega⟩
  case round=>exact agV
 ·go_enter func340,ntmps340;go_wp2;go_ret;exact⟨aW (by simp;intro h;exact D (by rw[h])),⟨0,rfl⟩⟩
@[reducible] def clV (k n1 : Int) (v1 : Value) (n2 : Int) (v2 : Value) (n3 : Int) (v3 : Value) (q st : Int) (v4 : Value) : Value :=
 .agg #[k,n1,v1,n2,v2,n3,v3,q,st,v4]
@[reducible] def clC (k n1 : Int) (v1 : Value) (n2 : Int) (v2 : Value) (n3 : Int) (v3 : Value) (q st : Int) (v4 : Value) : Array Value :=
 #[k,n1,v1,n2,v2,n3,v3,q,st,v4]
def EQ(l:List Int)(a:Int)(t:kN):Int×Bool:=(max a (rZ l t.1 t.2.1 t.2.2),true)
def V0(n:Nat)(l:List Int):Int:=(hH (EQ l) (kK n (2^n)) 0).1
def mF(n:Int)(l:List Int):Int:=if aY n l then V0 n.toNat l else 0
def fT(X:List Int)(a:Int):Int:=X.foldl max a
theorem EY:∀(X:List Int) (a:Int),a<=fT X a/\∀x∈X,x<=fT X a
 |[],a=>⟨Int.le_refl _,by simp⟩
 |y::X,a=>by
  have⟨h1,h2⟩:=EY X (max a y);refine⟨by unfold fT at h1 ⊢;rw[List.foldl_cons];omega,fun x z=>?_⟩;rcases List.mem_cons.1 z with rfl|z
  ·unfold fT at h1 ⊢;rw[List.foldl_cons];omega
  ·exact h2 x z
theorem EZ:∀(X:List Int) (a:Int),fT X a=a∨fT X a∈X
 |[],a=>.inl rfl
 |y::X,a=>by
  have h:=EZ X (max a y);have e:fT (y::X) a=fT X (max a y):=rfl;rw[e];rcases h with h|h
  ·rw[h];rcases Int.le_total a y with h1|h1
   ·right;rw[Int.max_eq_right h1];simp
   ·left;exact Int.max_eq_left h1
  ·exact .inr (List.mem_cons_of_mem _ h)
theorem alX(X Y:List Int)(a:Int)(h1:∀x∈X,x∈Y)(h2:∀y∈Y,y∈X):fT X a=fT Y a:=by
 have z:=EY X a;have D:=EY Y a;have F:=EZ X a;have I:=EZ Y a;have e1:fT X a<=fT Y a:=by
  rcases F with h|h
  ·rw[h];exact D.1
  ·exact D.2 _ (h1 _ h)
 have e2:fT Y a<=fT X a:=by
  rcases I with h|h
  ·rw[h];exact z.1
  ·exact z.2 _ (h2 _ h)
 omega
theorem adR(X:List Int)(a y:Int):fT (X++[y]) a=max (fT X a) y:=by simp[fT]
def yK(l:List Int)(t:kN):Int:=rZ l t.1 t.2.1 t.2.2
theorem P3(l:List Int):∀(T:List kN) (a:Int),hH (EQ l) T a=(fT (T.map (yK l)) a,true)
 |[],_=>rfl
 |t::T,a=>by
  rw[hH];show(if true=true then _ else _)=_;rw[if_pos rfl,P3 l T]
  rfl
def FX(s i:Nat):Nat->List kN
 |0=>[]
 |k+1=>FX s i k++(if (!cZ s i&&!cZ s k) then [(s,i,k)] else [])
def wC(s:Nat):Nat->List kN
 |0=>[]
 |i+1=>wC s i++FX s i i
def tY(n:Nat):Nat->List kN
 |0=>[]
 |s+1=>tY n s++wC s n
theorem apR(s i k:Nat)(t:kN):t∈FX s i k↔t.1=s/\t.2.1=i/\t.2.2<k/\cZ s i=false/\cZ s t.2.2=false:=by
 induction k with
 |zero=>simp[FX]
 |succ k ih=>
  rw[FX,List.mem_append,ih];obtain⟨a,b,c⟩:=t;constructor
  ·rintro(h|h)
   ·exact⟨h.1,h.2.1,by have:=h.2.2.1;omega,h.2.2.2⟩
   ·split at h
    ·rename_i hc;rw[List.mem_singleton]at h;simp only[Prod.mk.injEq]at h;obtain⟨rfl,rfl,rfl⟩:=h;simp only[Bool.and_eq_true,Bool.not_eq_true']at hc;exact⟨rfl,rfl,by simp,hc.1,hc.2⟩
    ·cases h
  ·rintro⟨h1,h2,h3,h4,z⟩;simp only at h1 h2 h3 z;by_cases hk:c=k
   ·right;subst hk h1 h2;rw[if_pos (by rw[h4,z];rfl)];simp
   ·left;exact⟨h1,h2,by simp only;omega,h4,z⟩
theorem amY(s i:Nat)(t:kN):t∈wC s i↔t.1=s/\t.2.1<i/\t.2.2<t.2.1/\cZ s t.2.1=false/\cZ s t.2.2=false:=by
 induction i with
 |zero=>simp[wC]
 |succ i ih=>
  rw[wC,List.mem_append,ih,apR];constructor
  ·rintro(h|h)
   ·exact⟨h.1,by omega,h.2.2⟩
   ·have e:=h.2.1;exact⟨h.1,by omega,by omega,by rw[e];exact h.2.2.2.1,h.2.2.2.2⟩
  ·rintro⟨h1,h2,h3,h4,z⟩;by_cases hk:t.2.1=i
   ·right;exact⟨h1,hk,by omega,by rw[<-hk];exact h4,z⟩
   ·left;exact⟨h1,by omega,h3,h4,z⟩
theorem YW(n s:Nat)(t:kN):t∈tY n s↔t.1<s/\t.2.1<n/\t.2.2<t.2.1/\cZ t.1 t.2.1=false/\cZ t.1 t.2.2=false:=by
 induction s with
 |zero=>simp[tY]
 |succ s ih=>
  rw[tY,List.mem_append,ih,amY];constructor
  ·rintro(h|h)
   ·exact⟨by omega,h.2⟩
   ·have e:=h.1;rw[e];exact⟨by omega,h.2⟩
  ·rintro⟨h1,h2⟩;by_cases hk:t.1=s
   ·right;rw[hk]at h2;exact⟨hk,h2⟩
   ·left;exact⟨by omega,h2⟩
theorem apP(s i k:Nat)(t:kN):t∈pE s i k↔t.1=s/\t.2.1=i/\i<t.2.2/\t.2.2<k/\cZ s i=false/\cZ s t.2.2=false:=by
 induction k with
 |zero=>simp[pE]
 |succ k ih=>
  rw[pE,List.mem_append,ih];obtain⟨a,b,c⟩:=t;constructor
  ·rintro(h|h)
   ·exact⟨h.1,h.2.1,h.2.2.1,by have:=h.2.2.2.1;omega,h.2.2.2.2⟩
   ·split at h
    ·rename_i hc;rw[List.mem_singleton]at h;simp only[Prod.mk.injEq]at h;obtain⟨rfl,rfl,rfl⟩:=h;simp only[Bool.and_eq_true,Bool.not_eq_true',decide_eq_true_eq]at hc;exact⟨rfl,rfl,hc.1,by simp,hc.2.1,hc.2.2⟩
    ·cases h
  ·rintro⟨h1,h2,h3,h4,D,z⟩;simp only at h1 h2 h3 h4 z;by_cases hk:c=k
   ·right;subst hk h1 h2;rw[if_pos (by rw[D,z,decide_eq_true h3];rfl)];simp
   ·left;exact⟨h1,h2,h3,by simp only;omega,D,z⟩
theorem amU(n s i:Nat)(t:kN):t∈lT n s i↔t.1=s/\t.2.1<i/\t.2.1<t.2.2/\t.2.2<n/\cZ s t.2.1=false/\cZ s t.2.2=false:=by
 induction i with
 |zero=>simp[lT]
 |succ i ih=>
  rw[lT,List.mem_append,ih,apP];constructor
  ·rintro(h|h)
   ·exact⟨h.1,by omega,h.2.2⟩
   ·have e:=h.2.1;exact⟨h.1,by omega,by omega,h.2.2.2.1,by rw[e];exact h.2.2.2.2.1,h.2.2.2.2.2⟩
  ·rintro⟨h1,h2,h3,h4,z,D⟩;by_cases hk:t.2.1=i
   ·right;exact⟨h1,hk,by omega,h4,by rw[<-hk];exact z,D⟩
   ·left;exact⟨h1,by omega,h3,h4,z,D⟩
theorem YV(n s:Nat)(t:kN):t∈kK n s↔t.1<s/\t.2.1<t.2.2/\t.2.2<n/\cZ t.1 t.2.1=false/\cZ t.1 t.2.2=false:=by
 induction s with
 |zero=>simp[kK]
 |succ s ih=>
  rw[kK,List.mem_append,ih,amU];constructor
  ·rintro(h|h)
   ·exact⟨by omega,h.2⟩
   ·have e:=h.1;rw[e];exact⟨by omega,h.2.2⟩
  ·rintro⟨h1,h2,h3,h4,z⟩;by_cases hk:t.1=s
   ·right;rw[hk]at h4 z;exact⟨hk,by omega,h2,h3,h4,z⟩
   ·left;exact⟨by omega,h2,h3,h4,z⟩
theorem VO(l:List Int)(s i k:Nat):rZ l s i k=rZ l s k i:=by
 unfold rZ;rw[Nat.or_comm (bX s i) (bX s k)];omega
theorem af3(n:Nat)(l:List Int)(N:Nat):fT ((tY n N).map (yK l)) 0=fT ((kK n N).map (yK l)) 0:=by
 refine alX _ _ _ (fun x z=>?_) (fun x z=>?_)
 ·obtain⟨⟨s,i,k⟩,h1,rfl⟩:=List.mem_map.1 z;have h2:=(YW _ _ _).1 h1;simp only at h2;exact List.mem_map.2 ⟨(s,k,i),(YV _ _ _).2 (by simp only;exact⟨h2.1,h2.2.2.1,h2.2.1,h2.2.2.2.2,h2.2.2.2.1⟩),VO l s k i⟩
 ·obtain⟨⟨s,i,k⟩,h1,rfl⟩:=List.mem_map.1 z;have h2:=(YV _ _ _).1 h1;simp only at h2;exact List.mem_map.2 ⟨(s,k,i),(YW _ _ _).2 (by simp only;exact⟨h2.1,h2.2.2.1,h2.2.1,h2.2.2.2.2,h2.2.2.2.1⟩),VO l s k i⟩
theorem af2(n:Nat)(l:List Int):V0 n l=fT ((tY n (2^n)).map (yK l)) 0:=by
 unfold V0;rw[P3,af3]
theorem alW(X:List Int)(h:∀x∈X,x<=4000):0<=fT X 0/\fT X 0<=4000:=by
 have h1:=(EY X 0).1;rcases EZ X 0 with h2|h2
 ·omega
 ·exact⟨h1,h _ h2⟩
theorem P2(n:Int)(l:List Int):0<=mF n l/\mF n l<=4000:=by
 unfold mF
 split
 ·rename_i I;obtain⟨K,M,z,F⟩:=kP I;have D:l.length=2^n.toNat:=by exact_mod_cast z
  unfold V0;rw[P3];refine alW _ (fun x J=>?_);obtain⟨t,h1,rfl⟩:=List.mem_map.1 J;have h2:=amW _ _ t h1;exact(VN n.toNat l D F t.1 t.2.1 t.2.2 h2.1 aD aD).2
 ·omega
def jP(l:List Int):Nat->List (List Int)
 |0=>[]
 |e+1=>if gQ l (e:Int) then jP l e else jP l e++[l++[(e:Int)]]
def kW(n:Nat)(z:List (List Int)):Nat->List (List Int)
 |0=>[]
 |k+1=>kW n z k++jP (z.getD k []) n
def cY(n:Nat):Nat->List (List Int)
 |0=>[[]]
 |r+1=>kW n (cY n r) (cY n r).length
theorem RR(l:List Int)(e:Nat):(jP l e).length<=e:=by
 induction e with
 |zero=>exact aI
 |succ e ih=>
  rw[jP]
  split
  ·omega
  ·rw[List.length_append];simp only[List.length_cons,List.length_nil];omega
theorem E0(n:Nat)(z:List (List Int))(k:Nat):(kW n z k).length<=k*n:=by
 induction k with
 |zero=>simp[kW]
 |succ k ih=>have:=RR (z.getD k []) n;rw[kW,List.length_append,Nat.succ_mul];omega
theorem aaD(n:Nat)(z:n<=5)(r:Nat):(cY n r).length<=5^r:=by
 induction r with
 |zero=>simp[cY]
 |succ r ih=>have h1:=E0 n (cY n r) (cY n r).length;have h2:(cY n r).length*n<=5^r*5:=Nat.mul_le_mul ih z;rw[cY,Nat.pow_succ];omega
theorem afL(l:List Int)(n e:Nat)(D:e<=n):∀x∈jP l e,∃j:Nat,j<n/\x=l++[(j:Int)]:=by
 induction e with
 |zero=>simp[jP]
 |succ e ih=>
  intro x z;rw[jP]at z
  split at z
  ·exact ih aD x z
  ·rcases List.mem_append.1 z with z|z
   ·exact ih aD x z
   ·simp only[List.mem_singleton]at z;exact⟨e,by omega,z⟩
theorem adU(n:Nat)(D:List (List Int))(k:Nat)(hk:k<=D.length):∀x∈kW n D k,∃l∈D,∃j:Nat,j<n/\x=l++[(j:Int)]:=by
 induction k with
 |zero=>simp[kW]
 |succ k ih=>
  intro x z;rw[kW]at z;rcases List.mem_append.1 z with z|z
  ·exact ih aD x z
  ·obtain⟨j,F,e⟩:=afL _ n n aI x z;rw[List.getD_eq_getElem?_getD,List.getElem?_eq_getElem (show k<D.length by omega),Option.getD_some]at e;exact⟨_,List.getElem_mem (show k<D.length by omega),j,F,e⟩
theorem uI(n r:Nat):∀l∈cY n r,l.length=r/\∀x∈l,0<=x/\x<n:=by
 induction r with
 |zero=>intro l hl;simp only[cY,List.mem_singleton]at hl;subst hl;simp
 |succ r ih=>
  intro l hl;obtain⟨F,D,j,I,rfl⟩:=adU n _ _ aI l hl;obtain⟨h1,h2⟩:=ih F D;refine⟨by simp[h1],fun x z=>?_⟩;rcases List.mem_append.1 z with z|z
  ·exact h2 x z
  ·simp only[List.mem_singleton]at z;omega
theorem AU(n:Nat)(z:n<=6)(r:Nat):(cY n r).length<=6^r:=by
 induction r with
 |zero=>simp[cY]
 |succ r ih=>have h1:=E0 n (cY n r) (cY n r).length;have h2:(cY n r).length*n<=6^r*6:=Nat.mul_le_mul ih z;rw[cY,Nat.pow_succ];omega
theorem FV(n:Nat)(hn:n<=6)(w:World):
  Calls prog 263 #[(n:Int)] w fun e w'=>∃ad i c,e=.returned (aA ad i c)/\cV 3 25 w.heap.size w' (aA ad i c) (cY n n)/\Below w w w':=by
 have o0:=cV.single (EI:=3) (EO:=25) w (Nat.le_refl w.heap.size);go_enter func263,ntmps263;go_wp2_with fail;go_loopw [3,10] (fun v i wr=>∃(r:Nat) (ad:Option Addr) (cp:Nat),r<=n/\i=aG r/\v=.slice ad (cY n r).length cp/\cV 3 25 w.heap.size wr (.slice ad (cY n r).length cp) (cY n r)/\Below w w wr)
  (fun _ i _=>n-(intOf i).toNat)
 case atStart=>exact⟨0,_,_,Nat.zero_le _,rfl,rfl,o0,bF _ _⟩
 case round=>
  obtain⟨r,ad,cp,hr,rfl,rfl,ol,B⟩:=hrel;obtain⟨wo,rfl⟩:∃wo:World,wo=wr:=⟨_,rfl⟩;clear o0;by_cases l2:r<n
  ·have R:=uI n r
   have a6:=AU n hn r;have h5:(6:Nat)^r<=6^5:=Nat.pow_le_pow_right aQ aD;have b9:cY n (r+1)=kW n (cY n r) (cY n r).length:=rfl;obtain⟨I,f2⟩:=aJ (cY n r);rw[<-f2]at ol R a6 b9 ⊢;have h0:I.length<=7776:=aD;have e0:=aH b9;have d0:=aH R;have e4:=aH ol;clear f2 R a6 h5 b9 ol;go_wp2_with fail;go_loopw [4,14] (fun v i wm=>∃(k:Nat) (b0:Option Addr) (c5 b1:Nat),k<=I.length/\i=aG k/\v=aA b0 c5 b1/\cV 3 25 wo.heap.size wm (aA b0 c5 b1) (kW n I k) /\
     cV 3 25 w.heap.size wm (aA ad I.length cp) I/\Below w w wm/\wo.heap.size<=wm.heap.size)
    (fun _ i _=>I.length-(intOf i).toNat)
   case atStart=>exact⟨0,none,0,0,Nat.zero_le _,rfl,rfl,cV.nil _ _ _ _,e4.out,B,aI⟩
   case round=>
    obtain⟨k,b0,c5,b1,hk,rfl,rfl,M,oL,Bm,zm⟩:=hrel;obtain⟨wm,rfl⟩:∃wm:World,wm=wr:=⟨_,rfl⟩;have rL:=e4.out.lt;by_cases b5:k<I.length
    ·obtain⟨g,u,g8,b4,hu⟩:=oL.view prog 77 underlying77 lY k b5;have b8:=d0.out _ (List.getElem_mem b5);have e9:I.getD k []=I[k]:=by rw[List.getD_eq_getElem?_getD,List.getElem?_eq_getElem b5];rfl
     have Z:kW n I (k+1)=kW n I k++jP I[k] n:=by rw[kW,e9]
     have h7:=E0 n I k;have j5:k*n<=7776*6:=Nat.mul_le_mul aD hn;obtain⟨l,hl⟩:=aJ (I[k]);rw[<-hl]at hu b8 Z;obtain⟨N,hN⟩:=aJ (kW n I k);rw[<-hN]at Z h7 M;have l1:l.length<=6:=by have:=b8.1;omega
     obtain⟨au,nu,cu,rfl⟩:=hu.shape3;have g2:=aH Z;have a8:=aH M;have e6:=aH oL;have HU:=aH hu;clear hl hN b8 e9 Z M oL hu;go_wp2_with fail;go_loopw [4,19] (fun v i K=>∃(e:Nat) (z:Option Addr) (F D:Nat),e<=n/\i=aG e/\v=aA z F D/\cV 3 25 wo.heap.size K (aA z F D) (N++jP l e) /\
       cV 3 25 w.heap.size K (aA ad I.length cp) I/\aM 3 w K (aA au nu cu) l/\Below w w K/\wo.heap.size<=K.heap.size)
      (fun _ i _=>n-(intOf i).toNat)
     case atStart=>exact⟨0,_,_,_,Nat.zero_le _,rfl,rfl,by simpa[jP]using a8.out,e6.out,HU.out,Bm,zm⟩
     case round=>
      obtain⟨e,z,F,D,he,rfl,rfl,M,oL,oU,Bi,zi⟩:=hrel;obtain⟨K,rfl⟩:∃K:World,K=wr:=⟨_,rfl⟩;clear g8 b4;by_cases l0:e<n
      ·cases hh:gQ l (e:Int) with
       |true=>
        have hx:jP l (e+1)=jP l e:=by rw[jP,hh];rfl
        have HX:=aH hx;have HH:=aH hh;clear hx hh;go_wp2_with (go_at_call 318;refine(xB l _ _ _ oU.ints).mono ?_;rintro e' w' ⟨rfl,rfl⟩;rw[HH.out]);go_roundw
        case rel=>exact⟨e+1,z,F,D,by omega,by go_num,rfl,by rw[HX.out];exact M,oL,oU,Bi,zi⟩
        case measure=>simp[intOf];omega
       |false=>
        have hx:jP l (e+1)=jP l e++[l++[(e:Int)]]:=by rw[jP,hh];rfl
        have g7:=RR l e;have HX:=aH hx;have HH:=aH hh;have rN:=M.lt;have O:=aH M;have e5:=aH oL;have a9:=aH oU;have h6:(N++jP l e).length<=46700:=by rw[List.length_append];omega
        clear hx hh M oL oU g7;go_wp2_with (first
         |(go_at_call 318;refine(xB l _ _ _ a9.out.ints).mono ?_;rintro e' w' ⟨rfl,rfl⟩;rw[HH.out])
         |(go_at_call 287;refine(kR _ l _ a9.out.ints aD).mono ?_;rintro e' w5 ⟨p5,i5,q5,rfl,o5,b3⟩;have z5:=b3.size)
         |(at_builtin;refine dA rfl _ _ _ rfl 3 underlying25 aN K.heap.size (aA p5 i5 q5) l (e:Int) w5.heap.size rfl rfl (by simp) (o5.alloc _) ⟨by omega,by omega⟩ aD aT ?_;intro v' w6 S f0;obtain⟨p6,i6,q6,rfl⟩:=S.shape3;have b6:Below K K w6:=ab9 (Below.after (Below.refl _ _) (b3.after (bF w5 _) b3.size) aI) f0 aT (fun q hq=>(o5.lt q hq).1);have z6:=b6.size;obtain⟨m3,k2⟩:=(O.out.keep b6).row)
         |(at_builtin;refine xF rfl _ _ _ rfl 3 25 yD underlying77 lY wo.heap.size (aA z F D) (N++jP l e) (aA p6 i6 q6) (l++[(e:Int)]) w6.heap.size rfl rfl (by simp) ((O.out.keep b6).keep (bF w6 _)) ((S.mono aD).alloc _) aD aT ?_;intro v' w7 Y J;obtain⟨p7,i7,q7,rfl⟩:=Y.shape3))
        have b7:Below K K (w6.alloc (.cells #[aA p6 i6 q6] 25)):=b6.alloc b6.size _;obtain⟨m4,a7⟩:=(O.out.keep b7).row;have i8:=(e5.out.keep b7).grow a7 yD J (fun q hq h8=>by have:=(rN q hq).1;have:=(rL q h8).2;omega);have j0:=(a9.out.keep b7).growL a7 yD J;have m6:=Bi.size;have B7:=(Bi.after b7 Bi.size).grown J aT (fun q hq=>by have:=(rN q hq).1;have:=B.size;omega);have z7:=J.size;go_roundw
        case rel=>exact⟨e+1,p7,i7,q7,by omega,by go_num,rfl,by rw[HX.out,<-List.append_assoc];exact Y,i8,j0,B7,by simp at z7;omega⟩
        case measure=>simp[intOf];omega
      ·have g6:e=n:=aD;subst g6;go_wp2;go_roundw
       case rel=>exact⟨k+1,z,F,D,by omega,by go_num,rfl,by rw[g2.out];exact M,oL,Bi,zi⟩
       case measure=>simp[intOf];omega
    ·have g9:k=I.length:=aD;subst g9;have i1:=M.len;obtain⟨a3,c3,e3,_⟩:=i1;simp only[Value.slice.injEq]at e3;obtain⟨rfl,rfl,rfl⟩:=e3;have a8:=aH M;clear M oL;go_wp2;go_roundw
     case rel=>exact⟨r+1,_,_,by omega,by go_num,by rw[e0.out],by rw[e0.out];exact a8.out.mono B.size,Bm⟩
     case measure=>simp[intOf];omega
  ·have h9:r=n:=aD;subst h9;go_wp2;go_ret;exact⟨_,_,_,rfl,ol,B⟩
theorem XR(n:Nat)(z:n<=5)(w:World):
  Calls prog 263 #[(n:Int)] w fun e w'=>∃ad i c,e=.returned (aA ad i c)/\cV 3 25 w.heap.size w' (aA ad i c) (cY n n)/\Below w w w':=
 FV n aD w
def AX(l:List Int)(os:List (List Int))(e:Nat):Nat->Int
 |0=>0
 |j+1=>AX l os e j+(tA l (os.getD j [])).getD e 0
def mK(l:List Int)(os:List (List Int))(n j:Nat):List Int:=(List.range n).map fun e=>AX l os e j
theorem E9(l:List Int)(os:List (List Int))(n j:Nat):(mK l os n j).length=n:=by simp[mK]
theorem YG(l:List Int)(os:List (List Int))(n j e:Nat)(h:e<(mK l os n j).length):(mK l os n j)[e]=AX l os e j:=by simp[mK]
theorem ajN(l:List Int)(os:List (List Int))(n:Nat):mK l os n 0=List.replicate n 0:=by
 apply List.ext_getElem
 ·simp[mK]
 ·intro i h1 h2;simp[mK,AX]
theorem alV(A B:List Int)(e:Nat)(F:e<A.length)(hB:A.length=B.length):(A.take e++B.drop e).set e A[e]=A.take (e+1)++B.drop (e+1):=by
 apply List.ext_getElem
 ·simp;omega
 ·intro i h1 h2;simp only[List.length_set,List.length_append,List.length_take,List.length_drop]at h1 h2;rw[List.getElem_set];by_cases z:e=i
  ·subst z;rw[if_pos rfl,List.getElem_append_left aT];simp
  ·rw[if_neg z];by_cases D:i<e
   ·rw[List.getElem_append_left aT,List.getElem_append_left aT];simp
   ·rw[List.getElem_append_right aT,List.getElem_append_right aT];simp only[List.length_take,List.getElem_drop]
    congr 1;omega
theorem aoQ(A B:List Int)(e:Nat)(z:e<=A.length)(hB:A.length=B.length):(A.take e++B.drop e).length=A.length:=by simp;omega
theorem aoP(A B:List Int)(e:Nat)(z:e<A.length)(hB:A.length=B.length)(h:e<(A.take e++B.drop e).length):(A.take e++B.drop e)[e]=B[e]:=by
 rw[List.getElem_append_right aT];simp only[List.length_take,List.getElem_drop]
 congr 1;omega
def oX(l:List Int)(n e:Nat):Nat->Int
 |0=>0
 |s+1=>if dI (s:Int) e=1 then oX l n e s else oX l n e s+(gA (bY s):Int)*(gA (n-1-bY s):Int)*(l.getD (bX s e) 0-l.getD s 0)
def nR(n:Nat)(l:List Int):List Int:=(List.range n).map fun e=>oX l n e (2^n)
def gX(n:Int)(l:List Int):List Int:=if aY n l then nR n.toNat l else []
def LC(l:List Int):List (Int×Nat×Nat)->Int
 |[]=>0
 |t::ts=>LC l ts+t.1*(l.getD t.2.1 0-l.getD t.2.2 0)
def one(a i:Nat):Int:=if a=i then 1 else 0
def GW(i:Nat):List (Int×Nat×Nat)->Int
 |[]=>0
 |t::ts=>GW i ts+t.1*(one t.2.1 i-one t.2.2 i)
def sT(f:Nat->Int):Nat->Int
 |0=>0
 |n+1=>sT f n+f n
theorem aeJ{f g:Nat->Int}{n:Nat}(h:∀i,i<n->f i=g i):sT f n=sT g n:=by
 induction n with
 |zero=>rfl
 |succ n ih=>rw[sT,sT,ih (fun i z=>h i aD),h n aD]
theorem YQ(f g:Nat->Int)(n:Nat):sT (fun i=>f i+g i) n=sT f n+sT g n:=by
 induction n with
 |zero=>rfl
 |succ n ih=>rw[sT,sT,sT,ih];omega
theorem ajY(n:Nat):sT (fun _=>0) n=0:=by
 induction n with
 |zero=>rfl
 |succ n ih=>rw[sT,ih];rfl
theorem YR(l:List Int)(a n:Nat)(c:Int):sT (fun i=>c*one a i*l.getD i 0) n=if a<n then c*l.getD a 0 else 0:=by
 induction n with
 |zero=>simp[sT]
 |succ n ih=>
  rw[sT,ih];unfold one;by_cases h1:a<n
  ·rw[if_pos h1,if_neg (show ¬a=n by omega),if_pos (show a<n+1 by omega)];simp
  ·by_cases h2:a=n
   ·subst h2;simp
   ·rw[if_neg h1,if_neg h2,if_neg (show ¬a<n+1 by omega)];simp
theorem WU(l:List Int)(n:Nat)(ts:List (Int×Nat×Nat))(h:∀t∈ts,t.2.1<n/\t.2.2<n):LC l ts=sT (fun i=>GW i ts*l.getD i 0) n:=by
 induction ts with
 |nil=>simp only[LC,GW,Int.zero_mul,ajY]
 |cons t ts ih=>
  have ht:=h t (by simp);rw[LC,ih (fun x z=>h x (by simp[z]))];have e:(fun i=>GW i (t::ts)*l.getD i 0)=fun i=>GW i ts*l.getD i 0+(t.1*one t.2.1 i*l.getD i 0+(-t.1)*one t.2.2 i*l.getD i 0):=by
   funext i
   rw[GW,Int.add_mul,Int.mul_sub,Int.sub_mul,Int.neg_mul,Int.neg_mul];omega
  rw[e,YQ,YQ,YR,YR,if_pos ht.1,if_pos ht.2,Int.mul_sub,Int.neg_mul];omega
def zR(o:List Int):Nat->List (Nat×Nat)
 |0=>List.replicate o.length (0,0)
 |k+1=>(zR o k).set (o.getD k 0).toNat (bX (sA o k) (o.getD k 0).toNat,sA o k)
theorem ZP(l o:List Int)(k:Nat):jB l o k=(zR o k).map fun p=>l.getD p.1 0-l.getD p.2 0:=by
 induction k with
 |zero=>simp[jB,zR]
 |succ k ih=>rw[jB,zR,List.map_set,ih];rfl
def tI(os:List (List Int))(e:Nat):Nat->List (Int×Nat×Nat)
 |0=>[]
 |j+1=>(1,(zR (os.getD j []) (os.getD j []).length).getD e (0,0))::tI os e j
def tS(n e:Nat):Nat->List (Int×Nat×Nat)
 |0=>[]
 |s+1=>if dI (s:Int) e=1 then tS n e s else ((gA (bY s):Int)*(gA (n-1-bY s):Int),bX s e,s)::tS n e s
theorem apM(l:List Int)(os:List (List Int))(e j:Nat):AX l os e j=LC l (tI os e j):=by
 induction j with
 |zero=>rfl
 |succ j ih=>
  rw[AX,tI,LC,ih];unfold tA;rw[ZP]
  generalize zR (os.getD j []) (os.getD j []).length=P
  have:(P.map fun p=>l.getD p.1 0-l.getD p.2 0).getD e 0=l.getD (P.getD e (0,0)).1 0-l.getD (P.getD e (0,0)).2 0:=by
   rw[List.getD_eq_getElem?_getD,List.getElem?_map,List.getD_eq_getElem?_getD]
   cases z:P[e]? with
   |none=>simp[z]
   |some p=>simp[z]
  rw[this,Int.one_mul]
theorem amL(l:List Int)(n e s:Nat):oX l n e s=LC l (tS n e s):=by
 induction s with
 |zero=>rfl
 |succ s ih=>
  rw[oX,tS];by_cases h:dI (s:Int) e=1
  ·rw[if_pos h,if_pos h,ih]
  ·rw[if_neg h,if_neg h,LC,ih]
def MW(ts z:List (Int×Nat×Nat))(n:Nat):Bool:=
 ts.all (fun t=>decide (t.2.1<n)&&decide (t.2.2<n))&&z.all (fun t=>decide (t.2.1<n)&&decide (t.2.2<n))&&(List.range n).all fun i=>GW i ts==GW i z
theorem alQ(l:List Int)(ts z:List (Int×Nat×Nat))(n:Nat)(h:MW ts z n=true):LC l ts=LC l z:=by
 unfold MW at h;simp only[Bool.and_eq_true,List.all_eq_true,decide_eq_true_eq,List.mem_range,beq_iff_eq]at h;rw[WU l n ts h.1.1,WU l n z h.1.2];exact aeJ fun i D=>by rw[h.2 i D]
theorem aeF:∀n,n<=5->∀e,e<n->MW (tI (cY n n) e (cY n n).length) (tS n e (2^n)) (2^n)=true:=by decide +kernel
theorem ajR(n:Nat)(D:n<=5)(l:List Int):mK l (cY n n) n (cY n n).length=nR n l:=by
 unfold mK nR
 apply List.map_congr_left
 intro e z;rw[apM,amL];exact alQ l _ _ _ (aeF n D e (by simpa using z))
theorem WF(n:Int)(l:List Int)(v:Value)(w:World)(hv:aK w v l):
  Calls prog 45 #[.agg #[n,v]] w fun e w'=>e=.returned (.bool (mU n l))/\Below w w w':=by
 have R:=hv;obtain⟨a,b,g8,c,rfl,f4,b6,hc,hb⟩:=hv.view prog 25 3 underlying25 aN;have K0:=aP.new w 27 #[n,aA a l.length c]
 cases hf:aY n l with
 |false=>
  have hx:mU n l=false:=by unfold mU;rw[hf];rfl
  have HX:=aH hx;have HF:=aH hf;clear hx hf;go_enter func45,ntmps45;go_wp2_with fail;go_loopw [3] (fun i wr=>i=aG 0/\Below w w wr/\aP wr w 27 #[n,aA a l.length c]) (fun _ _=>0)
  case atStart=>exact⟨rfl,bF _ _,K0⟩
  case round=>obtain⟨rfl,B,K⟩:=hrel;have Z:=K.cell;go_wp2_with fail;refine(dH n l _ _ (R.below B aI)).mono ?_;rintro e w1 ⟨rfl,D⟩;rw[HF.out];have S:=B.after D B.size;have K1:=K.keep D;clear Z;have Z:=K1.cell;go_wp2_with fail;refine(dH n l _ _ (R.below S aI)).mono ?_;rintro e w2 ⟨rfl,a1⟩;rw[HF.out];go_wp2;go_ret;exact⟨aW HX.out.symm,S.after a1 S.size⟩
 |true=>
  obtain⟨N,rfl,g5,b8,f3,b9⟩:=cS hf;have hx:mU N l=cA (fun s=>cA (yJ l s) N) l.length:=by unfold mU;rw[hf];simp
  obtain⟨F,hF⟩:∃F:Nat->Bool,F=fun s=>cA (yJ l s) N:=⟨_,rfl⟩;rw[<-hF]at hx;have HX:=aH hx;have HF:=aH hf;have e0:=aH hF;have f9:=aH b9;have e4:=aH b8;have HC:=aH hc;have b3:=aH b6;clear hx hf hF b9 b8 hc b6;go_enter func45,ntmps45;go_wp2_with fail;go_loopw [3] (fun i wr=>∃s:Nat,s<=l.length/\i=aG s/\cA F s=true/\Below w w wr/\aP wr w 27 #[N,aA a l.length c]) (fun i _=>l.length-(intOf i).toNat)
  case atStart=>exact⟨0,Nat.zero_le _,rfl,rfl,bF _ _,K0⟩
  case round=>
   obtain⟨s,hs,rfl,z,B,K⟩:=hrel;obtain⟨wo,rfl⟩:∃wo:World,wo=wr:=⟨_,rfl⟩;have H:=aH z;clear z K0;have Z:=K.cell;go_wp2_with fail;refine(dH N l _ _ (R.below B aI)).mono ?_;rintro e w1 ⟨rfl,D⟩;rw[HF.out];have K:=K.keep D;have S:=B.after D B.size;clear Z D B;have Z:=K.cell;by_cases I:s<l.length
   ·have b5:F s=cA (yJ l s) N:=by rw[e0.out]
    have b1:=aH b5;clear b5;go_wp2_with fail;go_loopw [4] (fun i wr=>∃k:Nat,k<=N/\i=aG k/\cA (yJ l s) k=true/\Below w w wr/\aP wr w 27 #[N,aA a l.length c]) (fun i _=>N-(intOf i).toNat)
    case atStart=>exact⟨0,Nat.zero_le _,rfl,rfl,S,K⟩
    case round=>
     obtain⟨k,hk,rfl,z,B2,K2⟩:=hrel;obtain⟨wi,rfl⟩:∃wo:World,wo=wr:=⟨_,rfl⟩;have H2:=aH z;clear z Z;have Z:=K2.cell;by_cases b7:k<N
     ·have J:bX s k<l.length:=by rw[e4.out]at I ⊢;exact eI _ _ _ I b7
      have c0:=aR HC.out hb B2 aI s I;have c1:=aR HC.out hb B2 aI _ J;have i0:=fun W=>b3.out W s I;have i1:=fun W=>b3.out W _ J;have q1:=fQ s k aD aD;have M:yJ l s k=!decide (l[bX s k]-l[s]<0):=by unfold yJ gM;rw[aS l _ J,aS l _ I]
      obtain⟨u1,O⟩:=aJ (bX s k);simp only[<-O]at c1 i1 q1 M;obtain⟨x0,c7⟩:=aJ (l[s]);rw[<-c7]at c0 M;have f6:u1<l.length:=O▸J;obtain⟨x1,c8⟩:=aJ (l[u1]);rw[<-c8]at c1 M;have pk:=cJ k 6 aD;have g9:(2:Int)^k<=64:=by simpa using pk.1
      have h0:=pk.2;have wk:IntKind.i64.wrap ((2:Int)^k)=2^k:=by rw[IntKind.wrap_i64];omega
      have g6:k<5:=aD;have b4:=aH M;clear M c7 c8 pk J;by_cases f5:x1<x0
      ·have hu:yJ l s k=false:=by rw[b4.out,decide_eq_true aD];rfl
       have Y:mU N l=false:=by rw[HX.out];exact cW I (by rw[b1.out];exact cW b7 hu)
       have a9:=aH Y;clear hu Y O;go_wp2_with fail;go_quiet (fail);go_wp2;go_ret;exact⟨aW a9.out.symm,B2.drewN' _⟩
      ·have hu:yJ l s k=true:=by rw[b4.out,decide_eq_false aD];rfl
       have HU:=aH hu;clear hu O;go_wp2_with fail;go_quiet (fail);go_wp2;go_roundw
       case rel=>exact⟨k+1,by omega,by go_num,dG H2.out HU.out,B2.drewN' _,K2.drewN _⟩
       case measure=>simp[intOf];omega
     ·have e8:k=N:=aD;subst e8;go_wp2;go_roundw
      case rel=>exact⟨s+1,by omega,by go_num,dG H.out (by rw[b1.out];exact H2.out),B2,K2⟩
      case measure=>simp[intOf];omega
   ·have c5:s=l.length:=aD;subst c5;go_wp2_with fail;refine(dH N l _ _ (R.below S aI)).mono ?_;rintro e w2 ⟨rfl,a1⟩;rw[HF.out];go_wp2;go_ret;exact⟨aW (by rw[HX.out,H.out]),S.after a1 S.size⟩
end
end Go.Proofs.YtkdbkjjacgigiaaGreatDoor
