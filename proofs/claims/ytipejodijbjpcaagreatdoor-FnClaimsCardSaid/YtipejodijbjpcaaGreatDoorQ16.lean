/- Lemmas for CardClaims, part 16 of 52. No condition. -/
import Derived.Test.YtipejodijbjpcaaGreatDoorQ03
import Derived.Test.YtipejodijbjpcaaGreatDoorQ06
import Derived.Test.YtipejodijbjpcaaGreatDoorQ08
import Derived.Test.YtipejodijbjpcaaGreatDoorQ15
import Derived.Deep.RegionHeld3
import Derived.Deep.AppendLies
set_option maxRecDepth 100000
set_option maxHeartbeats 64000000
namespace Go.Proofs.YtipejodijbjpcaaGreatDoor
section
open Go.RowKit Go.G5
def cH(x y:List Int):Nat->Int
 |0=>0
 |k+1=>cH x y k+x.getD k 0*y.getD k 0
theorem IV(p q:Int)(o:-1000<=p/\p<=1000)(z:-2000<=q/\q<=2000):-2000000<=p*q/\p*q<=2000000:=by
 have h1:(p*q).natAbs<=1000*2000:=by
  rw[Int.natAbs_mul];exact Nat.mul_le_mul (by omega) (by omega)
 omega
theorem EH(x y:List Int)(D:y.length=x.length)(z:∀k,(o:k<x.length)->-1000<=x[k]/\x[k]<=1000)(A:∀k,(o:k<y.length)->-2000<=y[k]/\y[k]<=2000):∀k,k<=x.length->-2000000*(k:Int)<=cH x y k/\cH x y k<=2000000*(k:Int):=by
 intro k
 induction k with
 |zero=>intro _;simp[cH]
 |succ k ih=>
  intro o;have h1:=ih (by omega);have h2:=IV _ _ (z k (by omega)) (A k (by omega));rw[cH,aJ x k (by omega),aJ y k (by omega)]
  push_cast
  omega
theorem KM(x y:List Int)(v u:Value)(w:World)(hv:aD w v x)(hu:aD w u y)(h5:x.length<=5)(O:y.length=x.length)(R:∀k,(N:k<x.length)->-1000<=x[k]/\x[k]<=1000)(U:∀k,(N:k<y.length)->-2000<=y[k]/\y[k]<=2000):
  Calls Tryz.prog 252 #[v,u] w fun e w'=>e=.returned (.int .i64 (cH x y x.length))/\Below w.heap.size w w':=by
 obtain⟨a,b,c5,c,rfl,a6,A,hc,hb⟩:=hv.view Tryz.prog 22 3 Tryz.underlying22 aG;obtain⟨a',b',b0,c',rfl,Q,o,z,L⟩:=hu.view Tryz.prog 22 3 Tryz.underlying22 aG;have HB:=Lib.hid (EH x y O R U);have Y:=Lib.hid (And.intro R U);have HL:=Lib.hid O;have b6:x.length<=y.length:=by omega
 clear R U O;go_enter Tryz.func252,Tryz.ntmps252;go_wp2_with fail;go_loopw [5,9] (fun sm i wr=>∃k:Nat,k<=x.length/\i=.int .i64 k/\sm=.int .i64 (cH x y k)/\Below w.heap.size w wr) (fun _ i _=>x.length-(intOf i).toNat)
 case atStart=>exact⟨0,Nat.zero_le _,rfl,rfl,Below.refl _ _⟩
 case round=>
  obtain⟨k,N,rfl,rfl,B⟩:=hrel;have M:=HB.out k N
  by_cases hlt:k<x.length
  ·have F:(k:Int)<(x.length:Int):=by omega
   have ck:=aK hc hb B (Nat.le_refl _) k hlt;have K:=aK z L B (Nat.le_refl _) k (by omega);have ik:=fun W=>A W k hlt;have b9:=fun W=>o W k (by omega);have hm:=IV _ _ (Y.out.1 k hlt) (Y.out.2 k (by omega));have I:cH x y (k+1)=cH x y k+x[k]*y[k]'(by omega):=by rw[cH,aJ x k hlt,aJ y k (by omega)]
   obtain⟨p,hp⟩:∃p,p=x[k]:=⟨_,rfl⟩;obtain⟨q,hq⟩:∃q,q=y[k]'(by omega):=⟨_,rfl⟩;obtain⟨S,Z⟩:∃S,S=cH x y k:=⟨_,rfl⟩;rw[<-hp]at ck hm I;rw[<-hq]at K hm I;rw[<-Z]at M I ⊢;have HS:=Lib.hid I;clear hp hq Z I hc z A o;go_wp2_with fail;go_quiet (fail);go_wp2;go_roundw
   case rel=>exact⟨k+1,by omega,by go_num,by rw[HS.out],B.drewN' _⟩
   case measure=>simp[intOf];omega
  ·have F:¬(k:Int)<(x.length:Int):=by omega
   have D:k=x.length:=by omega
   have HK:=Lib.hid D;clear D;go_wp2;go_ret;exact⟨eJ (by rw[<-HK.out]),B⟩
theorem CQ(p q:Int)(o:-1000<=p/\p<=1000)(z:-5000<=q/\q<=5000):-5000000<=p*q/\p*q<=5000000:=by
 have h1:(p*q).natAbs<=1000*5000:=by
  rw[Int.natAbs_mul];exact Nat.mul_le_mul (by omega) (by omega)
 omega
theorem zQ(x y:List Int)(D:y.length=x.length)(z:∀k,(o:k<x.length)->-1000<=x[k]/\x[k]<=1000)(A:∀k,(o:k<y.length)->-5000<=y[k]/\y[k]<=5000):∀k,k<=x.length->-5000000*(k:Int)<=cH x y k/\cH x y k<=5000000*(k:Int):=by
 intro k
 induction k with
 |zero=>intro _;simp[cH]
 |succ k ih=>
  intro o;have h1:=ih (by omega);have h2:=CQ _ _ (z k (by omega)) (A k (by omega));rw[cH,aJ x k (by omega),aJ y k (by omega)]
  push_cast
  omega
theorem I5(x y:List Int)(v u:Value)(w:World)(hv:aD w v x)(hu:aD w u y)(h5:x.length<=5)(O:y.length=x.length)(R:∀k,(N:k<x.length)->-1000<=x[k]/\x[k]<=1000)(U:∀k,(N:k<y.length)->-5000<=y[k]/\y[k]<=5000):
  Calls Tryz.prog 252 #[v,u] w fun e w'=>e=.returned (.int .i64 (cH x y x.length))/\Below w.heap.size w w':=by
 obtain⟨a,b,c5,c,rfl,a6,A,hc,hb⟩:=hv.view Tryz.prog 22 3 Tryz.underlying22 aG;obtain⟨a',b',b0,c',rfl,Q,o,z,L⟩:=hu.view Tryz.prog 22 3 Tryz.underlying22 aG;have HB:=Lib.hid (zQ x y O R U);have Y:=Lib.hid (And.intro R U);have HL:=Lib.hid O;have b6:x.length<=y.length:=by omega
 clear R U O;go_enter Tryz.func252,Tryz.ntmps252;go_wp2_with fail;go_loopw [5,9] (fun sm i wr=>∃k:Nat,k<=x.length/\i=.int .i64 k/\sm=.int .i64 (cH x y k)/\Below w.heap.size w wr) (fun _ i _=>x.length-(intOf i).toNat)
 case atStart=>exact⟨0,Nat.zero_le _,rfl,rfl,Below.refl _ _⟩
 case round=>
  obtain⟨k,N,rfl,rfl,B⟩:=hrel;have M:=HB.out k N
  by_cases hlt:k<x.length
  ·have F:(k:Int)<(x.length:Int):=by omega
   have ck:=aK hc hb B (Nat.le_refl _) k hlt;have K:=aK z L B (Nat.le_refl _) k (by omega);have ik:=fun W=>A W k hlt;have b9:=fun W=>o W k (by omega);have hm:=CQ _ _ (Y.out.1 k hlt) (Y.out.2 k (by omega));have I:cH x y (k+1)=cH x y k+x[k]*y[k]'(by omega):=by rw[cH,aJ x k hlt,aJ y k (by omega)]
   obtain⟨p,hp⟩:∃p,p=x[k]:=⟨_,rfl⟩;obtain⟨q,hq⟩:∃q,q=y[k]'(by omega):=⟨_,rfl⟩;obtain⟨S,Z⟩:∃S,S=cH x y k:=⟨_,rfl⟩;rw[<-hp]at ck hm I;rw[<-hq]at K hm I;rw[<-Z]at M I ⊢;have HS:=Lib.hid I;clear hp hq Z I hc z A o;go_wp2_with fail;go_quiet (fail);go_wp2;go_roundw
   case rel=>exact⟨k+1,by omega,by go_num,by rw[HS.out],B.drewN' _⟩
   case measure=>simp[intOf];omega
  ·have F:¬(k:Int)<(x.length:Int):=by omega
   have D:k=x.length:=by omega
   have HK:=Lib.hid D;clear D;go_wp2;go_ret;exact⟨eJ (by rw[<-HK.out]),B⟩
end
section
open Go.RowKit Go.G5
def tX(x:List Int):List Int:=if iJ x then cC x x.length else []
theorem uS(x:List Int)(v:Value)(w:World)(hv:aD w v x):
  Calls Tryz.prog 332 #[v] w fun e w'=>∃O i Q,e=.returned (.tuple #[.slice O i Q,.bool (iJ x)])/\aC 3 w.heap.size w' (.slice O i Q) (tX x)/\Below w.heap.size w w':=by
 obtain⟨W0,I⟩:∃W,W=w.alloc (.cells #[] 3):=⟨_,rfl⟩;have B0:Below w.heap.size w W0:=by rw[I];exact aM _ _
 have o0:aC 3 w.heap.size W0 (.slice (some ⟨w.heap.size,0,none⟩) 0 0) []:=by rw[I];exact aC.lit0 w (Nat.le_refl _)
 have S:=Lib.hid (vE x v W0 (hv.below B0 (Nat.le_refl _)));obtain⟨a0,b0,k0,c0,rfl,h9,a6,c9,c8⟩:=hv.view Tryz.prog 22 3 Tryz.underlying22 aG
 cases A:iJ x with
 |false=>
  have hx:tX x=[]:=by unfold tX;rw[A];rfl
  have HX:=Lib.hid hx;rw[A]at S;clear hx A;go_enter Tryz.func332,Tryz.ntmps332;go_wp2_with fail;rw[<-I];clear I;refine S.out.mono ?_;rintro e w1 ⟨rfl,rfl⟩;go_wp2;go_ret2;exact⟨_,_,_,rfl,by rw[HX.out];exact o0,B0⟩
 |true=>
  have hx:tX x=cC x x.length:=by unfold tX;rw[A];rfl
  have h5:x.length<=5:=by unfold iJ at A;exact of_decide_eq_true (Bool.and_eq_true_iff.1 A).1
  have HX:=Lib.hid hx;rw[A]at S;clear hx A;go_enter Tryz.func332,Tryz.ntmps332;go_wp2_with fail;rw[<-I];clear I;refine S.out.mono ?_;rintro e w1 ⟨rfl,rfl⟩;go_wp2_with fail;go_loopw [4,5] (fun out i wr=>∃(k:Nat) (O:Option Addr) (nn Q:Nat),out=.slice O nn Q/\i=.int .i64 k/\k<=x.length/\aC 3 w.heap.size wr (.slice O nn Q) (cC x k)/\Below w.heap.size w wr) (fun _ i _=>x.length-(intOf i).toNat)
  case atStart=>exact⟨0,_,_,_,rfl,rfl,by omega,o0,B0⟩
  case round=>
   obtain⟨i,O,nn,Q,rfl,rfl,hi,ho,B⟩:=hrel;clear o0 B0
   by_cases hlt:i<x.length
   ·have f0:(i:Int)<(x.length:Int):=by omega
    obtain⟨l,hl⟩:∃l,l=cC x i:=⟨_,rfl⟩;have e8:l.length=i:=by rw[hl,fD]
    rw[<-hl]at ho;have f2:cC x (i+1)=iD l i (fF x l (x.getD i 0) i):=by rw[hl];rfl
    have c7:∀k,k<i->∃e:Nat,e<i/\l[k]?=some (e:Int):=by rw[hl];exact fun k hk=>M9 x i k hk
    obtain⟨a,c,i7⟩:=ho.shape
    injection i7 with h1 h2 h3
    subst h1 h2 h3;have HO:=Lib.hid ho;have g4:=Lib.hid c7;have U:=Lib.hid f2;have b4:=Lib.hid e8;clear hl f2 c7 e8 ho;obtain⟨wo,rfl⟩:∃wo:World,wo=wr:=⟨_,rfl⟩;go_wp2_with fail;go_loopw [6] (fun j o=>∃k:Nat,j=.int .i64 k/\k<=i/\fF x l (x.getD i 0) k=fF x l (x.getD i 0) i/\aC 3 w.heap.size o (.slice O l.length Q) l/\Below w.heap.size w o) (fun j _=>(intOf j).toNat)
    case atStart=>exact⟨l.length,rfl,by rw[b4.out];exact Nat.le_refl _,by rw[b4.out],HO.out,B⟩
    case round=>
     obtain⟨k,rfl,k9,f3,oi,D⟩:=hrel;clear B HO;have HS:=Lib.hid f3;have e9:=b4.out;have b7:k<=l.length:=by omega
     have l0:l.length<=5:=by omega
     have e5:bA (i:Int):=⟨by omega,by omega⟩;obtain⟨u1,R⟩:=oi.ints.upto 22 3 Tryz.underlying22 aG k b7;obtain⟨a',c',d1,d2⟩:=oi.ints.from 22 3 Tryz.underlying22 aG k b7
     have zk:(l.take k).length=k:=by rw[List.length_take,Nat.min_eq_left b7]
     have zd:(l.drop k).length=l.length-k:=List.length_drop;rw[zd]at d1 d2;clear zk zd f3 e9
     by_cases hz:(0:Int)<k
     ·have i8:0<k:=by omega
      obtain⟨Y,k6,b5⟩:=g4.out (k-1) (by omega);obtain⟨a8,e6⟩:=List.getElem?_eq_some_iff.1 b5;obtain⟨a1,Z,k1,c1,i6,i1,a7,d0,k5⟩:=oi.ints.view Tryz.prog 22 3 Tryz.underlying22 aG
      injection i6 with h1 h2 h3
      subst h1 h3;have ck:=d0 (k-1) a8;rw[e6]at ck;have ik:=fun W=>a7 W (k-1) a8;have L:Y<x.length:=by omega
      have xe:=aK c9 c8 D (Nat.le_refl _) Y L;have xi:=aK c9 c8 D (Nat.le_refl _) i hlt;have l5:=fun W=>a6 W Y L;have l6:=fun W=>a6 W i hlt;have ge:x.getD Y 0=x[Y]:=aJ x Y L;have gi:x.getD i 0=x[i]:=aJ x i hlt;have b6:l.getD (k-1) 0=(Y:Int):=by rw[List.getD_eq_getElem?_getD,b5];rfl
      have F:fF x l (x.getD i 0) k=if x.getD Y 0<x.getD i 0 then fF x l (x.getD i 0) (k-1) else k:=by
       obtain⟨z,rfl⟩:∃z,k=z+1:=⟨k-1,by omega⟩;rw[fF];simp only[Nat.add_sub_cancel]at b6 ⊢;rw[b6]
       rfl
      obtain⟨p,hp⟩:∃p,p=x[Y]:=⟨_,rfl⟩;obtain⟨q,hq⟩:∃q,q=x[i]:=⟨_,rfl⟩;rw[<-hp]at xe ge;rw[<-hq]at xi gi;rw[ge,gi]at F;rw[gi]at HS;have K:=U.out;rw[gi]at K;have U:=Lib.hid K;have c6:=Lib.hid F;have g5:=Lib.hid gi;have k8:IntKind.i64.wrap ((k:Int)-1)=((k-1:Nat):Int):=by rw[IntWalk.i64_in _ ⟨by omega,by omega⟩];omega
      clear F ge gi b6 hp hq K a7 d0 b5 e6
      by_cases a9:p<q
      ·have g6:=Lib.hid a9
       go_wp2;go_quiet (fail);go_wp2;go_roundw
       case rel=>exact⟨k-1,by go_num,by omega,by rw[g5.out,<-HS.out,c6.out,if_pos g6.out],oi.drewN _,D.drewN' _⟩
       case measure=>simp[intOf];omega
      ·have M:fF x l q k=k:=by rw[c6.out,if_neg a9]
       have KE:=Lib.hid M;clear M;go_wp2;go_quiet (fail);go_wp2;have R:=R.drewN nq;have d2:=d2.drewN nq;have D:=D.drewN' nq;obtain⟨o,N⟩:∃W,W=wr.drewN nq:=⟨_,rfl⟩;rw[<-N]at R d2 D ⊢;clear N oi;go_region_held3 (fun _=>True) (trivial)
        (first
         |(refine cV rfl _ _ _ rfl 3 Tryz.underlying22 aG o.heap.size (.slice (some ⟨_,0,none⟩) 0 0) [] rfl (.slice O k Q) (l.take k) rfl ?_ ?_ ?_ o ?_ (Nat.le_refl _) ?_;(first|(with_reducible exact(aC.lit0 o (Nat.le_refl _)).drew')|(with_reducible exact((aC.lit0 o (Nat.le_refl _)).alloc _).drew')|(with_reducible exact(aC.lit0' o _).drew'));(first|(with_reducible exact(R.alloc _).drew')|(with_reducible exact((R.alloc _).alloc _).drew'));(simp;omega);(first|(with_reducible exact(aM o _).drew)|(with_reducible exact(cD o _ _).drew));(intro v1 w1 o1 Z pc))
         |(refine cV rfl _ _ _ rfl 3 Tryz.underlying22 aG o.heap.size v1 ([]++l.take k) rfl (.slice (some ⟨_,0,none⟩) 1 1) [(i:Int)] rfl ?_ ?_ ?_ o ?_ (Nat.le_refl _) ?_;(first|(with_reducible exact o1)|(with_reducible exact o1.alloc _));(refine aD.one ?_ e5;first|(with_reducible exact aT _ _ _ _ _ rfl)|(with_reducible exact pc _ _ (iM _ _ _ _) (mB _ _ _))|(with_reducible exact pc _ _ (jT _ _ _ _) (lX _ _ _)));(simp;omega);(first|(with_reducible exact Z)|(with_reducible exact Z.alloc Z.size _));(intro v2 w2 o2 b2 _))
         |(refine cV rfl _ _ _ rfl 3 Tryz.underlying22 aG o.heap.size v2 (([]++l.take k)++[(i:Int)]) rfl (.slice a' (l.length-k) c') (l.drop k) rfl o2 (d2.below b2 (Nat.le_refl _)) ?_ o b2 (Nat.le_refl _) ?_;(simp;omega);(intro v3 w3 o3 b3 _;obtain⟨av,nv,cv,rfl⟩:=o3.shape3))
        )
       all_goals
        go_wp2;have B3:=D.after b3 D.size;go_roundw
        case rel=>exact⟨i+1,av,nv,cv,rfl,by go_num,by omega,by rw[U.out,<-HS.out,KE.out];exact o3.mono D.size,B3⟩
        case measure=>simp[intOf];omega
     ·have i8:¬0<k:=by omega
      have f5:k=0:=by omega
      have M:fF x l (x.getD i 0) k=k:=by rw[f5];rfl
      have KE:=Lib.hid M;clear M f5;go_wp2;go_quiet (fail);go_wp2;have R:=R.drewN nq;have d2:=d2.drewN nq;have D:=D.drewN' nq;obtain⟨o,N⟩:∃W,W=wr.drewN nq:=⟨_,rfl⟩;rw[<-N]at R d2 D ⊢;clear N oi;go_region_held3 (fun _=>True) (trivial)
       (first
        |(refine cV rfl _ _ _ rfl 3 Tryz.underlying22 aG o.heap.size (.slice (some ⟨_,0,none⟩) 0 0) [] rfl (.slice O k Q) (l.take k) rfl ?_ ?_ ?_ o ?_ (Nat.le_refl _) ?_;(first|(with_reducible exact(aC.lit0 o (Nat.le_refl _)).drew')|(with_reducible exact((aC.lit0 o (Nat.le_refl _)).alloc _).drew')|(with_reducible exact(aC.lit0' o _).drew'));(first|(with_reducible exact(R.alloc _).drew')|(with_reducible exact((R.alloc _).alloc _).drew'));(simp;omega);(first|(with_reducible exact(aM o _).drew)|(with_reducible exact(cD o _ _).drew));(intro v1 w1 o1 Z pc))
        |(refine cV rfl _ _ _ rfl 3 Tryz.underlying22 aG o.heap.size v1 ([]++l.take k) rfl (.slice (some ⟨_,0,none⟩) 1 1) [(i:Int)] rfl ?_ ?_ ?_ o ?_ (Nat.le_refl _) ?_;(first|(with_reducible exact o1)|(with_reducible exact o1.alloc _));(refine aD.one ?_ e5;first|(with_reducible exact aT _ _ _ _ _ rfl)|(with_reducible exact pc _ _ (iM _ _ _ _) (mB _ _ _))|(with_reducible exact pc _ _ (jT _ _ _ _) (lX _ _ _)));(simp;omega);(first|(with_reducible exact Z)|(with_reducible exact Z.alloc Z.size _));(intro v2 w2 o2 b2 _))
        |(refine cV rfl _ _ _ rfl 3 Tryz.underlying22 aG o.heap.size v2 (([]++l.take k)++[(i:Int)]) rfl (.slice a' (l.length-k) c') (l.drop k) rfl o2 (d2.below b2 (Nat.le_refl _)) ?_ o b2 (Nat.le_refl _) ?_;(simp;omega);(intro v3 w3 o3 b3 _;obtain⟨av,nv,cv,rfl⟩:=o3.shape3))
       )
      all_goals
       go_wp2;have B3:=D.after b3 D.size;go_roundw
       case rel=>exact⟨i+1,av,nv,cv,rfl,by go_num,by omega,by rw[U.out,<-HS.out,KE.out];exact o3.mono D.size,B3⟩
       case measure=>simp[intOf];omega
   ·have f0:¬(i:Int)<(x.length:Int):=by omega
    have e4:i=x.length:=by omega
    rw[e4,<-HX.out]at ho;have HO:=Lib.hid ho;clear ho e4;go_wp2;go_ret2;exact⟨O,nn,Q,rfl,HO.out,B⟩
end
section
open Go.RowKit Go.G5
theorem vZ(l o:List Int)(v u:Value)(w:World)(hv:aD w v l)(hu:aD w u o)(hn:o.length<=5)(hl:l.length=2^o.length)(a8:∀k,(hk:k<l.length)->-1000<=l[k]/\l[k]<=1000)(ho:∀x∈o,0<=x/\x<o.length):
  Calls Tryz.prog 278 #[.agg #[.int .i64 (o.length:Int),v],u] w fun e w'=>∃ad i c,e=.returned (.slice ad i c)/\aC 3 w.heap.size w' (.slice ad i c) (dS l o)/\Below w.heap.size w w':=by
 obtain⟨a,b,h8,c,rfl,f6,a7,hc,hb⟩:=hu.view Tryz.prog 22 3 Tryz.underlying22 aG;obtain⟨a2,b2,g0,c2,rfl,c7,L,S,Z⟩:=hv.view Tryz.prog 22 3 Tryz.underlying22 aG;have f5:l.length<=32:=by rw[hl];exact Nat.pow_le_pow_right (by decide) hn
 have X0:=Box2.new w (o.length:Int) (.slice a2 l.length c2) 32;have HL:=Lib.hid hl;have b5:=Lib.hid a8;have HO:=Lib.hid ho;clear hl a8 ho;go_enter Tryz.func278,Tryz.ntmps278;go_wp2_with (at_make;refine nZ rfl _ _ _ rfl 3 Tryz.underlying22 aG o.length _ _ rfl rfl rfl rfl (by omega) ?_;intro w2 M hg);have X2:=X0.grow hg (by simp);simp at M;clear X0 hg;go_loopw [6,7] (fun s i wr=>∃k:Nat,k<=o.length/\i=.int .i64 k/\s=.int .i64 (bU o k)/\aC 3 (w.heap.size+1) wr (.slice (some ⟨w.heap.size+1,0,none⟩) o.length o.length) (bQ l o k)/\Box2 w wr (o.length:Int) (.slice a2 l.length c2))
  (fun _ i _=>o.length-(intOf i).toNat)
 case atStart=>exact⟨0,Nat.zero_le _,rfl,rfl,M,X2⟩
 case round=>
  obtain⟨k,hk,rfl,rfl,ow,X⟩:=hrel;clear M X2;have HW:=Lib.hid ow;clear ow;obtain⟨d0,d1,Y,z1⟩:=X
  by_cases hlt:k<o.length
  ·have b7:=aK hc hb Y (Nat.le_refl _) k hlt
   have g6:=fun W=>a7 W k hlt;have hm:=HO.out _ (List.getElem_mem hlt);obtain⟨e,he⟩:∃e:Nat,o[k]=(e:Int):=⟨o[k].toNat,by omega⟩;rw[he]at b7;have b9:e<o.length:=by omega
   have U:(o.getD k 0).toNat=e:=by rw[List.getD_eq_getElem?_getD,List.getElem?_eq_getElem hlt,Option.getD_some,he];omega
   have A:=uN o o.length k HO.out hk;rw[<-HL.out]at A;have I:aP (bU o k) e<l.length:=by rw[HL.out]at A ⊢;exact eE _ _ _ A b9
   have Q:bU o (k+1)=aP (bU o k) e:=by rw[bU,U]
   have F:bQ l o (k+1)=(bQ l o k).set e (dN l (bU o k) e):=by rw[bQ,U]
   have a6:=zA l (bU o k) e A I b5.out;obtain⟨p,hp⟩:∃p,p=bU o k:=⟨_,rfl⟩;rw[<-hp]at A I Q F a6 ⊢;have c8:=eK p e (by omega) (by omega);have N:=bJ e 6 (by omega);have g9:(2:Int)^e<=64:=by simpa using N.1
   have h0:=N.2;have R:=aK S Z Y (Nat.le_refl _) _ I;have a1:=aK S Z Y (Nat.le_refl _) p A;have c9:=fun W=>L W _ I;have h7:=fun W=>L W p A;have O:dN l p e=l[aP p e]-l[p]:=by
    unfold dN;rw[List.getD_eq_getElem?_getD,List.getD_eq_getElem?_getD,List.getElem?_eq_getElem I,List.getElem?_eq_getElem A];rfl
   obtain⟨q,hq⟩:∃q,q=aP p e:=⟨_,rfl⟩;obtain⟨y1,a9⟩:∃y,y=l[aP p e]:=⟨_,rfl⟩;obtain⟨y2,b0⟩:∃y,y=l[p]:=⟨_,rfl⟩;rw[<-a9]at R O;rw[<-b0]at a1 O;rw[<-hq]at c8 R c9 Q;rw[O]at a6 F;have hw:IntKind.i64.wrap (y1-y2)=y1-y2:=by rw[IntKind.wrap_i64];omega
   have b6:=Lib.hid Q;have b4:=Lib.hid F;have D:o.length=(bQ l o k).length:=(fY l o k).symm;have K:∃q,wr.cell? ⟨w.heap.size+1,e,none⟩=some q:=⟨_,HW.out.cellAt D e (by omega)⟩;obtain⟨qq,K⟩:=K;have g5:=HW.out.frozenAt D e;have g4:(0:Int)<=(e:Int):=Int.natCast_nonneg _;have f2:(e:Int)<(o.length:Int):=by omega
   clear hp he U Q F hm D N hq a9 b0 O I a7 L hc S;go_wp2;go_region
   all_goals go_wp2
   have b1:=fun z=>((HW.out.drewN z).stored (fY l o k).symm e (y1-y2) ⟨by omega,by omega⟩);have X3:=fun z=>((Box2.mk d0 d1 Y z1).drewN z).grow (b1 z).2 (by simp);go_roundw
   case rel=>exact⟨k+1,by omega,by go_num,by rw[b6.out],by rw[b4.out];exact(b1 _).1,X3 _⟩
   case measure=>simp[intOf];omega
  ·have c5:k=o.length:=by omega
   subst c5;go_wp2;go_ret;exact⟨_,_,_,rfl,HW.out.mono (by omega),Y⟩
def kA(l x:List Int):List Int:=dS l (cC x x.length)
def kO(n:Int)(l x:List Int):Int:=if eT n l x then cH x (kA l x) x.length else 0
def jE(n:Int)(l x:List Int):List Int:=if eT n l x then kA l x else []
theorem oN{n:Int}{l x:List Int}(h:eT n l x=true):x.length<=5/\n=(x.length:Int)/\l.length=2^x.length/\l.length<=32/\(∀k,(I:k<l.length)->-1000<=l[k]/\l[k]<=1000)/\(∀y∈x,-1000<=y/\y<=1000):=by
 unfold eT iJ at h;simp only[Bool.and_eq_true,decide_eq_true_eq]at h;obtain⟨⟨h1,_⟩,⟨h2,h3⟩,h4⟩:=h;obtain⟨N,rfl,D,z,o,A⟩:=bN (jD h1);have:x.length=N:=by omega
 unfold dB at h3;rw[List.all_eq_true]at h3;exact⟨h2,h4.symm,by rw[this];exact z,o,A,fun y F=>bL.1 (h3 y F)⟩
theorem xN(l o:List Int)(M:l.length=2^o.length)(A:∀k,(I:k<l.length)->-1000<=l[k]/\l[k]<=1000)(D:∀x∈o,0<=x/\x<o.length):∀k,k<=o.length->∀y∈bQ l o k,-2000<=y/\y<=2000:=by
 intro k
 induction k with
 |zero=>
  intro _ y z;rw[bQ]at z;have:=List.eq_of_mem_replicate z;omega
 |succ k ih=>
  intro I y z;rw[bQ]at z
  rcases List.mem_or_eq_of_mem_set z with z|z
  ·exact ih (by omega) y z
  ·have N:=D _ (List.getElem_mem (show k<o.length by omega))
   have F:o.getD k 0=o[k]:=by rw[List.getD_eq_getElem?_getD,List.getElem?_eq_getElem (by omega)];rfl
   have K:=uN o o.length k D (by omega);rw[F]at z;have L:=eE (bU o k) o[k].toNat o.length K (by omega);rw[z];exact zA l _ _ (by omega) (by omega) A
theorem ID{n:Int}{l x:List Int}(h:eT n l x=true):(kA l x).length=x.length/\∀k,(A:k<(kA l x).length)->-2000<=(kA l x)[k]/\(kA l x)[k]<=2000:=by
 obtain⟨F,_,D,_,o,_⟩:=oN h;have z:=fD x x.length;refine⟨?_,fun k A=>xN l _ (by rw[z];exact D) o (by rw[z];exact kL x x.length) _ (Nat.le_refl _) _ (List.getElem_mem A)⟩;unfold kA dS;rw[fY,z]
theorem FA(w:World)(n:Int)(v:Value)(l:List Int)(hv:aD w v l)(hl:l.length<=1048576)(u:Value)(x:List Int)(Z:aD w u x):
  Calls Tryz.prog 164 #[.agg #[.int .i64 n,v],u] w fun e w'=>∃A i cp,e=.returned (.tuple #[.int .i64 (kO n l x),.slice A i cp,.bool (eT n l x)])/\aC 3 w.heap.size w' (.slice A i cp) (jE n l x)/\Below w.heap.size w w':=by
 obtain⟨a,c,rfl⟩:=hv.shape;obtain⟨b,d,rfl⟩:=Z.shape;obtain⟨V,U⟩:∃V,V=w.alloc (.cells #[.int .i64 n,.slice a l.length c] 32):=⟨_,rfl⟩;have B:Below w.heap.size w V:=by rw[U];exact aM _ _
 have K:aB V w.heap.size 32 #[.int .i64 n,.slice a l.length c]:=by rw[U];exact aB.new _ _ _
 go_enter Tryz.func164,Tryz.ntmps164;go_wp2_with fail;rw[<-U];clear U;refine(pB V n _ l (hv.below B (Nat.le_refl _)) hl _ x (Z.below B (Nat.le_refl _))).mono ?_;rintro e S ⟨rfl,b1⟩;have K:=K.keep b1;have B:=B.after b1 B.size
 cases o:eT n l x with
 |false=>
  have F:kO n l x=0:=by unfold kO;rw[o];rfl
  have D:jE n l x=[]:=by unfold jE;rw[o];rfl
  have H:=Lib.hid (And.intro F (And.intro D o));clear F D o;go_wp2;exact bodyPost_ret (v:=.tuple #[.int .i64 0,.slice none 0 0,.bool false]) (by simp[results,Tryz.results164,go_sem]) rfl ⟨none,0,0,by rw[H.out.1,H.out.2.2],by rw[H.out.2.1];exact aC.nil _ _ _,B⟩
 |true=>
  have F:kO n l x=cH x (kA l x) x.length:=by unfold kO;rw[o];rfl
  have D:jE n l x=kA l x:=by unfold jE;rw[o];rfl
  obtain⟨h5,rfl,L,M,N,z⟩:=oN o;obtain⟨Q,O⟩:=ID o;have H:=Lib.hid (And.intro F (And.intro D o));have R:∀k,(hk:k<x.length)->-1000<=x[k]/\x[k]<=1000:=fun k hk=>z _ (List.getElem_mem hk);have Y:=fD x x.length;have I:∀W p i q,aD W (.slice a l.length c) l->aD W (.slice p i q) (cC x x.length)->Calls Tryz.prog 121 #[.agg #[.int .i64 (x.length:Int),.slice a l.length c],.slice p i q] W fun e w'=>∃A i c,e=.returned (.slice A i c)/\aC 3 W.heap.size w' (.slice A i c) (kA l x)/\Below W.heap.size W w':=
   fun W p i q h1 h2=>NI _ l _ _ _ W h1 h2 (by rw[Y];exact h5) (by rw[Y];exact L) N (by rw[Y];exact kL x x.length)
  have b4:aD S.drew (.slice a l.length c) l:=(hv.below B (Nat.le_refl _)).drew';have b0:aD S.drew (.slice b x.length d) x:=(Z.below B (Nat.le_refl _)).drew';have HD:=Lib.hid (tH x _ S.drew h5 b0 z);have HC:=Lib.hid I;have a7:=Lib.hid (fun(W:World) (u:Value) (h1:aD W (.slice b x.length d) x) (h2:aD W u (kA l x))=>KM x (kA l x) _ u W h1 h2 h5 Q R O);have Kd:aB S.drew w.heap.size 32 #[.int .i64 (x.length:Int),.slice a l.length c]:=K;have Bd:Below w.heap.size w S.drew:=B.drew;clear F D o L M N z Q O R Y I;have G:=K.cell;go_wp2_with fail;go_region_law
   (first
    |(go_simp;go_at_call 276;with_reducible refine HD.out.mono ?_;rintro e w5 ⟨p5,i5,q5,rfl,o5,b5⟩;have K5:=Kd.keep b5;have G5:=K5.cell)
    |(go_simp;go_at_call 121;with_reducible refine(HC.out w5 p5 i5 q5 (b4.keep b5) o5.ints).mono ?_;rintro e w6 ⟨p6,i6,q6,rfl,o6,b6⟩))
  all_goals
   have B5:=Bd.after b5 Bd.size;have B6:=B5.after b6 B5.size;go_wp2_with (go_at_call 252;refine(a7.out w6 _ (Z.below B6 (Nat.le_refl _)) o6.ints).mono ?_;rintro e w7 ⟨rfl,b7⟩);exact bodyPost_ret (v:=.tuple #[.int .i64 (cH x (kA l x) x.length),.slice p6 i6 q6,.bool true]) (by simp[results,Tryz.results164,go_sem]) rfl ⟨p6,i6,q6,by rw[H.out.1,H.out.2.2],by rw[H.out.2.1];exact(o6.keep b7).mono B5.size,B6.after b7 B6.size⟩
def tY(n:Int)(l x:List Int):List Int:=if eT n l x then cC x x.length else []
theorem C1(w:World)(n:Int)(v:Value)(l:List Int)(N:aD w v l)(R:l.length<=1048576)(u:Value)(x:List Int)(I:aD w u x):
  Calls Tryz.prog 277 #[.agg #[.int .i64 n,v],u] w fun e w'=>∃L i M,e=.returned (.tuple #[.slice L i M,.bool (eT n l x)])/\aC 3 w.heap.size w' (.slice L i M) (tY n l x)/\Below w.heap.size w w':=by
 obtain⟨a,c,rfl⟩:=N.shape;obtain⟨b,d,rfl⟩:=I.shape;obtain⟨V,F⟩:∃V,V=w.alloc (.cells #[.int .i64 n,.slice a l.length c] 32):=⟨_,rfl⟩;have B:Below w.heap.size w V:=by rw[F];exact aM _ _
 go_enter Tryz.func277,Tryz.ntmps277;go_wp2_with fail;rw[<-F];clear F;refine(rZ V n _ l (N.below B (Nat.le_refl _)) R _ x (I.below B (Nat.le_refl _))).mono ?_;rintro e O ⟨rfl,Q⟩;have B:=B.after Q B.size
 cases z:eT n l x with
 |false=>
  have D:tY n l x=[]:=by unfold tY;rw[z];rfl
  have H:=Lib.hid (And.intro D z);clear D z;go_wp2;go_ret2;exact⟨some ⟨O.heap.size,0,none⟩,0,0,by rw[H.out.2];rfl,by rw[H.out.1];exact aC.lit0 _ B.size,B.after (aM _ _) B.size⟩
 |true=>
  have A:iJ x=true:=by
   unfold eT at z;simp only[Bool.and_eq_true]at z;exact z.2.1
  have D:tY n l x=tX x:=by unfold tY tX;rw[z,A]
  have H:=Lib.hid (And.intro D z);have K:=Lib.hid (uS x _ O (I.below B (Nat.le_refl _)));rw[A]at K;clear D z A;go_wp2_with (go_at_call 332;refine K.out.mono ?_;rintro e w2 ⟨p,i,q,rfl,o,b2⟩);go_ret2;exact⟨p,i,q,by rw[H.out.2];rfl,by rw[H.out.1];exact o.mono B.size,B.after b2 B.size⟩
theorem E9(w:World)(n:Int)(v:Value)(l:List Int)(hv:aD w v l)(hl:l.length<=1048576)(u:Value)(x:List Int)(hu:aD w u x):
  Calls Tryz.prog 165 #[.agg #[.int .i64 n,v],u] w fun e w'=>∃ad i cp,e=.returned (.tuple #[.int .i64 (kO n l x),.slice ad i cp,.bool (eT n l x)])/\aC 3 w.heap.size w' (.slice ad i cp) (jE n l x)/\Below w.heap.size w w':=by
 obtain⟨a,c,rfl⟩:=hv.shape;obtain⟨b0,b,h6,d,rfl,f5,Y,hc,hb⟩:=hu.view Tryz.prog 22 3 Tryz.underlying22 aG;obtain⟨V,hV⟩:∃V,V=w.alloc (.cells #[.int .i64 n,.slice a l.length c] 32):=⟨_,rfl⟩;have B:Below w.heap.size w V:=by rw[hV];exact aM _ _
 have K:aB V w.heap.size 32 #[.int .i64 n,.slice a l.length c]:=by rw[hV];exact aB.new _ _ _
 go_enter Tryz.func165,Tryz.ntmps165;go_wp2_with fail;rw[<-hV];clear hV;refine(C1 V n _ l (hv.below B (Nat.le_refl _)) hl _ x (hu.below B (Nat.le_refl _))).mono ?_;rintro e w1 ⟨p1,i1,q1,rfl,o1,b1⟩;have K:=K.keep b1;have B:=B.after b1 B.size
 cases o:eT n l x with
 |false=>
  have Q:kO n l x=0:=by unfold kO;rw[o];rfl
  have O:jE n l x=[]:=by unfold jE;rw[o];rfl
  have H:=Lib.hid (And.intro Q (And.intro O o));clear Q O o;go_wp2;exact bodyPost_ret (v:=.tuple #[.int .i64 0,.slice (some ⟨w1.heap.size,0,none⟩) 0 0,.bool false]) (by simp[results,Tryz.results165,go_sem]) rfl ⟨_,_,_,by rw[H.out.1,H.out.2.2],by rw[H.out.2.1];exact aC.lit0 _ B.size,B.after (aM _ _) B.size⟩
 |true=>
  have Q:kO n l x=cH x (kA l x) x.length:=by unfold kO;rw[o];rfl
  have O:jE n l x=kA l x:=by unfold jE;rw[o];rfl
  have R:tY n l x=cC x x.length:=by unfold tY;rw[o];rfl
  rw[R]at o1;obtain⟨h5,rfl,a1,a6,a7,b6⟩:=oN o;obtain⟨L,I⟩:=ID o;have H:=Lib.hid (And.intro Q (And.intro O o));have M:∀k,(hk:k<x.length)->-1000<=x[k]/\x[k]<=1000:=fun k hk=>b6 _ (List.getElem_mem hk);have ho:=fD x x.length;have D:=vZ l (cC x x.length) _ _ w1 (hv.below B (Nat.le_refl _)) o1.ints (by rw[ho];exact h5) (by rw[ho];exact a1) a7 (by rw[ho];exact kL x x.length);rw[ho]at D;have HC:=Lib.hid D;have HB:=Lib.hid (EH x (kA l x) L M I);have HX:=Lib.hid (And.intro M I);have A:=Lib.hid L;have b3:dS l (cC x x.length)=kA l x:=rfl;have N:=Lib.hid b3;clear Q O o a1 a6 a7 b6 L I M ho D R b3;have G:=K.cell;go_wp2_with fail;clear G;refine HC.out.mono ?_;rintro e w2 ⟨p2,i2,q2,rfl,o2,b2⟩;rw[N.out]at o2;clear N HC;have e6:=o2.ints;obtain⟨a',b',g1,c',e4,e0,z,U,c9⟩:=o2.ints.view Tryz.prog 22 3 Tryz.underlying22 aG
  injection e4 with h1 h2 h3
  subst h1 h3;rw[A.out]at h2;subst h2;rw[A.out]at z;have B2:=B.after b2 B.size;have b8:=o2.mono (B':=w.heap.size) B.size;have c7:=Lib.hid b8;clear o2 b8 e6;go_wp2_with fail;go_loopw [10,11] (fun sm i wr=>∃k:Nat,k<=x.length/\i=.int .i64 k/\sm=.int .i64 (cH x (kA l x) k)/\Below w2.heap.size w2 wr) (fun _ i _=>x.length-(intOf i).toNat)
  case atStart=>exact⟨0,Nat.zero_le _,rfl,rfl,Below.refl _ _⟩
  case round=>
   obtain⟨k,hk,rfl,rfl,Bk⟩:=hrel;have d0:=HB.out k hk;have a8:=A.out
   by_cases hlt:k<x.length
   ·have a9:(k:Int)<(x.length:Int):=by omega
    have F:k<(kA l x).length:=by omega
    have ck:=aK hc hb (B2.after Bk B2.size) (Nat.le_refl _) k hlt;have c8:=aK U c9 Bk (Nat.le_refl _) k F;have ik:=fun W=>Y W k hlt;have h0:=fun W=>z W k hlt;have hm:=IV _ _ (HX.out.1 k hlt) (HX.out.2 k F);have hs:cH x (kA l x) (k+1)=cH x (kA l x) k+x[k]*(kA l x)[k]'F:=by rw[cH,aJ x k hlt,aJ (kA l x) k F]
    obtain⟨p,hp⟩:∃p,p=x[k]:=⟨_,rfl⟩;obtain⟨q,hq⟩:∃q,q=(kA l x)[k]'F:=⟨_,rfl⟩;obtain⟨S,hS⟩:∃S,S=cH x (kA l x) k:=⟨_,rfl⟩;rw[<-hp]at ck hm hs;rw[<-hq]at c8 hm hs;rw[<-hS]at d0 hs ⊢;have HS:=Lib.hid hs;clear hp hq hS hs hc U Y z a8;go_wp2_with fail;go_quiet (fail);go_wp2;go_roundw
    case rel=>exact⟨k+1,by omega,by go_num,by rw[HS.out],Bk.drewN' _⟩
    case measure=>simp[intOf];omega
   ·have a9:¬(k:Int)<(x.length:Int):=by omega
    have Z:k=x.length:=by omega
    have HK:=Lib.hid Z;clear Z a8;go_wp2;exact bodyPost_ret (v:=.tuple #[.int .i64 (cH x (kA l x) k),.slice p2 x.length q2,.bool true]) (by simp[results,Tryz.results165,go_sem]) rfl ⟨p2,x.length,q2,by rw[H.out.1,H.out.2.2,<-HK.out],by rw[H.out.2.1];exact c7.out.keep Bk,B2.after Bk B2.size⟩
end
end Go.Proofs.YtipejodijbjpcaaGreatDoor
