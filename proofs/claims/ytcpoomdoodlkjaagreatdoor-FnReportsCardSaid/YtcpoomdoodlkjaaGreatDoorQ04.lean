/- Lemmas for CardReports. No condition. -/
import Derived.Test.YtcpoomdoodlkjaaGreatDoorQ02
import Derived.Deep.RegionHeld3
set_option maxRecDepth 100000
set_option maxHeartbeats 64000000
namespace Go.Proofs.YtcpoomdoodlkjaaGreatDoor
section
open Go.RowKit Go.G5 Go.Proofs.Tryz
def fA(n:Nat)(s:Int):Bool:=decide (0<=s)&&decide (s<2^n)
theorem mQ{n:Nat}{s:Int}:fA n s=true↔0<=s/\s<2^n:=by simp[fA]
theorem C0(n:Nat)(s:Int):eW s 0 (2^n-1)=fA n s:=by
 unfold eW fA;by_cases h:s<2^n
 ·rw[decide_eq_true h,decide_eq_true (show s<=2^n-1 by omega)]
 ·rw[decide_eq_false h,decide_eq_false (show ¬s<=2^n-1 by omega)]
theorem pX(n:Nat)(s:Int)(w:World)(I:n<=40):
  Calls prog 183 #[n,s] w fun e w'=>e=.returned (.bool (fA n s))/\w=w':=by
 have h2:=cK n 40 I;have h3:=h2.1;have h4:=h2.2;simp at h3;clear h2;by_cases F:0<=s
 ·have z:fA n s=decide (s<2^n):=by unfold fA;rw[decide_eq_true F];rfl
  have D:=aJ z;clear z;go_enter func183,ntmps183;go_wp2;go_ret;exact⟨by rw[D.out];rfl,rfl⟩
 ·have z:fA n s=false:=by unfold fA;rw[decide_eq_false F];rfl
  have D:=aJ z;clear z;go_enter func183,ntmps183;go_wp2;go_ret;exact⟨by rw[D.out];rfl,rfl⟩
def fX(g:Int)(l:List Int):Bool:=eW g 0 6&&l.all (fA g.toNat)
theorem gT{α:Type}(p:α->Bool)(l:List α)(k:Nat)(h:k<l.length):(l.take (k+1)).all p=((l.take k).all p&&p l[k]):=by
 rw[List.take_succ_eq_append_getElem h,List.all_append,List.all_cons,List.all_nil,Bool.and_true]
theorem kM{α:Type}(p:α->Bool)(l:List α)(k:Nat)(h:l.length<=k):(l.take k).all p=l.all p:=by rw[List.take_of_length_le h]
theorem jJ{α:Type}(p:α->Bool)(l:List α)(k:Nat)(h:k<l.length)(z:p l[k]=false):l.all p=false:=by
 rw[List.all_eq_false];exact⟨l[k],List.getElem_mem h,by simp[z]⟩
theorem sU(g:Int)(l:List Int)(v:Value)(w:World)(O:aO w v l):
  Calls prog 211 #[g,v] w fun e w'=>e=.returned (.bool (fX g l))/\w=w':=by
 obtain⟨a,b,R,c,rfl,K,N,hc,hb⟩:=O.view prog 24 3 underlying24 aP
 cases D:eW g 0 6 with
 |false=>
  have F:fX g l=false:=by unfold fX;rw[D];rfl
  have I:=aJ F;clear F;go_enter func211,ntmps211;go_wp2_with (go_at_call 158;refine(jC _ _ _ _).mono ?_;rintro e w' ⟨rfl,rfl⟩);go_ret;exact⟨by rw[I.out];rfl,rfl⟩
 |true=>
  have J:=dH.1 D;obtain⟨G,rfl⟩:=Int.eq_ofNat_of_zero_le J.1;have S:G<=6:=aI;have F:fX G l=l.all (fA G):=by unfold fX;rw[D];simp
  have I:=aJ F;clear F J;go_enter func211,ntmps211;go_wp2_with (go_at_call 158;refine(jC _ _ _ _).mono ?_;rintro e w' ⟨rfl,rfl⟩);go_loop [12] (fun i=>∃k:Nat,k<=l.length/\i=ajJ k/\(l.take k).all (fA G)=true) (fun i=>l.length-(intOf i).toNat)
  case atStart=>exact⟨0,Nat.zero_le _,rfl,by simp⟩
  case round=>
   obtain⟨k,hk,rfl,z⟩:=hrel;have H:=aJ z;clear z;by_cases hlt:k<l.length
   ·cases M:fA G l[k]with
    |true=>
     go_wp2_with (go_at_call 183;refine(pX G _ _ aI).mono ?_;rintro e w' ⟨rfl,rfl⟩);go_round
     case rel=>exact⟨k+1,by omega,by go_num,by rw[gT _ _ _ hlt,H.out,M];rfl⟩
     case measure=>simp[intOf];omega
    |false=>go_wp2_with (go_at_call 183;refine(pX G _ _ aI).mono ?_;rintro e w' ⟨rfl,rfl⟩);go_ret;exact⟨aW (by rw[I.out,jJ _ _ _ hlt M]),rfl⟩
   ·go_wp2;go_ret;exact⟨aW (by rw[I.out,<-kM (fA G) l k aI,H.out]),rfl⟩
def AQ(l:List Int):Bool:=decide (l.Pairwise (· < ·))
theorem IK(l:List Int)(h:∀i,(h:i+1<l.length)->l[i]<l[i+1]):AQ l=true:=by
 unfold AQ;rw[decide_eq_true_eq,List.pairwise_iff_getElem];intro i j F z D;obtain⟨d,rfl⟩:∃d,j=i+1+d:=⟨j-i-1,by omega⟩
 induction d with
 |zero=>exact h i z
 |succ d ih=>exact Int.lt_trans (ih aI aI) (h (i+1+d) z)
theorem J6(l:List Int)(i:Nat)(h:i+1<l.length)(z:l[i+1]<=l[i]):AQ l=false:=by
 unfold AQ;rw[decide_eq_false_iff_not,List.pairwise_iff_getElem];intro D;have:=D i (i+1) aI h aI;omega
def bF(g:Int)(l:List Int):Bool:=fX g l&&AQ l
theorem dC(g:Int)(l:List Int)(v:Value)(w:World)(O:aO w v l):
  Calls prog 101 #[.agg #[g,v]] w fun e w'=>e=.returned (.bool (bF g l))/\Below w w w':=by
 obtain⟨a,b,a6,c,rfl,S,Z,hc,hb⟩:=O.view prog 24 3 underlying24 aP;have D:=aT hc hb (aY w (.cells #[g,ajH a l.length c] 31)) aK
 cases F:fX g l with
 |false=>
  have I:bF g l=false:=by unfold bF;rw[F];rfl
  have J:=aJ I;clear I hc D;go_enter func101,ntmps101;go_wp2_with (go_at_call 211;refine(sU _ l _ _ (O.alloc _)).mono ?_;rintro e w' ⟨rfl,rfl⟩);go_ret;exact⟨by rw[J.out];rfl,aY _ _⟩
 |true=>
  have I:bF g l=AQ l:=by unfold bF;rw[F];simp
  have J:=aJ I;clear I hc;go_enter func101,ntmps101;go_wp2_with (go_at_call 211;refine(sU _ l _ _ (O.alloc _)).mono ?_;rintro e w' ⟨rfl,rfl⟩);go_loopw [3] (fun i wr=>∃k m:Nat,1<=k/\k<=max l.length 1/\i=ajJ k/\wr=(w.alloc (.cells #[g,ajH a l.length c] 31)).drewN m/\(∀j,(h:j+1<l.length)->j+1<k->l[j]<l[j+1])) (fun i _=>l.length-(intOf i).toNat)
  case atStart=>exact⟨1,0,by omega,by omega,rfl,rfl,by intros;omega⟩
  case round=>
   obtain⟨k,m,a1,hk,rfl,rfl,z⟩:=hrel;have H:=aJ z;clear z;by_cases hlt:k<l.length
   ·have R:(Instr.indexAt 24 (ajH a l.length c) (ajJ ((k:Int)-1))).run prog=(Instr.indexAt 24 (ajH a l.length c) (ajJ ((k-1:Nat):Int))).run prog:=by rw[show((k:Int)-1)=((k-1:Nat):Int) by omega]
    have M:k-1<l.length:=aI;have Y:=D (k-1) M;by_cases N:l[k]<=l[k-1]
    ·go_wp2;go_quiet (fail);go_wp2;go_ret;refine⟨aW ?_,((aY _ _).drewN' _).drewN' _⟩;rw[J.out];have:=J6 l (k-1) aI (by simpa[show k-1+1=k from by omega]using N);rw[this]
    ·go_wp2;go_quiet (fail);go_wp2;go_roundw
     case rel=>
      refine⟨k+1,m+nq,by omega,by omega,by go_num,by simp,fun j h hj=>?_⟩;by_cases K:j+1<k
      ·exact H.out j h K
      ·have:j=k-1:=aI;subst this;have e:k-1+1=k:=aI;simp only[e];omega
     case measure=>simp[intOf];omega
   ·go_wp2;go_ret;refine⟨aW ?_,(aY _ _).drewN' _⟩;rw[J.out,IK l fun j h=>H.out j h aI]
theorem cP(g:Int)(l:List Int)(v:Value)(w:World)(hv:aO w v l):
  Calls prog 113 #[.agg #[g,v]] w fun e w'=>e=.returned (.bool (bF g l))/\Below w w w':=by
 obtain⟨a,b,b3,c,rfl,a7,a9,hc,hb⟩:=hv.view prog 24 3 underlying24 aP;have M:=aT hc hb (aY w (.cells #[g,ajH a l.length c] 31)) aK
 cases J:eW g 0 6 with
 |false=>
  have O:bF g l=false:=by unfold bF fX;rw[J];rfl
  have K:=aJ O;clear O hc M;go_enter func113,ntmps113;go_wp2_with (go_at_call 174;refine(cN _ _ _ _).mono ?_;rintro e w' ⟨rfl,rfl⟩);go_ret;exact⟨by rw[K.out];rfl,aY _ _⟩
 |true=>
  have hg:=dH.1 J;obtain⟨G,rfl⟩:=Int.eq_ofNat_of_zero_le hg.1;have hG:G<=6:=aI;have O:bF G l=(l.all (fA G)&&AQ l):=by unfold bF fX;rw[J];simp
  have K:=aJ O;clear O hc hg;go_enter func113,ntmps113;go_wp2_with (go_at_call 174;refine(cN _ _ _ _).mono ?_;rintro e w' ⟨rfl,rfl⟩);go_loopw [3] (fun i wr=>∃k m:Nat,k<=l.length/\i=ajJ k/\wr=(w.alloc (.cells #[G,ajH a l.length c] 31)).drewN m/\(l.take k).all (fA G)=true/\(∀j,(h:j+1<l.length)->j+1<k->l[j]<l[j+1])) (fun i _=>l.length-(intOf i).toNat)
  case atStart=>exact⟨0,0,by omega,rfl,rfl,by simp,by intros;omega⟩
  case round=>
   obtain⟨k,m,hk,rfl,rfl,I,F⟩:=hrel;have H:=aJ F;have R:=aJ I;clear F I;by_cases hlt:k<l.length
   ·cases N:fA G l[k]with
    |false=>
     have z:eW l[k] 0 (2^G-1)=false:=by rw[C0];exact N
     have D:=aJ z;clear z;go_wp2;go_quiet ((first|(go_at_call 187;first|exact iU (fB G _ aI)|exact kC (fB G _ aI))|(go_at_call 174;first|exact nT (cN _ _ _ _) D.out|exact rP (cN _ _ _ _) D.out)));go_wp2;go_ret;refine⟨aW ?_,((aY _ _).drewN' _).drewN' _⟩;rw[K.out,jJ _ _ _ hlt N];rfl
    |true=>
     have z:eW l[k] 0 (2^G-1)=true:=by rw[C0];exact N
     have D:=aJ z;clear z;by_cases b0:0<k
     ·have a6:(Instr.indexAt 24 (ajH a l.length c) (ajJ ((k:Int)-1))).run prog=(Instr.indexAt 24 (ajH a l.length c) (ajJ ((k-1:Nat):Int))).run prog:=by rw[show((k:Int)-1)=((k-1:Nat):Int) by omega]
      have Y:k-1<l.length:=aI;have a8:=M (k-1) Y;by_cases Z:l[k]<=l[k-1]
      ·go_wp2;go_quiet ((first|(go_at_call 187;first|exact iU (fB G _ aI)|exact kC (fB G _ aI))|(go_at_call 174;first|exact nT (cN _ _ _ _) D.out|exact rP (cN _ _ _ _) D.out)));go_wp2;go_ret;refine⟨aW ?_,((aY _ _).drewN' _).drewN' _⟩;have:=J6 l (k-1) aI (by simpa[show k-1+1=k from by omega]using Z);rw[K.out,this];simp
      ·go_wp2;go_quiet ((first|(go_at_call 187;first|exact iU (fB G _ aI)|exact kC (fB G _ aI))|(go_at_call 174;first|exact nT (cN _ _ _ _) D.out|exact rP (cN _ _ _ _) D.out)));go_wp2;go_roundw
       case rel=>
        refine⟨k+1,m+nq,by omega,by go_num,by simp,by rw[gT _ _ _ hlt,R.out,N];rfl,fun j h hj=>?_⟩;by_cases S:j+1<k
        ·exact H.out j h S
        ·have:j=k-1:=aI;subst this;have e:k-1+1=k:=aI;simp only[e];omega
       case measure=>simp[intOf];omega
     ·have hd:decide (0<(k:Int))=false:=decide_eq_false aI;go_wp2;go_quiet ((first|(go_at_call 187;first|exact iU (fB G _ aI)|exact kC (fB G _ aI))|(go_at_call 174;first|exact nT (cN _ _ _ _) D.out|exact rP (cN _ _ _ _) D.out)));go_wp2;go_roundw
      case rel=>exact⟨k+1,m+nq,by omega,by go_num,by simp,by rw[gT _ _ _ hlt,R.out,N];rfl,by intros;omega⟩
      case measure=>simp[intOf];omega
   ·go_wp2;go_ret;refine⟨aW ?_,(aY _ _).drewN' _⟩;rw[K.out,IK l fun j h=>H.out j h aI,<-kM (fA G) l k aI,R.out];rfl
def bG(a b:Int):Int:=((a.toNat &&& b.toNat:Nat):Int)
def fQ(a b:Int):Int:=((a.toNat ||| b.toNat:Nat):Int)
def cI(a b:Int):Int:=((cS a.toNat b.toNat:Nat):Int)
def dI(a:Int):Int:=(bN a.toNat:Int)
theorem eB{a b:Int}(F:0<=a)(z:a<4611686018427387904)(hb:0<=b)(D:b<4611686018427387904):bits .and .i64 a b=bG a b:=by
 have:=IM a.toNat b.toNat aI aI;rw[show((a.toNat:Nat):Int)=a by omega,show((b.toNat:Nat):Int)=b by omega]at this;exact this
theorem xN{a b:Int}(F:0<=a)(z:a<4611686018427387904)(hb:0<=b)(D:b<4611686018427387904):bits .or .i64 a b=fQ a b:=by
 have:=IN a.toNat b.toNat aI aI;rw[show((a.toNat:Nat):Int)=a by omega,show((b.toNat:Nat):Int)=b by omega]at this;exact this
theorem lS{a b:Int}(F:0<=a)(z:a<64)(hb:0<=b)(D:b<64):bits .andNot .i64 a b=cI a b:=by
 have:=vP a.toNat b.toNat aI aI;rw[show((a.toNat:Nat):Int)=a by omega,show((b.toNat:Nat):Int)=b by omega]at this;exact this
theorem lR(a b n:Int)(z:0<=a)(h:a<n):0<=bG a b/\bG a b<n:=by
 have:=@Nat.and_le_left a.toNat b.toNat;unfold bG;omega
theorem JJ(a b:Int)(g:Nat)(D:0<=a)(hb:0<=b)(h:a<2^g)(z:b<2^g):0<=fQ a b/\fQ a b<2^g:=by
 have h1:a.toNat<2^g:=by
  have:((a.toNat:Nat):Int)<((2^g:Nat):Int):=by push_cast;omega
  exact_mod_cast this
 have h2:b.toNat<2^g:=by
  have:((b.toNat:Nat):Int)<((2^g:Nat):Int):=by push_cast;omega
  exact_mod_cast this
 have h3:=Nat.or_lt_two_pow h1 h2;refine⟨by unfold fQ;omega,?_⟩;unfold fQ
 exact_mod_cast h3
theorem nQ(a b n:Int)(z:0<=a)(h:a<n):0<=cI a b/\cI a b<n:=by unfold cI cS;omega
theorem EN(a:Int)(h:a<256):0<=dI a/\dI a<=8:=by
 have:=rK a.toNat aI;unfold dI;omega
theorem vI(s:Int)(w:World)(z:0<=s)(h1:s<256):
  Calls prog 165 #[s] w fun e w'=>e=.returned (dI s)/\w=w':=by
 obtain⟨n,rfl⟩:=Int.eq_ofNat_of_zero_le z;exact gE n w aI
theorem tN(s:Int)(w:World)(z:0<=s)(h1:s<256):
  Calls prog 154 #[s] w fun e w'=>e=.returned (dI s)/\w=w':=by
 obtain⟨n,rfl⟩:=Int.eq_ofNat_of_zero_le z;exact eK n w aI
theorem A7(g:Int)(w:World)(z:0<=g)(h1:g<=40):
  Calls prog 187 #[g] w fun e w'=>e=.returned (ajJ (2^g.toNat-1))/\w=w':=by
 obtain⟨n,rfl⟩:=Int.eq_ofNat_of_zero_le z;exact fB n w aI
theorem abE(g s:Int)(w:World)(z:0<=g)(h1:g<=40):
  Calls prog 183 #[g,s] w fun e w'=>e=.returned (.bool (fA g.toNat s))/\w=w':=by
 obtain⟨n,rfl⟩:=Int.eq_ofNat_of_zero_le z;exact pX n s w aI
theorem dQ{g:Int}{l:List Int}(h:bF g l=true):0<=g/\g<=6/\(∀s∈l,0<=s/\s<2^g.toNat)/\l.Pairwise (· < ·):=by
 unfold bF fX at h;simp only[Bool.and_eq_true,List.all_eq_true]at h;obtain⟨⟨h1,h2⟩,h3⟩:=h;have:=dH.1 h1;exact⟨this.1,this.2,fun s z=>mQ.1 (h2 s z),by simpa[AQ]using h3⟩
theorem lZ{g:Int}(z:0<=g)(D:g<=6):(2:Int)^g.toNat<=64:=by
 have:=(cK g.toNat 6 aI).1;simpa using this
theorem pV{g:Int}{l:List Int}(h:bF g l=true):0<=g/\g<=6/\(∀k,(hk:k<l.length)->0<=l[k]/\l[k]<64):=by
 obtain⟨z,D,F,_⟩:=dQ h;refine⟨z,D,fun k hk=>?_⟩;have:=F _ (List.getElem_mem hk);have:=lZ z D;omega
theorem vU{α β:Type}(f:β->α->β)(z:β)(l:List α)(k:Nat)(h:k<l.length):(l.take (k+1)).foldl f z=f ((l.take k).foldl f z) l[k]:=by
 rw[List.take_succ_eq_append_getElem h,List.foldl_append];rfl
theorem GL{α β:Type}(f:β->α->β)(z:β)(l:List α)(k:Nat)(h:l.length<=k):(l.take k).foldl f z=l.foldl f z:=by rw[List.take_of_length_le h]
def ai9(m s:Int):Int:=max m (dI s)
def DD(g:Int)(l:List Int):Int:=if bF g l then l.foldl ai9 0 else -1
def kL(l:List Int)(D z:Int):Bool:=l.all fun x=>eW x D z
theorem BT(l:List Int)(v:Value)(F D:Int)(w:World)(M:aO w v l):
  Calls prog 159 #[v,F,D] w fun e w'=>e=.returned (.bool (kL l F D))/\w=w':=by
 obtain⟨a,b,N,c,rfl,I,K,hc,hb⟩:=M.view prog 24 3 underlying24 aP;go_enter func159,ntmps159;go_wp2;go_loop [11] (fun i=>∃k:Nat,k<=l.length/\i=ajJ k/\(l.take k).all (fun x=>eW x F D)=true) (fun i=>l.length-(intOf i).toNat)
 case atStart=>exact⟨0,Nat.zero_le _,rfl,by simp⟩
 case round=>
  obtain⟨k,hk,rfl,z⟩:=hrel;have H:=aJ z;clear z;by_cases hlt:k<l.length
  ·cases J:eW l[k] F D with
   |true=>
    go_wp2_with (go_at_call 158;refine(jC _ _ _ _).mono ?_;rintro e w' ⟨rfl,rfl⟩);go_round
    case rel=>exact⟨k+1,by omega,by go_num,by rw[gT _ _ _ hlt,H.out,J];rfl⟩
    case measure=>simp[intOf];omega
   |false=>go_wp2_with (go_at_call 158;refine(jC _ _ _ _).mono ?_;rintro e w' ⟨rfl,rfl⟩);go_ret;exact⟨aW (by unfold kL;rw[jJ _ _ _ hlt J]),rfl⟩
  ·go_wp2;go_ret;exact⟨aW (by unfold kL;rw[<-kM (fun x=>eW x F D) l k aI,H.out]),rfl⟩
def bH(n:Int)(l:List Int):Bool:=eW n 0 5&&decide ((l.length:Int)=2^n.toNat)&&kL l (-1000) 1000
theorem kG{g:Int}(z:0<=g)(D:g<=5):(2:Int)^g.toNat<=32/\0<(2:Int)^g.toNat:=by
 have:=cK g.toNat 5 aI;simpa using this
theorem kY{n:Int}{l:List Int}(h:bH n l=true):0<=n/\n<=5/\(l.length:Int)=2^n.toNat/\(∀k,(hk:k<l.length)->-1000<=l[k]/\l[k]<=1000):=by
 unfold bH kL at h;simp only[Bool.and_eq_true,List.all_eq_true,decide_eq_true_eq]at h;obtain⟨⟨h1,h2⟩,h3⟩:=h;have:=dH.1 h1;exact⟨this.1,this.2,h2,fun k hk=>dH.1 (h3 _ (List.getElem_mem hk))⟩
theorem dS(n:Int)(l:List Int)(v:Value)(w:World)(O:aO w v l):
  Calls prog 34 #[.agg #[n,v]] w fun e w'=>e=.returned (.bool (bH n l))/\Below w w w':=by
 obtain⟨a,b,Y,c,rfl,N,R,hc,hb⟩:=O.view prog 24 3 underlying24 aP
 cases z:eW n 0 5 with
 |false=>
  have D:bH n l=false:=by unfold bH;rw[z];rfl
  have F:=aJ D;clear D hc;go_enter func34,ntmps34;go_wp2_with (go_at_call 158;refine(jC _ _ _ _).mono ?_;rintro e w' ⟨rfl,rfl⟩);go_ret;exact⟨by rw[F.out];rfl,aY _ _⟩
 |true=>
  have I:=dH.1 z;have K:0<=n:=I.1;have M:n<=5:=I.2;have hp:=(kG K M).1;have S:=(kG K M).2;by_cases hl:(l.length:Int)=2^n.toNat
  ·have D:bH n l=kL l (-1000) 1000:=by unfold bH;rw[z,decide_eq_true hl];rfl
   have J:((l.length:Int) != 2^n.toNat)=false:=by simp[hl]
   have F:=aJ D;have Z:=aJ hl;clear D hc I hl;go_enter func34,ntmps34;go_wp2_with (first
    |(go_at_call 158;refine(jC _ _ _ _).mono ?_;rintro e w' ⟨rfl,rfl⟩)
    |(go_at_call 159;refine(BT l _ _ _ _ (O.alloc _)).mono ?_;rintro e w' ⟨rfl,rfl⟩))
   go_ret;exact⟨by rw[F.out];rfl,aY _ _⟩
  ·have D:bH n l=false:=by unfold bH;rw[z,decide_eq_false hl];rfl
   have J:((l.length:Int) != 2^n.toNat)=true:=by simp[hl]
   have F:=aJ D;clear D hc I hl;go_enter func34,ntmps34;go_wp2_with (go_at_call 158;refine(jC _ _ _ _).mono ?_;rintro e w' ⟨rfl,rfl⟩);go_ret;exact⟨by rw[F.out];rfl,aY _ _⟩
theorem dG(n:Int)(l:List Int)(v:Value)(w:World)(hv:aO w v l):
  Calls prog 51 #[.agg #[n,v]] w fun e w'=>e=.returned (.bool (bH n l))/\Below w w w':=by
 obtain⟨a,b,a7,c,rfl,S,Z,hc,hb⟩:=hv.view prog 24 3 underlying24 aP;have K:=aT hc hb (aY w (.cells #[n,ajH a l.length c] 26)) aK;clear hc
 cases z:eW n 0 5 with
 |false=>
  have I:bH n l=false:=by unfold bH;rw[z];rfl
  have J:=aJ I;have D:=aJ z;clear I K z;go_enter func51,ntmps51;go_wp2;go_quiet ((go_at_call 174;first|exact nT (cN _ _ _ _) D.out|exact rP (cN _ _ _ _) D.out));go_wp2;go_ret;exact⟨by rw[J.out];rfl,(aY _ _).drewN' _⟩
 |true=>
  have M:=dH.1 z;have O:0<=n:=M.1;have R:n<=5:=M.2;have hp:=(kG O R).1;have a1:=(kG O R).2;have D:=aJ z;clear z;by_cases hl:(l.length:Int)=2^n.toNat
  ·have I:bH n l=kL l (-1000) 1000:=by unfold bH;rw[D.out,decide_eq_true hl];rfl
   have N:((l.length:Int) != 2^n.toNat)=false:=by simp[hl]
   have J:=aJ I;have HL:=aJ hl;clear I M hl;go_enter func51,ntmps51;go_wp2;go_quiet ((go_at_call 174;first|exact nT (cN _ _ _ _) D.out|exact rP (cN _ _ _ _) D.out));go_wp2;go_loop [3] (fun i=>∃k:Nat,k<=l.length/\i=ajJ k/\(l.take k).all (fun x=>eW x (-1000) 1000)=true) (fun i=>l.length-(intOf i).toNat)
   case atStart=>exact⟨0,Nat.zero_le _,rfl,by simp⟩
   case round=>
    obtain⟨k,hk,rfl,F⟩:=hrel;have H:=aJ F;clear F;by_cases hlt:k<l.length
    ·cases Y:eW l[k] (-1000) 1000 with
     |true=>
      go_wp2_with (go_at_call 174;refine(cN _ _ _ _).mono ?_;rintro e w' ⟨rfl,rfl⟩);go_round
      case rel=>exact⟨k+1,by omega,by go_num,by rw[gT _ _ _ hlt,H.out,Y];rfl⟩
      case measure=>simp[intOf];omega
     |false=>go_wp2_with (go_at_call 174;refine(cN _ _ _ _).mono ?_;rintro e w' ⟨rfl,rfl⟩);go_ret;exact⟨aW (by rw[J.out];unfold kL;rw[jJ _ _ _ hlt Y]),(aY _ _).drewN' _⟩
    ·go_wp2;go_ret;exact⟨aW (by rw[J.out];unfold kL;rw[<-kM (fun x=>eW x (-1000) 1000) l k aI,H.out]),(aY _ _).drewN' _⟩
  ·have I:bH n l=false:=by unfold bH;rw[D.out,decide_eq_false hl];rfl
   have N:((l.length:Int) != 2^n.toNat)=true:=by simp[hl]
   have J:=aJ I;clear I M hl K;go_enter func51,ntmps51;go_wp2;go_quiet ((go_at_call 174;first|exact nT (cN _ _ _ _) D.out|exact rP (cN _ _ _ _) D.out));go_wp2;go_ret;exact⟨by rw[J.out];rfl,(aY _ _).drewN' _⟩
def fZ(n:Int)(l:List Int):Bool:=bH n l&&decide (l.getD 0 0=0)
theorem yU(n:Int)(l:List Int)(v:Value)(w:World)(Y:aO w v l):
  Calls prog 46 #[.agg #[n,v]] w fun e w'=>e=.returned (.bool (fZ n l))/\Below w w w':=by
 obtain⟨a,b,I,c,rfl,S,O,hc,hb⟩:=Y.view prog 24 3 underlying24 aP;go_enter func46,ntmps46;go_wp2_with fail;refine(dS n l _ _ (Y.alloc _)).mono ?_;rintro e w1 ⟨rfl,D⟩;have d1:=keep D (aX w #[n,ajH a l.length c] 26 1 _ rfl);have J:Below w w w1:=(aY _ _).after D (by first|omega|(simp;done)|(simp;omega));have M:=aT hc hb J aK;clear hc hb D
 cases N:bH n l with
 |false=>
  have F:fZ n l=false:=by unfold fZ;rw[N];rfl
  have K:=aJ F;clear F;go_wp2;go_ret;exact⟨by rw[K.out];rfl,J⟩
 |true=>
  obtain⟨Z,h5,hl,_⟩:=kY N;have hp:=(kG Z h5).2;have z:0<l.length:=aI;have F:fZ n l=(l[0]==0):=by
   unfold fZ;rw[N,List.getD_eq_getElem?_getD,List.getElem?_eq_getElem z];simp only[Option.getD_some,Bool.true_and]
   rfl
  have K:=aJ F;have R:∀w',(Instr.indexAt 24 (ajH a l.length c) (ajJ 0)).run prog w'=.ok (.pointer (some ⟨b,I,none⟩)) w':=fun w'=>by simpa using O w' 0 z
  have a6:w1.cell? ⟨b,I,none⟩=some (ajJ l[0]):=M 0 z;clear F hl;go_wp2;go_ret;exact⟨by rw[K.out];rfl,J⟩
theorem yW(n:Int)(l:List Int)(v:Value)(w:World)(Y:aO w v l):
  Calls prog 62 #[.agg #[n,v]] w fun e w'=>e=.returned (.bool (fZ n l))/\Below w w w':=by
 obtain⟨a,b,I,c,rfl,S,O,hc,hb⟩:=Y.view prog 24 3 underlying24 aP;go_enter func62,ntmps62;go_wp2_with fail;refine(dG n l _ _ (Y.alloc _)).mono ?_;rintro e w1 ⟨rfl,D⟩;have d1:=keep D (aX w #[n,ajH a l.length c] 26 1 _ rfl);have J:Below w w w1:=(aY _ _).after D (by first|omega|(simp;done)|(simp;omega));have M:=aT hc hb J aK;clear hc hb D
 cases N:bH n l with
 |false=>
  have F:fZ n l=false:=by unfold fZ;rw[N];rfl
  have K:=aJ F;clear F;go_wp2;go_ret;exact⟨by rw[K.out];rfl,J⟩
 |true=>
  obtain⟨Z,h5,hl,_⟩:=kY N;have hp:=(kG Z h5).2;have z:0<l.length:=aI;have F:fZ n l=(l[0]==0):=by
   unfold fZ;rw[N,List.getD_eq_getElem?_getD,List.getElem?_eq_getElem z];simp only[Option.getD_some,Bool.true_and]
   rfl
  have K:=aJ F;have R:∀w',(Instr.indexAt 24 (ajH a l.length c) (ajJ 0)).run prog w'=.ok (.pointer (some ⟨b,I,none⟩)) w':=fun w'=>by simpa using O w' 0 z
  have a6:w1.cell? ⟨b,I,none⟩=some (ajJ l[0]):=M 0 z;clear F hl;go_wp2;go_ret;exact⟨by rw[K.out];rfl,J⟩
def dL(s:Int)(e:Nat):Int:=s/2^e%2
theorem jL(s:Int)(k:Nat)(z:0<=s)(h1:s<4611686018427387904):bits BinOp.and IntKind.i64 (s/2^k) 1=dL s k:=by
 have F:0<=s/2^k:=Int.ediv_nonneg z (by have:=(cK k k aK).2;omega);have D:s/2^k<=s:=Int.ediv_le_self _ z;have:=QQ (s/2^k).toNat aI;rw[show(((s/2^k).toNat:Nat):Int)=s/2^k by omega]at this;rw[this];unfold dL;omega
def pP(x:List Int)(s:Int):Nat->Int
 |0=>0
 |k+1=>if dL s k=1 then pP x s k+x.getD k 0 else pP x s k
def wt(x:List Int)(s:Int):Int:=pP x s x.length
theorem NH(x:List Int)(s:Int)(h:∀k,(hk:k<x.length)->-1000000<=x[k]/\x[k]<=1000000)(k:Nat)(hk:k<=x.length):-1000000*(k:Int)<=pP x s k/\pP x s k<=1000000*(k:Int):=by
 induction k with
 |zero=>simp[pP]
 |succ k ih=>
  have h1:=ih aI;have h2:=h k aI;rw[pP,List.getD_eq_getElem?_getD,List.getElem?_eq_getElem (show k<x.length by omega),Option.getD_some]
  split<;>omega
theorem D8(x:List Int)(v:Value)(s:Int)(w:World)(Y:aO w v x)(R:0<=s)(h1:s<1073741824)(N:∀k,(hk:k<x.length)->-1000000<=x[k]/\x[k]<=1000000)(hl:x.length<=60):
  Calls prog 315 #[v,s] w fun e w'=>e=.returned (wt x s)/\w=w':=by
 obtain⟨a,b,a1,c,rfl,M,S,hc,hb⟩:=Y.view prog 24 3 underlying24 aP;go_enter func315,ntmps315;go_wp2;go_loop [5,10] (fun m i=>∃k:Nat,k<=x.length/\i=ajJ k/\m=ajJ (pP x s k)) (fun _ i=>x.length-(intOf i).toNat)
 case atStart=>exact⟨0,Nat.zero_le _,rfl,rfl⟩
 case round=>
  obtain⟨k,hk,rfl,rfl⟩:=hrel;have F:=NH x s N k hk;obtain⟨m,hm⟩:=aN (pP x s k);rw[<-hm]at F ⊢;have I:=aJ hm;clear hm;by_cases hlt:k<x.length
  ·have Z:=N k hlt;have K:=jL s k R aI;have D:pP x s (k+1)=if dL s k=1 then m+x[k] else m:=by rw[pP,<-I.out,List.getD_eq_getElem?_getD,List.getElem?_eq_getElem hlt,Option.getD_some]
   have J:=aJ D;clear D;by_cases z:dL s k=1
   ·have ht:(dL s k==1)=true:=by simp[z]
    have O:=aJ z;clear z;go_wp2;go_round
    case rel=>exact⟨k+1,by omega,by go_num,by rw[J.out,if_pos O.out]⟩
    case measure=>simp[intOf];omega
   ·have ht:(dL s k==1)=false:=by simp[z]
    go_wp2;go_round
    case rel=>exact⟨k+1,by omega,by go_num,by rw[J.out,if_neg z]⟩
    case measure=>simp[intOf];omega
  ·go_wp2;go_ret;exact⟨fF (by rw[I.out,show k=x.length from by omega];rfl),rfl⟩
theorem sY(x:List Int)(v:Value)(s:Int)(w:World)(Y:aO w v x)(R:0<=s)(h1:s<1073741824)(N:∀k,(hk:k<x.length)->-1000000<=x[k]/\x[k]<=1000000)(hl:x.length<=60):
  Calls prog 305 #[v,s] w fun e w'=>e=.returned (wt x s)/\w=w':=by
 obtain⟨a,b,a1,c,rfl,M,S,hc,hb⟩:=Y.view prog 24 3 underlying24 aP;go_enter func305,ntmps305;go_wp2;go_loop [5,6] (fun m i=>∃k:Nat,k<=x.length/\i=ajJ k/\m=ajJ (pP x s k)) (fun _ i=>x.length-(intOf i).toNat)
 case atStart=>exact⟨0,Nat.zero_le _,rfl,rfl⟩
 case round=>
  obtain⟨k,hk,rfl,rfl⟩:=hrel;have F:=NH x s N k hk;obtain⟨m,hm⟩:=aN (pP x s k);rw[<-hm]at F ⊢;have I:=aJ hm;clear hm;by_cases hlt:k<x.length
  ·have Z:=N k hlt;have K:=jL s k R aI;have D:pP x s (k+1)=if dL s k=1 then m+x[k] else m:=by rw[pP,<-I.out,List.getD_eq_getElem?_getD,List.getElem?_eq_getElem hlt,Option.getD_some]
   have J:=aJ D;clear D;by_cases z:dL s k=1
   ·have ht:(dL s k==1)=true:=by simp[z]
    have O:=aJ z;clear z;go_wp2;go_round
    case rel=>exact⟨k+1,by omega,by go_num,by rw[J.out,if_pos O.out]⟩
    case measure=>simp[intOf];omega
   ·have ht:(dL s k==1)=false:=by simp[z]
    go_wp2;go_round
    case rel=>exact⟨k+1,by omega,by go_num,by rw[J.out,if_neg z]⟩
    case measure=>simp[intOf];omega
  ·go_wp2;go_ret;exact⟨fF (by rw[I.out,show k=x.length from by omega];rfl),rfl⟩
theorem xQ(x:List Int)(v:Value)(w:World)(N:aO w v x):
  Calls prog 274 #[v] w fun e w'=>e=.returned (.bool (kL x (-5000) 5000&&decide (x.length<=5)))/\w=w':=by
 obtain⟨a,b,O,c,rfl,F,M,hc,hb⟩:=N.view prog 24 3 underlying24 aP;go_enter func274,ntmps274;go_wp2;go_loop [3] (fun i=>∃k:Nat,k<=x.length/\i=ajJ k/\(x.take k).all (fun x=>eW x (-5000) 5000)=true) (fun i=>x.length-(intOf i).toNat)
 case atStart=>exact⟨0,Nat.zero_le _,rfl,by simp⟩
 case round=>
  obtain⟨k,hk,rfl,z⟩:=hrel;have H:=aJ z;clear z;by_cases hlt:k<x.length
  ·cases I:eW x[k] (-5000) 5000 with
   |true=>
    go_wp2_with (go_at_call 174;refine(cN _ _ _ _).mono ?_;rintro e w' ⟨rfl,rfl⟩);go_round
    case rel=>exact⟨k+1,by omega,by go_num,by rw[gT _ _ _ hlt,H.out,I];rfl⟩
    case measure=>simp[intOf];omega
   |false=>go_wp2_with (go_at_call 174;refine(cN _ _ _ _).mono ?_;rintro e w' ⟨rfl,rfl⟩);go_ret;exact⟨aW (by unfold kL;rw[jJ _ _ _ hlt I];rfl),rfl⟩
  ·have J:kL x (-5000) 5000=true:=by unfold kL;rw[<-kM (fun x=>eW x (-5000) 5000) x k aI,H.out]
   have D:=aJ J;clear J;by_cases R:x.length<=5
   ·go_wp2;go_ret;exact⟨aW (by rw[D.out];simp;omega),rfl⟩
   ·have K:decide ((x.length:Int)<=5)=false:=decide_eq_false aI;go_wp2;go_ret;exact⟨aW (by first|rfl|(rw[D.out];simp;omega)),rfl⟩
def gK(n:Int)(x:List Int):Bool:=decide ((x.length:Int)=n)&&kL x (-5000) 5000
theorem JK(n:Int)(l:List Int)(v:Value)(x:List Int)(u:Value)(w:World)(I:aO w v l)(F:aO w u x):
  Calls prog 271 #[.agg #[n,v],u] w fun e w'=>e=.returned (.bool (gK n x))/\Below w w w':=by
 obtain⟨K,N,rfl⟩:=I.shape;obtain⟨J,M,rfl⟩:=F.shape;by_cases hl:(x.length:Int)=n
 ·have z:gK n x=kL x (-5000) 5000:=by unfold gK;rw[decide_eq_true hl];rfl
  have ht:((x.length:Int)==n)=true:=by simp[hl]
  have D:=aJ z;clear z hl;go_enter func271,ntmps271;go_wp2_with (go_at_call 159;refine(BT x _ _ _ _ (F.alloc _)).mono ?_;rintro e w' ⟨rfl,rfl⟩);go_ret;exact⟨by rw[D.out];rfl,aY _ _⟩
 ·have z:gK n x=false:=by unfold gK;rw[decide_eq_false hl];rfl
  have ht:((x.length:Int)==n)=false:=by simp[hl]
  have D:=aJ z;clear z hl;go_enter func271,ntmps271;go_wp2;go_ret;exact⟨by rw[D.out];rfl,aY _ _⟩
theorem tV(n:Int)(v:Value)(l:List Int)(w:World)(z:aO w v l)(I:0<=n)(h1:n<=40):
  Calls prog 182 #[.agg #[n,v]] w fun e w'=>e=.returned (ajJ (2^n.toNat-1))/\Below w w w':=by
 obtain⟨D,F,rfl⟩:=z.shape;have h2:=cK n.toNat 40 aI;have h3:=h2.1;have h4:=h2.2;simp at h3;clear h2;go_enter func182,ntmps182;go_wp2;go_ret;exact⟨rfl,aY _ _⟩
def dW(l x:List Int)(s:Int):Int:=l.getD s.toNat 0-wt x s
theorem OR(n:Int)(l:List Int)(v:Value)(x:List Int)(u:Value)(s:Int)(w:World)(Y:aO w v l)(F:aO w u x)(N:0<=s)(hs:s<l.length)(S:l.length<=64)
  (D:∀k,(hk:k<l.length)->-1000<=l[k]/\l[k]<=1000) (I:∀k,(hk:k<x.length)->-5000<=x[k]/\x[k]<=5000) (a6:x.length<=6):
  Calls prog 301 #[.agg #[n,v],u,s] w fun e w'=>e=.returned (dW l x s)/\Below w w w':=by
 obtain⟨a,b,a7,c,rfl,K,R,hc,hb⟩:=Y.view prog 24 3 underlying24 aP;obtain⟨au,cu,rfl⟩:=F.shape;obtain⟨k,rfl⟩:=Int.eq_ofNat_of_zero_le N;have hk:k<l.length:=aI;have O:=aT hc hb (aY w (.cells #[n,ajH a l.length c] 26)) aK k hk;have a1:=D k hk;have hw:=NH x k (fun j z=>by have:=I j z;omega) x.length aK;have Z:-6000000<=wt x k/\wt x k<=6000000:=by unfold wt;omega
 have J:l.getD (k:Int).toNat 0=l[k]:=by simp[hk]
 have M:=aJ J;clear hc D hw J;go_enter func301,ntmps301;go_wp2;go_quiet ((go_at_call 315;first|exact iU (D8 x _ _ _ ((F.alloc _).drewN _) aI aI (fun j z=>by have:=I j z;omega) aI)|exact kC (D8 x _ _ _ ((F.alloc _).drewN _) aI aI (fun j z=>by have:=I j z;omega) aI)));go_wp2;go_ret;exact⟨fF (by unfold dW;rw[M.out]),(aY _ _).drewN' _⟩
theorem JU{n:Int}{x:List Int}(h:gK n x=true):(x.length:Int)=n/\∀k,(hk:k<x.length)->-5000<=x[k]/\x[k]<=5000:=by
 unfold gK kL at h;simp only[Bool.and_eq_true,List.all_eq_true,decide_eq_true_eq]at h;exact⟨h.1,fun k hk=>dH.1 (h.2 _ (List.getElem_mem hk))⟩
theorem MO{n:Int}{l:List Int}(h:fZ n l=true):bH n l=true:=by
 unfold fZ at h;simp only[Bool.and_eq_true]at h;exact h.1
def mM(l x:List Int):Nat->Bool
 |0=>true
 |k+1=>mM l x k&&decide (0<=dW l x k)
def lG(n:Int)(l x:List Int):Bool:=fZ n l&&gK n x&&mM l x l.length
theorem FC(l x:List Int)(k:Nat)(h:dW l x k<0):∀m,k<m->mM l x m=false:=by
 intro m
 induction m with
 |zero=>intro h;omega
 |succ m ih=>
  intro hm;rw[mM];by_cases z:k<m
  ·rw[ih z];rfl
  ·have:m=k:=aI;subst this;rw[decide_eq_false aI];simp
theorem XS(l x:List Int):∀m,mM l x m=true->∀k:Nat,k<m->0<=dW l x k:=by
 intro m
 induction m with
 |zero=>intro _ k hk;omega
 |succ m ih=>
  intro h k hk;rw[mM]at h;obtain⟨h1,h2⟩:=Bool.and_eq_true_iff.1 h;by_cases z:k<m
  ·exact ih h1 k z
  ·have:k=m:=aI;subst this;exact of_decide_eq_true h2
theorem CX(w:World)(n:Int)(v:Value)(l:List Int)(hv:aO w v l)(u:Value)(x:List Int)(hu:aO w u x):
  Calls prog 270 #[.agg #[n,v],u] w fun e w'=>e=.returned (.bool (lG n l x))/\Below w w w':=by
 obtain⟨av,cv,rfl⟩:=hv.shape;obtain⟨au,cu,rfl⟩:=hu.shape;go_enter func270,ntmps270;go_wp2_with fail;refine(yU n l _ _ (hv.alloc _)).mono ?_;rintro e w1 ⟨rfl,K⟩;have X1:=(Box2.new w n (ajH av l.length cv) 26).after K;clear K
 cases hg:fZ n l with
 |false=>
  have I:lG n l x=false:=by unfold lG;rw[hg];rfl
  have J:=aJ I;obtain⟨D,d1,z,F⟩:=X1;clear I;go_wp2;go_ret;exact⟨by rw[J.out];rfl,z⟩
 |true=>
  obtain⟨h0,h5,hl,S⟩:=kY (MO hg);have hp:=kG h0 h5;have R:l.length<=64:=aI;have a9:=aJ S;clear hl S hp;obtain⟨D,d1,z,F⟩:=X1;go_wp2_with fail;refine(JK n l _ x _ _ (hv.below z aK) (hu.below z aK)).mono ?_;rintro e w2 ⟨rfl,M⟩;have X2:=(Box2.mk D d1 z F).after M;clear M D d1 z F
  cases hlo:gK n x with
  |false=>
   have I:lG n l x=false:=by unfold lG;rw[hg,hlo];rfl
   have J:=aJ I;obtain⟨D,d1,z,F⟩:=X2;clear I;go_wp2;go_ret;exact⟨by rw[J.out];rfl,z⟩
  |true=>
   obtain⟨b4,a1⟩:=JU hlo;have a6:x.length<=6:=aI;have I:lG n l x=mM l x l.length:=by unfold lG;rw[hg,hlo];rfl
   have J:=aJ I;have b0:=aJ a1;clear I a1 b4;obtain⟨D,d1,z,F⟩:=X2;go_wp2_with fail;go_loopw [18] (fun i wr=>∃k:Nat,k<=l.length/\i=ajJ k/\mM l x k=true/\Box2 w wr n (ajH av l.length cv)) (fun i _=>l.length-(intOf i).toNat)
   case atStart=>exact⟨0,Nat.zero_le _,rfl,rfl,⟨D,d1,z,F⟩⟩
   case round=>
    obtain⟨k,hk,rfl,Z,X⟩:=hrel;have HO:=aJ Z;clear Z D d1 z F;obtain⟨D,d1,z,F⟩:=X;by_cases hlt:k<l.length
    ·have Y:(k:Int)<(l.length:Int):=aI;go_wp2_with fail;refine(OR n l _ x _ k _ (hv.below z aK) (hu.below z aK) aI aI R a9.out b0.out a6).mono ?_;rintro e w3 ⟨rfl,N⟩;have X3:=(Box2.mk D d1 z F).after N;clear N D d1 z F;by_cases b1:dW l x k<0
     ·go_wp2;go_ret;refine⟨aW ?_,X3.B⟩;rw[J.out,FC l x k b1 _ hlt]
     ·go_wp2
      go_roundw
      case rel=>exact⟨k+1,by omega,by go_num,by rw[mM,HO.out,decide_eq_true aI];rfl,X3⟩
      case measure=>simp[intOf];omega
    ·have Y:¬(k:Int)<(l.length:Int):=aI;have O:k=l.length:=aI;have HK:=aJ O;clear O;go_wp2;go_ret;exact⟨aW (by rw[J.out,<-HK.out,HO.out]),z⟩
theorem CY(w:World)(n:Int)(v:Value)(l:List Int)(hv:aO w v l)(u:Value)(x:List Int)(hu:aO w u x):
  Calls prog 273 #[.agg #[n,v],u] w fun e w'=>e=.returned (.bool (lG n l x))/\Below w w w':=by
 obtain⟨a,b,d8,c,rfl,b6,d6,hc,hb⟩:=hv.view prog 24 3 underlying24 aP;obtain⟨au,cu,rfl⟩:=hu.shape;go_enter func273,ntmps273;go_wp2_with fail;refine(yW n l _ _ (hv.alloc _)).mono ?_;rintro e w1 ⟨rfl,O⟩;have X1:=(Box2.new w n (ajH a l.length c) 26).after O;clear O;have d5:=aT hc hb X1.B aK;have D:=hu.below X1.B aK;clear hc
 cases R:fZ n l with
 |false=>
  have F:lG n l x=false:=by unfold lG;rw[R];rfl
  have K:=aJ F;obtain⟨d0,d1,N,z1⟩:=X1;clear F;go_wp2;go_ret;exact⟨by rw[K.out];rfl,N⟩
 |true=>
  obtain⟨h0,h5,hl,Y⟩:=kY (MO R);have hp:=kG h0 h5;have b5:l.length<=64:=aI;have c5:=aJ Y;clear hl Y;obtain⟨d0,d1,N,z1⟩:=X1;by_cases z:(x.length:Int)=n
  ·have b0:((x.length:Int) != n)=false:=by simp[z]
   have b1:x.length<=5:=aI;have c6:=aJ z
   cases J:kL x (-5000) 5000 with
   |false=>
    have F:lG n l x=false:=by unfold lG gK;rw[R,J];simp
    have K:=aJ F;clear F z;go_wp2_with (go_at_call 274;refine(xQ x _ _ D).mono ?_;rintro e w' ⟨rfl,rfl⟩;rw[J]);go_ret;exact⟨by rw[K.out];rfl,N⟩
   |true=>
    have hlo:gK n x=true:=by unfold gK;rw[J,decide_eq_true z];rfl
    obtain⟨_,a7⟩:=JU hlo;have F:lG n l x=mM l x l.length:=by unfold lG;rw[R,hlo];rfl
    have K:=aJ F;have I:=aJ a7;have a9:decide (x.length<=5)=true:=decide_eq_true b1;clear F a7 z hlo;go_wp2_with (go_at_call 274;refine(xQ x _ _ D).mono ?_;rintro e w' ⟨rfl,rfl⟩;rw[J,a9]);go_loopw [5] (fun i wr=>∃k m:Nat,k<=l.length/\i=ajJ k/\mM l x k=true/\wr=w1.drewN m) (fun i _=>l.length-(intOf i).toNat)
    case atStart=>exact⟨0,0,Nat.zero_le _,rfl,rfl,rfl⟩
    case round=>
     obtain⟨k,m,hk,rfl,a1,rfl⟩:=hrel;have HO:=aJ a1;clear a1;by_cases hlt:k<l.length
     ·have Z:(k:Int)<(l.length:Int):=aI;have a6:dW l x k=l[k]-wt x k:=by unfold dW;simp[hlt]
      have HS:=aJ a6;clear a6;by_cases d7:wt x k>l[k]
      ·go_wp2;go_quiet ((go_at_call 305;first|exact iU (sY x _ _ _ (D.drewN _) aI aI (fun j M=>by have:=I.out j M;omega) aI)|exact kC (sY x _ _ _ (D.drewN _) aI aI (fun j M=>by have:=I.out j M;omega) aI)));go_wp2;go_ret;refine⟨aW ?_,(N.drewN' _).drewN' _⟩;rw[K.out,FC l x k (by rw[HS.out];omega) _ hlt]
      ·go_wp2;go_quiet ((go_at_call 305;first|exact iU (sY x _ _ _ (D.drewN _) aI aI (fun j M=>by have:=I.out j M;omega) aI)|exact kC (sY x _ _ _ (D.drewN _) aI aI (fun j M=>by have:=I.out j M;omega) aI)));go_wp2;go_roundw
       case rel=>exact⟨k+1,m+nq,by omega,by go_num,by rw[mM,HO.out,decide_eq_true (by rw[HS.out];omega)];rfl,by simp⟩
       case measure=>simp[intOf];omega
     ·have Z:¬(k:Int)<(l.length:Int):=aI;have S:k=l.length:=aI;have HK:=aJ S;clear S;go_wp2;go_ret;exact⟨aW (by rw[K.out,<-HK.out,HO.out]),N.drewN' _⟩
  ·have b0:((x.length:Int) != n)=true:=by simp[z]
   have F:lG n l x=false:=by unfold lG gK;rw[R,decide_eq_false z];rfl
   have K:=aJ F;clear F z;go_wp2;go_ret;exact⟨by rw[K.out];rfl,N⟩
end
end Go.Proofs.YtcpoomdoodlkjaaGreatDoor
