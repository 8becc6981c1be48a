/- Lemmas for CardReports. No condition. -/
import Derived.Test.YtcpoomdoodlkjaaGreatDoorQ02
import Derived.Deep.RegionHeld3
set_option maxRecDepth 100000
set_option maxHeartbeats 64000000
namespace Go.Proofs.YtcpoomdoodlkjaaGreatDoor
section
open Go.RowKit Go.G5 Go.Proofs.Tryz
def fD(n:Nat)(s:Int):Bool:=decide (0<=s)&&decide (s<2^n)
theorem mT{n:Nat}{s:Int}:fD n s=true↔0<=s/\s<2^n:=by simp[fD]
theorem DC(n:Nat)(s:Int):eZ s 0 (2^n-1)=fD n s:=by
 unfold eZ fD;by_cases h:s<2^n
 ·rw[decide_eq_true h,decide_eq_true (show s<=2^n-1 by omega)]
 ·rw[decide_eq_false h,decide_eq_false (show ¬s<=2^n-1 by omega)]
theorem qH(n:Nat)(s:Int)(w:World)(I:n<=40):
  Calls prog 183 #[n,s] w fun e w'=>e=.returned (.bool (fD n s))/\w=w':=by
 have h2:=cO n 40 I;have h3:=h2.1;have h4:=h2.2;simp at h3;clear h2;by_cases F:0<=s
 ·have z:fD n s=decide (s<2^n):=by unfold fD;rw[decide_eq_true F];rfl
  have D:=aN z;clear z;go_enter func183,ntmps183;go_wp2;go_ret;exact⟨by rw[D.out];rfl,rfl⟩
 ·have z:fD n s=false:=by unfold fD;rw[decide_eq_false F];rfl
  have D:=aN z;clear z;go_enter func183,ntmps183;go_wp2;go_ret;exact⟨by rw[D.out];rfl,rfl⟩
def gA(g:Int)(l:List Int):Bool:=eZ g 0 6&&l.all (fD g.toNat)
theorem gW{α:Type}(p:α->Bool)(l:List α)(k:Nat)(h:k<l.length):(l.take (k+1)).all p=((l.take k).all p&&p l[k]):=by
 rw[List.take_succ_eq_append_getElem h,List.all_append,List.all_cons,List.all_nil,Bool.and_true]
theorem kP{α:Type}(p:α->Bool)(l:List α)(k:Nat)(h:l.length<=k):(l.take k).all p=l.all p:=by rw[List.take_of_length_le h]
theorem jM{α:Type}(p:α->Bool)(l:List α)(k:Nat)(h:k<l.length)(z:p l[k]=false):l.all p=false:=by
 rw[List.all_eq_false];exact⟨l[k],List.getElem_mem h,by simp[z]⟩
theorem sX(g:Int)(l:List Int)(v:Value)(w:World)(O:aR w v l):
  Calls prog 211 #[g,v] w fun e w'=>e=.returned (.bool (gA g l))/\w=w':=by
 obtain⟨a,b,R,c,rfl,K,N,hc,hb⟩:=O.view prog 24 3 underlying24 aS
 cases D:eZ g 0 6 with
 |false=>
  have F:gA g l=false:=by unfold gA;rw[D];rfl
  have I:=aN F;clear F;go_enter func211,ntmps211;go_wp2_with (go_at_call 158;refine(jF _ _ _ _).mono ?_;rintro e w' ⟨rfl,rfl⟩);go_ret;exact⟨by rw[I.out];rfl,rfl⟩
 |true=>
  have J:=dK.1 D;obtain⟨G,rfl⟩:=Int.eq_ofNat_of_zero_le J.1;have S:G<=6:=aK;have F:gA G l=l.all (fD G):=by unfold gA;rw[D];simp
  have I:=aN F;clear F J;go_enter func211,ntmps211;go_wp2_with (go_at_call 158;refine(jF _ _ _ _).mono ?_;rintro e w' ⟨rfl,rfl⟩);go_loop [12] (fun i=>∃k:Nat,k<=l.length/\i=aM k/\(l.take k).all (fD G)=true) (fun i=>l.length-(intOf i).toNat)
  case atStart=>exact⟨0,Nat.zero_le _,rfl,by simp⟩
  case round=>
   obtain⟨k,hk,rfl,z⟩:=hrel;have H:=aN z;clear z;by_cases hlt:k<l.length
   ·cases M:fD G l[k]with
    |true=>
     go_wp2_with (go_at_call 183;refine(qH G _ _ aK).mono ?_;rintro e w' ⟨rfl,rfl⟩);go_round
     case rel=>exact⟨k+1,by omega,by go_num,by rw[gW _ _ _ hlt,H.out,M];rfl⟩
     case measure=>simp[intOf];omega
    |false=>go_wp2_with (go_at_call 183;refine(qH G _ _ aK).mono ?_;rintro e w' ⟨rfl,rfl⟩);go_ret;exact⟨aZ (by rw[I.out,jM _ _ _ hlt M]),rfl⟩
   ·go_wp2;go_ret;exact⟨aZ (by rw[I.out,<-kP (fD G) l k aK,H.out]),rfl⟩
def AT(l:List Int):Bool:=decide (l.Pairwise (· < ·))
theorem IN(l:List Int)(h:∀i,(h:i+1<l.length)->l[i]<l[i+1]):AT l=true:=by
 unfold AT;rw[decide_eq_true_eq,List.pairwise_iff_getElem];intro i j F z D;obtain⟨d,rfl⟩:∃d,j=i+1+d:=⟨j-i-1,by omega⟩
 induction d with
 |zero=>exact h i z
 |succ d ih=>exact Int.lt_trans (ih aK aK) (h (i+1+d) z)
theorem KA(l:List Int)(i:Nat)(h:i+1<l.length)(z:l[i+1]<=l[i]):AT l=false:=by
 unfold AT;rw[decide_eq_false_iff_not,List.pairwise_iff_getElem];intro D;have:=D i (i+1) aK h aK;omega
def bJ(g:Int)(l:List Int):Bool:=gA g l&&AT l
theorem dF(g:Int)(l:List Int)(v:Value)(w:World)(O:aR w v l):
  Calls prog 101 #[.agg #[g,v]] w fun e w'=>e=.returned (.bool (bJ g l))/\Below w w w':=by
 obtain⟨a,b,a6,c,rfl,S,Z,hc,hb⟩:=O.view prog 24 3 underlying24 aS;have D:=aW hc hb (bF w (.cells #[g,aI a l.length c] 31)) aO
 cases F:gA g l with
 |false=>
  have I:bJ g l=false:=by unfold bJ;rw[F];rfl
  have J:=aN I;clear I hc D;go_enter func101,ntmps101;go_wp2_with (go_at_call 211;refine(sX _ l _ _ (O.alloc _)).mono ?_;rintro e w' ⟨rfl,rfl⟩);go_ret;exact⟨by rw[J.out];rfl,bF _ _⟩
 |true=>
  have I:bJ g l=AT l:=by unfold bJ;rw[F];simp
  have J:=aN I;clear I hc;go_enter func101,ntmps101;go_wp2_with (go_at_call 211;refine(sX _ l _ _ (O.alloc _)).mono ?_;rintro e w' ⟨rfl,rfl⟩);go_loopw [3] (fun i wr=>∃k m:Nat,1<=k/\k<=max l.length 1/\i=aM k/\wr=(w.alloc (.cells #[g,aI a l.length c] 31)).drewN m/\(∀j,(h:j+1<l.length)->j+1<k->l[j]<l[j+1])) (fun i _=>l.length-(intOf i).toNat)
  case atStart=>exact⟨1,0,by omega,by omega,rfl,rfl,by intros;omega⟩
  case round=>
   obtain⟨k,m,a1,hk,rfl,rfl,z⟩:=hrel;have H:=aN z;clear z;by_cases hlt:k<l.length
   ·have R:(Instr.indexAt 24 (aI a l.length c) (aM ((k:Int)-1))).run prog=(Instr.indexAt 24 (aI a l.length c) (aM ((k-1:Nat):Int))).run prog:=by rw[show((k:Int)-1)=((k-1:Nat):Int) by omega]
    have M:k-1<l.length:=aK;have Y:=D (k-1) M;by_cases N:l[k]<=l[k-1]
    ·go_wp2;go_quiet (fail);go_wp2;go_ret;refine⟨aZ ?_,((bF _ _).drewN' _).drewN' _⟩;rw[J.out];have:=KA l (k-1) aK (by simpa[show k-1+1=k from by omega]using N);rw[this]
    ·go_wp2;go_quiet (fail);go_wp2;go_roundw
     case rel=>
      refine⟨k+1,m+nq,by omega,by omega,by go_num,by simp,fun j h hj=>?_⟩;by_cases K:j+1<k
      ·exact H.out j h K
      ·have:j=k-1:=aK;subst this;have e:k-1+1=k:=aK;simp only[e];omega
     case measure=>simp[intOf];omega
   ·go_wp2;go_ret;refine⟨aZ ?_,(bF _ _).drewN' _⟩;rw[J.out,IN l fun j h=>H.out j h aK]
theorem cS(g:Int)(l:List Int)(v:Value)(w:World)(hv:aR w v l):
  Calls prog 113 #[.agg #[g,v]] w fun e w'=>e=.returned (.bool (bJ g l))/\Below w w w':=by
 obtain⟨a,b,b3,c,rfl,a7,a9,hc,hb⟩:=hv.view prog 24 3 underlying24 aS;have M:=aW hc hb (bF w (.cells #[g,aI a l.length c] 31)) aO
 cases J:eZ g 0 6 with
 |false=>
  have O:bJ g l=false:=by unfold bJ gA;rw[J];rfl
  have K:=aN O;clear O hc M;go_enter func113,ntmps113;go_wp2_with (go_at_call 174;refine(cQ _ _ _ _).mono ?_;rintro e w' ⟨rfl,rfl⟩);go_ret;exact⟨by rw[K.out];rfl,bF _ _⟩
 |true=>
  have hg:=dK.1 J;obtain⟨G,rfl⟩:=Int.eq_ofNat_of_zero_le hg.1;have hG:G<=6:=aK;have O:bJ G l=(l.all (fD G)&&AT l):=by unfold bJ gA;rw[J];simp
  have K:=aN O;clear O hc hg;go_enter func113,ntmps113;go_wp2_with (go_at_call 174;refine(cQ _ _ _ _).mono ?_;rintro e w' ⟨rfl,rfl⟩);go_loopw [3] (fun i wr=>∃k m:Nat,k<=l.length/\i=aM k/\wr=(w.alloc (.cells #[G,aI a l.length c] 31)).drewN m/\(l.take k).all (fD G)=true/\(∀j,(h:j+1<l.length)->j+1<k->l[j]<l[j+1])) (fun i _=>l.length-(intOf i).toNat)
  case atStart=>exact⟨0,0,by omega,rfl,rfl,by simp,by intros;omega⟩
  case round=>
   obtain⟨k,m,hk,rfl,rfl,I,F⟩:=hrel;have H:=aN F;have R:=aN I;clear F I;by_cases hlt:k<l.length
   ·cases N:fD G l[k]with
    |false=>
     have z:eZ l[k] 0 (2^G-1)=false:=by rw[DC];exact N
     have D:=aN z;clear z;go_wp2;go_quiet ((first|(go_at_call 187;first|exact iX (fE G _ aK)|exact kF (fE G _ aK))|(go_at_call 174;first|exact nW (cQ _ _ _ _) D.out|exact rT (cQ _ _ _ _) D.out)));go_wp2;go_ret;refine⟨aZ ?_,((bF _ _).drewN' _).drewN' _⟩;rw[K.out,jM _ _ _ hlt N];rfl
    |true=>
     have z:eZ l[k] 0 (2^G-1)=true:=by rw[DC];exact N
     have D:=aN z;clear z;by_cases b0:0<k
     ·have a6:(Instr.indexAt 24 (aI a l.length c) (aM ((k:Int)-1))).run prog=(Instr.indexAt 24 (aI a l.length c) (aM ((k-1:Nat):Int))).run prog:=by rw[show((k:Int)-1)=((k-1:Nat):Int) by omega]
      have Y:k-1<l.length:=aK;have a8:=M (k-1) Y;by_cases Z:l[k]<=l[k-1]
      ·go_wp2;go_quiet ((first|(go_at_call 187;first|exact iX (fE G _ aK)|exact kF (fE G _ aK))|(go_at_call 174;first|exact nW (cQ _ _ _ _) D.out|exact rT (cQ _ _ _ _) D.out)));go_wp2;go_ret;refine⟨aZ ?_,((bF _ _).drewN' _).drewN' _⟩;have:=KA l (k-1) aK (by simpa[show k-1+1=k from by omega]using Z);rw[K.out,this];simp
      ·go_wp2;go_quiet ((first|(go_at_call 187;first|exact iX (fE G _ aK)|exact kF (fE G _ aK))|(go_at_call 174;first|exact nW (cQ _ _ _ _) D.out|exact rT (cQ _ _ _ _) D.out)));go_wp2;go_roundw
       case rel=>
        refine⟨k+1,m+nq,by omega,by go_num,by simp,by rw[gW _ _ _ hlt,R.out,N];rfl,fun j h hj=>?_⟩;by_cases S:j+1<k
        ·exact H.out j h S
        ·have:j=k-1:=aK;subst this;have e:k-1+1=k:=aK;simp only[e];omega
       case measure=>simp[intOf];omega
     ·have hd:decide (0<(k:Int))=false:=decide_eq_false aK;go_wp2;go_quiet ((first|(go_at_call 187;first|exact iX (fE G _ aK)|exact kF (fE G _ aK))|(go_at_call 174;first|exact nW (cQ _ _ _ _) D.out|exact rT (cQ _ _ _ _) D.out)));go_wp2;go_roundw
      case rel=>exact⟨k+1,m+nq,by omega,by go_num,by simp,by rw[gW _ _ _ hlt,R.out,N];rfl,by intros;omega⟩
      case measure=>simp[intOf];omega
   ·go_wp2;go_ret;refine⟨aZ ?_,(bF _ _).drewN' _⟩;rw[K.out,IN l fun j h=>H.out j h aK,<-kP (fD G) l k aK,R.out];rfl
def bK(a b:Int):Int:=((a.toNat &&& b.toNat:Nat):Int)
def fT(a b:Int):Int:=((a.toNat ||| b.toNat:Nat):Int)
def cM(a b:Int):Int:=((cV a.toNat b.toNat:Nat):Int)
def dL(a:Int):Int:=(bR a.toNat:Int)
theorem eG{a b:Int}(F:0<=a)(z:a<4611686018427387904)(hb:0<=b)(D:b<4611686018427387904):bits .and .i64 a b=bK a b:=by
 have:=IQ a.toNat b.toNat aK aK;rw[show((a.toNat:Nat):Int)=a by omega,show((b.toNat:Nat):Int)=b by omega]at this;exact this
theorem xQ{a b:Int}(F:0<=a)(z:a<4611686018427387904)(hb:0<=b)(D:b<4611686018427387904):bits .or .i64 a b=fT a b:=by
 have:=IR a.toNat b.toNat aK aK;rw[show((a.toNat:Nat):Int)=a by omega,show((b.toNat:Nat):Int)=b by omega]at this;exact this
theorem lV{a b:Int}(F:0<=a)(z:a<64)(hb:0<=b)(D:b<64):bits .andNot .i64 a b=cM a b:=by
 have:=vS a.toNat b.toNat aK aK;rw[show((a.toNat:Nat):Int)=a by omega,show((b.toNat:Nat):Int)=b by omega]at this;exact this
theorem lU(a b n:Int)(z:0<=a)(h:a<n):0<=bK a b/\bK a b<n:=by
 have:=@Nat.and_le_left a.toNat b.toNat;unfold bK;omega
theorem JN(a b:Int)(g:Nat)(D:0<=a)(hb:0<=b)(h:a<2^g)(z:b<2^g):0<=fT a b/\fT a b<2^g:=by
 have h1:a.toNat<2^g:=by
  have:((a.toNat:Nat):Int)<((2^g:Nat):Int):=by push_cast;omega
  exact_mod_cast this
 have h2:b.toNat<2^g:=by
  have:((b.toNat:Nat):Int)<((2^g:Nat):Int):=by push_cast;omega
  exact_mod_cast this
 have h3:=Nat.or_lt_two_pow h1 h2;refine⟨by unfold fT;omega,?_⟩;unfold fT
 exact_mod_cast h3
theorem nT(a b n:Int)(z:0<=a)(h:a<n):0<=cM a b/\cM a b<n:=by unfold cM cV;omega
theorem ER(a:Int)(h:a<256):0<=dL a/\dL a<=8:=by
 have:=rR a.toNat aK;unfold dL;omega
theorem vL(s:Int)(w:World)(z:0<=s)(h1:s<256):
  Calls prog 165 #[s] w fun e w'=>e=.returned (dL s)/\w=w':=by
 obtain⟨n,rfl⟩:=Int.eq_ofNat_of_zero_le z;exact gI n w aK
theorem tQ(s:Int)(w:World)(z:0<=s)(h1:s<256):
  Calls prog 154 #[s] w fun e w'=>e=.returned (dL s)/\w=w':=by
 obtain⟨n,rfl⟩:=Int.eq_ofNat_of_zero_le z;exact eP n w aK
theorem BA(g:Int)(w:World)(z:0<=g)(h1:g<=40):
  Calls prog 187 #[g] w fun e w'=>e=.returned (aM (2^g.toNat-1))/\w=w':=by
 obtain⟨n,rfl⟩:=Int.eq_ofNat_of_zero_le z;exact fE n w aK
theorem abI(g s:Int)(w:World)(z:0<=g)(h1:g<=40):
  Calls prog 183 #[g,s] w fun e w'=>e=.returned (.bool (fD g.toNat s))/\w=w':=by
 obtain⟨n,rfl⟩:=Int.eq_ofNat_of_zero_le z;exact qH n s w aK
theorem dT{g:Int}{l:List Int}(h:bJ g l=true):0<=g/\g<=6/\(∀s∈l,0<=s/\s<2^g.toNat)/\l.Pairwise (· < ·):=by
 unfold bJ gA at h;simp only[Bool.and_eq_true,List.all_eq_true]at h;obtain⟨⟨h1,h2⟩,h3⟩:=h;have:=dK.1 h1;exact⟨this.1,this.2,fun s z=>mT.1 (h2 s z),by simpa[AT]using h3⟩
theorem mC{g:Int}(z:0<=g)(D:g<=6):(2:Int)^g.toNat<=64:=by
 have:=(cO g.toNat 6 aK).1;simpa using this
theorem pY{g:Int}{l:List Int}(h:bJ g l=true):0<=g/\g<=6/\(∀k,(hk:k<l.length)->0<=l[k]/\l[k]<64):=by
 obtain⟨z,D,F,_⟩:=dT h;refine⟨z,D,fun k hk=>?_⟩;have:=F _ (List.getElem_mem hk);have:=mC z D;omega
theorem vX{α β:Type}(f:β->α->β)(z:β)(l:List α)(k:Nat)(h:k<l.length):(l.take (k+1)).foldl f z=f ((l.take k).foldl f z) l[k]:=by
 rw[List.take_succ_eq_append_getElem h,List.foldl_append];rfl
theorem GO{α β:Type}(f:β->α->β)(z:β)(l:List α)(k:Nat)(h:l.length<=k):(l.take k).foldl f z=l.foldl f z:=by rw[List.take_of_length_le h]
def ajD(m s:Int):Int:=max m (dL s)
def DH(g:Int)(l:List Int):Int:=if bJ g l then l.foldl ajD 0 else -1
def kO(l:List Int)(D z:Int):Bool:=l.all fun x=>eZ x D z
theorem CB(l:List Int)(v:Value)(F D:Int)(w:World)(M:aR w v l):
  Calls prog 159 #[v,F,D] w fun e w'=>e=.returned (.bool (kO l F D))/\w=w':=by
 obtain⟨a,b,N,c,rfl,I,K,hc,hb⟩:=M.view prog 24 3 underlying24 aS;go_enter func159,ntmps159;go_wp2;go_loop [11] (fun i=>∃k:Nat,k<=l.length/\i=aM k/\(l.take k).all (fun x=>eZ x F D)=true) (fun i=>l.length-(intOf i).toNat)
 case atStart=>exact⟨0,Nat.zero_le _,rfl,by simp⟩
 case round=>
  obtain⟨k,hk,rfl,z⟩:=hrel;have H:=aN z;clear z;by_cases hlt:k<l.length
  ·cases J:eZ l[k] F D with
   |true=>
    go_wp2_with (go_at_call 158;refine(jF _ _ _ _).mono ?_;rintro e w' ⟨rfl,rfl⟩);go_round
    case rel=>exact⟨k+1,by omega,by go_num,by rw[gW _ _ _ hlt,H.out,J];rfl⟩
    case measure=>simp[intOf];omega
   |false=>go_wp2_with (go_at_call 158;refine(jF _ _ _ _).mono ?_;rintro e w' ⟨rfl,rfl⟩);go_ret;exact⟨aZ (by unfold kO;rw[jM _ _ _ hlt J]),rfl⟩
  ·go_wp2;go_ret;exact⟨aZ (by unfold kO;rw[<-kP (fun x=>eZ x F D) l k aK,H.out]),rfl⟩
def bM(n:Int)(l:List Int):Bool:=eZ n 0 5&&decide ((l.length:Int)=2^n.toNat)&&kO l (-1000) 1000
theorem kJ{g:Int}(z:0<=g)(D:g<=5):(2:Int)^g.toNat<=32/\0<(2:Int)^g.toNat:=by
 have:=cO g.toNat 5 aK;simpa using this
theorem lB{n:Int}{l:List Int}(h:bM n l=true):0<=n/\n<=5/\(l.length:Int)=2^n.toNat/\(∀k,(hk:k<l.length)->-1000<=l[k]/\l[k]<=1000):=by
 unfold bM kO at h;simp only[Bool.and_eq_true,List.all_eq_true,decide_eq_true_eq]at h;obtain⟨⟨h1,h2⟩,h3⟩:=h;have:=dK.1 h1;exact⟨this.1,this.2,h2,fun k hk=>dK.1 (h3 _ (List.getElem_mem hk))⟩
theorem dV(n:Int)(l:List Int)(v:Value)(w:World)(O:aR w v l):
  Calls prog 34 #[.agg #[n,v]] w fun e w'=>e=.returned (.bool (bM n l))/\Below w w w':=by
 obtain⟨a,b,Y,c,rfl,N,R,hc,hb⟩:=O.view prog 24 3 underlying24 aS
 cases z:eZ n 0 5 with
 |false=>
  have D:bM n l=false:=by unfold bM;rw[z];rfl
  have F:=aN D;clear D hc;go_enter func34,ntmps34;go_wp2_with (go_at_call 158;refine(jF _ _ _ _).mono ?_;rintro e w' ⟨rfl,rfl⟩);go_ret;exact⟨by rw[F.out];rfl,bF _ _⟩
 |true=>
  have I:=dK.1 z;have K:0<=n:=I.1;have M:n<=5:=I.2;have hp:=(kJ K M).1;have S:=(kJ K M).2;by_cases hl:(l.length:Int)=2^n.toNat
  ·have D:bM n l=kO l (-1000) 1000:=by unfold bM;rw[z,decide_eq_true hl];rfl
   have J:((l.length:Int) != 2^n.toNat)=false:=by simp[hl]
   have F:=aN D;have Z:=aN hl;clear D hc I hl;go_enter func34,ntmps34;go_wp2_with (first
    |(go_at_call 158;refine(jF _ _ _ _).mono ?_;rintro e w' ⟨rfl,rfl⟩)
    |(go_at_call 159;refine(CB l _ _ _ _ (O.alloc _)).mono ?_;rintro e w' ⟨rfl,rfl⟩))
   go_ret;exact⟨by rw[F.out];rfl,bF _ _⟩
  ·have D:bM n l=false:=by unfold bM;rw[z,decide_eq_false hl];rfl
   have J:((l.length:Int) != 2^n.toNat)=true:=by simp[hl]
   have F:=aN D;clear D hc I hl;go_enter func34,ntmps34;go_wp2_with (go_at_call 158;refine(jF _ _ _ _).mono ?_;rintro e w' ⟨rfl,rfl⟩);go_ret;exact⟨by rw[F.out];rfl,bF _ _⟩
theorem dJ(n:Int)(l:List Int)(v:Value)(w:World)(hv:aR w v l):
  Calls prog 51 #[.agg #[n,v]] w fun e w'=>e=.returned (.bool (bM n l))/\Below w w w':=by
 obtain⟨a,b,a7,c,rfl,S,Z,hc,hb⟩:=hv.view prog 24 3 underlying24 aS;have K:=aW hc hb (bF w (.cells #[n,aI a l.length c] 26)) aO;clear hc
 cases z:eZ n 0 5 with
 |false=>
  have I:bM n l=false:=by unfold bM;rw[z];rfl
  have J:=aN I;have D:=aN z;clear I K z;go_enter func51,ntmps51;go_wp2;go_quiet ((go_at_call 174;first|exact nW (cQ _ _ _ _) D.out|exact rT (cQ _ _ _ _) D.out));go_wp2;go_ret;exact⟨by rw[J.out];rfl,(bF _ _).drewN' _⟩
 |true=>
  have M:=dK.1 z;have O:0<=n:=M.1;have R:n<=5:=M.2;have hp:=(kJ O R).1;have a1:=(kJ O R).2;have D:=aN z;clear z;by_cases hl:(l.length:Int)=2^n.toNat
  ·have I:bM n l=kO l (-1000) 1000:=by unfold bM;rw[D.out,decide_eq_true hl];rfl
   have N:((l.length:Int) != 2^n.toNat)=false:=by simp[hl]
   have J:=aN I;have HL:=aN hl;clear I M hl;go_enter func51,ntmps51;go_wp2;go_quiet ((go_at_call 174;first|exact nW (cQ _ _ _ _) D.out|exact rT (cQ _ _ _ _) D.out));go_wp2;go_loop [3] (fun i=>∃k:Nat,k<=l.length/\i=aM k/\(l.take k).all (fun x=>eZ x (-1000) 1000)=true) (fun i=>l.length-(intOf i).toNat)
   case atStart=>exact⟨0,Nat.zero_le _,rfl,by simp⟩
   case round=>
    obtain⟨k,hk,rfl,F⟩:=hrel;have H:=aN F;clear F;by_cases hlt:k<l.length
    ·cases Y:eZ l[k] (-1000) 1000 with
     |true=>
      go_wp2_with (go_at_call 174;refine(cQ _ _ _ _).mono ?_;rintro e w' ⟨rfl,rfl⟩);go_round
      case rel=>exact⟨k+1,by omega,by go_num,by rw[gW _ _ _ hlt,H.out,Y];rfl⟩
      case measure=>simp[intOf];omega
     |false=>go_wp2_with (go_at_call 174;refine(cQ _ _ _ _).mono ?_;rintro e w' ⟨rfl,rfl⟩);go_ret;exact⟨aZ (by rw[J.out];unfold kO;rw[jM _ _ _ hlt Y]),(bF _ _).drewN' _⟩
    ·go_wp2;go_ret;exact⟨aZ (by rw[J.out];unfold kO;rw[<-kP (fun x=>eZ x (-1000) 1000) l k aK,H.out]),(bF _ _).drewN' _⟩
  ·have I:bM n l=false:=by unfold bM;rw[D.out,decide_eq_false hl];rfl
   have N:((l.length:Int) != 2^n.toNat)=true:=by simp[hl]
   have J:=aN I;clear I M hl K;go_enter func51,ntmps51;go_wp2;go_quiet ((go_at_call 174;first|exact nW (cQ _ _ _ _) D.out|exact rT (cQ _ _ _ _) D.out));go_wp2;go_ret;exact⟨by rw[J.out];rfl,(bF _ _).drewN' _⟩
def gE(n:Int)(l:List Int):Bool:=bM n l&&decide (l.getD 0 0=0)
theorem yY(n:Int)(l:List Int)(v:Value)(w:World)(Y:aR w v l):
  Calls prog 46 #[.agg #[n,v]] w fun e w'=>e=.returned (.bool (gE n l))/\Below w w w':=by
 obtain⟨a,b,I,c,rfl,S,O,hc,hb⟩:=Y.view prog 24 3 underlying24 aS;go_enter func46,ntmps46;go_wp2_with fail;refine(dV n l _ _ (Y.alloc _)).mono ?_;rintro e w1 ⟨rfl,D⟩;have d1:=keep D (bB w #[n,aI a l.length c] 26 1 _ rfl);have J:Below w w w1:=(bF _ _).after D (by first|omega|(simp;done)|(simp;omega));have M:=aW hc hb J aO;clear hc hb D
 cases N:bM n l with
 |false=>
  have F:gE n l=false:=by unfold gE;rw[N];rfl
  have K:=aN F;clear F;go_wp2;go_ret;exact⟨by rw[K.out];rfl,J⟩
 |true=>
  obtain⟨Z,h5,hl,_⟩:=lB N;have hp:=(kJ Z h5).2;have z:0<l.length:=aK;have F:gE n l=(l[0]==0):=by
   unfold gE;rw[N,List.getD_eq_getElem?_getD,List.getElem?_eq_getElem z];simp only[Option.getD_some,Bool.true_and]
   rfl
  have K:=aN F;have R:∀w',(Instr.indexAt 24 (aI a l.length c) (aM 0)).run prog w'=.ok (.pointer (some ⟨b,I,none⟩)) w':=fun w'=>by simpa using O w' 0 z
  have a6:w1.cell? ⟨b,I,none⟩=some (aM l[0]):=M 0 z;clear F hl;go_wp2;go_ret;exact⟨by rw[K.out];rfl,J⟩
theorem yZ(n:Int)(l:List Int)(v:Value)(w:World)(Y:aR w v l):
  Calls prog 62 #[.agg #[n,v]] w fun e w'=>e=.returned (.bool (gE n l))/\Below w w w':=by
 obtain⟨a,b,I,c,rfl,S,O,hc,hb⟩:=Y.view prog 24 3 underlying24 aS;go_enter func62,ntmps62;go_wp2_with fail;refine(dJ n l _ _ (Y.alloc _)).mono ?_;rintro e w1 ⟨rfl,D⟩;have d1:=keep D (bB w #[n,aI a l.length c] 26 1 _ rfl);have J:Below w w w1:=(bF _ _).after D (by first|omega|(simp;done)|(simp;omega));have M:=aW hc hb J aO;clear hc hb D
 cases N:bM n l with
 |false=>
  have F:gE n l=false:=by unfold gE;rw[N];rfl
  have K:=aN F;clear F;go_wp2;go_ret;exact⟨by rw[K.out];rfl,J⟩
 |true=>
  obtain⟨Z,h5,hl,_⟩:=lB N;have hp:=(kJ Z h5).2;have z:0<l.length:=aK;have F:gE n l=(l[0]==0):=by
   unfold gE;rw[N,List.getD_eq_getElem?_getD,List.getElem?_eq_getElem z];simp only[Option.getD_some,Bool.true_and]
   rfl
  have K:=aN F;have R:∀w',(Instr.indexAt 24 (aI a l.length c) (aM 0)).run prog w'=.ok (.pointer (some ⟨b,I,none⟩)) w':=fun w'=>by simpa using O w' 0 z
  have a6:w1.cell? ⟨b,I,none⟩=some (aM l[0]):=M 0 z;clear F hl;go_wp2;go_ret;exact⟨by rw[K.out];rfl,J⟩
def dO(s:Int)(e:Nat):Int:=s/2^e%2
theorem jO(s:Int)(k:Nat)(z:0<=s)(h1:s<4611686018427387904):bits BinOp.and IntKind.i64 (s/2^k) 1=dO s k:=by
 have F:0<=s/2^k:=Int.ediv_nonneg z (by have:=(cO k k aO).2;omega);have D:s/2^k<=s:=Int.ediv_le_self _ z;have:=QU (s/2^k).toNat aK;rw[show(((s/2^k).toNat:Nat):Int)=s/2^k by omega]at this;rw[this];unfold dO;omega
def pU(x:List Int)(s:Int):Nat->Int
 |0=>0
 |k+1=>if dO s k=1 then pU x s k+x.getD k 0 else pU x s k
def wt(x:List Int)(s:Int):Int:=pU x s x.length
theorem NL(x:List Int)(s:Int)(h:∀k,(hk:k<x.length)->-1000000<=x[k]/\x[k]<=1000000)(k:Nat)(hk:k<=x.length):-1000000*(k:Int)<=pU x s k/\pU x s k<=1000000*(k:Int):=by
 induction k with
 |zero=>simp[pU]
 |succ k ih=>
  have h1:=ih aK;have h2:=h k aK;rw[pU,List.getD_eq_getElem?_getD,List.getElem?_eq_getElem (show k<x.length by omega),Option.getD_some]
  split<;>omega
theorem EB(x:List Int)(v:Value)(s:Int)(w:World)(Y:aR w v x)(R:0<=s)(h1:s<1073741824)(N:∀k,(hk:k<x.length)->-1000000<=x[k]/\x[k]<=1000000)(hl:x.length<=60):
  Calls prog 315 #[v,s] w fun e w'=>e=.returned (wt x s)/\w=w':=by
 obtain⟨a,b,a1,c,rfl,M,S,hc,hb⟩:=Y.view prog 24 3 underlying24 aS;go_enter func315,ntmps315;go_wp2;go_loop [5,10] (fun m i=>∃k:Nat,k<=x.length/\i=aM k/\m=aM (pU x s k)) (fun _ i=>x.length-(intOf i).toNat)
 case atStart=>exact⟨0,Nat.zero_le _,rfl,rfl⟩
 case round=>
  obtain⟨k,hk,rfl,rfl⟩:=hrel;have F:=NL x s N k hk;obtain⟨m,hm⟩:=aQ (pU x s k);rw[<-hm]at F ⊢;have I:=aN hm;clear hm;by_cases hlt:k<x.length
  ·have Z:=N k hlt;have K:=jO s k R aK;have D:pU x s (k+1)=if dO s k=1 then m+x[k] else m:=by rw[pU,<-I.out,List.getD_eq_getElem?_getD,List.getElem?_eq_getElem hlt,Option.getD_some]
   have J:=aN D;clear D;by_cases z:dO s k=1
   ·have ht:(dO s k==1)=true:=by simp[z]
    have O:=aN z;clear z;go_wp2;go_round
    case rel=>exact⟨k+1,by omega,by go_num,by rw[J.out,if_pos O.out]⟩
    case measure=>simp[intOf];omega
   ·have ht:(dO s k==1)=false:=by simp[z]
    go_wp2;go_round
    case rel=>exact⟨k+1,by omega,by go_num,by rw[J.out,if_neg z]⟩
    case measure=>simp[intOf];omega
  ·go_wp2;go_ret;exact⟨fI (by rw[I.out,show k=x.length from by omega];rfl),rfl⟩
theorem tB(x:List Int)(v:Value)(s:Int)(w:World)(Y:aR w v x)(R:0<=s)(h1:s<1073741824)(N:∀k,(hk:k<x.length)->-1000000<=x[k]/\x[k]<=1000000)(hl:x.length<=60):
  Calls prog 305 #[v,s] w fun e w'=>e=.returned (wt x s)/\w=w':=by
 obtain⟨a,b,a1,c,rfl,M,S,hc,hb⟩:=Y.view prog 24 3 underlying24 aS;go_enter func305,ntmps305;go_wp2;go_loop [5,6] (fun m i=>∃k:Nat,k<=x.length/\i=aM k/\m=aM (pU x s k)) (fun _ i=>x.length-(intOf i).toNat)
 case atStart=>exact⟨0,Nat.zero_le _,rfl,rfl⟩
 case round=>
  obtain⟨k,hk,rfl,rfl⟩:=hrel;have F:=NL x s N k hk;obtain⟨m,hm⟩:=aQ (pU x s k);rw[<-hm]at F ⊢;have I:=aN hm;clear hm;by_cases hlt:k<x.length
  ·have Z:=N k hlt;have K:=jO s k R aK;have D:pU x s (k+1)=if dO s k=1 then m+x[k] else m:=by rw[pU,<-I.out,List.getD_eq_getElem?_getD,List.getElem?_eq_getElem hlt,Option.getD_some]
   have J:=aN D;clear D;by_cases z:dO s k=1
   ·have ht:(dO s k==1)=true:=by simp[z]
    have O:=aN z;clear z;go_wp2;go_round
    case rel=>exact⟨k+1,by omega,by go_num,by rw[J.out,if_pos O.out]⟩
    case measure=>simp[intOf];omega
   ·have ht:(dO s k==1)=false:=by simp[z]
    go_wp2;go_round
    case rel=>exact⟨k+1,by omega,by go_num,by rw[J.out,if_neg z]⟩
    case measure=>simp[intOf];omega
  ·go_wp2;go_ret;exact⟨fI (by rw[I.out,show k=x.length from by omega];rfl),rfl⟩
theorem xT(x:List Int)(v:Value)(w:World)(N:aR w v x):
  Calls prog 274 #[v] w fun e w'=>e=.returned (.bool (kO x (-5000) 5000&&decide (x.length<=5)))/\w=w':=by
 obtain⟨a,b,O,c,rfl,F,M,hc,hb⟩:=N.view prog 24 3 underlying24 aS;go_enter func274,ntmps274;go_wp2;go_loop [3] (fun i=>∃k:Nat,k<=x.length/\i=aM k/\(x.take k).all (fun x=>eZ x (-5000) 5000)=true) (fun i=>x.length-(intOf i).toNat)
 case atStart=>exact⟨0,Nat.zero_le _,rfl,by simp⟩
 case round=>
  obtain⟨k,hk,rfl,z⟩:=hrel;have H:=aN z;clear z;by_cases hlt:k<x.length
  ·cases I:eZ x[k] (-5000) 5000 with
   |true=>
    go_wp2_with (go_at_call 174;refine(cQ _ _ _ _).mono ?_;rintro e w' ⟨rfl,rfl⟩);go_round
    case rel=>exact⟨k+1,by omega,by go_num,by rw[gW _ _ _ hlt,H.out,I];rfl⟩
    case measure=>simp[intOf];omega
   |false=>go_wp2_with (go_at_call 174;refine(cQ _ _ _ _).mono ?_;rintro e w' ⟨rfl,rfl⟩);go_ret;exact⟨aZ (by unfold kO;rw[jM _ _ _ hlt I];rfl),rfl⟩
  ·have J:kO x (-5000) 5000=true:=by unfold kO;rw[<-kP (fun x=>eZ x (-5000) 5000) x k aK,H.out]
   have D:=aN J;clear J;by_cases R:x.length<=5
   ·go_wp2;go_ret;exact⟨aZ (by rw[D.out];simp;omega),rfl⟩
   ·have K:decide ((x.length:Int)<=5)=false:=decide_eq_false aK;go_wp2;go_ret;exact⟨aZ (by first|rfl|(rw[D.out];simp;omega)),rfl⟩
def gN(n:Int)(x:List Int):Bool:=decide ((x.length:Int)=n)&&kO x (-5000) 5000
theorem JO(n:Int)(l:List Int)(v:Value)(x:List Int)(u:Value)(w:World)(I:aR w v l)(F:aR w u x):
  Calls prog 271 #[.agg #[n,v],u] w fun e w'=>e=.returned (.bool (gN n x))/\Below w w w':=by
 obtain⟨K,N,rfl⟩:=I.shape;obtain⟨J,M,rfl⟩:=F.shape;by_cases hl:(x.length:Int)=n
 ·have z:gN n x=kO x (-5000) 5000:=by unfold gN;rw[decide_eq_true hl];rfl
  have ht:((x.length:Int)==n)=true:=by simp[hl]
  have D:=aN z;clear z hl;go_enter func271,ntmps271;go_wp2_with (go_at_call 159;refine(CB x _ _ _ _ (F.alloc _)).mono ?_;rintro e w' ⟨rfl,rfl⟩);go_ret;exact⟨by rw[D.out];rfl,bF _ _⟩
 ·have z:gN n x=false:=by unfold gN;rw[decide_eq_false hl];rfl
  have ht:((x.length:Int)==n)=false:=by simp[hl]
  have D:=aN z;clear z hl;go_enter func271,ntmps271;go_wp2;go_ret;exact⟨by rw[D.out];rfl,bF _ _⟩
theorem tY(n:Int)(v:Value)(l:List Int)(w:World)(z:aR w v l)(I:0<=n)(h1:n<=40):
  Calls prog 182 #[.agg #[n,v]] w fun e w'=>e=.returned (aM (2^n.toNat-1))/\Below w w w':=by
 obtain⟨D,F,rfl⟩:=z.shape;have h2:=cO n.toNat 40 aK;have h3:=h2.1;have h4:=h2.2;simp at h3;clear h2;go_enter func182,ntmps182;go_wp2;go_ret;exact⟨rfl,bF _ _⟩
def dZ(l x:List Int)(s:Int):Int:=l.getD s.toNat 0-wt x s
theorem OV(n:Int)(l:List Int)(v:Value)(x:List Int)(u:Value)(s:Int)(w:World)(Y:aR w v l)(F:aR w u x)(N:0<=s)(hs:s<l.length)(S:l.length<=64)
  (D:∀k,(hk:k<l.length)->-1000<=l[k]/\l[k]<=1000) (I:∀k,(hk:k<x.length)->-5000<=x[k]/\x[k]<=5000) (a6:x.length<=6):
  Calls prog 301 #[.agg #[n,v],u,s] w fun e w'=>e=.returned (dZ l x s)/\Below w w w':=by
 obtain⟨a,b,a7,c,rfl,K,R,hc,hb⟩:=Y.view prog 24 3 underlying24 aS;obtain⟨au,cu,rfl⟩:=F.shape;obtain⟨k,rfl⟩:=Int.eq_ofNat_of_zero_le N;have hk:k<l.length:=aK;have O:=aW hc hb (bF w (.cells #[n,aI a l.length c] 26)) aO k hk;have a1:=D k hk;have hw:=NL x k (fun j z=>by have:=I j z;omega) x.length aO;have Z:-6000000<=wt x k/\wt x k<=6000000:=by unfold wt;omega
 have J:l.getD (k:Int).toNat 0=l[k]:=by simp[hk]
 have M:=aN J;clear hc D hw J;go_enter func301,ntmps301;go_wp2;go_quiet ((go_at_call 315;first|exact iX (EB x _ _ _ ((F.alloc _).drewN _) aK aK (fun j z=>by have:=I j z;omega) aK)|exact kF (EB x _ _ _ ((F.alloc _).drewN _) aK aK (fun j z=>by have:=I j z;omega) aK)));go_wp2;go_ret;exact⟨fI (by unfold dZ;rw[M.out]),(bF _ _).drewN' _⟩
theorem JY{n:Int}{x:List Int}(h:gN n x=true):(x.length:Int)=n/\∀k,(hk:k<x.length)->-5000<=x[k]/\x[k]<=5000:=by
 unfold gN kO at h;simp only[Bool.and_eq_true,List.all_eq_true,decide_eq_true_eq]at h;exact⟨h.1,fun k hk=>dK.1 (h.2 _ (List.getElem_mem hk))⟩
theorem MS{n:Int}{l:List Int}(h:gE n l=true):bM n l=true:=by
 unfold gE at h;simp only[Bool.and_eq_true]at h;exact h.1
def mP(l x:List Int):Nat->Bool
 |0=>true
 |k+1=>mP l x k&&decide (0<=dZ l x k)
def lJ(n:Int)(l x:List Int):Bool:=gE n l&&gN n x&&mP l x l.length
theorem FF(l x:List Int)(k:Nat)(h:dZ l x k<0):∀m,k<m->mP l x m=false:=by
 intro m
 induction m with
 |zero=>intro h;omega
 |succ m ih=>
  intro hm;rw[mP];by_cases z:k<m
  ·rw[ih z];rfl
  ·have:m=k:=aK;subst this;rw[decide_eq_false aK];simp
theorem XW(l x:List Int):∀m,mP l x m=true->∀k:Nat,k<m->0<=dZ l x k:=by
 intro m
 induction m with
 |zero=>intro _ k hk;omega
 |succ m ih=>
  intro h k hk;rw[mP]at h;obtain⟨h1,h2⟩:=Bool.and_eq_true_iff.1 h;by_cases z:k<m
  ·exact ih h1 k z
  ·have:k=m:=aK;subst this;exact of_decide_eq_true h2
theorem C0(w:World)(n:Int)(v:Value)(l:List Int)(hv:aR w v l)(u:Value)(x:List Int)(hu:aR w u x):
  Calls prog 270 #[.agg #[n,v],u] w fun e w'=>e=.returned (.bool (lJ n l x))/\Below w w w':=by
 obtain⟨av,cv,rfl⟩:=hv.shape;obtain⟨au,cu,rfl⟩:=hu.shape;go_enter func270,ntmps270;go_wp2_with fail;refine(yY n l _ _ (hv.alloc _)).mono ?_;rintro e w1 ⟨rfl,K⟩;have X1:=(Box2.new w n (aI av l.length cv) 26).after K;clear K
 cases hg:gE n l with
 |false=>
  have I:lJ n l x=false:=by unfold lJ;rw[hg];rfl
  have J:=aN I;obtain⟨D,d1,z,F⟩:=X1;clear I;go_wp2;go_ret;exact⟨by rw[J.out];rfl,z⟩
 |true=>
  obtain⟨h0,h5,hl,S⟩:=lB (MS hg);have hp:=kJ h0 h5;have R:l.length<=64:=aK;have a9:=aN S;clear hl S hp;obtain⟨D,d1,z,F⟩:=X1;go_wp2_with fail;refine(JO n l _ x _ _ (hv.below z aO) (hu.below z aO)).mono ?_;rintro e w2 ⟨rfl,M⟩;have X2:=(Box2.mk D d1 z F).after M;clear M D d1 z F
  cases hlo:gN n x with
  |false=>
   have I:lJ n l x=false:=by unfold lJ;rw[hg,hlo];rfl
   have J:=aN I;obtain⟨D,d1,z,F⟩:=X2;clear I;go_wp2;go_ret;exact⟨by rw[J.out];rfl,z⟩
  |true=>
   obtain⟨b4,a1⟩:=JY hlo;have a6:x.length<=6:=aK;have I:lJ n l x=mP l x l.length:=by unfold lJ;rw[hg,hlo];rfl
   have J:=aN I;have b0:=aN a1;clear I a1 b4;obtain⟨D,d1,z,F⟩:=X2;go_wp2_with fail;go_loopw [18] (fun i wr=>∃k:Nat,k<=l.length/\i=aM k/\mP l x k=true/\Box2 w wr n (aI av l.length cv)) (fun i _=>l.length-(intOf i).toNat)
   case atStart=>exact⟨0,Nat.zero_le _,rfl,rfl,⟨D,d1,z,F⟩⟩
   case round=>
    obtain⟨k,hk,rfl,Z,X⟩:=hrel;have HO:=aN Z;clear Z D d1 z F;obtain⟨D,d1,z,F⟩:=X;by_cases hlt:k<l.length
    ·have Y:(k:Int)<(l.length:Int):=aK;go_wp2_with fail;refine(OV n l _ x _ k _ (hv.below z aO) (hu.below z aO) aK aK R a9.out b0.out a6).mono ?_;rintro e w3 ⟨rfl,N⟩;have X3:=(Box2.mk D d1 z F).after N;clear N D d1 z F;by_cases b1:dZ l x k<0
     ·go_wp2;go_ret;refine⟨aZ ?_,X3.B⟩;rw[J.out,FF l x k b1 _ hlt]
     ·go_wp2
      go_roundw
      case rel=>exact⟨k+1,by omega,by go_num,by rw[mP,HO.out,decide_eq_true aK];rfl,X3⟩
      case measure=>simp[intOf];omega
    ·have Y:¬(k:Int)<(l.length:Int):=aK;have O:k=l.length:=aK;have HK:=aN O;clear O;go_wp2;go_ret;exact⟨aZ (by rw[J.out,<-HK.out,HO.out]),z⟩
theorem DA(w:World)(n:Int)(v:Value)(l:List Int)(hv:aR w v l)(u:Value)(x:List Int)(hu:aR w u x):
  Calls prog 273 #[.agg #[n,v],u] w fun e w'=>e=.returned (.bool (lJ n l x))/\Below w w w':=by
 obtain⟨a,b,d8,c,rfl,b6,d6,hc,hb⟩:=hv.view prog 24 3 underlying24 aS;obtain⟨au,cu,rfl⟩:=hu.shape;go_enter func273,ntmps273;go_wp2_with fail;refine(yZ n l _ _ (hv.alloc _)).mono ?_;rintro e w1 ⟨rfl,O⟩;have X1:=(Box2.new w n (aI a l.length c) 26).after O;clear O;have d5:=aW hc hb X1.B aO;have D:=hu.below X1.B aO;clear hc
 cases R:gE n l with
 |false=>
  have F:lJ n l x=false:=by unfold lJ;rw[R];rfl
  have K:=aN F;obtain⟨d0,d1,N,z1⟩:=X1;clear F;go_wp2;go_ret;exact⟨by rw[K.out];rfl,N⟩
 |true=>
  obtain⟨h0,h5,hl,Y⟩:=lB (MS R);have hp:=kJ h0 h5;have b5:l.length<=64:=aK;have c5:=aN Y;clear hl Y;obtain⟨d0,d1,N,z1⟩:=X1;by_cases z:(x.length:Int)=n
  ·have b0:((x.length:Int) != n)=false:=by simp[z]
   have b1:x.length<=5:=aK;have c6:=aN z
   cases J:kO x (-5000) 5000 with
   |false=>
    have F:lJ n l x=false:=by unfold lJ gN;rw[R,J];simp
    have K:=aN F;clear F z;go_wp2_with (go_at_call 274;refine(xT x _ _ D).mono ?_;rintro e w' ⟨rfl,rfl⟩;rw[J]);go_ret;exact⟨by rw[K.out];rfl,N⟩
   |true=>
    have hlo:gN n x=true:=by unfold gN;rw[J,decide_eq_true z];rfl
    obtain⟨_,a7⟩:=JY hlo;have F:lJ n l x=mP l x l.length:=by unfold lJ;rw[R,hlo];rfl
    have K:=aN F;have I:=aN a7;have a9:decide (x.length<=5)=true:=decide_eq_true b1;clear F a7 z hlo;go_wp2_with (go_at_call 274;refine(xT x _ _ D).mono ?_;rintro e w' ⟨rfl,rfl⟩;rw[J,a9]);go_loopw [5] (fun i wr=>∃k m:Nat,k<=l.length/\i=aM k/\mP l x k=true/\wr=w1.drewN m) (fun i _=>l.length-(intOf i).toNat)
    case atStart=>exact⟨0,0,Nat.zero_le _,rfl,rfl,rfl⟩
    case round=>
     obtain⟨k,m,hk,rfl,a1,rfl⟩:=hrel;have HO:=aN a1;clear a1;by_cases hlt:k<l.length
     ·have Z:(k:Int)<(l.length:Int):=aK;have a6:dZ l x k=l[k]-wt x k:=by unfold dZ;simp[hlt]
      have HS:=aN a6;clear a6;by_cases d7:wt x k>l[k]
      ·go_wp2;go_quiet ((go_at_call 305;first|exact iX (tB x _ _ _ (D.drewN _) aK aK (fun j M=>by have:=I.out j M;omega) aK)|exact kF (tB x _ _ _ (D.drewN _) aK aK (fun j M=>by have:=I.out j M;omega) aK)));go_wp2;go_ret;refine⟨aZ ?_,(N.drewN' _).drewN' _⟩;rw[K.out,FF l x k (by rw[HS.out];omega) _ hlt]
      ·go_wp2;go_quiet ((go_at_call 305;first|exact iX (tB x _ _ _ (D.drewN _) aK aK (fun j M=>by have:=I.out j M;omega) aK)|exact kF (tB x _ _ _ (D.drewN _) aK aK (fun j M=>by have:=I.out j M;omega) aK)));go_wp2;go_roundw
       case rel=>exact⟨k+1,m+nq,by omega,by go_num,by rw[mP,HO.out,decide_eq_true (by rw[HS.out];omega)];rfl,by simp⟩
       case measure=>simp[intOf];omega
     ·have Z:¬(k:Int)<(l.length:Int):=aK;have S:k=l.length:=aK;have HK:=aN S;clear S;go_wp2;go_ret;exact⟨aZ (by rw[K.out,<-HK.out,HO.out]),N.drewN' _⟩
  ·have b0:((x.length:Int) != n)=true:=by simp[z]
   have F:lJ n l x=false:=by unfold lJ gN;rw[R,decide_eq_false z];rfl
   have K:=aN F;clear F z;go_wp2;go_ret;exact⟨by rw[K.out];rfl,N⟩
end
end Go.Proofs.YtcpoomdoodlkjaaGreatDoor
