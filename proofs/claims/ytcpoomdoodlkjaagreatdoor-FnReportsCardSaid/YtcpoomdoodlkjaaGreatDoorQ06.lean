/- Lemmas for CardReports. No condition. -/
import Derived.Test.YtcpoomdoodlkjaaGreatDoorQ03
import Derived.Test.YtcpoomdoodlkjaaGreatDoorQ05
import Derived.Lib.SplitLaws
import Derived.Deep.CutRange
set_option maxRecDepth 100000
set_option maxHeartbeats 64000000
namespace Go.Proofs.YtcpoomdoodlkjaaGreatDoor
section
open Go.RowKit Go.G5 Go.Proofs.Tryz
theorem JW(w:World)(n:Int)(ad:Option Addr)(i D:Nat)(l:List Int)(J:aR w (aI ad i D) l)(F:bM n l=true):
  Calls prog 256 #[n,aI ad i D] w fun e w'=>e=.returned (.tuple #[.agg #[n,aI ad i D],.bool true])/\Below w w w':=by
 go_enter func256,ntmps256;go_wp2_with fail;refine(dJ n l _ _ (J.below (by repeat(first|exact Below.refl _ _|(with_reducible refine Below.setCell ?_ (by first|omega|(simp;done)|(simp;omega)) _)|(with_reducible refine Below.alloc ?_ (by first|omega|(simp;done)|(simp;omega)) _)|(with_reducible refine Below.drewN' ?_ _)|(with_reducible refine Below.drew ?_)|(with_reducible assumption)|refine Below.trans ?_ (Below.mono (by assumption) (by first|omega|(simp;done)|(simp;omega))))) aO)).mono ?_;rintro e w1 ⟨rfl,hb⟩;rw[F];obtain⟨hc,I⟩:=iK hb (w.heap.size+1+1) (by first|omega|(simp;done)|(simp;omega));have z:=hb.size;simp at z;go_wp2;exact bodyPost_ret (v:=.tuple #[.agg #[n,aI ad i D],.bool true]) (by simp[results,results256,go_sem,hc]) rfl ⟨rfl,(by repeat(first|exact Below.refl _ _|(with_reducible refine Below.setCell ?_ (by first|omega|(simp;done)|(simp;omega)) _)|(with_reducible refine Below.alloc ?_ (by first|omega|(simp;done)|(simp;omega)) _)|(with_reducible refine Below.drewN' ?_ _)|(with_reducible refine Below.drew ?_)|(with_reducible assumption)|refine Below.trans ?_ (Below.mono (by assumption) (by first|omega|(simp;done)|(simp;omega)))))⟩
theorem abN(w:World)(n:Int)(ad:Option Addr)(i D:Nat)(l:List Int)(J:aR w (aI ad i D) l)(F:bM n l=false):
  Calls prog 256 #[n,aI ad i D] w fun e w'=>e=.returned (.tuple #[.agg #[aJ,()],.bool false])/\Below w w w':=by
 go_enter func256,ntmps256;go_wp2_with fail;refine(dJ n l _ _ (J.below (by repeat(first|exact Below.refl _ _|(with_reducible refine Below.setCell ?_ (by first|omega|(simp;done)|(simp;omega)) _)|(with_reducible refine Below.alloc ?_ (by first|omega|(simp;done)|(simp;omega)) _)|(with_reducible refine Below.drewN' ?_ _)|(with_reducible refine Below.drew ?_)|(with_reducible assumption)|refine Below.trans ?_ (Below.mono (by assumption) (by first|omega|(simp;done)|(simp;omega))))) aO)).mono ?_;rintro e w1 ⟨rfl,hb⟩;rw[F];obtain⟨hc,I⟩:=iK hb (w.heap.size+1+1) (by first|omega|(simp;done)|(simp;omega));have z:=hb.size;simp at z;go_wp2;exact bodyPost_ret (v:=.tuple #[.agg #[aJ,()],.bool false]) (by simp[results,results256,go_sem,hc]) rfl ⟨rfl,(by repeat(first|exact Below.refl _ _|(with_reducible refine Below.setCell ?_ (by first|omega|(simp;done)|(simp;omega)) _)|(with_reducible refine Below.alloc ?_ (by first|omega|(simp;done)|(simp;omega)) _)|(with_reducible refine Below.drewN' ?_ _)|(with_reducible refine Below.drew ?_)|(with_reducible assumption)|refine Below.trans ?_ (Below.mono (by assumption) (by first|omega|(simp;done)|(simp;omega)))))⟩
theorem wY(w:World)(n:Int)(ad:Option Addr)(i D:Nat)(l:List Int)(J:aR w (aI ad i D) l)(I:Bool)(h:bM n l=I):
  Calls prog 256 #[n,aI ad i D] w fun e w'=>∃z K F,e=.returned (.tuple #[.agg #[aM (if I then n else 0),aI z K F],.bool I])/\(aI z K F:Value)=(if I then aI ad i D else aI none 0 0)/\Below w w w':=by
 cases I
 ·exact(abN w n ad i D l J h).mono fun e w' ⟨h1,h2⟩=>⟨_,_,_,h1,rfl,h2⟩
 ·exact(JW w n ad i D l J h).mono fun e w' ⟨h1,h2⟩=>⟨_,_,_,h1,rfl,h2⟩
def aiZ(b:UInt8):Bool:=decide (48<=b.toNat)&&decide (b.toNat<=57)
def ahJ(n:Nat)(b:UInt8):Nat:=if aiZ b then n*10+(b.toNat-48) else n
def aiG(l:List UInt8):Nat:=l.foldl ahJ 0
def pSg(s:ByteArray):Bool:=s.data.toList.headD 0==45
def pN(s:ByteArray):Int:=if pSg s then -(aiG s.data.toList:Int) else (aiG s.data.toList:Int)
def pB(s:ByteArray):Bool:=decide (bQ (pN s)=s)&&(decide (-999999999<=pN s)&&decide (pN s<=999999999))
def dC(code s:Nat):Bool:=code/2^s%2==1
theorem uC(code s:Nat):(dO (code:Int) s==1)=dC code s:=by
 unfold dO dC;have h:((code:Int)/2^s%2)=((code/2^s%2:Nat):Int):=by push_cast;rfl
 rw[h];have:(code/2^s%2)<2:=Nat.mod_lt _ aY;rcases(show code/2^s%2=0∨code/2^s%2=1 by omega) with h1|h1<;>rw[h1]<;>rfl
def jE(code:Nat)(k:Nat):List Int:=bW (dC code) k
theorem I8(code k m:Nat)(h:code<2^k):jE code (k+m)=jE code k:=by
 induction m with
 |zero=>rfl
 |succ m ih=>rw[<-Nat.add_assoc,jE,fM,if_neg,<-jE,ih];have h1:code<2^(k+m):=Nat.lt_of_lt_of_le h (Nat.pow_le_pow_right aY aK);unfold dC;rw[Nat.div_eq_of_lt h1];decide
theorem uP(code k m:Nat)(h:code<2^k)(D:code<2^m):jE code k=jE code m:=by
 rcases Nat.le_total k m with z|z
 ·obtain⟨d,rfl⟩:=Nat.exists_eq_add_of_le z;exact(I8 code k d h).symm
 ·obtain⟨d,rfl⟩:=Nat.exists_eq_add_of_le z;exact I8 code m d D
theorem ZF(w:World)(code:Nat)(hc:code<2^32):
  Calls prog 188 #[(code:Int)] w fun e w'=>∃ad i z,e=.returned (aI ad i z)/\aP 3 w w' (aI ad i z) (jE code 32)/\Below w w w':=by
 have o0:=aP.lit0 (E:=3) (B:=w.heap.size) w aO;go_enter func188,ntmps188;go_wp2;go_loopw [3,4,5] (fun out i x wr=>∃(k:Nat) (ad:Option Addr) (M z:Nat),k<=32/\out=aI ad M z/\i=aM k/\x=aM ((code/2^k:Nat):Int)/\aP 3 w wr (aI ad M z) (jE code k)/\Below w w wr)
  (fun _ _ x _=>(intOf x).toNat)
 case atStart=>exact⟨0,_,_,_,by omega,rfl,rfl,by simp,o0,bF _ _⟩
 case round=>
  obtain⟨k,ad,M,z,hk,rfl,rfl,rfl,ho,B⟩:=hrel;obtain⟨q,F⟩:=aQ (code/2^k);have K:code/2^(k+1)=q/2:=by rw[F,Nat.pow_succ,Nat.div_div_eq_div_mul]
  have b4:q<=code:=by rw[F];exact Nat.div_le_self _ _
  have hn:dC code k=(q%2==1):=by unfold dC;rw[F]
  have Z:=fJ (dC code) k;rw[<-F];have hb:=QU q aK;have Y:=aN K;have S:=aN hn;have N:=aN ho;have I:=aN B;have hz:0<q->k+1<=32:=by
   intro h;by_cases h2:k+1<=32
   ·exact h2
   ·have:k=32:=aK;rw[F,this,Nat.div_eq_of_lt hc]at h;omega
  have O:=aN F;clear ho B F K hn;by_cases h0:0<q
  ·have J:=hz h0;clear hz;by_cases h1:q%2=1
   ·go_wp2_with (at_builtin;refine cZ rfl _ _ _ rfl 3 underlying24 aS w.heap.size _ _ (k:Int) wr.heap.size rfl rfl (by simp) (N.out.alloc _) ⟨by omega,by omega⟩ (by unfold jE;omega) (by have:=I.out.size;simp;omega) ?_;intro v' w6 D R;obtain⟨av,nv,cv,rfl⟩:=D.shape3);have B6:Below w w w6:=(I.out.alloc I.out.size (.cells #[k] 3)).grown R (by have:=I.out.size;simp;omega) (fun p hp=>(N.out.lt p hp).1);go_roundw
    case rel=>exact⟨k+1,av,nv,cv,J,rfl,by go_num,by rw[Y.out];go_num,by rw[jE,fM,S.out,h1];exact D,B6⟩
    case measure=>simp[intOf];omega
   ·go_wp2
    go_roundw
    case rel=>exact⟨k+1,ad,M,z,J,rfl,by go_num,by rw[Y.out];go_num,by rw[jE,fM,S.out,show(q%2==1)=false by simp[h1]];exact N.out,I.out⟩
    case measure=>simp[intOf];omega
  ·go_wp2
   go_ret;refine⟨ad,M,z,rfl,?_,I.out⟩;have hlt:code<2^k:=by
    have:=O.out;rcases Nat.lt_or_ge code (2^k) with h|h
    ·exact h
    ·have:=Nat.div_pos h (Nat.two_pow_pos k);omega
   rw[uP code 32 k hc hlt];exact N.out
theorem RN(code k:Nat):∀x∈jE code k,0<=x/\x<(k:Int):=by
 intro x z;unfold jE bW at z;rw[List.mem_map]at z;obtain⟨s,D,rfl⟩:=z;rw[List.mem_filter,List.mem_range]at D;simp only[Int.ofNat_eq_natCast];omega
def gX(s:Int):List Int:=jE s.toNat 6
theorem aaV(s:Int)(n:Nat)(z:n<=6)(h1:s.toNat<2^n):∀x∈gX s,0<=x/\x<(n:Int):=by
 have h2:s.toNat<2^6:=Nat.lt_of_lt_of_le h1 (Nat.pow_le_pow_right aY z);unfold gX;rw[uP s.toNat 6 n h2 h1];exact RN _ _
theorem WS(s:Int):∀x∈gX s,0<=x/\x<6:=by
 intro x z;unfold gX at z;have:=RN s.toNat 6 x z;omega
theorem vE(s:Int):(gX s).length<=6:=by
 unfold gX jE;exact fJ _ 6
theorem af9:∀s:Nat,s<64->(jE s 6).length=bR s:=by decide +kernel
theorem WT(s:Int)(h:s<64):((gX s).length:Int)=dL s:=by
 unfold gX dL;rw[af9 s.toNat aK]
theorem SW(s:Int)(w:World)(D:0<=s)(h1:s<64):
  Calls prog 188 #[s] w fun e w'=>∃ad i z,e=.returned (aI ad i z)/\aP 3 w w' (aI ad i z) (gX s)/\Below w w w':=by
 have:=ZF w s.toNat aK;rw[show((s.toNat:Nat):Int)=s by omega,uP s.toNat 32 6 aK aK]at this;exact this
theorem rI(s:Int)(w:World)(h0:0<=s)(h1:s<64):
  Calls prog 184 #[s] w fun e w'=>∃ad i D,e=.returned (aI ad i D)/\aP 3 w w' (aI ad i D) (gX s)/\Below w w w':=by
 obtain⟨code,rfl⟩:=Int.eq_ofNat_of_zero_le h0;have hc:code<64:=aK;have R:gX (code:Int)=jE code 6:=by unfold gX;rw[show((code:Int)).toNat=code by omega]
 have a7:=aN R;clear R;go_enter func184,ntmps184;go_wp2;go_loopw [3,4] (fun out i wr=>∃(k:Nat) (ad:Option Addr) (Z D:Nat),k<=6/\out=aI ad Z D/\i=aM k/\aP 3 w wr (aI ad Z D) (jE code k)/\Below w w wr)
  (fun _ i _=>7-(intOf i).toNat)
 case atStart=>exact⟨0,none,0,0,by omega,rfl,rfl,aP.nil _ _ _,Below.refl _ _⟩
 case round=>
  obtain⟨k,ad,Z,D,hk,rfl,rfl,ho,B⟩:=hrel;have F:=jO (code:Int) k aK aK;have z:=uC code k;have b4:=fJ (dC code) k;have I:((code:Int)/2^k)=((code/2^k:Nat):Int):=by push_cast;rfl
  have b0:code/2^k<=code:=Nat.div_le_self _ _;have hz:code/2^k≠0->k+1<=6:=by
   intro h;by_cases h2:k+1<=6
   ·exact h2
   ·exfalso
    have:k=6:=aK;rw[this,Nat.div_eq_of_lt hc]at h;exact h rfl
  have O:jE code (k+1)=if dC code k then jE code k++[(k:Int)] else jE code k:=fM (dC code) k;obtain⟨q,hq⟩:=aQ (code/2^k);obtain⟨y,hy⟩:=aQ (dO (code:Int) k);rw[<-hq]at I hz b0;rw[<-hy]at F z;rw[I]at F;have HQ:=aN hq;have HO:=aN ho;have M:=aN B;have N:=aN O;have HZ:=aN hz;clear hq hy ho B O hz;by_cases h0:q=0
  ·subst h0
   have hr:jE code k=jE code 6:=by
    have hlt:code<2^k:=by
     rcases Nat.lt_or_ge code (2^k) with h|h
     ·exact h
     ·have:=Nat.div_pos h (Nat.two_pow_pos k);have:=HQ.out;omega
    exact uP code k 6 hlt aK
   have HR:=aN hr;clear hr;go_wp2;go_ret;exact⟨ad,Z,D,rfl,by rw[a7.out,<-HR.out];exact HO.out,M.out⟩
  ·have S:=HZ.out h0;have ht:((q:Int) != 0)=true:=by simp;omega
   have Y:=HO.out.lt
   cases hb:dC code k with
   |true=>
    have b1:(y==1)=true:=by rw[z,hb]
    have K:=aN hb;clear hb z;go_wp2_with (at_builtin;refine cZ rfl _ _ _ rfl 3 underlying24 aS w.heap.size _ _ (k:Int) wr.heap.size rfl rfl (bB wr #[k] 3 0 _ rfl) (HO.out.alloc _) ⟨by omega,by omega⟩ (by unfold jE;omega) (by have:=M.out.size;simp;omega) ?_;intro v' w6 J a8;obtain⟨av,nv,cv,rfl⟩:=J.shape3);have B6:Below w w w6:=(M.out.alloc M.out.size (.cells #[k] 3)).grown a8 (by have:=M.out.size;simp;omega) (fun p hp=>(Y p hp).1);go_roundw
    case rel=>exact⟨k+1,av,nv,cv,S,rfl,by go_num,by rw[N.out,K.out];exact J,B6⟩
    case measure=>simp[intOf];omega
   |false=>
    have b1:(y==1)=false:=by rw[z,hb]
    have K:=aN hb;clear hb z;go_wp2;go_roundw
    case rel=>exact⟨k+1,ad,Z,D,S,rfl,by go_num,by rw[N.out,K.out];exact HO.out,M.out⟩
    case measure=>simp[intOf];omega
def fS(l:List Int)(s:Int):Bool:=decide (s∈l)
theorem GS{l:List Int}{s:Int}:fS l s=true↔s∈l:=by simp[fS]
theorem SH(l:List Int)(k:Nat)(h:k<l.length):fS l l[k]=true:=GS.2 (List.getElem_mem h)
theorem yT{l:List Int}{s:Int}(h:∀k,(hk:k<l.length)->l[k]≠s):fS l s=false:=by
 unfold fS;rw[decide_eq_false_iff_not];intro hm;obtain⟨k,hk,z⟩:=List.getElem_of_mem hm;exact h k hk z
theorem kT(l:List Int)(v:Value)(s:Int)(w:World)(S:aR w v l):
  Calls prog 210 #[v,s] w fun e w'=>e=.returned (.bool (fS l s))/\w=w':=by
 obtain⟨a,b,Y,c,rfl,M,O,hc,hb⟩:=S.view prog 24 3 underlying24 aS;go_enter func210,ntmps210;go_wp2;go_loop [5] (fun i=>∃k:Nat,k<=l.length/\i=aM k/\(∀j,(J:j<l.length)->j<k->l[j]≠s)) (fun i=>l.length-(intOf i).toNat)
 case atStart=>exact⟨0,Nat.zero_le _,rfl,by intros;omega⟩
 case round=>
  obtain⟨k,hk,rfl,I⟩:=hrel;have H:=aN I;clear I;by_cases hlt:k<l.length
  ·by_cases z:l[k]=s
   ·have ht:(l[k]==s)=true:=by simp[z]
    have D:fS l s=true:=by rw[<-z];exact SH l k hlt
    have K:=aN D;clear z D;go_wp2;go_ret;exact⟨by rw[K.out];rfl,rfl⟩
   ·have ht:(l[k]==s)=false:=by simp[z]
    have N:=aN z;clear z;go_wp2;go_round
    case rel=>
     refine⟨k+1,by omega,by go_num,fun j J R=>?_⟩;by_cases F:j=k
     ·subst F;exact N.out
     ·exact H.out j J aK
    case measure=>simp[intOf];omega
  ·have D:fS l s=false:=yT fun j J=>H.out j J aK;have K:=aN D;clear D;go_wp2;go_ret;exact⟨by rw[K.out];rfl,rfl⟩
theorem YG(x:Int)(w:World):Calls prog 316 #[x] w fun e w'=>e=.returned (.bool false)/\w=w':=by
 have h:(x != x)=false:=by simp
 go_enter func316,ntmps316;go_wp2;go_ret;exact⟨rfl,rfl⟩
theorem OU(x:Int)(w:World):Calls prog 307 #[x] w fun e w'=>e=.returned (.bool false)/\w=w':=by
 have h:(x != x)=false:=by simp
 go_enter func307,ntmps307;go_wp2;go_ret;exact⟨rfl,rfl⟩
theorem FG(x y:Int)(w:World):Calls prog 306 #[x,y] w fun e w'=>e=.returned (.bool (decide (x<y)))/\w=w':=by
 go_enter func306,ntmps306;go_wp2_with (go_at_call 316;refine(YG _ _).mono ?_;rintro e w' ⟨rfl,rfl⟩);go_ret;exact⟨rfl,rfl⟩
theorem PA(l:List Int)(v:Value)(s:Int)(w:World)(hv:aR w v l)(J:l.Pairwise (· < ·))(hl:l.length<=1048576):
  Calls prog 277 #[v,s] w fun e w'=>(∃i:Int,e=.returned (.tuple #[i,.bool (fS l s)]))/\w=w':=by
 obtain⟨a,b,b0,c,rfl,b5,a6,hc,hb⟩:=hv.view prog 24 3 underlying24 aS;have z:∀i j,(hi:i<l.length)->(hj:j<l.length)->i<j->l[i]<l[j]:=fun i j hi hj a1=>List.pairwise_iff_getElem.1 J i j hi hj a1;have N:=aN z;clear z J;go_enter func277,ntmps277;go_wp2;go_loop [7,8] (fun i j=>∃p q:Nat,p<=q/\q<=l.length/\i=aM p/\j=aM q/\(∀t,(ht:t<l.length)->t<p->l[t]<s)/\(∀t,(ht:t<l.length)->q<=t->s<=l[t])) (fun i j=>(intOf j).toNat-(intOf i).toNat)
 case atStart=>exact⟨0,l.length,Nat.zero_le _,aO,rfl,rfl,by intros;omega,by intros;omega⟩
 case round=>
  obtain⟨p,q,b7,a8,rfl,rfl,hlo,Y⟩:=hrel;have M:=aN hlo;have S:=aN Y;clear hlo Y;by_cases hlt:p<q
  ·have hm:(p+q)/2<l.length:=aK;have hcm:=hc ((p+q)/2) hm;have b3:∀w',(Instr.indexAt 24 (aI a l.length c) (aM (((p:Int)+(q:Int))/2))).run prog w'=.ok (.pointer (some ⟨b,b0+(p+q)/2,none⟩)) w':=fun w'=>by rw[show(((p:Int)+(q:Int))/2)=(((p+q)/2:Nat):Int) by omega];exact a6 w' _ hm
   by_cases a7:l[(p+q)/2]<s
   ·go_wp2_with (go_at_call 306;refine(FG _ _ _).mono ?_;rintro e w' ⟨rfl,rfl⟩)
    go_round
    case rel=>
     refine⟨(p+q)/2+1,q,by omega,a8,by go_num,rfl,fun t ht a9=>?_,S.out⟩;by_cases h:t=(p+q)/2
     ·subst h;exact a7
     ·have:=N.out t ((p+q)/2) ht hm aK;omega
    case measure=>simp[intOf];omega
   ·go_wp2_with (go_at_call 306;refine(FG _ _ _).mono ?_;rintro e w' ⟨rfl,rfl⟩)
    go_round
    case rel=>
     refine⟨p,(p+q)/2,by omega,by omega,rfl,by go_num,M.out,fun t ht a9=>?_⟩;by_cases h:t=(p+q)/2
     ·subst h;omega
     ·have:=N.out ((p+q)/2) t hm ht aK;omega
    case measure=>simp[intOf];omega
  ·have D:p=q:=aK;by_cases F:p<l.length
   ·have b6:=hc p F;by_cases O:l[p]=s
    ·have ht:(l[p]==s)=true:=by simp[O]
     have K:fS l s=true:=by rw[<-O];exact SH l p F
     have R:=aN K;clear O K D;go_wp2_with (go_at_call 307;refine(OU _ _).mono ?_;rintro e w' ⟨rfl,rfl⟩);go_ret2;exact⟨⟨p,by rw[R.out];rfl⟩,rfl⟩
    ·have ht:(l[p]==s)=false:=by simp[O]
     have K:fS l s=false:=yT fun t I Z=>by
      rcases Nat.lt_trichotomy t p with h|h|h
      ·have:=M.out t I h;omega
      ·subst h;exact O Z
      ·have h1:=S.out p F aK;have h2:=N.out p t F I h;omega
     have R:=aN K;clear O K D;go_wp2_with (go_at_call 307;refine(OU _ _).mono ?_;rintro e w' ⟨rfl,rfl⟩);go_ret2;exact⟨⟨p,by rw[R.out];rfl⟩,rfl⟩
   ·have K:fS l s=false:=yT fun t I Z=>by have:=M.out t I aK;omega
    have R:=aN K;clear K D;go_wp2;go_ret2;exact⟨⟨p,by rw[R.out];rfl⟩,rfl⟩
theorem wX(g:Int)(l:List Int)(v:Value)(s:Int)(w:World)(D:aR w v l)(z:l.Pairwise (· < ·))(hl:l.length<=1048576):
  Calls prog 206 #[.agg #[g,v],s] w fun e w'=>e=.returned (.bool (fS l s))/\Below w w w':=by
 obtain⟨F,I,rfl⟩:=D.shape;have H:=aN z;clear z;go_enter func206,ntmps206;go_wp2_with (go_at_call 277;refine(PA l _ _ _ (D.alloc _) H.out hl).mono ?_;rintro e w' ⟨⟨i,rfl⟩,rfl⟩);go_ret;exact⟨rfl,bF _ _⟩
def dE(l:List Int):Int:=l.foldl fT 0
theorem tX(g:Nat)(l:List Int)(h:∀s∈l,0<=s/\s<2^g):∀z,0<=z->z<2^g->0<=l.foldl fT z/\l.foldl fT z<2^g:=by
 induction l with
 |nil=>intro z D h1;exact⟨D,h1⟩
 |cons a l ih=>intro z D h1;have F:=h a (by simp);have I:=JN z a g D F.1 h1 F.2;exact ih (fun s J=>h s (by simp[J])) _ I.1 I.2
theorem lS(l:List Int)(v:Value)(w:World)(N:aR w v l)(h:∀s∈l,0<=s/\s<64):
  Calls prog 236 #[v] w fun e w'=>e=.returned (dE l)/\w=w':=by
 obtain⟨a,b,O,c,rfl,I,J,hc,hb⟩:=N.view prog 24 3 underlying24 aS;go_enter func236,ntmps236;go_wp2;go_loop [3,8] (fun m i=>∃k:Nat,k<=l.length/\i=aM k/\m=aM (dE (l.take k))) (fun _ i=>l.length-(intOf i).toNat)
 case atStart=>exact⟨0,Nat.zero_le _,rfl,rfl⟩
 case round=>
  obtain⟨k,hk,rfl,rfl⟩:=hrel;have z:=tX 6 (l.take k) (fun s M=>by have:=h s (List.mem_of_mem_take M);simpa using this) 0 aK aY;obtain⟨m,hm⟩:=aQ (dE (l.take k));rw[show(l.take k).foldl fT 0=m from hm.symm]at z;rw[<-hm];have F:=aN hm;have h1:0<=m:=z.1;have h2:m<64:=by simpa using z.2
  clear hm z;by_cases hlt:k<l.length
  ·have D:=h _ (List.getElem_mem hlt);have K:=xQ h1 aK D.1 aK;go_wp2;go_round
   case rel=>exact⟨k+1,by omega,by go_num,by unfold dE;rw[vX _ _ _ _ hlt];rw[F.out];rfl⟩
   case measure=>simp[intOf];omega
  ·go_wp2;go_ret;exact⟨fI (by rw[F.out];unfold dE;rw[GO _ _ _ _ aK]),rfl⟩
theorem jA(n:Int)(v:Value)(l:List Int)(w:World)(z:aR w v l)(I:0<=n)(h1:n<=40):
  Calls prog 215 #[.agg #[n,v]] w fun e w'=>e=.returned (aM (2^n.toNat-1))/\Below w w w':=by
 obtain⟨D,F,rfl⟩:=z.shape;have h2:=cO n.toNat 40 aK;have h3:=h2.1;have h4:=h2.2;simp at h3;clear h2;go_enter func215,ntmps215;go_wp2;go_ret;exact⟨rfl,bF _ _⟩
def SO(g:Int)(l x:List Int):Bool:=bJ g l&&x.all (fS l)&&(dE x==2^g.toNat-1)
theorem dY{g:Int}{l:List Int}(h:bJ g l=true):∀s∈l,0<=s/\s<64:=by
 obtain⟨z,D,F,_⟩:=dT h;intro s hm;have:=F s hm;have:=mC z D;omega
def cJ(p:Nat->Bool):Nat->Bool
 |0=>true
 |k+1=>cJ p k&&p k
theorem dG{p:Nat->Bool}{k n:Nat}(h:k<n)(z:p k=false):cJ p n=false:=by
 induction n with
 |zero=>omega
 |succ n ih=>
  rw[cJ];by_cases hk:k=n
  ·rw[<-hk,z];simp
  ·rw[ih aK];rfl
theorem dN{p:Nat->Bool}{k:Nat}(h:cJ p k=true)(z:p k=true):cJ p (k+1)=true:=by rw[cJ,h,z];rfl
theorem aX(l:List Int)(k:Nat)(h:k<l.length):l.getD k 0=l[k]:=by rw[List.getD_eq_getElem?_getD,List.getElem?_eq_getElem h,Option.getD_some]
def mU(l:List Int)(s:Int):Bool:=l.all fun t=>bK t s != 0
def mB(g:Int)(l:List Int):Bool:=bJ g l&&l.all (mU l)
def J3(l:List Int):Bool:=cJ (fun i=>cJ (fun k=>bK (l.getD i 0) (l.getD k 0) != 0) (i+1)) l.length
theorem DK(l:List Int)(v:Value)(s:Int)(w:World)(O:aR w v l)(hm:∀x∈l,0<=x/\x<64)(M:0<=s)(h1:s<64):
  Calls prog 213 #[v,s] w fun e w'=>e=.returned (.bool (mU l s))/\w=w':=by
 obtain⟨a,b,R,c,rfl,K,N,hc,hb⟩:=O.view prog 24 3 underlying24 aS;go_enter func213,ntmps213;go_wp2;go_loop [9] (fun i=>∃k:Nat,k<=l.length/\i=aM k/\(l.take k).all (fun t=>bK t s != 0)=true) (fun i=>l.length-(intOf i).toNat)
 case atStart=>exact⟨0,Nat.zero_le _,rfl,by simp⟩
 case round=>
  obtain⟨k,hk,rfl,z⟩:=hrel;have H:=aN z;clear z;by_cases hlt:k<l.length
  ·have J:=hm _ (List.getElem_mem hlt);have S:=eG J.1 (show l[k]<4611686018427387904 by omega) M aK;by_cases D:bK l[k] s=0
   ·have ht:(bK l[k] s==0)=true:=by simp[D]
    have F:(bK l[k] s != 0)=false:=by simp[D]
    have I:=aN F;clear D F;go_wp2;go_ret;exact⟨aZ (by unfold mU;rw[jM _ _ _ hlt I.out]),rfl⟩
   ·have ht:(bK l[k] s==0)=false:=by simp[D]
    have F:(bK l[k] s != 0)=true:=by simp[D]
    have I:=aN F;clear D F;go_wp2;go_round
    case rel=>exact⟨k+1,by omega,by go_num,by rw[gW _ _ _ hlt,H.out,I.out];rfl⟩
    case measure=>simp[intOf];omega
  ·go_wp2;go_ret;exact⟨aZ (by unfold mU;rw[<-kP _ l k aK,H.out]),rfl⟩
theorem VG(g:Int)(l:List Int)(v:Value)(w:World)(O:aR w v l):
  Calls prog 109 #[.agg #[g,v]] w fun e w'=>e=.returned (.bool (mB g l))/\Below w w w':=by
 obtain⟨a,b,a7,c,rfl,Z,a6,hc,hb⟩:=O.view prog 24 3 underlying24 aS;have Y:=Box2.new w g (aI a l.length c) 31;go_enter func109,ntmps109;go_wp2_with fail;refine(dF g l _ _ (O.alloc _)).mono ?_;rintro e w1 ⟨rfl,F⟩;obtain⟨d0,d1,D,z1⟩:=Y.after F;have a1:=aW hc hb D aO;have R:=O.below D aO;clear hc hb F Y
 cases N:bJ g l with
 |false=>
  have J:mB g l=false:=by unfold mB;rw[N];rfl
  have K:=aN J;clear J;go_wp2;go_ret;exact⟨by rw[K.out];rfl,D⟩
 |true=>
  have hm:=dY N;have J:mB g l=l.all (mU l):=by unfold mB;rw[N];rfl
  have K:=aN J;have S:=aN hm;clear J hm;go_wp2_with fail;go_loop [11] (fun i=>∃k:Nat,k<=l.length/\i=aM k/\(l.take k).all (mU l)=true) (fun i=>l.length-(intOf i).toNat)
  case atStart=>exact⟨0,Nat.zero_le _,rfl,by simp⟩
  case round=>
   obtain⟨k,hk,rfl,z⟩:=hrel;have H:=aN z;clear z;by_cases hlt:k<l.length
   ·have I:=S.out _ (List.getElem_mem hlt);have hcl:=DK l (aI a l.length c) l[k] w1 R S.out I.1 I.2
    cases M:mU l l[k]with
    |true=>
     rw[M]at hcl;go_wp2_with (go_at_call 213;refine hcl.mono ?_;rintro e w' ⟨rfl,rfl⟩);go_round
     case rel=>exact⟨k+1,by omega,by go_num,by rw[gW _ _ _ hlt,H.out,M];rfl⟩
     case measure=>simp[intOf];omega
    |false=>rw[M]at hcl;go_wp2_with (go_at_call 213;refine hcl.mono ?_;rintro e w' ⟨rfl,rfl⟩);go_ret;exact⟨aZ (by rw[K.out,jM _ _ _ hlt M]),D⟩
   ·go_wp2;go_ret;exact⟨aZ (by rw[K.out,<-kP _ l k aK,H.out]),D⟩
theorem ST(l:List Int)(v:Value)(w:World)(hv:aR w v l)(hm:∀x∈l,0<=x/\x<64):
  Calls prog 233 #[v] w fun e w'=>e=.returned (.bool (J3 l))/\Below w w w':=by
 obtain⟨a,b,a6,c,rfl,S,Y,hc,hb⟩:=hv.view prog 24 3 underlying24 aS;have R:=aN hm;clear hm;go_enter func233,ntmps233;go_wp2;go_loopw [3] (fun i wr=>∃k m:Nat,k<=l.length/\i=aM k/\wr=w.drewN m/\cJ (fun i=>cJ (fun k=>bK (l.getD i 0) (l.getD k 0) != 0) (i+1)) k=true) (fun i _=>l.length-(intOf i).toNat)
 case atStart=>exact⟨0,0,Nat.zero_le _,rfl,rfl,rfl⟩
 case round=>
  obtain⟨k,m,hk,rfl,rfl,z⟩:=hrel;have H:=aN z;clear z;by_cases hlt:k<l.length
  ·have M:=R.out _ (List.getElem_mem hlt);go_wp2;go_loopw [4] (fun j wr=>∃q n:Nat,q<=k+1/\j=aM q/\wr=w.drewN n/\cJ (fun q=>bK (l.getD k 0) (l.getD q 0) != 0) q=true) (fun j _=>k+1-(intOf j).toNat)
   case atStart=>exact⟨0,m,by omega,rfl,rfl,rfl⟩
   case round=>
    obtain⟨q,n,hq,rfl,rfl,I⟩:=hrel;have O:=aN I;clear I;by_cases Z:q<=k
    ·have D:q<l.length:=aK;have N:=R.out _ (List.getElem_mem D);have hA:=eG M.1 (show l[k]<4611686018427387904 by omega) N.1 (show l[q]<4611686018427387904 by omega);by_cases F:bK l[k] l[q]=0
     ·have ht:(bK l[k] l[q]==0)=true:=by simp[F]
      have J:(bK (l.getD k 0) (l.getD q 0) != 0)=false:=by rw[aX l k hlt,aX l q D];simp[F]
      have K:=aN J;clear F J;go_wp2;go_quiet (fail);go_wp2;go_ret;exact⟨aZ (dG (p:=fun i=>cJ (fun k=>bK (l.getD i 0) (l.getD k 0) != 0) (i+1)) hlt (dG (p:=fun q=>bK (l.getD k 0) (l.getD q 0) != 0) (show q<k+1 by omega) K.out)).symm,((Below.refl _ _).drewN' _).drewN' _⟩
     ·have ht:(bK l[k] l[q]==0)=false:=by simp[F]
      have J:(bK (l.getD k 0) (l.getD q 0) != 0)=true:=by rw[aX l k hlt,aX l q D];simp[F]
      have K:=aN J;clear F J;go_wp2;go_quiet (fail);go_wp2;go_roundw
      case rel=>exact⟨q+1,n+nq,by omega,by go_num,by simp,dN O.out K.out⟩
      case measure=>simp[intOf];omega
    ·go_wp2
     go_roundw
     case rel=>exact⟨k+1,n,by omega,by go_num,rfl,dN H.out (by rw[show k+1=q by omega];exact O.out)⟩
     case measure=>simp[intOf];omega
  ·go_wp2;go_ret;exact⟨aZ (by unfold J3;rw[show l.length=k by omega,H.out]),(Below.refl _ _).drewN' _⟩
end
section
open Go.RowKit Go.G5 Go.Proofs.Tryz
end
section
open Go.RowKit Go.G5 Go.Proofs.Tryz
end
end Go.Proofs.YtcpoomdoodlkjaaGreatDoor
section
namespace Go.G5
open Go Go.RowKit
structure GrownIn (w w':World) (P:Nat->Prop):Prop where
 os:w'.os=w.os
 tape:w'.tape=w.tape
 output:w'.output=w.output
 size:w.heap.size<=w'.heap.size
 block:∀b,b<w.heap.size->¬P b->w'.heap[b]?=w.heap[b]?
section
variable {w w' w'':World} {P:Nat->Prop}
theorem GrownIn.refl(w:World)(P:Nat->Prop):GrownIn w w P:=⟨rfl,rfl,rfl,aO,fun _ _ _=>rfl⟩
theorem GrownIn.trans(h:GrownIn w w' P)(k:GrownIn w' w'' P):GrownIn w w'' P:=
 ⟨k.os.trans h.os,k.tape.trans h.tape,k.output.trans h.output,Nat.le_trans h.size k.size,fun b hb hr=>(k.block b (Nat.lt_of_lt_of_le hb h.size) hr).trans (h.block b hb hr)⟩
theorem GrownIn.of_row{row:Option Nat}(h:w.grownBy w' row)(z:∀k,row=some k->P k):GrownIn w w' P:=⟨h.os,h.tape,h.output,h.size,fun b hb D=>h.block b hb (fun e=>D (z b e.symm))⟩
theorem GrownIn.of_below(h:Below w w w'):GrownIn w w' P:=⟨h.os,h.tape,h.output,h.size,fun b hb _=>h.block b hb⟩
theorem aU.growIn{g:Nat}{t:TypeId}{cs:Array Value}(h:aU w g t cs)(z:GrownIn w w' P)(D:¬P g):aU w' g t cs:=(z.block g h.lt D).trans h
theorem dR.growIn{E:TypeId}{B:Nat}{v:Value}{l:List Int}(h:dR E B w v l)(I:GrownIn w w' P)(J:∀k,v.ownBlock=some k->¬P k):dR E B w' v l:=by
 refine⟨h.1,?_⟩;rcases h.2 with h1|⟨g,cap,z,rfl,D,F,r⟩
 ·exact .inl h1
 ·refine .inr ⟨g,cap,z,rfl,D,?_,r⟩;rw[I.block g (Array.getElem?_eq_some_iff.1 F).1 (J g rfl)];exact F
theorem Below.growIn{B:Nat}{a:World}(h:Below B a w)(z:GrownIn w w' P)(hB:B<=w.heap.size)(D:∀k,P k->B<=k):Below B a w':=
 ⟨z.os.trans h.os,z.tape.trans h.tape,z.output.trans h.output,Nat.le_trans h.size z.size,fun b hb=>(z.block b aK (fun F=>by have:=D b F;omega)).trans (h.block b hb)⟩
end
end Go.G5
namespace Go.Proofs.YtcpoomdoodlkjaaGreatDoor
open Go.RowKit Go.G5 Go.Proofs.Tryz
end Go.Proofs.YtcpoomdoodlkjaaGreatDoor
end
namespace Go.Proofs.YtcpoomdoodlkjaaGreatDoor
section
open Go.RowKit Go.G5 Go.Proofs.Tryz
end
section
open Go.RowKit Go.G5 Go.Proofs.Tryz
end
section
open Go.RowKit Go.G5 Go.Proofs.Tryz
end
section
open Go.RowKit Go.G5 Go.Proofs.Tryz
end
section
open Go.RowKit Go.G5 Go.Proofs.Tryz
end
end Go.Proofs.YtcpoomdoodlkjaaGreatDoor
section
namespace Go.G5
open Go Go.RowKit
structure SliceElem (P:Program) (E:TypeId):Prop where
 info:(P.info? E).map (fun i=>(i.zero,i.size,i.bytes))=some (some (aI none 0 0),1,24)
theorem SliceElem.get{P:Program}{E:TypeId}(h:SliceElem P E):∃i,P.info? E=some i/\i.zero=some (aI none 0 0)/\i.size=1/\i.bytes=24:=by
 have h:=h.info
 cases z:P.info? E with
 |none=>rw[z]at h;simp at h
 |some i=>rw[z]at h;simp at h;exact⟨i,rfl,h.1,h.2.1,h.2.2⟩
theorem AI{w:World}{B B':Nat}{E F:TypeId}{s Y n S:Nat}{u v:Value}{Z ys:List Value}(h:w.ownsRow B E s u n Z)(O:w.ownsRow B' F Y v S ys)(D:E≠F):∀k,v.ownBlock=some k->u.ownBlock≠some k:=by
 intro k hk K;rcases h.2 with⟨rfl,_⟩|⟨g,cap,M,rfl,_,R,_⟩
 ·simp[Value.ownBlock]at K
 ·rcases O.2 with⟨rfl,_⟩|⟨N,I,J,rfl,_,z,_⟩
  ·simp[Value.ownBlock]at hk
  ·have e1:g=k:=by simpa[Value.ownBlock]using K
   have e2:N=k:=by simpa[Value.ownBlock]using hk
   subst e1;subst e2;rw[R]at z;injection z with z;injection z with _ ht;exact D ht
def dA(EI EO:TypeId)(B:Nat)(w:World)(v:Value)(z:List (List Int)):Prop:=
 ∃D:List Value,w.ownsRow B EO 1 v z.length D/\∀(k:Nat) (u:Value),D[k]?=some u->∃l,z[k]?=some l/\aP EI B w u l
theorem dA.len{EI EO:TypeId}{B:Nat}{w:World}{v:Value}{z:List (List Int)}(h:dA EI EO B w v z):∃a c,v=aI a z.length c/\z.length<=maxLen:=by
 obtain⟨J,h1,_⟩:=h;rcases h1.2 with⟨rfl,D⟩|⟨g,cap,F,rfl,hB,I,D,hm,_⟩
 ·exact⟨none,0,by rw[D],by omega⟩
 ·exact⟨_,cap,rfl,by omega⟩
theorem dA.shape3{EI EO:TypeId}{B:Nat}{w:World}{v:Value}{z:List (List Int)}(h:dA EI EO B w v z):∃a n c,v=aI a n c:=by
 obtain⟨a,c,h,_⟩:=h.len;exact⟨a,_,c,h⟩
theorem dA.nil(EI EO:TypeId)(B:Nat)(w:World):dA EI EO B w (aI none 0 0) []:=⟨[],World.ownsRow_nil _ _ _ _,by simp⟩
theorem dA.single{EI EO:TypeId}{B:Nat}(w:World)(hB:B<=w.heap.size):dA EI EO B (w.alloc (.cells #[()] EO)) (aI (some ⟨w,0,none⟩) 1 1) [[]]:=by
 refine⟨[aI none 0 0],World.ownsRow_lit w #[()] 1 hB aY rfl,?_⟩;intro k u z
 cases k with
 |zero=>simp only[List.getElem?_cons_zero,Option.some.injEq]at z;subst z;exact⟨[],rfl,aP.nil _ _ _⟩
 |succ k=>simp at z
theorem dA.keep{EI EO:TypeId}{B:Nat}{w w':World}{v:Value}{I:List (List Int)}(h:dA EI EO B w v I)(hb:Below w w w'):dA EI EO B w' v I:=by
 obtain⟨M,⟨J,h1⟩,h2⟩:=h;refine⟨M,⟨J,?_⟩,fun k u K=>?_⟩
 ·rcases h1 with h1|⟨g,cap,z,rfl,D,F,r⟩
  ·exact .inl h1
  ·exact .inr ⟨g,cap,z,rfl,D,by rw[hb.block g (Array.getElem?_eq_some_iff.1 F).1];exact F,r⟩
 ·obtain⟨l,h3,h4⟩:=h2 k u K;exact⟨l,h3,h4.keep hb⟩
theorem dA.mono{EI EO:TypeId}{B B':Nat}{w:World}{v:Value}{D:List (List Int)}(h:dA EI EO B w v D)(hB:B'<=B):dA EI EO B' w v D:=by
 obtain⟨K,⟨F,h1⟩,h2⟩:=h;refine⟨K,⟨F,?_⟩,fun k u J=>?_⟩
 ·rcases h1 with h1|⟨g,cap,z,rfl,I,r⟩
  ·exact .inl h1
  ·exact .inr ⟨g,cap,z,rfl,by omega,r⟩
 ·obtain⟨l,h3,h4⟩:=h2 k u J;exact⟨l,h3,h4.mono hB⟩
theorem dA.lt{EI EO:TypeId}{B:Nat}{w:World}{v:Value}{z:List (List Int)}(h:dA EI EO B w v z):∀k,v.ownBlock=some k->B<=k/\k<w.heap.size:=by
 obtain⟨D,h1,_⟩:=h;exact h1.lt
theorem dA.grow{EI EO:TypeId}{B B' n:Nat}{w w':World}{v z:Value}{J:List (List Int)}{R:List Value}(h:dA EI EO B w v J)(K:w.ownsRow B' EO 1 z n R)(M:EI≠EO)(F:w.grownBy w' z.ownBlock)(D:∀k,z.ownBlock=some k->v.ownBlock≠some k):dA EI EO B w' v J:=by
 obtain⟨O,h1,h2⟩:=h;refine⟨O,h1.kept F ?_,fun k u I=>?_⟩
 ·cases N:z.ownBlock with
  |none=>
   cases I:v.ownBlock with
   |none=>exact .inl rfl
   |some q=>exact .inr (by simp)
  |some q=>right;intro e;exact D q N e
 ·obtain⟨l,h3,h4⟩:=h2 k u I;exact⟨l,h3,h4.grow F (AI h4.1 K M)⟩
theorem dA.growLow{EI EO:TypeId}{B g:Nat}{w w':World}{v:Value}{F:List (List Int)}(h:dA EI EO B w v F)(D:w.grownBy w' (some g))(hB:g<B):dA EI EO B w' v F:=by
 obtain⟨K,h1,h2⟩:=h;refine⟨K,h1.kept D ?_,fun k u J=>?_⟩
 ·right;intro e;have:=(h1.lt g e).1;omega
 ·obtain⟨l,h3,h4⟩:=h2 k u J;exact⟨l,h3,h4.grow D (fun q I z=>by cases I;have:=(h4.lt _ z).1;omega)⟩
theorem dA.row{EI EO:TypeId}{B:Nat}{w:World}{v:Value}{z:List (List Int)}(h:dA EI EO B w v z):∃D,w.ownsRow B EO 1 v z.length D:=⟨h.choose,h.choose_spec.1⟩
theorem aP.growL{EI EO:TypeId}{B B' n:Nat}{w w':World}{u z:Value}{l:List Int}{J:List Value}(h:aP EI B w u l)(D:w.ownsRow B' EO 1 z n J)(F:EI≠EO)(I:w.grownBy w' z.ownBlock):aP EI B w' u l:=h.grow I (AI h.1 D F)
theorem dA.view{EI EO:TypeId}{B:Nat}{w:World}{a:Option Addr}{n c:Nat}{z:List (List Int)}(h:dA EI EO B w (aI a n c) z)(P:Program)(T:TypeId)(N:P.underlying T=some (.slice EO))(Z:SliceElem P EO)(k:Nat)(hk:k<z.length):
  ∃g u,(∀(w':World),(Instr.indexAt T (aI a n c) (aM (k:Int))).run P w'=.ok (.pointer (some ⟨g,k,none⟩)) w')/\w.cell? ⟨g,k,none⟩=some u/\aP EI B w u z[k]:=by
 obtain⟨F,h1,h2⟩:=h;have M:P.elem T=EO:=by simp[Program.elem,N]
 obtain⟨i,Y,_,J,_⟩:=Z.get;have hl:=h1.1;rcases h1.2 with⟨e,O⟩|⟨g,cap,I,e,hB,S,O,hm,K,ht⟩
 ·omega
 ·simp only[Value.slice.injEq]at e;obtain⟨rfl,rfl,rfl⟩:=e;have R:k<F.length:=aK;obtain⟨l,h3,h4⟩:=h2 k F[k] (List.getElem?_eq_getElem R);rw[List.getElem?_eq_getElem hk]at h3
  cases h3
  refine⟨g,F[k],fun w'=>?_,?_,h4⟩
  ·rw[run_indexAt_slice w' T ⟨g,0,none⟩ z.length c .i64 k (by rw[M];exact N),if_pos ⟨by omega,by omega⟩,M];simp[sizeOf,typeInfo,Y,J,Addr.add];exact fun h=>h.symm
  ·have D:w.ownsRow B EO 1 (aI (some ⟨g,0,none⟩) z.length c) z.length F:=⟨h1.1,.inr ⟨g,c,I,rfl,hB,S,O,hm,K,ht⟩⟩;rw[D.cellAt k aK];exact List.getElem?_eq_getElem R
theorem sJ{P:Program}{w:World}{ops:Array Oper}{rest:List Oper}{o:Oper}{a:Act}{Q:Exit->Act->World->Prop}(Y:o.guard=none)(s x:Operand)(t:TypeId)
  (ho:o.op=.call { callee:=.builtin .append,args:=#[s,x],argTypes:=#[t,t] })
  (EI EO:TypeId) (J:EI≠EO) (ht:P.underlying t=some (.slice EO)) (hE:SliceElem P EO) (B:Nat) (v:Value) (N:List (List Int)) (u:Value) (l:List Int) (b:Nat) (hs:a.eval s=v) (hx:a.eval x=aI (some ⟨b,0,none⟩) 1 1)
  (hy:w.cell? ⟨b,0,none⟩=some u) (M:dA EI EO B w v N) (hu:aP EI B w u l) (a8:N.length<5497558138879) (hB:B<=w.heap.size)
  (h:∀R w',dA EI EO B w' R (N++[l])->w.grownBy w' v.ownBlock->wpList P ops Q rest (a.put o.dst R) w'):wpList P ops Q (o::rest) a w:=by
 obtain⟨i,hi,hz,h1,h8⟩:=hE.get;obtain⟨O,D,a6⟩:=M;have K:u.oneCell'=true:=by
  obtain⟨a',n',c',rfl⟩:=hu.shape3
  rfl
 refine wpList_append_own w Y s x t ho B EO i (aI none 0 0) 1 24 ht hi hz h1 h8 rfl aY v N.length O hs D ⟨b,0,none⟩ 1 1 [u] hx rfl ?_ ?_ ?_ ?_ hB ?_
 ·intro j q I
  match j,I with
  |0,I=>simp at I;subst I;simpa[Addr.add]using hy
  |j+1,I=>simp at I
 ·intro q z;simp at z;subst z;exact K
 ·unfold maxLen;omega
 ·omega
 ·intro R w' F S _;refine h R w' ⟨O++[u],by simpa using F,fun k q z=>?_⟩ S;have hl:=D.1;by_cases hk:k<O.length
  ·rw[List.getElem?_append_left hk]at z;obtain⟨l',h3,h4⟩:=a6 k q z;exact⟨l',by rw[List.getElem?_append_left aK];exact h3,h4.grow S (AI h4.1 D J)⟩
  ·rw[List.getElem?_append_right aK]at z
   have Z:k-O.length=0:=by
    cases a1:k-O.length with
    |zero=>rfl
    |succ m=>rw[a1]at z;simp at z
   rw[Z]at z;simp only[List.getElem?_cons_zero,Option.some.injEq]at z;subst z;refine⟨l,?_,hu.grow S (AI hu.1 D J)⟩;rw[List.getElem?_append_right aK,show k-N.length=0 by omega];rfl
end Go.G5
namespace Go.Proofs.YtcpoomdoodlkjaaGreatDoor
open Go.RowKit Go.G5 Go.Proofs.Tryz
theorem jV:SliceElem prog 24:=⟨by kernel_rfl⟩
theorem rQ:(3:TypeId)≠24:=by decide
end Go.Proofs.YtcpoomdoodlkjaaGreatDoor
end
