/- Lemmas for CardReports. No condition. -/
import Derived.Test.YtcpoomdoodlkjaaGreatDoorQ11
set_option maxRecDepth 100000
set_option maxHeartbeats 64000000
namespace Go.Proofs.YtcpoomdoodlkjaaGreatDoor
section
open Go.RowKit Go.G5 Go.Proofs.Tryz
def eU(n:Int)(l:List Int):Bool:=(gE n l&&mN n l)&&gR n l
def wJ(l:List Int)(e:Nat):Bool:=!decide ((1:Int)<l.getD (2^e) 0)
def dH(n:Int)(l:List Int):Bool:=eU n l&&cJ (wJ l) n.toNat
theorem pH{n:Int}{l:List Int}(h:eU n l=true):bM n l=true:=by
 unfold eU gE at h;simp only[Bool.and_eq_true]at h;exact h.1.1.1
theorem uE(n:Int)(l:List Int)(v:Value)(w:World)(N:aR w v l)(hl:l.length<=1048576):
  Calls prog 48 #[.agg #[n,v]] w fun e w'=>e=.returned (.bool (eU n l))/\Below w w w':=by
 obtain⟨a,c,rfl⟩:=N.shape;have Y:=aU.new w 26 #[n,aI a l.length c];go_enter func48,ntmps48;go_wp2_with fail;refine(yY n l _ _ (N.alloc _)).mono ?_;rintro e w1 ⟨rfl,D⟩;have Z:=Y.keep D;have J:Below w w w1:=(bF _ _).after D (by simp);clear D Y
 cases M:gE n l with
 |false=>
  have z:eU n l=false:=by unfold eU;rw[M];rfl
  have I:=aN z;clear z M;go_wp2;go_ret;exact⟨by rw[I.out];rfl,J⟩
 |true=>
  have S:=aN M;clear M;have G1:=Z.cell;go_wp2_with fail;refine(SK n l _ _ (N.below J aO)).mono ?_;rintro e w2 ⟨rfl,F⟩;have K2:=Z.keep F;have K:=J.after F J.size;clear F G1
  cases O:mN n l with
  |false=>
   have z:eU n l=false:=by unfold eU;rw[S.out,O];rfl
   have I:=aN z;clear z O;go_wp2;go_ret;exact⟨by rw[I.out];rfl,K⟩
  |true=>
   have z:eU n l=gR n l:=by unfold eU;rw[S.out,O];rfl
   have I:=aN z;clear z O;have G2:=K2.cell;go_wp2_with fail;refine(sD n l _ _ (N.below K aO) hl).mono ?_;rintro e w3 ⟨rfl,R⟩;go_wp2;go_ret;exact⟨by rw[I.out];rfl,K.after R K.size⟩
theorem mV(n:Int)(l:List Int)(v:Value)(w:World)(N:aR w v l)(hl:l.length<=1048576):
  Calls prog 64 #[.agg #[n,v]] w fun e w'=>e=.returned (.bool (eU n l))/\Below w w w':=by
 obtain⟨a,c,rfl⟩:=N.shape;have Y:=aU.new w 26 #[n,aI a l.length c];go_enter func64,ntmps64;go_wp2_with fail;refine(yZ n l _ _ (N.alloc _)).mono ?_;rintro e w1 ⟨rfl,D⟩;have Z:=Y.keep D;have J:Below w w w1:=(bF _ _).after D (by simp);clear D Y
 cases M:gE n l with
 |false=>
  have z:eU n l=false:=by unfold eU;rw[M];rfl
  have I:=aN z;clear z M;go_wp2;go_ret;exact⟨by rw[I.out];rfl,J⟩
 |true=>
  have S:=aN M;clear M;have G1:=Z.cell;go_wp2_with fail;refine(SL n l _ _ (N.below J aO)).mono ?_;rintro e w2 ⟨rfl,F⟩;have K2:=Z.keep F;have K:=J.after F J.size;clear F G1
  cases O:mN n l with
  |false=>
   have z:eU n l=false:=by unfold eU;rw[S.out,O];rfl
   have I:=aN z;clear z O;go_wp2;go_ret;exact⟨by rw[I.out];rfl,K⟩
  |true=>
   have z:eU n l=gR n l:=by unfold eU;rw[S.out,O];rfl
   have I:=aN z;clear z O;have G2:=K2.cell;go_wp2_with fail;refine(sE n l _ _ (N.below K aO) hl).mono ?_;rintro e w3 ⟨rfl,R⟩;go_wp2;go_ret;exact⟨by rw[I.out];rfl,K.after R K.size⟩
theorem lQ(n:Int)(l:List Int)(v:Value)(w:World)(hv:aR w v l)(hl:l.length<=1048576):
  Calls prog 49 #[.agg #[n,v]] w fun e w'=>e=.returned (.bool (dH n l))/\Below w w w':=by
 have a6:=hv;obtain⟨a,b,d6,c,rfl,c5,Y,hc,hb⟩:=hv.view prog 24 3 underlying24 aS;have K0:=aU.new w 26 #[n,aI a l.length c]
 cases M:eU n l with
 |false=>
  have K:dH n l=false:=by unfold dH;rw[M];rfl
  have HX:=aN K;have HF:=aN M;clear K M hc;go_enter func49,ntmps49;go_wp2_with (go_at_call 48;refine(uE n l _ _ (a6.alloc _) hl).mono ?_;rintro e w1 ⟨rfl,D⟩;rw[HF.out]);go_ret;exact⟨aZ HX.out.symm,(bF _ _).after D (by simp)⟩
 |true=>
  obtain⟨N,rfl,d5,a1,b9,b6⟩:=cX (pH M);have K:dH N l=cJ (wJ l) N:=by unfold dH;rw[M];simp
  have HX:=aN K;have HF:=aN M;have b4:=aN a1;have HC:=aN hc;have b3:=aN Y;clear K M a1 hc Y b6;go_enter func49,ntmps49;go_wp2_with fail;refine(uE N l _ _ (a6.alloc _) hl).mono ?_;rintro e w1 ⟨rfl,D⟩;rw[HF.out];have K1:=K0.keep D;have B1:Below w w w1:=(bF _ _).after D (by simp);have G1:=K1.cell;have R:=aW HC.out hb B1 aO;have b0:=aN R;clear K0 D R;go_wp2_with fail;go_loop [9] (fun i=>∃k:Nat,k<=N/\i=aM k/\cJ (wJ l) k=true) (fun i=>N-(intOf i).toNat)
  case atStart=>exact⟨0,Nat.zero_le _,rfl,rfl⟩
  case round=>
   obtain⟨k,hk,rfl,I⟩:=hrel;have H:=aN I;clear I;by_cases Z:k<N
   ·have hp:2^k<l.length:=by rw[b4.out];exact Nat.pow_lt_pow_right aY Z
    have c0:=b0.out (2^k) hp;have i0:=fun W=>b3.out W (2^k) hp;have z:((2^k:Nat):Int)=(2:Int)^k:=by simp
    simp only[z]at i0;have F:wJ l k=!decide ((1:Int)<l[2^k]):=by unfold wJ;rw[aX l _ hp]
    obtain⟨x,K⟩:=aQ (l[2^k]);rw[<-K]at c0 F;have HO:=aN F;have d7:(2:Int)^k<=32:=by rw[<-z];omega
    have d8:=(cO k k aO).2;have wk:IntKind.i64.wrap ((2:Int)^k)=2^k:=by rw[IntKind.wrap_i64];omega
    clear F K z hp;by_cases S:(1:Int)<x
    ·have J:dH N l=false:=by rw[HX.out];exact dG Z (by rw[HO.out,decide_eq_true S];rfl)
     have O:=aN J;clear J;go_wp2;go_ret;exact⟨aZ O.out.symm,B1⟩
    ·have hu:wJ l k=true:=by rw[HO.out,decide_eq_false S];rfl
     have HU:=aN hu;clear hu;go_wp2;go_round
     case rel=>exact⟨k+1,by omega,by go_num,dN H.out HU.out⟩
     case measure=>simp[intOf];omega
   ·have b5:k=N:=aK;subst b5;go_wp2;go_ret;exact⟨aZ (by rw[HX.out,H.out]),B1⟩
theorem lR(n:Int)(l:List Int)(v:Value)(w:World)(hv:aR w v l)(hl:l.length<=1048576):
  Calls prog 65 #[.agg #[n,v]] w fun e w'=>e=.returned (.bool (dH n l))/\Below w w w':=by
 have J:=hv;obtain⟨a,b,d8,c,rfl,c6,a8,hc,hb⟩:=hv.view prog 24 3 underlying24 aS;have K0:=aU.new w 26 #[n,aI a l.length c]
 cases Y:eU n l with
 |false=>
  have R:dH n l=false:=by unfold dH;rw[Y];rfl
  have HX:=aN R;have HF:=aN Y;clear R Y hc;go_enter func65,ntmps65;go_wp2_with fail;go_loopw [3] (fun i wr=>i=aM 0/\Below w w wr/\aU wr w 26 #[n,aI a l.length c]) (fun _ _=>0)
  case atStart=>exact⟨rfl,bF _ _,K0⟩
  case round=>obtain⟨rfl,B,K⟩:=hrel;have Z:=K.cell;go_wp2_with fail;refine(mV n l _ _ (J.below B aO) hl).mono ?_;rintro e w1 ⟨rfl,D⟩;rw[HF.out];have I:=B.after D B.size;have K1:=K.keep D;clear Z;have Z:=K1.cell;go_wp2_with fail;refine(mV n l _ _ (J.below I aO) hl).mono ?_;rintro e w2 ⟨rfl,S⟩;rw[HF.out];go_wp2;go_ret;exact⟨aZ HX.out.symm,I.after S I.size⟩
 |true=>
  obtain⟨N,rfl,d7,b0,c5,b8⟩:=cX (pH Y);have R:dH N l=cJ (wJ l) N:=by unfold dH;rw[Y];simp
  have HX:=aN R;have HF:=aN Y;have b5:=aN b0;have HC:=aN hc;have b4:=aN a8;clear R Y b0 hc a8 b8;go_enter func65,ntmps65;go_wp2_with fail;go_loopw [3] (fun i wr=>∃k:Nat,k<=N/\i=aM k/\cJ (wJ l) k=true/\Below w w wr/\aU wr w 26 #[N,aI a l.length c]) (fun i _=>N-(intOf i).toNat)
  case atStart=>exact⟨0,Nat.zero_le _,rfl,rfl,bF _ _,K0⟩
  case round=>
   obtain⟨k,hk,rfl,M,B,K⟩:=hrel;obtain⟨wo,rfl⟩:∃wo:World,wo=wr:=⟨_,rfl⟩;have H:=aN M;clear M K0;have Z:=K.cell;go_wp2_with fail;refine(mV N l _ _ (J.below B aO) hl).mono ?_;rintro e w1 ⟨rfl,D⟩;rw[HF.out];have K:=K.keep D;have I:=B.after D B.size;clear Z D B;have Z:=K.cell;by_cases a9:k<N
   ·have hp:2^k<l.length:=by rw[b5.out];exact Nat.pow_lt_pow_right aY a9
    have c0:=aW HC.out hb I aO (2^k) hp;have i0:=fun W=>b4.out W (2^k) hp;have z:((2^k:Nat):Int)=(2:Int)^k:=by simp
    simp only[z]at i0;have F:wJ l k=!decide ((1:Int)<l[2^k]):=by unfold wJ;rw[aX l _ hp]
    obtain⟨x,R⟩:=aQ (l[2^k]);rw[<-R]at c0 F;have HO:=aN F;have d9:(2:Int)^k<=32:=by rw[<-z];omega
    have e0:=(cO k k aO).2;have wk:IntKind.i64.wrap ((2:Int)^k)=2^k:=by rw[IntKind.wrap_i64];omega
    clear F R z hp;by_cases a7:(1:Int)<x
    ·have O:dH N l=false:=by rw[HX.out];exact dG a9 (by rw[HO.out,decide_eq_true a7];rfl)
     have a1:=aN O;clear O;go_wp2_with fail;go_quiet (fail);go_wp2;go_ret;exact⟨aZ a1.out.symm,I.drewN' _⟩
    ·have hu:wJ l k=true:=by rw[HO.out,decide_eq_false a7];rfl
     have HU:=aN hu;clear hu;go_wp2_with fail;go_quiet (fail);go_wp2;go_roundw
     case rel=>exact⟨k+1,by omega,by go_num,dN H.out HU.out,I.drewN' _,K.drewN _⟩
     case measure=>simp[intOf];omega
   ·have b7:k=N:=aK;subst b7;go_wp2_with fail;refine(mV k l _ _ (J.below I aO) hl).mono ?_;rintro e w2 ⟨rfl,S⟩;rw[HF.out];go_wp2;go_ret;exact⟨aZ (by rw[HX.out,H.out]),I.after S I.size⟩
def tU(l:List Int)(s:Nat):Int:=l.getD (l.length-1-s) 0
def pE(l:List Int):List Int:=eR (tU l) l.length
def AH(n:Int)(l:List Int):Int:=if bM n l then n else 0
def zJ(n:Int)(l:List Int):List Int:=if bM n l then pE l else []
def pT(n:Int)(l:List Int):Bool:=bM n l&&decide (l=pE l)
def jP(n:Int)(l:List Int):Bool:=(gR n l&&pT n l)&&decide (2<=n)
def jN(l:List Int):Nat->Nat
 |0=>1
 |k+1=>if k<2 then 1 else if l.getD k 0<l.getD (jN l k) 0 then k else jN l k
def uN(n:Int)(l:List Int):Int:=if jP n l then (jN l (l.length-1):Int) else 0
def qK(n:Int)(l:List Int):Int:=if jP n l then l.getD (jN l (l.length-1)) 0 else 0
theorem XY(l:List Int):jN l 2=1:=rfl
theorem zQ(l:List Int)(k:Nat)(h:2<=k):jN l (k+1)=if l.getD k 0<l.getD (jN l k) 0 then k else jN l k:=by rw[jN,if_neg aK]
theorem NP(l:List Int):∀k,2<=k->1<=jN l k/\jN l k<k:=by
 intro k
 induction k with
 |zero=>intro h;omega
 |succ k ih=>
  intro h;by_cases hk:2<=k
  ·have:=ih hk;rw[zQ l k hk]
   split<;>omega
  ·have:k=1:=aK;subst this;rw[XY];omega
theorem aeT(l:List Int):(pE l).length=l.length:=by unfold pE eR;simp
theorem EX(l:List Int)(s:Nat)(h:s<l.length):tU l s=l[l.length-1-s]:=by unfold tU;exact aX l _ aK
theorem agR(n:Int)(l:List Int)(h:bM n l=true):bM n (pE l)=true:=by
 obtain⟨J,K,z,D⟩:=lB h;unfold bM kO;rw[aeT,dK.2 ⟨J,K⟩,decide_eq_true z];simp only[Bool.true_and,List.all_eq_true];intro x I;unfold pE eR at I;obtain⟨s,F,rfl⟩:=List.mem_map.1 I;rw[List.mem_range]at F;rw[EX l s F];exact dK.2 (D _ aK)
theorem J8:∀n:Nat,n<=5->∀s:Nat,s<2^n->cV (2^n-1) s=2^n-1-s:=by decide +kernel
def fA(n:Int)(l:List Int)(m:Int)(k:List Int):Bool:=(dH n l&&dH m k)&&decide (n=m)
def eO(l:List Int)(s:Nat):Bool:=decide (l.getD s 0=(bR s:Int))
def qN(l k:List Int):Nat->Nat
 |0=>0
 |t+1=>if decide (bR (qN l k t)<bR t)&&(eO l t&&eO k t) then t else qN l k t
def pP(l k:List Int)(t:Nat):Int:=l.getD t 0+k.getD (l.length-1-t) 0
def iQ(l k:List Int):Nat->Nat
 |0=>0
 |t+1=>if pP l k t<pP l k (iQ l k t) then t else iQ l k t
def xU(n:Int)(l:List Int)(m:Int)(k:List Int):Int:=if fA n l m k then (qN l k l.length:Int) else 0
def xK(n:Int)(l:List Int)(m:Int)(k:List Int):Int:=if fA n l m k then (iQ l k l.length:Int) else 0
def uK(n:Int)(l:List Int)(m:Int)(k:List Int):Int:=if fA n l m k then pP l k (iQ l k l.length) else 0
theorem MV(l k:List Int):∀t,0<t->qN l k t<t:=by
 intro t
 induction t with
 |zero=>intro h;omega
 |succ t ih=>
  intro _;rw[qN]
  split
  ·omega
  ·rcases Nat.eq_zero_or_pos t with rfl|h
   ·simp[qN]
   ·have:=ih h;omega
theorem NG(l k:List Int):∀t,0<t->iQ l k t<t:=by
 intro t
 induction t with
 |zero=>intro h;omega
 |succ t ih=>
  intro _;rw[iQ]
  split
  ·omega
  ·rcases Nat.eq_zero_or_pos t with rfl|h
   ·simp[iQ]
   ·have:=ih h;omega
theorem aeD(l k:List Int):qN l k 1=0:=by
 have:=MV l k 1 aK;omega
theorem T6(l k:List Int):iQ l k 1=0:=by
 have:=NG l k 1 aK;omega
theorem pX{n m:Int}{l k:List Int}(h:fA n l m k=true):m=n/\∃N:Nat,n=N/\N<=5/\l.length=2^N/\l.length<=32/\k.length=l.length/\(∀i,(R:i<l.length)->-1000<=l[i]/\l[i]<=1000)/\(∀i,(R:i<k.length)->-1000<=k[i]/\k[i]<=1000):=by
 unfold fA dH at h;simp only[Bool.and_eq_true,decide_eq_true_eq]at h;obtain⟨⟨⟨h1,_⟩,h2,_⟩,rfl⟩:=h;obtain⟨N,rfl,D,I,z,J⟩:=cX (pH h1);obtain⟨M,Y,O,S,K,F⟩:=cX (pH h2);have:N=M:=aK;subst this;exact⟨rfl,N,rfl,D,I,z,by omega,J,F⟩
theorem ZS(n:Nat)(hn:n<=5)(l:List Int)(v:Value)(g s:Nat)(W:World)(hv:aR W v l)(hl:l.length=2^n)(hs:s<2^n)(c0:W.cell? ⟨g,0,none⟩=some (aM n))(c1:W.cell? ⟨g,1,none⟩=some v):
  Calls prog 264 #[s,.pointer (some ⟨g,0,none⟩)] W fun e w'=>e=.returned (tU l s)/\Below W W w':=by
 have R:=hv;obtain⟨a,b,S,c,rfl,a1,J,hc,hb⟩:=hv.view prog 24 3 underlying24 aS;have Z:=EX l s aK;have p5:(2:Nat)^n<=32:=Nat.pow_le_pow_right (n:=2) aY hn;have hd:=J8 n hn s hs;have z:=vS (2^n-1) s aK aK;rw[hd]at z;have N:=Nat.two_pow_pos n;have D:((2^n-1:Nat):Int)=(2:Int)^n-1:=by rw[Int.ofNat_sub N];simp
 rw[D]at z;have I:=hc (l.length-1-s) aK;have F:=fun W=>J W (l.length-1-s) aK;rw[<-Z]at I;rw[hl]at I F;have e0:∀x:Ext W,x.w.cell? ⟨g,0,none⟩=some (aM n):=fun x=>x.cell c0;have e1:∀x:Ext W,x.w.cell? ⟨g,1,none⟩=some (aI a l.length c):=fun x=>x.cell c1;have e2:∀x:Ext W,x.w.cell? ⟨b,S+(2^n-1-s),none⟩=some (aM (tU l s)):=fun x=>x.cell I;obtain⟨q,O⟩:=aQ (tU l s);rw[<-O]at e2;obtain⟨m,hm⟩:=aQ (2^n-1-s);simp only[<-hm]at F e2 z;have HQ:=aN O;have K:=aN (fun(x:Ext W)=>tY (n:Int) (aI a l.length c) l x.w (x.ints R) aK aK);have Y:l.length=2^n:=hl;rw[<-Y]at F;have a8:=aN hl;clear hc J hb Z hd I O hm D hl Y;go_enter func264,ntmps264;go_wp2_with fail;refine bN _ aT aT ?_
 repeat(first|go_big_quiet_skip|(go_big_quiet_want;go_big_quiet_op;first|go_big_quiet_on|(apply Exists.intro;refine⟨fun _=>?_,?_⟩;(go_at_call 182;exact bO (K.out _));go_big_quiet_on)))
 refine wpQuiet_nil ?_;rintro w3 ⟨⟨w3,M⟩,rfl⟩
 try dsimp only
 go_wp2;go_ret;exact⟨fI HQ.out,M⟩
theorem FD:∀args w,(callFunc 264 args).run prog w=.ok (.enter 264 args) w:=enters_of func264 aT rfl
theorem ah8(w:World)(n:Int)(v:Value)(l:List Int)(hv:aR w v l)(_:l.length<=1048576):
  Calls prog 171 #[.agg #[n,v]] w fun e w'=>∃ad i S,e=.returned (.tuple #[.agg #[(AH n l),aI ad i S],.bool (bM n l)])/\aP 3 w w' (aI ad i S) (zJ n l)/\Below w w w':=by
 obtain⟨a,c,rfl⟩:=hv.shape;have d9:∀(fn:Fn) (first cap:Array Value) (w:World),(Instr.makeFunc fn first cap).run prog w=.ok (.func fn first cap) w:=fun _ _ _ _=>rfl;go_enter func171,ntmps171;go_wp2_with fail;refine bH ?_;intro V hV;have B:Below w w V:=gD hV;have K1:aU V w 26 #[n,aI a l.length c]:=gO hV;have F:aU V (w.heap.size+1) 26 #[aJ,()]:=gY hV;clear hV;refine(dV n l _ _ (hv.below B aO)).mono ?_;rintro e w1 ⟨rfl,J⟩;have K1:=K1.keep J;have F:=F.keep J;have B1:=B.after J B.size;have c9:=hv.below B1 aO;clear B J;have G1:=K1.cell;have z1:=K1.lt;have z2:=F.lt
 cases K:bM n l with
 |false=>
  have Z:AH n l=0:=by unfold AH;rw[K];rfl
  have Y:zJ n l=[]:=by unfold zJ;rw[K];rfl
  have HN:=aN Z;have HL:=aN Y;have HF:=aN K;have G2:=F.cell;have F2:=F.frozen;clear Z Y;go_wp2;refine bG ?_;intro Wf z;have M:aU Wf (w.heap.size+1) 26 #[aJ,()]:=by rw[z];have:=(F.set 0 (aM 0)).set 1 (aI none 0 0);simpa using this
  have Bf:Below w w Wf:=by rw[z];exact Below.setCell (Below.setCell B1 (by first|omega|(simp;done)|(simp;omega)) _) (by first|omega|(simp;done)|(simp;omega)) _
  have Gf:=M.cell;clear z G1 G2 F2;exact bodyPost_ret (v:=.tuple #[.agg #[aJ,()],.bool false]) (by simp[results,results171,go_sem,Gf]) rfl ⟨none,0,0,by rw[HN.out,HF.out],by rw[HL.out];exact aP.nil _ _ _,Bf⟩
 |true=>
  obtain⟨h0,h5,I,a7⟩:=lB K;obtain⟨N,rfl⟩:=Int.eq_ofNat_of_zero_le h0;have a1:N<=5:=aK;have R:l.length=2^N:=by
   have e2:(N:Int).toNat=N:=aK;rw[e2]at I
   exact_mod_cast I
  have Z:AH N l=N:=by unfold AH;rw[K];rfl
  have Y:zJ N l=pE l:=by unfold zJ;rw[K];rfl
  have D:eR (tU l) (2^N)=pE l:=by unfold pE;rw[R]
  have a6:bM N (eR (tU l) (2^N))=true:=by rw[D];exact agR N l K
  have a8:∀W,aR W (aI a l.length c) l->W.cell? ⟨w.heap.size,0,none⟩=some (aM N)->W.cell? ⟨w.heap.size,1,none⟩=some (aI a l.length c)->Calls prog 262 #[N,.func (.func 264) #[] #[.pointer (some ⟨w,0,none⟩)]] W fun e w'=>
    ∃ad i S,e=.returned (.tuple #[.agg #[N,aI ad i S],.bool true])/\aP 3 W w' (aI ad i S) (pE l)/\Below W W w':=fun W hW c0 c1=>by
   have:=G8 W N a1 264 FD w.heap.size (tU l) (fun s hs=>by rw[EX l s aK];have:=a7 (l.length-1-s) aK;exact⟨by omega,by omega⟩)
    (fun s W' hs hB=>ZS N a1 l _ w.heap.size s W' (hW.keep hB) R hs (keep hB c0) (keep hB c1))
   rw[a6,if_pos rfl,if_pos rfl,D]at this;exact this
  have HN:=aN Z;have HL:=aN Y;have HF:=aN K;have c6:=aN a8;clear Z Y K D a6 a8 R I a7;go_wp2_with fail;refine(c6.out _ c9 (G1 0) (G1 1)).mono ?_;rintro e w3 ⟨p3,i3,q3,rfl,o3,O⟩;have F:=F.keep O;have B3:=B1.after O B1.size;have G2:=F.cell;have F2:=F.frozen;have z3:=F.lt;clear G1 O;go_wp2;refine bG ?_;intro Wf z;have M:aU Wf (w.heap.size+1) 26 #[N,aI p3 i3 q3]:=by rw[z];have:=(F.set 0 (aM N)).set 1 (aI p3 i3 q3);simpa using this
  have Bf:Below w w Wf:=by rw[z];exact Below.setCell (Below.setCell B3 (by first|omega|(simp;done)|(simp;omega)) _) (by first|omega|(simp;done)|(simp;omega)) _
  have of:aP 3 w Wf (aI p3 i3 q3) (pE l):=by rw[z];exact((o3.setBelow (by first|omega|(simp;done)|(simp;omega)) _).setBelow (by first|omega|(simp;done)|(simp;omega)) _).mono (by first|omega|(simp;done)|(simp;omega))
  have Gf:=M.cell;clear z G2 F2;exact bodyPost_ret (v:=.tuple #[.agg #[N,aI p3 i3 q3],.bool true]) (by simp[results,results171,go_sem,Gf]) rfl ⟨p3,i3,q3,by rw[HN.out,HF.out],by rw[HL.out];exact of,Bf⟩
theorem YS(n F:Int)(v J:Value)(l D:List Int)(w:World)(I:aR w v l)(z:aR w J D):
  Calls prog 172 #[.agg #[n,v],.agg #[F,J]] w fun e w'=>e=.returned (.bool (n==F&&decide (l=D)))/\Below w w w':=by
 obtain⟨a,c,rfl⟩:=I.shape;obtain⟨K,M,rfl⟩:=z.shape
 cases h:(n==F) with
 |false=>go_enter func172,ntmps172;go_wp2;go_ret;exact⟨rfl,wM _ _ _⟩
 |true=>go_enter func172,ntmps172;go_wp2_with (go_at_call 265;refine(KW _ _ l D _ ((I.alloc _).alloc _) ((z.alloc _).alloc _)).mono ?_;rintro e w2 ⟨rfl,N,rfl⟩);go_ret;exact⟨rfl,(wM _ _ _).drewN' _⟩
theorem UE(n:Int)(l:List Int)(v:Value)(w:World)(O:aR w v l)(hl:l.length<=1048576):
  Calls prog 47 #[.agg #[n,v]] w fun e w'=>e=.returned (.bool (pT n l))/\Below w w w':=by
 obtain⟨a,c,rfl⟩:=O.shape;have K0:=aU.new w 26 #[n,aI a l.length c];go_enter func47,ntmps47;go_wp2_with fail;refine(ah8 _ n _ l (O.alloc _) hl).mono ?_;rintro e w1 ⟨p1,Z,q1,rfl,o1,I⟩;have M:=K0.keep I;have D:Below w w w1:=(bF _ _).after I (by simp);have y1:=D.size;have z1:=M.lt
 cases F:bM n l with
 |false=>
  have J:pT n l=false:=by unfold pT;rw[F];rfl
  have HX:=aN J;clear J F;go_wp2;go_ret;exact⟨by rw[HX.out];rfl,(by repeat(first|exact Below.refl _ _|(with_reducible refine Below.setCell ?_ (by first|omega|(simp;done)|(simp;omega)) _)|(with_reducible refine Below.alloc ?_ (by first|omega|(simp;done)|(simp;omega)) _)|(with_reducible refine Below.drewN' ?_ _)|(with_reducible refine Below.drew ?_)|(with_reducible assumption)|refine Below.trans ?_ (Below.mono (by assumption) (by first|omega|(simp;done)|(simp;omega)))))⟩
 |true=>
  have J:pT n l=decide (l=pE l):=by unfold pT;rw[F];rfl
  have Y:AH n l=n:=by unfold AH;rw[F];rfl
  have S:zJ n l=pE l:=by unfold zJ;rw[F];rfl
  rw[S]at o1;have z:=fun W (h1:aR W (aI a l.length c) l) (h2:aR W (aI p1 Z q1) (pE l))=>YS n n _ _ l (pE l) W h1 h2;simp only[beq_self_eq_true,Bool.true_and,<-J]at z;have K:=aN z;have ca:∀i,(w1.alloc (.cells #[n,aI p1 Z q1] 26)).cell? ⟨w.heap.size,i,none⟩=(#[aM n,aI a l.length c]:Array Value)[i]?:=(M.alloc _).cell;rw[Y];have R:=O.below D aO;clear J Y S z F;have G1:=M.cell;go_wp2_with (go_at_call 172;refine(K.out _ (R.alloc _) (o1.alloc _).ints).mono ?_;rintro e w2 ⟨rfl,N⟩);go_ret;exact⟨rfl,(D.alloc D.size _).after N (D.alloc D.size _).size⟩
theorem IV(n:Int)(l:List Int)(v:Value)(w:World)(N:aR w v l)(hl:l.length<=1048576):
  Calls prog 186 #[.agg #[n,v]] w fun e w'=>e=.returned (.bool (jP n l))/\Below w w w':=by
 obtain⟨a,c,rfl⟩:=N.shape;have S:=aU.new w 26 #[n,aI a l.length c];go_enter func186,ntmps186;go_wp2_with fail;refine(sD n l _ _ (N.alloc _) hl).mono ?_;rintro e w1 ⟨rfl,D⟩;have Y:=S.keep D;have J:Below w w w1:=(bF _ _).after D (by simp);clear D S
 cases K:gR n l with
 |false=>
  have z:jP n l=false:=by unfold jP;rw[K];rfl
  have I:=aN z;clear z K;go_wp2;go_ret;exact⟨by rw[I.out];rfl,J⟩
 |true=>
  have R:=aN K;clear K;have Z:=Y.cell;go_wp2_with fail;refine(UE n l _ _ (N.below J aO) hl).mono ?_;rintro e w2 ⟨rfl,F⟩;have K2:=Y.keep F;have O:=J.after F J.size;clear F Z
  cases M:pT n l with
  |false=>
   have z:jP n l=false:=by unfold jP;rw[R.out,M];rfl
   have I:=aN z;clear z M;go_wp2;go_ret;exact⟨by rw[I.out];rfl,O⟩
  |true=>
   have z:jP n l=decide (2<=n):=by unfold jP;rw[R.out,M];rfl
   have I:=aN z;clear z M;have G2:=K2.cell;go_wp2;go_ret;exact⟨by rw[I.out];rfl,O⟩
theorem MK{n:Int}{l:List Int}(h:jP n l=true):bM n l=true/\2<=n:=by
 unfold jP gR at h;simp only[Bool.and_eq_true,decide_eq_true_eq]at h;exact⟨h.1.1.1,h.2⟩
theorem RR{n:Int}{l:List Int}(h:jP n l=true):4<=l.length/\l.length<=32/\(l.length:Int)=2^n.toNat/\n<=5/\∀k,(hk:k<l.length)->-1000<=l[k]/\l[k]<=1000:=by
 obtain⟨h1,h2⟩:=MK h;obtain⟨N,I,z,F⟩:=lB h1;obtain⟨m,hm⟩:∃m:Nat,n.toNat=m:=⟨_,rfl⟩;have D:2<=m/\m<=5:=aK;have K:(2:Nat)^2<=2^m:=Nat.pow_le_pow_right aY D.1;have M:(2:Nat)^m<=2^5:=Nat.pow_le_pow_right aY D.2;have J:l.length=2^m:=by rw[hm]at z;exact_mod_cast z
 exact⟨by omega,by omega,z,I,F⟩
theorem abY(w:World)(n:Int)(v:Value)(l:List Int)(hv:aR w v l)(hl:l.length<=1048576):
  Calls prog 74 #[.agg #[n,v]] w fun e w'=>e=.returned (.tuple #[(qK n l),(uN n l),.bool (jP n l)])/\Below w w w':=by
 have M:=hv;obtain⟨a,b,f4,c,rfl,d8,a8,hc,hb⟩:=hv.view prog 24 3 underlying24 aS;have K0:=aU.new w 26 #[n,aI a l.length c]
 cases J:jP n l with
 |false=>
  have hN:qK n l=0:=by unfold qK;rw[J];rfl
  have hS:uN n l=0:=by unfold uN;rw[J];rfl
  have H:=aN (And.intro hN hS);have HF:=aN J;clear hN hS J hc;go_enter func74,ntmps74;go_wp2_with (go_at_call 186;refine(IV n l _ _ (M.alloc _) hl).mono ?_;rintro e w1 ⟨rfl,F⟩;rw[HF.out]);go_ret3;exact⟨by rw[H.out.1,H.out.2];rfl,(bF _ _).after F (by simp)⟩
 |true=>
  obtain⟨h4,f0,N,f3,b1⟩:=RR J;have d0:0<=n:=by have:=(MK J).2;omega
  have hN:qK n l=l.getD (jN l (l.length-1)) 0:=by unfold qK;rw[J];rfl
  have hS:uN n l=(jN l (l.length-1):Int):=by unfold uN;rw[J];rfl
  have H:=aN (And.intro hN hS);have HF:=aN J;have e7:=aN b1;have HC:=aN hc;have S:=aN a8;have Y:=aN N;have R:=aN (fun(W:World) (hW:aR W (aI a l.length c) l)=>tY n (aI a l.length c) l W hW d0 aK);clear hN hS J b1 hc a8 N;go_enter func74,ntmps74;go_wp2_with fail;refine(IV n l _ _ (M.alloc _) hl).mono ?_;rintro e w1 ⟨rfl,F⟩;rw[HF.out];have K1:=K0.keep F;have B1:Below w w w1:=(bF _ _).after F (by simp);clear K0 F;go_wp2_with fail;go_loopw [5,6] (fun c6 i wr=>∃k:Nat,2<=k/\k<=l.length-1/\i=aM k/\c6=aM (jN l k:Int)/\Below w w wr/\aU wr w 26 #[n,aI a l.length c]) (fun _ i _=>l.length-(intOf i).toNat)
  case atStart=>exact⟨2,by omega,by omega,rfl,rfl,B1,K1⟩
  case round=>
   obtain⟨k,a9,hk,rfl,rfl,B,K⟩:=hrel;have G1:=K.cell;have c8:=NP l k a9;obtain⟨p,hp⟩:=aQ (jN l k);rw[<-hp]at c8 ⊢;have cp:=HC.out p aK;have D:=aW HC.out hb B aO p aK;have ip:=fun W=>S.out W p aK;by_cases hlt:k<l.length-1
   ·have I:=zQ l k a9;rw[<-hp,aX l k aK,aX l p aK]at I;have ck:=aW HC.out hb B aO k aK;have ik:=fun W=>S.out W k aK;obtain⟨x,hx⟩:=aQ (l[k]);obtain⟨y,hy⟩:=aQ (l[p]);rw[<-hx]at ck I;rw[<-hy]at D I;have b3:(k:Int)<2^n.toNat-1:=by rw[<-Y.out];omega
    have Z:=aN I;clear I hp hx hy cp;go_wp2_with fail;refine(R.out _ (M.below B aO)).mono ?_;rintro e w3 ⟨rfl,z⟩;have B3:=B.after z B.size;have K3:=K.keep z;have ck:=keep z ck;have D:=keep z D;clear G1 z;have G3:=K3.cell;by_cases b5:x<y
    ·have O:=aN (Z.out.trans (if_pos b5));go_wp2_with fail;go_quiet (fail);go_wp2;go_roundw
     case rel=>exact⟨k+1,by omega,by omega,by go_num,by rw[O.out],B3.drewN' _,K3.drewN _⟩
     case measure=>simp[intOf];omega
    ·have O:=aN (Z.out.trans (if_neg b5));go_wp2_with fail;go_quiet (fail);go_wp2;go_roundw
     case rel=>exact⟨k+1,by omega,by omega,by go_num,by rw[O.out],B3.drewN' _,K3.drewN _⟩
     case measure=>simp[intOf];omega
   ·have b0:k=l.length-1:=aK;have b3:¬(k:Int)<2^n.toNat-1:=by rw[<-Y.out];omega
    have hg:l.getD p 0=l[p]:=aX l p aK;obtain⟨y,hy⟩:=aQ (l[p]);rw[<-hy]at D hg;have HP:=aN hp;have HG:=aN hg;have c5:=aN b0;clear hp hg b0 hy cp;go_wp2_with fail;refine(R.out _ (M.below B aO)).mono ?_;rintro e w3 ⟨rfl,z⟩;have B3:=B.after z B.size;have K3:=K.keep z;have D:=keep z D;clear G1 z;have G3:=K3.cell;go_wp2;go_ret3;exact⟨by rw[H.out.1,H.out.2,<-c5.out,<-HP.out,HG.out];rfl,B3⟩
theorem rY(a b:Int):(a==b)=decide (a=b):=by by_cases h:a=b<;>simp[h]
theorem vP(w:World)(n:Int)(v:Value)(l:List Int)(R:aR w v l)(hl:l.length<=1048576)(m:Int)(u:Value)(k:List Int)(O:aR w u k)(hk:k.length<=1048576):
  Calls prog 199 #[.agg #[n,v],.agg #[m,u]] w fun e w'=>e=.returned (.bool (fA n l m k))/\Below w w w':=by
 obtain⟨a,c,rfl⟩:=R.shape;obtain⟨b,d,rfl⟩:=O.shape;go_enter func199,ntmps199;go_wp2_with fail;refine bH ?_;intro V J;have B:Below w w V:=gD J;have D:aU V w 26 #[n,aI a l.length c]:=gO J;have z:aU V (w.heap.size+1) 26 #[m,aI b k.length d]:=gY J;clear J;refine(lQ n l _ V (R.below B aO) hl).mono ?_;rintro e w1 ⟨rfl,N⟩;have D:=D.keep N;have z:=z.keep N;have B:=B.after N B.size;have z2:=z.lt
 cases h1:dH n l with
 |false=>
  have F:fA n l m k=false:=by unfold fA;rw[h1];rfl
  have I:=aN F;clear F h1;have S:=D.cell;have K:=z.cell;go_wp2;go_ret;exact⟨aZ I.out.symm,B⟩
 |true=>
  have Y:=aN h1;clear h1;have K:=z.cell;go_wp2_with fail;clear K;refine(lQ m k _ w1 (O.below B aO) hk).mono ?_;rintro e w2 ⟨rfl,b2⟩;have D:=D.keep b2;have z:=z.keep b2;have B:=B.after b2 B.size;have F:fA n l m k=(dH m k&&decide (n=m)):=by unfold fA;rw[Y.out];rfl
  have I:=aN F;clear F;have S:=D.cell;have K:=z.cell;have z2:=z.lt
  cases h2:dH m k with
  |false=>have M:=aN h2;clear h2;go_wp2;go_ret;exact⟨aZ (by rw[I.out,M.out];rfl),B⟩
  |true=>have M:=aN h2;clear h2;go_wp2;go_ret;exact⟨aZ (by rw[I.out,M.out,Bool.true_and];exact rY n m),B⟩
theorem vQ(w:World)(n:Int)(v:Value)(l:List Int)(R:aR w v l)(hl:l.length<=1048576)(m:Int)(u:Value)(k:List Int)(O:aR w u k)(hk:k.length<=1048576):
  Calls prog 207 #[.agg #[n,v],.agg #[m,u]] w fun e w'=>e=.returned (.bool (fA n l m k))/\Below w w w':=by
 obtain⟨a,c,rfl⟩:=R.shape;obtain⟨b,d,rfl⟩:=O.shape;go_enter func207,ntmps207;go_wp2_with fail;refine bH ?_;intro V J;have B:Below w w V:=gD J;have D:aU V w 26 #[n,aI a l.length c]:=gO J;have z:aU V (w.heap.size+1) 26 #[m,aI b k.length d]:=gY J;clear J;refine(lR n l _ V (R.below B aO) hl).mono ?_;rintro e w1 ⟨rfl,N⟩;have D:=D.keep N;have z:=z.keep N;have B:=B.after N B.size;have z2:=z.lt
 cases h1:dH n l with
 |false=>
  have F:fA n l m k=false:=by unfold fA;rw[h1];rfl
  have I:=aN F;clear F h1;have S:=D.cell;have K:=z.cell;go_wp2;go_ret;exact⟨aZ I.out.symm,B⟩
 |true=>
  have Y:=aN h1;clear h1;have K:=z.cell;go_wp2_with fail;clear K;refine(lR m k _ w1 (O.below B aO) hk).mono ?_;rintro e w2 ⟨rfl,b2⟩;have D:=D.keep b2;have z:=z.keep b2;have B:=B.after b2 B.size;have F:fA n l m k=(dH m k&&decide (n=m)):=by unfold fA;rw[Y.out];rfl
  have I:=aN F;clear F;have S:=D.cell;have K:=z.cell;have z2:=z.lt
  cases h2:dH m k with
  |false=>have M:=aN h2;clear h2;go_wp2;go_ret;exact⟨aZ (by rw[I.out,M.out];rfl),B⟩
  |true=>have M:=aN h2;clear h2;go_wp2;go_ret;exact⟨aZ (by rw[I.out,M.out,Bool.true_and];exact rY n m),B⟩
theorem sC(w:World)(n:Int)(v:Value)(l:List Int)(S:aR w v l)(s:Nat)(M:s<l.length)(a6:s<64):
  Calls prog 193 #[.agg #[n,v],s] w fun e w'=>e=.returned (.bool (eO l s))/\Below w w w':=by
 have a7:=S;obtain⟨a,b,N,c,rfl,R,D,hc,hb⟩:=S.view prog 24 3 underlying24 aS;obtain⟨V,F⟩:=aQ (w.alloc (.cells #[n,aI a l.length c] 26));have B:Below w w V:=fU F;have K1:aU V w 26 #[n,aI a l.length c]:=eJ F;have J:=aW hc hb B aO s M;have ik:=fun W=>D W s M;have O:l.getD s 0=l[s]:=aX l s M;have z:eO l s=decide (l[s]=(bR s:Int)):=by unfold eO;rw[O]
 obtain⟨x,Y⟩:=aQ (l[s]);rw[<-Y]at J z;have I:=aN z;have Z:=aN (fun W=>gI s W aK);have e1:∀y:Ext V,y.w.cell? ⟨w.heap.size,1,none⟩=some (aI a l.length c):=fun y=>y.cell (K1.cell 1);have e2:∀y:Ext V,y.w.cell? ⟨b,N+s,none⟩=some (aM x):=fun y=>y.cell J;clear hc D hb O z Y J;go_enter func193,ntmps193;go_wp2_with fail;rw[<-F];clear F;refine bN _ aT aT ?_
 repeat(first|go_big_quiet_skip|(go_big_quiet_want;go_big_quiet_op;first|go_big_quiet_on|(apply Exists.intro;refine⟨fun _=>?_,?_⟩;(go_at_call 165;exact cR (Z.out _));go_big_quiet_on)))
 refine wpQuiet_nil ?_;rintro w3 ⟨⟨w3,K⟩,rfl⟩
 try dsimp only
 go_wp2;go_ret;exact⟨aZ (by rw[I.out];exact rY _ _),B.after K B.size⟩
theorem U8(w:World)(O R:Nat)(n m:Int)(v u:Value)(l k:List Int)(Z:aR w v l)(Y:aR w u k)(D:k.length=l.length)(hl:l.length<=32)(s:Nat)(S:s<l.length)(N:aU w O 26 #[n,v])(K:aU w R 26 #[m,u]):
  Calls prog 201 #[s,.pointer (some ⟨O,0,none⟩),.pointer (some ⟨R,0,none⟩)] w fun e w'=>e=.returned (.bool (eO l s&&eO k s))/\Below w w w':=by
 obtain⟨a,c,rfl⟩:=Z.shape;obtain⟨b,d,rfl⟩:=Y.shape;have G1:=N.cell;have z1:=N.lt;go_enter func201,ntmps201;go_wp2_with fail;clear G1;refine(sC w n _ l Z s S aK).mono ?_;rintro e w1 ⟨rfl,z⟩;have K:=K.keep z;have M:=Y.keep z;have I:=aN D;clear D
 cases h1:eO l s with
 |false=>
  have F:(eO l s&&eO k s)=false:=by rw[h1];rfl
  have J:=aN F;clear F h1;go_wp2;go_ret;exact⟨aZ (by first|exact J.out.symm|simp),z⟩
 |true=>
  have F:(eO l s&&eO k s)=eO k s:=by rw[h1];rfl
  have J:=aN F;clear F h1;have G2:=K.cell;go_wp2_with fail;clear G2;refine(sC w1 m _ k M s (by rw[I.out];exact S) aK).mono ?_;rintro e w2 ⟨rfl,b2⟩;go_wp2;go_ret;exact⟨aZ (by first|exact J.out.symm|simp),z.after b2 z.size⟩
theorem CV:∀args w,(callFunc 201 args).run prog w=.ok (.enter 201 args) w:=enters_of func201 aT rfl
end
end Go.Proofs.YtcpoomdoodlkjaaGreatDoor
