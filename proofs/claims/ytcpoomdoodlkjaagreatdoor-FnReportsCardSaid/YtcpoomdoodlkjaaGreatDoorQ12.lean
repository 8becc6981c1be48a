/- Lemmas for CardReports. No condition. -/
import Derived.Test.YtcpoomdoodlkjaaGreatDoorQ11
set_option maxRecDepth 100000
set_option maxHeartbeats 64000000
namespace Go.Proofs.YtcpoomdoodlkjaaGreatDoor
section
open Go.RowKit Go.G5 Go.Proofs.Tryz
def eR(n:Int)(l:List Int):Bool:=(fZ n l&&mK n l)&&gO n l
def wG(l:List Int)(e:Nat):Bool:=!decide ((1:Int)<l.getD (2^e) 0)
def dE(n:Int)(l:List Int):Bool:=eR n l&&bY (wG l) n.toNat
theorem oW{n:Int}{l:List Int}(h:eR n l=true):bH n l=true:=by
 unfold eR fZ at h;simp only[Bool.and_eq_true]at h;exact h.1.1.1
theorem uB(n:Int)(l:List Int)(v:Value)(w:World)(N:aO w v l)(hl:l.length<=1048576):
  Calls prog 48 #[.agg #[n,v]] w fun e w'=>e=.returned (.bool (eR n l))/\Below w w w':=by
 obtain⟨a,c,rfl⟩:=N.shape;have Y:=aR.new w 26 #[n,ajH a l.length c];go_enter func48,ntmps48;go_wp2_with fail;refine(yU n l _ _ (N.alloc _)).mono ?_;rintro e w1 ⟨rfl,D⟩;have Z:=Y.keep D;have J:Below w w w1:=(aY _ _).after D (by simp);clear D Y
 cases M:fZ n l with
 |false=>
  have z:eR n l=false:=by unfold eR;rw[M];rfl
  have I:=aJ z;clear z M;go_wp2;go_ret;exact⟨by rw[I.out];rfl,J⟩
 |true=>
  have S:=aJ M;clear M;have G1:=Z.cell;go_wp2_with fail;refine(SG n l _ _ (N.below J aK)).mono ?_;rintro e w2 ⟨rfl,F⟩;have K2:=Z.keep F;have K:=J.after F J.size;clear F G1
  cases O:mK n l with
  |false=>
   have z:eR n l=false:=by unfold eR;rw[S.out,O];rfl
   have I:=aJ z;clear z O;go_wp2;go_ret;exact⟨by rw[I.out];rfl,K⟩
  |true=>
   have z:eR n l=gO n l:=by unfold eR;rw[S.out,O];rfl
   have I:=aJ z;clear z O;have G2:=K2.cell;go_wp2_with fail;refine(sA n l _ _ (N.below K aK) hl).mono ?_;rintro e w3 ⟨rfl,R⟩;go_wp2;go_ret;exact⟨by rw[I.out];rfl,K.after R K.size⟩
theorem mS(n:Int)(l:List Int)(v:Value)(w:World)(N:aO w v l)(hl:l.length<=1048576):
  Calls prog 64 #[.agg #[n,v]] w fun e w'=>e=.returned (.bool (eR n l))/\Below w w w':=by
 obtain⟨a,c,rfl⟩:=N.shape;have Y:=aR.new w 26 #[n,ajH a l.length c];go_enter func64,ntmps64;go_wp2_with fail;refine(yW n l _ _ (N.alloc _)).mono ?_;rintro e w1 ⟨rfl,D⟩;have Z:=Y.keep D;have J:Below w w w1:=(aY _ _).after D (by simp);clear D Y
 cases M:fZ n l with
 |false=>
  have z:eR n l=false:=by unfold eR;rw[M];rfl
  have I:=aJ z;clear z M;go_wp2;go_ret;exact⟨by rw[I.out];rfl,J⟩
 |true=>
  have S:=aJ M;clear M;have G1:=Z.cell;go_wp2_with fail;refine(SH n l _ _ (N.below J aK)).mono ?_;rintro e w2 ⟨rfl,F⟩;have K2:=Z.keep F;have K:=J.after F J.size;clear F G1
  cases O:mK n l with
  |false=>
   have z:eR n l=false:=by unfold eR;rw[S.out,O];rfl
   have I:=aJ z;clear z O;go_wp2;go_ret;exact⟨by rw[I.out];rfl,K⟩
  |true=>
   have z:eR n l=gO n l:=by unfold eR;rw[S.out,O];rfl
   have I:=aJ z;clear z O;have G2:=K2.cell;go_wp2_with fail;refine(sB n l _ _ (N.below K aK) hl).mono ?_;rintro e w3 ⟨rfl,R⟩;go_wp2;go_ret;exact⟨by rw[I.out];rfl,K.after R K.size⟩
theorem lN(n:Int)(l:List Int)(v:Value)(w:World)(hv:aO w v l)(hl:l.length<=1048576):
  Calls prog 49 #[.agg #[n,v]] w fun e w'=>e=.returned (.bool (dE n l))/\Below w w w':=by
 have a6:=hv;obtain⟨a,b,d6,c,rfl,c5,Y,hc,hb⟩:=hv.view prog 24 3 underlying24 aP;have K0:=aR.new w 26 #[n,ajH a l.length c]
 cases M:eR n l with
 |false=>
  have K:dE n l=false:=by unfold dE;rw[M];rfl
  have HX:=aJ K;have HF:=aJ M;clear K M hc;go_enter func49,ntmps49;go_wp2_with (go_at_call 48;refine(uB n l _ _ (a6.alloc _) hl).mono ?_;rintro e w1 ⟨rfl,D⟩;rw[HF.out]);go_ret;exact⟨aW HX.out.symm,(aY _ _).after D (by simp)⟩
 |true=>
  obtain⟨N,rfl,d5,a1,b9,b6⟩:=cU (oW M);have K:dE N l=bY (wG l) N:=by unfold dE;rw[M];simp
  have HX:=aJ K;have HF:=aJ M;have b4:=aJ a1;have HC:=aJ hc;have b3:=aJ Y;clear K M a1 hc Y b6;go_enter func49,ntmps49;go_wp2_with fail;refine(uB N l _ _ (a6.alloc _) hl).mono ?_;rintro e w1 ⟨rfl,D⟩;rw[HF.out];have K1:=K0.keep D;have B1:Below w w w1:=(aY _ _).after D (by simp);have G1:=K1.cell;have R:=aT HC.out hb B1 aK;have b0:=aJ R;clear K0 D R;go_wp2_with fail;go_loop [9] (fun i=>∃k:Nat,k<=N/\i=ajJ k/\bY (wG l) k=true) (fun i=>N-(intOf i).toNat)
  case atStart=>exact⟨0,Nat.zero_le _,rfl,rfl⟩
  case round=>
   obtain⟨k,hk,rfl,I⟩:=hrel;have H:=aJ I;clear I;by_cases Z:k<N
   ·have hp:2^k<l.length:=by rw[b4.out];exact Nat.pow_lt_pow_right aV Z
    have c0:=b0.out (2^k) hp;have i0:=fun W=>b3.out W (2^k) hp;have z:((2^k:Nat):Int)=(2:Int)^k:=by simp
    simp only[z]at i0;have F:wG l k=!decide ((1:Int)<l[2^k]):=by unfold wG;rw[aU l _ hp]
    obtain⟨x,K⟩:=aN (l[2^k]);rw[<-K]at c0 F;have HO:=aJ F;have d7:(2:Int)^k<=32:=by rw[<-z];omega
    have d8:=(cK k k aK).2;have wk:IntKind.i64.wrap ((2:Int)^k)=2^k:=by rw[IntKind.wrap_i64];omega
    clear F K z hp;by_cases S:(1:Int)<x
    ·have J:dE N l=false:=by rw[HX.out];exact dD Z (by rw[HO.out,decide_eq_true S];rfl)
     have O:=aJ J;clear J;go_wp2;go_ret;exact⟨aW O.out.symm,B1⟩
    ·have hu:wG l k=true:=by rw[HO.out,decide_eq_false S];rfl
     have HU:=aJ hu;clear hu;go_wp2;go_round
     case rel=>exact⟨k+1,by omega,by go_num,dK H.out HU.out⟩
     case measure=>simp[intOf];omega
   ·have b5:k=N:=aI;subst b5;go_wp2;go_ret;exact⟨aW (by rw[HX.out,H.out]),B1⟩
theorem lO(n:Int)(l:List Int)(v:Value)(w:World)(hv:aO w v l)(hl:l.length<=1048576):
  Calls prog 65 #[.agg #[n,v]] w fun e w'=>e=.returned (.bool (dE n l))/\Below w w w':=by
 have J:=hv;obtain⟨a,b,d8,c,rfl,c6,a8,hc,hb⟩:=hv.view prog 24 3 underlying24 aP;have K0:=aR.new w 26 #[n,ajH a l.length c]
 cases Y:eR n l with
 |false=>
  have R:dE n l=false:=by unfold dE;rw[Y];rfl
  have HX:=aJ R;have HF:=aJ Y;clear R Y hc;go_enter func65,ntmps65;go_wp2_with fail;go_loopw [3] (fun i wr=>i=ajJ 0/\Below w w wr/\aR wr w 26 #[n,ajH a l.length c]) (fun _ _=>0)
  case atStart=>exact⟨rfl,aY _ _,K0⟩
  case round=>obtain⟨rfl,B,K⟩:=hrel;have Z:=K.cell;go_wp2_with fail;refine(mS n l _ _ (J.below B aK) hl).mono ?_;rintro e w1 ⟨rfl,D⟩;rw[HF.out];have I:=B.after D B.size;have K1:=K.keep D;clear Z;have Z:=K1.cell;go_wp2_with fail;refine(mS n l _ _ (J.below I aK) hl).mono ?_;rintro e w2 ⟨rfl,S⟩;rw[HF.out];go_wp2;go_ret;exact⟨aW HX.out.symm,I.after S I.size⟩
 |true=>
  obtain⟨N,rfl,d7,b0,c5,b8⟩:=cU (oW Y);have R:dE N l=bY (wG l) N:=by unfold dE;rw[Y];simp
  have HX:=aJ R;have HF:=aJ Y;have b5:=aJ b0;have HC:=aJ hc;have b4:=aJ a8;clear R Y b0 hc a8 b8;go_enter func65,ntmps65;go_wp2_with fail;go_loopw [3] (fun i wr=>∃k:Nat,k<=N/\i=ajJ k/\bY (wG l) k=true/\Below w w wr/\aR wr w 26 #[N,ajH a l.length c]) (fun i _=>N-(intOf i).toNat)
  case atStart=>exact⟨0,Nat.zero_le _,rfl,rfl,aY _ _,K0⟩
  case round=>
   obtain⟨k,hk,rfl,M,B,K⟩:=hrel;obtain⟨wo,rfl⟩:∃wo:World,wo=wr:=⟨_,rfl⟩;have H:=aJ M;clear M K0;have Z:=K.cell;go_wp2_with fail;refine(mS N l _ _ (J.below B aK) hl).mono ?_;rintro e w1 ⟨rfl,D⟩;rw[HF.out];have K:=K.keep D;have I:=B.after D B.size;clear Z D B;have Z:=K.cell;by_cases a9:k<N
   ·have hp:2^k<l.length:=by rw[b5.out];exact Nat.pow_lt_pow_right aV a9
    have c0:=aT HC.out hb I aK (2^k) hp;have i0:=fun W=>b4.out W (2^k) hp;have z:((2^k:Nat):Int)=(2:Int)^k:=by simp
    simp only[z]at i0;have F:wG l k=!decide ((1:Int)<l[2^k]):=by unfold wG;rw[aU l _ hp]
    obtain⟨x,R⟩:=aN (l[2^k]);rw[<-R]at c0 F;have HO:=aJ F;have d9:(2:Int)^k<=32:=by rw[<-z];omega
    have e0:=(cK k k aK).2;have wk:IntKind.i64.wrap ((2:Int)^k)=2^k:=by rw[IntKind.wrap_i64];omega
    clear F R z hp;by_cases a7:(1:Int)<x
    ·have O:dE N l=false:=by rw[HX.out];exact dD a9 (by rw[HO.out,decide_eq_true a7];rfl)
     have a1:=aJ O;clear O;go_wp2_with fail;go_quiet (fail);go_wp2;go_ret;exact⟨aW a1.out.symm,I.drewN' _⟩
    ·have hu:wG l k=true:=by rw[HO.out,decide_eq_false a7];rfl
     have HU:=aJ hu;clear hu;go_wp2_with fail;go_quiet (fail);go_wp2;go_roundw
     case rel=>exact⟨k+1,by omega,by go_num,dK H.out HU.out,I.drewN' _,K.drewN _⟩
     case measure=>simp[intOf];omega
   ·have b7:k=N:=aI;subst b7;go_wp2_with fail;refine(mS k l _ _ (J.below I aK) hl).mono ?_;rintro e w2 ⟨rfl,S⟩;rw[HF.out];go_wp2;go_ret;exact⟨aW (by rw[HX.out,H.out]),I.after S I.size⟩
def tQ(l:List Int)(s:Nat):Int:=l.getD (l.length-1-s) 0
def oT(l:List Int):List Int:=eO (tQ l) l.length
def AE(n:Int)(l:List Int):Int:=if bH n l then n else 0
def zG(n:Int)(l:List Int):List Int:=if bH n l then oT l else []
def pK(n:Int)(l:List Int):Bool:=bH n l&&decide (l=oT l)
def jM(n:Int)(l:List Int):Bool:=(gO n l&&pK n l)&&decide (2<=n)
def jK(l:List Int):Nat->Nat
 |0=>1
 |k+1=>if k<2 then 1 else if l.getD k 0<l.getD (jK l k) 0 then k else jK l k
def uK(n:Int)(l:List Int):Int:=if jM n l then (jK l (l.length-1):Int) else 0
def qE(n:Int)(l:List Int):Int:=if jM n l then l.getD (jK l (l.length-1)) 0 else 0
theorem XU(l:List Int):jK l 2=1:=rfl
theorem zN(l:List Int)(k:Nat)(h:2<=k):jK l (k+1)=if l.getD k 0<l.getD (jK l k) 0 then k else jK l k:=by rw[jK,if_neg aI]
theorem NL(l:List Int):∀k,2<=k->1<=jK l k/\jK l k<k:=by
 intro k
 induction k with
 |zero=>intro h;omega
 |succ k ih=>
  intro h;by_cases hk:2<=k
  ·have:=ih hk;rw[zN l k hk]
   split<;>omega
  ·have:k=1:=aI;subst this;rw[XU];omega
theorem aeP(l:List Int):(oT l).length=l.length:=by unfold oT eO;simp
theorem EU(l:List Int)(s:Nat)(h:s<l.length):tQ l s=l[l.length-1-s]:=by unfold tQ;exact aU l _ aI
theorem agN(n:Int)(l:List Int)(h:bH n l=true):bH n (oT l)=true:=by
 obtain⟨J,K,z,D⟩:=kY h;unfold bH kL;rw[aeP,dH.2 ⟨J,K⟩,decide_eq_true z];simp only[Bool.true_and,List.all_eq_true];intro x I;unfold oT eO at I;obtain⟨s,F,rfl⟩:=List.mem_map.1 I;rw[List.mem_range]at F;rw[EU l s F];exact dH.2 (D _ aI)
theorem J4:∀n:Nat,n<=5->∀s:Nat,s<2^n->cS (2^n-1) s=2^n-1-s:=by decide +kernel
def eX(n:Int)(l:List Int)(m:Int)(k:List Int):Bool:=(dE n l&&dE m k)&&decide (n=m)
def eJ(l:List Int)(s:Nat):Bool:=decide (l.getD s 0=(bN s:Int))
def qH(l k:List Int):Nat->Nat
 |0=>0
 |t+1=>if decide (bN (qH l k t)<bN t)&&(eJ l t&&eJ k t) then t else qH l k t
def pH(l k:List Int)(t:Nat):Int:=l.getD t 0+k.getD (l.length-1-t) 0
def iL(l k:List Int):Nat->Nat
 |0=>0
 |t+1=>if pH l k t<pH l k (iL l k t) then t else iL l k t
def xR(n:Int)(l:List Int)(m:Int)(k:List Int):Int:=if eX n l m k then (qH l k l.length:Int) else 0
def xH(n:Int)(l:List Int)(m:Int)(k:List Int):Int:=if eX n l m k then (iL l k l.length:Int) else 0
def uH(n:Int)(l:List Int)(m:Int)(k:List Int):Int:=if eX n l m k then pH l k (iL l k l.length) else 0
theorem MR(l k:List Int):∀t,0<t->qH l k t<t:=by
 intro t
 induction t with
 |zero=>intro h;omega
 |succ t ih=>
  intro _;rw[qH]
  split
  ·omega
  ·rcases Nat.eq_zero_or_pos t with rfl|h
   ·simp[qH]
   ·have:=ih h;omega
theorem NC(l k:List Int):∀t,0<t->iL l k t<t:=by
 intro t
 induction t with
 |zero=>intro h;omega
 |succ t ih=>
  intro _;rw[iL]
  split
  ·omega
  ·rcases Nat.eq_zero_or_pos t with rfl|h
   ·simp[iL]
   ·have:=ih h;omega
theorem ad9(l k:List Int):qH l k 1=0:=by
 have:=MR l k 1 aI;omega
theorem TZ(l k:List Int):iL l k 1=0:=by
 have:=NC l k 1 aI;omega
theorem pU{n m:Int}{l k:List Int}(h:eX n l m k=true):m=n/\∃N:Nat,n=N/\N<=5/\l.length=2^N/\l.length<=32/\k.length=l.length/\(∀i,(R:i<l.length)->-1000<=l[i]/\l[i]<=1000)/\(∀i,(R:i<k.length)->-1000<=k[i]/\k[i]<=1000):=by
 unfold eX dE at h;simp only[Bool.and_eq_true,decide_eq_true_eq]at h;obtain⟨⟨⟨h1,_⟩,h2,_⟩,rfl⟩:=h;obtain⟨N,rfl,D,I,z,J⟩:=cU (oW h1);obtain⟨M,Y,O,S,K,F⟩:=cU (oW h2);have:N=M:=aI;subst this;exact⟨rfl,N,rfl,D,I,z,by omega,J,F⟩
theorem ZO(n:Nat)(hn:n<=5)(l:List Int)(v:Value)(g s:Nat)(W:World)(hv:aO W v l)(hl:l.length=2^n)(hs:s<2^n)(c0:W.cell? ⟨g,0,none⟩=some (ajJ n))(c1:W.cell? ⟨g,1,none⟩=some v):
  Calls prog 264 #[s,.pointer (some ⟨g,0,none⟩)] W fun e w'=>e=.returned (tQ l s)/\Below W W w':=by
 have R:=hv;obtain⟨a,b,S,c,rfl,a1,J,hc,hb⟩:=hv.view prog 24 3 underlying24 aP;have Z:=EU l s aI;have p5:(2:Nat)^n<=32:=Nat.pow_le_pow_right (n:=2) aV hn;have hd:=J4 n hn s hs;have z:=vP (2^n-1) s aI aI;rw[hd]at z;have N:=Nat.two_pow_pos n;have D:((2^n-1:Nat):Int)=(2:Int)^n-1:=by rw[Int.ofNat_sub N];simp
 rw[D]at z;have I:=hc (l.length-1-s) aI;have F:=fun W=>J W (l.length-1-s) aI;rw[<-Z]at I;rw[hl]at I F;have e0:∀x:Ext W,x.w.cell? ⟨g,0,none⟩=some (ajJ n):=fun x=>x.cell c0;have e1:∀x:Ext W,x.w.cell? ⟨g,1,none⟩=some (ajH a l.length c):=fun x=>x.cell c1;have e2:∀x:Ext W,x.w.cell? ⟨b,S+(2^n-1-s),none⟩=some (ajJ (tQ l s)):=fun x=>x.cell I;obtain⟨q,O⟩:=aN (tQ l s);rw[<-O]at e2;obtain⟨m,hm⟩:=aN (2^n-1-s);simp only[<-hm]at F e2 z;have HQ:=aJ O;have K:=aJ (fun(x:Ext W)=>tV (n:Int) (ajH a l.length c) l x.w (x.ints R) aI aI);have Y:l.length=2^n:=hl;rw[<-Y]at F;have a8:=aJ hl;clear hc J hb Z hd I O hm D hl Y;go_enter func264,ntmps264;go_wp2_with fail;refine bJ _ aQ aQ ?_
 repeat(first|go_big_quiet_skip|(go_big_quiet_want;go_big_quiet_op;first|go_big_quiet_on|(apply Exists.intro;refine⟨fun _=>?_,?_⟩;(go_at_call 182;exact bK (K.out _));go_big_quiet_on)))
 refine wpQuiet_nil ?_;rintro w3 ⟨⟨w3,M⟩,rfl⟩
 try dsimp only
 go_wp2;go_ret;exact⟨fF HQ.out,M⟩
theorem FA:∀args w,(callFunc 264 args).run prog w=.ok (.enter 264 args) w:=enters_of func264 aQ rfl
theorem ah4(w:World)(n:Int)(v:Value)(l:List Int)(hv:aO w v l)(_:l.length<=1048576):
  Calls prog 171 #[.agg #[n,v]] w fun e w'=>∃ad i S,e=.returned (.tuple #[.agg #[(AE n l),ajH ad i S],.bool (bH n l)])/\aM 3 w w' (ajH ad i S) (zG n l)/\Below w w w':=by
 obtain⟨a,c,rfl⟩:=hv.shape;have d9:∀(fn:Fn) (first cap:Array Value) (w:World),(Instr.makeFunc fn first cap).run prog w=.ok (.func fn first cap) w:=fun _ _ _ _=>rfl;go_enter func171,ntmps171;go_wp2_with fail;refine bB ?_;intro V hV;have B:Below w w V:=fY hV;have K1:aR V w 26 #[n,ajH a l.length c]:=gL hV;have F:aR V (w.heap.size+1) 26 #['0',()]:=gV hV;clear hV;refine(dS n l _ _ (hv.below B aK)).mono ?_;rintro e w1 ⟨rfl,J⟩;have K1:=K1.keep J;have F:=F.keep J;have B1:=B.after J B.size;have c9:=hv.below B1 aK;clear B J;have G1:=K1.cell;have z1:=K1.lt;have z2:=F.lt
 cases K:bH n l with
 |false=>
  have Z:AE n l=0:=by unfold AE;rw[K];rfl
  have Y:zG n l=[]:=by unfold zG;rw[K];rfl
  have HN:=aJ Z;have HL:=aJ Y;have HF:=aJ K;have G2:=F.cell;have F2:=F.frozen;clear Z Y;go_wp2;refine aZ ?_;intro Wf z;have M:aR Wf (w.heap.size+1) 26 #['0',()]:=by rw[z];have:=(F.set 0 (ajJ 0)).set 1 (ajH none 0 0);simpa using this
  have Bf:Below w w Wf:=by rw[z];exact Below.setCell (Below.setCell B1 (by first|omega|(simp;done)|(simp;omega)) _) (by first|omega|(simp;done)|(simp;omega)) _
  have Gf:=M.cell;clear z G1 G2 F2;exact bodyPost_ret (v:=.tuple #[.agg #['0',()],.bool false]) (by simp[results,results171,go_sem,Gf]) rfl ⟨none,0,0,by rw[HN.out,HF.out],by rw[HL.out];exact aM.nil _ _ _,Bf⟩
 |true=>
  obtain⟨h0,h5,I,a7⟩:=kY K;obtain⟨N,rfl⟩:=Int.eq_ofNat_of_zero_le h0;have a1:N<=5:=aI;have R:l.length=2^N:=by
   have e2:(N:Int).toNat=N:=aI;rw[e2]at I
   exact_mod_cast I
  have Z:AE N l=N:=by unfold AE;rw[K];rfl
  have Y:zG N l=oT l:=by unfold zG;rw[K];rfl
  have D:eO (tQ l) (2^N)=oT l:=by unfold oT;rw[R]
  have a6:bH N (eO (tQ l) (2^N))=true:=by rw[D];exact agN N l K
  have a8:∀W,aO W (ajH a l.length c) l->W.cell? ⟨w.heap.size,0,none⟩=some (ajJ N)->W.cell? ⟨w.heap.size,1,none⟩=some (ajH a l.length c)->Calls prog 262 #[N,.func (.func 264) #[] #[.pointer (some ⟨w,0,none⟩)]] W fun e w'=>
    ∃ad i S,e=.returned (.tuple #[.agg #[N,ajH ad i S],.bool true])/\aM 3 W w' (ajH ad i S) (oT l)/\Below W W w':=fun W hW c0 c1=>by
   have:=GY W N a1 264 FA w.heap.size (tQ l) (fun s hs=>by rw[EU l s aI];have:=a7 (l.length-1-s) aI;exact⟨by omega,by omega⟩)
    (fun s W' hs hB=>ZO N a1 l _ w.heap.size s W' (hW.keep hB) R hs (keep hB c0) (keep hB c1))
   rw[a6,if_pos rfl,if_pos rfl,D]at this;exact this
  have HN:=aJ Z;have HL:=aJ Y;have HF:=aJ K;have c6:=aJ a8;clear Z Y K D a6 a8 R I a7;go_wp2_with fail;refine(c6.out _ c9 (G1 0) (G1 1)).mono ?_;rintro e w3 ⟨p3,i3,q3,rfl,o3,O⟩;have F:=F.keep O;have B3:=B1.after O B1.size;have G2:=F.cell;have F2:=F.frozen;have z3:=F.lt;clear G1 O;go_wp2;refine aZ ?_;intro Wf z;have M:aR Wf (w.heap.size+1) 26 #[N,ajH p3 i3 q3]:=by rw[z];have:=(F.set 0 (ajJ N)).set 1 (ajH p3 i3 q3);simpa using this
  have Bf:Below w w Wf:=by rw[z];exact Below.setCell (Below.setCell B3 (by first|omega|(simp;done)|(simp;omega)) _) (by first|omega|(simp;done)|(simp;omega)) _
  have of:aM 3 w Wf (ajH p3 i3 q3) (oT l):=by rw[z];exact((o3.setBelow (by first|omega|(simp;done)|(simp;omega)) _).setBelow (by first|omega|(simp;done)|(simp;omega)) _).mono (by first|omega|(simp;done)|(simp;omega))
  have Gf:=M.cell;clear z G2 F2;exact bodyPost_ret (v:=.tuple #[.agg #[N,ajH p3 i3 q3],.bool true]) (by simp[results,results171,go_sem,Gf]) rfl ⟨p3,i3,q3,by rw[HN.out,HF.out],by rw[HL.out];exact of,Bf⟩
theorem YO(n F:Int)(v J:Value)(l D:List Int)(w:World)(I:aO w v l)(z:aO w J D):
  Calls prog 172 #[.agg #[n,v],.agg #[F,J]] w fun e w'=>e=.returned (.bool (n==F&&decide (l=D)))/\Below w w w':=by
 obtain⟨a,c,rfl⟩:=I.shape;obtain⟨K,M,rfl⟩:=z.shape
 cases h:(n==F) with
 |false=>go_enter func172,ntmps172;go_wp2;go_ret;exact⟨rfl,wJ _ _ _⟩
 |true=>go_enter func172,ntmps172;go_wp2_with (go_at_call 265;refine(KQ _ _ l D _ ((I.alloc _).alloc _) ((z.alloc _).alloc _)).mono ?_;rintro e w2 ⟨rfl,N,rfl⟩);go_ret;exact⟨rfl,(wJ _ _ _).drewN' _⟩
theorem UA(n:Int)(l:List Int)(v:Value)(w:World)(O:aO w v l)(hl:l.length<=1048576):
  Calls prog 47 #[.agg #[n,v]] w fun e w'=>e=.returned (.bool (pK n l))/\Below w w w':=by
 obtain⟨a,c,rfl⟩:=O.shape;have K0:=aR.new w 26 #[n,ajH a l.length c];go_enter func47,ntmps47;go_wp2_with fail;refine(ah4 _ n _ l (O.alloc _) hl).mono ?_;rintro e w1 ⟨p1,Z,q1,rfl,o1,I⟩;have M:=K0.keep I;have D:Below w w w1:=(aY _ _).after I (by simp);have y1:=D.size;have z1:=M.lt
 cases F:bH n l with
 |false=>
  have J:pK n l=false:=by unfold pK;rw[F];rfl
  have HX:=aJ J;clear J F;go_wp2;go_ret;exact⟨by rw[HX.out];rfl,(by repeat(first|exact Below.refl _ _|(with_reducible refine Below.setCell ?_ (by first|omega|(simp;done)|(simp;omega)) _)|(with_reducible refine Below.alloc ?_ (by first|omega|(simp;done)|(simp;omega)) _)|(with_reducible refine Below.drewN' ?_ _)|(with_reducible refine Below.drew ?_)|(with_reducible assumption)|refine Below.trans ?_ (Below.mono (by assumption) (by first|omega|(simp;done)|(simp;omega)))))⟩
 |true=>
  have J:pK n l=decide (l=oT l):=by unfold pK;rw[F];rfl
  have Y:AE n l=n:=by unfold AE;rw[F];rfl
  have S:zG n l=oT l:=by unfold zG;rw[F];rfl
  rw[S]at o1;have z:=fun W (h1:aO W (ajH a l.length c) l) (h2:aO W (ajH p1 Z q1) (oT l))=>YO n n _ _ l (oT l) W h1 h2;simp only[beq_self_eq_true,Bool.true_and,<-J]at z;have K:=aJ z;have ca:∀i,(w1.alloc (.cells #[n,ajH p1 Z q1] 26)).cell? ⟨w.heap.size,i,none⟩=(#[ajJ n,ajH a l.length c]:Array Value)[i]?:=(M.alloc _).cell;rw[Y];have R:=O.below D aK;clear J Y S z F;have G1:=M.cell;go_wp2_with (go_at_call 172;refine(K.out _ (R.alloc _) (o1.alloc _).ints).mono ?_;rintro e w2 ⟨rfl,N⟩);go_ret;exact⟨rfl,(D.alloc D.size _).after N (D.alloc D.size _).size⟩
theorem IR(n:Int)(l:List Int)(v:Value)(w:World)(N:aO w v l)(hl:l.length<=1048576):
  Calls prog 186 #[.agg #[n,v]] w fun e w'=>e=.returned (.bool (jM n l))/\Below w w w':=by
 obtain⟨a,c,rfl⟩:=N.shape;have S:=aR.new w 26 #[n,ajH a l.length c];go_enter func186,ntmps186;go_wp2_with fail;refine(sA n l _ _ (N.alloc _) hl).mono ?_;rintro e w1 ⟨rfl,D⟩;have Y:=S.keep D;have J:Below w w w1:=(aY _ _).after D (by simp);clear D S
 cases K:gO n l with
 |false=>
  have z:jM n l=false:=by unfold jM;rw[K];rfl
  have I:=aJ z;clear z K;go_wp2;go_ret;exact⟨by rw[I.out];rfl,J⟩
 |true=>
  have R:=aJ K;clear K;have Z:=Y.cell;go_wp2_with fail;refine(UA n l _ _ (N.below J aK) hl).mono ?_;rintro e w2 ⟨rfl,F⟩;have K2:=Y.keep F;have O:=J.after F J.size;clear F Z
  cases M:pK n l with
  |false=>
   have z:jM n l=false:=by unfold jM;rw[R.out,M];rfl
   have I:=aJ z;clear z M;go_wp2;go_ret;exact⟨by rw[I.out];rfl,O⟩
  |true=>
   have z:jM n l=decide (2<=n):=by unfold jM;rw[R.out,M];rfl
   have I:=aJ z;clear z M;have G2:=K2.cell;go_wp2;go_ret;exact⟨by rw[I.out];rfl,O⟩
theorem MG{n:Int}{l:List Int}(h:jM n l=true):bH n l=true/\2<=n:=by
 unfold jM gO at h;simp only[Bool.and_eq_true,decide_eq_true_eq]at h;exact⟨h.1.1.1,h.2⟩
theorem RN{n:Int}{l:List Int}(h:jM n l=true):4<=l.length/\l.length<=32/\(l.length:Int)=2^n.toNat/\n<=5/\∀k,(hk:k<l.length)->-1000<=l[k]/\l[k]<=1000:=by
 obtain⟨h1,h2⟩:=MG h;obtain⟨N,I,z,F⟩:=kY h1;obtain⟨m,hm⟩:∃m:Nat,n.toNat=m:=⟨_,rfl⟩;have D:2<=m/\m<=5:=aI;have K:(2:Nat)^2<=2^m:=Nat.pow_le_pow_right aV D.1;have M:(2:Nat)^m<=2^5:=Nat.pow_le_pow_right aV D.2;have J:l.length=2^m:=by rw[hm]at z;exact_mod_cast z
 exact⟨by omega,by omega,z,I,F⟩
theorem abU(w:World)(n:Int)(v:Value)(l:List Int)(hv:aO w v l)(hl:l.length<=1048576):
  Calls prog 74 #[.agg #[n,v]] w fun e w'=>e=.returned (.tuple #[(qE n l),(uK n l),.bool (jM n l)])/\Below w w w':=by
 have M:=hv;obtain⟨a,b,f4,c,rfl,d8,a8,hc,hb⟩:=hv.view prog 24 3 underlying24 aP;have K0:=aR.new w 26 #[n,ajH a l.length c]
 cases J:jM n l with
 |false=>
  have hN:qE n l=0:=by unfold qE;rw[J];rfl
  have hS:uK n l=0:=by unfold uK;rw[J];rfl
  have H:=aJ (And.intro hN hS);have HF:=aJ J;clear hN hS J hc;go_enter func74,ntmps74;go_wp2_with (go_at_call 186;refine(IR n l _ _ (M.alloc _) hl).mono ?_;rintro e w1 ⟨rfl,F⟩;rw[HF.out]);go_ret3;exact⟨by rw[H.out.1,H.out.2];rfl,(aY _ _).after F (by simp)⟩
 |true=>
  obtain⟨h4,f0,N,f3,b1⟩:=RN J;have d0:0<=n:=by have:=(MG J).2;omega
  have hN:qE n l=l.getD (jK l (l.length-1)) 0:=by unfold qE;rw[J];rfl
  have hS:uK n l=(jK l (l.length-1):Int):=by unfold uK;rw[J];rfl
  have H:=aJ (And.intro hN hS);have HF:=aJ J;have e7:=aJ b1;have HC:=aJ hc;have S:=aJ a8;have Y:=aJ N;have R:=aJ (fun(W:World) (hW:aO W (ajH a l.length c) l)=>tV n (ajH a l.length c) l W hW d0 aI);clear hN hS J b1 hc a8 N;go_enter func74,ntmps74;go_wp2_with fail;refine(IR n l _ _ (M.alloc _) hl).mono ?_;rintro e w1 ⟨rfl,F⟩;rw[HF.out];have K1:=K0.keep F;have B1:Below w w w1:=(aY _ _).after F (by simp);clear K0 F;go_wp2_with fail;go_loopw [5,6] (fun c6 i wr=>∃k:Nat,2<=k/\k<=l.length-1/\i=ajJ k/\c6=ajJ (jK l k:Int)/\Below w w wr/\aR wr w 26 #[n,ajH a l.length c]) (fun _ i _=>l.length-(intOf i).toNat)
  case atStart=>exact⟨2,by omega,by omega,rfl,rfl,B1,K1⟩
  case round=>
   obtain⟨k,a9,hk,rfl,rfl,B,K⟩:=hrel;have G1:=K.cell;have c8:=NL l k a9;obtain⟨p,hp⟩:=aN (jK l k);rw[<-hp]at c8 ⊢;have cp:=HC.out p aI;have D:=aT HC.out hb B aK p aI;have ip:=fun W=>S.out W p aI;by_cases hlt:k<l.length-1
   ·have I:=zN l k a9;rw[<-hp,aU l k aI,aU l p aI]at I;have ck:=aT HC.out hb B aK k aI;have ik:=fun W=>S.out W k aI;obtain⟨x,hx⟩:=aN (l[k]);obtain⟨y,hy⟩:=aN (l[p]);rw[<-hx]at ck I;rw[<-hy]at D I;have b3:(k:Int)<2^n.toNat-1:=by rw[<-Y.out];omega
    have Z:=aJ I;clear I hp hx hy cp;go_wp2_with fail;refine(R.out _ (M.below B aK)).mono ?_;rintro e w3 ⟨rfl,z⟩;have B3:=B.after z B.size;have K3:=K.keep z;have ck:=keep z ck;have D:=keep z D;clear G1 z;have G3:=K3.cell;by_cases b5:x<y
    ·have O:=aJ (Z.out.trans (if_pos b5));go_wp2_with fail;go_quiet (fail);go_wp2;go_roundw
     case rel=>exact⟨k+1,by omega,by omega,by go_num,by rw[O.out],B3.drewN' _,K3.drewN _⟩
     case measure=>simp[intOf];omega
    ·have O:=aJ (Z.out.trans (if_neg b5));go_wp2_with fail;go_quiet (fail);go_wp2;go_roundw
     case rel=>exact⟨k+1,by omega,by omega,by go_num,by rw[O.out],B3.drewN' _,K3.drewN _⟩
     case measure=>simp[intOf];omega
   ·have b0:k=l.length-1:=aI;have b3:¬(k:Int)<2^n.toNat-1:=by rw[<-Y.out];omega
    have hg:l.getD p 0=l[p]:=aU l p aI;obtain⟨y,hy⟩:=aN (l[p]);rw[<-hy]at D hg;have HP:=aJ hp;have HG:=aJ hg;have c5:=aJ b0;clear hp hg b0 hy cp;go_wp2_with fail;refine(R.out _ (M.below B aK)).mono ?_;rintro e w3 ⟨rfl,z⟩;have B3:=B.after z B.size;have K3:=K.keep z;have D:=keep z D;clear G1 z;have G3:=K3.cell;go_wp2;go_ret3;exact⟨by rw[H.out.1,H.out.2,<-c5.out,<-HP.out,HG.out];rfl,B3⟩
theorem rV(a b:Int):(a==b)=decide (a=b):=by by_cases h:a=b<;>simp[h]
theorem vM(w:World)(n:Int)(v:Value)(l:List Int)(R:aO w v l)(hl:l.length<=1048576)(m:Int)(u:Value)(k:List Int)(O:aO w u k)(hk:k.length<=1048576):
  Calls prog 199 #[.agg #[n,v],.agg #[m,u]] w fun e w'=>e=.returned (.bool (eX n l m k))/\Below w w w':=by
 obtain⟨a,c,rfl⟩:=R.shape;obtain⟨b,d,rfl⟩:=O.shape;go_enter func199,ntmps199;go_wp2_with fail;refine bB ?_;intro V J;have B:Below w w V:=fY J;have D:aR V w 26 #[n,ajH a l.length c]:=gL J;have z:aR V (w.heap.size+1) 26 #[m,ajH b k.length d]:=gV J;clear J;refine(lN n l _ V (R.below B aK) hl).mono ?_;rintro e w1 ⟨rfl,N⟩;have D:=D.keep N;have z:=z.keep N;have B:=B.after N B.size;have z2:=z.lt
 cases h1:dE n l with
 |false=>
  have F:eX n l m k=false:=by unfold eX;rw[h1];rfl
  have I:=aJ F;clear F h1;have S:=D.cell;have K:=z.cell;go_wp2;go_ret;exact⟨aW I.out.symm,B⟩
 |true=>
  have Y:=aJ h1;clear h1;have K:=z.cell;go_wp2_with fail;clear K;refine(lN m k _ w1 (O.below B aK) hk).mono ?_;rintro e w2 ⟨rfl,b2⟩;have D:=D.keep b2;have z:=z.keep b2;have B:=B.after b2 B.size;have F:eX n l m k=(dE m k&&decide (n=m)):=by unfold eX;rw[Y.out];rfl
  have I:=aJ F;clear F;have S:=D.cell;have K:=z.cell;have z2:=z.lt
  cases h2:dE m k with
  |false=>have M:=aJ h2;clear h2;go_wp2;go_ret;exact⟨aW (by rw[I.out,M.out];rfl),B⟩
  |true=>have M:=aJ h2;clear h2;go_wp2;go_ret;exact⟨aW (by rw[I.out,M.out,Bool.true_and];exact rV n m),B⟩
theorem vN(w:World)(n:Int)(v:Value)(l:List Int)(R:aO w v l)(hl:l.length<=1048576)(m:Int)(u:Value)(k:List Int)(O:aO w u k)(hk:k.length<=1048576):
  Calls prog 207 #[.agg #[n,v],.agg #[m,u]] w fun e w'=>e=.returned (.bool (eX n l m k))/\Below w w w':=by
 obtain⟨a,c,rfl⟩:=R.shape;obtain⟨b,d,rfl⟩:=O.shape;go_enter func207,ntmps207;go_wp2_with fail;refine bB ?_;intro V J;have B:Below w w V:=fY J;have D:aR V w 26 #[n,ajH a l.length c]:=gL J;have z:aR V (w.heap.size+1) 26 #[m,ajH b k.length d]:=gV J;clear J;refine(lO n l _ V (R.below B aK) hl).mono ?_;rintro e w1 ⟨rfl,N⟩;have D:=D.keep N;have z:=z.keep N;have B:=B.after N B.size;have z2:=z.lt
 cases h1:dE n l with
 |false=>
  have F:eX n l m k=false:=by unfold eX;rw[h1];rfl
  have I:=aJ F;clear F h1;have S:=D.cell;have K:=z.cell;go_wp2;go_ret;exact⟨aW I.out.symm,B⟩
 |true=>
  have Y:=aJ h1;clear h1;have K:=z.cell;go_wp2_with fail;clear K;refine(lO m k _ w1 (O.below B aK) hk).mono ?_;rintro e w2 ⟨rfl,b2⟩;have D:=D.keep b2;have z:=z.keep b2;have B:=B.after b2 B.size;have F:eX n l m k=(dE m k&&decide (n=m)):=by unfold eX;rw[Y.out];rfl
  have I:=aJ F;clear F;have S:=D.cell;have K:=z.cell;have z2:=z.lt
  cases h2:dE m k with
  |false=>have M:=aJ h2;clear h2;go_wp2;go_ret;exact⟨aW (by rw[I.out,M.out];rfl),B⟩
  |true=>have M:=aJ h2;clear h2;go_wp2;go_ret;exact⟨aW (by rw[I.out,M.out,Bool.true_and];exact rV n m),B⟩
theorem rZ(w:World)(n:Int)(v:Value)(l:List Int)(S:aO w v l)(s:Nat)(M:s<l.length)(a6:s<64):
  Calls prog 193 #[.agg #[n,v],s] w fun e w'=>e=.returned (.bool (eJ l s))/\Below w w w':=by
 have a7:=S;obtain⟨a,b,N,c,rfl,R,D,hc,hb⟩:=S.view prog 24 3 underlying24 aP;obtain⟨V,F⟩:=aN (w.alloc (.cells #[n,ajH a l.length c] 26));have B:Below w w V:=fR F;have K1:aR V w 26 #[n,ajH a l.length c]:=eG F;have J:=aT hc hb B aK s M;have ik:=fun W=>D W s M;have O:l.getD s 0=l[s]:=aU l s M;have z:eJ l s=decide (l[s]=(bN s:Int)):=by unfold eJ;rw[O]
 obtain⟨x,Y⟩:=aN (l[s]);rw[<-Y]at J z;have I:=aJ z;have Z:=aJ (fun W=>gE s W aI);have e1:∀y:Ext V,y.w.cell? ⟨w.heap.size,1,none⟩=some (ajH a l.length c):=fun y=>y.cell (K1.cell 1);have e2:∀y:Ext V,y.w.cell? ⟨b,N+s,none⟩=some (ajJ x):=fun y=>y.cell J;clear hc D hb O z Y J;go_enter func193,ntmps193;go_wp2_with fail;rw[<-F];clear F;refine bJ _ aQ aQ ?_
 repeat(first|go_big_quiet_skip|(go_big_quiet_want;go_big_quiet_op;first|go_big_quiet_on|(apply Exists.intro;refine⟨fun _=>?_,?_⟩;(go_at_call 165;exact cO (Z.out _));go_big_quiet_on)))
 refine wpQuiet_nil ?_;rintro w3 ⟨⟨w3,K⟩,rfl⟩
 try dsimp only
 go_wp2;go_ret;exact⟨aW (by rw[I.out];exact rV _ _),B.after K B.size⟩
theorem U4(w:World)(O R:Nat)(n m:Int)(v u:Value)(l k:List Int)(Z:aO w v l)(Y:aO w u k)(D:k.length=l.length)(hl:l.length<=32)(s:Nat)(S:s<l.length)(N:aR w O 26 #[n,v])(K:aR w R 26 #[m,u]):
  Calls prog 201 #[s,.pointer (some ⟨O,0,none⟩),.pointer (some ⟨R,0,none⟩)] w fun e w'=>e=.returned (.bool (eJ l s&&eJ k s))/\Below w w w':=by
 obtain⟨a,c,rfl⟩:=Z.shape;obtain⟨b,d,rfl⟩:=Y.shape;have G1:=N.cell;have z1:=N.lt;go_enter func201,ntmps201;go_wp2_with fail;clear G1;refine(rZ w n _ l Z s S aI).mono ?_;rintro e w1 ⟨rfl,z⟩;have K:=K.keep z;have M:=Y.keep z;have I:=aJ D;clear D
 cases h1:eJ l s with
 |false=>
  have F:(eJ l s&&eJ k s)=false:=by rw[h1];rfl
  have J:=aJ F;clear F h1;go_wp2;go_ret;exact⟨aW (by first|exact J.out.symm|simp),z⟩
 |true=>
  have F:(eJ l s&&eJ k s)=eJ k s:=by rw[h1];rfl
  have J:=aJ F;clear F h1;have G2:=K.cell;go_wp2_with fail;clear G2;refine(rZ w1 m _ k M s (by rw[I.out];exact S) aI).mono ?_;rintro e w2 ⟨rfl,b2⟩;go_wp2;go_ret;exact⟨aW (by first|exact J.out.symm|simp),z.after b2 z.size⟩
theorem CS:∀args w,(callFunc 201 args).run prog w=.ok (.enter 201 args) w:=enters_of func201 aQ rfl
end
end Go.Proofs.YtcpoomdoodlkjaaGreatDoor
