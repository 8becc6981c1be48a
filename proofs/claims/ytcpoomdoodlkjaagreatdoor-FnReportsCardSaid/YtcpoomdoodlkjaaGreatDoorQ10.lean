/- Lemmas for CardReports. No condition. -/
import Derived.Test.YtcpoomdoodlkjaaGreatDoorQ09
set_option maxRecDepth 100000
set_option maxHeartbeats 64000000
namespace Go.Proofs.YtcpoomdoodlkjaaGreatDoor
section
open Go.RowKit Go.G5 Go.Proofs.Tryz
theorem zA(w:World)(g:Nat)(D:Dr w g):
  Calls prog 26 #[.pointer (some ⟨g,0,none⟩)] w fun e w'=>∃(n:Int) (ad:Option Addr) (i O:Nat) (l:List Int),e=.returned (.agg #[n,aI ad i O])/\dD n/\aP 3 w w' (aI ad i O) l/\l.length<=16/\Dr w' g/\w.grownBy w' (some g):=by
 go_enter func26,ntmps26;go_wp2_with fail;refine bH ?_;intro V hV;have C:Cur w V g:=by rw[hV];exact(Cur.start D).alloc _
 have K:aU V w 26 #[aJ,()]:=eJ hV;clear hV;have yK:=K.lt;refine(ZE V g C.D).mono ?_;rintro e w1 ⟨N,ad,nn,O,L,rfl,hN,o,a9,_,D1,g1⟩;have j1:(2:Nat)^N<=16:=Nat.pow_le_pow_right (n:=2) aY hN;have j0:=Nat.two_pow_pos N;have o:=o.mono (B':=w.heap.size+1) yK;have K:=K.cur0 C.zg g1;have C:=C.next D1 g1;clear D1 g1;have f0:nn=L.length:=o.ints.capLe.1;obtain⟨vb,f3⟩:∃vb,ad=some ⟨vb,0,none⟩:=by
  rcases o.cases with⟨_,h⟩|⟨b,_,h,_⟩
  ·rw[h]at a9;simp at a9;omega
  ·injection h with h1 _ _;exact⟨b,h1⟩
 subst f3;subst f0;have I:L.length<=16:=aK;have e8:0<L.length:=aK;clear a9;have yK:=K.lt;have yV:vb<w1.heap.size:=(o.lt vb rfl).2;have j4:w.heap.size<vb:=(o.lt vb rfl).1;go_wp2_with fail;refine bH ?_;intro V1 b0;have Y:aU V1 w1 26 #[N,aI (some ⟨vb,0,none⟩) L.length O]:=by
  rw[b0]
  first
   |exact aU.new _ _ _
   |(have:=((aU.new w1 26 #[aJ,()]).set 0 (aM N)).set 1 (aI (some ⟨vb,0,none⟩) L.length O);simpa using this)
 have g2:w1.grownBy V1 (some w1.heap.size):=by
  rw[b0]
  first
   |exact fN _ (bF _ _)
   |exact dW (dW (fN _ (bF _ _)) 0 _) 1 _
 have K:=K.grow g2 vI;have o:=o.grow g2 (fun q hq e=>by have:=Option.some.inj hq;have e2:vb=q:=Option.some.inj e;omega);have C:=C.row g2 kH;have yB:w1.heap.size<V1.heap.size:=Y.lt;clear b0 g2;refine(cU V1 g C.D 16).mono ?_;rintro e S ⟨x,rfl,_,hx,_,D3,g3⟩;have hx:=hx aK;have zg:=C.zg;have K:=K.cur0 C.zg g3;have Y:=Y.cur0 aK g3;have o:=o.cur0 (Nat.lt_succ_of_lt C.zg) g3;have C:=C.next D3 g3;have y3:=Y.lt;clear D3 g3;by_cases a6:x=0
 ·subst a6
  have M:∀(W:World),aP 3 W (W.alloc (.cells #[aM (-1),aM 6,aM 5,aJ,aM 9223372036854775807] 3)) (aI (some ⟨W,0,none⟩) 5 5) [-1,6,5,0,9223372036854775807]:=fun W=>aP.lit5 W _ _ _ _ _ (by simp[dD]);have C4:=C.alloc (.cells #[aM (-1),aM 6,aM 5,aJ,aM 9223372036854775807] 3);have K4:=K.alloc (.cells #[aM (-1),aM 6,aM 5,aJ,aM 9223372036854775807] 3);have b5:=Y.alloc (.cells #[aM (-1),aM 6,aM 5,aJ,aM 9223372036854775807] 3);have o4:=o.alloc (.cells #[aM (-1),aM 6,aM 5,aJ,aM 9223372036854775807] 3);clear hx;go_wp2_with fail;refine(tH _ g C4.D S.heap.size (by have:=C.size;omega) _ _ (M S) aY).mono ?_;rintro e w5 ⟨y,rfl,hy,D5,g5⟩;have K:=K4.cur0 C.zg g5;have Y:=b5.cur0 aK g5;have o:=o4.cur0 (Nat.lt_succ_of_lt C.zg) g5;have C:=C4.next D5 g5;have c7:dD y:=by
   have:∀z∈[(-1:Int),6,5,0,9223372036854775807],dD z:=by simp[dD]
   exact this y hy
  have G3:=Y.cell;have F3:=Y.frozen;have G:=K.cell;have F:=K.frozen;clear hy D5 g5 K4 b5 C4 M o4;go_wp2;refine bG ?_;intro Wf J;obtain⟨W6,b1⟩:=aQ (w5.setCell ⟨w1.heap.size,0,none⟩ (aM y));rw[<-b1]at J;have g6:w5.grownBy W6 (some w1.heap.size):=by rw[b1];exact fH _ _ _
  have K:=K.grow g6 vI;have o:=o.grow g6 (fun q hq e=>by have:=Option.some.inj hq;have e2:vb=q:=Option.some.inj e;omega);have C:=C.row g6 kH;obtain⟨KF,R,oF⟩:=gU C K o (Nat.lt_succ_self _) J;have GF:=KF.cell;clear J b1 g6 G3 F3 G F;exact bodyPost_ret (v:=.agg #[y,aI (some ⟨vb,0,none⟩) L.length O]) (by simp[results,results26,go_sem,GF]) rfl (by first|exact⟨y,_,_,O,L,rfl,c7,oF,I,R.D,R.gr⟩|exact⟨y,_,_,O,rfl,c7,L,oF,I,R.D,R.gr⟩)
 by_cases b3:x=1
 ·subst b3;have M:∀(W:World),aP 3 W (W.alloc (.cells #[aM 1,aM (-1),aM 1001,aM (-9223372036854775808),aM 1000] 3)) (aI (some ⟨W,0,none⟩) 5 5) [1,-1,1001,-9223372036854775808,1000]:=fun W=>aP.lit5 W _ _ _ _ _ (by simp[dD]);have t0:((1:Int)==0)=false:=by simp
  clear hx a6;have Z:=tH (S.drew.alloc (.cells #[aM 1,aM (-1),aM 1001,aM (-9223372036854775808),aM 1000] 3)) g ((C.D.keep (Below.refl _ _).drew).keep (bF _ _)) S.drew.heap.size (by show g<S.heap.size;omega) _ _ (M S.drew) aY;have e4:=aN Z;have d9:Cur w (S.drew.alloc (.cells #[aM 1,aM (-1),aM 1001,aM (-9223372036854775808),aM 1000] 3)) g:=(C.keep (Below.refl _ _).drew).keep (bF _ _);have b7:aU (S.drew.alloc (.cells #[aM 1,aM (-1),aM 1001,aM (-9223372036854775808),aM 1000] 3)) w1.heap.size 26 #[N,aI (some ⟨vb,0,none⟩) L.length O]:=aU.alloc (w:=S.drew) Y _;have Kd:aU (S.drew.alloc (.cells #[aM 1,aM (-1),aM 1001,aM (-9223372036854775808),aM 1000] 3)) w.heap.size 26 #[aJ,()]:=aU.alloc (w:=S.drew) K _;have od:aP 3 (w.heap.size+1) (S.drew.alloc (.cells #[aM 1,aM (-1),aM 1001,aM (-9223372036854775808),aM 1000] 3)) (aI (some ⟨vb,0,none⟩) L.length O) L:=(o.keep (Below.refl _ _).drew).alloc _;have h5:=b7.cell;have G3:=Y.cell;have a7:∀z∈[(1:Int),-1,1001,-9223372036854775808,1000],dD z:=by simp[dD]
  have HM:=aN a7;have i7:(1:Int)<=(L.length:Int):=aK;clear Z a7 M;go_wp2_with fail;go_region_law
   (go_simp;go_at_call 149;refine e4.out.mono ?_;rintro e w5 ⟨y,rfl,hy,D5,g5⟩;have b6:=b7.cur0 aK g5;have g9:=b6.cell;have K5:=Kd.cur0 C.zg g5;have o5:=od.cur0 (Nat.lt_succ_of_lt C.zg) g5;have C5:=d9.next D5 g5;have i1:=o5.cellAt rfl 0 e8;have i6:=o5.frozenAt rfl 0)
  all_goals
   have st:=o5.stored rfl 0 y (HM.out y hy);have K6:=K5.grow st.2 (fun e=>by have e2:vb=w.heap.size:=Option.some.inj e;omega);have C6:=C5.row st.2 (fun b e=>by have e2:vb=b:=Option.some.inj e;omega);have G:=K6.cell;have F:=K6.frozen;have e5:=b6.grow st.2 (fun e=>by have e2:vb=w1.heap.size:=Option.some.inj e;omega);have h0:=e5.cell;go_wp2;refine bG ?_;intro Wf J;obtain⟨KF,R,oF⟩:=gU C6 K6 st.1 (Nat.lt_succ_self _) J;have GF:=KF.cell;clear J;exact bodyPost_ret (v:=.agg #[N,aI (some ⟨vb,0,none⟩) L.length O]) (by simp[results,results26,go_sem,GF]) rfl (by first|exact⟨N,_,_,O,L.set 0 y,rfl,⟨by omega,by omega⟩,oF,by rw[List.length_set];exact I,R.D,R.gr⟩|exact⟨N,_,_,O,rfl,⟨by omega,by omega⟩,L.set 0 y,oF,by rw[List.length_set];exact I,R.D,R.gr⟩)
 have t0:(x==0)=false:=by simp[a6]
 have t1:(x==1)=false:=by simp[b3]
 have c5:dD (N:Int):=⟨by omega,by omega⟩;clear a6 b3 hx;have G3:=Y.cell;have G:=K.cell;have F:=K.frozen;go_wp2;refine bG ?_;intro Wf J;obtain⟨KF,R,oF⟩:=gU C K o (Nat.lt_succ_self _) J;have GF:=KF.cell;clear J G3 G F;exact bodyPost_ret (v:=.agg #[N,aI (some ⟨vb,0,none⟩) L.length O]) (by simp[results,results26,go_sem,GF]) rfl (by first|exact⟨N,_,_,O,L,rfl,c5,oF,I,R.D,R.gr⟩|exact⟨N,_,_,O,rfl,c5,L,oF,I,R.D,R.gr⟩)
abbrev jU:=Nat×Nat×Nat
def mI(s i:Nat):Nat->List jU
 |0=>[]
 |k+1=>mI s i k++(if (decide (i<k)&&(!dC s i&&!dC s k)) then [(s,i,k)] else [])
def kZ(n s:Nat):Nat->List jU
 |0=>[]
 |i+1=>kZ n s i++mI s i n
def jK(n:Nat):Nat->List jU
 |0=>[]
 |s+1=>jK n s++kZ n s n
theorem O3(s i:Nat):∀k,k<=i+1->mI s i k=[]:=by
 intro k
 induction k with
 |zero=>intro _;rfl
 |succ k ih=>intro hk;rw[mI,ih aK,decide_eq_false aK];rfl
theorem aiF(s i k m:Nat)(h:k<=m):∃r,mI s i m=mI s i k++r:=by
 induction m with
 |zero=>have:k=0:=aK;subst this;exact⟨[],rfl⟩
 |succ m ih=>
  by_cases hk:k=m+1
  ·subst hk;exact⟨[],by simp⟩
  ·obtain⟨r,hr⟩:=ih aK;exact⟨r++_,by rw[mI,hr,List.append_assoc]⟩
theorem ahD(n s i m:Nat)(h:i<=m):∃r,kZ n s m=kZ n s i++r:=by
 induction m with
 |zero=>have:i=0:=aK;subst this;exact⟨[],rfl⟩
 |succ m ih=>
  by_cases hk:i=m+1
  ·subst hk;exact⟨[],by simp⟩
  ·obtain⟨r,hr⟩:=ih aK;exact⟨r++_,by rw[kZ,hr,List.append_assoc]⟩
theorem ahE(n s m:Nat)(h:s<=m):∃r,jK n m=jK n s++r:=by
 induction m with
 |zero=>have:s=0:=aK;subst this;exact⟨[],rfl⟩
 |succ m ih=>
  by_cases hk:s=m+1
  ·subst hk;exact⟨[],by simp⟩
  ·obtain⟨r,hr⟩:=ih aK;exact⟨r++_,by rw[jK,hr,List.append_assoc]⟩
theorem D9(n N s i k:Nat)(D:s<N)(z:i<n)(hk:k<=n):∃r,jK n N=((jK n s++kZ n s i)++mI s i k)++r:=by
 obtain⟨J,h3⟩:=ahE n (s+1) N D;obtain⟨I,h2⟩:=ahD n s (i+1) n z;obtain⟨F,h1⟩:=aiF s i k n hk;rw[jK]at h3;rw[kZ]at h2;exact⟨F++(I++J),by rw[h3,h2,h1];simp[List.append_assoc]⟩
theorem ahH(s i k:Nat):∀t∈mI s i k,t.1=s/\t.2.1=i/\i<t.2.2/\t.2.2<k:=by
 induction k with
 |zero=>intro t h;cases h
 |succ k ih=>
  intro t h;rw[mI,List.mem_append]at h;rcases h with h|h
  ·have:=ih t h;omega
  ·split at h
   ·rename_i hc;rw[List.mem_singleton]at h;rw[Bool.and_eq_true]at hc;have:=of_decide_eq_true hc.1;subst h;simp;omega
   ·cases h
theorem afD(n s i:Nat):∀t∈kZ n s i,t.1=s/\t.2.1<i/\t.2.1<t.2.2/\t.2.2<n:=by
 induction i with
 |zero=>intro t h;cases h
 |succ i ih=>
  intro t h;rw[kZ,List.mem_append]at h;rcases h with h|h
  ·have:=ih t h;omega
  ·have:=ahH s i n t h;omega
theorem UI(n s:Nat):∀t∈jK n s,t.1<s/\t.2.1<t.2.2/\t.2.2<n:=by
 induction s with
 |zero=>intro t h;cases h
 |succ s ih=>
  intro t h;rw[jK,List.mem_append]at h;rcases h with h|h
  ·have:=ih t h;omega
  ·have:=afD n s n t h;omega
def gL{α:Type}(step:α->jU->α×Bool):List jU->α->α×Bool
 |[],a=>(a,true)
 |t::r,a=>if (step a t).2 then gL step r (step a t).1 else ((step a t).1,false)
theorem FV{α:Type}(step:α->jU->α×Bool)(x y:List jU)(a:α):gL step (x++y) a=if (gL step x a).2 then gL step y (gL step x a).1 else gL step x a:=by
 induction x generalizing a with
 |nil=>rfl
 |cons t x ih=>
  rw[List.cons_append,gL,gL]
  split
  ·exact ih _
  ·rename_i h;simp
theorem XN{α:Type}{step:α->jU->α×Bool}{x y:List jU}{a b:α}(h:gL step x a=(b,true)):gL step (x++y) a=gL step y b:=by rw[FV,h];rfl
theorem OT{α:Type}{step:α->jU->α×Bool}{x y:List jU}{a b:α}(h:gL step x a=(b,false)):gL step (x++y) a=(b,false):=by rw[FV,h];rfl
theorem T0{α:Type}(step:α->jU->α×Bool)(t:jU)(a:α):gL step [t] a=step a t:=by
 rw[gL]
 split
 ·rename_i h;rw[gL];ext<;>simp[h]
 ·rename_i h;ext<;>simp_all
def kM(l:List Int)(s i k:Nat):Int:=l.getD (bU s i ||| bU s k) 0+l.getD s 0-l.getD (bU s i) 0-l.getD (bU s k) 0
def vD(l:List Int)(t:jU):Bool:=decide (0<kM l t.1 t.2.1 t.2.2)
def iW(l:List Int)(a:Option jU)(t:jU):Option jU×Bool:=if vD l t then (some t,false) else (a,a.isNone)
def zP(n:Nat)(l:List Int):Option jU:=(gL (iW l) (jK n (2^n)) none).1
def nR(n:Int)(l:List Int):Option jU:=if bM n l then zP n.toNat l else none
def nQ(n:Int)(l:List Int):Bool:=(nR n l).isSome
def afE:Option jU->List Int
 |none=>[]
 |some t=>[(t.1:Int),(t.2.1:Int),(t.2.2:Int)]
def qY(n:Int)(l:List Int):List Int:=afE (nR n l)
def gR(n:Int)(l:List Int):Bool:=bM n l&&!nQ n l
theorem aeU(s x y:Nat):(s ||| x) ||| (s ||| y)=(s ||| x) ||| y:=by
 apply Nat.eq_of_testBit_eq
 intro j;simp only[Nat.testBit_or]
 cases s.testBit j<;>cases x.testBit j<;>cases y.testBit j<;>rfl
theorem oN(s i k:Nat):bU s i ||| bU s k=bU (bU s i) k:=by unfold bU;exact aeU s (2^i) (2^k)
theorem RL(n:Nat)(l:List Int)(hl:l.length=2^n)(hb:∀k,(hk:k<l.length)->-1000<=l[k]/\l[k]<=1000)(s i k:Nat)(z:s<2^n)(D:i<n)(hk:k<n):-4000<=kM l s i k/\kM l s i k<=4000:=by
 have h1:=eQ s i n z D;have h2:=eQ s k n z hk;have h3:=eQ (bU s i) k n h1 hk;rw[<-oN]at h3;unfold kM;rw[aX l _ aK,aX l _ aK,aX l _ aK,aX l _ aK];have F:=hb (bU s i) aK;have b2:=hb (bU s k) aK;have I:=hb (bU s i ||| bU s k) aK;have J:=hb s aK;omega
def wF(l:List Int)(s e:Nat):Bool:=!decide (eA l s e<0)
def mN(n:Int)(l:List Int):Bool:=bM n l&&cJ (fun s=>cJ (wF l s) n.toNat) l.length
theorem cX{n:Int}{l:List Int}(h:bM n l=true):∃N:Nat,n=N/\N<=5/\l.length=2^N/\l.length<=32/\∀k,(hk:k<l.length)->-1000<=l[k]/\l[k]<=1000:=by
 obtain⟨J,K,z,I⟩:=lB h;obtain⟨N,rfl⟩:=Int.eq_ofNat_of_zero_le J;have D:N<=5:=aK;have F:l.length=2^N:=by
  have e2:(N:Int).toNat=N:=aK;rw[e2]at z
  exact_mod_cast z
 have M:(2:Nat)^N<=32:=Nat.pow_le_pow_right (n:=2) aY D;exact⟨N,rfl,D,F,by omega,I⟩
theorem SK(n:Int)(l:List Int)(v:Value)(w:World)(hv:aR w v l):
  Calls prog 45 #[.agg #[n,v]] w fun e w'=>e=.returned (.bool (mN n l))/\Below w w w':=by
 have Y:=hv;obtain⟨a,c,rfl⟩:=hv.shape;have K0:=aU.new w 26 #[n,aI a l.length c]
 cases R:bM n l with
 |false=>
  have hx:mN n l=false:=by unfold mN;rw[R];rfl
  have HX:=aN hx;have HF:=aN R;clear hx R;go_enter func45,ntmps45;go_wp2_with (go_at_call 34;refine(dV n l _ _ (Y.alloc _)).mono ?_;rintro e w1 ⟨rfl,D⟩;rw[HF.out]);go_ret;exact⟨aZ HX.out.symm,(bF _ _).after D (by simp)⟩
 |true=>
  obtain⟨N,rfl,e9,b1,e4,b3⟩:=cX R;have hx:mN N l=cJ (fun s=>cJ (wF l s) N) l.length:=by unfold mN;rw[R];simp
  obtain⟨F,hF⟩:∃F:Nat->Bool,F=fun s=>cJ (wF l s) N:=⟨_,rfl⟩;rw[<-hF]at hx;have HX:=aN hx;have HF:=aN R;have c5:=aN hF;have c7:=aN b3;have c6:=aN b1;clear hx R hF b3 b1;go_enter func45,ntmps45;go_wp2_with fail;refine(dV N l _ _ (Y.alloc _)).mono ?_;rintro e w1 ⟨rfl,D⟩;rw[HF.out];have K1:=K0.keep D;have B1:Below w w w1:=(bF _ _).after D (by simp);have G1:=K1.cell;clear K0 D;go_wp2_with fail;go_loopw [11] (fun i wr=>∃s:Nat,s<=l.length/\i=aM s/\cJ F s=true/\Below w w wr/\aU wr w 26 #[N,aI a l.length c]) (fun i _=>l.length-(intOf i).toNat)
  case atStart=>exact⟨0,Nat.zero_le _,rfl,rfl,B1,K1⟩
  case round=>
   obtain⟨s,hs,rfl,z,B,K⟩:=hrel;obtain⟨wo,rfl⟩:∃wo:World,wo=wr:=⟨_,rfl⟩;have H:=aN z;clear z G1;have G1:=K.cell;by_cases J:s<l.length
   ·have a9:F s=cJ (wF l s) N:=by rw[c5.out]
    have a7:=aN a9;clear a9;go_wp2_with fail;go_loopw [16] (fun i wr=>∃k:Nat,k<=N/\i=aM k/\cJ (wF l s) k=true/\Below w w wr/\aU wr w 26 #[N,aI a l.length c]) (fun i _=>N-(intOf i).toNat)
    case atStart=>exact⟨0,Nat.zero_le _,rfl,rfl,B,K⟩
    case round=>
     obtain⟨k,hk,rfl,z,Z,K2⟩:=hrel;obtain⟨wi,rfl⟩:∃wo:World,wo=wr:=⟨_,rfl⟩;have H2:=aN z;clear z G1;have G1:=K2.cell;by_cases b0:k<N
     ·have d6:bU s k<l.length:=by rw[c6.out]at J ⊢;exact eQ _ _ _ J b0
      have hg:=AZ N l _ s k wi (Y.below Z aO) aK J aK d6 c7.out;have S:wF l s k=!decide (eA l s k<0):=rfl;obtain⟨q,hq⟩:=aQ (eA l s k);rw[<-hq]at hg S;have HG:=aN hg;have a8:=aN S;clear hg S hq;by_cases O:q<0
      ·have hu:wF l s k=false:=by rw[a8.out,decide_eq_true O];rfl
       have M:mN N l=false:=by rw[HX.out];exact dG J (by rw[a7.out];exact dG b0 hu)
       have a6:=aN M;clear hu M;go_wp2_with (go_at_call 170;refine HG.out.mono ?_;rintro e w3 ⟨rfl,I⟩);go_ret;exact⟨aZ a6.out.symm,Z.after I Z.size⟩
      ·have hu:wF l s k=true:=by rw[a8.out,decide_eq_false O];rfl
       have HU:=aN hu;clear hu;go_wp2_with (go_at_call 170;refine HG.out.mono ?_;rintro e w3 ⟨rfl,I⟩);go_roundw
       case rel=>exact⟨k+1,by omega,by go_num,dN H2.out HU.out,Z.after I Z.size,K2.keep I⟩
       case measure=>simp[intOf];omega
     ·have d5:k=N:=aK;subst d5;go_wp2;go_roundw
      case rel=>exact⟨s+1,by omega,by go_num,dN H.out (by rw[a7.out];exact H2.out),Z,K2⟩
      case measure=>simp[intOf];omega
   ·have b4:s=l.length:=aK;subst b4;go_wp2;go_ret;exact⟨aZ (by rw[HX.out,H.out]),B⟩
theorem SL(n:Int)(l:List Int)(v:Value)(w:World)(hv:aR w v l):
  Calls prog 61 #[.agg #[n,v]] w fun e w'=>e=.returned (.bool (mN n l))/\Below w w w':=by
 have R:=hv;obtain⟨a,b,g0,c,rfl,e8,b6,hc,hb⟩:=hv.view prog 24 3 underlying24 aS;have K0:=aU.new w 26 #[n,aI a l.length c]
 cases hf:bM n l with
 |false=>
  have hx:mN n l=false:=by unfold mN;rw[hf];rfl
  have HX:=aN hx;have HF:=aN hf;clear hx hf;go_enter func61,ntmps61;go_wp2_with fail;go_loopw [3] (fun i wr=>i=aM 0/\Below w w wr/\aU wr w 26 #[n,aI a l.length c]) (fun _ _=>0)
  case atStart=>exact⟨rfl,bF _ _,K0⟩
  case round=>obtain⟨rfl,B,K⟩:=hrel;have Z:=K.cell;go_wp2_with fail;refine(dJ n l _ _ (R.below B aO)).mono ?_;rintro e w1 ⟨rfl,D⟩;rw[HF.out];have S:=B.after D B.size;have K1:=K.keep D;clear Z;have Z:=K1.cell;go_wp2_with fail;refine(dJ n l _ _ (R.below S aO)).mono ?_;rintro e w2 ⟨rfl,a1⟩;rw[HF.out];go_wp2;go_ret;exact⟨aZ HX.out.symm,S.after a1 S.size⟩
 |true=>
  obtain⟨N,rfl,f7,b8,e7,b9⟩:=cX hf;have hx:mN N l=cJ (fun s=>cJ (wF l s) N) l.length:=by unfold mN;rw[hf];simp
  obtain⟨F,hF⟩:∃F:Nat->Bool,F=fun s=>cJ (wF l s) N:=⟨_,rfl⟩;rw[<-hF]at hx;have HX:=aN hx;have HF:=aN hf;have d5:=aN hF;have f4:=aN b9;have d6:=aN b8;have HC:=aN hc;have b3:=aN b6;clear hx hf hF b9 b8 hc b6;go_enter func61,ntmps61;go_wp2_with fail;go_loopw [3] (fun i wr=>∃s:Nat,s<=l.length/\i=aM s/\cJ F s=true/\Below w w wr/\aU wr w 26 #[N,aI a l.length c]) (fun i _=>l.length-(intOf i).toNat)
  case atStart=>exact⟨0,Nat.zero_le _,rfl,rfl,bF _ _,K0⟩
  case round=>
   obtain⟨s,hs,rfl,z,B,K⟩:=hrel;obtain⟨wo,rfl⟩:∃wo:World,wo=wr:=⟨_,rfl⟩;have H:=aN z;clear z K0;have Z:=K.cell;go_wp2_with fail;refine(dJ N l _ _ (R.below B aO)).mono ?_;rintro e w1 ⟨rfl,D⟩;rw[HF.out];have K:=K.keep D;have S:=B.after D B.size;clear Z D B;have Z:=K.cell;by_cases I:s<l.length
   ·have b5:F s=cJ (wF l s) N:=by rw[d5.out]
    have b1:=aN b5;clear b5;go_wp2_with fail;go_loopw [4] (fun i wr=>∃k:Nat,k<=N/\i=aM k/\cJ (wF l s) k=true/\Below w w wr/\aU wr w 26 #[N,aI a l.length c]) (fun i _=>N-(intOf i).toNat)
    case atStart=>exact⟨0,Nat.zero_le _,rfl,rfl,S,K⟩
    case round=>
     obtain⟨k,hk,rfl,z,B2,K2⟩:=hrel;obtain⟨wi,rfl⟩:∃wo:World,wo=wr:=⟨_,rfl⟩;have H2:=aN z;clear z Z;have Z:=K2.cell;by_cases b7:k<N
     ·have J:bU s k<l.length:=by rw[d6.out]at I ⊢;exact eQ _ _ _ I b7
      have c0:=aW HC.out hb B2 aO s I;have c1:=aW HC.out hb B2 aO _ J;have i0:=fun W=>b3.out W s I;have i1:=fun W=>b3.out W _ J;have q1:=fZ s k aK aK;have M:wF l s k=!decide (l[bU s k]-l[s]<0):=by unfold wF eA;rw[aX l _ J,aX l _ I]
      obtain⟨u1,O⟩:=aQ (bU s k);simp only[<-O]at c1 i1 q1 M;obtain⟨x0,c7⟩:=aQ (l[s]);rw[<-c7]at c0 M;have f0:u1<l.length:=O▸J;obtain⟨x1,c8⟩:=aQ (l[u1]);rw[<-c8]at c1 M;have pk:=cO k 6 aK;have g1:(2:Int)^k<=64:=by simpa using pk.1
      have g2:=pk.2;have wk:IntKind.i64.wrap ((2:Int)^k)=2^k:=by rw[IntKind.wrap_i64];omega
      have f8:k<5:=aK;have b4:=aN M;clear M c7 c8 pk J;by_cases e9:x1<x0
      ·have hu:wF l s k=false:=by rw[b4.out,decide_eq_true aK];rfl
       have Y:mN N l=false:=by rw[HX.out];exact dG I (by rw[b1.out];exact dG b7 hu)
       have a9:=aN Y;clear hu Y O;go_wp2_with fail;go_quiet (fail);go_wp2;go_ret;exact⟨aZ a9.out.symm,B2.drewN' _⟩
      ·have hu:wF l s k=true:=by rw[b4.out,decide_eq_false aK];rfl
       have HU:=aN hu;clear hu O;go_wp2_with fail;go_quiet (fail);go_wp2;go_roundw
       case rel=>exact⟨k+1,by omega,by go_num,dN H2.out HU.out,B2.drewN' _,K2.drewN _⟩
       case measure=>simp[intOf];omega
     ·have e0:k=N:=aK;subst e0;go_wp2;go_roundw
      case rel=>exact⟨s+1,by omega,by go_num,dN H.out (by rw[b1.out];exact H2.out),B2,K2⟩
      case measure=>simp[intOf];omega
   ·have c5:s=l.length:=aK;subst c5;go_wp2_with fail;refine(dJ N l _ _ (R.below S aO)).mono ?_;rintro e w2 ⟨rfl,a1⟩;rw[HF.out];go_wp2;go_ret;exact⟨aZ (by rw[HX.out,H.out]),S.after a1 S.size⟩
theorem JJ(c s:Nat):(dO (c:Int) s==0)=!dC c s:=by
 have h:=uC c s;have h2:dO (c:Int) s=0∨dO (c:Int) s=1:=by unfold dO;omega
 rcases h2 with h2|h2
 ·rw[h2]at h ⊢;rw[<-h];rfl
 ·rw[h2]at h ⊢;rw[<-h];rfl
theorem AQ{α:Type}(n:Nat)(hn:n<=5)(l:List Int)(lv:Value)(hl:l.length=2^n)(c:FuncId)(he:∀args w,(callFunc c args).run prog w=.ok (.enter c args) w)(g1 g2:Nat)
  (step:α->jU->α×Bool) (M:α->World->Prop) (P:Nat->Prop) (R:∀a W W',M a W->Below W W W'->M a W')
  (w:World) (f6:∃a c,lv=aI a l.length c) (hP:∀b,P b->b<w.heap.size)
  (hcl:∀a (s i k:Nat) W,s<2^n->i<k->k<n->dC s i=false->dC s k=false->M a W->GrownIn w W P->Calls prog c #[s,i,k,.pointer (some ⟨g1,0,none⟩),.pointer (some ⟨g2,0,none⟩)] W fun e w'=>e=.returned (.bool (step a (s,i,k)).2)/\M (step a (s,i,k)).1 w'/\GrownIn W w' P)
  (a0:α) (h0:M a0 w):
  Calls prog 160 #[.agg #[n,lv],.func (.func c) #[] #[.pointer (some ⟨g1,0,none⟩),.pointer (some ⟨g2,0,none⟩)]] w fun e w'=>e=.returned (.tuple #[])/\M (gL step (jK n (2^n)) a0).1 w'/\GrownIn w w' P:=by
 obtain⟨a,cp,rfl⟩:=f6;have f7:(2:Nat)^n<=32:=Nat.pow_le_pow_right (n:=2) aY hn;obtain⟨N,hN⟩:∃N:Nat,N=2^n:=⟨_,rfl⟩;rw[<-hN]at hl f7 hcl ⊢;obtain⟨T,hT⟩:=aQ (jK n N);rw[<-hT];have f4:l.length<=32:=aK;have K0:=aU.new w 26 #[n,aI a l.length cp];have R0:=R a0 w _ h0 (bF w (.cells #[n,aI a l.length cp] 26));have c7:GrownIn w (w.alloc (.cells #[n,aI a l.length cp] 26)) P:=GrownIn.of_below (bF _ _);have HT:=aN hT;have HL:=aN hl;have e9:=aN hcl;have HM:=aN R;have HP:=aN hP;clear hT hl hcl R hP hN;go_enter func160,ntmps160;go_wp2_with fail;go_loopw [10] (fun s wr=>∃(k:Nat) (b:α),k<=l.length/\s=aM k/\gL step (jK n k) a0=(b,true)/\M b wr/\GrownIn w wr P/\aU wr w 26 #[n,aI a l.length cp]) (fun s _=>l.length-(intOf s).toNat)
 case atStart=>exact⟨0,a0,Nat.zero_le _,rfl,rfl,R0,c7,K0⟩
 case round=>
  obtain⟨s,b,hs,rfl,F,D,O,K⟩:=hrel;obtain⟨wo,rfl⟩:∃wo:World,wo=wr:=⟨_,rfl⟩;have HR:=aN F;have a9:=aN D;have c9:=aN O;clear F D O R0 c7 K0;by_cases f8:s<l.length
  ·have e5:s<N:=by rw[<-HL.out];exact f8
   have d5:=aN e5;have G1:=K.cell;clear e5;go_wp2_with fail;go_loopw [15] (fun i wr=>∃(k:Nat) (b:α),k<=n/\i=aM k/\gL step (jK n s++kZ n s k) a0=(b,true)/\M b wr/\GrownIn w wr P/\aU wr w 26 #[n,aI a l.length cp]) (fun i _=>n-(intOf i).toNat)
   case atStart=>exact⟨0,b,Nat.zero_le _,rfl,by rw[show kZ n s 0=[] from rfl,List.append_nil];exact HR.out,a9.out,c9.out,K⟩
   case round=>
    obtain⟨i,b2,hi,rfl,F,D,O,K⟩:=hrel;obtain⟨wi,rfl⟩:∃wo:World,wo=wr:=⟨_,rfl⟩;have d0:=aN F;have Z:=aN D;have a8:=aN O;clear F D O G1;by_cases f5:i<n
    ·have e7:=O3 s i (i+1) aO;have f0:=aN e7;clear e7;go_wp2_with fail;go_loopw [6] (fun i' wr=>∃(k:Nat) (b:α),i<k/\k<=n/\i'=aM k/\gL step ((jK n s++kZ n s i)++mI s i k) a0=(b,true)/\M b wr/\GrownIn w wr P/\aU wr w 26 #[n,aI a l.length cp]) (fun i' _=>n-(intOf i').toNat)
     case atStart=>exact⟨i+1,b2,by omega,by omega,by go_num,by rw[f0.out,List.append_nil];exact d0.out,Z.out,a8.out,K⟩
     case round=>
      obtain⟨k,b3,d8,hk,rfl,F,D,O,K⟩:=hrel;obtain⟨wk,rfl⟩:∃wo:World,wo=wr:=⟨_,rfl⟩;have a6:=aN F;have J:=aN D;have I:=aN O;have G1:=K.cell;clear F D O;by_cases e0:k<n
      ·have f2:=jO (s:Int) i aK aK;have f3:=jO (s:Int) k aK aK;have S:=JJ s i;have Y:=JJ s k;obtain⟨y,hy⟩:=aQ (dO (s:Int) i);obtain⟨z,hz⟩:=aQ (dO (s:Int) k);rw[<-hy]at f2 S;rw[<-hz]at f3 Y;have b8:mI s i (k+1)=mI s i k++(if (decide (i<k)&&(!dC s i&&!dC s k)) then [(s,i,k)] else []):=rfl;rw[decide_eq_true d8,Bool.true_and]at b8;have b5:=aN b8;clear hy hz b8
       cases h1:dC s i with
       |true=>
        have f9:(y==0)=false:=by rw[S,h1];rfl
        have H1:=aN h1;clear h1 S Y;go_wp2;go_roundw
        case rel=>exact⟨k+1,b3,by omega,by omega,by go_num,by rw[b5.out,H1.out];simpa using a6.out,J.out,I.out,K⟩
        case measure=>simp[intOf];omega
       |false=>
        have f9:(y==0)=true:=by rw[S,h1];rfl
        cases h2:dC s k with
        |true=>
         have g0:(z==0)=false:=by rw[Y,h2];rfl
         have H2:=aN h2;clear h1 h2 S Y;go_wp2;go_roundw
         case rel=>exact⟨k+1,b3,by omega,by omega,by go_num,by rw[b5.out,H2.out];simpa using a6.out,J.out,I.out,K⟩
         case measure=>simp[intOf];omega
        |false=>
         have g0:(z==0)=true:=by rw[Y,h2];rfl
         have b7:=e9.out b3 s i k wk d5.out d8 e0 h1 h2 J.out I.out;have b4:mI s i (k+1)=mI s i k++[(s,i,k)]:=by rw[b5.out,h1,h2];rfl
         obtain⟨r,hr⟩:=aQ (step b3 (s,i,k));have b1:gL step [(s,i,k)] b3=r:=by rw[T0,hr]
         rw[<-hr]at b7;have a1:gL step (((jK n s++kZ n s i)++mI s i k)++[(s,i,k)]) a0=r:=by rw[XN a6.out];exact b1
         obtain⟨ra,rb⟩:=r;have c8:=aN b7;have d6:=aN b4;have b0:=aN a1;clear h1 h2 S Y b7 b4 b1 a1 hr
         cases rb with
         |true=>
          go_wp2_with (go_at_fn c;refine c8.out.mono ?_;rintro e w4 ⟨rfl,b6,a7⟩);have K4:=K.growIn a7 (fun h=>by have:=HP.out _ h;omega);have GG:=I.out.trans a7;go_roundw
          case rel=>exact⟨k+1,ra,by omega,by omega,by go_num,by rw[d6.out,<-List.append_assoc];exact b0.out,b6,GG,K4⟩
          case measure=>simp[intOf];omega
         |false=>
          go_wp2_with (go_at_fn c;refine c8.out.mono ?_;rintro e w4 ⟨rfl,b6,a7⟩);refine bodyPost_ret (v:=.tuple #[]) (results_none rfl _ _ _) rfl ⟨rfl,?_,I.out.trans a7⟩;have hT:(gL step T a0).1=ra:=by obtain⟨r,hr⟩:=D9 n N s i (k+1) d5.out f5 e0;rw[HT.out,hr,d6.out,<-List.append_assoc,OT b0.out]
          rw[hT];exact b6
      ·have e4:k=n:=aK;subst e4;go_wp2;go_roundw
       case rel=>exact⟨i+1,b3,by omega,by go_num,by rw[show kZ k s (i+1)=kZ k s i++mI s i k from rfl,<-List.append_assoc];exact a6.out,J.out,I.out,K⟩
       case measure=>simp[intOf];omega
    ·have d9:i=n:=aK;subst d9;have G1:=K.cell;go_wp2;go_roundw
     case rel=>exact⟨s+1,b2,by omega,by go_num,d0.out,Z.out,a8.out,K⟩
     case measure=>simp[intOf];omega
  ·have e6:s=l.length:=aK;subst e6;go_wp2;go_end0;refine⟨rfl,?_,c9.out⟩;rw[HT.out,<-HL.out,HR.out];exact a9.out
theorem I6(n:Nat)(hn:n<=5)(l:List Int)(v:Value)(w:World)(hv:aR w v l)(hl:l.length=2^n)(D:∀k,(hk:k<l.length)->-1000<=l[k]/\l[k]<=1000)(s i k:Nat)(F:s<2^n)(hi:i<n)(hk:k<n):
  Calls prog 162 #[.agg #[n,v],s,i,k] w fun e w'=>e=.returned (kM l s i k)/\Below w w w':=by
 obtain⟨a,b,c8,c,rfl,a9,z,hc,hb⟩:=hv.view prog 24 3 underlying24 aS;have hc:=aW hc hb (bF w (.cells #[n,aI a l.length c] 26)) aO;have h1:=eQ s i n F hi;have h2:=eQ s k n F hk;have h3:=eQ (bU s i) k n h1 hk;rw[<-oN]at h3;have p5:(2:Nat)^n<=32:=Nat.pow_le_pow_right (n:=2) aY hn;rw[<-hl]at h1 h2 h3 F p5;have c0:=hc s F;have c1:=hc _ h1;have c2:=hc _ h2;have c3:=hc _ h3;have i0:=fun W=>z W s F;have i1:=fun W=>z W _ h1;have i2:=fun W=>z W _ h2;have i3:=fun W=>z W _ h3;have b0:=D s F;have b1:=D _ h1;have b2:=D _ h2;have b3:=D _ h3;have hex:kM l s i k=l[bU s i ||| bU s k]+l[s]-l[bU s i]-l[bU s k]:=by unfold kM;rw[aX l _ h3,aX l _ F,aX l _ h1,aX l _ h2]
 have q1:=fZ s i aK aK;have q2:=fZ s k aK aK;have q3:=IR (bU s i) (bU s k) aK aK;have Y:=fZ (bU s i) k aK aK;rw[<-oN]at Y;obtain⟨u1,J⟩:=aQ (bU s i);obtain⟨u2,K⟩:=aQ (bU s k);simp only[<-J,<-K]at c1 c2 c3 i1 i2 i3 b1 b2 b3 hex q1 q2 q3 Y h1 h2 h3;obtain⟨u3,M⟩:=aQ (u1 ||| u2);simp only[<-M]at c3 i3 b3 hex q3 Y h3;obtain⟨I,N⟩:=aQ (l[s]);obtain⟨x1,O⟩:=aQ (l[u1]);obtain⟨x2,R⟩:=aQ (l[u2]);obtain⟨x3,S⟩:=aQ (l[u3]);rw[<-N]at c0 b0 hex;rw[<-O]at c1 b1 hex;rw[<-R]at c2 b2 hex;rw[<-S]at c3 b3 hex;have pi:=cO i 6 aK;have pk:=cO k 6 aK;have d0:(2:Int)^i<=64:=by simpa using pi.1
 have d6:(2:Int)^k<=64:=by simpa using pk.1
 have d5:=pi.2;have d7:=pk.2;have wi:IntKind.i64.wrap ((2:Int)^i)=2^i:=by rw[IntKind.wrap_i64];omega
 have wk:IntKind.i64.wrap ((2:Int)^k)=2^k:=by rw[IntKind.wrap_i64];omega
 have w1:IntKind.i64.wrap (x3+I)=x3+I:=by rw[IntKind.wrap_i64];omega
 have w2:IntKind.i64.wrap (x3+I-x1)=x3+I-x1:=by rw[IntKind.wrap_i64];omega
 have w3:IntKind.i64.wrap (x3+I-x1-x2)=x3+I-x1-x2:=by rw[IntKind.wrap_i64];omega
 have Z:=aN hex;have z0:(0:Int)<=(s:Int):=aK;clear z hb D hex J K M N O R S pi pk Y hc hl;go_enter func162,ntmps162;go_wp2_with fail;go_quiet (fail);go_wp2;go_ret;exact⟨fI Z.out.symm,(bF _ _).drewN' _⟩
end
end Go.Proofs.YtcpoomdoodlkjaaGreatDoor
