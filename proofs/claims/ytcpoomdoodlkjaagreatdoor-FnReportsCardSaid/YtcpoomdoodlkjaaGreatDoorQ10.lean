/- Lemmas for CardReports. No condition. -/
import Derived.Test.YtcpoomdoodlkjaaGreatDoorQ09
set_option maxRecDepth 100000
set_option maxHeartbeats 64000000
namespace Go.Proofs.YtcpoomdoodlkjaaGreatDoor
section
open Go.RowKit Go.G5 Go.Proofs.Tryz
theorem yX(w:World)(g:Nat)(D:Dr w g):
  Calls prog 26 #[.pointer (some ⟨g,0,none⟩)] w fun e w'=>∃(n:Int) (ad:Option Addr) (i O:Nat) (l:List Int),e=.returned (.agg #[n,ajH ad i O])/\dA n/\aM 3 w w' (ajH ad i O) l/\l.length<=16/\Dr w' g/\w.grownBy w' (some g):=by
 go_enter func26,ntmps26;go_wp2_with fail;refine bB ?_;intro V hV;have C:Cur w V g:=by rw[hV];exact(Cur.start D).alloc _
 have K:aR V w 26 #['0',()]:=eG hV;clear hV;have yK:=K.lt;refine(ZA V g C.D).mono ?_;rintro e w1 ⟨N,ad,nn,O,L,rfl,hN,o,a9,_,D1,g1⟩;have j1:(2:Nat)^N<=16:=Nat.pow_le_pow_right (n:=2) aV hN;have j0:=Nat.two_pow_pos N;have o:=o.mono (B':=w.heap.size+1) yK;have K:=K.cur0 C.zg g1;have C:=C.next D1 g1;clear D1 g1;have f0:nn=L.length:=o.ints.capLe.1;obtain⟨vb,f3⟩:∃vb,ad=some ⟨vb,0,none⟩:=by
  rcases o.cases with⟨_,h⟩|⟨b,_,h,_⟩
  ·rw[h]at a9;simp at a9;omega
  ·injection h with h1 _ _;exact⟨b,h1⟩
 subst f3;subst f0;have I:L.length<=16:=aI;have e8:0<L.length:=aI;clear a9;have yK:=K.lt;have yV:vb<w1.heap.size:=(o.lt vb rfl).2;have j4:w.heap.size<vb:=(o.lt vb rfl).1;go_wp2_with fail;refine bB ?_;intro V1 b0;have Y:aR V1 w1 26 #[N,ajH (some ⟨vb,0,none⟩) L.length O]:=by
  rw[b0]
  first
   |exact aR.new _ _ _
   |(have:=((aR.new w1 26 #['0',()]).set 0 (ajJ N)).set 1 (ajH (some ⟨vb,0,none⟩) L.length O);simpa using this)
 have g2:w1.grownBy V1 (some w1.heap.size):=by
  rw[b0]
  first
   |exact fK _ (aY _ _)
   |exact dT (dT (fK _ (aY _ _)) 0 _) 1 _
 have K:=K.grow g2 vE;have o:=o.grow g2 (fun q hq e=>by have:=Option.some.inj hq;have e2:vb=q:=Option.some.inj e;omega);have C:=C.row g2 kE;have yB:w1.heap.size<V1.heap.size:=Y.lt;clear b0 g2;refine(cR V1 g C.D 16).mono ?_;rintro e S ⟨x,rfl,_,hx,_,D3,g3⟩;have hx:=hx aI;have zg:=C.zg;have K:=K.cur0 C.zg g3;have Y:=Y.cur0 aI g3;have o:=o.cur0 (Nat.lt_succ_of_lt C.zg) g3;have C:=C.next D3 g3;have y3:=Y.lt;clear D3 g3;by_cases a6:x=0
 ·subst a6
  have M:∀(W:World),aM 3 W (W.alloc (.cells #[ajJ (-1),ajJ 6,ajJ 5,'0',ajJ 9223372036854775807] 3)) (ajH (some ⟨W,0,none⟩) 5 5) [-1,6,5,0,9223372036854775807]:=fun W=>aM.lit5 W _ _ _ _ _ (by simp[dA]);have C4:=C.alloc (.cells #[ajJ (-1),ajJ 6,ajJ 5,'0',ajJ 9223372036854775807] 3);have K4:=K.alloc (.cells #[ajJ (-1),ajJ 6,ajJ 5,'0',ajJ 9223372036854775807] 3);have b5:=Y.alloc (.cells #[ajJ (-1),ajJ 6,ajJ 5,'0',ajJ 9223372036854775807] 3);have o4:=o.alloc (.cells #[ajJ (-1),ajJ 6,ajJ 5,'0',ajJ 9223372036854775807] 3);clear hx;go_wp2_with fail;refine(tE _ g C4.D S.heap.size (by have:=C.size;omega) _ _ (M S) aV).mono ?_;rintro e w5 ⟨y,rfl,hy,D5,g5⟩;have K:=K4.cur0 C.zg g5;have Y:=b5.cur0 aI g5;have o:=o4.cur0 (Nat.lt_succ_of_lt C.zg) g5;have C:=C4.next D5 g5;have c7:dA y:=by
   have:∀z∈[(-1:Int),6,5,0,9223372036854775807],dA z:=by simp[dA]
   exact this y hy
  have G3:=Y.cell;have F3:=Y.frozen;have G:=K.cell;have F:=K.frozen;clear hy D5 g5 K4 b5 C4 M o4;go_wp2;refine aZ ?_;intro Wf J;obtain⟨W6,b1⟩:=aN (w5.setCell ⟨w1.heap.size,0,none⟩ (ajJ y));rw[<-b1]at J;have g6:w5.grownBy W6 (some w1.heap.size):=by rw[b1];exact fE _ _ _
  have K:=K.grow g6 vE;have o:=o.grow g6 (fun q hq e=>by have:=Option.some.inj hq;have e2:vb=q:=Option.some.inj e;omega);have C:=C.row g6 kE;obtain⟨KF,R,oF⟩:=gR C K o (Nat.lt_succ_self _) J;have GF:=KF.cell;clear J b1 g6 G3 F3 G F;exact bodyPost_ret (v:=.agg #[y,ajH (some ⟨vb,0,none⟩) L.length O]) (by simp[results,results26,go_sem,GF]) rfl (by first|exact⟨y,_,_,O,L,rfl,c7,oF,I,R.D,R.gr⟩|exact⟨y,_,_,O,rfl,c7,L,oF,I,R.D,R.gr⟩)
 by_cases b3:x=1
 ·subst b3;have M:∀(W:World),aM 3 W (W.alloc (.cells #[ajJ 1,ajJ (-1),ajJ 1001,ajJ (-9223372036854775808),ajJ 1000] 3)) (ajH (some ⟨W,0,none⟩) 5 5) [1,-1,1001,-9223372036854775808,1000]:=fun W=>aM.lit5 W _ _ _ _ _ (by simp[dA]);have t0:((1:Int)==0)=false:=by simp
  clear hx a6;have Z:=tE (S.drew.alloc (.cells #[ajJ 1,ajJ (-1),ajJ 1001,ajJ (-9223372036854775808),ajJ 1000] 3)) g ((C.D.keep (Below.refl _ _).drew).keep (aY _ _)) S.drew.heap.size (by show g<S.heap.size;omega) _ _ (M S.drew) aV;have e4:=aJ Z;have d9:Cur w (S.drew.alloc (.cells #[ajJ 1,ajJ (-1),ajJ 1001,ajJ (-9223372036854775808),ajJ 1000] 3)) g:=(C.keep (Below.refl _ _).drew).keep (aY _ _);have b7:aR (S.drew.alloc (.cells #[ajJ 1,ajJ (-1),ajJ 1001,ajJ (-9223372036854775808),ajJ 1000] 3)) w1.heap.size 26 #[N,ajH (some ⟨vb,0,none⟩) L.length O]:=aR.alloc (w:=S.drew) Y _;have Kd:aR (S.drew.alloc (.cells #[ajJ 1,ajJ (-1),ajJ 1001,ajJ (-9223372036854775808),ajJ 1000] 3)) w.heap.size 26 #['0',()]:=aR.alloc (w:=S.drew) K _;have od:aM 3 (w.heap.size+1) (S.drew.alloc (.cells #[ajJ 1,ajJ (-1),ajJ 1001,ajJ (-9223372036854775808),ajJ 1000] 3)) (ajH (some ⟨vb,0,none⟩) L.length O) L:=(o.keep (Below.refl _ _).drew).alloc _;have h5:=b7.cell;have G3:=Y.cell;have a7:∀z∈[(1:Int),-1,1001,-9223372036854775808,1000],dA z:=by simp[dA]
  have HM:=aJ a7;have i7:(1:Int)<=(L.length:Int):=aI;clear Z a7 M;go_wp2_with fail;go_region_law
   (go_simp;go_at_call 149;refine e4.out.mono ?_;rintro e w5 ⟨y,rfl,hy,D5,g5⟩;have b6:=b7.cur0 aI g5;have g9:=b6.cell;have K5:=Kd.cur0 C.zg g5;have o5:=od.cur0 (Nat.lt_succ_of_lt C.zg) g5;have C5:=d9.next D5 g5;have i1:=o5.cellAt rfl 0 e8;have i6:=o5.frozenAt rfl 0)
  all_goals
   have st:=o5.stored rfl 0 y (HM.out y hy);have K6:=K5.grow st.2 (fun e=>by have e2:vb=w.heap.size:=Option.some.inj e;omega);have C6:=C5.row st.2 (fun b e=>by have e2:vb=b:=Option.some.inj e;omega);have G:=K6.cell;have F:=K6.frozen;have e5:=b6.grow st.2 (fun e=>by have e2:vb=w1.heap.size:=Option.some.inj e;omega);have h0:=e5.cell;go_wp2;refine aZ ?_;intro Wf J;obtain⟨KF,R,oF⟩:=gR C6 K6 st.1 (Nat.lt_succ_self _) J;have GF:=KF.cell;clear J;exact bodyPost_ret (v:=.agg #[N,ajH (some ⟨vb,0,none⟩) L.length O]) (by simp[results,results26,go_sem,GF]) rfl (by first|exact⟨N,_,_,O,L.set 0 y,rfl,⟨by omega,by omega⟩,oF,by rw[List.length_set];exact I,R.D,R.gr⟩|exact⟨N,_,_,O,rfl,⟨by omega,by omega⟩,L.set 0 y,oF,by rw[List.length_set];exact I,R.D,R.gr⟩)
 have t0:(x==0)=false:=by simp[a6]
 have t1:(x==1)=false:=by simp[b3]
 have c5:dA (N:Int):=⟨by omega,by omega⟩;clear a6 b3 hx;have G3:=Y.cell;have G:=K.cell;have F:=K.frozen;go_wp2;refine aZ ?_;intro Wf J;obtain⟨KF,R,oF⟩:=gR C K o (Nat.lt_succ_self _) J;have GF:=KF.cell;clear J G3 G F;exact bodyPost_ret (v:=.agg #[N,ajH (some ⟨vb,0,none⟩) L.length O]) (by simp[results,results26,go_sem,GF]) rfl (by first|exact⟨N,_,_,O,L,rfl,c5,oF,I,R.D,R.gr⟩|exact⟨N,_,_,O,rfl,c5,L,oF,I,R.D,R.gr⟩)
abbrev jR:=Nat×Nat×Nat
def mF(s i:Nat):Nat->List jR
 |0=>[]
 |k+1=>mF s i k++(if (decide (i<k)&&(!cZ s i&&!cZ s k)) then [(s,i,k)] else [])
def kW(n s:Nat):Nat->List jR
 |0=>[]
 |i+1=>kW n s i++mF s i n
def jH(n:Nat):Nat->List jR
 |0=>[]
 |s+1=>jH n s++kW n s n
theorem OY(s i:Nat):∀k,k<=i+1->mF s i k=[]:=by
 intro k
 induction k with
 |zero=>intro _;rfl
 |succ k ih=>intro hk;rw[mF,ih aI,decide_eq_false aI];rfl
theorem aiB(s i k m:Nat)(h:k<=m):∃r,mF s i m=mF s i k++r:=by
 induction m with
 |zero=>have:k=0:=aI;subst this;exact⟨[],rfl⟩
 |succ m ih=>
  by_cases hk:k=m+1
  ·subst hk;exact⟨[],by simp⟩
  ·obtain⟨r,hr⟩:=ih aI;exact⟨r++_,by rw[mF,hr,List.append_assoc]⟩
theorem ag9(n s i m:Nat)(h:i<=m):∃r,kW n s m=kW n s i++r:=by
 induction m with
 |zero=>have:i=0:=aI;subst this;exact⟨[],rfl⟩
 |succ m ih=>
  by_cases hk:i=m+1
  ·subst hk;exact⟨[],by simp⟩
  ·obtain⟨r,hr⟩:=ih aI;exact⟨r++_,by rw[kW,hr,List.append_assoc]⟩
theorem ahA(n s m:Nat)(h:s<=m):∃r,jH n m=jH n s++r:=by
 induction m with
 |zero=>have:s=0:=aI;subst this;exact⟨[],rfl⟩
 |succ m ih=>
  by_cases hk:s=m+1
  ·subst hk;exact⟨[],by simp⟩
  ·obtain⟨r,hr⟩:=ih aI;exact⟨r++_,by rw[jH,hr,List.append_assoc]⟩
theorem DY(n N s i k:Nat)(D:s<N)(z:i<n)(hk:k<=n):∃r,jH n N=((jH n s++kW n s i)++mF s i k)++r:=by
 obtain⟨J,h3⟩:=ahA n (s+1) N D;obtain⟨I,h2⟩:=ag9 n s (i+1) n z;obtain⟨F,h1⟩:=aiB s i k n hk;rw[jH]at h3;rw[kW]at h2;exact⟨F++(I++J),by rw[h3,h2,h1];simp[List.append_assoc]⟩
theorem ahD(s i k:Nat):∀t∈mF s i k,t.1=s/\t.2.1=i/\i<t.2.2/\t.2.2<k:=by
 induction k with
 |zero=>intro t h;cases h
 |succ k ih=>
  intro t h;rw[mF,List.mem_append]at h;rcases h with h|h
  ·have:=ih t h;omega
  ·split at h
   ·rename_i hc;rw[List.mem_singleton]at h;rw[Bool.and_eq_true]at hc;have:=of_decide_eq_true hc.1;subst h;simp;omega
   ·cases h
theorem ae9(n s i:Nat):∀t∈kW n s i,t.1=s/\t.2.1<i/\t.2.1<t.2.2/\t.2.2<n:=by
 induction i with
 |zero=>intro t h;cases h
 |succ i ih=>
  intro t h;rw[kW,List.mem_append]at h;rcases h with h|h
  ·have:=ih t h;omega
  ·have:=ahD s i n t h;omega
theorem UE(n s:Nat):∀t∈jH n s,t.1<s/\t.2.1<t.2.2/\t.2.2<n:=by
 induction s with
 |zero=>intro t h;cases h
 |succ s ih=>
  intro t h;rw[jH,List.mem_append]at h;rcases h with h|h
  ·have:=ih t h;omega
  ·have:=ae9 n s n t h;omega
def gI{α:Type}(step:α->jR->α×Bool):List jR->α->α×Bool
 |[],a=>(a,true)
 |t::r,a=>if (step a t).2 then gI step r (step a t).1 else ((step a t).1,false)
theorem FS{α:Type}(step:α->jR->α×Bool)(x y:List jR)(a:α):gI step (x++y) a=if (gI step x a).2 then gI step y (gI step x a).1 else gI step x a:=by
 induction x generalizing a with
 |nil=>rfl
 |cons t x ih=>
  rw[List.cons_append,gI,gI]
  split
  ·exact ih _
  ·rename_i h;simp
theorem XJ{α:Type}{step:α->jR->α×Bool}{x y:List jR}{a b:α}(h:gI step x a=(b,true)):gI step (x++y) a=gI step y b:=by rw[FS,h];rfl
theorem OP{α:Type}{step:α->jR->α×Bool}{x y:List jR}{a b:α}(h:gI step x a=(b,false)):gI step (x++y) a=(b,false):=by rw[FS,h];rfl
theorem TW{α:Type}(step:α->jR->α×Bool)(t:jR)(a:α):gI step [t] a=step a t:=by
 rw[gI]
 split
 ·rename_i h;rw[gI];ext<;>simp[h]
 ·rename_i h;ext<;>simp_all
def kJ(l:List Int)(s i k:Nat):Int:=l.getD (bO s i ||| bO s k) 0+l.getD s 0-l.getD (bO s i) 0-l.getD (bO s k) 0
def vA(l:List Int)(t:jR):Bool:=decide (0<kJ l t.1 t.2.1 t.2.2)
def iT(l:List Int)(a:Option jR)(t:jR):Option jR×Bool:=if vA l t then (some t,false) else (a,a.isNone)
def zM(n:Nat)(l:List Int):Option jR:=(gI (iT l) (jH n (2^n)) none).1
def nO(n:Int)(l:List Int):Option jR:=if bH n l then zM n.toNat l else none
def nN(n:Int)(l:List Int):Bool:=(nO n l).isSome
def afA:Option jR->List Int
 |none=>[]
 |some t=>[(t.1:Int),(t.2.1:Int),(t.2.2:Int)]
def qV(n:Int)(l:List Int):List Int:=afA (nO n l)
def gO(n:Int)(l:List Int):Bool:=bH n l&&!nN n l
theorem aeQ(s x y:Nat):(s ||| x) ||| (s ||| y)=(s ||| x) ||| y:=by
 apply Nat.eq_of_testBit_eq
 intro j;simp only[Nat.testBit_or]
 cases s.testBit j<;>cases x.testBit j<;>cases y.testBit j<;>rfl
theorem nZ(s i k:Nat):bO s i ||| bO s k=bO (bO s i) k:=by unfold bO;exact aeQ s (2^i) (2^k)
theorem RH(n:Nat)(l:List Int)(hl:l.length=2^n)(hb:∀k,(hk:k<l.length)->-1000<=l[k]/\l[k]<=1000)(s i k:Nat)(z:s<2^n)(D:i<n)(hk:k<n):-4000<=kJ l s i k/\kJ l s i k<=4000:=by
 have h1:=eM s i n z D;have h2:=eM s k n z hk;have h3:=eM (bO s i) k n h1 hk;rw[<-nZ]at h3;unfold kJ;rw[aU l _ aI,aU l _ aI,aU l _ aI,aU l _ aI];have F:=hb (bO s i) aI;have b2:=hb (bO s k) aI;have I:=hb (bO s i ||| bO s k) aI;have J:=hb s aI;omega
def wC(l:List Int)(s e:Nat):Bool:=!decide (dX l s e<0)
def mK(n:Int)(l:List Int):Bool:=bH n l&&bY (fun s=>bY (wC l s) n.toNat) l.length
theorem cU{n:Int}{l:List Int}(h:bH n l=true):∃N:Nat,n=N/\N<=5/\l.length=2^N/\l.length<=32/\∀k,(hk:k<l.length)->-1000<=l[k]/\l[k]<=1000:=by
 obtain⟨J,K,z,I⟩:=kY h;obtain⟨N,rfl⟩:=Int.eq_ofNat_of_zero_le J;have D:N<=5:=aI;have F:l.length=2^N:=by
  have e2:(N:Int).toNat=N:=aI;rw[e2]at z
  exact_mod_cast z
 have M:(2:Nat)^N<=32:=Nat.pow_le_pow_right (n:=2) aV D;exact⟨N,rfl,D,F,by omega,I⟩
theorem SG(n:Int)(l:List Int)(v:Value)(w:World)(hv:aO w v l):
  Calls prog 45 #[.agg #[n,v]] w fun e w'=>e=.returned (.bool (mK n l))/\Below w w w':=by
 have Y:=hv;obtain⟨a,c,rfl⟩:=hv.shape;have K0:=aR.new w 26 #[n,ajH a l.length c]
 cases R:bH n l with
 |false=>
  have hx:mK n l=false:=by unfold mK;rw[R];rfl
  have HX:=aJ hx;have HF:=aJ R;clear hx R;go_enter func45,ntmps45;go_wp2_with (go_at_call 34;refine(dS n l _ _ (Y.alloc _)).mono ?_;rintro e w1 ⟨rfl,D⟩;rw[HF.out]);go_ret;exact⟨aW HX.out.symm,(aY _ _).after D (by simp)⟩
 |true=>
  obtain⟨N,rfl,e9,b1,e4,b3⟩:=cU R;have hx:mK N l=bY (fun s=>bY (wC l s) N) l.length:=by unfold mK;rw[R];simp
  obtain⟨F,hF⟩:∃F:Nat->Bool,F=fun s=>bY (wC l s) N:=⟨_,rfl⟩;rw[<-hF]at hx;have HX:=aJ hx;have HF:=aJ R;have c5:=aJ hF;have c7:=aJ b3;have c6:=aJ b1;clear hx R hF b3 b1;go_enter func45,ntmps45;go_wp2_with fail;refine(dS N l _ _ (Y.alloc _)).mono ?_;rintro e w1 ⟨rfl,D⟩;rw[HF.out];have K1:=K0.keep D;have B1:Below w w w1:=(aY _ _).after D (by simp);have G1:=K1.cell;clear K0 D;go_wp2_with fail;go_loopw [11] (fun i wr=>∃s:Nat,s<=l.length/\i=ajJ s/\bY F s=true/\Below w w wr/\aR wr w 26 #[N,ajH a l.length c]) (fun i _=>l.length-(intOf i).toNat)
  case atStart=>exact⟨0,Nat.zero_le _,rfl,rfl,B1,K1⟩
  case round=>
   obtain⟨s,hs,rfl,z,B,K⟩:=hrel;obtain⟨wo,rfl⟩:∃wo:World,wo=wr:=⟨_,rfl⟩;have H:=aJ z;clear z G1;have G1:=K.cell;by_cases J:s<l.length
   ·have a9:F s=bY (wC l s) N:=by rw[c5.out]
    have a7:=aJ a9;clear a9;go_wp2_with fail;go_loopw [16] (fun i wr=>∃k:Nat,k<=N/\i=ajJ k/\bY (wC l s) k=true/\Below w w wr/\aR wr w 26 #[N,ajH a l.length c]) (fun i _=>N-(intOf i).toNat)
    case atStart=>exact⟨0,Nat.zero_le _,rfl,rfl,B,K⟩
    case round=>
     obtain⟨k,hk,rfl,z,Z,K2⟩:=hrel;obtain⟨wi,rfl⟩:∃wo:World,wo=wr:=⟨_,rfl⟩;have H2:=aJ z;clear z G1;have G1:=K2.cell;by_cases b0:k<N
     ·have d6:bO s k<l.length:=by rw[c6.out]at J ⊢;exact eM _ _ _ J b0
      have hg:=AW N l _ s k wi (Y.below Z aK) aI J aI d6 c7.out;have S:wC l s k=!decide (dX l s k<0):=rfl;obtain⟨q,hq⟩:=aN (dX l s k);rw[<-hq]at hg S;have HG:=aJ hg;have a8:=aJ S;clear hg S hq;by_cases O:q<0
      ·have hu:wC l s k=false:=by rw[a8.out,decide_eq_true O];rfl
       have M:mK N l=false:=by rw[HX.out];exact dD J (by rw[a7.out];exact dD b0 hu)
       have a6:=aJ M;clear hu M;go_wp2_with (go_at_call 170;refine HG.out.mono ?_;rintro e w3 ⟨rfl,I⟩);go_ret;exact⟨aW a6.out.symm,Z.after I Z.size⟩
      ·have hu:wC l s k=true:=by rw[a8.out,decide_eq_false O];rfl
       have HU:=aJ hu;clear hu;go_wp2_with (go_at_call 170;refine HG.out.mono ?_;rintro e w3 ⟨rfl,I⟩);go_roundw
       case rel=>exact⟨k+1,by omega,by go_num,dK H2.out HU.out,Z.after I Z.size,K2.keep I⟩
       case measure=>simp[intOf];omega
     ·have d5:k=N:=aI;subst d5;go_wp2;go_roundw
      case rel=>exact⟨s+1,by omega,by go_num,dK H.out (by rw[a7.out];exact H2.out),Z,K2⟩
      case measure=>simp[intOf];omega
   ·have b4:s=l.length:=aI;subst b4;go_wp2;go_ret;exact⟨aW (by rw[HX.out,H.out]),B⟩
theorem SH(n:Int)(l:List Int)(v:Value)(w:World)(hv:aO w v l):
  Calls prog 61 #[.agg #[n,v]] w fun e w'=>e=.returned (.bool (mK n l))/\Below w w w':=by
 have R:=hv;obtain⟨a,b,g0,c,rfl,e8,b6,hc,hb⟩:=hv.view prog 24 3 underlying24 aP;have K0:=aR.new w 26 #[n,ajH a l.length c]
 cases hf:bH n l with
 |false=>
  have hx:mK n l=false:=by unfold mK;rw[hf];rfl
  have HX:=aJ hx;have HF:=aJ hf;clear hx hf;go_enter func61,ntmps61;go_wp2_with fail;go_loopw [3] (fun i wr=>i=ajJ 0/\Below w w wr/\aR wr w 26 #[n,ajH a l.length c]) (fun _ _=>0)
  case atStart=>exact⟨rfl,aY _ _,K0⟩
  case round=>obtain⟨rfl,B,K⟩:=hrel;have Z:=K.cell;go_wp2_with fail;refine(dG n l _ _ (R.below B aK)).mono ?_;rintro e w1 ⟨rfl,D⟩;rw[HF.out];have S:=B.after D B.size;have K1:=K.keep D;clear Z;have Z:=K1.cell;go_wp2_with fail;refine(dG n l _ _ (R.below S aK)).mono ?_;rintro e w2 ⟨rfl,a1⟩;rw[HF.out];go_wp2;go_ret;exact⟨aW HX.out.symm,S.after a1 S.size⟩
 |true=>
  obtain⟨N,rfl,f7,b8,e7,b9⟩:=cU hf;have hx:mK N l=bY (fun s=>bY (wC l s) N) l.length:=by unfold mK;rw[hf];simp
  obtain⟨F,hF⟩:∃F:Nat->Bool,F=fun s=>bY (wC l s) N:=⟨_,rfl⟩;rw[<-hF]at hx;have HX:=aJ hx;have HF:=aJ hf;have d5:=aJ hF;have f4:=aJ b9;have d6:=aJ b8;have HC:=aJ hc;have b3:=aJ b6;clear hx hf hF b9 b8 hc b6;go_enter func61,ntmps61;go_wp2_with fail;go_loopw [3] (fun i wr=>∃s:Nat,s<=l.length/\i=ajJ s/\bY F s=true/\Below w w wr/\aR wr w 26 #[N,ajH a l.length c]) (fun i _=>l.length-(intOf i).toNat)
  case atStart=>exact⟨0,Nat.zero_le _,rfl,rfl,aY _ _,K0⟩
  case round=>
   obtain⟨s,hs,rfl,z,B,K⟩:=hrel;obtain⟨wo,rfl⟩:∃wo:World,wo=wr:=⟨_,rfl⟩;have H:=aJ z;clear z K0;have Z:=K.cell;go_wp2_with fail;refine(dG N l _ _ (R.below B aK)).mono ?_;rintro e w1 ⟨rfl,D⟩;rw[HF.out];have K:=K.keep D;have S:=B.after D B.size;clear Z D B;have Z:=K.cell;by_cases I:s<l.length
   ·have b5:F s=bY (wC l s) N:=by rw[d5.out]
    have b1:=aJ b5;clear b5;go_wp2_with fail;go_loopw [4] (fun i wr=>∃k:Nat,k<=N/\i=ajJ k/\bY (wC l s) k=true/\Below w w wr/\aR wr w 26 #[N,ajH a l.length c]) (fun i _=>N-(intOf i).toNat)
    case atStart=>exact⟨0,Nat.zero_le _,rfl,rfl,S,K⟩
    case round=>
     obtain⟨k,hk,rfl,z,B2,K2⟩:=hrel;obtain⟨wi,rfl⟩:∃wo:World,wo=wr:=⟨_,rfl⟩;have H2:=aJ z;clear z Z;have Z:=K2.cell;by_cases b7:k<N
     ·have J:bO s k<l.length:=by rw[d6.out]at I ⊢;exact eM _ _ _ I b7
      have c0:=aT HC.out hb B2 aK s I;have c1:=aT HC.out hb B2 aK _ J;have i0:=fun W=>b3.out W s I;have i1:=fun W=>b3.out W _ J;have q1:=fW s k aI aI;have M:wC l s k=!decide (l[bO s k]-l[s]<0):=by unfold wC dX;rw[aU l _ J,aU l _ I]
      obtain⟨u1,O⟩:=aN (bO s k);simp only[<-O]at c1 i1 q1 M;obtain⟨x0,c7⟩:=aN (l[s]);rw[<-c7]at c0 M;have f0:u1<l.length:=O▸J;obtain⟨x1,c8⟩:=aN (l[u1]);rw[<-c8]at c1 M;have pk:=cK k 6 aI;have g1:(2:Int)^k<=64:=by simpa using pk.1
      have g2:=pk.2;have wk:IntKind.i64.wrap ((2:Int)^k)=2^k:=by rw[IntKind.wrap_i64];omega
      have f8:k<5:=aI;have b4:=aJ M;clear M c7 c8 pk J;by_cases e9:x1<x0
      ·have hu:wC l s k=false:=by rw[b4.out,decide_eq_true aI];rfl
       have Y:mK N l=false:=by rw[HX.out];exact dD I (by rw[b1.out];exact dD b7 hu)
       have a9:=aJ Y;clear hu Y O;go_wp2_with fail;go_quiet (fail);go_wp2;go_ret;exact⟨aW a9.out.symm,B2.drewN' _⟩
      ·have hu:wC l s k=true:=by rw[b4.out,decide_eq_false aI];rfl
       have HU:=aJ hu;clear hu O;go_wp2_with fail;go_quiet (fail);go_wp2;go_roundw
       case rel=>exact⟨k+1,by omega,by go_num,dK H2.out HU.out,B2.drewN' _,K2.drewN _⟩
       case measure=>simp[intOf];omega
     ·have e0:k=N:=aI;subst e0;go_wp2;go_roundw
      case rel=>exact⟨s+1,by omega,by go_num,dK H.out (by rw[b1.out];exact H2.out),B2,K2⟩
      case measure=>simp[intOf];omega
   ·have c5:s=l.length:=aI;subst c5;go_wp2_with fail;refine(dG N l _ _ (R.below S aK)).mono ?_;rintro e w2 ⟨rfl,a1⟩;rw[HF.out];go_wp2;go_ret;exact⟨aW (by rw[HX.out,H.out]),S.after a1 S.size⟩
theorem JF(c s:Nat):(dL (c:Int) s==0)=!cZ c s:=by
 have h:=tZ c s;have h2:dL (c:Int) s=0∨dL (c:Int) s=1:=by unfold dL;omega
 rcases h2 with h2|h2
 ·rw[h2]at h ⊢;rw[<-h];rfl
 ·rw[h2]at h ⊢;rw[<-h];rfl
theorem AM{α:Type}(n:Nat)(hn:n<=5)(l:List Int)(lv:Value)(hl:l.length=2^n)(c:FuncId)(he:∀args w,(callFunc c args).run prog w=.ok (.enter c args) w)(g1 g2:Nat)
  (step:α->jR->α×Bool) (M:α->World->Prop) (P:Nat->Prop) (R:∀a W W',M a W->Below W W W'->M a W')
  (w:World) (f6:∃a c,lv=ajH a l.length c) (hP:∀b,P b->b<w.heap.size)
  (hcl:∀a (s i k:Nat) W,s<2^n->i<k->k<n->cZ s i=false->cZ s k=false->M a W->GrownIn w W P->Calls prog c #[s,i,k,.pointer (some ⟨g1,0,none⟩),.pointer (some ⟨g2,0,none⟩)] W fun e w'=>e=.returned (.bool (step a (s,i,k)).2)/\M (step a (s,i,k)).1 w'/\GrownIn W w' P)
  (a0:α) (h0:M a0 w):
  Calls prog 160 #[.agg #[n,lv],.func (.func c) #[] #[.pointer (some ⟨g1,0,none⟩),.pointer (some ⟨g2,0,none⟩)]] w fun e w'=>e=.returned (.tuple #[])/\M (gI step (jH n (2^n)) a0).1 w'/\GrownIn w w' P:=by
 obtain⟨a,cp,rfl⟩:=f6;have f7:(2:Nat)^n<=32:=Nat.pow_le_pow_right (n:=2) aV hn;obtain⟨N,hN⟩:∃N:Nat,N=2^n:=⟨_,rfl⟩;rw[<-hN]at hl f7 hcl ⊢;obtain⟨T,hT⟩:=aN (jH n N);rw[<-hT];have f4:l.length<=32:=aI;have K0:=aR.new w 26 #[n,ajH a l.length cp];have R0:=R a0 w _ h0 (aY w (.cells #[n,ajH a l.length cp] 26));have c7:GrownIn w (w.alloc (.cells #[n,ajH a l.length cp] 26)) P:=GrownIn.of_below (aY _ _);have HT:=aJ hT;have HL:=aJ hl;have e9:=aJ hcl;have HM:=aJ R;have HP:=aJ hP;clear hT hl hcl R hP hN;go_enter func160,ntmps160;go_wp2_with fail;go_loopw [10] (fun s wr=>∃(k:Nat) (b:α),k<=l.length/\s=ajJ k/\gI step (jH n k) a0=(b,true)/\M b wr/\GrownIn w wr P/\aR wr w 26 #[n,ajH a l.length cp]) (fun s _=>l.length-(intOf s).toNat)
 case atStart=>exact⟨0,a0,Nat.zero_le _,rfl,rfl,R0,c7,K0⟩
 case round=>
  obtain⟨s,b,hs,rfl,F,D,O,K⟩:=hrel;obtain⟨wo,rfl⟩:∃wo:World,wo=wr:=⟨_,rfl⟩;have HR:=aJ F;have a9:=aJ D;have c9:=aJ O;clear F D O R0 c7 K0;by_cases f8:s<l.length
  ·have e5:s<N:=by rw[<-HL.out];exact f8
   have d5:=aJ e5;have G1:=K.cell;clear e5;go_wp2_with fail;go_loopw [15] (fun i wr=>∃(k:Nat) (b:α),k<=n/\i=ajJ k/\gI step (jH n s++kW n s k) a0=(b,true)/\M b wr/\GrownIn w wr P/\aR wr w 26 #[n,ajH a l.length cp]) (fun i _=>n-(intOf i).toNat)
   case atStart=>exact⟨0,b,Nat.zero_le _,rfl,by rw[show kW n s 0=[] from rfl,List.append_nil];exact HR.out,a9.out,c9.out,K⟩
   case round=>
    obtain⟨i,b2,hi,rfl,F,D,O,K⟩:=hrel;obtain⟨wi,rfl⟩:∃wo:World,wo=wr:=⟨_,rfl⟩;have d0:=aJ F;have Z:=aJ D;have a8:=aJ O;clear F D O G1;by_cases f5:i<n
    ·have e7:=OY s i (i+1) aK;have f0:=aJ e7;clear e7;go_wp2_with fail;go_loopw [6] (fun i' wr=>∃(k:Nat) (b:α),i<k/\k<=n/\i'=ajJ k/\gI step ((jH n s++kW n s i)++mF s i k) a0=(b,true)/\M b wr/\GrownIn w wr P/\aR wr w 26 #[n,ajH a l.length cp]) (fun i' _=>n-(intOf i').toNat)
     case atStart=>exact⟨i+1,b2,by omega,by omega,by go_num,by rw[f0.out,List.append_nil];exact d0.out,Z.out,a8.out,K⟩
     case round=>
      obtain⟨k,b3,d8,hk,rfl,F,D,O,K⟩:=hrel;obtain⟨wk,rfl⟩:∃wo:World,wo=wr:=⟨_,rfl⟩;have a6:=aJ F;have J:=aJ D;have I:=aJ O;have G1:=K.cell;clear F D O;by_cases e0:k<n
      ·have f2:=jL (s:Int) i aI aI;have f3:=jL (s:Int) k aI aI;have S:=JF s i;have Y:=JF s k;obtain⟨y,hy⟩:=aN (dL (s:Int) i);obtain⟨z,hz⟩:=aN (dL (s:Int) k);rw[<-hy]at f2 S;rw[<-hz]at f3 Y;have b8:mF s i (k+1)=mF s i k++(if (decide (i<k)&&(!cZ s i&&!cZ s k)) then [(s,i,k)] else []):=rfl;rw[decide_eq_true d8,Bool.true_and]at b8;have b5:=aJ b8;clear hy hz b8
       cases h1:cZ s i with
       |true=>
        have f9:(y==0)=false:=by rw[S,h1];rfl
        have H1:=aJ h1;clear h1 S Y;go_wp2;go_roundw
        case rel=>exact⟨k+1,b3,by omega,by omega,by go_num,by rw[b5.out,H1.out];simpa using a6.out,J.out,I.out,K⟩
        case measure=>simp[intOf];omega
       |false=>
        have f9:(y==0)=true:=by rw[S,h1];rfl
        cases h2:cZ s k with
        |true=>
         have g0:(z==0)=false:=by rw[Y,h2];rfl
         have H2:=aJ h2;clear h1 h2 S Y;go_wp2;go_roundw
         case rel=>exact⟨k+1,b3,by omega,by omega,by go_num,by rw[b5.out,H2.out];simpa using a6.out,J.out,I.out,K⟩
         case measure=>simp[intOf];omega
        |false=>
         have g0:(z==0)=true:=by rw[Y,h2];rfl
         have b7:=e9.out b3 s i k wk d5.out d8 e0 h1 h2 J.out I.out;have b4:mF s i (k+1)=mF s i k++[(s,i,k)]:=by rw[b5.out,h1,h2];rfl
         obtain⟨r,hr⟩:=aN (step b3 (s,i,k));have b1:gI step [(s,i,k)] b3=r:=by rw[TW,hr]
         rw[<-hr]at b7;have a1:gI step (((jH n s++kW n s i)++mF s i k)++[(s,i,k)]) a0=r:=by rw[XJ a6.out];exact b1
         obtain⟨ra,rb⟩:=r;have c8:=aJ b7;have d6:=aJ b4;have b0:=aJ a1;clear h1 h2 S Y b7 b4 b1 a1 hr
         cases rb with
         |true=>
          go_wp2_with (go_at_fn c;refine c8.out.mono ?_;rintro e w4 ⟨rfl,b6,a7⟩);have K4:=K.growIn a7 (fun h=>by have:=HP.out _ h;omega);have GG:=I.out.trans a7;go_roundw
          case rel=>exact⟨k+1,ra,by omega,by omega,by go_num,by rw[d6.out,<-List.append_assoc];exact b0.out,b6,GG,K4⟩
          case measure=>simp[intOf];omega
         |false=>
          go_wp2_with (go_at_fn c;refine c8.out.mono ?_;rintro e w4 ⟨rfl,b6,a7⟩);refine bodyPost_ret (v:=.tuple #[]) (results_none rfl _ _ _) rfl ⟨rfl,?_,I.out.trans a7⟩;have hT:(gI step T a0).1=ra:=by obtain⟨r,hr⟩:=DY n N s i (k+1) d5.out f5 e0;rw[HT.out,hr,d6.out,<-List.append_assoc,OP b0.out]
          rw[hT];exact b6
      ·have e4:k=n:=aI;subst e4;go_wp2;go_roundw
       case rel=>exact⟨i+1,b3,by omega,by go_num,by rw[show kW k s (i+1)=kW k s i++mF s i k from rfl,<-List.append_assoc];exact a6.out,J.out,I.out,K⟩
       case measure=>simp[intOf];omega
    ·have d9:i=n:=aI;subst d9;have G1:=K.cell;go_wp2;go_roundw
     case rel=>exact⟨s+1,b2,by omega,by go_num,d0.out,Z.out,a8.out,K⟩
     case measure=>simp[intOf];omega
  ·have e6:s=l.length:=aI;subst e6;go_wp2;go_end0;refine⟨rfl,?_,c9.out⟩;rw[HT.out,<-HL.out,HR.out];exact a9.out
theorem I2(n:Nat)(hn:n<=5)(l:List Int)(v:Value)(w:World)(hv:aO w v l)(hl:l.length=2^n)(D:∀k,(hk:k<l.length)->-1000<=l[k]/\l[k]<=1000)(s i k:Nat)(F:s<2^n)(hi:i<n)(hk:k<n):
  Calls prog 162 #[.agg #[n,v],s,i,k] w fun e w'=>e=.returned (kJ l s i k)/\Below w w w':=by
 obtain⟨a,b,c8,c,rfl,a9,z,hc,hb⟩:=hv.view prog 24 3 underlying24 aP;have hc:=aT hc hb (aY w (.cells #[n,ajH a l.length c] 26)) aK;have h1:=eM s i n F hi;have h2:=eM s k n F hk;have h3:=eM (bO s i) k n h1 hk;rw[<-nZ]at h3;have p5:(2:Nat)^n<=32:=Nat.pow_le_pow_right (n:=2) aV hn;rw[<-hl]at h1 h2 h3 F p5;have c0:=hc s F;have c1:=hc _ h1;have c2:=hc _ h2;have c3:=hc _ h3;have i0:=fun W=>z W s F;have i1:=fun W=>z W _ h1;have i2:=fun W=>z W _ h2;have i3:=fun W=>z W _ h3;have b0:=D s F;have b1:=D _ h1;have b2:=D _ h2;have b3:=D _ h3;have hex:kJ l s i k=l[bO s i ||| bO s k]+l[s]-l[bO s i]-l[bO s k]:=by unfold kJ;rw[aU l _ h3,aU l _ F,aU l _ h1,aU l _ h2]
 have q1:=fW s i aI aI;have q2:=fW s k aI aI;have q3:=IN (bO s i) (bO s k) aI aI;have Y:=fW (bO s i) k aI aI;rw[<-nZ]at Y;obtain⟨u1,J⟩:=aN (bO s i);obtain⟨u2,K⟩:=aN (bO s k);simp only[<-J,<-K]at c1 c2 c3 i1 i2 i3 b1 b2 b3 hex q1 q2 q3 Y h1 h2 h3;obtain⟨u3,M⟩:=aN (u1 ||| u2);simp only[<-M]at c3 i3 b3 hex q3 Y h3;obtain⟨I,N⟩:=aN (l[s]);obtain⟨x1,O⟩:=aN (l[u1]);obtain⟨x2,R⟩:=aN (l[u2]);obtain⟨x3,S⟩:=aN (l[u3]);rw[<-N]at c0 b0 hex;rw[<-O]at c1 b1 hex;rw[<-R]at c2 b2 hex;rw[<-S]at c3 b3 hex;have pi:=cK i 6 aI;have pk:=cK k 6 aI;have d0:(2:Int)^i<=64:=by simpa using pi.1
 have d6:(2:Int)^k<=64:=by simpa using pk.1
 have d5:=pi.2;have d7:=pk.2;have wi:IntKind.i64.wrap ((2:Int)^i)=2^i:=by rw[IntKind.wrap_i64];omega
 have wk:IntKind.i64.wrap ((2:Int)^k)=2^k:=by rw[IntKind.wrap_i64];omega
 have w1:IntKind.i64.wrap (x3+I)=x3+I:=by rw[IntKind.wrap_i64];omega
 have w2:IntKind.i64.wrap (x3+I-x1)=x3+I-x1:=by rw[IntKind.wrap_i64];omega
 have w3:IntKind.i64.wrap (x3+I-x1-x2)=x3+I-x1-x2:=by rw[IntKind.wrap_i64];omega
 have Z:=aJ hex;have z0:(0:Int)<=(s:Int):=aI;clear z hb D hex J K M N O R S pi pk Y hc hl;go_enter func162,ntmps162;go_wp2_with fail;go_quiet (fail);go_wp2;go_ret;exact⟨fF Z.out.symm,(aY _ _).drewN' _⟩
end
end Go.Proofs.YtcpoomdoodlkjaaGreatDoor
