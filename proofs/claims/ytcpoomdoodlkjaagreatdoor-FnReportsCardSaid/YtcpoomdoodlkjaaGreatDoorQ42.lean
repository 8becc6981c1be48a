/- Lemmas for CardReports. No condition. -/
import Derived.Test.YtcpoomdoodlkjaaGreatDoorQ41
set_option maxRecDepth 100000
set_option maxHeartbeats 64000000
namespace Go.Proofs.YtcpoomdoodlkjaaGreatDoor
section
open Go.RowKit Go.G5 Go.Proofs.Tryz
theorem afR:∀n:Nat,n<7->∀i:Nat,i<7->jU n i<=20:=by decide +kernel
theorem afS:∀n:Nat,n<7->∀i:Nat,i<7->jU n i*(n-i)<=120:=by decide +kernel
theorem adB:∀n:Nat,n<7->∀k:Nat,k<7->k<=n->∀i:Nat,i<7->i<=k->tG n k i*(n-k+(i+1))<=140:=by decide +kernel
theorem O6(n k:Nat)(w:World)(hn:n<=6)(hk:k<=n):
  Calls prog 218 #[(n:Int),(k:Int)] w fun e w'=>e=.returned (ajJ (jU n k:Int))/\w=w':=by
 have h1:¬(n:Int)<(k:Int):=aI;have hb:∀i:Nat,i<7->i<=k->jU n i<=20/\jU n i*(n-i)<=120:=fun i h _=>⟨afR n aI i h,afS n aI i h⟩;have Z:=aJ hb;clear hb;go_enter func218,ntmps218;go_wp2;go_loop [5,15] (fun rv N=>∃i:Nat,i<=k/\N=ajJ i/\rv=ajJ (jU n i:Int)) (fun _ N=>k-(intOf N).toNat)
 case atStart=>exact⟨0,Nat.zero_le _,rfl,rfl⟩
 case round=>
  obtain⟨i,hi,rfl,rfl⟩:=hrel;have hb:=Z.out i aI hi;by_cases hlt:i<k
  ·have I:(i:Int)<(k:Int):=aI;have J:jU n (i+1)=jU n i*(n-i)/(i+1):=rfl;have z:(jU n i:Int)*((n:Int)-(i:Int))=((jU n i*(n-i):Nat):Int):=by rw[Int.natCast_mul,Int.ofNat_sub aI]
   obtain⟨R,S⟩:=aN (jU n i);rw[<-S]at hb J z ⊢;obtain⟨P,O⟩:=aN (R*(n-i));rw[<-O]at hb J z;have b1:IntKind.i64.wrap ((n:Int)-(i:Int))=(n:Int)-(i:Int):=by rw[IntKind.wrap_i64];omega
   have b3:IntKind.i64.wrap ((R:Int)*((n:Int)-(i:Int)))=(P:Int):=by rw[z,IntKind.wrap_i64];omega
   have b4:IntKind.i64.wrap ((i:Int)+1)=(i:Int)+1:=by rw[IntKind.wrap_i64];omega
   have Y:(P:Int).tdiv ((i:Int)+1)=(jU n (i+1):Int):=by rw[J,show(i:Int)+1=((i+1:Nat):Int) by simp];rfl
   have HQ:=aJ Y;have b0:¬(i:Int)+1=0:=aI;have a7:=hb.2;have M:P/(i+1)<=P:=Nat.div_le_self _ _;have hS:(jU n (i+1))<=120:=by rw[J];omega
   obtain⟨D,K⟩:=aN (jU n (i+1));rw[<-K]at Y hS;have b5:IntKind.i64.wrap (D:Int)=(D:Int):=by rw[IntKind.wrap_i64];omega
   have HD:=aJ K;clear z J S O M K;go_wp2;go_round
   case rel=>exact⟨i+1,by omega,by go_num,by rw[<-HD.out]⟩
   case measure=>simp[intOf];omega
  ·have I:¬(i:Int)<(k:Int):=aI;have F:i=k:=aI;have HI:=aJ F;clear F;go_wp2;go_ret;exact⟨by rw[<-HI.out];rfl,rfl⟩
theorem US(n k:Nat)(w:World)(hn:n<=6)(hk:k<=n):
  Calls prog 229 #[(n:Int),(k:Int)] w fun e w'=>e=.returned (ajJ (jU n k:Int))/\w=w':=by
 have hb:∀i:Nat,i<7->i<=k->tG n k i<=20/\tG n k i*(n-k+(i+1))<=140:=fun i h h'=>⟨afT n aI k aI hk i h h',adB n aI k aI hk i h h'⟩;have z:=adC n aI k aI hk;have K:eW (n:Int) 0 20=true:=dH.2 ⟨by omega,by omega⟩;have M:eW (k:Int) 0 (n:Int)=true:=dH.2 ⟨by omega,by omega⟩;have I:=fun W=>cN (n:Int) 0 20 W;have J:=fun W=>cN (k:Int) 0 (n:Int) W;simp only[K]at I;simp only[M]at J;have Y:=aJ I;have Z:=aJ J;have HB:=aJ hb;have a1:=aJ z;have c9:IntKind.i64.wrap ((n:Int)-(k:Int))=(n:Int)-(k:Int):=by rw[IntKind.wrap_i64];omega
 clear hb z K M I J;go_enter func229,ntmps229;go_wp2_with (go_at_call 174;first|(with_reducible refine(Y.out _).mono ?_;rintro e w' ⟨rfl,rfl⟩)|(with_reducible refine(Z.out _).mono ?_;rintro e w' ⟨rfl,rfl⟩));go_loop [5,6] (fun rv iv=>∃i:Nat,i<=k/\iv=ajJ ((i:Int)+1)/\rv=ajJ (tG n k i:Int)) (fun _ iv=>k+1-(intOf iv).toNat)
 case atStart=>exact⟨0,Nat.zero_le _,rfl,rfl⟩
 case round=>
  obtain⟨i,hi,rfl,rfl⟩:=hrel;have hb:=HB.out i aI hi;by_cases hlt:i<k
  ·have O:(i:Int)+1<=(k:Int):=aI;have S:tG n k (i+1)=tG n k i*(n-k+(i+1))/(i+1):=rfl;have F:(tG n k i:Int)*((n:Int)-(k:Int)+((i:Int)+1))=((tG n k i*(n-k+(i+1)):Nat):Int):=by rw[Int.natCast_mul,Int.natCast_add,Int.ofNat_sub hk];simp
   obtain⟨R,hR⟩:=aN (tG n k i);rw[<-hR]at hb S F ⊢;obtain⟨P,hP⟩:=aN (R*(n-k+(i+1)));rw[<-hP]at hb S F;have c5:IntKind.i64.wrap ((n:Int)-(k:Int)+((i:Int)+1))=(n:Int)-(k:Int)+((i:Int)+1):=by rw[IntKind.wrap_i64];omega
   have c6:IntKind.i64.wrap ((R:Int)*((n:Int)-(k:Int)+((i:Int)+1)))=(P:Int):=by rw[F,IntKind.wrap_i64];omega
   have c7:IntKind.i64.wrap ((i:Int)+1+1)=(i:Int)+1+1:=by rw[IntKind.wrap_i64];omega
   have hq:(P:Int).tdiv ((i:Int)+1)=(tG n k (i+1):Int):=by rw[S,show(i:Int)+1=((i+1:Nat):Int) by simp];rfl
   have b8:¬(i:Int)+1=0:=aI;have a7:P/(i+1)<=P:=Nat.div_le_self _ _;have hS:(tG n k (i+1))<=140:=by rw[S];omega
   obtain⟨D,hD⟩:=aN (tG n k (i+1));rw[<-hD]at hq hS;have c8:IntKind.i64.wrap (D:Int)=(D:Int):=by rw[IntKind.wrap_i64];omega
   have HD:=aJ hD;clear F S hR hP a7 hD;go_wp2;go_round
   case rel=>exact⟨i+1,by omega,by go_num,by rw[<-HD.out]⟩
   case measure=>simp[intOf];omega
  ·have O:¬(i:Int)+1<=(k:Int):=aI;have N:i=k:=aI;have HI:=aJ N;clear N;go_wp2;go_ret;exact⟨by rw[<-a1.out,<-HI.out];rfl,rfl⟩
theorem aeE(g:Int)(l:List Int)(v:Value)(w:World)(hv:aO w v l)(R:bF g l=true):
  Calls prog 106 #[.agg #[g,v]] w fun e w'=>e=.returned (sL g l)/\Below w w w':=by
 have c6:=hv;obtain⟨a,b,g1,c,rfl,d8,Y,hc,hb⟩:=hv.view prog 24 3 underlying24 aP;obtain⟨h0,h6,a6,c5⟩:=dQ R;obtain⟨N,rfl⟩:=Int.eq_ofNat_of_zero_le h0;have hN:N<=6:=aI;have f6:=jQ R;have hx:sL (N:Int) l=qK N l l.length:=by unfold sL;rw[R,Int.toNat_natCast];rfl
 have hm:∀s∈l,∃n:Nat,s=(n:Int)/\n<64/\bN n<=N:=fun s K=>by
  have h:=a6 s K;obtain⟨n,rfl⟩:=Int.eq_ofNat_of_zero_le h.1;rw[Int.toNat_natCast]at h;have e:((2:Int)^N)=((2^N:Nat):Int):=by simp
  have f5:(2:Nat)^N<=2^6:=Nat.pow_le_pow_right aV hN;exact⟨n,rfl,by omega,acG N aI n aI⟩
 have K0:=aR.new w 31 #[(N:Int),ajH a l.length c];have M:=MV N l;have HX:=aJ hx;have HC:=aJ hc;have b0:=aJ Y;have HM:=aJ hm;have a8:=aJ M;have I:=dC (N:Int) l _ _ (c6.alloc (.cells #[(N:Int),ajH a l.length c] 31));rw[R]at I;have a9:=aJ I;clear hx hc Y hm M I R a6 c5;go_enter func106,ntmps106;go_wp2_with fail;refine a9.out.mono ?_;rintro e w1 ⟨rfl,b1⟩;have B1:Below w w w1:=(aY _ _).after b1 (by simp);have K1:=K0.keep b1;have G1:=K1.cell;clear K0 b1;go_wp2_with fail;clear G1;go_loopw [3,12] (fun sv iv wr=>∃(j m:Nat),j<=l.length/\iv=ajJ j/\sv=ajJ (qK N l j)/\wr=w1.drewN m) (fun _ iv _=>l.length-(intOf iv).toNat)
 case atStart=>exact⟨0,0,Nat.zero_le _,rfl,rfl,rfl⟩
 case round=>
  obtain⟨j,m,hj,rfl,rfl,rfl⟩:=hrel;have b6:=a8.out j;have G:=K1.cell;have B:=B1;by_cases hlt:j<l.length
  ·skip
   have a1:(j:Int)<(l.length:Int):=aI;have ck:=aT HC.out hb B aK j hlt;have ik:=fun W=>b0.out W j hlt;obtain⟨n,hn,d9,J⟩:=HM.out _ (List.getElem_mem hlt);have K:qK N l (j+1)=qK N l j+((60/jU N (bN n):Nat):Int):=by rw[qK,aU l j hlt,hn,Int.toNat_natCast]
   rw[hn]at ck;have b7:=WK N aI (bN n) aI J;obtain⟨p,hp⟩:=aN (bN n);obtain⟨D,hD⟩:=aN (jU N (bN n));rw[<-hD]at K b7;have hq:(60:Int).tdiv (D:Int)=((60/D:Nat):Int):=rfl;have a7:60/D<=60:=Nat.div_le_self _ _;obtain⟨Q,hQ⟩:=aN (60/D);rw[<-hQ]at K hq a7;obtain⟨S,hS⟩:=aN (qK N l j);rw[<-hS]at K b6 ⊢;have f7:¬(D:Int)=0:=aI;have f9:IntKind.i64.wrap (Q:Int)=(Q:Int):=by rw[IntKind.wrap_i64];omega
   have g0:IntKind.i64.wrap (S+(Q:Int))=S+(Q:Int):=by rw[IntKind.wrap_i64];omega
   have HS:=aJ K;have HD:=aJ hD;have b3:=aJ J;have F:=aJ (fun W=>gE n W aI);simp only[<-hp]at F;have z:=aJ (fun W=>O6 N p W hN (by have:=b3.out;omega));have O:jU N p=D:=by rw[HD.out,hp]
   simp only[O]at z;clear hn K hD hQ hS hp J O;go_wp2_with fail;go_quiet ((first|(go_at_call 165;first|exact iU (F.out _)|exact kC (F.out _))|(go_at_call 218;first|exact iU (z.out _)|exact kC (z.out _))));go_wp2;go_roundw
   case rel=>exact⟨j+1,m+nq,by omega,by go_num,by rw[HS.out],by simp⟩
   case measure=>simp[intOf];omega
  ·have a1:¬(j:Int)<(l.length:Int):=aI;have Z:j=l.length:=aI;have HJ:=aJ Z;clear Z;go_wp2;go_ret;exact⟨fF (by rw[HX.out,<-HJ.out]),B1.drewN' _⟩
theorem aeF(g:Int)(l:List Int)(v:Value)(w:World)(hv:aO w v l)(R:bF g l=true):
  Calls prog 117 #[.agg #[g,v]] w fun e w'=>e=.returned (sL g l)/\Below w w w':=by
 have c6:=hv;obtain⟨a,b,g1,c,rfl,d8,Y,hc,hb⟩:=hv.view prog 24 3 underlying24 aP;obtain⟨h0,h6,a6,c5⟩:=dQ R;obtain⟨N,rfl⟩:=Int.eq_ofNat_of_zero_le h0;have hN:N<=6:=aI;have f6:=jQ R;have hx:sL (N:Int) l=qK N l l.length:=by unfold sL;rw[R,Int.toNat_natCast];rfl
 have hm:∀s∈l,∃n:Nat,s=(n:Int)/\n<64/\bN n<=N:=fun s K=>by
  have h:=a6 s K;obtain⟨n,rfl⟩:=Int.eq_ofNat_of_zero_le h.1;rw[Int.toNat_natCast]at h;have e:((2:Int)^N)=((2^N:Nat):Int):=by simp
  have f5:(2:Nat)^N<=2^6:=Nat.pow_le_pow_right aV hN;exact⟨n,rfl,by omega,acG N aI n aI⟩
 have K0:=aR.new w 31 #[(N:Int),ajH a l.length c];have M:=MV N l;have HX:=aJ hx;have HC:=aJ hc;have b0:=aJ Y;have HM:=aJ hm;have a8:=aJ M;have I:=cP (N:Int) l _ _ (c6.alloc (.cells #[(N:Int),ajH a l.length c] 31));rw[R]at I;have a9:=aJ I;clear hx hc Y hm M I R a6 c5;go_enter func117,ntmps117;go_wp2_with fail;refine a9.out.mono ?_;rintro e w1 ⟨rfl,b1⟩;have B1:Below w w w1:=(aY _ _).after b1 (by simp);have K1:=K0.keep b1;have G1:=K1.cell;clear K0 b1;go_wp2_with fail;clear G1;go_loopw [3,4] (fun sv iv wr=>∃(j m:Nat),j<=l.length/\iv=ajJ j/\sv=ajJ (qK N l j)/\wr=w1.drewN m) (fun _ iv _=>l.length-(intOf iv).toNat)
 case atStart=>exact⟨0,0,Nat.zero_le _,rfl,rfl,rfl⟩
 case round=>
  obtain⟨j,m,hj,rfl,rfl,rfl⟩:=hrel;have b6:=a8.out j;have G:=K1.cell;have B:=B1;by_cases hlt:j<l.length
  ·skip
   have a1:(j:Int)<(l.length:Int):=aI;have ck:=aT HC.out hb B aK j hlt;have ik:=fun W=>b0.out W j hlt;obtain⟨n,hn,d9,J⟩:=HM.out _ (List.getElem_mem hlt);have K:qK N l (j+1)=qK N l j+((60/jU N (bN n):Nat):Int):=by rw[qK,aU l j hlt,hn,Int.toNat_natCast]
   rw[hn]at ck;have b7:=WK N aI (bN n) aI J;obtain⟨p,hp⟩:=aN (bN n);obtain⟨D,hD⟩:=aN (jU N (bN n));rw[<-hD]at K b7;have hq:(60:Int).tdiv (D:Int)=((60/D:Nat):Int):=rfl;have a7:60/D<=60:=Nat.div_le_self _ _;obtain⟨Q,hQ⟩:=aN (60/D);rw[<-hQ]at K hq a7;obtain⟨S,hS⟩:=aN (qK N l j);rw[<-hS]at K b6 ⊢;have f7:¬(D:Int)=0:=aI;have f9:IntKind.i64.wrap (Q:Int)=(Q:Int):=by rw[IntKind.wrap_i64];omega
   have g0:IntKind.i64.wrap (S+(Q:Int))=S+(Q:Int):=by rw[IntKind.wrap_i64];omega
   have HS:=aJ K;have HD:=aJ hD;have b3:=aJ J;have F:=aJ (fun W=>eK n W aI);simp only[<-hp]at F;have z:=aJ (fun W=>US N p W hN (by have:=b3.out;omega));have O:jU N p=D:=by rw[HD.out,hp]
   simp only[O]at z;clear hn K hD hQ hS hp J O;go_wp2_with fail;go_quiet ((first|(go_at_call 154;first|exact iU (F.out _)|exact kC (F.out _))|(go_at_call 229;first|exact iU (z.out _)|exact kC (z.out _))));go_wp2;go_roundw
   case rel=>exact⟨j+1,m+nq,by omega,by go_num,by rw[HS.out],by simp⟩
   case measure=>simp[intOf];omega
  ·have a1:¬(j:Int)<(l.length:Int):=aI;have Z:j=l.length:=aI;have HJ:=aJ Z;clear Z;go_wp2;go_ret;exact⟨fF (by rw[HX.out,<-HJ.out]),B1.drewN' _⟩
theorem ad1(s r:Int)(w:World)(D:0<=s/\s<64)(hr:0<=r/\r<64):
  Calls prog 279 #[s,r] w fun e w'=>e=.returned (zS s r)/\w=w':=by
 have Z:=eB D.1 (show s<4611686018427387904 by omega) hr.1 (show r<4611686018427387904 by omega);have hB:=lS D.1 D.2 hr.1 hr.2;have F:=lR s r 64 D.1 D.2;have I:=nQ s r 64 D.1 D.2;have z:=SF D hr;have J:zS s r=max (dI (bG s r)-dI (cI s r)) (-(dI (bG s r)-dI (cI s r))):=rfl;obtain⟨A,N⟩:=aN (bG s r);obtain⟨B,O⟩:=aN (cI s r);rw[<-N]at Z F z J;rw[<-O]at hB I z J;have K:=aJ (fun W=>vI A W F.1 aI);have M:=aJ (fun W=>vI B W I.1 aI);obtain⟨p,R⟩:=aN (dI A);obtain⟨q,S⟩:=aN (dI B);simp only[<-R]at K z J;simp only[<-S]at M z J;have a1:IntKind.i64.wrap (p-q)=p-q:=by rw[IntKind.wrap_i64];omega
 have a6:IntKind.i64.wrap (-(p-q))=-(p-q):=by rw[IntKind.wrap_i64];omega
 have Y:=aJ J;clear J N O R S F I;go_enter func279,ntmps279;go_wp2_with (go_at_call 165;first|(with_reducible refine(K.out _).mono ?_;rintro e w' ⟨rfl,rfl⟩)|(with_reducible refine(M.out _).mono ?_;rintro e w' ⟨rfl,rfl⟩));go_ret;exact⟨fF (by rw[Y.out];try omega),rfl⟩
theorem Z4(l:List Int)(v:Value)(r:Int)(w:World)(hv:aO w v l)(hm:∀s∈l,0<=s/\s<64)(hr:0<=r/\r<64):
  Calls prog 214 #[v,r] w fun e w'=>e=.returned (uV l r)/\w=w':=by
 obtain⟨a,b,b6,c,rfl,a8,I,hc,hb⟩:=hv.view prog 24 3 underlying24 aP;have F:=EZ l r hm hr;have HC:=aJ hc;have S:=aJ I;have HM:=aJ hm;have O:=aJ F;clear hc I hm F;go_enter func214,ntmps214;go_wp2;go_loop [5,10] (fun mv iv=>∃j:Nat,j<=l.length/\iv=ajJ j/\mv=ajJ (sQ l r j)) (fun _ iv=>l.length-(intOf iv).toNat)
 case atStart=>exact⟨0,Nat.zero_le _,rfl,rfl⟩
 case round=>
  obtain⟨j,hj,rfl,rfl⟩:=hrel;have Y:=O.out j;by_cases hlt:j<l.length
  ·have K:(j:Int)<(l.length:Int):=aI;have ck:=HC.out j hlt;have ik:=fun W=>S.out W j hlt;have D:=fun W=>ad1 l[j] r W (HM.out _ (List.getElem_mem hlt)) hr;have N:sQ l r (j+1)=max (sQ l r j) (zS l[j] r):=by rw[sQ,aU l j hlt]
   obtain⟨y,Z⟩:=aN (l[j]);rw[<-Z]at ck N;simp only[<-Z]at D;obtain⟨z,hz⟩:=aN (zS y r);rw[<-hz]at N;simp only[<-hz]at D;obtain⟨M,hM⟩:=aN (sQ l r j);rw[<-hM]at N Y ⊢;have HS:=aJ N;have R:=aJ D;clear Z hz hM N D;go_wp2_with (go_at_call 279;refine(R.out _).mono ?_;rintro e w' ⟨rfl,rfl⟩);go_round
   case rel=>exact⟨j+1,by omega,by go_num,by rw[HS.out];try omega⟩
   case measure=>simp[intOf];omega
  ·have K:¬(j:Int)<(l.length:Int):=aI;have J:j=l.length:=aI;have HJ:=aJ J;clear J;go_wp2;go_ret;exact⟨fF (by unfold uV;rw[<-HJ.out]),rfl⟩
theorem aaK(l:List Int)(r:Nat):jV l (r+1)=if uV l ((r+1:Nat):Int)<(jV l r).2 then (((r+1:Nat):Int),uV l ((r+1:Nat):Int)) else jV l r:=rfl
theorem PA(g:Int)(l:List Int)(v:Value)(w:World)(hv:aO w v l)(hf:bF g l=true):
  Calls prog 103 #[.agg #[g,v]] w fun e w'=>e=.returned (.tuple #[(yJ g l),(wM g l)])/\Below w w w':=by
 obtain⟨a,c,rfl⟩:=hv.shape;have hm:=dV hf;obtain⟨h0,h6,_,_⟩:=dQ hf;obtain⟨N,rfl⟩:=Int.eq_ofNat_of_zero_le h0;have hN:N<=6:=aI;have S:yJ (N:Int) l=(jV l (2^N-1)).1:=by unfold yJ;rw[hf,Int.toNat_natCast];rfl
 have Y:wM (N:Int) l=(jV l (2^N-1)).2:=by unfold wM;rw[hf,Int.toNat_natCast];rfl
 have a9:=LQ l hm;have I:=fun(W:World) (r:Int) (h:aO W (ajH a l.length c) l) (hr:0<=r/\r<64)=>Z4 l _ r W h hm hr;have R:=fun(W:World) (h:aO W (ajH a l.length c) l)=>iW (N:Int) _ l W h h0 aI;simp only[Int.toNat_natCast]at R;have c7:(2:Nat)^N<=2^6:=Nat.pow_le_pow_right aV hN;have d5:=Nat.two_pow_pos N;have O:((2:Int)^N)=((2^N:Nat):Int):=by simp
 have F:jV l 0=(0,uV l 0):=rfl;obtain⟨M,hM⟩:=aN (2^N-1);have a7:((2:Int)^N)-1=(M:Int):=by rw[O,hM];omega
 have e5:M<64:=aI;rw[<-hM]at S Y;simp only[a7]at R;have K0:=aR.new w 31 #[(N:Int),ajH a l.length c];have HR:=aJ (And.intro S Y);have b8:=aJ a9;have a1:=aJ I;have b9:=aJ R;have b5:=hv.alloc (.cells #[(N:Int),ajH a l.length c] 31);have Z:=I _ 0 b5 aI;obtain⟨W0,a8⟩:=aN (uV l 0);rw[<-a8]at Z F;have HW:=aJ Z;have HS:=aJ F;clear S Y a9 I R c7 d5 O hM a7 hm hf Z F a8 b5;go_enter func103,ntmps103;go_wp2_with (go_at_call 214;refine HW.out.mono ?_;rintro e w' ⟨rfl,rfl⟩);go_loopw [4,5,6] (fun bv mv iv wr=>∃(r:Nat),r<=M/\iv=ajJ ((r:Int)+1)/\bv=ajJ (jV l r).1/\mv=ajJ (jV l r).2/\aR wr w 31 #[(N:Int),ajH a l.length c]/\Below w w wr) (fun _ _ iv _=>M+1-(intOf iv).toNat)
 case atStart=>exact⟨0,Nat.zero_le _,rfl,by rw[HS.out],by rw[HS.out],K0,aY _ _⟩
 case round=>
  obtain⟨r,hr,rfl,rfl,rfl,K,B⟩:=hrel;clear K0;have d0:=b8.out r aI;have z:=aaK l r;have b0:((r+1:Nat):Int)=(r:Int)+1:=aI;rw[b0]at z;have d6:=a1.out;obtain⟨C,hC⟩:=aN (jV l r);rw[<-hC]at d0 z ⊢;have HC:=aJ hC;have G:=K.cell;clear hC b0 d6;go_wp2_with fail;refine(b9.out wr (hv.below B aK)).mono ?_;rintro e w2 ⟨rfl,b2⟩;have B2:=B.after b2 B.size;have K2:=K.keep b2;clear G;have G:=K2.cell;by_cases hlt:r<M
  ·have b3:(r:Int)+1<=(M:Int):=aI;have I:=a1.out w2 ((r:Int)+1) (hv.below B2 aK) aI;obtain⟨D,hD⟩:=aN (uV l ((r:Int)+1));rw[<-hD]at I z;have a6:=aJ I;have f0:IntKind.i64.wrap ((r:Int)+1+1)=(r:Int)+1+1:=by rw[IntKind.wrap_i64];omega
   by_cases hd:D<C.2
   ·rw[if_pos hd]at z;have J:=aJ z;clear z I hD;go_wp2_with (go_at_call 214;refine a6.out.mono ?_;rintro e w' ⟨rfl,rfl⟩);go_roundw
    case rel=>exact⟨r+1,by omega,by go_num,by rw[J.out],by rw[J.out],K2,B2⟩
    case measure=>simp[intOf];omega
   ·rw[if_neg hd]at z;have J:=aJ z;clear z I hD;go_wp2_with (go_at_call 214;refine a6.out.mono ?_;rintro e w' ⟨rfl,rfl⟩);go_roundw
    case rel=>exact⟨r+1,by omega,by go_num,by rw[J.out],by rw[J.out],K2,B2⟩
    case measure=>simp[intOf];omega
  ·have b3:¬(r:Int)+1<=(M:Int):=aI;have b4:r=M:=aI;have c5:=aJ b4;clear b4 z;go_wp2;go_ret2;exact⟨by rw[HR.out.1,HR.out.2,<-c5.out,HC.out];rfl,B2⟩
theorem acC{N:Nat}{a b:Int}(F:N<=6)(D:0<=a/\a<2^N)(hb:0<=b/\b<2^N):fX (N:Int) [a,b]=true:=by
 unfold fX;rw[Bool.and_eq_true,List.all_eq_true];refine⟨dH.2 ⟨by omega,by omega⟩,fun s z=>?_⟩;rw[Int.toNat_natCast];rcases List.mem_cons.1 z with e|z
 ·rw[e];exact mQ.2 D
 ·rw[List.mem_singleton]at z;rw[z];exact mQ.2 hb
theorem aO.pairB{w:World}{b:Nat}{x y:Int}(D:w.cell? ⟨b,0,none⟩=some (ajJ x))(h1:w.cell? ⟨b,1,none⟩=some (ajJ y))(F:dA x)(I:dA y):aO w (ajH (some ⟨b,0,none⟩) 2 2) [x,y]:=
 ⟨some ⟨b,0,none⟩,2,rfl,aK,by decide,by
  intro q z;rcases List.mem_cons.1 z with e|z
  ·rw[e];exact F
  ·rw[List.mem_singleton]at z;rw[z];exact I,.inr ⟨b,0,rfl,World.block_lt_of_cell? w _ D,fun k hk=>by
   match k,hk with
   |0,_=>exact D
   |1,_=>exact h1⟩⟩
theorem YJ(N:Nat)(a b:Int)(w:World)(Y:N<=6)(K:0<=a/\a<2^N)(hb:0<=b/\b<2^N):
  Calls prog 220 #[(N:Int),a,b] w fun e w'=>e=.returned (.bool (Q8 N a b))/\Below w w w':=by
 have O:=cK N 6 Y;have R:=O.1;have a6:=O.2;simp at R;have D:=sU (N:Int) [a,b] (ajH (some ⟨w,0,none⟩) 2 2) (w.alloc (.cells #[a,b] 3)) (aO.pairB (aX _ _ _ _ _ rfl) (aX _ _ _ _ _ rfl) ⟨by omega,by omega⟩ ⟨by omega,by omega⟩);rw[acC Y K hb]at D;have hcl:=fun W=>NN a b W ⟨K.1,by omega⟩ ⟨hb.1,by omega⟩;have M:=xN K.1 (show a<4611686018427387904 by omega) hb.1 (show b<4611686018427387904 by omega);have J:Q8 N a b=(pQ a b&&fQ a b != 2^N-1):=rfl;have a7:IntKind.i64.wrap ((2:Int)^N)=2^N:=by rw[IntKind.wrap_i64];omega
 have a8:IntKind.i64.wrap ((2:Int)^N-1)=2^N-1:=by rw[IntKind.wrap_i64];omega
 obtain⟨y,Z⟩:=aN (fQ a b);rw[<-Z]at M J;obtain⟨cb,z⟩:=aN (pQ a b);simp only[<-z]at hcl;rw[<-z]at J;have I:=aJ D;have F:=aJ hcl;have S:=aJ J;clear D hcl J Z z O;go_enter func220,ntmps220
 cases cb with
 |false=>go_wp2_with (first|(go_at_call 211;refine I.out.mono ?_;rintro e w' ⟨rfl,rfl⟩)|(go_at_call 283;refine(F.out _).mono ?_;rintro e w' ⟨rfl,rfl⟩));go_ret;exact⟨aW S.out.symm,aY _ _⟩
 |true=>go_wp2_with (first|(go_at_call 211;refine I.out.mono ?_;rintro e w' ⟨rfl,rfl⟩)|(go_at_call 283;refine(F.out _).mono ?_;rintro e w' ⟨rfl,rfl⟩));go_ret;exact⟨aW S.out.symm,aY _ _⟩
theorem YK(N:Nat)(a b:Int)(w:World)(hN:N<=6)(ha:0<=a/\a<2^N)(hb:0<=b/\b<2^N):
  Calls prog 232 #[(N:Int),a,b] w fun e w'=>e=.returned (.bool (Q8 N a b))/\w=w':=by
 have hp:=cK N 6 hN;have b1:=hp.1;have b6:=hp.2;simp at b1;have S:eW (N:Int) 0 6=true:=dH.2 ⟨by omega,by omega⟩;have Y:eW a 0 (2^N-1)=true:=dH.2 ⟨ha.1,by omega⟩;have Z:eW b 0 (2^N-1)=true:=dH.2 ⟨hb.1,by omega⟩;have M:=fun W=>cN (N:Int) 0 6 W;have O:=fun W=>cN a 0 (2^N-1) W;have R:=fun W=>cN b 0 (2^N-1) W;simp only[S]at M;simp only[Y]at O;simp only[Z]at R;have D:=aJ (fun W=>fB N W aI);have a9:=xN ha.1 (show a<4611686018427387904 by omega) hb.1 (show b<4611686018427387904 by omega);have a8:=eB ha.1 (show a<4611686018427387904 by omega) hb.1 (show b<4611686018427387904 by omega);have hx:Q8 N a b=(((bG a b != 0&&bG a b != a)&&bG a b != b)&&fQ a b != 2^N-1):=by unfold Q8;rw[AS ha.1 hb.1];rfl
 obtain⟨y,hy⟩:=aN (fQ a b);obtain⟨z,hz⟩:=aN (bG a b);rw[<-hy]at a9 hx;rw[<-hz]at a8 hx;have F:=aJ M;have I:=aJ O;have J:=aJ R;have K:=aJ hx;clear M O R S Y Z hx hy hz hp;go_enter func232,ntmps232
 cases t1:z != 0 with
 |false=>rw[t1]at K;go_wp2_with (first|(go_at_call 187;refine(D.out _).mono ?_;rintro e w' ⟨rfl,rfl⟩)|(go_at_call 174;first|(with_reducible refine(F.out _).mono ?_;rintro e w' ⟨rfl,rfl⟩)|(with_reducible refine(I.out _).mono ?_;rintro e w' ⟨rfl,rfl⟩)|(with_reducible refine(J.out _).mono ?_;rintro e w' ⟨rfl,rfl⟩)));go_ret;exact⟨aW K.out.symm,rfl⟩
 |true=>
  cases t2:z != a with
  |false=>rw[t1,t2]at K;go_wp2_with (first|(go_at_call 187;refine(D.out _).mono ?_;rintro e w' ⟨rfl,rfl⟩)|(go_at_call 174;first|(with_reducible refine(F.out _).mono ?_;rintro e w' ⟨rfl,rfl⟩)|(with_reducible refine(I.out _).mono ?_;rintro e w' ⟨rfl,rfl⟩)|(with_reducible refine(J.out _).mono ?_;rintro e w' ⟨rfl,rfl⟩)));go_ret;exact⟨aW K.out.symm,rfl⟩
  |true=>
   cases t3:z != b with
   |false=>rw[t1,t2,t3]at K;go_wp2_with (first|(go_at_call 187;refine(D.out _).mono ?_;rintro e w' ⟨rfl,rfl⟩)|(go_at_call 174;first|(with_reducible refine(F.out _).mono ?_;rintro e w' ⟨rfl,rfl⟩)|(with_reducible refine(I.out _).mono ?_;rintro e w' ⟨rfl,rfl⟩)|(with_reducible refine(J.out _).mono ?_;rintro e w' ⟨rfl,rfl⟩)));go_ret;exact⟨aW K.out.symm,rfl⟩
   |true=>rw[t1,t2,t3]at K;go_wp2_with (first|(go_at_call 187;refine(D.out _).mono ?_;rintro e w' ⟨rfl,rfl⟩)|(go_at_call 174;first|(with_reducible refine(F.out _).mono ?_;rintro e w' ⟨rfl,rfl⟩)|(with_reducible refine(I.out _).mono ?_;rintro e w' ⟨rfl,rfl⟩)|(with_reducible refine(J.out _).mono ?_;rintro e w' ⟨rfl,rfl⟩)));go_ret;exact⟨aW K.out.symm,rfl⟩
end
end Go.Proofs.YtcpoomdoodlkjaaGreatDoor
