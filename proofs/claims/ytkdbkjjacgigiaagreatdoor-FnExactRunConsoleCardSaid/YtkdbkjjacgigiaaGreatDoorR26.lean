/- Lemmas for CardRunConsole. No condition. -/
import Derived.Test.YtkdbkjjacgigiaaGreatDoorR25
set_option maxRecDepth 100000
set_option maxHeartbeats 64000000
namespace Go.Proofs.YtkdbkjjacgigiaaGreatDoor
section
open Go.RowKit Go.G5 Go.Proofs.Tryz
variable(w:World)(n:Int)(v:Value)(l:aI)
theorem ap7:∀n:Nat,n<7->∀i:Nat,i<7->mM n i<=20:=dS
theorem ap8:∀n:Nat,n<7->∀i:Nat,i<7->mM n i*(n-i)<=120:=dS
theorem amT:∀n:Nat,n<7->∀k:Nat,k<7->k<=n->∀i:Nat,i<7->i<=k->xK n k i*(n-k+(i+1))<=140:=dS
theorem akK{p:Prop}(h:p:=by
  rw[<-hD]at hq hS;have e0:IntKind.i64.wrap (D:Int)=(D:Int):=dV;have HD:=aT hD;clear z K hR hP S hD;go_wp2;go_round
  .exact⟨i+1,aA,cD,by rw[<-HD.out]⟩
  exact aY):p:=h
theorem WE(n k:Nat)(w:World)(hn:n<=6)(hk:k<=n):
  Calls prog 305 #[(n:Int),(k:Int)] w fun e w'=>e=aQ (aO (mM n k:Int))/\w=w':=by
 have h1:¬(n:Int)<(k:Int):=aA;have hb:∀i:Nat,i<7->i<=k->mM n i<=20/\mM n i*(n-i)<=120:=fun i h _=>⟨ap7 n aA i h,ap8 n aA i h⟩;have HB:=aT hb;clear hb;go_enter func305,ntmps305;go_wp2;go_loop [5,15] (fun rv O=>∃i:Nat,i<=k/\O=aO i/\rv=aO (mM n i:Int)) (fun _ O=>k-(intOf O).toNat)
 .exact⟨0,aZ _,rfl,rfl⟩
 obtain⟨i,hi,rfl,rfl⟩:=hrel;have hb:=HB.out i aA hi;by_cases hlt:i<k
 .have I:(i:Int)<(k:Int):=aA;have K:mM n (i+1)=mM n i*(n-i)/(i+1):=rfl;have z:(mM n i:Int)*((n:Int)-(i:Int))=((mM n i*(n-i):Nat):Int):=by rw[Int.natCast_mul,Int.ofNat_sub aA]
  obtain⟨R,hR⟩:=aW (mM n i);rw[<-hR]at hb K z |-;obtain⟨P,hP⟩:=aW (R*(n-i));rw[<-hP]at hb K z;have b7:IntKind.i64.wrap ((n:Int)-(i:Int))=(n:Int)-(i:Int):=dV;have b8:IntKind.i64.wrap ((R:Int)*((n:Int)-(i:Int)))=(P:Int):=by rw[z,oJ];omega
  have b9:IntKind.i64.wrap ((i:Int)+1)=(i:Int)+1:=dV;have hq:(P:Int).tdiv ((i:Int)+1)=(mM n (i+1):Int):=by rw[K,show(i:Int)+1=((i+1:Nat):Int) from bF];rfl
  have HQ:=aT hq;have b5:¬(i:Int)+1=0:=aA;have c9:=hb.2;have S:P/(i+1)<=P:=Nat.div_le_self _ _;have hS:(mM n (i+1))<=120:=by rw[K];omega
  obtain⟨D,hD⟩:=aW (mM n (i+1));exact akK
 .have I:¬(i:Int)<(k:Int):=aA;have F:i=k:=aA;have HI:=aT F;clear F;go_wp2;go_ret;exact⟨by rw[<-HI.out];rfl,rfl⟩
theorem abN(n k:Nat)(w:World)(hn:n<=6)(hk:k<=n):
  Calls prog 104 #[(n:Int),(k:Int)] w fun e w'=>e=aQ (aO (mM n k:Int))/\w=w':=by
 have hb:∀i:Nat,i<7->i<=k->xK n k i<=20/\xK n k i*(n-k+(i+1))<=140:=fun i h h'=>⟨ap9 n aA k aA hk i h h',amT n aA k aA hk i h h'⟩;have J:=amU n aA k aA hk;have Y:fN (n:Int) 0 20=true:=eW.2 ⟨aA,aA⟩;have Z:fN (k:Int) 0 (n:Int)=true:=eW.2 ⟨aA,aA⟩;have M:=fun W=>eH (n:Int) 0 20 W;have N:=fun W=>eH (k:Int) 0 (n:Int) W;simp only[Y]at M;simp only[Z]at N;have b0:=aT M;have b1:=aT N;have HB:=aT hb;have b3:=aT J;have e4:IntKind.i64.wrap ((n:Int)-(k:Int))=(n:Int)-(k:Int):=dV;clear hb J Y Z M N;go_enter func104,ntmps104;go_wp2_with (go_at_call 77;first|(with_reducible refine aV (b0.out _) ?_;rintro w' rfl)|(with_reducible refine aV (b1.out _) ?_;rintro w' rfl));go_loop [5,6] (fun rv O=>∃i:Nat,i<=k/\O=aO ((i:Int)+1)/\rv=aO (xK n k i:Int)) (fun _ O=>k+1-(intOf O).toNat)
 .exact⟨0,aZ _,rfl,rfl⟩
 obtain⟨i,hi,rfl,rfl⟩:=hrel;have hb:=HB.out i aA hi;by_cases hlt:i<k
 .have I:(i:Int)+1<=(k:Int):=aA;have K:xK n k (i+1)=xK n k i*(n-k+(i+1))/(i+1):=rfl;have z:(xK n k i:Int)*((n:Int)-(k:Int)+((i:Int)+1))=((xK n k i*(n-k+(i+1)):Nat):Int):=by rw[Int.natCast_mul,Int.natCast_add,Int.ofNat_sub hk];simp
  obtain⟨R,hR⟩:=aW (xK n k i);rw[<-hR]at hb K z |-;obtain⟨P,hP⟩:=aW (R*(n-k+(i+1)));rw[<-hP]at hb K z;have b7:IntKind.i64.wrap ((n:Int)-(k:Int)+((i:Int)+1))=(n:Int)-(k:Int)+((i:Int)+1):=dV;have b8:IntKind.i64.wrap ((R:Int)*((n:Int)-(k:Int)+((i:Int)+1)))=(P:Int):=by rw[z,oJ];omega
  have b9:IntKind.i64.wrap ((i:Int)+1+1)=(i:Int)+1+1:=dV;have hq:(P:Int).tdiv ((i:Int)+1)=(xK n k (i+1):Int):=by rw[K,show(i:Int)+1=((i+1:Nat):Int) from bF];rfl
  have b5:¬(i:Int)+1=0:=aA;have S:P/(i+1)<=P:=Nat.div_le_self _ _;have hS:(xK n k (i+1))<=140:=by rw[K];omega
  obtain⟨D,hD⟩:=aW (xK n k (i+1));exact akK
 .have I:¬(i:Int)+1<=(k:Int):=aA;have F:i=k:=aA;have HI:=aT F;clear F;go_wp2;go_ret;exact⟨by rw[<-b3.out,<-HI.out];rfl,rfl⟩
theorem akD{p:Prop}(h:p:=by
  have h:=a7 s K;obtain⟨n,rfl⟩:=cN h.1;rw[cA]at h;have e:((2:Int)^N)=((2^N:Nat):Int):=bF;have h5:(2:Nat)^N<=2^6:=bQ bZ hN;exact⟨n,rfl,aA,atR N aA n aA⟩):p:=h
theorem aoE(g:Int)(l:aI)(v:Value)(w:World)(hv:Ints w v l)(R:cO g l=true):
  aH 224 #[aM #[g,v]] w (wN g l):=by
 have c6:=hv;obtain⟨a,b,g7,c,rfl,e5,Y,hc,hb⟩:=hv.vw;obtain⟨h0,h6,a7,c5⟩:=fF R;obtain⟨N,rfl⟩:=cN h0;have hN:N<=6:=aA;have g0:=kZ R;have hx:wN (N:Int) l=uS N l l.length:=by unfold wN;rw[R,cA];rfl
 have hm:∀s∈l,∃n:Nat,s=(n:Int)/\n<64/\dG n<=N:=fun s K=>by exact akD
 have K0:=bK.new w 29 #[(N:Int),aD a l c];have M:=S9 N l;have HX:=aT hx;have HC:=aT hc;have b0:=aT Y;have HM:=aT hm;have a8:=aT M;have I:=eP (N:Int) l _ _ (c6.alloc (.cells #[(N:Int),aD a l c] 29));rw[R]at I;have a9:=aT I;clear hx hc Y hm M I R a7 c5;go_enter func224,ntmps224;go_wp2_with fail;refine aV a9.out ?_;intro w1 b1;have B1:Below w w w1:=(cQ _ _).after b1 bF;have K1:=K0.keep b1;have G1:=K1.cell;clear K0 b1;go_wp2_with fail;clear G1;go_loopw [3,12] (fun sv iv wr=>∃(j m:Nat),j<=l/\iv=aO j/\sv=aO (uS N l j)/\wr=w1.drewN m) (fun _ iv _=>l.length-(intOf iv).toNat)
 .exact⟨0,0,aZ _,rfl,rfl,rfl⟩
 obtain⟨j,m,hj,rfl,rfl,rfl⟩:=hrel;have b6:=a8.out j;have G:=K1.cell;have B:=B1;by_cases hlt:j<l
 .skip
  have a1:(j:Int)<(l.length:Int):=aA;have ck:=bY HC.out hb B aU j hlt;have ik:=fun W=>b0.out W j hlt;obtain⟨n,hn,e6,J⟩:=HM.out _ (aX hlt);have K:uS N l (j+1)=uS N l j+((60/mM N (dG n):Nat):Int):=by rw[uS,cJ l j hlt,hn,cA]
  rw[hn]at ck;have b7:=adD N aA (dG n) aA J;obtain⟨p,hp⟩:=aW (dG n);obtain⟨D,hD⟩:=aW (mM N (dG n));rw[<-hD]at K b7;have hq:(60:Int).tdiv (D:Int)=((60/D:Nat):Int):=rfl;have a6:60/D<=60:=Nat.div_le_self _ _;obtain⟨Q,hQ⟩:=aW (60/D);rw[<-hQ]at K hq a6;obtain⟨S,hS⟩:=aW (uS N l j);rw[<-hS]at K b6 |-;have g2:¬(D:Int)=0:=aA;have g5:IntKind.i64.wrap (Q:Int)=(Q:Int):=dV;have g6:IntKind.i64.wrap (S+(Q:Int))=S+(Q:Int):=dV;have HS:=aT K;have HD:=aT hD;have b3:=aT J;have F:=aT (fun W=>jF n W aA);simp only[<-hp]at F;have z:=aT (fun W=>WE N p W hN (by have:=b3.out;omega));have O:mM N p=D:=by rw[HD.out,hp]
  simp only[O]at z;clear hn K hD hQ hS hp J O;go_wp2_with fail;go_quiet ((first|(go_at_call 214;first|exact kH (F.out _)|exact lO (F.out _))|(go_at_call 305;first|exact kH (z.out _)|exact lO (z.out _))));go_wp2;go_roundw
  .exact⟨j+1,m+nq,aA,cD,by rw[HS.out],bF⟩
  exact aY
 .have a1:¬(j:Int)<(l.length:Int):=aA;have Z:j=l.length:=aA;have HJ:=aT Z;clear Z;go_wp2;go_ret;exact⟨jK (by rw[HX.out,<-HJ.out]),B1.drewN' _⟩
theorem aoF(g:Int)(l:aI)(v:Value)(w:World)(hv:Ints w v l)(R:cO g l=true):
  aH 56 #[aM #[g,v]] w (wN g l):=by
 have c6:=hv;obtain⟨a,b,g7,c,rfl,e5,Y,hc,hb⟩:=hv.vw;obtain⟨h0,h6,a7,c5⟩:=fF R;obtain⟨N,rfl⟩:=cN h0;have hN:N<=6:=aA;have g0:=kZ R;have hx:wN (N:Int) l=uS N l l.length:=by unfold wN;rw[R,cA];rfl
 have hm:∀s∈l,∃n:Nat,s=(n:Int)/\n<64/\dG n<=N:=fun s K=>by exact akD
 have K0:=bK.new w 29 #[(N:Int),aD a l c];have M:=S9 N l;have HX:=aT hx;have HC:=aT hc;have b0:=aT Y;have HM:=aT hm;have a8:=aT M;have I:=eA (N:Int) l _ _ (c6.alloc (.cells #[(N:Int),aD a l c] 29));rw[R]at I;have a9:=aT I;clear hx hc Y hm M I R a7 c5;go_enter func56,ntmps56;go_wp2_with fail;refine aV a9.out ?_;intro w1 b1;have B1:Below w w w1:=(cQ _ _).after b1 bF;have K1:=K0.keep b1;have G1:=K1.cell;clear K0 b1;go_wp2_with fail;clear G1;go_loopw [3,4] (fun sv iv wr=>∃(j m:Nat),j<=l/\iv=aO j/\sv=aO (uS N l j)/\wr=w1.drewN m) (fun _ iv _=>l.length-(intOf iv).toNat)
 .exact⟨0,0,aZ _,rfl,rfl,rfl⟩
 obtain⟨j,m,hj,rfl,rfl,rfl⟩:=hrel;have b6:=a8.out j;have G:=K1.cell;have B:=B1;by_cases hlt:j<l
 .skip
  have a1:(j:Int)<(l.length:Int):=aA;have ck:=bY HC.out hb B aU j hlt;have ik:=fun W=>b0.out W j hlt;obtain⟨n,hn,e6,J⟩:=HM.out _ (aX hlt);have K:uS N l (j+1)=uS N l j+((60/mM N (dG n):Nat):Int):=by rw[uS,cJ l j hlt,hn,cA]
  rw[hn]at ck;have b7:=adD N aA (dG n) aA J;obtain⟨p,hp⟩:=aW (dG n);obtain⟨D,hD⟩:=aW (mM N (dG n));rw[<-hD]at K b7;have hq:(60:Int).tdiv (D:Int)=((60/D:Nat):Int):=rfl;have a6:60/D<=60:=Nat.div_le_self _ _;obtain⟨Q,hQ⟩:=aW (60/D);rw[<-hQ]at K hq a6;obtain⟨S,hS⟩:=aW (uS N l j);rw[<-hS]at K b6 |-;have g2:¬(D:Int)=0:=aA;have g5:IntKind.i64.wrap (Q:Int)=(Q:Int):=dV;have g6:IntKind.i64.wrap (S+(Q:Int))=S+(Q:Int):=dV;have HS:=aT K;have HD:=aT hD;have b3:=aT J;have F:=aT (fun W=>iE n W aA);simp only[<-hp]at F;have z:=aT (fun W=>abN N p W hN (by have:=b3.out;omega));have O:mM N p=D:=by rw[HD.out,hp]
  simp only[O]at z;clear hn K hD hQ hS hp J O;go_wp2_with fail;go_quiet ((first|(go_at_call 84;first|exact kH (F.out _)|exact lO (F.out _))|(go_at_call 104;first|exact kH (z.out _)|exact lO (z.out _))));go_wp2;go_roundw
  .exact⟨j+1,m+nq,aA,cD,by rw[HS.out],bF⟩
  exact aY
 .have a1:¬(j:Int)<(l.length:Int):=aA;have Z:j=l.length:=aA;have HJ:=aT Z;clear Z;go_wp2;go_ret;exact⟨jK (by rw[HX.out,<-HJ.out]),B1.drewN' _⟩
theorem anX(s r:Int)(w:World)(D:0<=s/\s<64)(hr:0<=r/\r<64):
  Calls prog 351 #[s,r] w fun e w'=>e=aQ (E2 s r)/\w=w':=by
 have Z:=fV D.1 (show s<4611686018427387904 from aA) hr.1 (show r<4611686018427387904 from aA);have hB:=nR D.1 D.2 hr.1 hr.2;have F:=mW s r 64 D.1 D.2;have I:=rK s r 64 D.1 D.2;have z:=Y9 D hr;have J:E2 s r=max (eO (cU s r)-eO (dQ s r)) (-(eO (cU s r)-eO (dQ s r))):=rfl;obtain⟨A,N⟩:=aW (cU s r);obtain⟨B,O⟩:=aW (dQ s r);rw[<-N]at Z F z J;rw[<-O]at hB I z J;have K:=aT (fun W=>vN A W F.1 aA);have M:=aT (fun W=>vN B W I.1 aA);obtain⟨p,R⟩:=aW (eO A);obtain⟨q,S⟩:=aW (eO B);simp only[<-R]at K z J;simp only[<-S]at M z J;have a1:IntKind.i64.wrap (p-q)=p-q:=dV;have a6:IntKind.i64.wrap (-(p-q))=-(p-q):=dV;have Y:=aT J;clear J N O R S F I;go_enter func351,ntmps351;go_wp2_with (go_at_call 214;first|(with_reducible refine aV (K.out _) ?_;rintro w' rfl)|(with_reducible refine aV (M.out _) ?_;rintro w' rfl));go_ret;exact⟨jK (by rw[Y.out];try omega),rfl⟩
theorem agU(v:Value)(r:Int)(w:World)(hv:Ints w v l)(hm:∀s∈l,0<=s/\s<64)(hr:0<=r/\r<64):
  Calls prog 301 #[v,r] w fun e w'=>e=aQ (zA l r)/\w=w':=by
 obtain⟨a,b,b6,c,rfl,a8,I,hc,hb⟩:=hv.vw;have F:=NH l r hm hr;have HC:=aT hc;have S:=aT I;have HM:=aT hm;have O:=aT F;clear hc I hm F;go_enter func301,ntmps301;go_wp2;go_loop [5,10] (fun mv iv=>∃j:Nat,j<=l/\iv=aO j/\mv=aO (wR l r j)) (fun _ iv=>l.length-(intOf iv).toNat)
 .exact⟨0,aZ _,rfl,rfl⟩
 obtain⟨j,hj,rfl,rfl⟩:=hrel;have Y:=O.out j;by_cases hlt:j<l
 .have K:(j:Int)<(l.length:Int):=aA;have ck:=HC.out j hlt;have ik:=fun W=>S.out W j hlt;have D:=fun W=>anX l[j] r W (HM.out _ (aX hlt)) hr;have N:wR l r (j+1)=max (wR l r j) (E2 l[j] r):=by rw[wR,cJ l j hlt]
  obtain⟨y,Z⟩:=aW (l[j]);rw[<-Z]at ck N;simp only[<-Z]at D;obtain⟨z,hz⟩:=aW (E2 y r);rw[<-hz]at N;simp only[<-hz]at D;obtain⟨M,hM⟩:=aW (wR l r j);rw[<-hM]at N Y |-;have HS:=aT N;have R:=aT D;clear Z hz hM N D;go_wp2_with (go_at_call 351;refine aV (R.out _) ?_;rintro w' rfl);go_round
  .exact⟨j+1,aA,cD,by rw[HS.out];try omega⟩
  exact aY
 .have K:¬(j:Int)<(l.length:Int):=aA;have J:j=l.length:=aA;have HJ:=aT J;clear J;go_wp2;go_ret;exact⟨jK (by unfold zA;rw[<-HJ.out]),rfl⟩
theorem ahJ(r:Nat):mN l (r+1)=if zA l ((r+1:Nat):Int)<(mN l r).2 then (((r+1:Nat):Int),zA l ((r+1:Nat):Int)) else mN l r:=rfl
theorem akT{p:Prop}(h:p:=by
  clear F I hD;go_wp2_with (go_at_call 301;refine aV c5.out ?_;rintro w' rfl);go_roundw
  .exact⟨r+1,aA,cD,by rw[R.out],by rw[R.out],K2,B2⟩
  exact aY):p:=h
theorem WI(g:Int)(l:aI)(v:Value)(w:World)(hv:Ints w v l)(hf:cO g l=true):
  aH 221 #[aM #[g,v]] w (aS #[(D3 g l),(BZ g l)]):=by
 obtain⟨a,c,rfl⟩:=hv.shape;have hm:=fS hf;obtain⟨h0,h6,_,_⟩:=fF hf;obtain⟨N,rfl⟩:=cN h0;have hN:N<=6:=aA;have S:D3 (N:Int) l=(mN l (2^N-1)).1:=by unfold D3;rw[hf,cA];rfl
 have Y:BZ (N:Int) l=(mN l (2^N-1)).2:=by unfold BZ;rw[hf,cA];rfl
 have a8:=SI l hm;have I:=fun(W:World) (r:Int) (h:Ints W (aD a l c) l) (hr:0<=r/\r<64)=>agU l _ r W h hm hr;have O:=fun(W:World) (h:Ints W (aD a l c) l)=>lC (N:Int) _ l W h h0 aA;simp only[Int.toNat_natCast]at O;have c6:(2:Nat)^N<=2^6:=bQ bZ hN;have c9:=dJ N;have J:((2:Int)^N)=((2^N:Nat):Int):=bF;have z:mN l 0=(0,zA l 0):=rfl;obtain⟨M,hM⟩:=aW (2^N-1);have a6:((2:Int)^N)-1=(M:Int):=by rw[J,hM];omega
 have f0:M<64:=aA;rw[<-hM]at S Y;simp only[a6]at O;have K0:=bK.new w 29 #[(N:Int),aD a l c];have HR:=aT (And.intro S Y);have b7:=aT a8;have a1:=aT I;have b8:=aT O;have b4:=hv.alloc (.cells #[(N:Int),aD a l c] 29);have Z:=I _ 0 b4 aA;obtain⟨W0,a7⟩:=aW (zA l 0);rw[<-a7]at Z z;have HW:=aT Z;have HS:=aT z;clear S Y a8 I O c6 c9 J hM a6 hm hf Z z a7 b4;go_enter func221,ntmps221;go_wp2_with (go_at_call 301;refine aV HW.out ?_;rintro w' rfl);go_loopw [4,5,6] (fun bv mv iv wr=>∃(r:Nat),r<=M/\iv=aO ((r:Int)+1)/\bv=aO (mN l r).1/\mv=aO (mN l r).2/\bK wr w 29 #[(N:Int),aD a l c]/\Below w w wr) (fun _ _ iv _=>M+1-(intOf iv).toNat)
 .exact⟨0,aZ _,rfl,by rw[HS.out],by rw[HS.out],K0,cQ _ _⟩
 obtain⟨r,hr,rfl,rfl,rfl,K,B⟩:=hrel;clear K0;have c8:=b7.out r aA;have F:=ahJ l r;have a9:((r+1:Nat):Int)=(r:Int)+1:=aA;rw[a9]at F;have d0:=a1.out;obtain⟨C,hC⟩:=aW (mN l r);rw[<-hC]at c8 F |-;have HC:=aT hC;have G:=K.cell;clear hC a9 d0;go_wp2_with fail;refine aV (b8.out wr (hv.below B aU)) ?_;intro w2 b2;have B2:=B.after b2 B.size;have K2:=K.keep b2;clear G;have G:=K2.cell;by_cases hlt:r<M
 .have b1:(r:Int)+1<=(M:Int):=aA;have I:=a1.out w2 ((r:Int)+1) (hv.below B2 aU) aA;obtain⟨D,hD⟩:=aW (zA l ((r:Int)+1));rw[<-hD]at I F;have c5:=aT I;have f6:IntKind.i64.wrap ((r:Int)+1+1)=(r:Int)+1+1:=dV;by_cases hd:D<C.2
  .rw[if_pos hd]at F;have R:=aT F;exact akT
  .rw[if_neg hd]at F;have R:=aT F;exact akT
 .have b1:¬(r:Int)+1<=(M:Int):=aA;have b3:r=M:=aA;have b9:=aT b3;clear b3 F;go_wp2;go_ret2;exact⟨by rw[HR.out.1,HR.out.2,<-b9.out,HC.out];rfl,B2⟩
theorem alQ{N:Nat}{a b:Int}(F:N<=6)(D:0<=a/\a<2^N)(hb:0<=b/\b<2^N):gE (N:Int) [a,b]=true:=by
 unfold gE;rw[fB,List.all_eq_true];refine⟨eW.2 ⟨aA,aA⟩,fun s z=>?_⟩;rw[cA];rcases fK.1 z with e|z
 .rw[e];exact nF.2 D
 .rw[eM]at z;rw[z];exact nF.2 hb
theorem Ints.pairB{w:World}{b:Nat}{x y:Int}(D:w.cell? ⟨b,0,none⟩=some (aO x))(h1:w.cell? ⟨b,1,none⟩=some (aO y))(F:fM x)(I:fM y):Ints w (aD (some ⟨b,0,none⟩) 2 2) [x,y]:=
 ⟨some ⟨b,0,none⟩,2,rfl,aU,bZ,by
  intro q z;rcases fK.1 z with e|z
  .rw[e];exact F
  .rw[eM]at z;rw[z];exact I,.inr ⟨b,0,rfl,World.block_lt_of_cell? w _ D,fun k hk=>by
   match k,hk with
   |0,_=>exact D
   |1,_=>exact h1⟩⟩
theorem ak3{p:Prop}(h:p:=by
  go_wp2_with (first|(go_at_call 219;refine aV J.out ?_;rintro w' rfl)|(go_at_call 354;refine aV (I.out _) ?_;rintro w' rfl));go_ret;exact⟨cP Z.out.symm,cQ _ _⟩):p:=h
theorem ae2(N:Nat)(a b:Int)(w:World)(S:N<=6)(K:0<=a/\a<2^N)(hb:0<=b/\b<2^N):
  aH 307 #[(N:Int),a,b] w (aG (XZ N a b)):=by
 have O:=dW N 6 S;have R:=O.1;have a6:=O.2;simp at R;have D:=uL (N:Int) [a,b] (aD (some ⟨w,0,none⟩) 2 2) (w.alloc (.cells #[a,b] 3)) (Ints.pairB (cR _ _ _ _ _ rfl) (cR _ _ _ _ _ rfl) ⟨aA,aA⟩ ⟨aA,aA⟩);rw[alQ S K hb]at D;have hcl:=fun W=>UO a b W ⟨K.1,aA⟩ ⟨hb.1,aA⟩;have M:=vJ K.1 (show a<4611686018427387904 from aA) hb.1 (show b<4611686018427387904 from aA);have F:XZ N a b=(uH a b&&gO a b != 2^N-1):=rfl;have a7:IntKind.i64.wrap ((2:Int)^N)=2^N:=dV;have a8:IntKind.i64.wrap ((2:Int)^N-1)=2^N-1:=dV;obtain⟨y,Y⟩:=aW (gO a b);rw[<-Y]at M F;obtain⟨cb,z⟩:=aW (uH a b);simp only[<-z]at hcl;rw[<-z]at F;have J:=aT D;have I:=aT hcl;have Z:=aT F;clear D hcl F Y z O;go_enter func307,ntmps307
 cases cb with
 |false=>exact ak3
 |true=>exact ak3
theorem ajP{p:Prop}(h:p:=by
  rw[t1,t2,t3]at R;go_wp2_with (first|(go_at_call 78;refine aV (J.out _) ?_;rintro w' rfl)|(go_at_call 77;first|(with_reducible refine aV (K.out _) ?_;rintro w' rfl)|(with_reducible refine aV (M.out _) ?_;rintro w' rfl)|(with_reducible refine aV (O.out _) ?_;rintro w' rfl)));go_ret;exact⟨cP R.out.symm,rfl⟩):p:=h
theorem ajT{p:Prop}(h:p:=by
  go_wp2_with (first|(go_at_call 78;refine aV (J.out _) ?_;rintro w' rfl)|(go_at_call 77;first|(with_reducible refine aV (K.out _) ?_;rintro w' rfl)|(with_reducible refine aV (M.out _) ?_;rintro w' rfl)|(with_reducible refine aV (O.out _) ?_;rintro w' rfl)));go_ret;exact⟨cP R.out.symm,rfl⟩):p:=h
theorem ae3(N:Nat)(a b:Int)(w:World)(hN:N<=6)(ha:0<=a/\a<2^N)(hb:0<=b/\b<2^N):
  Calls prog 107 #[(N:Int),a,b] w fun e w'=>e=aQ (aG (XZ N a b))/\w=w':=by
 have hp:=dW N 6 hN;have b0:=hp.1;have b6:=hp.2;simp at b0;have S:fN (N:Int) 0 6=true:=eW.2 ⟨aA,aA⟩;have Y:fN a 0 (2^N-1)=true:=eW.2 ⟨ha.1,aA⟩;have Z:fN b 0 (2^N-1)=true:=eW.2 ⟨hb.1,aA⟩;have D:=fun W=>eH (N:Int) 0 6 W;have F:=fun W=>eH a 0 (2^N-1) W;have I:=fun W=>eH b 0 (2^N-1) W;simp only[S]at D;simp only[Y]at F;simp only[Z]at I;have J:=aT (fun W=>fZ N W aA);have a8:=vJ ha.1 (show a<4611686018427387904 from aA) hb.1 (show b<4611686018427387904 from aA);have a7:=fV ha.1 (show a<4611686018427387904 from aA) hb.1 (show b<4611686018427387904 from aA);have hx:XZ N a b=(((cU a b != 0&&cU a b != a)&&cU a b != b)&&gO a b != 2^N-1):=by unfold XZ;rw[ID ha.1 hb.1];rfl
 obtain⟨y,hy⟩:=aW (gO a b);obtain⟨z,hz⟩:=aW (cU a b);rw[<-hy]at a8 hx;rw[<-hz]at a7 hx;have K:=aT D;have M:=aT F;have O:=aT I;have R:=aT hx;clear D F I S Y Z hx hy hz hp;go_enter func107,ntmps107
 cases t1:z != 0 with
 |false=>rw[t1]at R;exact ajT
 |true=>
  cases t2:z != a with
  |false=>rw[t1,t2]at R;exact ajT
  |true=>
   cases t3:z != b with
   |false=>exact ajP
   |true=>exact ajP
def uV(N:Nat)(l:List Int)(i q:Nat):Bool:=dP (fun k=>!XZ N (l.getD i 0) (l.getD k 0)) q
theorem YA{g:Int}{N:Nat}{l:aI}(z:cO g l=true)(D:g.toNat=N):rV g l=dP (fun i=>uV N l i i) l.length:=by
 unfold rV uV;rw[z,D];rfl
theorem SN(g:Int)(l:aI)(v:Value)(w:World)(hv:Ints w v l)(hf:cO g l=true):
  aH 226 #[aM #[g,v]] w (aG (rV g l)):=by
 have S:=hv;obtain⟨a,b,i8,c,rfl,g9,b6,hc,hb⟩:=hv.vw;have g7:=S.capLe;obtain⟨h0,h6,O,e8⟩:=fF hf;obtain⟨N,rfl⟩:=cN h0;have hN:N<=6:=aA;have Y:=YA hf (cA N);simp only[Int.toNat_natCast]at O;have K0:=bK.new w 29 #[(N:Int),aD a l c];have M:=eP (N:Int) l _ _ (S.alloc (.cells #[(N:Int),aD a l c] 29));rw[hf]at M;have HX:=aT Y;have HM:=aT O;have e0:=aT M;have HC:=aT hc;clear Y O e8 M hf hc;go_enter func226,ntmps226;go_wp2_with fail;refine aV e0.out ?_;intro w1 b1;have B1:Below w w w1:=(cQ _ _).after b1 bF;have K1:=K0.keep b1;have G:=K1.cell;clear K0 b1;go_wp2_with fail;clear G;go_loopw [13] (fun iv wr=>∃k:Nat,k<=l/\iv=aO k/\dP (fun i=>uV N l i i) k=true/\Below w1 w1 wr) (fun iv _=>l.length-(intOf iv).toNat)
 .exact⟨0,aZ _,rfl,rfl,bJ _ _⟩
 obtain⟨k,hk,rfl,F,Bw⟩:=hrel;obtain⟨wo,rfl⟩:∃z:World,z=wr:=⟨_,rfl⟩;have H:=aT F;have Z:=B1.after Bw B1.size;have K2:=K1.keep Bw;clear F;by_cases hlt:k<l
 .have c5:(k:Int)<(l.length:Int):=aA;have b8:=HM.out _ (aX hlt);have ck:=bY HC.out hb Z aU k hlt;have ik:=fun W=>b6 W k hlt;have g8:=QJ (S.below Z aU) prog 25 3 underlying25 b6 k hk;have G:=K2.cell;obtain⟨x,Y⟩:=aW (l[k]);have b0:l.getD k 0=x:=by rw[Y];exact cJ l k hlt
  rw[<-Y]at b8 ck;have a7:=aT b0;clear Y b0;go_wp2_with fail;clear G;go_loopw [23] (fun jv wr=>∃q:Nat,q<=k/\jv=aO q/\uV N l k q=true/\Below wo wo wr) (fun jv _=>k-(intOf jv).toNat)
  .exact⟨0,aA,rfl,rfl,bJ _ _⟩
  obtain⟨q,hq,rfl,b4,Bi⟩:=hrel;obtain⟨wi,rfl⟩:∃z:World,z=wr:=⟨_,rfl⟩;have HI:=aT b4;have B3:=Z.after Bi Z.size;have K3:=K2.keep Bi;clear b4;by_cases e9:q<k
  .have R:q<l:=aA;have c6:(q:Int)<(k:Int):=aA;have b9:=HM.out _ (aX R);have cq:=bY HC.out hb B3 aU q R;obtain⟨y,hy⟩:=aW (l[q]);have b3:l.getD q 0=y:=by rw[hy];exact cJ l q R
   rw[<-hy]at b9 cq;have K:=ae2 N x y wi hN b8 b9;have a8:=aT b3;have G:=K3.cell;obtain⟨z,hz⟩:=aW (XZ N x y);rw[<-hz]at K;have HZ:=aT hz;have a6:=aT K;clear hy b3 hz K
   cases z with
   |true=>
    have D:rV (N:Int) l=false:=by rw[HX.out];exact eT (p:=fun i=>uV N l i i) hlt (eT (p:=fun k'=>!XZ N (l.getD k 0) (l.getD k' 0)) e9 (by rw[a7.out,a8.out,<-HZ.out];rfl))
    have J:=aT D;clear D;go_wp2_with fail;refine aV a6.out ?_;intro w5 b5;go_wp2;go_ret;exact⟨cP J.out.symm,B3.after b5 B3.size⟩
   |false=>
    have I:uV N l k (q+1)=true:=fJ (p:=fun k'=>!XZ N (l.getD k 0) (l.getD k' 0)) HI.out (by rw[a7.out,a8.out,<-HZ.out];rfl);have e4:=aT I;clear I;go_wp2_with fail;refine aV a6.out ?_;intro w5 b5;go_wp2;go_roundw
    .exact⟨q+1,aA,cD,e4.out,Bi.after b5 Bi.size⟩
    exact aY
  .have c6:¬(q:Int)<(k:Int):=aA;have e7:k=q:=aA;have a9:dP (fun i=>uV N l i i) (k+1)=true:=fJ (p:=fun i=>uV N l i i) H.out (by have:=HI.out;rw[<-e7]at this;exact this);have d0:=aT a9;clear a9;go_wp2;go_roundw
   .exact⟨k+1,aA,cD,d0.out,Bw.after Bi Bw.size⟩
   exact aY
 .have c5:¬(k:Int)<(l.length:Int):=aA;have b7:l.length=k:=aA;have D:rV (N:Int) l=true:=by rw[HX.out,b7,H.out]
  have J:=aT D;clear D b7;go_wp2;go_ret;exact⟨cP J.out.symm,Z⟩
theorem SO(g:Int)(l:aI)(v:Value)(w:World)(hv:Ints w v l)(hf:cO g l=true):
  aH 59 #[aM #[g,v]] w (aG (rV g l)):=by
 have c6:=hv;obtain⟨a,b,h5,c,rfl,g2,b5,hc,hb⟩:=hv.vw;obtain⟨h0,h6,Y,e6⟩:=fF hf;obtain⟨N,rfl⟩:=cN h0;have hN:N<=6:=aA;have Z:=YA hf (cA N);simp only[Int.toNat_natCast]at Y;have K0:=bK.new w 29 #[(N:Int),aD a l c];have S:=fun W (h:Ints W (aD a l c) l)=>eA (N:Int) l _ W h;simp only[hf]at S;have HX:=aT Z;have HM:=aT Y;have a1:=aT S;have HC:=aT hc;have a8:=aT b5;clear Z Y e6 S hf hc b5;go_enter func59,ntmps59;go_wp2_with fail;go_loopw [3] (fun iv wr=>∃k:Nat,k<=l/\iv=aO k/\dP (fun i=>uV N l i i) k=true/\bK wr w 29 #[(N:Int),aD a l c]/\Below w w wr) (fun iv _=>l.length-(intOf iv).toNat)
 .exact⟨0,aZ _,rfl,rfl,K0,cQ _ _⟩
 obtain⟨k,hk,rfl,J,K1,B1⟩:=hrel;obtain⟨wo,rfl⟩:∃z:World,z=wr:=⟨_,rfl⟩;have H:=aT J;have G:=K1.cell;clear J K0;go_wp2_with fail;refine aV (a1.out wo (c6.below B1 aU)) ?_;intro w2 b2;have M:=B1.after b2 B1.size;have K2:=K1.keep b2;clear G K1 B1 b2;have G:=K2.cell;by_cases hlt:k<l
 .have b9:(k:Int)<(l.length:Int):=aA;have b7:=HM.out _ (aX hlt);have ik:=fun W=>a8.out W k hlt;have e4:=bY HC.out hb M aU k hlt;obtain⟨x,Z⟩:=aW (l[k]);have b0:l.getD k 0=x:=by rw[Z];exact cJ l k hlt
  rw[<-Z]at b7 e4;have a6:=aT b0;clear Z b0;go_wp2_with fail;go_loopw [4] (fun jv wr=>∃(q m:Nat),q<=k/\jv=aO q/\uV N l k q=true/\wr=w2.drewN m) (fun jv _=>k-(intOf jv).toNat)
  .exact⟨0,0,aA,rfl,rfl,rfl⟩
  obtain⟨q,m,hq,rfl,b4,rfl⟩:=hrel;have HI:=aT b4;clear b4;by_cases e7:q<k
  .have I:q<l:=aA;have c5:(q:Int)<(k:Int):=aA;have b8:=HM.out _ (aX I);have cq:=bY HC.out hb M aU q I;have iq:=fun W=>a8.out W q I;obtain⟨y,hy⟩:=aW (l[q]);have b1:l.getD q 0=y:=by rw[hy];exact cJ l q I
   rw[<-hy]at b8 cq;have R:=fun W=>ae3 N x y W hN b7 b8;have a7:=aT b1;obtain⟨z,hz⟩:=aW (XZ N x y);simp only[<-hz]at R;have HZ:=aT hz;have F:=aT R;clear hy b1 hz R
   cases z with
   |true=>
    have D:rV (N:Int) l=false:=by rw[HX.out];exact eT (p:=fun i=>uV N l i i) hlt (eT (p:=fun k'=>!XZ N (l.getD k 0) (l.getD k' 0)) e7 (by rw[a6.out,a7.out,<-HZ.out];rfl))
    have O:=aT D;clear D;go_wp2_with fail;go_quiet ((go_at_call 107;first|exact kH (F.out _)|exact lO (F.out _)));go_wp2;go_ret;exact⟨cP O.out.symm,(M.drewN' _).drewN' _⟩
   |false=>
    have K:uV N l k (q+1)=true:=fJ (p:=fun k'=>!XZ N (l.getD k 0) (l.getD k' 0)) HI.out (by rw[a6.out,a7.out,<-HZ.out];rfl);have d0:=aT K;clear K;go_wp2_with fail;go_quiet ((go_at_call 107;first|exact kH (F.out _)|exact lO (F.out _)));go_wp2;go_roundw
    .exact⟨q+1,m+nq,aA,cD,d0.out,bF⟩
    exact aY
  .have c5:¬(q:Int)<(k:Int):=aA;have e5:k=q:=aA;have a9:dP (fun i=>uV N l i i) (k+1)=true:=fJ (p:=fun i=>uV N l i i) H.out (by have:=HI.out;rw[<-e5]at this;exact this);have c9:=aT a9;clear a9;go_wp2;go_roundw
   .exact⟨k+1,aA,cD,c9.out,K2.drewN _,M.drewN' _⟩
   exact aY
 .have b9:¬(k:Int)<(l.length:Int):=aA;have b6:l.length=k:=aA;have D:rV (N:Int) l=true:=by rw[HX.out,b6,H.out]
  have O:=aT D;clear D b6;go_wp2_with fail;refine aV (a1.out w2 (c6.below M aU)) ?_;intro w3 b3;go_wp2;go_ret;exact⟨cP O.out.symm,M.after b3 M.size⟩
theorem al6(g:Int)(v:Value)(l:aI)(hv:Ints w v l)(hl:l.length<=1048576):
  Calls prog 309 #[aM #[g,v]] w fun e w'=>∃ad i I,e=aQ (aS #[aM #[(shN g l),aD ad i I],aG (cO g l)])/\cY 3 w.heap.size w' (aD ad i I) (MB g l)/\Below w w w':=by
 obtain⟨a,b,o5,c,rfl,l5,n1,hc,hb⟩:=hv.vw;go_enter func309,ntmps309;go_wp2_with fail;refine cZ ?_;intro V hV;have B:Below w w V:=iJ hV;have K1:bK V w 29 #[g,aD a l c]:=iQ hV;have F:bK V (w+1) 29 #[aK,()]:=jL hV;clear hV;refine aV (eP g l _ _ (hv.below B aU)) ?_;intro w1 M;have K1:=K1.keep M;have F:=F.keep M;have B1:=B.after M B.size;have o1:=hv.below B1 aU;clear B M;have G1:=K1.cell;have z1:=K1.lt;have z2:=F.lt
 cases O:cO g l with
 |false=>
  have hN:shN g l=0:=by unfold shN;rw[O];rfl
  have hL:MB g l=[]:=by unfold MB;rw[O];rfl
  have HN:=aT hN;have HL:=aT hL;have HF:=aT O;have G2:=F.cell;have F2:=F.frozen;clear hN hL;go_wp2;refine cT ?_;intro Wf z;have b0:bK Wf (w+1) 29 #[aK,()]:=by rw[z];have:=(F.set 0 (aO 0)).set 1 (aD none 0 0);simpa using this
  have Bf:Below w w Wf:=by rw[z];exact bX (bX B1 cK _) cK _
  have Gf:=b0.cell;clear z G1 G2 F2;exact bW (v:=aS #[aM #[aK,()],aG false]) (by simp[results,results309,go_sem,Gf]) rfl ⟨none,0,0,by rw[HN.out,HF.out],by rw[HL.out];exact cY.nil _ _ _,Bf⟩
 |true=>
  obtain⟨h0,h6,hm⟩:=sZ O;have l4:=KT O;have hN:shN g l=g:=by unfold shN;rw[O];rfl
  have hL:MB g l=fU (nS l):=by unfold MB;rw[O];rfl
  have HN:=aT hN;have HL:=aT hL;have HF:=aT O;have HM:=aT hm;clear hN hL O hm;go_wp2_with fail;go_loopw [4,16] (fun out i wr=>∃(k:Nat) (ad:Option Addr) (Y I:Nat),k<=l.length/\out=aD ad Y I/\i=aO k/\bB 3 w1 wr (aD ad Y I) (nS (l.take k))/\Below w1 w1 wr)
   (fun _ i _=>l.length-(intOf i).toNat)
  .exact⟨0,none,0,0,aZ _,rfl,rfl,bB.nil _ _ _,bJ _ _⟩
  obtain⟨k,ad,Y,I,hk,rfl,rfl,ho,B⟩:=hrel;obtain⟨wo,rfl⟩:∃wo:World,wo=wr:=⟨_,rfl⟩;have HO:=aT ho;clear ho;by_cases hlt:k<l.length
  .have j9:=bY hc hb (B1.after B B1.size) aU k hlt;have R:=HM.out k hlt;have S:=agI l k hlt;have k3:(nS (l.take k)).length<=6*64:=by have:=ME (l.take k);simp at this;omega
   obtain⟨t,ht⟩:=aW (l[k]);rw[<-ht]at j9 R S;obtain⟨A,hA⟩:=aW (nS (l.take k));rw[<-hA]at HO k3 S;have j0:=aT S;have b5:=R.1;have f3:=R.2;clear ht hA S R;have yo:=B.size;go_wp2_with fail;refine(nJ t _ b5 f3).mono ?_;rintro e w4 ⟨p4,i4,q4,rfl,o4,b3⟩;have f0:i4=(iP t).length:=o4.ints.capLe.1;have e4:cB (aD ad Y I) (aD p4 i4 q4):=cB.of_lt HO.out.toW o4.toW aU;have e8:=xQ t;have J:=SR t;have a6:H8 t=(iP t).map (oK t):=rfl;have Z:=aT a6;clear a6;obtain⟨E,hE⟩:=aW (iP t);rw[<-hE]at Z o4 f0 e8 J;subst f0;have h7:=aT J;have AP:=aT e4;clear hE J e4;obtain⟨a4,j6⟩:=aW p4;obtain⟨c4,j8⟩:=aW q4;subst j6 j8;have y4:=b3.size;have i6:=aT (HO.out.keep b3);have B4:=B.after b3 B.size;go_wp2_with fail;go_loopw [4,23] (fun out i wi=>∃(j:Nat) (ad:Option Addr) (Y I:Nat),j<=E/\out=aD ad Y I/\i=aO j/\bB 3 w1 wi (aD ad Y I) (A++(E.take j).map (oK t))/\bB 3 wo wi (aD a4 E c4) E/\cB (aD ad Y I) (aD a4 E c4)/\Below w1 w1 wi)
    (fun _ i _=>E.length-(intOf i).toNat)
   .exact⟨0,_,_,_,aZ _,rfl,rfl,by simpa using i6.out,o4,AP.out,B4⟩
   obtain⟨j,j2,k8,j4,hj,rfl,rfl,f2,oE,ap,Bi⟩:=hrel;obtain⟨wi,rfl⟩:∃wi:World,wi=wr:=⟨_,rfl⟩;have a9:=aT f2;have c6:=aT ap;clear f2 ap;have yi:=Bi.size;by_cases b4:j<E
   .obtain⟨a5,bj,l8,c5,e7,k2,l3,e5,_⟩:=oE.ints.vw;simp only[Value.slice.injEq,true_and]at e7;obtain⟨rfl,rfl⟩:=e7;have K:=h7.out _ (aX b4);have e6:=e5 j b4;obtain⟨e,he⟩:∃e:Nat,E[j]=(e:Int):=⟨E[j].toNat,aA⟩;rw[he]at e6 K;have D:A++(E.take (j+1)).map (oK t)=(A++(E.take j).map (oK t))++[oK t e]:=by rw[cH b4,List.map_append,List.map_cons,List.map_nil,he,eY]
    have hp:=ad2 e K;have b6:(2:Int)^(e:Int).toNat=2^e:=bF;rw[b6]at hp;have k5:bits .andNot .i64 t (2^e)=oK t e:=by unfold oK;rw[b6];exact nR b5 aA aA aA
    have j7:=aiT t e ⟨b5,f3⟩;obtain⟨y,hy⟩:=aW (oK t e);rw[<-hy]at k5 j7 D;have i8:=aT D;have c7:=aT oE;have n2:=hp.1;have n3:=hp.2;have n0:e<6:=aA;have b1:(A++(E.take j).map (oK t)).length<=400:=bO;clear e5 D hy b6 he K hp oE;go_wp2_with (at_builtin;refine kX rfl _ _ _ rfl 3 underlying25 intElem w1.heap.size _ _ y wi.heap.size rfl rfl (cR wi #[y] 3 0 _ rfl) (a9.out.alloc _) ⟨aA,aA⟩ aA bO ?_;intro v' w6 a7 e9 k4;obtain⟨av,nv,cv,rfl⟩:=a7.shape3);have B6:Below w1 w1 w6:=(Bi.alloc Bi.size (.cells #[y] 3)).grown e9 bO (fun q hq=>(a9.out.lt q hq).1);have l0:=((c7.out.alloc (.cells #[y] 3)).growA e9 c6.out);have j3:=k4.apart c6.out (fun k hk=>by have:=(c7.out.lt k hk).2;simp;omega);go_roundw
    .exact⟨j+1,av,nv,cv,aA,rfl,cD,by rw[i8.out];exact a7,l0,j3,B6⟩
    exact aY
   .have b1:A++(E.take j).map (oK t)=nS (l.take (k+1)):=by rw[List.take_of_length_le aA,j0.out,Z.out]
    have h5:=aT b1;clear b1;go_wp2;go_roundw
    .exact⟨k+1,j2,k8,j4,aA,rfl,cD,by rw[<-h5.out];exact a9.out,Bi⟩
    exact aY
  .have k1:k=l.length:=aA;subst k1;have a1:nS (l.take l.length)=nS l:=by rw[List.take_length]
   have hO:bB 3 w1 wo (aD ad Y I) (nS l):=by rw[<-a1];exact HO.out
   have k6:=ME l;obtain⟨A,hA⟩:=aW (nS l);rw[<-hA]at hO k6;have HO:=aT hO;have HA:=aT hA;have j1:=K1.keep B;have c9:=F.keep B;have BB:=B1.after B B1.size;clear a1 hO hA G1;have G1:=j1.cell;have yB:=BB.size;go_wp2_with fail;refine(CJ g _ _ _ HO.out.ints aA).mono ?_;rintro e w7 ⟨p7,i7,q7,rfl,o7,N⟩;have F:=c9.keep N;have B7:=BB.after N BB.size;have G2:=F.cell;have F2:=F.frozen;have o8:=F.lt;have z7:=N.size;clear G1 N;go_wp2;refine cT ?_;intro Wf z;have b0:bK Wf (w+1) 29 #[g,aD p7 i7 q7]:=by rw[z];have:=(F.set 0 (aO g)).set 1 (aD p7 i7 q7);simpa using this
   have zo:=c9.lt;have Bf:Below w w Wf:=by rw[z];exact bX (bX B7 cK _) cK _
   have of:cY 3 w.heap.size Wf (aD p7 i7 q7) (fU A):=by rw[z];exact((o7.setBelow cK _).setBelow cK _).mono cK
   have Gf:=b0.cell;clear z G2 F2;exact bW (v:=aS #[aM #[g,aD p7 i7 q7],aG true]) (by simp[results,results309,go_sem,Gf]) rfl ⟨p7,i7,q7,by rw[HN.out,HF.out],by rw[HL.out,<-HA.out];exact of,Bf⟩
theorem ab0(b:Nat)(g:Int)(l:aI)(v:Value)(s:Int)(F:Ints w v l)(z:l.Pairwise (· < ·))(hl:l.length<=1048576)
  (c0:w.cell? ⟨b,0,none⟩=some (aO g)) (c1:w.cell? ⟨b,1,none⟩=some v):
  aH 311 #[s,aP (some ⟨b,0,none⟩)] w (aG (!jI l s)):=by
 obtain⟨a,c,rfl⟩:=F.shape;have hcl:=CK g l _ s w F z hl
 cases D:jI l s with
 |false=>rw[D]at hcl;go_enter func311,ntmps311;go_wp2_with (go_at_call 295;refine aV hcl ?_;intro w' hb);go_ret;exact⟨rfl,hb⟩
 |true=>rw[D]at hcl;go_enter func311,ntmps311;go_wp2_with (go_at_call 295;refine aV hcl ?_;intro w' hb);go_ret;exact⟨rfl,hb⟩
theorem KP:∀args w,(callFunc 311 args).run prog w=.ok (.enter 311 args) w:=enters_of func311 bM rfl
theorem ab9(g:Int)(l:aI)(v:Value)(w:World)(hv:Ints w v l)(hl:l.length<=1048576):
  aH 229 #[aM #[g,v]] w (aG (tO g l)):=by
 obtain⟨a,c,rfl⟩:=hv.shape;have c7:∀(fn:Fn) (first cap:Array Value) (w:World),(Instr.makeFunc fn first cap).run prog w=.ok (.func fn first cap) w:=fun _ _ _ _=>rfl;go_enter func229,ntmps229;go_wp2_with fail;refine cZ ?_;intro V hV;have B:Below w w V:=jP hV;have O:bK V w 29 #[g,aD a l c]:=by rw[hV];exact(bK.new _ _ _)
 clear hV;refine(al6 _ g _ l (hv.below B aU) hl).mono ?_;rintro e w1 ⟨p1,K,M,rfl,o1,F⟩;have O:=O.keep F;have B1:=B.after F B.size;have a9:=hv.below B1 aU;have hd:=aqK g l;have y1:=B1.size;clear F B
 cases R:cO g l with
 |false=>
  have hx:tO g l=false:=by rw[<-hd,R];rfl
  have HX:=aT hx;clear hx hd;go_wp2;go_ret;exact⟨by rw[HX.out];rfl,rB⟩
 |true=>
  rw[R,Bool.true_and]at hd;have z:=(fF R).2.2.2;have a7:=arU g l;obtain⟨N,hN⟩:=aW (shN g l);obtain⟨L,hL⟩:=aW (MB g l);rw[<-hN];rw[<-hL]at o1 hd a7;have I:∀W,Ints W (aD p1 K M) L->Ints W (aD a l c) l->W.cell? ⟨w,0,none⟩=some (aO g)->W.cell? ⟨w,1,none⟩=some (aD a l c) ->
    Calls prog 310 #[aD p1 K M,.func (.func 311) #[] #[aP (some ⟨w,0,none⟩)]] W fun e w'=>e=aQ (aG (L.any fun s=>!jI l s))/\Below W W w':=
   fun W hW a6 h0 h1=>CZ L _ W hW 311 KP w.heap.size (fun s=>!jI l s) (fun t W' _ hB=>ab0 W' w.heap.size g l _ t (a6.keep hB) z hl (keep hB h0) (keep hB h1))
  obtain⟨bb,J⟩:=aW (L.any fun s=>!jI l s);rw[<-J]at hd I;have HD:=aT hd;have S:=aT I;have z1:=O.lt;have D:=O.alloc (.cells #[N,aD p1 K M] 29);have g0:(w1.alloc (.cells #[N,aD p1 K M] 29)).cell? ⟨w,0,none⟩=some (aO g):=D.cell 0;have g1:(w1.alloc (.cells #[N,aD p1 K M] 29)).cell? ⟨w,1,none⟩=some (aD a l c):=D.cell 1;have Y:=aT g0;have Z:=aT g1;clear hd I J hL hN R z D g0 g1;go_wp2_with (go_at_call 310;refine aV (S.out _ (o1.alloc _).ints (a9.alloc _) Y.out Z.out) ?_;intro w3 c6);go_ret;exact⟨cP HD.out,rB⟩
theorem PY(P:Nat->Bool)(n:Nat)(x:Int):x∈dE P n↔∃e:Nat,e<n/\P e=true/\x=(e:Int):=by
 unfold dE;simp only[List.mem_map,List.mem_filter,List.mem_range];constructor
 .rintro⟨e,⟨h1,h2⟩,rfl⟩;exact⟨e,h1,h2,rfl⟩
 .rintro⟨e,h1,h2,rfl⟩;exact⟨e,⟨h1,h2⟩,rfl⟩
theorem ae4(s n:Nat)(I:n<=6)(F:s<2^n):pY l (s:Int)=true↔∀e,e<n->eI s e=true->jI l ((s:Int)-2^e)=true:=by
 have D:iP (s:Int)=dE (eI s) n:=by unfold iP;rw[show((s:Int)).toNat=s from aA];exact vW s 6 n (dX F (bQ bZ I)) F
 unfold pY;rw[D,List.all_eq_true];constructor
 .intro h e z hb;have:=h (e:Int) ((PY _ _ _).2 ⟨e,z,hb,rfl⟩);simpa using this
 .intro h x J;obtain⟨e,z,hb,rfl⟩:=(PY _ _ _).1 J;have:=h e z hb;simpa using this
theorem acA(g:Int)(l:aI)(v:Value)(w:World)(hv:Ints w v l)(hl:l.length<=1048576):
  aH 62 #[aM #[g,v]] w (aG (tO g l)):=by
 have N:=hv;obtain⟨a,b,i6,c,rfl,f8,f0,hc,hb⟩:=hv.vw;have K0:=bK.new w 29 #[g,aD a l c]
 cases R:cO g l with
 |false=>
  have hx:tO g l=false:=by unfold tO;rw[R];rfl
  have HX:=aT hx;have HF:=aT R;clear hx R;go_enter func62,ntmps62;go_wp2_with fail;go_loopw [3] (fun i wr=>i=aO 0/\Below w w wr/\bK wr w 29 #[g,aD a l c]) (fun _ _=>0)
  .exact⟨rfl,cQ _ _,K0⟩
  obtain⟨rfl,B,J⟩:=hrel;have Y:=J.cell;go_wp2_with fail;refine aV (eA g l _ _ (N.below B aU)) ?_;intro w2 F;rw[HF.out];have J:=J.keep F;have O:=B.after F B.size;clear Y;have Y:=J.cell;go_wp2_with fail;refine aV (eA g l _ _ (N.below O aU)) ?_;intro w3 a9;rw[HF.out];go_wp2;go_ret;exact⟨cP HX.out.symm,O.after a9 O.size⟩
 |true=>
  have hx:tO g l=l.all (pY l):=by unfold tO;rw[R];rfl
  obtain⟨h0,h6,hm⟩:=sZ R;obtain⟨_,_,c7,_⟩:=fF R;obtain⟨n,rfl⟩:=cN h0;have f3:n<=6:=aA;have f7:=KT R;have HX:=aT hx;have HF:=aT R;have HM:=aT hm;have e7:=aT c7;clear hx R hm c7;go_enter func62,ntmps62;go_wp2_with fail;go_loopw [3] (fun i wr=>∃k:Nat,k<=l/\i=aO k/\(l.take k).all (pY l)=true/\Below w w wr/\bK wr w 29 #[n,aD a l c]) (fun i _=>l.length-(intOf i).toNat)
  .exact⟨0,aZ _,rfl,bF,cQ _ _,K0⟩
  obtain⟨k,hk,rfl,a1,B,J⟩:=hrel;obtain⟨wo,rfl⟩:∃wo:World,wo=wr:=⟨_,rfl⟩;have Z:=aT a1;clear a1 K0;have Y:=J.cell;go_wp2_with fail;refine aV (eA n l _ _ (N.below B aU)) ?_;intro w2 F;rw[HF.out];have J:=J.keep F;have O:=B.after F B.size;clear Y F B;by_cases hlt:k<l
  .have b1:=HM.out k hlt
   have D:=e7.out _ (aX hlt);have b3:=lG (pY l) l k hlt;obtain⟨t,ht⟩:∃t:Nat,l[k]=(t:Int):=⟨l[k].toNat,aA⟩;have c8:t<2^n:=by
    rw[ht]at D;have e2:(n:Int).toNat=n:=aA;rw[e2]at D
    exact_mod_cast D.2
   have c6:=ae4 l t n f3 c8;have z:=fun W (hB:Below w w W)=>bY hc hb hB aU k hlt;rw[ht]at b3 b1;simp only[ht]at z;have b5:=aT c6;have e8:=aT b3;have HC:=aT z;have h9:=b1.2;have HT:=aT ht;clear b3 c6 D z ht b1 c8;have f6:=fun W=>f0 W k hlt;have Y:=J.cell;go_wp2_with fail;go_loopw [4] (fun i wr=>∃e:Nat,e<=n/\i=aO e/\(∀d,d<e->eI t d=true->jI l ((t:Int)-2^d)=true)/\Below w w wr/\bK wr w 29 #[n,aD a l c]) (fun i _=>n-(intOf i).toNat)
   .exact⟨0,aZ _,rfl,bF,O,J⟩
   obtain⟨j,hj,rfl,c5,Bi,Ki⟩:=hrel;obtain⟨wi,rfl⟩:∃wi:World,wi=wr:=⟨_,rfl⟩;have a8:=aT c5;clear c5 Y J O;have Y:=Ki.cell;have g9:=HC.out wi Bi;have S:=N.below Bi aU;by_cases f2:j<n
   .have b9:=lL (t:Int) j aA aA;have M:=rP t j;obtain⟨y,hy⟩:=aW (fE (t:Int) j);rw[<-hy]at b9 M;have hp:=ad2 (j:Int) aA;have c9:(2:Int)^(j:Int).toNat=2^j:=bF;rw[c9]at hp;have h7:=hp.1;have h8:=hp.2;clear hp c9 hy;have h5:j<6:=aA
    cases I:eI t j with
    |false=>
     have f4:(y==1)=false:=by rw[M,I]
     have a7:=aT I;clear I M;go_wp2_with fail;go_quiet (fail);go_wp2;go_roundw
     case rel=>exact⟨j+1,aA,cD,fun d hd K=>by
       by_cases h:d<j
       .exact a8.out d h K
       .have:d=j:=aA
        subst this;rw[a7.out]at K;exact Bool.noConfusion K,Bi.drewN' _,Ki.drewN _⟩
     case measure=>exact aY
    |true=>
     have f4:(y==1)=true:=by rw[M,I]
     have a7:=aT I;clear I M;have i1:IntKind.i64.wrap ((t:Int)-2^j)=(t:Int)-2^j:=dV
     cases hh:jI l ((t:Int)-2^j) with
     |false=>
      go_wp2_with fail;go_quiet ((go_at_call 110;first|exact tE (rX l _ _ _ (S.drewN _)) hh|exact vM (rX l _ _ _ (S.drewN _)) hh));go_wp2;go_ret;refine⟨cP ?_,Bi.drewN' _⟩;rw[HX.out];have:pY l l[k]=false:=by
       rw[HT.out]
       cases hd:pY l (t:Int) with
       |false=>rfl
       |true=>have:=b5.out.1 hd j f2 a7.out;rw[hh]at this;cases this
      exact(lW _ _ _ hlt this).symm
     |true=>
      have HH:=aT hh;go_wp2_with fail;go_quiet ((go_at_call 110;first|exact tE (rX l _ _ _ (S.drewN _)) hh|exact vM (rX l _ _ _ (S.drewN _)) hh));clear hh;go_wp2;go_roundw
      case rel=>exact⟨j+1,aA,cD,fun d hd K=>by
        by_cases h:d<j
        .exact a8.out d h K
        .have:d=j:=aA
         subst this;exact HH.out,Bi.drewN' _,Ki.drewN _⟩
      case measure=>exact aY
   .have a6:pY l (t:Int)=true:=b5.out.2 (fun e he hb=>a8.out e aA hb);have b7:=aT a6;clear a6;go_wp2;go_roundw
    .exact⟨k+1,aA,cD,by rw[e8.out,Z.out,b7.out];rfl,Bi,Ki⟩
    exact aY
  .have b8:l.all (pY l)=true:=by rw[<-nD (pY l) l k aA,Z.out]
   have e6:=aT b8;clear b8;have Y:=J.cell;go_wp2_with fail;refine aV (eA n l _ _ (N.below O aU)) ?_;intro w3 a9;rw[HF.out];go_wp2;go_ret;exact⟨cP (by rw[HX.out,e6.out]),O.after a9 O.size⟩
theorem ZC(g:Int)(v:Value)(l:aI)(hv:Ints w v l)(hf:cO g l=true):
  Calls prog 230 #[aM #[g,v]] w fun r w'=>r=aQ (aG (BT g l))/\Below w w w':=by
 have e0:=hv;obtain⟨p,bb,i1,c,rfl,c9,c8,hc,hb⟩:=hv.vw;have hm:=fS hf;have hl:=kZ hf;have S:=(fF hf).2.2.2;obtain⟨V,hV⟩:=aW (w.alloc (.cells #[g,aD p l c] 29));have B:Below w w V:=jP hV;have K1:bK V w 29 #[g,aD p l c]:=jV hV;have c7:∀W,W=V->Calls prog 146 #[aM #[g,aD p l c]] W fun e w'=>e=aQ (aG true)/\Below W W w':=fun W h=>by rw[h];have:=eP g l _ V (e0.below B aU);rw[hf]at this;exact this
 have hex:=fun(W:World) (h:Ints W (aD p l c) l) (a b:Int) (ha:0<=a/\a<64) (hb:0<=b/\b<64)=>ST W g _ l h S aA a b ha hb;have hx:BT g l=(!l.isEmpty&&l.all fun a=>l.all (sH l a)):=by unfold BT;rw[hf,Bool.true_and]
 have HV:=aT hV;have f3:=aT c7;have f0:=aT hex;have HX:=aT hx;have HM:=aT hm;have HC:=aT hc;have b4:=aT c8;clear hV c7 hex hx hm hf S hc c8 c9;go_enter func230,ntmps230;go_wp2_with fail;refine aV (f3.out _ HV.out.symm) ?_;intro w1 b1;rw[HV.out.symm]at b1;have B1:=B.after b1 B.size;have b8:=K1.keep b1;have G:=b8.cell;by_cases h0:l.length=0
 .have g0:((l.length:Int)==0)=true:=by rw[beq_iff_eq];omega
  have M:BT g l=false:=by rw[HX.out,eS h0];rfl
  have N:=aT M;clear M;go_wp2;go_ret;exact⟨cP N.out.symm,B1⟩
 .have g0:((l.length:Int)==0)=false:=by rw[dZ];omega
  have M:BT g l=l.all fun a=>l.all (sH l a):=by
   rw[HX.out];have:l.isEmpty=false:=by cases l with|nil=>simp at h0|cons _ _=>rfl
   rw[this];rfl
  have N:=aT M;clear M;go_wp2_with fail;clear G;go_loopw [19] (fun iv wr=>∃j:Nat,j<=l/\iv=aO j/\(l.take j).all (fun a=>l.all (sH l a))=true/\Below w1 w1 wr) (fun iv _=>l.length-(intOf iv).toNat)
  .exact⟨0,aZ _,rfl,bF,bJ _ _⟩
  obtain⟨j,hj,rfl,D,Bw⟩:=hrel;have R:=aT D;clear D;have B2:=B1.after Bw B1.size;have b9:=b8.keep Bw;have z3:=Bw.size;by_cases hlt:j<l
  .have Y:(j:Int)<(l.length:Int):=aA;have ck:=bY HC.out hb B2 aU j hlt;have ik:=fun W=>b4.out W j hlt;have ha:=HM.out _ (aX hlt);have F:(l.take (j+1)).all (fun a=>l.all (sH l a))=l.all (sH l l[j]):=by rw[cH hlt,List.all_append,R.out];simp
   obtain⟨a,a1⟩:=aW (l[j]);rw[<-a1]at ck ha F;have Z:a∈l:=by rw[a1];exact aX hlt
   have b6:=aT Z;have f6:=aT F;clear F a1 Z;have G:=b9.cell;go_wp2_with fail;clear G;go_loopw [26] (fun iv wq=>∃k:Nat,k<=l/\iv=aO k/\(l.take k).all (sH l a)=true/\Below wr wr wq) (fun iv _=>l.length-(intOf iv).toNat)
   .exact⟨0,aZ _,rfl,bF,bJ _ _⟩
   obtain⟨k,hk,rfl,D,Bq⟩:=hrel;have I:=aT D;clear D ck ik Y;have b0:=Bw.after Bq z3;have B3:=B1.after b0 B1.size;have f7:=b9.keep Bq;by_cases J:k<l
   .have d0:(k:Int)<(l.length:Int):=aA;have ck:=bY HC.out hb B3 aU k J;have ik:=fun W=>b4.out W k J;have c5:=HM.out _ (aX J);have F:=show(l.take (k+1)).all (sH l a)=sH l a l[k] by rw[cH J,List.all_append,I.out];simp
    obtain⟨b,a6⟩:=aW (l[k]);rw[<-a6]at ck c5 F;have K:b∈l:=by rw[a6];exact aX J
    have hcl:=f0.out wr (e0.below B3 aU) a b ha c5;obtain⟨z,hz⟩:=aW (sH l a b);rw[<-hz]at hcl F;have b3:=aT hcl;have b7:=aT F;have HZ:=aT hz;have f5:=aT K;clear hcl F hz K a6;have G:=f7.cell
    cases z with
    |true=>
     go_wp2_with fail;refine aV b3.out ?_;intro w5 b5;go_wp2;go_roundw
     .exact⟨k+1,aA,cD,by rw[b7.out],Bq.after b5 Bq.size⟩
     exact aY
    |false=>
     have c6:BT g l=false:=by
      rw[N.out]
      cases O:(l.all fun a=>l.all (sH l a)) with
      |false=>rfl
      |true=>
       have h1:=List.all_eq_true.1 O _ b6.out;have h2:=List.all_eq_true.1 h1 _ f5.out;rw[<-HZ.out]at h2
       cases h2
     have f2:=aT c6;clear c6;go_wp2_with fail;refine aV b3.out ?_;intro w5 b5;go_wp2;go_ret;exact⟨cP f2.out.symm,B3.after b5 B3.size⟩
   .have d0:¬(k:Int)<(l.length:Int):=aA;have O:=I.out;rw[List.take_of_length_le aA]at O;have HH:=aT O;clear O;go_wp2;go_roundw
    .exact⟨j+1,aA,cD,by rw[f6.out,HH.out],b0⟩
    exact aY
  .have Y:¬(j:Int)<(l.length:Int):=aA;have O:=R.out;rw[List.take_of_length_le aA]at O;have HH:=aT O;clear O;go_wp2;go_ret;exact⟨cP (by rw[N.out,HH.out]),B2⟩
theorem ahH(D:List aB)(t:TypeId):∀(j:Nat) z,D[j]?=some z->(w.alloc (.cells (D.map Value.string).toArray t)).cell? ⟨w,0+j,none⟩=some (aR z):=by
 intro j z F;refine cR w _ t (0+j) _ ?_;simp[F]
theorem ah3(g:Int)(v:Value)(l:aI)(hv:Ints w v l)(hl:l.length<=1048576)(hp:lA w):
  aH 147 #[aM #[g,v]] w (aR (BN g l)):=by
 have z:=hv;obtain⟨a,c,rfl⟩:=hv.shape;have K0:=bK.new w 29 #[g,aD a l c]
 cases I:cO g l with
 |false=>have HX:=aT (SW I);have HF:=aT I;clear I;go_enter func147,ntmps147;go_wp2_with fail;refine aV (eP g l _ _ (z.alloc _)) ?_;intro w1 b1;rw[HF.out];go_wp2;go_ret;exact⟨dA HX.out.symm,(cQ _ _).after b1 bF⟩
 |true=>
  obtain⟨TT,h0⟩:=aW (BN g l);have y1:TT.size<=20700:=by rw[h0,IK I];exact YS g l
  have hx:dL fY (fmL g l)=TT:=by rw[h0,IK I];exact auJ g l
  unfold fmL QE FR at hx;have hdb:=SP g l;have hgl:=(OY g l).1;have hyb:=TA g l;have hcb:=XT g l;obtain⟨N,hN⟩:∃N:Nat,g=(N:Int):=cN (fF I).1;have s6:∀(W:World),Ints W (aD a l c) l->Calls prog 223 #[aM #[g,aD a l c]] W fun e w'=>∃ad i c,e=aQ (aD ad i c)/\Ints w' (aD ad i c) (sE g l)/\Below W W w':=by intro W h;subst hN;exact ab7 W N _ l h I
  have b3:=fun(W:World) (h:Ints W (aD a l c) l)=>PU W g _ l h hl;have s4:=fun(W:World) (h:Ints W (aD a l c) l)=>WI g l _ W h I;have s5:=fun(W:World) (h:Ints W (aD a l c) l)=>anB W g _ l h I;have s7:=fun(W:World) (h:Ints W (aD a l c) l)=>aoE g l _ W h I;have s3:=fun(W:World) (h:Ints W (aD a l c) l)=>SN g l _ W h I;have s1:=fun(W:World) (h:Ints W (aD a l c) l)=>ZC W g _ l h I;simp only[I]at b3;obtain⟨M,hM⟩:=aW (kM g l);simp only[<-hM]at b3 hx;obtain⟨L,hL⟩:=aW (nT g l);simp only[<-hL]at b3 hx;have u6:=aT b3;have u8:=aT s4;have u9:=aT s5;have v8:=aT s7;have u7:=aT s3;have u5:=aT s1;have v7:=aT s6;have v9:=aT h0;have HX:=aT hx;have HF:=aT I;clear hx I b3 s4 s5 s7 s3 s1 s6 h0 hM hL hN;go_enter func147,ntmps147;go_wp2_with fail;refine aV (eP g l _ _ (z.alloc _)) ?_;intro w1 b1;rw[HF.out];have B1:Below w w w1:=(cQ _ _).after b1 bF;have K1:=K0.keep b1;clear K0 b1;have G:=K1.cell;go_wp2_with fail;refine(u6.out _ (z.below B1 aU)).mono ?_;rintro e w2 ⟨pB,iB,qB,rfl,oB,b2⟩;have x9:iB=L.length:=oB.ints.capLe.1;subst x9;have B2:=B1.after b2 B1.size;have F:=K1.keep b2;clear G B1 K1 b2;have KB:=bK.new w2 29 #[M,aD pB L qB];have hB:=oB.ints.alloc (.cells #[M,aD pB L qB] 29);have c6:=B2.alloc B2.size (.cells #[M,aD pB L qB] 29);have k1:=F.alloc (.cells #[M,aD pB L qB] 29);have G:=k1.cell;go_wp2_with fail;refine aV (u8.out _ (z.below c6 aU)) ?_;intro w4 b4;have B4:=c6.after b4 c6.size;have o9:=k1.keep b4;have KB:=KB.keep b4;have hB:=hB.keep b4;clear G B2 c6 F k1 b4;have F:=o9;clear o9;have hA:=z.below B4 aU;obtain⟨gB,l5⟩:=aW w2.heap.size;obtain⟨D,a9⟩:=aW w4.heap.size;rw[<-l5]at KB;have zb:w.heap.size<D:=by rw[a9];exact F.lt
  have zB:gB<D:=by rw[a9];exact KB.lt
  have zc:w4.heap.size<=D:=aA;have L5:kE D (w4.alloc (.cells #[()] 143)) []:=by rw[a9];exact kE.new w4
  have B5:=B4.alloc B4.size (.cells #[()] 143);have C5:Below D w4 (w4.alloc (.cells #[()] 143)):=by rw[a9];exact cQ w4 _
  go_wp2_with fail;rw[<-a9,<-l5];clear a9 l5;obtain⟨V,hV⟩:=aW (w4.alloc (.cells #[()] 143));rw[<-hV]at L5 B5 C5 |-;clear hV;have e4:=dN KB C5 zB;have e5:=dN F C5 zb;have r9:=(hB.below C5 zc).drewN 1;have s0:=(hA.below C5 zc).drewN 1;have l6:=(hp.keep B5).keep ((bJ V.heap.size V).drewN' 1);have LV:=L5.keep ((bJ V.heap.size V).drewN' 1);have s9:=L5.lt;have zBV:=e4.lt;have zCV:=e5.lt;have bV:Below V V (V.drewN 1):=(bJ V.heap.size V).drewN' 1;have GB:=e4.cell;have GC:=e5.cell;have j9:=aT (lU g l _ _ s0 l6);have k0:=aT (fun(W:World) (h:Below (V.drewN 1).heap.size (V.drewN 1) W)=>lU M L _ W (r9.keep h) (l6.keep h));have j8:=aT (fun(W:World) (h:Below (V.drewN 1).heap.size (V.drewN 1) W)=>fH D [] [(⟨#[102,97,109,105,108,121]⟩:aB),eG g l,(⟨#[98,108,111,99,107,101,114]⟩:aB),eG M L] W.heap.size 4 4 _ ((LV.keep h).keep (cQ W (.cells #[aR (⟨#[102,97,109,105,108,121]⟩:aB),aR (eG g l),aR (⟨#[98,108,111,99,107,101,114]⟩:aB),aR (eG M L)] 9))) rfl (ahH W [(⟨#[102,97,109,105,108,121]⟩:aB),eG g l,(⟨#[98,108,111,99,107,101,114]⟩:aB),eG M L] _) bF);obtain⟨F1,g8⟩:=aW (eG g l);obtain⟨F2,g9⟩:=aW (eG M L);simp only[<-g8]at j9;simp only[<-g9]at k0;simp only[<-g8,<-g9]at j8;have l7:=HX.out;rw[<-g8,<-g9]at l7;have HX:=aT l7;clear l7 g8 g9;go_region_held3 (fun w'=>(∀i,w'.cell? ⟨w,i,none⟩=(#[aO g,aD a l c]:Array Value)[i]?)/\(∀i,w'.cell? ⟨gB,i,none⟩=(#[aO M,aD pB L qB]:Array Value)[i]?)) (go_keep)
   (first
    |(go_at_call_of 196 (Value.slice a l.length c);refine aV j9.out ?_;intro wa ba;obtain⟨x4,x6⟩:=jN ba V.heap.size cK;have za:=ba.size;(try simp at za))
    |(go_at_call_of 196 (Value.slice pB L.length qB);refine aV (k0.out wa ba) ?_;intro wb bb;have bb:=ba.after bb ba.size;have w9:=fun o=>(((e4.drewN 1).keep bb).alloc o).cell;have x0:=fun o=>(((e5.drewN 1).keep bb).alloc o).cell;obtain⟨s2,x7⟩:=jN bb V.heap.size cK;have y3:=bb.size;(try simp at y3))
    |(go_at_call 177;refine aV (j8.out wb bb) ?_;rintro wc ⟨L6,b6⟩;obtain⟨x5,x8⟩:=jN b6 D aU))
  have Bw:=(B5.after bV B5.size).after bb B5.size;have Cw:=(C5.after bV (cM s9)).after bb (cM s9);have zl:=(LV.keep bb).lt;have B6:=(Bw.alloc Bw.size _).after b6 aA;have C6:=(Cw.alloc (cM zl) _).after b6 aU;clear Bw Cw B5 C5 bV bb b6 r9 s0 l6 LV L5 e4 e5 GB GC x4 x6 s2 x7 w9 x0 x5 x8 j9 k0 j8 ba;obtain⟨X6,h5⟩:=aW ([]++[(⟨#[102,97,109,105,108,121]⟩:aB),F1,(⟨#[98,108,111,99,107,101,114]⟩:aB),F2]);rw[<-h5]at L6;have hN6:X6.length<=4:=by rw[h5];simp
  have G:=(dN F C6 zb).cell;go_wp2_with fail;clear G;refine aV (u9.out _ (z.below B6 aU)) ?_;intro w11 f6;have h7:=B6.after f6 B6.size;have n1:=C6.after f6 (cM L6.lt);have p6:=L6.keep f6;clear B6 C6 L6 f6;go_wp2_with fail;refine aV (gX D X6 (⟨#[100,105,109,101,110,115,105,111,110]⟩:aB) (wM g l) ⟨aA,aA⟩ _ p6 (hp.keep h7) aA) ?_;rintro w12 ⟨e6,q7⟩;have b7:=h7.after q7 aA;have i7:=n1.after q7 aU;clear h7 n1 p6;obtain⟨k4,J⟩:=aW (X6++[(⟨#[100,105,109,101,110,115,105,111,110]⟩:aB),dB (wM g l)]);rw[<-J]at e6;have z1:k4.length<=6:=by rw[J,bN];exact xB
  have G:=(dN F i7 zb).cell;go_wp2_with fail;clear G;refine(v7.out _ (z.below b7 aU)).mono ?_;rintro e w13 ⟨pG,iG,qG,rfl,oG,f7⟩;have h8:=b7.after f7 b7.size;have n2:=i7.after f7 (cM e6.lt);have p7:=e6.keep f7;clear b7 i7 e6 f7;have y0:iG=(sE g l).length:=oG.capLe.1;subst y0;go_wp2_with fail;refine aV (nK D k4 (⟨#[103,114,111,119,116,104]⟩:aB) _ (sE g l) _ oG aA p7 (hp.keep h8) aA) ?_;rintro w14 ⟨e7,q8⟩;have b8:=h8.after q8 aA;have i8:=n2.after q8 aU;clear h8 n2 p7;obtain⟨k5,K⟩:=aW (k4++[(⟨#[103,114,111,119,116,104]⟩:aB),gY (sE g l)]);rw[<-K]at e7;have z6:k5.length<=8:=by rw[K,bN];exact xB
  have G:=(dN F i8 zb).cell;go_wp2_with fail;clear G;refine aV (v8.out _ (z.below b8 aU)) ?_;intro w15 f8;have h9:=b8.after f8 b8.size;have n3:=i8.after f8 (cM e7.lt);have p8:=e7.keep f8;clear b8 i8 e7 f8;go_wp2_with fail;refine aV (gX D k5 (⟨#[108,121,109]⟩:aB) (wN g l) ⟨aA,aA⟩ _ p8 (hp.keep h9) aA) ?_;rintro w16 ⟨k2,q9⟩;have i1:=h9.after q9 aA;have o0:=n3.after q9 aU;clear h9 n3 p8;obtain⟨k6,O⟩:=aW (k5++[(⟨#[108,121,109]⟩:aB),dB (wN g l)]);rw[<-O]at k2;have z7:k6.length<=10:=by rw[O,bN];exact xB
  go_wp2_with fail;refine aV (gX D k6 (⟨#[100,105,115,99,114,101,112,97,110,99,121]⟩:aB) (BZ g l) ⟨aA,aA⟩ _ k2 (hp.keep i1) aA) ?_;rintro w17 ⟨e8,r0⟩;have b9:=i1.after r0 aA;have j0:=o0.after r0 aU;clear i1 o0 k2;obtain⟨k7,R⟩:=aW (k6++[(⟨#[100,105,115,99,114,101,112,97,110,99,121]⟩:aB),dB (BZ g l)]);rw[<-R]at e8;have z8:k7.length<=12:=by rw[R,bN];exact xB
  have G:=(dN F j0 zb).cell;go_wp2_with fail;clear G;refine aV (iY g (D3 g l) _ (hp.keep b9)) ?_;intro y2 f9;have i6:=b9.after f9 b9.size;have o1:=j0.after f9 (cM e8.lt);have k3:=e8.keep f9;clear b9 j0 e8 f9;go_wp2_with fail;have t1:=k3.lt;refine aV (fH D k7 [(⟨#[98,121]⟩:aB),dH g (D3 g l)] y2.heap.size 2 2 _ (k3.keep (cQ _ _)) rfl (jC (cR _ _ _ _ _ rfl) (cR _ _ _ _ _ rfl)) (by simp only[List.length_cons,List.length_nil];omega)) ?_;rintro w19 ⟨e9,r1⟩;have c5:=(i6.alloc i6.size _).after r1 aA;have j1:=(o1.alloc (cM t1) _).after r1 aU;clear i6 o1 k3;obtain⟨k8,S⟩:=aW (k7++[(⟨#[98,121]⟩:aB),dH g (D3 g l)]);rw[<-S]at e9;have z9:k8.length<=14:=by rw[S,bN];exact xB
  have G:=(dN F j1 zb).cell;go_wp2_with fail;clear G;refine aV (WQ g l _ _ (z.below c5 aU)) ?_;intro w20 g0;have m4:=c5.after g0 c5.size;have o2:=j1.after g0 (cM e9.lt);have p9:=e9.keep g0;clear c5 j1 e9 g0;go_wp2_with fail;refine aV (jJ D k8 (⟨#[108,97,109,105,110,97,114]⟩:aB) (xS g l) _ p9 aA) ?_;rintro w21 ⟨f0,r2⟩;have c7:=m4.after r2 aA;have j2:=o2.after r2 aU;clear m4 o2 p9;obtain⟨k9,Y⟩:=aW (k8++fX (xS g l) (⟨#[108,97,109,105,110,97,114]⟩:aB));rw[<-Y]at f0;have hN21:k9.length<=15:=by rw[Y,bN];have:=eK (xS g l) (⟨#[108,97,109,105,110,97,114]⟩:aB);omega
  have G:=(dN F j2 zb).cell;go_wp2_with fail;clear G;refine aV (u7.out _ (z.below c7 aU)) ?_;intro w22 g2;have m5:=c7.after g2 c7.size;have o3:=j2.after g2 (cM f0.lt);have q0:=f0.keep g2;clear c7 j2 f0 g2;go_wp2_with fail;refine aV (jJ D k9 (⟨#[99,114,111,115,115,102,114,101,101]⟩:aB) (rV g l) _ q0 aA) ?_;rintro w23 ⟨f2,r3⟩;have c8:=m5.after r3 aA;have j3:=o3.after r3 aU;clear m5 o3 q0;obtain⟨l0,Z⟩:=aW (k9++fX (rV g l) (⟨#[99,114,111,115,115,102,114,101,101]⟩:aB));rw[<-Z]at f2;have hN23:l0.length<=16:=by rw[Z,bN];have:=eK (rV g l) (⟨#[99,114,111,115,115,102,114,101,101]⟩:aB);omega
  have G:=(dN F j3 zb).cell;go_wp2_with fail;clear G;refine aV (acB g l _ _ (z.below c8 aU)) ?_;intro w24 g4;have m6:=c8.after g4 c8.size;have o4:=j3.after g4 (cM f2.lt);have q1:=f2.keep g4;clear c8 j3 f2 g4;go_wp2_with fail;refine aV (jJ D l0 (⟨#[105,110,116,101,114,115,101,99,116,105,110,103]⟩:aB) (qQ g l) _ q1 aA) ?_;rintro w25 ⟨f3,r4⟩;have c9:=m6.after r4 aA;have j4:=o4.after r4 aU;clear m6 o4 q1;obtain⟨l1,a1⟩:=aW (l0++fX (qQ g l) (⟨#[105,110,116,101,114,115,101,99,116,105,110,103]⟩:aB));rw[<-a1]at f3;have hN25:l1.length<=17:=by rw[a1,bN];have:=eK (qQ g l) (⟨#[105,110,116,101,114,115,101,99,116,105,110,103]⟩:aB);omega
  have G:=(dN F j4 zb).cell;go_wp2_with fail;clear G;refine aV (afE g l _ _ (z.below c9 aU)) ?_;intro w26 g5;have m7:=c9.after g5 c9.size;have o5:=j4.after g5 (cM f3.lt);have q2:=f3.keep g5;clear c9 j4 f3 g5;go_wp2_with fail;refine aV (jJ D l1 (⟨#[97,110,116,105,99,104,97,105,110]⟩:aB) (uT g l) _ q2 aA) ?_;rintro w27 ⟨f4,r5⟩;have d0:=m7.after r5 aA;have j5:=o5.after r5 aU;clear m7 o5 q2;obtain⟨l2,a6⟩:=aW (l1++fX (uT g l) (⟨#[97,110,116,105,99,104,97,105,110]⟩:aB));rw[<-a6]at f4;have hN27:l2.length<=18:=by rw[a6,bN];have:=eK (uT g l) (⟨#[97,110,116,105,99,104,97,105,110]⟩:aB);omega
  have G:=(dN F j5 zb).cell;go_wp2_with fail;clear G;refine aV (ab9 g l _ _ (z.below d0 aU) hl) ?_;intro w28 g6;have m8:=d0.after g6 d0.size;have o6:=j5.after g6 (cM f4.lt);have q3:=f4.keep g6;clear d0 j5 f4 g6;go_wp2_with fail;refine aV (jJ D l2 (⟨#[100,111,119,110]⟩:aB) (tO g l) _ q3 aA) ?_;rintro w29 ⟨f5,r6⟩;have e0:=m8.after r6 aA;have j6:=o6.after r6 aU;clear m8 o6 q3;obtain⟨l3,a7⟩:=aW (l2++fX (tO g l) (⟨#[100,111,119,110]⟩:aB));rw[<-a7]at f5;have hN29:l3.length<=19:=by rw[a7,bN];have:=eK (tO g l) (⟨#[100,111,119,110]⟩:aB);omega
  have G:=(dN F j6 zb).cell;go_wp2_with fail;clear G;refine aV (u5.out _ (z.below e0 aU)) ?_;intro w30 g7;have m9:=e0.after g7 e0.size;have o7:=j6.after g7 (cM f5.lt);have q4:=f5.keep g7;clear e0 j6 f5 g7;go_wp2_with fail;refine aV (jJ D l3 (⟨#[98,97,115,101,115]⟩:aB) (BT g l) _ q4 aA) ?_;rintro w31 ⟨q5,r7⟩;have n0:=m9.after r7 aA;have C31:=o7.after r7 aU;clear m9 o7 q4;obtain⟨l4,a8⟩:=aW (l3++fX (BT g l) (⟨#[98,97,115,101,115]⟩:aB));rw[<-a8]at q5;have hN31:l4.length<=20:=by rw[a8,bN];have:=eK (BT g l) (⟨#[98,97,115,101,115]⟩:aB);omega
  have hT:dL fY l4=TT:=by rw[a8,a7,a6,a1,Z,Y,S,R,O,K,J,h5];exact HX.out
  have hz:=y1;rw[<-hT]at hz;have HT:=aT hT;clear hT h5 J K O R S Y Z a1 a6 a7 a8;obtain⟨lv,KL,oL⟩:=q5;have G:=KL.cell;go_wp2_with fail;clear G;refine aV (fG (D+1) lv l4 _ oL aA aA) ?_;intro wz bz;go_wp2;go_ret;exact⟨dA (HT.out.trans v9.out),n0.after bz n0.size⟩
