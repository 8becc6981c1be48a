/- Lemmas for CardReports. No condition. -/
import Derived.Test.YtcpoomdoodlkjaaGreatDoorQ41
set_option maxRecDepth 100000
set_option maxHeartbeats 64000000
namespace Go.Proofs.YtcpoomdoodlkjaaGreatDoor
section
open Go.RowKit Go.G5 Go.Proofs.Tryz
theorem afV:∀n:Nat,n<7->∀i:Nat,i<7->jX n i<=20:=by decide +kernel
theorem afW:∀n:Nat,n<7->∀i:Nat,i<7->jX n i*(n-i)<=120:=by decide +kernel
theorem adF:∀n:Nat,n<7->∀k:Nat,k<7->k<=n->∀i:Nat,i<7->i<=k->tK n k i*(n-k+(i+1))<=140:=by decide +kernel
theorem PB(n k:Nat)(w:World)(hn:n<=6)(hk:k<=n):
  Calls prog 218 #[(n:Int),(k:Int)] w fun e w'=>e=.returned (aM (jX n k:Int))/\w=w':=by
 have h1:¬(n:Int)<(k:Int):=aK;have hb:∀i:Nat,i<7->i<=k->jX n i<=20/\jX n i*(n-i)<=120:=fun i h _=>⟨afV n aK i h,afW n aK i h⟩;have Z:=aN hb;clear hb;go_enter func218,ntmps218;go_wp2;go_loop [5,15] (fun rv N=>∃i:Nat,i<=k/\N=aM i/\rv=aM (jX n i:Int)) (fun _ N=>k-(intOf N).toNat)
 case atStart=>exact⟨0,Nat.zero_le _,rfl,rfl⟩
 case round=>
  obtain⟨i,hi,rfl,rfl⟩:=hrel;have hb:=Z.out i aK hi;by_cases hlt:i<k
  ·have I:(i:Int)<(k:Int):=aK;have J:jX n (i+1)=jX n i*(n-i)/(i+1):=rfl;have z:(jX n i:Int)*((n:Int)-(i:Int))=((jX n i*(n-i):Nat):Int):=by rw[Int.natCast_mul,Int.ofNat_sub aK]
   obtain⟨R,S⟩:=aQ (jX n i);rw[<-S]at hb J z ⊢;obtain⟨P,O⟩:=aQ (R*(n-i));rw[<-O]at hb J z;have b1:IntKind.i64.wrap ((n:Int)-(i:Int))=(n:Int)-(i:Int):=by rw[IntKind.wrap_i64];omega
   have b3:IntKind.i64.wrap ((R:Int)*((n:Int)-(i:Int)))=(P:Int):=by rw[z,IntKind.wrap_i64];omega
   have b4:IntKind.i64.wrap ((i:Int)+1)=(i:Int)+1:=by rw[IntKind.wrap_i64];omega
   have Y:(P:Int).tdiv ((i:Int)+1)=(jX n (i+1):Int):=by rw[J,show(i:Int)+1=((i+1:Nat):Int) by simp];rfl
   have HQ:=aN Y;have b0:¬(i:Int)+1=0:=aK;have a7:=hb.2;have M:P/(i+1)<=P:=Nat.div_le_self _ _;have hS:(jX n (i+1))<=120:=by rw[J];omega
   obtain⟨D,K⟩:=aQ (jX n (i+1));rw[<-K]at Y hS;have b5:IntKind.i64.wrap (D:Int)=(D:Int):=by rw[IntKind.wrap_i64];omega
   have HD:=aN K;clear z J S O M K;go_wp2;go_round
   case rel=>exact⟨i+1,by omega,by go_num,by rw[<-HD.out]⟩
   case measure=>simp[intOf];omega
  ·have I:¬(i:Int)<(k:Int):=aK;have F:i=k:=aK;have HI:=aN F;clear F;go_wp2;go_ret;exact⟨by rw[<-HI.out];rfl,rfl⟩
theorem UW(n k:Nat)(w:World)(hn:n<=6)(hk:k<=n):
  Calls prog 229 #[(n:Int),(k:Int)] w fun e w'=>e=.returned (aM (jX n k:Int))/\w=w':=by
 have hb:∀i:Nat,i<7->i<=k->tK n k i<=20/\tK n k i*(n-k+(i+1))<=140:=fun i h h'=>⟨afX n aK k aK hk i h h',adF n aK k aK hk i h h'⟩;have z:=adG n aK k aK hk;have K:eZ (n:Int) 0 20=true:=dK.2 ⟨by omega,by omega⟩;have M:eZ (k:Int) 0 (n:Int)=true:=dK.2 ⟨by omega,by omega⟩;have I:=fun W=>cQ (n:Int) 0 20 W;have J:=fun W=>cQ (k:Int) 0 (n:Int) W;simp only[K]at I;simp only[M]at J;have Y:=aN I;have Z:=aN J;have HB:=aN hb;have a1:=aN z;have c9:IntKind.i64.wrap ((n:Int)-(k:Int))=(n:Int)-(k:Int):=by rw[IntKind.wrap_i64];omega
 clear hb z K M I J;go_enter func229,ntmps229;go_wp2_with (go_at_call 174;first|(with_reducible refine(Y.out _).mono ?_;rintro e w' ⟨rfl,rfl⟩)|(with_reducible refine(Z.out _).mono ?_;rintro e w' ⟨rfl,rfl⟩));go_loop [5,6] (fun rv iv=>∃i:Nat,i<=k/\iv=aM ((i:Int)+1)/\rv=aM (tK n k i:Int)) (fun _ iv=>k+1-(intOf iv).toNat)
 case atStart=>exact⟨0,Nat.zero_le _,rfl,rfl⟩
 case round=>
  obtain⟨i,hi,rfl,rfl⟩:=hrel;have hb:=HB.out i aK hi;by_cases hlt:i<k
  ·have O:(i:Int)+1<=(k:Int):=aK;have S:tK n k (i+1)=tK n k i*(n-k+(i+1))/(i+1):=rfl;have F:(tK n k i:Int)*((n:Int)-(k:Int)+((i:Int)+1))=((tK n k i*(n-k+(i+1)):Nat):Int):=by rw[Int.natCast_mul,Int.natCast_add,Int.ofNat_sub hk];simp
   obtain⟨R,hR⟩:=aQ (tK n k i);rw[<-hR]at hb S F ⊢;obtain⟨P,hP⟩:=aQ (R*(n-k+(i+1)));rw[<-hP]at hb S F;have c5:IntKind.i64.wrap ((n:Int)-(k:Int)+((i:Int)+1))=(n:Int)-(k:Int)+((i:Int)+1):=by rw[IntKind.wrap_i64];omega
   have c6:IntKind.i64.wrap ((R:Int)*((n:Int)-(k:Int)+((i:Int)+1)))=(P:Int):=by rw[F,IntKind.wrap_i64];omega
   have c7:IntKind.i64.wrap ((i:Int)+1+1)=(i:Int)+1+1:=by rw[IntKind.wrap_i64];omega
   have hq:(P:Int).tdiv ((i:Int)+1)=(tK n k (i+1):Int):=by rw[S,show(i:Int)+1=((i+1:Nat):Int) by simp];rfl
   have b8:¬(i:Int)+1=0:=aK;have a7:P/(i+1)<=P:=Nat.div_le_self _ _;have hS:(tK n k (i+1))<=140:=by rw[S];omega
   obtain⟨D,hD⟩:=aQ (tK n k (i+1));rw[<-hD]at hq hS;have c8:IntKind.i64.wrap (D:Int)=(D:Int):=by rw[IntKind.wrap_i64];omega
   have HD:=aN hD;clear F S hR hP a7 hD;go_wp2;go_round
   case rel=>exact⟨i+1,by omega,by go_num,by rw[<-HD.out]⟩
   case measure=>simp[intOf];omega
  ·have O:¬(i:Int)+1<=(k:Int):=aK;have N:i=k:=aK;have HI:=aN N;clear N;go_wp2;go_ret;exact⟨by rw[<-a1.out,<-HI.out];rfl,rfl⟩
theorem aeI(g:Int)(l:List Int)(v:Value)(w:World)(hv:aR w v l)(R:bJ g l=true):
  Calls prog 106 #[.agg #[g,v]] w fun e w'=>e=.returned (sP g l)/\Below w w w':=by
 have c6:=hv;obtain⟨a,b,g1,c,rfl,d8,Y,hc,hb⟩:=hv.view prog 24 3 underlying24 aS;obtain⟨h0,h6,a6,c5⟩:=dT R;obtain⟨N,rfl⟩:=Int.eq_ofNat_of_zero_le h0;have hN:N<=6:=aK;have f6:=jT R;have hx:sP (N:Int) l=qQ N l l.length:=by unfold sP;rw[R,Int.toNat_natCast];rfl
 have hm:∀s∈l,∃n:Nat,s=(n:Int)/\n<64/\bR n<=N:=fun s K=>by
  have h:=a6 s K;obtain⟨n,rfl⟩:=Int.eq_ofNat_of_zero_le h.1;rw[Int.toNat_natCast]at h;have e:((2:Int)^N)=((2^N:Nat):Int):=by simp
  have f5:(2:Nat)^N<=2^6:=Nat.pow_le_pow_right aY hN;exact⟨n,rfl,by omega,acL N aK n aK⟩
 have K0:=aU.new w 31 #[(N:Int),aI a l.length c];have M:=MZ N l;have HX:=aN hx;have HC:=aN hc;have b0:=aN Y;have HM:=aN hm;have a8:=aN M;have I:=dF (N:Int) l _ _ (c6.alloc (.cells #[(N:Int),aI a l.length c] 31));rw[R]at I;have a9:=aN I;clear hx hc Y hm M I R a6 c5;go_enter func106,ntmps106;go_wp2_with fail;refine a9.out.mono ?_;rintro e w1 ⟨rfl,b1⟩;have B1:Below w w w1:=(bF _ _).after b1 (by simp);have K1:=K0.keep b1;have G1:=K1.cell;clear K0 b1;go_wp2_with fail;clear G1;go_loopw [3,12] (fun sv iv wr=>∃(j m:Nat),j<=l.length/\iv=aM j/\sv=aM (qQ N l j)/\wr=w1.drewN m) (fun _ iv _=>l.length-(intOf iv).toNat)
 case atStart=>exact⟨0,0,Nat.zero_le _,rfl,rfl,rfl⟩
 case round=>
  obtain⟨j,m,hj,rfl,rfl,rfl⟩:=hrel;have b6:=a8.out j;have G:=K1.cell;have B:=B1;by_cases hlt:j<l.length
  ·skip
   have a1:(j:Int)<(l.length:Int):=aK;have ck:=aW HC.out hb B aO j hlt;have ik:=fun W=>b0.out W j hlt;obtain⟨n,hn,d9,J⟩:=HM.out _ (List.getElem_mem hlt);have K:qQ N l (j+1)=qQ N l j+((60/jX N (bR n):Nat):Int):=by rw[qQ,aX l j hlt,hn,Int.toNat_natCast]
   rw[hn]at ck;have b7:=WO N aK (bR n) aK J;obtain⟨p,hp⟩:=aQ (bR n);obtain⟨D,hD⟩:=aQ (jX N (bR n));rw[<-hD]at K b7;have hq:(60:Int).tdiv (D:Int)=((60/D:Nat):Int):=rfl;have a7:60/D<=60:=Nat.div_le_self _ _;obtain⟨Q,hQ⟩:=aQ (60/D);rw[<-hQ]at K hq a7;obtain⟨S,hS⟩:=aQ (qQ N l j);rw[<-hS]at K b6 ⊢;have f7:¬(D:Int)=0:=aK;have f9:IntKind.i64.wrap (Q:Int)=(Q:Int):=by rw[IntKind.wrap_i64];omega
   have g0:IntKind.i64.wrap (S+(Q:Int))=S+(Q:Int):=by rw[IntKind.wrap_i64];omega
   have HS:=aN K;have HD:=aN hD;have b3:=aN J;have F:=aN (fun W=>gI n W aK);simp only[<-hp]at F;have z:=aN (fun W=>PB N p W hN (by have:=b3.out;omega));have O:jX N p=D:=by rw[HD.out,hp]
   simp only[O]at z;clear hn K hD hQ hS hp J O;go_wp2_with fail;go_quiet ((first|(go_at_call 165;first|exact iX (F.out _)|exact kF (F.out _))|(go_at_call 218;first|exact iX (z.out _)|exact kF (z.out _))));go_wp2;go_roundw
   case rel=>exact⟨j+1,m+nq,by omega,by go_num,by rw[HS.out],by simp⟩
   case measure=>simp[intOf];omega
  ·have a1:¬(j:Int)<(l.length:Int):=aK;have Z:j=l.length:=aK;have HJ:=aN Z;clear Z;go_wp2;go_ret;exact⟨fI (by rw[HX.out,<-HJ.out]),B1.drewN' _⟩
theorem aeJ(g:Int)(l:List Int)(v:Value)(w:World)(hv:aR w v l)(R:bJ g l=true):
  Calls prog 117 #[.agg #[g,v]] w fun e w'=>e=.returned (sP g l)/\Below w w w':=by
 have c6:=hv;obtain⟨a,b,g1,c,rfl,d8,Y,hc,hb⟩:=hv.view prog 24 3 underlying24 aS;obtain⟨h0,h6,a6,c5⟩:=dT R;obtain⟨N,rfl⟩:=Int.eq_ofNat_of_zero_le h0;have hN:N<=6:=aK;have f6:=jT R;have hx:sP (N:Int) l=qQ N l l.length:=by unfold sP;rw[R,Int.toNat_natCast];rfl
 have hm:∀s∈l,∃n:Nat,s=(n:Int)/\n<64/\bR n<=N:=fun s K=>by
  have h:=a6 s K;obtain⟨n,rfl⟩:=Int.eq_ofNat_of_zero_le h.1;rw[Int.toNat_natCast]at h;have e:((2:Int)^N)=((2^N:Nat):Int):=by simp
  have f5:(2:Nat)^N<=2^6:=Nat.pow_le_pow_right aY hN;exact⟨n,rfl,by omega,acL N aK n aK⟩
 have K0:=aU.new w 31 #[(N:Int),aI a l.length c];have M:=MZ N l;have HX:=aN hx;have HC:=aN hc;have b0:=aN Y;have HM:=aN hm;have a8:=aN M;have I:=cS (N:Int) l _ _ (c6.alloc (.cells #[(N:Int),aI a l.length c] 31));rw[R]at I;have a9:=aN I;clear hx hc Y hm M I R a6 c5;go_enter func117,ntmps117;go_wp2_with fail;refine a9.out.mono ?_;rintro e w1 ⟨rfl,b1⟩;have B1:Below w w w1:=(bF _ _).after b1 (by simp);have K1:=K0.keep b1;have G1:=K1.cell;clear K0 b1;go_wp2_with fail;clear G1;go_loopw [3,4] (fun sv iv wr=>∃(j m:Nat),j<=l.length/\iv=aM j/\sv=aM (qQ N l j)/\wr=w1.drewN m) (fun _ iv _=>l.length-(intOf iv).toNat)
 case atStart=>exact⟨0,0,Nat.zero_le _,rfl,rfl,rfl⟩
 case round=>
  obtain⟨j,m,hj,rfl,rfl,rfl⟩:=hrel;have b6:=a8.out j;have G:=K1.cell;have B:=B1;by_cases hlt:j<l.length
  ·skip
   have a1:(j:Int)<(l.length:Int):=aK;have ck:=aW HC.out hb B aO j hlt;have ik:=fun W=>b0.out W j hlt;obtain⟨n,hn,d9,J⟩:=HM.out _ (List.getElem_mem hlt);have K:qQ N l (j+1)=qQ N l j+((60/jX N (bR n):Nat):Int):=by rw[qQ,aX l j hlt,hn,Int.toNat_natCast]
   rw[hn]at ck;have b7:=WO N aK (bR n) aK J;obtain⟨p,hp⟩:=aQ (bR n);obtain⟨D,hD⟩:=aQ (jX N (bR n));rw[<-hD]at K b7;have hq:(60:Int).tdiv (D:Int)=((60/D:Nat):Int):=rfl;have a7:60/D<=60:=Nat.div_le_self _ _;obtain⟨Q,hQ⟩:=aQ (60/D);rw[<-hQ]at K hq a7;obtain⟨S,hS⟩:=aQ (qQ N l j);rw[<-hS]at K b6 ⊢;have f7:¬(D:Int)=0:=aK;have f9:IntKind.i64.wrap (Q:Int)=(Q:Int):=by rw[IntKind.wrap_i64];omega
   have g0:IntKind.i64.wrap (S+(Q:Int))=S+(Q:Int):=by rw[IntKind.wrap_i64];omega
   have HS:=aN K;have HD:=aN hD;have b3:=aN J;have F:=aN (fun W=>eP n W aK);simp only[<-hp]at F;have z:=aN (fun W=>UW N p W hN (by have:=b3.out;omega));have O:jX N p=D:=by rw[HD.out,hp]
   simp only[O]at z;clear hn K hD hQ hS hp J O;go_wp2_with fail;go_quiet ((first|(go_at_call 154;first|exact iX (F.out _)|exact kF (F.out _))|(go_at_call 229;first|exact iX (z.out _)|exact kF (z.out _))));go_wp2;go_roundw
   case rel=>exact⟨j+1,m+nq,by omega,by go_num,by rw[HS.out],by simp⟩
   case measure=>simp[intOf];omega
  ·have a1:¬(j:Int)<(l.length:Int):=aK;have Z:j=l.length:=aK;have HJ:=aN Z;clear Z;go_wp2;go_ret;exact⟨fI (by rw[HX.out,<-HJ.out]),B1.drewN' _⟩
theorem ad5(s r:Int)(w:World)(D:0<=s/\s<64)(hr:0<=r/\r<64):
  Calls prog 279 #[s,r] w fun e w'=>e=.returned (zZ s r)/\w=w':=by
 have Z:=eG D.1 (show s<4611686018427387904 by omega) hr.1 (show r<4611686018427387904 by omega);have hB:=lV D.1 D.2 hr.1 hr.2;have F:=lU s r 64 D.1 D.2;have I:=nT s r 64 D.1 D.2;have z:=SJ D hr;have J:zZ s r=max (dL (bK s r)-dL (cM s r)) (-(dL (bK s r)-dL (cM s r))):=rfl;obtain⟨A,N⟩:=aQ (bK s r);obtain⟨B,O⟩:=aQ (cM s r);rw[<-N]at Z F z J;rw[<-O]at hB I z J;have K:=aN (fun W=>vL A W F.1 aK);have M:=aN (fun W=>vL B W I.1 aK);obtain⟨p,R⟩:=aQ (dL A);obtain⟨q,S⟩:=aQ (dL B);simp only[<-R]at K z J;simp only[<-S]at M z J;have a1:IntKind.i64.wrap (p-q)=p-q:=by rw[IntKind.wrap_i64];omega
 have a6:IntKind.i64.wrap (-(p-q))=-(p-q):=by rw[IntKind.wrap_i64];omega
 have Y:=aN J;clear J N O R S F I;go_enter func279,ntmps279;go_wp2_with (go_at_call 165;first|(with_reducible refine(K.out _).mono ?_;rintro e w' ⟨rfl,rfl⟩)|(with_reducible refine(M.out _).mono ?_;rintro e w' ⟨rfl,rfl⟩));go_ret;exact⟨fI (by rw[Y.out];try omega),rfl⟩
theorem Z8(l:List Int)(v:Value)(r:Int)(w:World)(hv:aR w v l)(hm:∀s∈l,0<=s/\s<64)(hr:0<=r/\r<64):
  Calls prog 214 #[v,r] w fun e w'=>e=.returned (uY l r)/\w=w':=by
 obtain⟨a,b,b6,c,rfl,a8,I,hc,hb⟩:=hv.view prog 24 3 underlying24 aS;have F:=E2 l r hm hr;have HC:=aN hc;have S:=aN I;have HM:=aN hm;have O:=aN F;clear hc I hm F;go_enter func214,ntmps214;go_wp2;go_loop [5,10] (fun mv iv=>∃j:Nat,j<=l.length/\iv=aM j/\mv=aM (sU l r j)) (fun _ iv=>l.length-(intOf iv).toNat)
 case atStart=>exact⟨0,Nat.zero_le _,rfl,rfl⟩
 case round=>
  obtain⟨j,hj,rfl,rfl⟩:=hrel;have Y:=O.out j;by_cases hlt:j<l.length
  ·have K:(j:Int)<(l.length:Int):=aK;have ck:=HC.out j hlt;have ik:=fun W=>S.out W j hlt;have D:=fun W=>ad5 l[j] r W (HM.out _ (List.getElem_mem hlt)) hr;have N:sU l r (j+1)=max (sU l r j) (zZ l[j] r):=by rw[sU,aX l j hlt]
   obtain⟨y,Z⟩:=aQ (l[j]);rw[<-Z]at ck N;simp only[<-Z]at D;obtain⟨z,hz⟩:=aQ (zZ y r);rw[<-hz]at N;simp only[<-hz]at D;obtain⟨M,hM⟩:=aQ (sU l r j);rw[<-hM]at N Y ⊢;have HS:=aN N;have R:=aN D;clear Z hz hM N D;go_wp2_with (go_at_call 279;refine(R.out _).mono ?_;rintro e w' ⟨rfl,rfl⟩);go_round
   case rel=>exact⟨j+1,by omega,by go_num,by rw[HS.out];try omega⟩
   case measure=>simp[intOf];omega
  ·have K:¬(j:Int)<(l.length:Int):=aK;have J:j=l.length:=aK;have HJ:=aN J;clear J;go_wp2;go_ret;exact⟨fI (by unfold uY;rw[<-HJ.out]),rfl⟩
theorem aaO(l:List Int)(r:Nat):jY l (r+1)=if uY l ((r+1:Nat):Int)<(jY l r).2 then (((r+1:Nat):Int),uY l ((r+1:Nat):Int)) else jY l r:=rfl
theorem PE(g:Int)(l:List Int)(v:Value)(w:World)(hv:aR w v l)(hf:bJ g l=true):
  Calls prog 103 #[.agg #[g,v]] w fun e w'=>e=.returned (.tuple #[(yN g l),(wP g l)])/\Below w w w':=by
 obtain⟨a,c,rfl⟩:=hv.shape;have hm:=dY hf;obtain⟨h0,h6,_,_⟩:=dT hf;obtain⟨N,rfl⟩:=Int.eq_ofNat_of_zero_le h0;have hN:N<=6:=aK;have S:yN (N:Int) l=(jY l (2^N-1)).1:=by unfold yN;rw[hf,Int.toNat_natCast];rfl
 have Y:wP (N:Int) l=(jY l (2^N-1)).2:=by unfold wP;rw[hf,Int.toNat_natCast];rfl
 have a9:=LU l hm;have I:=fun(W:World) (r:Int) (h:aR W (aI a l.length c) l) (hr:0<=r/\r<64)=>Z8 l _ r W h hm hr;have R:=fun(W:World) (h:aR W (aI a l.length c) l)=>jA (N:Int) _ l W h h0 aK;simp only[Int.toNat_natCast]at R;have c7:(2:Nat)^N<=2^6:=Nat.pow_le_pow_right aY hN;have d5:=Nat.two_pow_pos N;have O:((2:Int)^N)=((2^N:Nat):Int):=by simp
 have F:jY l 0=(0,uY l 0):=rfl;obtain⟨M,hM⟩:=aQ (2^N-1);have a7:((2:Int)^N)-1=(M:Int):=by rw[O,hM];omega
 have e5:M<64:=aK;rw[<-hM]at S Y;simp only[a7]at R;have K0:=aU.new w 31 #[(N:Int),aI a l.length c];have HR:=aN (And.intro S Y);have b8:=aN a9;have a1:=aN I;have b9:=aN R;have b5:=hv.alloc (.cells #[(N:Int),aI a l.length c] 31);have Z:=I _ 0 b5 aK;obtain⟨W0,a8⟩:=aQ (uY l 0);rw[<-a8]at Z F;have HW:=aN Z;have HS:=aN F;clear S Y a9 I R c7 d5 O hM a7 hm hf Z F a8 b5;go_enter func103,ntmps103;go_wp2_with (go_at_call 214;refine HW.out.mono ?_;rintro e w' ⟨rfl,rfl⟩);go_loopw [4,5,6] (fun bv mv iv wr=>∃(r:Nat),r<=M/\iv=aM ((r:Int)+1)/\bv=aM (jY l r).1/\mv=aM (jY l r).2/\aU wr w 31 #[(N:Int),aI a l.length c]/\Below w w wr) (fun _ _ iv _=>M+1-(intOf iv).toNat)
 case atStart=>exact⟨0,Nat.zero_le _,rfl,by rw[HS.out],by rw[HS.out],K0,bF _ _⟩
 case round=>
  obtain⟨r,hr,rfl,rfl,rfl,K,B⟩:=hrel;clear K0;have d0:=b8.out r aK;have z:=aaO l r;have b0:((r+1:Nat):Int)=(r:Int)+1:=aK;rw[b0]at z;have d6:=a1.out;obtain⟨C,hC⟩:=aQ (jY l r);rw[<-hC]at d0 z ⊢;have HC:=aN hC;have G:=K.cell;clear hC b0 d6;go_wp2_with fail;refine(b9.out wr (hv.below B aO)).mono ?_;rintro e w2 ⟨rfl,b2⟩;have B2:=B.after b2 B.size;have K2:=K.keep b2;clear G;have G:=K2.cell;by_cases hlt:r<M
  ·have b3:(r:Int)+1<=(M:Int):=aK;have I:=a1.out w2 ((r:Int)+1) (hv.below B2 aO) aK;obtain⟨D,hD⟩:=aQ (uY l ((r:Int)+1));rw[<-hD]at I z;have a6:=aN I;have f0:IntKind.i64.wrap ((r:Int)+1+1)=(r:Int)+1+1:=by rw[IntKind.wrap_i64];omega
   by_cases hd:D<C.2
   ·rw[if_pos hd]at z;have J:=aN z;clear z I hD;go_wp2_with (go_at_call 214;refine a6.out.mono ?_;rintro e w' ⟨rfl,rfl⟩);go_roundw
    case rel=>exact⟨r+1,by omega,by go_num,by rw[J.out],by rw[J.out],K2,B2⟩
    case measure=>simp[intOf];omega
   ·rw[if_neg hd]at z;have J:=aN z;clear z I hD;go_wp2_with (go_at_call 214;refine a6.out.mono ?_;rintro e w' ⟨rfl,rfl⟩);go_roundw
    case rel=>exact⟨r+1,by omega,by go_num,by rw[J.out],by rw[J.out],K2,B2⟩
    case measure=>simp[intOf];omega
  ·have b3:¬(r:Int)+1<=(M:Int):=aK;have b4:r=M:=aK;have c5:=aN b4;clear b4 z;go_wp2;go_ret2;exact⟨by rw[HR.out.1,HR.out.2,<-c5.out,HC.out];rfl,B2⟩
theorem acG{N:Nat}{a b:Int}(F:N<=6)(D:0<=a/\a<2^N)(hb:0<=b/\b<2^N):gA (N:Int) [a,b]=true:=by
 unfold gA;rw[Bool.and_eq_true,List.all_eq_true];refine⟨dK.2 ⟨by omega,by omega⟩,fun s z=>?_⟩;rw[Int.toNat_natCast];rcases List.mem_cons.1 z with e|z
 ·rw[e];exact mT.2 D
 ·rw[List.mem_singleton]at z;rw[z];exact mT.2 hb
theorem aR.pairB{w:World}{b:Nat}{x y:Int}(D:w.cell? ⟨b,0,none⟩=some (aM x))(h1:w.cell? ⟨b,1,none⟩=some (aM y))(F:dD x)(I:dD y):aR w (aI (some ⟨b,0,none⟩) 2 2) [x,y]:=
 ⟨some ⟨b,0,none⟩,2,rfl,aO,by decide,by
  intro q z;rcases List.mem_cons.1 z with e|z
  ·rw[e];exact F
  ·rw[List.mem_singleton]at z;rw[z];exact I,.inr ⟨b,0,rfl,World.block_lt_of_cell? w _ D,fun k hk=>by
   match k,hk with
   |0,_=>exact D
   |1,_=>exact h1⟩⟩
theorem YN(N:Nat)(a b:Int)(w:World)(Y:N<=6)(K:0<=a/\a<2^N)(hb:0<=b/\b<2^N):
  Calls prog 220 #[(N:Int),a,b] w fun e w'=>e=.returned (.bool (RC N a b))/\Below w w w':=by
 have O:=cO N 6 Y;have R:=O.1;have a6:=O.2;simp at R;have D:=sX (N:Int) [a,b] (aI (some ⟨w,0,none⟩) 2 2) (w.alloc (.cells #[a,b] 3)) (aR.pairB (bB _ _ _ _ _ rfl) (bB _ _ _ _ _ rfl) ⟨by omega,by omega⟩ ⟨by omega,by omega⟩);rw[acG Y K hb]at D;have hcl:=fun W=>NR a b W ⟨K.1,by omega⟩ ⟨hb.1,by omega⟩;have M:=xQ K.1 (show a<4611686018427387904 by omega) hb.1 (show b<4611686018427387904 by omega);have J:RC N a b=(pV a b&&fT a b != 2^N-1):=rfl;have a7:IntKind.i64.wrap ((2:Int)^N)=2^N:=by rw[IntKind.wrap_i64];omega
 have a8:IntKind.i64.wrap ((2:Int)^N-1)=2^N-1:=by rw[IntKind.wrap_i64];omega
 obtain⟨y,Z⟩:=aQ (fT a b);rw[<-Z]at M J;obtain⟨cb,z⟩:=aQ (pV a b);simp only[<-z]at hcl;rw[<-z]at J;have I:=aN D;have F:=aN hcl;have S:=aN J;clear D hcl J Z z O;go_enter func220,ntmps220
 cases cb with
 |false=>go_wp2_with (first|(go_at_call 211;refine I.out.mono ?_;rintro e w' ⟨rfl,rfl⟩)|(go_at_call 283;refine(F.out _).mono ?_;rintro e w' ⟨rfl,rfl⟩));go_ret;exact⟨aZ S.out.symm,bF _ _⟩
 |true=>go_wp2_with (first|(go_at_call 211;refine I.out.mono ?_;rintro e w' ⟨rfl,rfl⟩)|(go_at_call 283;refine(F.out _).mono ?_;rintro e w' ⟨rfl,rfl⟩));go_ret;exact⟨aZ S.out.symm,bF _ _⟩
theorem YO(N:Nat)(a b:Int)(w:World)(hN:N<=6)(ha:0<=a/\a<2^N)(hb:0<=b/\b<2^N):
  Calls prog 232 #[(N:Int),a,b] w fun e w'=>e=.returned (.bool (RC N a b))/\w=w':=by
 have hp:=cO N 6 hN;have b1:=hp.1;have b6:=hp.2;simp at b1;have S:eZ (N:Int) 0 6=true:=dK.2 ⟨by omega,by omega⟩;have Y:eZ a 0 (2^N-1)=true:=dK.2 ⟨ha.1,by omega⟩;have Z:eZ b 0 (2^N-1)=true:=dK.2 ⟨hb.1,by omega⟩;have M:=fun W=>cQ (N:Int) 0 6 W;have O:=fun W=>cQ a 0 (2^N-1) W;have R:=fun W=>cQ b 0 (2^N-1) W;simp only[S]at M;simp only[Y]at O;simp only[Z]at R;have D:=aN (fun W=>fE N W aK);have a9:=xQ ha.1 (show a<4611686018427387904 by omega) hb.1 (show b<4611686018427387904 by omega);have a8:=eG ha.1 (show a<4611686018427387904 by omega) hb.1 (show b<4611686018427387904 by omega);have hx:RC N a b=(((bK a b != 0&&bK a b != a)&&bK a b != b)&&fT a b != 2^N-1):=by unfold RC;rw[AV ha.1 hb.1];rfl
 obtain⟨y,hy⟩:=aQ (fT a b);obtain⟨z,hz⟩:=aQ (bK a b);rw[<-hy]at a9 hx;rw[<-hz]at a8 hx;have F:=aN M;have I:=aN O;have J:=aN R;have K:=aN hx;clear M O R S Y Z hx hy hz hp;go_enter func232,ntmps232
 cases t1:z != 0 with
 |false=>rw[t1]at K;go_wp2_with (first|(go_at_call 187;refine(D.out _).mono ?_;rintro e w' ⟨rfl,rfl⟩)|(go_at_call 174;first|(with_reducible refine(F.out _).mono ?_;rintro e w' ⟨rfl,rfl⟩)|(with_reducible refine(I.out _).mono ?_;rintro e w' ⟨rfl,rfl⟩)|(with_reducible refine(J.out _).mono ?_;rintro e w' ⟨rfl,rfl⟩)));go_ret;exact⟨aZ K.out.symm,rfl⟩
 |true=>
  cases t2:z != a with
  |false=>rw[t1,t2]at K;go_wp2_with (first|(go_at_call 187;refine(D.out _).mono ?_;rintro e w' ⟨rfl,rfl⟩)|(go_at_call 174;first|(with_reducible refine(F.out _).mono ?_;rintro e w' ⟨rfl,rfl⟩)|(with_reducible refine(I.out _).mono ?_;rintro e w' ⟨rfl,rfl⟩)|(with_reducible refine(J.out _).mono ?_;rintro e w' ⟨rfl,rfl⟩)));go_ret;exact⟨aZ K.out.symm,rfl⟩
  |true=>
   cases t3:z != b with
   |false=>rw[t1,t2,t3]at K;go_wp2_with (first|(go_at_call 187;refine(D.out _).mono ?_;rintro e w' ⟨rfl,rfl⟩)|(go_at_call 174;first|(with_reducible refine(F.out _).mono ?_;rintro e w' ⟨rfl,rfl⟩)|(with_reducible refine(I.out _).mono ?_;rintro e w' ⟨rfl,rfl⟩)|(with_reducible refine(J.out _).mono ?_;rintro e w' ⟨rfl,rfl⟩)));go_ret;exact⟨aZ K.out.symm,rfl⟩
   |true=>rw[t1,t2,t3]at K;go_wp2_with (first|(go_at_call 187;refine(D.out _).mono ?_;rintro e w' ⟨rfl,rfl⟩)|(go_at_call 174;first|(with_reducible refine(F.out _).mono ?_;rintro e w' ⟨rfl,rfl⟩)|(with_reducible refine(I.out _).mono ?_;rintro e w' ⟨rfl,rfl⟩)|(with_reducible refine(J.out _).mono ?_;rintro e w' ⟨rfl,rfl⟩)));go_ret;exact⟨aZ K.out.symm,rfl⟩
end
end Go.Proofs.YtcpoomdoodlkjaaGreatDoor
