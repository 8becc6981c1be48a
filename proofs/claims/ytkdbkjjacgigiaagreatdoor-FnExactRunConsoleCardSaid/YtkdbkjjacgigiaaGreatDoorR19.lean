/- Lemmas for CardRunConsole. No condition. -/
import Derived.Test.YtkdbkjjacgigiaaGreatDoorR12
import Derived.Test.YtkdbkjjacgigiaaGreatDoorRows
set_option maxRecDepth 100000
set_option maxHeartbeats 64000000
namespace Go.Proofs.YtkdbkjjacgigiaaGreatDoor
section
open Go.RowKit Go.G5 Go.Proofs.Tryz
variable(w:World)(n:Int)(v:Value)(l:aI)
def bn:Value->Nat
 |.bool true=>1
 |_=>0
theorem aiA(t k:Nat)(h1:t<l)(h2:dF t k<l.length):(l[dF t k]==l[t])=(fW l t k==0):=by
 unfold fW;rw[cJ l _ h1,cJ l _ h2];by_cases h:l[dF t k]=l[t]
 .rw[h];simp
 .rw[dZ.2 h,dZ.2 (show l[dF t k]-l[t]≠0 from aA)]
theorem WR(N:Nat)(v:Value)(l:aI)(hv:Ints w v l)(h5:N<=5)(a6:l.length=2^N)(s:Nat)(hs:s<2^N):
  Calls prog 331 #[aM #[(N:Int),v],s] w fun e w'=>∃t:Nat,e=aQ t/\decide (t=s)=oQ l N s/\Below w w w':=by
 have h7:=hv;obtain⟨a,b,h8,c,rfl,d0,c9,hc,hb⟩:=hv.vw;have K0:=bK.new w 27 #[(N:Int),aD a l c];have h0:(2:Nat)^N<=32:=bQ (n:=2) bZ h5;have HC:=aT hc;have b5:=aT c9;have e9:=aT a6;clear hc c9 d0 a6;go_enter func331,ntmps331;go_wp2_with fail;go_loopw [1,5] (fun sv av wr=>∃(t:Nat) (O:Bool),sv=aO t/\av=aG O/\t<2^N/\(t=s\/(s<t/\oQ l N s=false))/\(O=false->oQ l N t=true)/\Below w w wr/\bK wr w 27 #[(N:Int),aD a l c]) (fun sv av _=>(2^N-(intOf sv).toNat)*2+bn av)
 .exact⟨s,true,rfl,rfl,hs,.inl rfl,(fun h=>by cases h),cQ _ _,K0⟩
 obtain⟨t,O,rfl,rfl,f4,e0,b3,B,K⟩:=hrel;obtain⟨wo,rfl⟩:∃wo:World,wo=wr:=⟨_,rfl⟩;have b1:=aT e0;clear K0 e0
 cases O with
 |false=>
  have c7:=b3 rfl;have a9:decide (t=s)=oQ l N s:=by
   rcases b1.out with h|⟨h1,h2⟩
   .subst h;rw[c7];simp
   .rw[h2];exact bG aA
  have e7:=aT a9;clear c7 a9 b3;go_wp2;go_ret;exact⟨t,rfl,e7.out,B⟩
 |true=>
  clear b3;have G:=K.cell;go_wp2_with fail;go_loopw [1,5,6] (fun sv av ev wr=>∃(D e:Nat) (O:Bool),sv=aO D/\av=aG O/\ev=aO e/\e<=N/\D<2^N/\((O=false/\D=t/\oQ l e t=true)\/(O=true/\t<D/\oQ l N t=false))/\Below w w wr/\bK wr w 27 #[(N:Int),aD a l c]) (fun _ _ ev _=>N-(intOf ev).toNat)
  .exact⟨t,0,false,rfl,rfl,rfl,aZ _,f4,.inl ⟨rfl,rfl,rfl⟩,B,K⟩
  obtain⟨D,e,O,rfl,rfl,rfl,he,M,R,B2,K2⟩:=hrel;obtain⟨wi,rfl⟩:∃wo:World,wo=wr:=⟨_,rfl⟩;have J:=aT R;clear R G K;have G:=K2.cell;by_cases b9:e<N
  .have c5:(e:Int)<(N:Int):=aA
   have f2:=lL (D:Int) e aA aA;have S:(fE (D:Int) e==0)=!eI D e:=by
    have h:=rP D e;have h2:fE (D:Int) e=0\/fE (D:Int) e=1:=by unfold fE;omega
    rcases h2 with h2|h2
    .rw[h2]at h |-;rw[<-h];rfl
    .rw[h2]at h |-;rw[<-h];rfl
   obtain⟨y,hy⟩:=aW (fE (D:Int) e);rw[<-hy]at f2 S;have a6:=e9.out;obtain⟨t2,a1⟩:=aW (dF D e);have f3:t2<2^N:=by rw[a1];exact gI D e N M b9
   have g7:bits .or .i64 (D:Int) (2^e)=((t2:Nat):Int):=by rw[a1];exact iU D e aA aA
   have c1:=bY HC.out hb B2 aU D aA;have c2:=bY HC.out hb B2 aU t2 aA;have i1:=fun W=>b5.out W D aA;have i2:=fun W=>b5.out W t2 aA;have F:(l[t2]'aA==l[D]'aA)=(fW l D e==0):=by subst a1;exact aiA l D e aA aA
   have c8:eI D e=false->D<t2:=fun h=>by rw[a1];exact al4 D e h
   obtain⟨x,hx⟩:=aW (l[D]);obtain⟨z,hz⟩:=aW (l[t2]);rw[<-hx]at c1 F;rw[<-hz]at c2 F;have Y:=dW e 6 aA;have g8:(2:Int)^e<=64:=by simpa using Y.1
   have g9:=Y.2;have h9:IntKind.i64.wrap ((2:Int)^e)=2^e:=dV;have g6:(0:Int)<=(e:Int):=Int.natCast_nonneg _;have Z:oQ l (e+1) t=(oQ l e t&&(eI t e||!(fW l t e==0))):=rfl;have b6:=aT Z;have e8:=aT c8;clear hy a1 hx hz Y Z c8 a6
   cases h1:eI D e with
   |true=>
    have f5:(y==0)=false:=by rw[S,h1];rfl
    have H1:=aT h1;clear h1 S F;go_wp2_with fail;go_quiet (fail);go_wp2;go_roundw
    .refine⟨D,e+1,O,rfl,rfl,cD,aA,M,?_,B2.drewN' _,K2.drewN _⟩;rcases J.out with⟨q1,I,q3⟩|q
     .exact .inl ⟨q1,I,by rw[b6.out,q3,<-I,H1.out];rfl⟩
     .exact .inr q
    exact aY
   |false=>
    have f5:(y==0)=true:=by rw[S,h1];rfl
    have H1:=aT h1;clear h1 S
    cases h2:(z==x) with
    |false=>
     rw[h2]at F;have b0:=aT F;clear F;go_wp2_with fail;go_quiet (fail);go_wp2;go_roundw
     .refine⟨D,e+1,O,rfl,rfl,cD,aA,M,?_,B2.drewN' _,K2.drewN _⟩;rcases J.out with⟨q1,I,q3⟩|q
      .exact .inl ⟨q1,I,by rw[b6.out,q3,<-I,<-b0.out];simp⟩
      .exact .inr q
     exact aY
    |true=>
     rw[h2]at F;have b0:=aT F;clear F;go_wp2_with fail;go_quiet (fail);go_wp2;go_roundw
     .refine⟨t2,e+1,true,rfl,rfl,cD,aA,f3,.inr ⟨rfl,?_,?_⟩,B2.drewN' _,K2.drewN _⟩
      .have:=e8.out H1.out;rcases J.out with⟨_,I,_⟩|⟨_,I,_⟩<;>omega
      .rcases J.out with⟨_,I,_⟩|⟨_,_,q3⟩
       .exact anQ b9 (by rw[<-I];exact H1.out) (by rw[<-I];simpa using b0.out.symm)
       .exact q3
     exact aY
  .have c5:¬(e:Int)<(N:Int):=aA;have c6:e=N:=aA;subst c6;go_wp2;go_roundw
   .refine⟨D,O,rfl,rfl,M,?_,?_,B2,K2⟩
    .rcases J.out with⟨_,I,_⟩|⟨_,I,q3⟩
     .rw[I];exact b1.out
     .right;rcases b1.out with h|⟨h,h'⟩
      .subst h;exact⟨I,q3⟩
      .exact⟨aA,h'⟩
    .intro h;rcases J.out with⟨_,I,q3⟩|⟨q1,_,_⟩
     .rw[I];exact q3
     .rw[q1]at h;cases h
   rcases J.out with⟨q1,I,_⟩|⟨q1,I,_⟩
   .subst q1 I;simp[intOf,bn]
   .subst q1;simp[intOf,bn];omega
theorem asZ(hv:Ints w v l)(hl:l.length<=1048576):
  Calls prog 247 #[aM #[n,v]] w fun e w'=>∃ad i cp,e=aQ (aS #[aD ad i cp,aG (gU n l)])/\bB 3 w w' (aD ad i cp) (rD n l)/\Below w w w':=by
 have J:=hv;obtain⟨a,c,rfl⟩:=hv.shape;have K0:=(bK.new w 27 #[n,aD a l c]).alloc (.cells #[] 3);have B0:Below w w ((w.alloc (.cells #[n,aD a l c] 27)).alloc (.cells #[] 3)):=wU _ _ _;have o0:bB 3 (w.heap.size+1) ((w.alloc (.cells #[n,aD a l c] 27)).alloc (.cells #[] 3)) (aD (some ⟨w+1,0,none⟩) 0 0) []:=by have:=bB.lit0 (E:=3) (B:=w.heap.size+1) (w.alloc (.cells #[n,aD a l c] 27)) bF;simpa using this
 cases S:gU n l with
 |false=>
  have hL:rD n l=[]:=by unfold rD;rw[S];rfl
  have HL:=aT hL;have HF:=aT S;clear hL S;go_enter func247,ntmps247;go_wp2_with fail;go_loopw [4,5] (fun ov iv wr=>∃(p:Option Addr) (i q:Nat),ov=aD p i q/\iv=aO 0/\bB 3 (w.heap.size+1) wr (aD p i q) []/\Below w w wr/\bK wr w 27 #[n,aD a l c]) (fun _ _ _=>0)
  .exact⟨_,_,_,rfl,rfl,o0,B0,K0⟩
  obtain⟨p,i,q,rfl,rfl,ho,B,K⟩:=hrel;have G:=K.cell;go_wp2_with fail;refine aV (rZ n l _ _ (J.below B aU) hl) ?_;intro w1 D;rw[HF.out];have M:=B.after D B.size;have K1:=K.keep D;have O:=ho.keep D;clear G;have G:=K1.cell;go_wp2_with fail;refine aV (rZ n l _ _ (J.below M aU) hl) ?_;intro w2 I;rw[HF.out];go_wp2;go_ret2;exact⟨p,i,q,rfl,by rw[HL.out];exact(O.keep I).mono aA,M.after I M.size⟩
 |true=>
  obtain⟨N,rfl,h5,b4,f0,e5⟩:=eJ (uA S);have hL:rD N l=dE (oQ l N) l.length:=by unfold rD;rw[S];rfl
  have hcl:=fun(W:World) (h:Ints W (aD a l c) l) (s:Nat) (hs:s<l)=>WR W N _ l h h5 b4 s aA;obtain⟨P,hP⟩:=aW (oQ l N);rw[<-hP]at hL;simp only[<-hP]at hcl;have HL:=aT hL;have HF:=aT S;have c5:=aT hcl;clear hL S hcl hP e5 b4;go_enter func247,ntmps247;go_wp2_with fail;go_loopw [4,5] (fun ov iv wr=>∃(k:Nat) (p:Option Addr) (i q:Nat),k<=l/\iv=aO k/\ov=aD p i q/\bB 3 (w.heap.size+1) wr (aD p i q) (dE P k)/\Below w w wr/\bK wr w 27 #[N,aD a l c]) (fun _ iv _=>l.length-(intOf iv).toNat)
  .exact⟨0,_,_,_,aZ _,rfl,rfl,o0,B0,K0⟩
  obtain⟨k,p,i,q,hk,rfl,rfl,ho,B,K⟩:=hrel;obtain⟨wo,rfl⟩:∃wo:World,wo=wr:=⟨_,rfl⟩;clear o0 B0 K0;have G:=K.cell;go_wp2_with fail;refine aV (rZ N l _ _ (J.below B aU) hl) ?_;intro w1 D;rw[HF.out];have M:=B.after D B.size;have K1:=K.keep D;have O:=ho.keep D;clear G B K ho D;have G:=K1.cell;by_cases e4:k<l
  .have b0:(k:Int)<(l.length:Int):=aA
   have a8:=gV P k;have f9:(dE P k).length<=64:=dC (jD P k) aA;have a6:=aT a8;clear a8;have c6:=aT (c5.out w1 (J.below M aU) k e4);go_wp2_with fail;refine c6.out.mono ?_;rintro e w3 ⟨t,rfl,Z,b3⟩;have Y:=O.keep b3;have B3:=M.after b3 M.size;have K3:=K1.keep b3;have rr:=Y.lt;have a9:((t:Int)==(k:Int))=P k:=by
    rw[<-Z];by_cases h:t=k
    .subst h;simp
    .rw[bG h,dZ];omega
   cases F:P k with
   |false=>
    rw[F]at a9;have R:=aT F;clear F Z;go_wp2;go_roundw
    .exact⟨k+1,p,i,q,aA,cD,rfl,by rw[a6.out,R.out];exact Y,B3,K3⟩
    exact aY
   |true=>
    rw[F]at a9;have R:=aT F;clear F Z;go_wp2_with (at_builtin;refine eF rfl _ _ _ rfl 3 underlying25 intElem (w.heap.size+1) (aD p i q) (dE P k) (k:Int) _ rfl rfl (cR _ _ _ _ _ rfl) (Y.alloc _) ⟨aA,aA⟩ aA (by have:=K3.lt;simp;omega) ?_;intro v7 w7 o7 g7;obtain⟨p7,i7,q7,rfl⟩:=o7.shape3);have B7:=(B3.alloc B3.size (.cells #[(k:Int)] 3)).grown g7 (by have:=B3.size;simp;omega) (fun z hz=>by have:=(rr _ hz).1;omega);have K7:=(K3.alloc (.cells #[(k:Int)] 3)).grow g7 (fun e=>by have:=(rr _ e).1;omega);go_roundw
    .exact⟨k+1,p7,i7,q7,aA,cD,rfl,by rw[a6.out,R.out];exact o7,B7,K7⟩
    exact aY
  .have b0:¬(k:Int)<(l.length:Int):=aA;have b1:k=l.length:=aA;subst b1;go_wp2_with fail;refine aV (rZ N l _ _ (J.below M aU) hl) ?_;intro w2 I;rw[HF.out];go_wp2;go_ret2;exact⟨p,i,q,rfl,by rw[HL.out];exact(O.keep I).mono aA,M.after I M.size⟩
theorem an6(N:Nat)(v:Value)(l:aI)(Y:Ints w v l)(I:cS N l=true)(s:Nat)(hs:s<2^N):
  aH 363 #[aM #[(N:Int),v],(s:Int)] w (aG true):=by
 have R:=Y;obtain⟨a,c,rfl⟩:=Y.shape;obtain⟨_,O,h5,-⟩:=eJ I;have O:=Int.ofNat.inj O;subst O;have K0:=bK.new w 27 #[(N:Int),aD a l c];have D:fN (s:Int) 0 (2^N-1)=true:=by have:((2^N:Nat):Int)=(2:Int)^N:=bF;unfold fN;simp only[Bool.and_eq_true,decide_eq_true_eq];omega
 obtain⟨A,M⟩:∃A:Int,A=2^N-1:=⟨_,rfl⟩;have z:=fun W:World=>fZ N W aA;simp only[<-M]at z;rw[<-M]at D;have K:=aT D;have J:=aT z;have HF:=aT I;have S:=aT (fD (N:Int) l _ (w.alloc (.cells #[(N:Int),aD a l c] 27)) (R.alloc _));rw[I]at S;clear D z M I hs;go_enter func363,ntmps363;go_wp2_with fail;refine aV S.out ?_;intro w1 F;have Z:Below w w w1:=(cQ _ _).after F bF;have K1:=K0.keep F;have G:=K1.cell;go_wp2_with (first|(go_at_call 78;refine aV (J.out _) ?_;rintro w2 rfl)|(go_at_call 77;refine aV (eH _ _ _ _) ?_;rintro w3 rfl;rw[K.out]));go_ret;exact⟨rfl,Z⟩
theorem ajF{p:Prop}(h:p:=by
  have HP:=aT D;clear D F;go_wp2_with fail;refine cW _ bM bM ?_
  repeat(first|go_big_quiet_skip|(go_big_quiet_want;go_big_quiet_op;first|go_big_quiet_on|(apply Exists.intro;refine⟨fun _=>?_,?_⟩;(go_at_call 84;first|(with_reducible exact fA (b8.out _))|(with_reducible exact fA (b9.out _)));go_big_quiet_on)))
  refine wpQuiet_nil ?_;rintro w5 ⟨⟨w5,b5⟩,rfl⟩
  try dsimp only
  go_wp2;go_roundw
  .exact⟨t+1,aA,cD,by rw[c5.out,HP.out];rfl,Br.after b5 Br.size⟩
  exact aY):p:=h
theorem af5(N:Nat)(v u:Value)(l k:aI)(hv:Ints w v l)(hu:Ints w u k)(hl:l.length<=1048576)(hk:k.length<=1048576)(hf:fP N l N k=true)(s:Nat)(hs:s<l):
  Calls prog 334 #[aM #[(N:Int),v],aM #[(N:Int),u],(s:Int)] w fun e w'=>∃x y:Int,e=aQ (aS #[x,y,aG (nG l k s)])/\Below w w w':=by
 have e8:=hv;have h7:=hu;obtain⟨a,ba,oa,c,rfl,_,c8,hc,hb⟩:=hv.vw;obtain⟨a',g5,i1,c',rfl,_,Z,c7,g8⟩:=hu.vw;obtain⟨_,N',hN,j8,g9,i6,c9,_,_⟩:=sY hf;have hN:=Int.ofNat.inj hN;subst hN;have Y:=mZ (OO hf).1;have O:=(bK.new w 27 #[(N:Int),aD a l c]).alloc (.cells #[(N:Int),aD a' k c'] 27);have R:bK ((w.alloc (.cells #[(N:Int),aD a l c] 27)).alloc (.cells #[(N:Int),aD a' k c'] 27)) (w.heap.size+1) 27 #[(N:Int),aD a' k c']:=by have:=bK.new (w.alloc (.cells #[(N:Int),aD a l c] 27)) 27 #[(N:Int),aD a' k c'];simpa using this
 have d0:=fun(W:World) (h:Ints W (aD a l c) l)=>an6 W N _ l h Y s aA;have f7:=aT d0;have HF:=aT hf;have I:=aT c9;have HC:=aT hc;have f5:=aT c7;have f6:=aT c8;have b6:=aT Z;clear d0 hf c9 hc c7 c8 Z Y g9;go_enter func334,ntmps334;go_wp2_with fail;refine cZ ?_;intro V hV;have B:Below w w V:=iJ hV;have O:bK V w 27 #[(N:Int),aD a l c]:=by rw[hV];exact O
 have R:bK V (w+1) 27 #[(N:Int),aD a' k c']:=by rw[hV];exact R
 clear hV;refine aV (AI V N _ l (e8.below B aU) hl N _ k (h7.below B aU) hk) ?_;intro w1 b1;rw[HF.out];have O:=O.keep b1;have R:=R.keep b1;have B:=B.after b1 B.size;have G1:=O.cell;have z2:=R.lt;go_wp2_with fail;refine aV (f7.out _ (e8.below B aU)) ?_;intro w2 b2;have O:=O.keep b2;have R:=R.keep b2;have B:=B.after b2 B.size;clear G1;go_wp2_with fail;go_loopw [9] (fun iv wr=>∃t:Nat,t<=s+1/\iv=aO t/\LT l k s t=true/\Below w2 w2 wr) (fun iv _=>s+1-(intOf iv).toNat)
 .exact⟨0,aZ _,rfl,rfl,bJ _ _⟩
 obtain⟨t,ht,rfl,e6,Br⟩:=hrel;obtain⟨wo,rfl⟩:∃z:World,z=wr:=⟨_,rfl⟩;have Bw:=B.after Br B.size;have g0:=O.keep Br;have g2:=R.keep Br;have b7:=aT e6;clear e6;by_cases hlt:t<s+1
 .have e0:(t:Int)<=(s:Int):=aA;have a9:=OE l k s t;rw[b7.out,Bool.true_and]at a9;have D:RI l k s t=((dY t s==0)&&(gJ l t&&gJ k (dY s t))):=rfl;rw[<-aoT s aA t aA]at D;have S:=PS t s aA aA;have a1:RI l k s t=true->nG l k s=true:=fun h=>aeB aA h;have f9:=aT a1;have c5:=aT a9;have e1:∀y:Ext wo,y.w.cell? ⟨w,1,none⟩=some (aD a l c):=fun y=>y.cell (g0.cell 1);have e2:∀y:Ext wo,y.w.cell? ⟨w+1,1,none⟩=some (aD a' k c'):=fun y=>y.cell (g2.cell 1);clear a1 a9;by_cases F:t &&& s=t
  .obtain⟨e5,k0⟩:=ao8 s aA t aA F;rw[beq_iff_eq.2 F,Bool.true_and,e5]at D;rw[F]at S;have ck:=bY HC.out hb Bw aU t aA;have ik:=fun W=>f6.out W t aA;have a7:=bY f5.out g8 Bw aU (s-t) (by have:=I.out;omega);have h8:=fun W=>b6.out W (s-t) (by have:=I.out;omega);rw[show((s-t:Nat):Int)=(s:Int)-(t:Int) from aA]at h8;have k2:IntKind.i64.wrap ((s:Int)-(t:Int))=(s:Int)-(t:Int):=dV;have a8:=fun W:World=>iE t W aA;have M:=fun W:World=>iE (s-t) W aA;rw[show((s-t:Nat):Int)=(s:Int)-(t:Int) from aA]at M;have J:gJ l t=decide (l[t]'aA=(dG t:Int)):=by unfold gJ;rw[cJ l t aA]
   have K:gJ k (s-t)=decide (k[s-t]'(by have:=I.out;omega)=(dG (s-t):Int)):=by unfold gJ;rw[cJ k (s-t) (by have:=I.out;omega)]
   obtain⟨x,hx⟩:=aW (l[t]'aA);obtain⟨y,hy⟩:∃y,y=k[s-t]'(by have:=I.out;omega):=⟨_,rfl⟩;obtain⟨p,hp⟩:∃p:Nat,p=dG t:=⟨_,rfl⟩;obtain⟨q,hq⟩:∃q:Nat,q=dG (s-t):=⟨_,rfl⟩;rw[<-hx]at ck J;rw[<-hy]at a7 K;rw[<-hp]at J;rw[<-hq]at K;simp only[<-hp]at a8;simp only[<-hq]at M;have e3:∀z:Ext wo,z.w.cell? ⟨ba,oa+t,none⟩=some (aO x):=fun z=>z.cell ck;have e4:∀z:Ext wo,z.w.cell? ⟨g5,i1+(s-t),none⟩=some (aO y):=fun z=>z.cell a7;rw[J,K,<-xW,<-xW]at D;have b8:=aT a8;have b9:=aT M;have j9:((t:Int)==(t:Int))=true:=bF;clear a8 M hx hy hp hq ck a7 J K e5
   cases h1:(x==(p:Int)) with
   |false=>rw[h1]at D;exact ajF
   |true=>
    rw[h1,Bool.true_and]at D
    cases h2:(y==(q:Int)) with
    |false=>rw[h2]at D;exact ajF
    |true=>
     rw[h2]at D;have hr:=f9.out D;have HR:=aT hr;clear D F hr;go_wp2_with fail;refine cW _ bM bM ?_
     repeat(first|go_big_quiet_skip|(go_big_quiet_want;go_big_quiet_op;first|go_big_quiet_on|(apply Exists.intro;refine⟨fun _=>?_,?_⟩;(go_at_call 84;first|(with_reducible exact fA (b8.out _))|(with_reducible exact fA (b9.out _)));go_big_quiet_on)))
     refine wpQuiet_nil ?_;rintro w5 ⟨⟨w5,b5⟩,rfl⟩
     try dsimp only
     go_wp2;go_ret3;exact⟨t,(s:Int)-(t:Int),by rw[HR.out];rfl,Bw.after b5 Bw.size⟩
  .have e7:(t &&& s==t)=false:=by rw[dZ];exact F
   rw[e7,Bool.false_and]at D;have h0:(((t &&& s:Nat):Int)==(t:Int))=false:=by rw[dZ];omega
   obtain⟨z,hz⟩:∃z:Nat,z=t &&& s:=⟨_,rfl⟩;rw[<-hz]at S h0;have HP:=aT D;clear D F e7 hz;go_wp2_with fail;refine cW _ bM bM ?_
   repeat(first|go_big_quiet_skip|(go_big_quiet_want;go_big_quiet_op;first|go_big_quiet_on|(apply Exists.intro;refine⟨fun _=>?_,?_⟩;(fail);go_big_quiet_on)))
   refine wpQuiet_nil ?_;rintro w5 ⟨⟨w5,b5⟩,rfl⟩
   try dsimp only
   go_wp2;go_roundw
   .exact⟨t+1,aA,cD,by rw[c5.out,HP.out];rfl,Br.after b5 Br.size⟩
   exact aY
 .have e0:¬(t:Int)<=(s:Int):=aA;have hr:nG l k s=false:=by unfold nG;rw[<-show t=s+1 from aA,b7.out];rfl
  have HR:=aT hr;clear hr;go_wp2;go_ret3
  first|exact⟨0,0,by rw[HR.out];rfl,Bw⟩|exact⟨⟨0,0,by rw[HR.out];rfl⟩,Bw⟩
theorem ajW{p:Prop}(h:p:=by
  have J:=aT D;clear D;go_wp2_with (go_at_call 84;(first|(with_reducible refine(c6.out _).mono ?_)|(with_reducible refine(c7.out _).mono ?_));rintro e w3 ⟨rfl,rfl⟩);go_roundw
  .exact⟨t+1,aA,aA,cD,by rw[J.out];rfl,I.after b2 I.size⟩
  exact aY):p:=h
theorem apH(hv:Ints w v l)(hl:l.length<=1048576)(m:Int)(u:Value)(k:aI)(hu:Ints w u k)(hk:k.length<=1048576):
  aH 252 #[aM #[n,v],aM #[m,u]] w (aS #[(DI n l m k),aG (fP n l m k)]):=by
 have b4:=hv;have b3:=hu;obtain⟨a,c,rfl⟩:=hv.shape;obtain⟨a',c',rfl⟩:=hu.shape;go_enter func252,ntmps252;go_wp2_with fail;refine cZ ?_;intro V hV;have B:Below w w V:=iJ hV;have K:bK V w 27 #[n,aD a l c]:=iQ hV;have M:bK V (w+1) 27 #[m,aD a' k c']:=jL hV;clear hV;refine aV (AI V n _ l (b4.below B aU) hl m _ k (b3.below B aU) hk) ?_;intro w1 b1;have K:=K.keep b1;have M:=M.keep b1;have B:=B.after b1 B.size;have z2:=M.lt;have G1:=K.cell
 cases F:fP n l m k with
 |false=>
  have hx:DI n l m k=0:=by unfold DI;rw[F];rfl
  have HX:=aT hx;have HF:=aT F;clear hx F;go_wp2;go_ret2;exact⟨by rw[HX.out,HF.out];rfl,B⟩
 |true=>
  obtain⟨rfl,N,rfl,f8,a1,f4,e6,e7,e5⟩:=sY F;have hx:DI N l N k=(uR (nG l k) l.length:Int):=by unfold DI;rw[F,if_pos rfl]
  have h1:=aoD (nG l k);have a8:=fun(W:World) (h1:Ints W (aD a l c) l) (h2:Ints W (aD a' k c') k) (s:Nat) (hs:s<l)=>af5 W N _ _ l k h1 h2 hl hk F s hs;have c5:=aT a8;have HX:=aT hx;have HF:=aT F;have a9:1<=l.length:=by rw[a1];exact dJ N
  clear hx F a1 e6 e7 e5 a8;go_wp2_with fail;go_loopw [6,7] (fun d0 i wr=>∃t:Nat,1<=t/\t<=l/\i=aO t/\d0=aO (uR (nG l k) t:Int)/\Below w1 w1 wr) (fun _ i _=>l.length-(intOf i).toNat)
  .exact⟨1,aU,a9,rfl,by rw[h1];rfl,bJ _ _⟩
  obtain⟨t,e9,ht,rfl,rfl,I⟩:=hrel;obtain⟨wo,rfl⟩:∃z:World,z=wr:=⟨_,rfl⟩;have Bw:=B.after I B.size;have K:=K.keep I;have M:=M.keep I;clear G1;have G1:=K.cell;have G2:=M.cell;have z1:=K.lt;have z2:=M.lt;have a6:=S8 (nG l k) t e9;by_cases hlt:t<l
  .have a7:(t:Int)<(l.length:Int):=aA;have D:=VB (nG l k) t;have hcl:=c5.out wo (b4.below Bw aU) (b3.below Bw aU) t hlt;obtain⟨b,O⟩:=aW (uR (nG l k) t);obtain⟨q,hq⟩:=aW (nG l k t);rw[<-O]at a6 |-;rw[<-O,<-hq]at D;rw[<-hq]at hcl;have R:=fun W:World=>iE t W aA;have S:=fun W:World=>iE b W aA;obtain⟨P,hP⟩:=aW (dG t);obtain⟨Q,hQ⟩:=aW (dG b);simp only[<-hP]at R;simp only[<-hQ]at S;rw[<-hP,<-hQ]at D;have c6:=aT R;have c7:=aT S;have b8:=aT hcl;clear hq O hP hQ R S hcl;go_wp2_with fail;refine b8.out.mono ?_;rintro e w2 ⟨x,y,rfl,b2⟩
   cases q with
   |false=>
    rw[Bool.and_false]at D;have J:=aT D;clear D;go_wp2;go_roundw
    .exact⟨t+1,aA,aA,cD,by rw[J.out];rfl,I.after b2 I.size⟩
    exact aY
   |true=>
    rw[Bool.and_true]at D;by_cases Y:Q<P
    .rw[bH Y]at D;have Z:(Q:Int)<(P:Int):=aA;exact ajW
    .rw[bG Y]at D;have Z:¬(Q:Int)<(P:Int):=aA;exact ajW
  .have a7:¬(t:Int)<(l.length:Int):=aA;have b0:t=l.length:=aA;have HT:=aT b0;clear b0;go_wp2;go_ret2;exact⟨by rw[HX.out,HF.out,<-HT.out];rfl,Bw⟩
theorem ai0{p:Prop}(h:p:=by
  clear Z;go_wp2;go_region_held3 (fun _=>True) (trivial)
   (first
    |(refine jT rfl _ _ _ rfl 3 underlying25 intElem w.heap.size (aD (some ⟨_,0,none⟩) 0 0) [] rfl (aD a k c) (l.take k) rfl ?_ ?_ ?_ w ?_ aU ?_;(first|(with_reducible exact(bB.lit0 w aU).drew')|(with_reducible exact((bB.lit0 w aU).alloc _).drew')|(with_reducible exact(bB.lit0' w _).drew'));(first|(with_reducible exact(u2.alloc _).drew')|(with_reducible exact((u2.alloc _).alloc _).drew'));(simp;omega);(first|(with_reducible exact(cQ w _).drew)|(with_reducible exact(wU w _ _).drew));(intro v1 w1 o1 b1 pc))
    |(refine jT rfl _ _ _ rfl 3 underlying25 intElem w.heap.size v1 ([]++l.take k) rfl (aD (some ⟨_,0,none⟩) 1 1) [x] rfl ?_ ?_ ?_ w ?_ aU ?_;(first|(with_reducible exact o1)|(with_reducible exact o1.alloc _));(refine Ints.one ?_ hx;first|(with_reducible exact cR _ _ _ _ _ rfl)|(with_reducible exact pc _ _ (uM _ _ _ _) (zW _ _ _))|(with_reducible exact pc _ _ (vT _ _ _ _) (zX _ _ _)));(simp;omega);(first|(with_reducible exact b1)|(with_reducible exact b1.alloc b1.size _));(intro v2 w2 o2 b2 _))
    |(refine jT rfl _ _ _ rfl 3 underlying25 intElem w.heap.size v2 (([]++l.take k)++[x]) rfl (aD a' (l.length-k) c') (l.drop k) rfl o2 (d2.below b2 aU) ?_ w b2 aU ?_;(simp;omega);(intro v3 w3 o3 b3 _;obtain⟨av,nv,cv,rfl⟩:=o3.shape3))
   )
  all_goals
   go_wp2;go_ret;exact⟨av,nv,cv,rfl,by rw[HP.out];exact o3.mono hB,b3,fun _ h=>.inr (o3.lt _ h).1⟩):p:=h
theorem afL(B:Nat)(l:aI)(v:Value)(x:Int)(w:World)(D:bB 3 B w v l)(hB:B<=w.heap.size)(z:l.Pairwise (· < ·))(hl:l.length<=1048576)(hx:fM x):
  Calls prog 155 #[v,x] w fun e w'=>∃ad i cp,e=aQ (aD ad i cp)/\bB 3 B w' (aD ad i cp) (JM l x)/\Below w w w'/\(∀k,(Value.slice ad i cp).ownBlock=some k->v.ownBlock=some k\/w.heap.size<=k):=by
 have hv:=D.ints;have S:=hv;obtain⟨a,b,f4,c,rfl,b9,O,hc,hb⟩:=hv.vw;have HA:=aT z;clear z;go_enter func155,ntmps155;go_wp2;go_loop [5] (fun i=>∃k:Nat,k<=l.length/\i=aO k/\∀y∈l.drop k,x<y) (fun i=>(intOf i).toNat)
 .exact⟨l.length,aU,rfl,bF⟩
 obtain⟨k,hk,rfl,N⟩:=hrel;have J:=aT N;clear N;have M:∀(hz:(∀y∈l.take k,y<x)),JM l x=(([]++l.take k)++[x])++l.drop k:=fun hz=>arO l x k HA.out J.out hz;obtain⟨u1,u2⟩:=S.upto 25 3 underlying25 intElem k hk;obtain⟨a',c',d1,d2⟩:=S.from 25 3 underlying25 intElem k hk
 have I:=aT M;have zk:(l.take k).length=k:=by rw[List.length_take,Nat.min_eq_left hk]
 have zd:(l.drop k).length=l.length-k:=List.length_drop;rw[zd]at d1 d2;clear zk zd;clear M;by_cases hz:(0:Int)<k
 .have R:k-1<l.length:=aA;have a9:=hc (k-1) R;have b8:=fun W=>O W (k-1) R;obtain⟨y,Y⟩:=aW (l[k-1]);rw[<-Y]at a9;have e8:IntKind.i64.wrap ((k:Int)-1)=((k-1:Nat):Int):=by rw[IntWalk.i64_in _ ⟨aA,aA⟩];omega
  have HY:=aT Y;clear Y O hc;rcases Int.lt_trichotomy x y with hlt|b0|b4
  .have e7:x<y:=hlt;go_wp2;go_round
   .refine⟨k-1,aA,cD,?_⟩;have:=ae5 l x (k-1) R (by rw[show k-1+1=k from aA];exact J.out) (by rw[<-HY.out];exact hlt);exact this
   exact aY
  .subst b0;have F:=aoX l x HA.out (by rw[HY.out];exact aX R);have K:=aT F;clear F;go_wp2;go_ret;exact⟨a,l.length,c,rfl,by rw[K.out];exact D,bJ _ _,fun _ h=>.inl h⟩
  .have hn:¬x<y:=aA
   have e9:(y==x)=false:=bO;have Z:=I.out (by
    have:=agO l x (k-1) HA.out R (by rw[<-HY.out];exact b4);rw[show k-1+1=k from aA]at this;exact this)
   have HP:=aT Z;exact ai0
 .have Z:=I.out (by intro y Y;have:k=0:=aA;subst this;simp at Y);have HP:=aT Z;exact ai0
theorem bB.lit1{E:TypeId}{B:Nat}(w:World)(y:Int)(D:fM y)(hB:B<=w.heap.size):bB E B (w.alloc (.cells #[y] E)) (aD (some ⟨w,0,none⟩) 1 1) [y]:=
 ⟨World.ownsRow_lit w #[y] 1 hB bZ rfl,by intro q z;simp only[List.mem_singleton]at z;subst z;exact D⟩
theorem aqZ{a b:Int}(z:0<=a):a-cU a b=dQ a b:=by
 have:=@Nat.and_le_left a.toNat b.toNat;unfold cU dQ dY;omega
theorem ZM(hl:l.length<=1048576)(hm:∀s∈l,0<=s/\s<64):∀(k:Nat) (_:k<=60) (K:Int) (_:K=k) (i:Nat) (_:i<=l) (L:Int) (_:0<=L) (_:L<64) (w:World) (v:Value) (_:Ints w v l),
  Calls prog 112 #[v,(i:Int),L,K] w fun e w'=>
   ∃z i' D,e=aQ (aS #[aD z i' D,aG (jH (l.drop i) k L).isSome])/\bB 3 w w' (aD z i' D) ((jH (l.drop i) k L).getD [])/\Below w w w':=by
 intro k
 induction k with
 |zero=>
  intro _ K hK i hi L h0 h1 w v hv;obtain⟨a,c,rfl⟩:=hv.shape;have:K=0:=hK;subst this;clear hK;by_cases I:L=0
  .subst I;rw[xZ];clear hm;go_enter func112,ntmps112;go_wp2;go_ret2;exact⟨_,_,_,rfl,bB.lit0 w aU,rB⟩
  .rw[AW _ _ I];have ht:(L==0)=false:=by simpa using I
   clear hm I;go_enter func112,ntmps112;go_wp2;go_ret2;exact⟨_,_,_,rfl,bB.lit0 w aU,rB⟩
 |succ k ih=>
  intro hk K hK i hi L h0 h1 w v hv;by_cases I:L=0
  .obtain⟨a,c,rfl⟩:=hv.shape;subst I;rw[xZ];clear hm ih;go_enter func112,ntmps112;go_wp2;go_ret2;exact⟨_,_,_,rfl,bB.lit0 w aU,rB⟩
  have ht:(L==0)=false:=by simpa using I
  obtain⟨a,b,i8,c,rfl,e6,h9,hc,hb⟩:=hv.vw;have i1:(K==0)=false:=bO;have O:1<=K/\K<=60:=aA;have h5:=O.1;have h6:=O.2;obtain⟨q,hq⟩:=aW (jH (l.drop i) (k+1) L);rw[<-hq];have HQ:=aT hq;have HM:=aT hm;have HK:=aT hK;have IH:=aT ih;have HL:=aT I;clear hm hK ih I O hq;go_enter func112,ntmps112;go_wp2_with fail;go_loopw [10] (fun x wr=>∃j:Nat,i<=j/\j<=l/\x=aO j/\jH (l.drop j) (k+1) L=q/\Below w w wr) (fun x _=>l.length-(intOf x).toNat)
  .exact⟨i,aU,hi,rfl,HQ.out.symm,bJ _ _⟩
  obtain⟨j,h8,hj,rfl,b0,B⟩:=hrel;have F:=aT b0;clear b0;have a9:=bY hc hb B aU;by_cases hlt:j<l
  .have J:=HM.out _ (aX hlt);have R:=a9 j hlt;have S:l.drop j=l[j]::l.drop (j+1):=List.drop_eq_getElem_cons hlt;obtain⟨s,hs⟩:=aW (l[j]);rw[<-hs]at J R S;have b7:=J.1;have i6:=J.2;have N:=aT S;have hA:=fV b7 (show s<4611686018427387904 from aA) h0 aA;have g8:=fV h0 (show L<4611686018427387904 from aA) b7 aA;have g9:=mW L s 64 h0 h1;clear S a9 J hs;by_cases Y:cU s L=0
   .have f0:(cU s L==0)=true:=by simp[Y]
    have b4:jH (l.drop (j+1)) (k+1) L=q:=by rw[<-F.out,N.out];simp only[jH,if_neg HL.out,if_pos Y]
    have d0:=aT b4;clear b4 Y;go_wp2;go_roundw
    .exact⟨j+1,aA,aA,cD,d0.out,B⟩
    exact aY
   .have f0:(cU s L==0)=false:=by simp[Y]
    obtain⟨o,ho⟩:=aW (jH (l.drop (j+1)) k (dQ L s));have b3:o=none->jH (l.drop (j+1)) (k+1) L=q:=fun e=>by rw[<-F.out,N.out];simp only[jH,if_neg HL.out,if_neg Y];rw[<-ho,e]
    have b8:∀x,o=some x->q=some (s::x):=fun x e=>by rw[<-F.out,N.out];simp only[jH,if_neg HL.out,if_neg Y];rw[<-ho,e]
    have hlo:∀x,o=some x->x.length<=60:=fun x e=>by have:=XY _ _ _ x (ho.symm.trans e);omega
    have c8:=aT hlo;have c9:=aT b3;have e4:=aT b8;have hd:=rK L s 64 h0 h1;have b1:∀(W:World),Ints W (aD a l c) l->Calls prog 112 #[aD a l c,aO ((j:Int)+1),aO (L-cU L s),aO (K-1)] W fun e w'=>
      ∃z i' D,e=aQ (aS #[aD z i' D,aG o.isSome])/\bB 3 W w' (aD z i' D) (o.getD [])/\Below W W w':=by
     intro W hW;have:=IH.out aA (K-1) (by have:=HK.out;omega) (j+1) aA (dQ L s) hd.1 hd.2 W _ hW;rw[<-ho]at this;rw[aqZ h0];exact this
    have c7:=aT b1;have f2:=hv.below B aU;clear b3 b8 b1 ho Y hd hlo;go_wp2_with fail;refine(c7.out _ f2).mono ?_;rintro e w5 ⟨p5,i5,q5,rfl,o5,a8⟩;have Z:=B.after a8 B.size;have f5:=keep a8 R
    cases o with
    |none=>
     have HN:=aT (c9.out rfl);go_wp2;go_roundw
     .exact⟨j+1,aA,aA,cD,HN.out,Z⟩
     exact aY
    |some x=>have HS:=aT (e4.out x rfl);have e7:=c8.out x rfl;have e0:=aT o5;clear R o5;go_wp2_with (at_builtin;refine AG rfl _ _ _ rfl 3 underlying25 intElem w5.heap.size _ [s] rfl (bB.lit1 w5 s ⟨aA,aA⟩ aU) _ x rfl (e0.out.ints.alloc _) bO bF ?_;intro v' w6 M e5;obtain⟨av,nv,cv,rfl⟩:=M.shape3);go_ret2;have z5:=Z.size;refine⟨av,nv,cv,by rw[HS.out];rfl,by rw[HS.out];exact M.mono Z.size,(Z.alloc Z.size _).grown e5 cK ?_⟩;intro r hr;have e9:some w5.heap.size=some r:=hr;have:=cI e9;have:=Z.size;omega
  .have b6:q=none:=by rw[<-F.out,List.drop_eq_nil_of_le aA];exact IF _ _ HL.out
   have a6:=aT b6;clear b6;go_wp2;go_ret2;exact⟨_,_,_,by rw[a6.out];rfl,by rw[a6.out];exact bB.lit0 wr B.size,B.alloc B.size _⟩
theorem ac5(g:Int)(v:Value)(l:aI)(hv:Ints w v l)(e8:l.length<=1048576):
  Calls prog 66 #[aM #[g,v]] w fun e w'=>∃ad i cp,e=aQ (aS #[aD ad i cp,aG (mH g l)])/\bB 3 w w' (aD ad i cp) (iV g l)/\Below w w w':=by
 obtain⟨a,c,rfl⟩:=hv.shape;obtain⟨K,d1,B1,z1⟩:=Box2.new w g (aD a l c) 29;obtain⟨W0,D⟩:=aW (w.alloc (.cells #[g,aD a l c] 29));rw[<-D]at K d1 B1 z1
 cases R:cO g l with
 |false=>
  have hx:qE g l=none:=by unfold qE;rw[R];rfl
  have I:mH g l=false:=by unfold mH;rw[hx];rfl
  have J:iV g l=[]:=by unfold iV;rw[hx];rfl
  have HB:=aT I;have HL:=aT J;have HF:=aT R;clear hx I J R;go_enter func66,ntmps66;go_wp2;rw[<-D];clear D;refine wp_loop_rounds 1 ?_;rw[rounds_succ];go_wp2_with fail;refine aV (eA g l _ _ (hv.below B1 aU)) ?_;intro w2 M;rw[HF.out];have B2:=B1.after M B1.size;go_wp2;go_ret2;exact⟨_,_,_,by rw[HB.out];rfl,by rw[HL.out];exact bB.lit0 w2 B2.size,B2.alloc B2.size _⟩
 |true=>
  obtain⟨h0,h6,hs,_⟩:=fF R;have hm:=fS R;obtain⟨G,rfl⟩:=cN h0;have hG:G<=6:=aA;have hp:=dW G 6 hG;have h8:(2:Int)^G<=64:=by simpa using hp.1
  have h9:=hp.2;obtain⟨f,Z⟩:=aW ((2:Int)^G-1);have b5:∀W,Calls prog 78 #[G] W fun e w'=>e=.returned f/\W=w':=fun W=>by rw[Z];exact fZ G W aA
  have N:qE G l=kC (fun k=>jH l k f) 0 (G+1):=by unfold qE;rw[if_pos R,Z];rfl
  obtain⟨q,hq⟩:=aW (kC (fun k=>jH l k f) 0 (G+1));rw[<-hq]at N;have I:mH G l=q.isSome:=by unfold mH;rw[N]
  have J:iV G l=q.getD []:=by unfold iV;rw[N]
  have e5:0<=f:=aA;have e6:f<64:=aA;have HM:=aT hm;have c9:=aT b5;have HB:=aT I;have HL:=aT J;have HQ:=aT hq;have HF:=aT R;clear hm b5 I J hq N R Z hs hp;go_enter func66,ntmps66;go_wp2_with fail;rw[<-D];clear D;go_loopw [4] (fun i wr=>∃k:Nat,k<=G+1/\i=aO k/\kC (fun k=>jH l k f) k (G+1-k)=q/\Box2 w wr G (aD a l c)) (fun i _=>G+1-(intOf i).toNat)
  .exact⟨0,aZ _,rfl,HQ.out.symm,⟨K,d1,B1,z1⟩⟩
  obtain⟨k,hk,rfl,b4,X⟩:=hrel;clear K d1 B1 z1;have S:=aT b4;clear b4;obtain⟨K,d1,O,z4⟩:=X;go_wp2_with fail;refine aV (eA G l _ _ (hv.below O aU)) ?_;intro w2 M;rw[HF.out];have X2:=(Box2.mk K d1 O z4).after M;clear K d1 O z4 M;obtain⟨K,d1,O,z4⟩:=X2;have zw:w.heap.size<w2.heap.size:=z4;clear z4;by_cases hlt:k<=G
  .have f3:=hv.below O aU;have b7:kC (fun k=>jH l k f) k (G+1-k)=(match jH l k f with|some x=>some x|none=>kC (fun k=>jH l k f) (k+1) (G+1-(k+1))):=by rw[show G+1-k=(G+1-(k+1))+1 from aA];rfl
   have a7:=aT b7;obtain⟨o,ho⟩:=aW (jH l k f);have b3:∀(W:World),Ints W (aD a l c) l->Calls prog 112 #[aD a l c,aK,f,k] W fun e w'=>
     ∃a9 i' b0,e=aQ (aS #[aD a9 i' b0,aG o.isSome])/\bB 3 W w' (aD a9 i' b0) (o.getD [])/\Below W W w':=fun W hW=>by
    have:=ZM l e8 HM.out k aA k rfl 0 (aZ _) f e5 e6 W _ hW;rw[List.drop_zero,<-ho]at this;exact this
   have c7:=aT b3;have HO:=aT ho;clear b7 b3 ho;go_wp2_with fail;go_region_held3 (fun w'=>w'.cell? ⟨w,0,none⟩=some (aO G)/\w'.cell? ⟨w,1,none⟩=some (aD a l c)) (go_keep)
    (first
     |(go_at_call 78;refine aV (c9.out _) ?_;rintro w5 rfl)
     |(go_at_call 112;refine(c7.out _ (f3.below (B:=w2.heap.size) rB aU)).mono ?_;rintro e w6 ⟨p6,i6,q6,rfl,o6,b1⟩;obtain⟨Y,e7⟩:=jN b1 w2.heap.size cK;have z6:=b1.size;(try simp at z6)))
   have B6:Below w w w6:=rB;have X6:Box2 w w6 G (aD a l c):=⟨(Y _ _ zw).trans K,(Y _ _ zw).trans d1,B6,aA⟩;have a8:=aT X6;have e4:=aT o6;clear X6 o6 Y e7 K d1
   cases o with
   |none=>
    have b6:kC (fun k=>jH l k f) (k+1) (G+1-(k+1))=q:=by have h1:=a7.out;rw[<-HO.out,S.out]at h1;exact h1.symm
    have e0:=aT b6;clear b6;go_wp2;go_roundw
    .exact⟨k+1,aA,cD,e0.out,a8.out⟩
    exact aY
   |some x=>
    have F:q=some x:=by have h1:=a7.out;rw[<-HO.out,S.out]at h1;exact h1
    have z:=aT F;clear F;go_wp2;go_ret2;exact⟨p6,i6,q6,by rw[HB.out,z.out];rfl,by rw[HL.out,z.out];exact e4.out.mono cK,a8.out.B⟩
  .have F:q=none:=by rw[<-S.out,show G+1-k=0 from aA];rfl
   have z:=aT F;clear F;go_wp2;go_ret2;exact⟨_,_,_,by rw[HB.out,z.out];rfl,by rw[HL.out,z.out];exact bB.lit0 w2 O.size,O.alloc O.size _⟩
theorem aiV(g:Int)(v:Value)(l:aI)(hv:Ints w v l):
  Calls prog 70 #[aM #[g,v]] w fun e w'=>∃ad cp,e=aQ (aS #[.slice ad (gG g l).length cp,aG (cO g l)])/\eR 3 25 w.heap.size w' (.slice ad (gG g l).length cp) (gG g l)/\Below w w w':=by
 have j8:=hv;obtain⟨a,c,rfl⟩:=hv.shape;obtain⟨T,Y⟩:=aW (gG g l);rw[<-Y];have e0:=aT Y;clear Y;go_enter func70,ntmps70;go_wp2_with fail;refine cZ ?_;intro V hV;have B:Below w w V:=iJ hV;have K:bK V w 29 #[g,aD a l c]:=iQ hV;have o0:eR 3 25 w.heap.size V (aD (some ⟨w+1,0,none⟩) 0 0) []:=by rw[hV];have:=eR.lit0 (EI:=3) (EO:=25) (B:=w.heap.size) (w.alloc (.cells #[g,aD a l c] 29)) bF;simpa using this
 clear hV;refine aV (eA g l _ V (hv.below B aU)) ?_;intro w1 b1;have o0:=o0.keep b1;have K:=K.keep b1;have B:=B.after b1 B.size;have G:=K.cell;have z:=K.lt
 cases hf:cO g l with
 |false=>
  have S:T=[]:=by rw[e0.out];unfold gG;rw[hf];rfl
  subst S;have HF:=aT hf;clear hf;go_wp2;go_ret2;exact⟨_,_,by rw[HF.out];rfl,o0,B⟩
 |true=>
  have S:T=aoB l:=by rw[e0.out];unfold gG;rw[hf];rfl
  have h1:=fF hf;have e5:∀s∈l,0<=s/\s<64:=fun s hs=>by obtain⟨k,hk,rfl⟩:=List.getElem_of_mem hs;exact(sZ hf).2.2 k hk
  have e8:=W9 hf;have b3:=h1.2.2.2;have F:T=[]++tU l.length l:=S;have m8:T.length<=64:=by rw[S];exact dC (O7 _ _) e8
  have HF:=aT hf;have h9:=aT F;have c8:=aT b3;have g6:=aT e5;have k0:=j8.below B aU;clear S h1 hf F b3 e5;have oz:=bB.lit0 (E:=3) (B:=w.heap.size) w1 B.size;go_wp2_with (at_builtin;refine qH rfl _ _ _ rfl 3 underlying25 intElem w.heap.size _ [] rfl oz _ l rfl (k0.alloc _) bO cK ?_;intro v2 O o2 g2 n2);have b2:Below w w O:=(B.alloc B.size (.cells #[] 3)).grown g2 cK (fun q N=>(oz.lt q N).1);have bz:Below w1 w1 O:=(cQ w1 (.cells #[] 3)).grown g2 bF (fun q N=>by have n3:w1.heap.size=q:=cI N;omega);have f2:=o0.keep bz;rw[List.nil_append]at o2;obtain⟨o9,p5,rfl⟩:=o2.ints.shape;clear o0 g2 n2;go_wp2_with fail;go_loopw [4,5] (fun ov rv wr=>∃(done:List aI) (k:Nat) (rest:aI) (oa:Option Addr) (oc:Nat) (ra:Option Addr) (rc:Nat),T=done++tU k rest/\rest.length<=k/\k<=64/\(rest.Pairwise (· < ·)/\∀s∈rest,0<=s/\s<64)/\ov=aD oa done oc/\rv=aD ra rest rc/\Ints wr (aD ra rest rc) rest/\eR 3 25 w.heap.size wr (aD oa done oc) done/\Below w w wr) (fun _ rv _=>lenOf rv)
  .exact⟨[],l.length,l,_,_,_,_,h9.out,aU,e8,⟨c8.out,g6.out⟩,rfl,rfl,o2.ints,f2,b2⟩
  obtain⟨done,k,rest,oa,oc,ra,rc,Y,o1,l3,⟨ha,hm⟩,rfl,rfl,hr,ho,Bo⟩:=hrel;obtain⟨wo,rfl⟩:∃z:World,z=wr:=⟨_,rfl⟩;clear f2;by_cases J:0<rest.length
  .have I:rest≠[]:=fun e=>by rw[e]at J;simp at J
   have c5:(0:Int)<(rest.length:Int):=aA;have hlt:=ad4 I ha hm;obtain⟨k',rfl⟩:∃k',k=k'+1:=⟨k-1,aA⟩;have Z:T=(done++[lF rest])++tU k' (uB rest):=by rw[Y,U8 _ _ I,eY];rfl
   have b7:=aaT ha;have b9:∀s∈uB rest,0<=s/\s<64:=fun s hs=>hm s (PH hs);have m9:done.length<=64:=by have:=congrArg List.length Y;rw[bN]at this;omega
   have a7:=wB rest _ wo hr hm aA;rw[LQ rest ha (fun x S=>(hm x S).1)]at a7;have a8:uB rest=(rest.take rest.length).filter (fun s=>!jI (lF rest) s):=by rw[List.take_length];rfl
   obtain⟨M,hM⟩:=aW (lF rest);obtain⟨R,hR⟩:=aW (uB rest);rw[<-hM]at a7 Z a8;rw[<-hR]at hlt Z b7 b9 a8;have i1:=aT Z;have h8:=aT a8;have h5:=aT (And.intro b7 b9);have h0:=aT a7;have HO:=aT ho;have HR:=aT hr;have h7:=aT hm;clear Y Z a8 b7 b9 a7 ho hM hR ha hm I;go_wp2_with fail;refine h0.out.mono ?_;rintro e O ⟨p2,i2,q2,rfl,o2,b2⟩;have j1:i2=M.length:=o2.ints.capLe.1;subst j1;have j5:=HR.out.keep b2;obtain⟨_,rb,l6,_,j9,_,e6,hc,hb⟩:=j5.vw;injection j9 with x1 _ x3;subst x1 x3;have HC:=aT hc;have g9:=aT e6;have d0:=aT o2;have f3:=bB.lit0 (E:=3) (B:=O.heap.size) O aU;clear hc e6 o2;go_wp2_with fail;go_loopw [7,8] (fun lv i wr=>∃(j:Nat) (ad:Option Addr) (nn cp:Nat),j<=rest/\i=aO j/\lv=aD ad nn cp/\bB 3 O wr (aD ad nn cp) ((rest.take j).filter (fun s=>!jI M s))/\Below O O wr) (fun _ i _=>rest.length-(intOf i).toNat)
   .exact⟨0,_,_,_,aZ _,rfl,rfl,f3,cQ _ _⟩
   obtain⟨j,ad,nn,cp,hj,rfl,rfl,hw,Bi⟩:=hrel;obtain⟨wi,rfl⟩:∃z:World,z=wr:=⟨_,rfl⟩;have HW:=aT hw;have zi:=Bi.size;clear hw f3;by_cases a6:j<rest
   .have e7:(j:Int)<(rest.length:Int):=aA;have ck:=bY HC.out hb Bi aU j a6;have ik:=fun W=>g9.out W j a6;have c6:=VS (fun s=>!jI M s) rest j a6;have k2:=h7.out rest[j] (aX a6);have n1:((rest.take j).filter (fun s=>!jI M s)).length<=64:=by have h1:=List.length_filter_le (fun s=>!jI M s) (rest.take j);have h2:=List.length_take_le j rest;omega
    obtain⟨x,S⟩:=aW (rest[j]);rw[<-S]at ck c6 k2;have b8:=rX M _ x wi (d0.out.ints.keep Bi);obtain⟨q,N⟩:=aW (jI M x);rw[<-N]at b8;have D:(rest.take (j+1)).filter (fun s=>!jI M s)=(rest.take j).filter (fun s=>!jI M s)++(if !q then [x] else []):=by rw[c6,N]
    have c9:=aT b8;clear c6 b8 S N
    cases q with
    |true=>
     rw[if_neg bF,List.append_nil]at D;have b6:=aT D;clear D;go_wp2_with (go_at_call 110;refine aV c9.out ?_;rintro w' rfl);go_roundw
     .exact⟨j+1,ad,nn,cp,aA,cD,rfl,by rw[b6.out];exact HW.out,Bi⟩
     exact aY
    |false=>
     rw[if_pos bF]at D;have b6:=aT D;clear D;go_wp2_with (first
      |(go_at_call 110;refine aV c9.out ?_;rintro w' rfl)
      |(at_builtin;refine eF rfl _ _ _ rfl 3 underlying25 intElem O.heap.size _ _ x wi.heap.size rfl rfl (cR wi #[x] 3 0 _ rfl) (HW.out.alloc _) ⟨aA,aA⟩ aA cK ?_;intro v' w6 b4 j0;obtain⟨av,nv,cv,rfl⟩:=b4.shape3))
     have B6:Below O O w6:=(Bi.alloc Bi.size (.cells #[x] 3)).grown j0 bO (fun q N=>(HW.out.lt q N).1);go_roundw
     .exact⟨j+1,av,nv,cv,aA,cD,rfl,by rw[b6.out];exact b4,B6⟩
     exact aY
   .have e7:¬(j:Int)<(rest.length:Int):=aA;have j2:j=rest.length:=aA;subst j2;have hw:=HW.out;rw[<-h8.out]at hw;have j3:nn=R.length:=hw.ints.capLe.1;subst j3;have i6:=aT hw;have e4:=b2.after Bi b2.size;have Bw:=Bo.after e4 Bo.size;have b5:=aT (HO.out.keep e4);have h6:=aT ((d0.out.keep Bi).mono Bo.size);clear hw;go_wp2_with (at_builtin;refine AF rfl _ _ _ rfl 3 25 BG underlying77 pU w.heap.size _ done (aD p2 M q2) M wi.heap.size rfl rfl (cR wi #[aD p2 M q2] 25 0 _ rfl) ((b5.out).alloc _) (h6.out.alloc _) aA (by have:=Bw.size;simp;omega) ?_;intro v7 w7 o7 g7);have rO:=b5.out.lt;obtain⟨p6,f5⟩:=(b5.out.alloc (.cells #[aD p2 M q2] 25)).row;have k1:=(i6.out.alloc (.cells #[aD p2 M q2] 25)).growL f5 BG g7;have B7:Below w w w7:=(Bw.alloc Bw.size (.cells #[aD p2 M q2] 25)).grown g7 (by have:=Bw.size;simp;omega) (fun q N=>(rO q N).1);obtain⟨k4,k6,rfl,_⟩:=o7.len;have n0:(done++[M]).length=done.length+1:=bF;go_wp2_with fail;go_roundw
    .exact⟨done++[M],k',R,k4,k6,ad,cp,i1.out,aA,aA,h5.out,rfl,rfl,k1.ints,o7,B7⟩
    simp[lenOf];omega
  .have I:rest=[]:=by cases rest with
    |nil=>rfl
    |cons x r=>simp at J
   subst I;have c5:¬(0:Int)<(0:Int):=aA;rw[ZP,List.append_nil]at Y;subst Y;go_wp2;go_ret2;exact⟨_,_,by rw[HF.out];rfl,ho,Bo⟩
theorem bB.litC{E:TypeId}{B:Nat}(w:World)(y:Int)(F:fM y)(hB:B<=w.heap.size):bB E B (w.alloc (.cells #[y] E)) (aD (some ⟨w,0,none⟩) 1 1) [y]:=
 ⟨World.ownsRow_lit w #[y] 1 hB bZ rfl,by intro z D;rw[eM]at D;subst D;exact F⟩
theorem anO(x y:Int)(r:aI)(z:0<=x):KU (y::r) x=(cU x y==x):=by
 show(dQ x y==0)=_;rw[<-O3 z,Bool.eq_iff_iff,beq_iff_eq,beq_iff_eq];constructor<;>intro h<;>omega
theorem amY(g:Int)(v:Value)(l:aI)(hv:Ints w v l):
  Calls prog 69 #[aM #[g,v]] w fun e w'=>∃ad i cp,e=aQ (aS #[aD ad i cp,aG (cO g l)])/\bB 3 w w' (aD ad i cp) (BY g l)/\Below w w w':=by
 have i6:=hv;obtain⟨a,c,rfl⟩:=hv.shape;obtain⟨T,hT⟩:=aW (BY g l);have a8:=wD g l;have O:=QW g l;have b4:T=BW (gG g l) (gG g l).length []:=hT;have a1:=aiV (w.alloc (.cells #[g,aD a l c] 29)) g _ l (i6.alloc _);rw[<-hT];obtain⟨S,e0⟩:=aW (gG g l);rw[<-e0]at a8 O b4 a1;obtain⟨bf,c8⟩:=aW (cO g l);rw[<-c8]at a1 |-;have g2:=aT b4;have HM:=aT O;have f6:=aT a1;clear hT b4 O a1 e0 c8;go_enter func69,ntmps69;go_wp2_with fail;refine f6.out.mono ?_;rintro e K ⟨ad,cp,rfl,d0,b2⟩;have B2:Below w w K:=(cQ _ _).after b2 bF;have f5:=aT (d0.mono (show w.heap.size<=_ from bF));clear b2 d0;have l5:IntKind.i64.wrap ((S.length:Int)-1)=(S.length:Int)-1:=dV;have o0:=bB.lit0 (E:=3) (B:=K.heap.size) K aU;go_wp2_with fail;go_loopw [6,7] (fun ov iv wr=>∃(i:Nat) (out:aI) (p:Option Addr) (q:Nat),i<=S.length/\iv=aO ((i:Int)-1)/\ov=aD p out q/\bB 3 K wr (aD p out q) out/\out.length+i<=64/\BW S i out=T/\(∀x∈out,0<=x/\x<64)/\Below K K wr) (fun _ iv _=>(intOf iv+1).toNat)
 .exact⟨S.length,[],_,_,aU,rfl,rfl,o0,by simpa using a8,g2.out.symm,bF,cQ _ _⟩
 obtain⟨i,out,p,q,hi,rfl,rfl,ho,h9,Y,e7,J⟩:=hrel;obtain⟨wo,rfl⟩:∃z:World,z=wr:=⟨_,rfl⟩;clear o0
 cases i with
 |zero=>have F:out=T:=Y;subst F;have j8:¬(0:Int)<=((0:Nat):Int)-1:=aA;clear Y;go_wp2;go_ret2;exact⟨_,_,_,rfl,ho.mono B2.size,B2.after J B2.size⟩
 |succ i=>
  have h6:((i+1:Nat):Int)-1=(i:Int):=aA;rw[h6];have hlt:i<S.length:=aA;have l4:IntKind.i64.wrap ((i:Int)-1)=(i:Int)-1:=dV;have F:=ahI S i hlt out;rw[Y]at F;obtain⟨gg,u,l0,k9,a6⟩:=(f5.out.keep J).view prog 77 underlying77 pU i hlt;have hM:=HM.out S[i] (aX hlt);obtain⟨M,c7⟩:=aW (S[i]);rw[<-c7]at F a6 hM;obtain⟨am,cm,rfl⟩:=a6.shape;obtain⟨_,mb,k2,_,b7,_,a9,e4,l1⟩:=a6.ints.vw;injection b7 with x1 _ x3;subst x1 x3;have f7:=aT e4;have f9:=aT a9;have f8:=aT hM.2;have b9:=aT F;have HO:=aT ho;have b3:=aT e7;clear e4 a9 hM Y F ho e7 c7 a6;go_wp2_with fail;go_loopw [6,8] (fun ov iv wi=>∃(j n:Nat),j<=M/\ov=aD p out q/\iv=aO j/\oX (M.drop j) out=oX M out/\wi=wo.drewN n) (fun _ iv _=>M.length-(intOf iv).toNat)
  .exact⟨0,0,aZ _,rfl,rfl,rfl,rfl⟩
  obtain⟨j,n,hj,rfl,rfl,R,rfl⟩:=hrel;by_cases Z:j<M
  .have c9:(j:Int)<(M.length:Int):=aA;have ck:=f7.out j Z;have ik:=fun W=>f9.out W j Z;have a7:=f8.out M[j] (aX Z);have N:=aa3 M j Z out;rw[R]at N;obtain⟨x,hx⟩:=aW (M[j]);rw[<-hx]at ck a7 N;clear hx R;have b1:KU out x=true->BW S i (x::out)=T:=fun h=>by rw[b9.out,N,h];rfl
   have e5:KU out x=false->oX (M.drop (j+1)) out=oX M out:=fun h=>by rw[N,h];rfl
   have HY:=aT b1;have HN:=aT e5;have e8:∀y∈x::out,0<=y/\y<64:=fun y hy=>by
    rcases fK.1 hy with e|h
    .rw[e];exact a7
    .exact b3.out y h
   have c5:=aT e8;have e9:fM x:=⟨aA,aA⟩;have c6:=aT e9;have hL:[x].length+out.length<=17592186044416:=bO;have HL:=aT hL;have zo:=J.size;clear N b1 e5 e8 e9 hL
   cases out with
   |nil=>
    go_wp2_with fail;go_quiet (fail);go_wp2_with (at_builtin;refine qH rfl _ _ _ rfl 3 underlying25 intElem K.heap.size _ [x] rfl (bB.litC _ x c6.out (by have:=J.size;simp;omega)) _ _ rfl ((HO.out.ints.drewN _).alloc _) HL.out (by have:=J.size;simp;omega) ?_;intro v' w6 D b5 _;obtain⟨av,nv,cv,rfl⟩:=D.shape3);have B6:Below K K w6:=((J.drewN' _).alloc (J.drewN' _).size (.cells #[x] 3)).grown b5 (by have:=J.size;simp;omega) (fun q hq=>by have e:=cI hq;have:=J.size;simp at e;omega);have b6:nv=1:=by have:=D.ints.capLe.1;simpa using this
    subst b6;go_roundw
    .exact⟨i,[x],av,cv,aA,cD,rfl,D,bO,HY.out rfl,c5.out,B6⟩
    simp[intOf]
   |cons y r=>
    have i7:=b3.out y bF;obtain⟨_,ob,f0,_,b7,_,b0,e6,l3⟩:=HO.out.ints.vw;injection b7 with x1 _ x3;subst x1 x3;have oc:=e6 0 bF;have oi:∀w',(Instr.indexAt 25 (aD p (r.length+1) q) (aO 0)).run prog w'=.ok (aP (some ⟨ob,f0,none⟩)) w':=fun w'=>by have:=b0 w' 0 bF;simpa using this
    rw[Nat.add_zero]at oc;simp only[List.getElem_cons_zero]at oc;have l7:((y::r).length:Int)=(r.length:Int)+1:=bF;have l2:((r.length:Int)+1==0)=false:=bO;have h5:bits .and .i64 x y=cU x y:=fV a7.1 aA i7.1 aA;have I:=anO x y r a7.1;obtain⟨z,hz⟩:=aW (cU x y);rw[<-hz]at h5 I;clear hz e6 b0
    cases h0:z==x with
    |false=>
     have hN:=HN.out (by rw[I,h0]);have g0:=aT hN;clear hN I;go_wp2_with fail;go_quiet (fail);go_wp2;go_roundw
     .exact⟨j+1,n+nq,aA,rfl,cD,g0.out,bF⟩
     exact aY
    |true=>
     have hY:=HY.out (by rw[I,h0]);have g4:=aT hY;clear hY I;go_wp2_with fail;go_quiet (fail);go_wp2_with (at_builtin;refine qH rfl _ _ _ rfl 3 underlying25 intElem K.heap.size _ [x] rfl (bB.litC _ x c6.out (by have:=J.size;simp;omega)) _ _ rfl ((HO.out.ints.drewN _).alloc _) HL.out (by have:=J.size;simp;omega) ?_;intro v' w6 D b5 _;obtain⟨av,nv,cv,rfl⟩:=D.shape3);have B6:Below K K w6:=((J.drewN' _).alloc (J.drewN' _).size (.cells #[x] 3)).grown b5 (by have:=J.size;simp;omega) (fun q hq=>by have e:=cI hq;have:=J.size;simp at e;omega);have b6:nv=(x::y::r).length:=by have:=D.ints.capLe.1;simpa using this
     subst b6;go_roundw
     .exact⟨i,x::y::r,av,cv,aA,cD,rfl,D,by simp at h9 |-;omega,g4.out,c5.out,B6⟩
     simp[intOf]
  .have c9:¬(j:Int)<(M.length:Int):=aA;have h7:j=M.length:=aA;subst h7;rw[VY]at R;have hC:BW S i out=T:=by rw[b9.out,<-R]
   have HC:=aT hC;clear hC R;go_wp2;go_roundw
   .exact⟨i,out,p,q,aA,cD,rfl,HO.out.drewN _,aA,HC.out,b3.out,J.drewN' _⟩
   simp[intOf]
theorem TG{p:Prop}(h:p:=by
  go_round
  .exact⟨k+1,aA,cD,by rw[H1.out],by rw[H2.out]⟩
  exact aY):p:=h
theorem amA(p:aI)(v:Value)(s:Nat)(w:World)(hv:Ints w v p)(e4:p.length<=6)(a6:∀x∈p,0<=x/\x<6)(hs:s<64):
  Calls prog 157 #[v,(s:Int)] w fun e w'=>e=aQ (aS #[(uJ p s p.length),(zJ p s p.length),aG (decide (0<=uJ p s p.length)&&AC p s)])/\w=w':=by
 obtain⟨a,b,e6,c,rfl,b8,Z,hc,hb⟩:=hv.vw;have HC:=aT hc;have a8:=aT Z;have a9:=aT a6;have R:=aT (iE s w aA);clear hc Z a6;go_enter func157,ntmps157;go_wp2;go_loop [7,8,9] (fun fi la i=>∃k:Nat,k<=p/\i=aO k/\fi=aO (uJ p s k)/\la=aO (zJ p s k)) (fun _ _ i=>p.length-(intOf i).toNat)
 .exact⟨0,aZ _,rfl,rfl,rfl⟩
 obtain⟨k,hk,rfl,rfl,rfl⟩:=hrel;by_cases hlt:k<p
 .have a1:(k:Int)<(p.length:Int):=aA;have ck:=HC.out k hlt;have ik:=fun W=>a8.out W k hlt;have hm:=a9.out _ (aX hlt);have h1:=JW p s k;have h2:=PN p s k;have h3:=RT p s k;obtain⟨e,he⟩:∃e:Nat,p[k]=(e:Int):=⟨p[k].toNat,aA⟩;have Y:N8 p s k=eI s e:=by unfold N8;rw[bR,cG hlt,Option.getD_some,he,cA]
  rw[he]at ck hm;rw[Y]at h1 h2;have c9:e<6:=aA;have S:=lL (s:Int) e aA aA;have D:=rP s e;obtain⟨y,hy⟩:=aW (fE (s:Int) e);rw[<-hy]at S D;have hp:=dW e 6 aA;have d0:(2:Int)^e<=64:=by simpa using hp.1
  have e0:=hp.2;obtain⟨F,K⟩:=aW (uJ p s k);obtain⟨L,M⟩:=aW (zJ p s k);rw[<-K]at h1 h3 |-;rw[<-M]at h2 |-;clear hp hy Y he hm K M
  cases z:eI s e with
  |false=>
   have b6:(y==1)=false:=by rw[D,z]
   rw[z,Bool.false_and,if_neg bF]at h1;rw[z,if_neg bF]at h2;have H1:=aT h1;have H2:=aT h2;clear z D h1 h2;go_wp2;exact TG
  |true=>
   have b6:(y==1)=true:=by rw[D,z]
   rw[z,Bool.true_and]at h1;rw[z,if_pos rfl]at h2;have H2:=aT h2;clear z D h2;by_cases I:F<0
   .rw[bH I,if_pos rfl]at h1;have H1:=aT h1;clear h1;go_wp2;exact TG
   .rw[bG I,if_neg bF]at h1;have H1:=aT h1;clear h1;go_wp2;exact TG
 .have b3:k=p.length:=aA;have a1:¬(k:Int)<(p.length:Int):=aA;have h3:=RT p s p.length;have h4:=al8 p s p.length;have N:AC p s=decide (zJ p s p.length-uJ p s p.length+1=(dG s:Int)):=rfl;subst b3;obtain⟨F,K⟩:=aW (uJ p s p.length);obtain⟨L,M⟩:=aW (zJ p s p.length);rw[<-K,<-M]at N |-;rw[<-K]at h3;rw[<-M]at h4;have e8:IntKind.i64.wrap (L-F)=L-F:=dV;have e9:IntKind.i64.wrap (L-F+1)=L-F+1:=dV;have b0:(L-F+1==(dG s:Int))=AC p s:=by rw[N];by_cases h:L-F+1=(dG s:Int)<;>simp[h]
  obtain⟨o,ho⟩:=aW (AC p s);rw[<-ho]at b0;have O:=aT (And.intro K (And.intro M ho));clear N K M ho;by_cases J:0<=F
  .go_wp2_with (go_at_call 84;refine aV R.out ?_;rintro w3 rfl);go_ret3;exact⟨by rw[<-O.out.1,<-O.out.2.1,<-O.out.2.2,bH J];rfl,rfl⟩
  .have HD:=aT (bG J);go_wp2_with (go_at_call 84;refine aV R.out ?_;rintro w3 rfl);go_ret3;exact⟨by rw[<-O.out.1,<-O.out.2.1,<-O.out.2.2,HD.out];rfl,rfl⟩
theorem akS{p:Prop}(h:p:=by
  have b7:=aT b0;clear b0;go_wp2_with (go_at_call 157;refine aV J.out ?_;rintro w3 rfl;rw[b7.out]);go_round
  .exact⟨k+1,aA,cD,R.out D.out⟩
  exact aY):p:=h
theorem ah1(N:Nat)(hN:N<=6)(l p:aI)(v u:Value)(w:World)(hv:Ints w v l)(hu:Ints w u p)(c6:p.length<=6)(a8:∀x∈p,0<=x/\x<6)(a9:∀e,e<N->(e:Int)∈p)(Z:∀s∈l,0<=s/\s<2^N):
  Calls prog 115 #[v,u] w fun e w'=>e=aQ (aG (qK l p))/\w=w':=by
 obtain⟨a,b,f5,c,rfl,e0,S,hc,hb⟩:=hv.vw;have e9:(2:Int)^N<=64:=by have:=(dW N 6 hN).1;simpa using this
 have b1:=fun(s:Nat) (hs:s<64)=>amA p _ s _ hu c6 a8 hs;obtain⟨a',c',rfl⟩:=hu.shape;have HC:=aT hc;have b3:=aT S;have b4:=aT Z;have b8:=aT b1;have b6:=aT a9;clear hc S Z b1 a8 a9;go_enter func115,ntmps115;go_wp2;go_loop [5] (fun i=>∃k:Nat,k<=l/\i=aO k/\(∀j,(Y:j<l.length)->j<k->tF p l[j]=true)) (fun i=>l.length-(intOf i).toNat)
 .exact⟨0,aZ _,rfl,by intros;omega⟩
 obtain⟨k,hk,rfl,I⟩:=hrel;have HY:=aT I;clear I;by_cases hlt:k<l
 .have a1:(k:Int)<(l.length:Int):=aA;have ck:=HC.out k hlt;have ik:=fun W=>b3.out W k hlt;have hm:=b4.out _ (aX hlt);obtain⟨s,M⟩:∃s:Nat,l[k]=(s:Int):=⟨l[k].toNat,aA⟩;have z:tF p l[k]=((s:Int)==0||AC p s):=by unfold tF;rw[M,cA]
  have O:=b8.out s aA;have F:((s:Int)==0)=false->decide (0<=uJ p s p.length)=true:=fun h=>by
   have K:s≠0:=fun e=>by rw[e]at h;exact Bool.noConfusion h
   have:((2^N:Nat):Int)=(2:Int)^N:=bF;exact bH (anN hN b6.out s aA K)
  have a6:tF p l[k]=false->qK l p=false:=fun h=>by unfold qK;rw[List.all_eq_false];exact⟨l[k],aX hlt,by rw[h];simp⟩
  have a7:tF p l[k]=true->∀j,(Y:j<l.length)->j<k+1->tF p l[j]=true:=fun h j Y f0=>by
   by_cases e:j=k
   .subst e;exact h
   .exact HY.out j Y aA
  rw[M]at ck;obtain⟨o,ho⟩:=aW (AC p s);obtain⟨q,hq⟩:=aW (decide (0<=uJ p s p.length));rw[<-ho]at z;rw[<-ho,<-hq]at O;rw[<-hq]at F;have b5:=aT a6;have R:=aT a7;have J:=aT O;clear a6 a7 O ho M hm hq
  cases K:((s:Int)==0) with
  |true=>
   have b9:((s:Int) != 0)=false:=by simp[bne,K]
   rw[K,Bool.true_or]at z;have D:=aT z;clear z F
   cases b0:(q&&o) with
   |true=>exact akS
   |false=>exact akS
  |false=>
   have b9:((s:Int) != 0)=true:=by simp[bne,K]
   have c8:=F K;subst c8;rw[K,Bool.false_or]at z;have D:=aT z;clear z F
   cases o with
   |true=>
    go_wp2_with (go_at_call 157;refine aV J.out ?_;rintro w3 rfl);go_round
    .exact⟨k+1,aA,cD,R.out D.out⟩
    exact aY
   |false=>go_wp2_with (go_at_call 157;refine aV J.out ?_;rintro w3 rfl);go_ret;exact⟨by rw[b5.out D.out];rfl,rfl⟩
 .have a1:¬(k:Int)<(l.length:Int):=aA;have hr:qK l p=true:=by unfold qK;rw[List.all_eq_true];intro x hx;obtain⟨j,Y,rfl⟩:=List.getElem_of_mem hx;exact HY.out j Y aA
  have HR:=aT hr;clear hr;go_wp2;go_ret;exact⟨by rw[HR.out];rfl,rfl⟩
theorem auL(g:Int)(v:Value)(l:aI)(hv:Ints w v l):
  Calls prog 72 #[aM #[g,v]] w fun e w'=>∃ad i cp,e=aQ (aS #[aD ad i cp,aG (DD g l)])/\bB 3 w w' (aD ad i cp) (tB g l)/\Below w w w':=by
 have g4:=hv;obtain⟨a,c,rfl⟩:=hv.shape;go_enter func72,ntmps72;go_wp2_with fail;refine cZ ?_;intro V hV;have B:Below w w V:=jP hV;have K:bK V w 29 #[g,aD a l c]:=jV hV;clear hV;refine aV (eA g l _ V (hv.below B aU)) ?_;intro w1 b1;have K:=K.keep b1;have B:=B.after b1 B.size;have G:=K.cell;have z:=K.lt
 cases hf:cO g l with
 |false=>
  have hx:DD g l=false/\tB g l=[]:=by unfold DD tB;rw[hf];exact⟨rfl,rfl⟩
  have HX:=aT hx;have o0:=bB.lit0 (E:=3) (B:=w.heap.size) w1 B.size;clear hx hf;go_wp2;go_ret2;exact⟨_,_,_,by rw[HX.out.1];rfl,by rw[HX.out.2];exact o0,B.alloc B.size _⟩
 |true=>
  obtain⟨j0,j1,c7,_⟩:=fF hf;obtain⟨N,rfl⟩:∃N:Nat,g=N:=⟨g.toNat,aA⟩;have J:=xA N N;have hR:CA (N:Int) l=(eV N N).find? (qK l):=by unfold CA;rw[cA]
  have hB:DD (N:Int) l=(CA (N:Int) l).isSome:=by unfold DD;rw[hf];rfl
  have hL:tB (N:Int) l=(CA (N:Int) l).getD []:=by unfold tB;rw[hf];rfl
  have a6:=WS N aA N [] (aD (some ⟨w1,0,none⟩) 0 0) (w1.alloc (.cells #[] 3)) w1.heap.size bF (bB.lit0 w1 aU) bF;rw[aoP]at a6;have b7:=aT a6;clear a6;obtain⟨D,Y⟩:=aW (eV N N);have R:=Y;have c8:=DN N aA N;have f5:(6:Nat)^N<=6^6:=bQ bZ aA;rw[<-Y]at hR J b7 c8;have h5:D.length<=46656:=aA;have b9:=aT hR;have b0:=aT hB;have b4:=aT hL;have f0:=aT J;have e9:=aT (show ∀s∈l,0<=s/\s<(2:Int)^N from fun s hs=>by have:=c7 s hs;rw[cA]at this;exact this);have b8:=aT (show ∀p∈eV N N,∀e,e<N->(e:Int)∈p from fun p hp e he=>alN aA hp he);rw[<-R]at b8;clear hf c7 J hR hB hL Y R c8 f5;go_wp2_with fail;refine b7.out.mono ?_;rintro e w2 ⟨pO,iO,qO,rfl,oO,b2⟩;obtain⟨_,_,e4,_⟩:=oO.len;have f9:iO=D.length:=by injection e4
  subst f9;have z1:=B.size;have Bx:=B.alloc B.size (.cells #[] 3);have K:=(K.alloc (.cells #[] 3)).keep b2;have B:=Bx.after b2 Bx.size;clear G z e4;have zk:=K.lt;go_wp2_with fail;go_loopw [5] (fun i wr=>∃k:Nat,k<=D/\i=aO k/\(∀j,(hj:j<D.length)->j<k->qK l D[j]=false)/\Below w2 w2 wr) (fun i _=>D.length-(intOf i).toNat)
  .exact⟨0,aZ _,rfl,by intros;omega,bJ _ _⟩
  obtain⟨k,hk,rfl,d0,Br⟩:=hrel;obtain⟨wo,rfl⟩:∃z:World,z=wr:=⟨_,rfl⟩;have HN:=aT d0;clear d0;have Bw:=B.after Br B.size;by_cases hlt:k<D
  .have c9:(k:Int)<(D.length:Int):=aA;obtain⟨gg,u,j2,F,hu⟩:=(oO.keep Br).view prog 77 underlying77 pU k hlt;have hm:=f0.out _ (aX hlt);have O:=fun y:Ext wo=>ah1 N aA l D[k] _ _ y.w (y.ints (g4.below Bw aU)) (y.ints hu.ints) aA (fun x hx=>by have:=hm.2 x hx;omega) (fun e he=>b8.out _ (aX hlt) e he) e9.out;have I:qK l D[k]=true->CA (N:Int) l=some D[k]:=fun h=>by rw[b9.out];exact YO k hlt HN.out h
   have Z:qK l D[k]=false->∀j,(hj:j<D.length)->j<k+1->qK l D[j]=false:=fun h j hj j3=>by
    by_cases e:j=k
    .subst e;exact h
    .exact HN.out j hj aA
   have b6:=aT Z;obtain⟨p,hp⟩:=aW (D[k]);simp only[<-hp]at O;rw[<-hp]at I hu Z b6;obtain⟨o,ho⟩:=aW (qK l p);simp only[<-ho]at O;have M:=aT O;have b3:=aT I;have S:=aT ho;have HU:=aT (hu.mono (show w.heap.size<=w1.heap.size from z1));obtain⟨ua,un,uc,rfl⟩:=hu.shape3;have Kw:=K.keep Br;have G:=Kw.cell;have zz:=Kw.lt;clear Z I O ho hp hm hu;have a1:=Kw.cell 1;simp only[List.getElem?_toArray,List.getElem?_cons_zero,List.getElem?_cons_succ]at a1;have p1:∀y:Ext wo,y.w.cell? ⟨w,1,none⟩=some (aD a l c):=fun y=>y.cell a1;have p2:∀y:Ext wo,y.w.cell? ⟨gg,k,none⟩=some (aD ua un uc):=fun y=>y.cell F;clear a1
   cases o with
   |true=>
    go_wp2_with fail;refine cW _ bM bM ?_
    repeat(first|go_big_quiet_skip|(go_big_quiet_want;go_big_quiet_op;first|go_big_quiet_on|(apply Exists.intro;refine⟨fun _=>?_,?_⟩;(go_at_call 115;exact fA (M.out _));go_big_quiet_on)))
    refine wpQuiet_nil ?_;rintro w5 ⟨⟨w5,b5⟩,rfl⟩
    try dsimp only
    have p3:=(Ext.mk w5 b5).cell F;clear p1 p2 M G zz;go_wp2;go_ret2;exact⟨ua,un,uc,by rw[b0.out,b3.out S.out.symm];rfl,by rw[b4.out,b3.out S.out.symm];exact HU.out.keep b5,Bw.after b5 Bw.size⟩
   |false=>
    go_wp2_with fail;refine cW _ bM bM ?_
    repeat(first|go_big_quiet_skip|(go_big_quiet_want;go_big_quiet_op;first|go_big_quiet_on|(apply Exists.intro;refine⟨fun _=>?_,?_⟩;(go_at_call 115;exact fA (M.out _));go_big_quiet_on)))
    refine wpQuiet_nil ?_;rintro w5 ⟨⟨w5,b5⟩,rfl⟩
    try dsimp only
    clear p1 p2 M G zz;go_wp2;go_roundw
    .exact⟨k+1,aA,cD,b6.out S.out.symm,Br.after b5 Br.size⟩
    exact aY
  .have c9:¬(k:Int)<(D.length:Int):=aA;have hr:CA (N:Int) l=none:=by rw[b9.out];exact UZ (fun j hj=>HN.out j hj aA)
   have HR:=aT hr;have o0:=bB.lit0 (E:=3) (B:=w.heap.size) wo Bw.size;clear hr;go_wp2;go_ret2;exact⟨_,_,_,by rw[b0.out,HR.out];rfl,by rw[b4.out,HR.out];exact o0,Bw.alloc Bw.size _⟩
end
section
open Go.Proofs.Tryz
open Go.ChangeShapes Go.WideShapes Go.ChangeAt Go.RowKit Go.G5
set_option maxRecDepth 100000
theorem mF:ownKnob prog.godebug=none:=bM
theorem aq1:laidOutB prog=true:=bM
section
variable {H:Type} {enc:TypeId×Value->H} {P:Program} {w:World} {base:Nat} {spare:Nat->Bool} {held:Bool}
end
theorem OJ{H:Type}{enc:TypeId×Value->H}{P:Program}{w:World}{base:Nat}{spare:Nat->Bool}{held:Bool}:
  ∀{ts:List TypeId} {I:List Value} {z:List (DataW H)} {F:List MemPlace},DataW.TrodAll enc P w base spare held ts I z F->z.length=ts.length
 |[],_,_,_,h=>by
  obtain⟨rfl,rfl,rfl⟩:=trodAll_nil h
  rfl
 |t::ts,_,_,_,h=>by obtain⟨v,J,d,D,a,b,rfl,rfl,rfl,h1,h2⟩:=trodAll_cons h;simp[OJ h2]
theorem J9{H:Type}{enc:TypeId×Value->H}{P:Program}(hl:laidOutB P=true){W W':World}(hb:Below W W W'):
  ∀{ts:List TypeId} {I:List Value} {F:List (DataW H)} {D:List MemPlace},(ts.all fun t=>P.readableRec t&&decide (t<P.types.size))=true ->
   DataW.TrodAll enc P W 0 (fun _=>true) true ts I F D->(∀x∈D,x.block<W.heap.size)->DataW.TrodAll enc P W' 0 (fun b=>decide (b<W.heap.size)) true ts I F D
 |[],_,_,_,_,h,_=>by obtain⟨rfl,rfl,rfl⟩:=trodAll_nil h;exact trodAll_mk0
 |t::ts,_,_,_,hr,h,hlt=>by obtain⟨v,K,d,J,a,b,rfl,rfl,rfl,h1,h2⟩:=trodAll_cons h;simp only[List.all_cons,Bool.and_eq_true,decide_eq_true_eq]at hr;exact trodAll_cons_mk (Below.trod hl hr.1.1 hr.1.2 h1 hb fun x z=>hlt x (by simp[z])) (J9 hl hb (by simpa using hr.2) h2 fun x z=>hlt x (by simp[z]))
section
variable {H:Type} {enc:TypeId×Value->H} {W:World} {base:Nat} {v:Value} {d:DataW H} {p:List MemPlace}
