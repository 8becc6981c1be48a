/- Lemmas for CardReports. No condition. -/
import Derived.Test.YtcpoomdoodlkjaaGreatDoorQ36
set_option maxRecDepth 100000
set_option maxHeartbeats 64000000
namespace Go.Proofs.YtcpoomdoodlkjaaGreatDoor
section
open Go.RowKit Go.G5 Go.Proofs.Tryz
theorem aaJ{w:World}{cs:Array Value}{T:TypeId}{n i:Nat}{u:Value}(z:w.heap.size=n)(h:cs[i]?=some u):(w.alloc (.cells cs T)).cell? ⟨n,i,none⟩=some u:=by
 subst z;exact bB w cs T i u h
theorem ac8(w:World)(n:Int)(v:Value)(l:List Int)(hv:aR w v l)(hl:l.length<=1048576)(hp:sV w):
  Calls prog 14 #[.agg #[n,v]] w fun e w'=>e=.returned (.string (EE n l))/\Below w w w':=by
 have a8:=hv;obtain⟨a,c,rfl⟩:=hv.shape;have K0:=aU.new w 26 #[n,aI a l.length c]
 cases hf:bM n l with
 |false=>have HX:=aN (XT hf);have HF:=aN hf;clear hf;go_enter func14,ntmps14;go_wp2_with fail;refine(dV n l _ _ (a8.alloc _)).mono ?_;rintro e w1 ⟨rfl,b1⟩;rw[HF.out];go_wp2;go_ret;exact⟨cI HX.out.symm,(bF _ _).after b1 (by simp)⟩
 |true=>
  obtain⟨TT,i1⟩:=aQ (EE n l);have n1:(∀x∈rH n l,dD x)->TT.size<=10700:=by rw[i1,BZ hf];exact US hf
  have hx:cK eH (xlL n l)=TT:=by rw[i1,BZ hf];exact ai8 n l
  unfold xlL XS at hx;have w0:=S6 hf;have w6:=TB hf;have v1:=RJ hf;have u9:=RE n l;have v6:=MH n l;have r1:0<l.length:=by obtain⟨N,_,_,h2,_⟩:=cX hf;have:=Nat.two_pow_pos N;omega
  have r0:xX n l=iP l:=by unfold xX;rw[hf];rfl
  have q9:yO n l=(iY l n.toNat n.toNat:Int):=by unfold yO;rw[hf];rfl
  have k0:iY l n.toNat n.toNat<l.length:=by obtain⟨N,rfl,h5,h2,_⟩:=cX hf;rw[Int.toNat_natCast,h2];exact EP l N h5 N aO
  have v7:I4 n l=l.getD (iY l n.toNat n.toNat) 0:=rfl;have d9:∀(W:World),aR W (aI a l.length c) l->Calls prog 72 #[.agg #[n,aI a l.length c],aM (iY l n.toNat n.toNat:Int)] W fun e w'=>e=.returned (I4 n l)/\Below W W w':=by intro W hW;obtain⟨N,hn,-⟩:=cX hf;subst hn;exact Z7 W N _ l hW hf _ k0
  have j0:=fun(W:World) (h:aR W (aI a l.length c) l)=>DM W n _ l h;have j2:=fun(W:World) (h:aR W (aI a l.length c) l)=>J5 W n _ l h;have j1:=fun(W:World) (h:aR W (aI a l.length c) l)=>ai3 W n _ l h;have i7:=fun(W:World) (h:aR W (aI a l.length c) l)=>aiS W n _ l h;have i8:=fun(W:World) (h:aR W (aI a l.length c) l)=>aaT W n _ l h hl;have i6:=fun(W:World) (h:aR W (aI a l.length c) l)=>abY W n _ l h hl;simp only[hf,r0]at j0;simp only[hf]at j2 j1;simp only[hf,q9]at i7;obtain⟨bD,n0⟩:=aQ (vA n l);obtain⟨bC,m9⟩:=aQ (jP n l);rw[<-n0,<-m9]at hx;simp only[<-n0]at i8;simp only[<-m9]at i6;obtain⟨d,hd⟩:=aQ (iY l n.toNat n.toNat);simp only[<-hd]at i7 d9;obtain⟨N1,h6⟩:=aQ (iP l);obtain⟨N2,h7⟩:=aQ (wB n l);obtain⟨N3,h8⟩:=aQ (I4 n l);obtain⟨N4,h9⟩:=aQ (qK n l);obtain⟨S2,m7⟩:=aQ (zE n l);obtain⟨S4,m8⟩:=aQ (uN n l);obtain⟨Z,hZ⟩:=aQ (zF n l);obtain⟨D,hD⟩:=aQ (rH n l);rw[<-h6,<-h7,<-h8,<-h9,<-m7,<-m8,<-hZ,<-hD]at hx;simp only[<-h6]at j0;simp only[<-hZ]at j2;simp only[<-h7,<-m7]at j1;simp only[<-h8]at d9;simp only[<-hD]at i8;simp only[<-h9,<-m8]at i6;rw[<-h6]at w0;rw[<-h7]at w6;rw[<-h8]at v1;rw[<-h9]at u9;rw[<-hD]at v6 n1;have g1:=aN i1;have HX:=aN hx;have u1:=aN n1;have HF:=aN hf;have p7:=aN d9;have t8:=aN j0;have u0:=aN j2;have t9:=aN j1;have s9:=aN i7;have t1:=aN i8;have p6:=aN i6;clear hx hf i1 n1 d9 j0 j2 j1 i7 i8 i6 n0 m9 hd h6 h7 h8 h9 m7 m8 hZ hD r0 q9 v7 k0 r1;go_enter func14,ntmps14;go_wp2_with fail;refine(dV n l _ _ (a8.alloc _)).mono ?_;rintro e w1 ⟨rfl,b1⟩;rw[HF.out];have B1:Below w w w1:=(bF _ _).after b1 (by simp);have K1:=K0.keep b1;clear K0 b1;have G:=K1.cell;have z:=K1.lt;go_wp2_with fail;refine(t8.out _ (a8.below B1 aO)).mono ?_;rintro e w2 ⟨rfl,b2⟩;have B2:=B1.after b2 B1.size;have K2:=K1.keep b2;clear B1 K1 G z b2;have G:=K2.cell;have z:=K2.lt;go_wp2_with fail;refine(u0.out _ (a8.below B2 aO)).mono ?_;rintro e w3 ⟨pZ,iZ,qZ,rfl,oZ,b3⟩;have v9:iZ=Z.length:=oZ.ints.capLe.1;subst v9;have q7:=oZ.ints;have B3:=B2.after b3 B2.size;have K3:=K2.keep b3;clear B2 K2 G z b3 oZ;have G:=K3.cell;have z:=K3.lt;go_wp2_with fail;refine(t9.out _ (a8.below B3 aO)).mono ?_;rintro e w4 ⟨rfl,b4⟩;have q8:=q7.keep b4;have B4:=B3.after b4 B3.size;have K4:=K3.keep b4;clear B3 K3 G z b4 q7;have G:=K4.cell;have z:=K4.lt;go_wp2_with fail;refine(s9.out _ (a8.below B4 aO)).mono ?_;rintro e w5 ⟨rfl,b5⟩;have hZ:=q8.keep b5;have B5:=B4.after b5 B4.size;have K2:=K4.keep b5;clear B4 K4 G z b5 q8;obtain⟨bo,e4⟩:=aQ w5.heap.size;have zb:w.heap.size<bo:=by rw[e4];exact K2.lt
  have zc:w5.heap.size<=bo:=aK;have L3:gT bo (w5.alloc (.cells #[()] 45)) []:=by rw[e4];exact gT.new w5
  have B3:=B5.alloc B5.size (.cells #[()] 45);have C3:Below bo w5 (w5.alloc (.cells #[()] 45)):=by rw[e4];exact bF w5 _
  have t6:=aN (show(w5.alloc (.cells #[()] 45)).heap.size=bo+1 by rw[e4];simp);go_wp2_with fail;rw[<-e4];clear e4 B5;have r3:=L3.lt;refine(dQ bo [] [(⟨#[101,120,116,114,101,109,101]⟩:ByteArray)] (bo+1) 1 1 _ (L3.keep (bF _ _)) rfl (yM (aaJ t6.out rfl)) (by simp only[List.length_cons,List.length_nil];omega)).mono ?_;rintro e w11 ⟨rfl,l4,q0⟩;have k4:=(B3.alloc B3.size _).after q0 aK;have o6:=(C3.alloc (Nat.le_of_lt r3) _).after q0 aO;clear B3 C3 L3;obtain⟨l9,F⟩:=aQ ([]++[(⟨#[101,120,116,114,101,109,101]⟩:ByteArray)]);rw[<-F]at l4;have y1:l9.length<=1:=by rw[F,List.length_append];first|(simp only[List.length_cons,List.length_nil];omega)|(have:=cT _ _;omega)|(simp[eB];omega)
  go_wp2_with fail;refine(eW bo l9 (⟨#[109,105,110,105,109,117,109]⟩:ByteArray) (N1) ⟨by omega,by omega⟩ _ l4 (hp.keep k4) aK).mono ?_;rintro e w12 ⟨rfl,g2,q1⟩;have f7:=k4.after q1 aK;have k9:=o6.after q1 aO;clear k4 o6 l4;obtain⟨m1,I⟩:=aQ (l9++[(⟨#[109,105,110,105,109,117,109]⟩:ByteArray),bQ (N1)]);rw[<-I]at g2;have y2:m1.length<=3:=by rw[I,List.length_append];first|(simp only[List.length_cons,List.length_nil];omega)|(have:=cT _ _;omega)|(simp[eB];omega)
  go_wp2_with fail;refine(kQ n Z _ _ (hZ.below k9 zc) (hp.keep f7)).mono ?_;rintro e w8 ⟨rfl,g6⟩;have k5:=f7.after g6 f7.size;have o7:=k9.after g6 (Nat.le_of_lt g2.lt);have l5:=g2.keep g6;clear f7 k9 g2 g6;go_wp2_with fail;have r4:=l5.lt;refine(dQ bo m1 [(⟨#[115,101,116,115]⟩:ByteArray),dB n Z] w8.heap.size 2 2 _ (l5.keep (bF _ _)) rfl (fR (bB _ _ _ _ _ rfl) (bB _ _ _ _ _ rfl)) (by simp only[List.length_cons,List.length_nil];omega)).mono ?_;rintro e w14 ⟨rfl,l6,q2⟩;have k6:=(k5.alloc k5.size _).after q2 aK;have o8:=(o7.alloc (Nat.le_of_lt r4) _).after q2 aO;clear k5 o7 l5;obtain⟨m2,J⟩:=aQ (m1++[(⟨#[115,101,116,115]⟩:ByteArray),dB n Z]);rw[<-J]at l6;have y3:m2.length<=5:=by rw[J,List.length_append];first|(simp only[List.length_cons,List.length_nil];omega)|(have:=cT _ _;omega)|(simp[eB];omega)
  go_wp2_with fail;refine(eW bo m2 (⟨#[109,97,120,105,109,117,109]⟩:ByteArray) (N2) ⟨by omega,by omega⟩ _ l6 (hp.keep k6) aK).mono ?_;rintro e w15 ⟨rfl,g3,q3⟩;have f8:=k6.after q3 aK;have o9:=o8.after q3 aO;clear k6 o8 l6;obtain⟨m3,K⟩:=aQ (m2++[(⟨#[109,97,120,105,109,117,109]⟩:ByteArray),bQ (N2)]);rw[<-K]at g3;have y4:m3.length<=7:=by rw[K,List.length_append];first|(simp only[List.length_cons,List.length_nil];omega)|(have:=cT _ _;omega)|(simp[eB];omega)
  go_wp2_with fail;refine(gM n S2 _ (hp.keep f8)).mono ?_;rintro e w9 ⟨rfl,g7⟩;have k7:=f8.after g7 f8.size;have p0:=o9.after g7 (Nat.le_of_lt g3.lt);have l7:=g3.keep g7;clear f8 o9 g3 g7;go_wp2_with fail;have r5:=l7.lt;refine(dQ bo m3 [(⟨#[115,101,116]⟩:ByteArray),bZ n S2] w9.heap.size 2 2 _ (l7.keep (bF _ _)) rfl (fR (bB _ _ _ _ _ rfl) (bB _ _ _ _ _ rfl)) (by simp only[List.length_cons,List.length_nil];omega)).mono ?_;rintro e w17 ⟨rfl,g4,q4⟩;have f9:=(k7.alloc k7.size _).after q4 aK;have l0:=(p0.alloc (Nat.le_of_lt r5) _).after q4 aO;clear k7 p0 l7;obtain⟨m4,M⟩:=aQ (m3++[(⟨#[115,101,116]⟩:ByteArray),bZ n S2]);rw[<-M]at g4;have y5:m4.length<=9:=by rw[M,List.length_append];first|(simp only[List.length_cons,List.length_nil];omega)|(have:=cT _ _;omega)|(simp[eB];omega)
  have G:=(bY K2 l0 zb).cell;go_wp2_with fail;clear G;refine(p7.out _ (a8.below f9 aO)).mono ?_;rintro e w18 ⟨rfl,g8⟩;have k8:=f9.after g8 f9.size;have p1:=l0.after g8 (Nat.le_of_lt g4.lt);have p8:=g4.keep g8;clear f9 l0 g4 g8;go_wp2_with fail;refine(eW bo m4 (⟨#[100,111,117,98,108,101]⟩:ByteArray) (N3) ⟨by omega,by omega⟩ _ p8 (hp.keep k8) aK).mono ?_;rintro e w19 ⟨rfl,g5,q5⟩;have g0:=k8.after q5 aK;have l1:=p1.after q5 aO;clear k8 p1 p8;obtain⟨d0,O⟩:=aQ (m4++[(⟨#[100,111,117,98,108,101]⟩:ByteArray),bQ (N3)]);rw[<-O]at g5;have y6:d0.length<=11:=by rw[O,List.length_append];first|(simp only[List.length_cons,List.length_nil];omega)|(have:=cT _ _;omega)|(simp[eB];omega)
  have G:=(bY K2 l1 zb).cell;go_wp2_with fail;clear G;refine(t1.out _ (a8.below g0 aO)).mono ?_;rintro e w20 ⟨pD,iD,qD,rfl,oD,g9⟩;have c9:=g0.after g9 g0.size;have e7:=l1.after g9 (Nat.le_of_lt g5.lt);have e8:=g5.keep g9;clear g0 l1 g5 g9;have v8:iD=D.length:=oD.ints.capLe.1;subst v8;have j3:=u1.out oD.ints.inR;have m6:=oD.ints;clear oD
  cases bD with
  |false=>
   clear m6;have G:=(bY K2 e7 zb).cell;go_wp2_with fail;clear G;refine(p6.out _ (a8.below c9 aO)).mono ?_;rintro e x0 ⟨rfl,d5⟩;have a6:=c9.after d5 c9.size;have e0:=e7.after d5 (Nat.le_of_lt e8.lt);have c8:=e8.keep d5;clear c9 e7 e8 d5
   cases bC with
   |false=>
    have hT:cK eH d0=TT:=by rw[O,M,K,J,I,F];exact HX.out
    have hz:=j3;rw[<-hT]at hz;have HT:=aN hT;clear hT F I J K M O;obtain⟨lv,KL,oL⟩:=c8;have G:=KL.cell;go_wp2_with fail;clear G;refine(dP (bo+1) lv d0 _ oL aK aK).mono ?_;rintro e wz ⟨rfl,bz⟩;go_wp2;go_ret;exact⟨cI (HT.out.trans g1.out),a6.after bz a6.size⟩
   |true=>
    go_wp2_with fail;refine(eW bo d0 (⟨#[99,117,116]⟩:ByteArray) (N4) ⟨by omega,by omega⟩ _ c8 (hp.keep a6) aK).mono ?_;rintro e y9 ⟨rfl,d8,j8⟩;have d7:=a6.after j8 aK;have j6:=e0.after j8 aO;clear a6 e0 c8;obtain⟨e9,b8⟩:=aQ (d0++[(⟨#[99,117,116]⟩:ByteArray),bQ (N4)]);rw[<-b8]at d8;have u5:e9.length<=13:=by rw[b8,List.length_append];first|(simp only[List.length_cons,List.length_nil];omega)|(have:=cT _ _;omega)|(simp[eB];omega)
    go_wp2_with fail;refine(gM n S4 _ (hp.keep d7)).mono ?_;rintro e k1 ⟨rfl,Y⟩;have R:=d7.after Y d7.size;have c7:=j6.after Y (Nat.le_of_lt d8.lt);have S:=d8.keep Y;clear d7 j6 d8 Y;go_wp2_with fail;have o1:=S.lt;refine(dQ bo e9 [(⟨#[111,102]⟩:ByteArray),bZ n S4] k1.heap.size 2 2 _ (S.keep (bF _ _)) rfl (fR (bB _ _ _ _ _ rfl) (bB _ _ _ _ _ rfl)) (by simp only[List.length_cons,List.length_nil];omega)).mono ?_;rintro e k2 ⟨rfl,b0,a1⟩;have a9:=(R.alloc R.size _).after a1 aK;have e6:=(c7.alloc (Nat.le_of_lt o1) _).after a1 aO;clear R c7 S;obtain⟨f2,c5⟩:=aQ (e9++[(⟨#[111,102]⟩:ByteArray),bZ n S4]);rw[<-c5]at b0;have u7:f2.length<=15:=by rw[c5,List.length_append];first|(simp only[List.length_cons,List.length_nil];omega)|(have:=cT _ _;omega)|(simp[eB];omega)
    have hT:cK eH f2=TT:=by rw[c5,b8,O,M,K,J,I,F];exact HX.out
    have hz:=j3;rw[<-hT]at hz;have HT:=aN hT;clear hT F I J K M O b8 c5;obtain⟨lv,KL,oL⟩:=b0;have G:=KL.cell;go_wp2_with fail;clear G;refine(dP (bo+1) lv f2 _ oL aK aK).mono ?_;rintro e wz ⟨rfl,bz⟩;go_wp2;go_ret;exact⟨cI (HT.out.trans g1.out),a9.after bz a9.size⟩
  |true=>
   go_wp2_with fail;refine(kX bo d0 (⟨#[100,117,97,108]⟩:ByteArray) _ (D) _ m6 aK e8 (hp.keep c9) aK).mono ?_;rintro e x0 ⟨rfl,c8,d5⟩;have a6:=c9.after d5 aK;have e0:=e7.after d5 aO;clear c9 e7 e8;obtain⟨f4,b6⟩:=aQ (d0++[(⟨#[100,117,97,108]⟩:ByteArray),eX (D)]);rw[<-b6]at c8;have y7:f4.length<=13:=by rw[b6,List.length_append];first|(simp only[List.length_cons,List.length_nil];omega)|(have:=cT _ _;omega)|(simp[eB];omega)
   clear m6;have G:=(bY K2 e0 zb).cell;go_wp2_with fail;clear G;refine(p6.out _ (a8.below a6 aO)).mono ?_;rintro e w62 ⟨rfl,h0⟩;have e5:=a6.after h0 a6.size;have p5:=e0.after h0 (Nat.le_of_lt c8.lt);have l8:=c8.keep h0;clear a6 e0 c8 h0
   cases bC with
   |false=>
    have hT:cK eH f4=TT:=by rw[b6,O,M,K,J,I,F];exact HX.out
    have hz:=j3;rw[<-hT]at hz;have HT:=aN hT;clear hT F I J K M O b6;obtain⟨lv,KL,oL⟩:=l8;have G:=KL.cell;go_wp2_with fail;clear G;refine(dP (bo+1) lv f4 _ oL aK aK).mono ?_;rintro e wz ⟨rfl,bz⟩;go_wp2;go_ret;exact⟨cI (HT.out.trans g1.out),e5.after bz e5.size⟩
   |true=>
    go_wp2_with fail;refine(eW bo f4 (⟨#[99,117,116]⟩:ByteArray) (N4) ⟨by omega,by omega⟩ _ l8 (hp.keep e5) aK).mono ?_;rintro e k1 ⟨rfl,S,Y⟩;have R:=e5.after Y aK;have c7:=p5.after Y aO;clear e5 p5 l8;obtain⟨f0,b9⟩:=aQ (f4++[(⟨#[99,117,116]⟩:ByteArray),bQ (N4)]);rw[<-b9]at S;have u6:f0.length<=15:=by rw[b9,List.length_append];first|(simp only[List.length_cons,List.length_nil];omega)|(have:=cT _ _;omega)|(simp[eB];omega)
    go_wp2_with fail;refine(gM n S4 _ (hp.keep R)).mono ?_;rintro e k2 ⟨rfl,a1⟩;have a9:=R.after a1 R.size;have e6:=c7.after a1 (Nat.le_of_lt S.lt);have b0:=S.keep a1;clear R c7 S a1;go_wp2_with fail;have o2:=b0.lt;refine(dQ bo f0 [(⟨#[111,102]⟩:ByteArray),bZ n S4] k2.heap.size 2 2 _ (b0.keep (bF _ _)) rfl (fR (bB _ _ _ _ _ rfl) (bB _ _ _ _ _ rfl)) (by simp only[List.length_cons,List.length_nil];omega)).mono ?_;rintro e z1 ⟨rfl,j7,j9⟩;have j4:=(a9.alloc a9.size _).after j9 aK;have x4:=(e6.alloc (Nat.le_of_lt o2) _).after j9 aO;clear a9 e6 b0;obtain⟨f3,c6⟩:=aQ (f0++[(⟨#[111,102]⟩:ByteArray),bZ n S4]);rw[<-c6]at j7;have u8:f3.length<=17:=by rw[c6,List.length_append];first|(simp only[List.length_cons,List.length_nil];omega)|(have:=cT _ _;omega)|(simp[eB];omega)
    have hT:cK eH f3=TT:=by rw[c6,b9,b6,O,M,K,J,I,F];exact HX.out
    have hz:=j3;rw[<-hT]at hz;have HT:=aN hT;clear hT F I J K M O b6 b9 c6;obtain⟨lv,KL,oL⟩:=j7;have G:=KL.cell;go_wp2_with fail;clear G;refine(dP (bo+1) lv f3 _ oL aK aK).mono ?_;rintro e wz ⟨rfl,bz⟩;go_wp2;go_ret;exact⟨cI (HT.out.trans g1.out),j4.after bz j4.size⟩
theorem ai4(w:World)(n:Int)(v:Value)(l:List Int)(hv:aR w v l):
  Calls prog 76 #[.agg #[n,v]] w fun e w'=>e=.returned (.tuple #[(wB n l),(zE n l),.bool (bM n l)])/\Below w w w':=by
 have e5:=hv;obtain⟨a,b,b4,c,rfl,d7,b0,hc,hb⟩:=hv.view prog 24 3 underlying24 aS;have HC:=aN hc;have S:=aN b0;clear hc b0;go_enter func76,ntmps76;go_wp2_with fail;refine bH ?_;intro V hV;have B:Below w w V:=fU hV;have K:aU V w 26 #[n,aI a l.length c]:=eJ hV;clear hV;refine(dJ n l _ V (hv.below B aO)).mono ?_;rintro e w1 ⟨rfl,b1⟩;have K:=K.keep b1;have B:=B.after b1 B.size;have G:=K.cell;have z:=K.lt
 cases hf:bM n l with
 |false=>
  have N:wB n l=0/\zE n l=0:=by unfold wB zE;rw[hf];exact⟨rfl,rfl⟩
  have Z:=aN (And.intro N hf);clear N hf;go_wp2;go_ret3;exact⟨by rw[Z.out.1.1,Z.out.1.2,Z.out.2];rfl,B⟩
 |true=>
  have N:wB n l=l.getD (lF l l.length) 0/\zE n l=(lF l l.length:Int):=by unfold wB zE;rw[hf];exact⟨rfl,rfl⟩
  have O:l.length<=32/\0<l.length:=by obtain⟨N',hN,h5,e4,O,_⟩:=cX hf;have:=Nat.two_pow_pos N';exact⟨O,by omega⟩
  have Z:=aN (And.intro N hf);have h1:=aeP l;clear N hf;go_wp2_with fail;go_loopw [5,6] (fun c5 i wr=>∃t:Nat,1<=t/\t<=l.length/\i=aM t/\c5=aM (lF l t:Int)/\Below w1 w1 wr) (fun _ i _=>l.length-(intOf i).toNat)
  case atStart=>exact⟨1,aO,by omega,rfl,by rw[h1];rfl,Below.refl _ _⟩
  case round=>
   obtain⟨t,c7,ht,rfl,rfl,Br⟩:=hrel;obtain⟨wo,rfl⟩:∃z:World,z=wr:=⟨_,rfl⟩;have Bw:=B.after Br B.size;have Kw:=K.keep Br;have J:=EU l t c7;clear G z;have G:=Kw.cell;have z:=Kw.lt;by_cases hlt:t<l.length
   ·have b3:(t:Int)<(l.length:Int):=aK;have I:lF l t<l.length:=aK;have D:=OK l t;have M:=aW HC.out hb Bw aO t hlt;have e6:=fun W=>S.out W t hlt;have F:=aW HC.out hb Bw aO _ I;have a7:=fun W=>S.out W _ I;rw[<-aX l t hlt]at M;rw[<-aX l _ I]at F;obtain⟨q,R⟩:=aQ (lF l t);simp only[<-R]at D F a7;rw[<-R];obtain⟨x,N⟩:=aQ (l.getD t 0);obtain⟨y,hy⟩:=aQ (l.getD q 0);rw[<-N,<-hy]at D;rw[<-N]at M;rw[<-hy]at F;have e1:∀y:Ext wo,y.w.cell? ⟨w.heap.size,1,none⟩=some (aI a l.length c):=fun y=>y.cell (Kw.cell 1);have e2:∀z:Ext wo,z.w.cell? ⟨b,b4+t,none⟩=some (aM x):=fun z=>z.cell M;have e3:∀z:Ext wo,z.w.cell? ⟨b,b4+q,none⟩=some (aM y):=fun z=>z.cell F;clear R N hy J I M F;by_cases a9:y<x
    ·rw[if_pos a9]at D;have Y:=aN D;clear D;go_wp2_with fail;refine bN _ aT aT ?_
     repeat(first|go_big_quiet_skip|(go_big_quiet_want;go_big_quiet_op;first|go_big_quiet_on|(apply Exists.intro;refine⟨fun _=>?_,?_⟩;(fail);go_big_quiet_on)))
     refine wpQuiet_nil ?_;rintro w5 ⟨⟨w5,b5⟩,rfl⟩
     try dsimp only
     go_wp2;go_roundw
     case rel=>exact⟨t+1,by omega,by omega,by go_num,by rw[Y.out],Br.after b5 Br.size⟩
     case measure=>simp[intOf];omega
    ·rw[if_neg a9]at D;have Y:=aN D;clear D;go_wp2_with fail;refine bN _ aT aT ?_
     repeat(first|go_big_quiet_skip|(go_big_quiet_want;go_big_quiet_op;first|go_big_quiet_on|(apply Exists.intro;refine⟨fun _=>?_,?_⟩;(fail);go_big_quiet_on)))
     refine wpQuiet_nil ?_;rintro w5 ⟨⟨w5,b5⟩,rfl⟩
     try dsimp only
     go_wp2;go_roundw
     case rel=>exact⟨t+1,by omega,by omega,by go_num,by rw[Y.out],Br.after b5 Br.size⟩
     case measure=>simp[intOf];omega
   ·have b3:¬(t:Int)<(l.length:Int):=aK;have c8:t=l.length:=aK;subst c8;have F:=aW HC.out hb Bw aO _ J;have a7:=fun W=>S.out W _ J;obtain⟨q,R⟩:=aQ (lF l l.length);simp only[<-R]at F a7 J;rw[<-aX l _ J]at F;rw[<-R];obtain⟨y,hy⟩:=aQ (l.getD q 0);rw[<-hy]at F;have HY:=aN hy;have HQ:=aN R;clear hy R;go_wp2;go_ret3;exact⟨by rw[Z.out.1.1,Z.out.1.2,Z.out.2,<-HQ.out,<-HY.out];rfl,Bw⟩
theorem aiT(w:World)(n:Int)(v:Value)(l:List Int)(hv:aR w v l):
  Calls prog 77 #[.agg #[n,v]] w fun e w'=>e=.returned (.tuple #[(yO n l),.bool (bM n l)])/\Below w w w':=by
 have l8:=hv;obtain⟨a,b,I,c,rfl,j9,e9,hc,hb⟩:=hv.view prog 24 3 underlying24 aS;have HC:=aN hc;have a8:=aN e9;clear hc e9;go_enter func77,ntmps77;go_wp2_with fail;refine bH ?_;intro V hV;have B:Below w w V:=fU hV;have K:aU V w 26 #[n,aI a l.length c]:=eJ hV;clear hV;refine(dJ n l _ V (hv.below B aO)).mono ?_;rintro e w1 ⟨rfl,b1⟩;have K:=K.keep b1;have B:=B.after b1 B.size;have G:=K.cell;have z:=K.lt
 cases hf:bM n l with
 |false=>
  have hx:yO n l=0:=by unfold yO;rw[hf];rfl
  have HX:=aN (And.intro hx hf);clear hx hf;go_wp2;go_ret2;exact⟨by rw[HX.out.1,HX.out.2];rfl,B⟩
 |true=>
  obtain⟨N,rfl,h5,f0,j8,f9⟩:=cX hf;have hx:yO N l=(iY l N N:Int):=by unfold yO;rw[hf,if_pos rfl,Int.toNat_natCast]
  have c7:=fE N w1 aK;rw[show((2:Int)^N-1)=((jH N 0 0:Nat):Int) by
   rw[RI];have:((2^N:Nat):Int)=(2:Int)^N:=by simp
   have:=Nat.two_pow_pos N;omega]at c7
  have h0:=aN c7;have HX:=aN (And.intro hx hf);have a9:=aN f0;have b0:=aN f9;clear hx hf c7 f0 f9;go_wp2_with fail;refine h0.out.mono ?_;rintro e w2 ⟨rfl,rfl⟩;go_wp2_with fail;go_loopw [4,5,6] (fun av bv i wr=>∃e:Nat,e<=N/\i=aM e/\av=aM (iY l N e:Int)/\bv=aM (jH N (iY l N e) e:Int)/\Below w1 w1 wr) (fun _ _ i _=>N-(intOf i).toNat)
  case atStart=>exact⟨0,Nat.zero_le _,rfl,rfl,rfl,Below.refl _ _⟩
  case round=>
   obtain⟨e,he,rfl,rfl,rfl,Br⟩:=hrel;obtain⟨wo,rfl⟩:∃z:World,z=wr:=⟨_,rfl⟩;have Kw:=K.keep Br;clear G z;have G:=Kw.cell;have z:=Kw.lt;by_cases hlt:e<N
   ·have g0:(e:Int)<(N:Int):=aK;have Bw:=B.after Br B.size;have d6:=EP l N h5 e he;have i6:(2:Nat)^e<=32:=Nat.pow_le_pow_right (n:=2) (j:=5) aY aK;have i1:(2:Nat)^N<=32:=Nat.pow_le_pow_right (n:=2) (j:=5) aY aK;have D:=NS l N e;obtain⟨x,hx⟩:=aQ (iY l N e);rw[<-hx]at d6 D ⊢;obtain⟨⟨f1,f2⟩,⟨f3,f4⟩,⟨f5,f6⟩,f7,f8⟩:=GI N aK e hlt x aK d6;have g1:=fZ x e aK aK;have g2:=f1;rw[f2]at D;rw[f1]at g1 D;have b4:eA l x e=l.getD (x+2^e) 0-l.getD x 0:=by unfold eA;rw[f1]
    have d0:=vR b0.out (x+2^e);have e7:=vR b0.out x;have O:x+2^e<l.length:=by have:=a9.out;omega
    have R:x<l.length:=by have:=a9.out;omega
    have a1:=aW HC.out hb Bw aO _ O;have b3:=aW HC.out hb Bw aO _ R;have j1:=fun W=>a8.out W _ O;have m1:=fun W=>a8.out W _ R;rw[<-aX l _ O]at a1;rw[<-aX l _ R]at b3;have c8:=vR b0.out (jH N x (e+1));have c9:=vR b0.out (jH N x e);have J:jH N x (e+1)<l.length:=by have:=a9.out;omega
    have M:jH N x e<l.length:=by have:=a9.out;omega
    have Y:=aW HC.out hb Bw aO _ J;have Z:=aW HC.out hb Bw aO _ M;have g3:=(fun(W:World)=>a8.out W _ J);have j0:=fun W=>a8.out W _ M;rw[<-aX l _ J]at Y;rw[<-aX l _ M]at Z;have H3:=aN f3;obtain⟨y,hy⟩:=aQ (jH N x e);obtain⟨z',d7⟩:∃z',z'=jH N x (e+1):=⟨_,rfl⟩;obtain⟨x',b8⟩:∃x',x'=x+2^e:=⟨_,rfl⟩;simp only[<-hy,<-d7]at f5 f6 c8 c9 Y Z g3 j0 D;rw[<-b8]at g1 D b4 d0 a1;simp only[<-b8]at j1;rw[<-hy];have HY:=aN hy;have HZ:=aN d7;have h7:=aN b8;obtain⟨p,hp⟩:=aQ (l.getD z' 0);obtain⟨q,hq⟩:=aQ (l.getD y 0);obtain⟨r,hr⟩:=aQ (l.getD x' 0);obtain⟨s,hs⟩:=aQ (l.getD x 0);rw[<-hr,<-hs]at b4;rw[b4]at D;rw[<-hr]at d0 a1;rw[<-hs]at e7 b3;rw[<-hp]at c8 Y D;rw[<-hq]at c9 Z D;have l9:IntKind.i64.wrap (p-q)=p-q:=by rw[IntKind.wrap_i64];omega
    have k2:IntKind.i64.wrap (r-s)=r-s:=by rw[IntKind.wrap_i64];omega
    have b7:(y:Int)-2^e=(z':Int):=by
     have:((2^e:Nat):Int)=(2:Int)^e:=by simp
     omega
    have k3:IntKind.i64.wrap ((y:Int)-2^e)=(y:Int)-2^e:=by rw[b7,IntKind.wrap_i64];omega
    simp only[<-b7]at g3;have h6:=aN b7;clear b7;have a6:=cO e 6 aK;have l6:(2:Int)^e<=64:=by simpa using a6.1
    have l7:=a6.2;have l5:(0:Int)<=(e:Int):=Int.natCast_nonneg _;have e0:∀y:Ext wo,y.w.cell? ⟨w.heap.size,0,none⟩=some (aM (N:Int)):=fun y=>y.cell (Kw.cell 0);have e1:∀y:Ext wo,y.w.cell? ⟨w.heap.size,1,none⟩=some (aI a l.length c):=fun y=>y.cell (Kw.cell 1);have e2:∀y:Ext wo,y.w.cell? ⟨b,I+z',none⟩=some (aM p):=fun y=>y.cell Y;have e3:∀z:Ext wo,z.w.cell? ⟨b,I+y,none⟩=some (aM q):=fun z=>z.cell Z;have e4:∀z:Ext wo,z.w.cell? ⟨b,I+x',none⟩=some (aM r):=fun z=>z.cell a1;have e5:∀z:Ext wo,z.w.cell? ⟨b,I+x,none⟩=some (aM s):=fun z=>z.cell b3;clear hx f1 f2 f3 f4 f5 f6 f7 f8 d6 i6 i1 hy d7 b8 hp hq hr hs b4 g2 J M O R a6 Y Z a1 b3 c8 c9 d0 e7;by_cases e8:p-q<=r-s
    ·rw[if_pos e8]at D;have S:=aN D;clear D;go_wp2_with fail;refine bN _ aT aT ?_
     repeat(first|go_big_quiet_skip|(go_big_quiet_want;go_big_quiet_op;first|go_big_quiet_on|(apply Exists.intro;refine⟨fun _=>?_,?_⟩;(fail);go_big_quiet_on)))
     refine wpQuiet_nil ?_;rintro w5 ⟨⟨w5,F⟩,rfl⟩
     try dsimp only
     have e0:∀y:Ext w5,y.w.cell? ⟨w.heap.size,0,none⟩=some (aM (N:Int)):=fun y=>e0 ⟨y.w,F.after y.b F.size⟩;have e1:∀y:Ext w5,y.w.cell? ⟨w.heap.size,1,none⟩=some (aI a l.length c):=fun y=>e1 ⟨y.w,F.after y.b F.size⟩;have e2:∀y:Ext w5,y.w.cell? ⟨b,I+z',none⟩=some (aM p):=fun y=>e2 ⟨y.w,F.after y.b F.size⟩;have e3:∀z:Ext w5,z.w.cell? ⟨b,I+y,none⟩=some (aM q):=fun y=>e3 ⟨y.w,F.after y.b F.size⟩;go_wp2_with fail;refine bN _ aT aT ?_
     repeat(first|go_big_quiet_skip|(go_big_quiet_want;go_big_quiet_op;first|go_big_quiet_on|(apply Exists.intro;refine⟨fun _=>?_,?_⟩;(fail);go_big_quiet_on)))
     refine wpQuiet_nil ?_;rintro w6 ⟨⟨w6,c6⟩,rfl⟩
     try dsimp only
     have b6:=F.after c6 F.size;go_wp2;go_roundw
     case rel=>exact⟨e+1,by omega,by go_num,by rw[S.out],by rw[S.out,h7.out,H3.out,HY.out],Br.after b6 Br.size⟩
     case measure=>simp[intOf];omega
    ·rw[if_neg e8]at D;have S:=aN D;clear D;go_wp2_with fail;refine bN _ aT aT ?_
     repeat(first|go_big_quiet_skip|(go_big_quiet_want;go_big_quiet_op;first|go_big_quiet_on|(apply Exists.intro;refine⟨fun _=>?_,?_⟩;(fail);go_big_quiet_on)))
     refine wpQuiet_nil ?_;rintro w5 ⟨⟨w5,F⟩,rfl⟩
     try dsimp only
     have e0:∀y:Ext w5,y.w.cell? ⟨w.heap.size,0,none⟩=some (aM (N:Int)):=fun y=>e0 ⟨y.w,F.after y.b F.size⟩;have e1:∀y:Ext w5,y.w.cell? ⟨w.heap.size,1,none⟩=some (aI a l.length c):=fun y=>e1 ⟨y.w,F.after y.b F.size⟩;have e2:∀y:Ext w5,y.w.cell? ⟨b,I+z',none⟩=some (aM p):=fun y=>e2 ⟨y.w,F.after y.b F.size⟩;have e3:∀z:Ext w5,z.w.cell? ⟨b,I+y,none⟩=some (aM q):=fun y=>e3 ⟨y.w,F.after y.b F.size⟩;go_wp2_with fail;refine bN _ aT aT ?_
     repeat(first|go_big_quiet_skip|(go_big_quiet_want;go_big_quiet_op;first|go_big_quiet_on|(apply Exists.intro;refine⟨fun _=>?_,?_⟩;(fail);go_big_quiet_on)))
     refine wpQuiet_nil ?_;rintro w6 ⟨⟨w6,c6⟩,rfl⟩
     try dsimp only
     have b6:=F.after c6 F.size;go_wp2;go_roundw
     case rel=>exact⟨e+1,by omega,by go_num,by rw[S.out],by rw[S.out,<-HZ.out,h6.out],Br.after b6 Br.size⟩
     case measure=>simp[intOf];omega
   ·have g0:¬(e:Int)<(N:Int):=aK;have hE:e=N:=aK;subst hE;go_wp2;go_ret2;exact⟨by rw[HX.out.1,HX.out.2];rfl,B.after Br B.size⟩
theorem ac9(w:World)(n:Int)(v:Value)(l:List Int)(hv:aR w v l)(hl:l.length<=1048576):
  Calls prog 15 #[.agg #[n,v]] w fun e w'=>e=.returned (.string (EE n l))/\Below w w w':=by
 have F:=hv;obtain⟨a,c,rfl⟩:=hv.shape;have K0:=aU.new w 26 #[n,aI a l.length c]
 cases J:bM n l with
 |false=>have M:=aN (XT J);have HF:=aN J;clear J;go_enter func15,ntmps15;go_wp2_with fail;refine(dJ n l _ _ (F.alloc _)).mono ?_;rintro e w1 ⟨rfl,b1⟩;rw[HF.out];go_wp2;go_ret;exact⟨cI M.out.symm,(bF _ _).after b1 (by simp)⟩
 |true=>
  obtain⟨TT,b0⟩:=aQ (EE n l);have g4:(∀x∈rH n l,dD x)->TT.size<=10700:=by rw[b0,BZ J];exact US J
  have hx:UR n l=TT:=by rw[b0,BZ J]
  unfold UR at hx;have o6:=S6 J;have o7:=TB J;have o2:=RJ J;have o1:=RE n l;have o3:=MH n l;have d5:0<l.length:=by obtain⟨N,_,_,h2,_⟩:=cX J;have:=Nat.two_pow_pos N;omega
  have o8:xX n l=iP l:=by unfold xX;rw[J];rfl
  have i7:yO n l=(iY l n.toNat n.toNat:Int):=by unfold yO;rw[J];rfl
  have O:iY l n.toNat n.toNat<l.length:=by obtain⟨N,rfl,h5,h2,_⟩:=cX J;rw[Int.toNat_natCast,h2];exact EP l N h5 N aO
  have c6:I4 n l=l.getD (iY l n.toNat n.toNat) 0:=rfl;have f6:=fun(W:World) (h:aR W (aI a l.length c) l)=>DG W n _ l h d5;have d0:=fun(W:World) (h:aR W (aI a l.length c) l)=>J6 W n _ l h;have c9:=fun(W:World) (h:aR W (aI a l.length c) l)=>ai4 W n _ l h;have c7:=fun(W:World) (h:aR W (aI a l.length c) l)=>aiT W n _ l h;have c8:=fun(W:World) (h:aR W (aI a l.length c) l)=>aaU W n _ l h hl;have c5:=fun(W:World) (h:aR W (aI a l.length c) l)=>abZ W n _ l h hl;simp only[J]at d0 c9;simp only[J,i7]at c7;obtain⟨bD,f5⟩:=aQ (vA n l);obtain⟨bC,f4⟩:=aQ (jP n l);rw[<-f5,<-f4]at hx;simp only[<-f5]at c8;simp only[<-f4]at c5;obtain⟨d,hd⟩:=aQ (iY l n.toNat n.toNat);simp only[<-hd]at c7 O c6;obtain⟨N1,a6⟩:=aQ (iP l);obtain⟨N2,a7⟩:=aQ (wB n l);obtain⟨N3,a8⟩:=aQ (I4 n l);obtain⟨N4,a9⟩:=aQ (qK n l);obtain⟨S2,f2⟩:=aQ (zE n l);obtain⟨S4,f3⟩:=aQ (uN n l);obtain⟨Z,hZ⟩:=aQ (zF n l);obtain⟨D,hD⟩:=aQ (rH n l);rw[<-a6,<-a7,<-a8,<-a9,<-f2,<-f3,<-hZ,<-hD]at hx;simp only[<-a6]at f6;simp only[<-hZ]at d0;simp only[<-a7,<-f2]at c9;rw[<-a8]at c6;simp only[<-hD]at c8;simp only[<-a9,<-f3]at c5;rw[<-a6]at o6;rw[<-a7]at o7;rw[<-a8]at o2;rw[<-a9]at o1;rw[<-hD]at o3 g4;have q1:=cW N1 ⟨by omega,by omega⟩;have q2:=fC n Z;have q3:=cW N2 ⟨by omega,by omega⟩;have q4:=fF n S2;have q5:=cW N3 ⟨by omega,by omega⟩;have q6:=cW N4 ⟨by omega,by omega⟩;have q7:=fF n S4;have S:=aN b0;have M:=aN hx;have s6:=aN g4;have HF:=aN J;have k5:=aN c6;have d7:=aN O;have l0:=aN f6;have l2:=aN d0;have l1:=aN c9;have k6:=aN c7;have k7:=aN c8;have h0:=aN c5;clear hx J b0 g4 f6 d0 c9 c7 c8 c5 f5 f4 hd a6 a7 a8 a9 f2 f3 hZ hD o8 i7 c6 O d5;have f7:=fun W:World=>fX N1 ⟨by omega,by omega⟩ W;have f9:=fun W:World=>fX N2 ⟨by omega,by omega⟩ W;have g0:=fun W:World=>kS n S2 W;have g1:=fun W:World=>fX N3 ⟨by omega,by omega⟩ W;have g2:=fun W:World=>fX N4 ⟨by omega,by omega⟩ W;have g3:=fun W:World=>kS n S4 W;have f8:=fun(p:Option Addr) (q:Nat) (W:World) (h:aR W (aI p Z.length q) Z)=>kR n Z _ W h;have I:=M.out;obtain⟨F1,e0⟩:=aQ (bQ N1);rw[<-e0]at q1 I;simp only[<-e0]at f7;have l3:=aN f7;clear e0 f7;obtain⟨F2,e4⟩:=aQ (dB n Z);rw[<-e4]at q2 I;simp only[<-e4]at f8;have l4:=aN f8;clear e4 f8;obtain⟨F3,e5⟩:=aQ (bQ N2);rw[<-e5]at q3 I;simp only[<-e5]at f9;have l5:=aN f9;clear e5 f9;obtain⟨F4,e6⟩:=aQ (bZ n S2);rw[<-e6]at q4 I;simp only[<-e6]at g0;have l6:=aN g0;clear e6 g0;obtain⟨F5,e7⟩:=aQ (bQ N3);rw[<-e7]at q5 I;simp only[<-e7]at g1;have l7:=aN g1;clear e7 g1;obtain⟨F6,e8⟩:=aQ (bQ N4);rw[<-e8]at q6 I;simp only[<-e8]at g2;have h6:=aN g2;clear e8 g2;obtain⟨F7,e9⟩:=aQ (bZ n S4);rw[<-e9]at q7 I;simp only[<-e9]at g3;have h7:=aN g3;clear e9 g3;have M:=aN I;clear I;obtain⟨_,ab,q0,_,p7,_,i8,hc,hb⟩:=F.view prog 24 3 underlying24 aS;injection p7 with x1 _ x3;subst x1 x3;have HC:=aN hc;have k9:=aN i8;clear hc i8;go_enter func15,ntmps15;go_wp2_with fail;refine(dJ n l _ _ (F.alloc _)).mono ?_;rintro e w1 ⟨rfl,b1⟩;rw[HF.out];have B1:Below w w w1:=(bF _ _).after b1 (by simp);have K1:=K0.keep b1;clear K0 b1;have G:=K1.cell;have z:=K1.lt;go_wp2_with fail;refine(l2.out _ (F.below B1 aO)).mono ?_;rintro e w3 ⟨pZ,iZ,qZ,rfl,oZ,b3⟩;have o5:iZ=Z.length:=oZ.ints.capLe.1;subst o5;have i1:=oZ.ints;have B3:=B1.after b3 B1.size;have K3:=K1.keep b3;clear B1 K1 G z b3 oZ;have G:=K3.cell;have z:=K3.lt;go_wp2_with fail;refine(l1.out _ (F.below B3 aO)).mono ?_;rintro e w4 ⟨rfl,b4⟩;have i6:=i1.keep b4;have B4:=B3.after b4 B3.size;have K4:=K3.keep b4;clear B3 K3 G z b4 i1;have G:=K4.cell;have z:=K4.lt;go_wp2_with fail;refine(k6.out _ (F.below B4 aO)).mono ?_;rintro e R ⟨rfl,b5⟩;have hZ:=i6.keep b5;have B5:=B4.after b5 B4.size;have K5:=K4.keep b5;clear B4 K4 G z b5 i6;go_upto_region 6 with fail;go_cut [10] (fun v wx=>∃X,v=.string X/\X=NM F1 F2 F3 F4 F5/\Below R R wx)
  case rest=>
   obtain⟨X,rfl,hX,b6⟩:=hcut;have u1:X.size<=10300:=by rw[hX];exact O8 F1 F2 F3 F4 F5 q1 q2 q3 q4 q5
   have g5:=M.out;rw[<-hX]at g5;have M:=aN g5;have B6:=B5.after b6 B5.size;have K6:=K5.keep b6;clear hX g5 b6 B5 K5 hZ;have G:=K6.cell;have z:=K6.lt;go_wp2_with fail;refine(k7.out _ (F.below B6 aO)).mono ?_;rintro e w7 ⟨pD,iD,qD,rfl,oD,b7⟩;have o4:iD=D.length:=oD.ints.capLe.1;subst o4;have Y:=oD.ints;have B7:=B6.after b7 B6.size;have K7:=K6.keep b7;clear B6 K6 G z b7 oD
   cases bD with
   |false=>
    have K:=M.out;simp only[IM,if_neg Bool.false_ne_true]at K;have M:=aN K;clear K Y;have G:=K7.cell;have z:=K7.lt;go_wp2_with fail;refine(h0.out _ (F.below B7 aO)).mono ?_;rintro e w9 ⟨rfl,b9⟩;have B9:=B7.after b9 B7.size;have K9:=K7.keep b9;clear G z b9
    cases bC with
    |false=>go_wp2;go_ret;exact⟨cI (M.out.trans S.out),B9⟩
    |true=>
     have a0:=K9.cell 0;simp only[List.getElem?_toArray,List.getElem?_cons_zero]at a0;have p0:∀y:Ext w9,y.w.cell? ⟨w.heap.size,0,none⟩=some (aM n):=fun y=>y.cell a0;have R6:=aN (fun y:Ext w9=>h6.out y.w);have R7:=aN (fun y:Ext w9=>h7.out y.w);go_wp2_with fail;refine bN _ aT aT ?_
     repeat(first|go_big_quiet_skip|(go_big_quiet_want;go_big_quiet_op;first|go_big_quiet_on|(apply Exists.intro;refine⟨fun _=>?_,?_⟩;(first|(go_at_call 54;exact bO (R6.out _))|(go_at_call 80;exact bO (R7.out _)));go_big_quiet_on)))
     refine wpQuiet_nil ?_;rintro wa ⟨⟨wa,ba⟩,rfl⟩
     try dsimp only
     go_wp2;go_ret;exact⟨cI (M.out.trans S.out),B9.after ba B9.size⟩
   |true=>
    have p5:(eX D).size<=200:=by have:=lP D Y.inR;omega
    have hn:=vJ D _ w7 Y aK;have K:=M.out;obtain⟨F8,f0⟩:=aQ (eX D);rw[<-f0]at K p5;simp only[<-f0]at hn;have HN:=aN hn;simp only[IM,if_pos]at K;have M:=aN K;clear K Y f0 hn;have G:=K7.cell;have z:=K7.lt;go_wp2_with fail;refine HN.out.mono ?_;rintro e w8 ⟨rfl,b8⟩;have B8:=B7.after b8 B7.size;have K8:=K7.keep b8;clear G z b8 B7 K7;have G:=K8.cell;have z:=K8.lt;go_wp2_with fail;refine(h0.out _ (F.below B8 aO)).mono ?_;rintro e w9 ⟨rfl,b9⟩;have B9:=B8.after b9 B8.size;have K9:=K8.keep b9;clear G z b9
    cases bC with
    |false=>go_wp2;go_ret;exact⟨cI (M.out.trans S.out),B9⟩
    |true=>
     have a0:=K9.cell 0;simp only[List.getElem?_toArray,List.getElem?_cons_zero]at a0;have p0:∀y:Ext w9,y.w.cell? ⟨w.heap.size,0,none⟩=some (aM n):=fun y=>y.cell a0;have R6:=aN (fun y:Ext w9=>h6.out y.w);have R7:=aN (fun y:Ext w9=>h7.out y.w);go_wp2_with fail;refine bN _ aT aT ?_
     repeat(first|go_big_quiet_skip|(go_big_quiet_want;go_big_quiet_op;first|go_big_quiet_on|(apply Exists.intro;refine⟨fun _=>?_,?_⟩;(first|(go_at_call 54;exact bO (R6.out _))|(go_at_call 80;exact bO (R7.out _)));go_big_quiet_on)))
     refine wpQuiet_nil ?_;rintro wa ⟨⟨wa,ba⟩,rfl⟩
     try dsimp only
     go_wp2;go_ret;exact⟨cI (M.out.trans S.out),B9.after ba B9.size⟩
  case first=>
   have a0:=K5.cell 0;have a1:=K5.cell 1;simp only[List.getElem?_toArray,List.getElem?_cons_zero,List.getElem?_cons_succ]at a0 a1;have ck:=aW HC.out hb B5 aO d d7.out;have ik:=fun W=>k9.out W d d7.out;rw[<-aX l d d7.out,<-k5.out]at ck;have p6:=F.below B5 aO;have p0:∀y:Ext R,y.w.cell? ⟨w.heap.size,0,none⟩=some (aM n):=fun y=>y.cell a0;have p1:∀y:Ext R,y.w.cell? ⟨w.heap.size,1,none⟩=some (aI a l.length c):=fun y=>y.cell a1;have p2:∀y:Ext R,y.w.cell? ⟨ab,q0+d,none⟩=some (aM N3):=fun y=>y.cell ck;have R0:=aN (fun y:Ext R=>l0.out y.w (y.ints p6));have R1:=aN (fun y:Ext R=>l3.out y.w);have R3:=aN (fun y:Ext R=>l5.out y.w);have R5:=aN (fun y:Ext R=>l7.out y.w);have R4:=aN (fun y:Ext R=>l6.out y.w);have R2:=aN (fun y:Ext R=>l4.out pZ qZ y.w (hZ.keep y.b));clear a0 a1 ck;refine bN _ aT aT ?_
   repeat(first|go_big_quiet_skip|(go_big_quiet_want;go_big_quiet_op;first|go_big_quiet_on|(apply Exists.intro;refine⟨fun _=>?_,?_⟩;(first|(go_at_call 78;exact bO (R0.out _))|(go_at_call 54;first|(with_reducible exact bO (R1.out _))|(with_reducible exact bO (R3.out _))|(with_reducible exact bO (R5.out _)))|(go_at_call 80;exact bO (R4.out _))|(go_at_call 79;exact bO (R2.out _)));go_big_quiet_on)))
   refine wpQuiet_nil ?_;rintro w6 ⟨⟨w6,b6⟩,rfl⟩
   try dsimp only
   go_wp2_with fail;go_meet;exact⟨_,rfl,rfl,b6⟩
end
end Go.Proofs.YtcpoomdoodlkjaaGreatDoor
