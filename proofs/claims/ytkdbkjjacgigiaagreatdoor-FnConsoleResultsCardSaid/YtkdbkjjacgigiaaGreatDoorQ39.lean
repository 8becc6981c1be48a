/- Lemmas for CardConsoleResults. No condition. -/
import Derived.Test.YtkdbkjjacgigiaaGreatDoorQ33
import Derived.Test.YtkdbkjjacgigiaaGreatDoorQ34
import Derived.Test.YtkdbkjjacgigiaaGreatDoorQ38
set_option maxRecDepth 100000
set_option maxHeartbeats 64000000
namespace Go.Proofs.YtkdbkjjacgigiaaGreatDoor
section
open Go.RowKit Go.G5 Go.Proofs.Tryz
theorem ae9{w:World}{cs:Array Value}{T:TypeId}{n i:Nat}{u:Value}(z:w.heap.size=n)(h:cs[i]?=some u):(w.alloc (.cells cs T)).cell? ⟨n,i,none⟩=some u:=by
 subst z;exact aZ w cs T i u h
theorem ai0(w:World)(g:Int)(v:Value)(l:List Int)(hv:aK w v l)(hl:l.length<=1048576)(hp:iY w):
  Calls prog 149 #[.agg #[g,v]] w fun e w'=>e=.returned (.string (tV g l))/\Below w w w':=by
 have b5:=hv;obtain⟨a,c,rfl⟩:=hv.shape;have K0:=aP.new w 29 #[g,aA a l.length c]
 cases hf:aU g l with
 |false=>have HX:=aH (QD hf);have HF:=aH hf;clear hf;go_enter func149,ntmps149;go_wp2_with fail;refine(cQ g l _ _ (b5.alloc _)).mono ?_;rintro e w1 ⟨rfl,b1⟩;rw[HF.out];go_wp2;go_ret;exact⟨bJ HX.out.symm,(bF _ _).after b1 (by simp)⟩
 |true=>
  obtain⟨TT,m4⟩:=aJ (tV g l);have hx:bR dW (olL g l)=TT:=by rw[m4,E1 hf];exact ar6 g l
  have s2:TT.size<=10700:=by rw[m4,E1 hf];exact XO g l
  unfold olL XM at hx;have hcl:=PK g l;have y8:=tH g l;have y7:=(IM g l).1;have m7:vT g l=true->LB g l=g:=fun h=>(JS h).1;have q1:=fun(W:World) (h:aK W (aA a l.length c) l)=>akK W g _ l h;have q2:=fun(W:World) (h:aK W (aA a l.length c) l)=>agJ W g _ l h;have m5:=fun(W:World) (h:aK W (aA a l.length c) l)=>aj8 W g _ l h;have p9:=fun(W:World) (h:aK W (aA a l.length c) l)=>ar0 W g _ l h;have q3:=fun(W:World) (h:aK W (aA a l.length c) l)=>NQ W g _ l h hl 3 ⟨by omega,by omega⟩;have q0:=fun(W:World) (v:Value) (h:aK W v (iH g l 3))=>Z4 (iH g l 3) v W h;obtain⟨bA,m6⟩:=aJ (vT g l);obtain⟨bI,p6⟩:=aJ (AK g l);obtain⟨bS,p7⟩:=aJ (iE g l 3);rw[<-m6]at m7;rw[<-m6,<-p6,<-p7]at hx;simp only[hf]at q1 q2;simp only[<-m6]at m5;simp only[<-p6]at p9;simp only[<-p7]at q3;obtain⟨N0,s1⟩:=aJ (LB g l);simp only[<-s1]at m5 m7;obtain⟨K3,s0⟩:=aJ (mV (iH g l 3));simp only[<-s0]at q0 hx;have f4:=aH m4;have HX:=aH hx;have f3:=aH s2;have HF:=aH hf;have t9:=aH m7;have u0:=aH q1;have u1:=aH q2;have t6:=aH m5;have r3:=aH p9;have l5:=aH q3;have l4:=aH q0;clear hx hf m4 s2 m7 q1 q2 m5 p9 q3 q0 m6 p6 p7 s1 s0;go_enter func149,ntmps149;go_wp2_with fail;refine(cQ g l _ _ (b5.alloc _)).mono ?_;rintro e w0 ⟨rfl,b1⟩;rw[HF.out];have B:Below w w w0:=(bF _ _).after b1 (by simp);have K:=K0.keep b1;clear K0 b1;have G:=K.cell;go_wp2_with fail;refine(u0.out _ (b5.below B aI)).mono ?_;rintro e w1 ⟨pC,iC,qC,rfl,oC,b2⟩;have v1:iC=(yQ g l).length:=oC.ints.capLe.1;subst v1;have Ba:=B.after b2 B.size;have Ka:=K.keep b2;clear B K G b2 oC;have G:=Ka.cell;go_wp2_with fail;refine(u1.out _ (b5.below Ba aI)).mono ?_;rintro e w2 ⟨pL,qL,rfl,oL,b2⟩;have B1:=Ba.after b2 Ba.size;have K1:=Ka.keep b2;clear Ba Ka G b2 oL;obtain⟨bo,i7⟩:=aJ w2.heap.size;have zb:w.heap.size<bo:=by rw[i7];exact K1.lt
  have zc:w2.heap.size<=bo:=aD;have L3:gI bo (w2.alloc (.cells #[()] 143)) []:=by rw[i7];exact gI.new w2
  have K2:aP w2 w 29 #[g,aA a l.length c]:=K1;have B3:=B1.alloc B1.size (.cells #[()] 143);have C3:Below bo w2 (w2.alloc (.cells #[()] 143)):=by rw[i7];exact bF w2 _
  have t7:=aH (show(w2.alloc (.cells #[()] 143)).heap.size=bo+1 by rw[i7];simp);go_wp2_with fail;rw[<-i7];clear i7 K1;have s6:=L3.lt;refine(dF bo [] [(⟨#[111,114,100,101,114]⟩:ByteArray)] (bo+1) 1 1 _ (L3.keep (bF _ _)) rfl (BJ (ae9 t7.out rfl)) (by simp only[List.length_cons,List.length_nil];omega)).mono ?_;rintro e z9 ⟨rfl,o7,r5⟩;have o3:=(B3.alloc B3.size _).after r5 aD;have r0:=(C3.alloc (Nat.le_of_lt s6) _).after r5 aI;clear B3 C3 L3;obtain⟨o9,z⟩:=aJ ([]++[(⟨#[111,114,100,101,114]⟩:ByteArray)]);rw[<-z]at o7;have x2:o9.length<=1:=by rw[z,List.length_append];first|(simp only[List.length_cons,List.length_nil];omega)|(have:=cN _ _;omega)|(simp[yes];omega)
  go_wp2_with fail;refine(eQ bo o9 (⟨#[99,104,97,105,110]⟩:ByteArray) (((yQ g l).length:Int)) ⟨by omega,by omega⟩ _ o7 (hp.keep o3) aD).mono ?_;rintro e w12 ⟨rfl,o8,r6⟩;have o4:=o3.after r6 aD;have r1:=r0.after r6 aI;clear o3 r0 o7;obtain⟨p5,D⟩:=aJ (o9++[(⟨#[99,104,97,105,110]⟩:ByteArray),aX (((yQ g l).length:Int))]);rw[<-D]at o8;have x4:p5.length<=3:=by rw[D,List.length_append];first|(simp only[List.length_cons,List.length_nil];omega)|(have:=cN _ _;omega)|(simp[yes];omega)
  go_wp2_with fail;refine(eQ bo p5 (⟨#[108,101,118,101,108,115]⟩:ByteArray) (((eA g l).length:Int)) ⟨by omega,by omega⟩ _ o8 (hp.keep o4) aD).mono ?_;rintro e w13 ⟨rfl,l6,r7⟩;have l2:=o4.after r7 aD;have o5:=r1.after r7 aI;clear o4 r1 o8;obtain⟨b3,F⟩:=aJ (p5++[(⟨#[108,101,118,101,108,115]⟩:ByteArray),aX (((eA g l).length:Int))]);rw[<-F]at l6;have x5:b3.length<=5:=by rw[F,List.length_append];first|(simp only[List.length_cons,List.length_nil];omega)|(have:=cN _ _;omega)|(simp[yes];omega)
  have G:=(cB K2 o5 zb).cell;go_wp2_with fail;clear G;refine(t6.out _ (b5.below l2 aI)).mono ?_;rintro e w14 ⟨pA,iA,qA,rfl,hA,l9⟩;have h7:=l2.after l9 l2.size;have h8:=o5.after l9 (Nat.le_of_lt l6.lt);have i6:=l6.keep l9;clear l2 o5 l6 l9;have u9:iA=(tQ g l).length:=hA.capLe.1;subst u9
  cases bA with
  |false=>
   have G:=(cB K2 h8 zb).cell;have zf:=(cB K2 h8 zb).lt;go_wp2_with fail;clear G zf;refine bU ?_;intro e9 hV;have c8:Below w w e9:=by rw[hV];exact h7.alloc h7.size _
   have k9:=Nat.le_of_lt i6.lt;have j5:Below bo w2 e9:=by rw[hV];exact h8.alloc k9 _
   have f9:gI bo e9 b3:=by rw[hV];exact i6.keep (bF _ _)
   have n3:aK e9 (.slice pA (tQ g l).length qA) (tQ g l):=by rw[hV];exact hA.alloc _
   clear hV h7 h8 i6 hA;refine(r3.out _ (b5.below c8 aI)).mono ?_;rintro e s5 ⟨pI,iI,qI,rfl,oI,e4⟩;have a7:=c8.after e4 c8.size;have f2:=j5.after e4 (Nat.le_of_lt f9.lt);have c9:=f9.keep e4;clear c8 j5 f9 e4;have p8:iI=(oK g l).length:=oI.ints.capLe.1;subst p8
   cases bI with
   |false=>
    have G:=(cB K2 f2 zb).cell;go_wp2_with fail;clear G;refine(l5.out _ (b5.below a7 aI)).mono ?_;rintro e w4 ⟨pS,iS,qS,rfl,oS,g2⟩;have b6:=a7.after g2 a7.size;have h9:=f2.after g2 (Nat.le_of_lt c9.lt);have d0:=c9.keep g2;clear a7 f2 c9 g2
    cases bS with
    |false=>
     have Y:bR dW b3=TT:=by rw[F,D,z];exact HX.out
     have hz:=f3.out;rw[<-Y]at hz;have HT:=aH Y;clear Y z D F;obtain⟨lv,KL,oL⟩:=d0;have G:=KL.cell;go_wp2_with fail;clear G;refine(dE (bo+1) lv b3 _ oL aD aD).mono ?_;rintro e wz ⟨rfl,bz⟩;go_wp2;go_ret;exact⟨bJ (HT.out.trans f4.out),b6.after bz b6.size⟩
    |true=>
     go_wp2_with fail;refine(l4.out _ _ oS.ints).mono ?_;rintro e y4 ⟨rfl,h6⟩;have g9:=b6.after h6 b6.size;have j3:=h9.after h6 (Nat.le_of_lt d0.lt);have j7:=d0.keep h6;clear b6 h9 d0 h6;have G:=(cB K2 j3 zb).cell;go_wp2_with fail;clear G;refine(fC g K3 _ (hp.keep g9)).mono ?_;rintro e o1 ⟨rfl,Z⟩;have a6:=g9.after Z g9.size;have b9:=j3.after Z (Nat.le_of_lt j7.lt);have b0:=j7.keep Z;clear g9 j3 j7 Z;go_wp2_with fail;have q6:=b0.lt;refine(dF bo b3 [(⟨#[115,117,110,102,108,111,119,101,114]⟩:ByteArray),bG g K3] o1.heap.size 2 2 _ (b0.keep (bF _ _)) rfl (fF (aZ _ _ _ _ _ rfl) (aZ _ _ _ _ _ rfl)) (by simp only[List.length_cons,List.length_nil];omega)).mono ?_;rintro e k6 ⟨rfl,O,I⟩;have M:=(a6.alloc a6.size _).after I aD;have a8:=(b9.alloc (Nat.le_of_lt q6) _).after I aI;clear a6 b9 b0;obtain⟨j9,e5⟩:=aJ (b3++[(⟨#[115,117,110,102,108,111,119,101,114]⟩:ByteArray),bG g K3]);rw[<-e5]at O;have u5:j9.length<=7:=by rw[e5,List.length_append];first|(simp only[List.length_cons,List.length_nil];omega)|(have:=cN _ _;omega)|(simp[yes];omega)
     have Y:bR dW j9=TT:=by rw[e5,F,D,z];exact HX.out
     have hz:=f3.out;rw[<-Y]at hz;have HT:=aH Y;clear Y z D F e5;obtain⟨lv,KL,oL⟩:=O;have G:=KL.cell;go_wp2_with fail;clear G;refine(dE (bo+1) lv j9 _ oL aD aD).mono ?_;rintro e wz ⟨rfl,bz⟩;go_wp2;go_ret;exact⟨bJ (HT.out.trans f4.out),M.after bz M.size⟩
   |true=>
    go_wp2_with fail;refine(kV bo b3 (⟨#[105,110,116,101,114,118,97,108,115]⟩:ByteArray) _ (oK g l) _ oI.ints aD c9 (hp.keep a7) aD).mono ?_;rintro e w4 ⟨rfl,d0,g2⟩;have b6:=a7.after g2 aD;have h9:=f2.after g2 aI;clear a7 f2 c9;obtain⟨k3,c6⟩:=aJ (b3++[(⟨#[105,110,116,101,114,118,97,108,115]⟩:ByteArray),eR (oK g l)]);rw[<-c6]at d0;have x7:k3.length<=7:=by rw[c6,List.length_append];first|(simp only[List.length_cons,List.length_nil];omega)|(have:=cN _ _;omega)|(simp[yes];omega)
    have G:=(cB K2 h9 zb).cell;go_wp2_with fail;clear G;refine(l5.out _ (b5.below b6 aI)).mono ?_;rintro e w98 ⟨pS,iS,qS,rfl,oS,m3⟩;have j2:=b6.after m3 b6.size;have r2:=h9.after m3 (Nat.le_of_lt d0.lt);have l8:=d0.keep m3;clear b6 h9 d0 m3
    cases bS with
    |false=>
     have Y:bR dW k3=TT:=by rw[c6,F,D,z];exact HX.out
     have hz:=f3.out;rw[<-Y]at hz;have HT:=aH Y;clear Y z D F c6;obtain⟨lv,KL,oL⟩:=l8;have G:=KL.cell;go_wp2_with fail;clear G;refine(dE (bo+1) lv k3 _ oL aD aD).mono ?_;rintro e wz ⟨rfl,bz⟩;go_wp2;go_ret;exact⟨bJ (HT.out.trans f4.out),j2.after bz j2.size⟩
    |true=>
     go_wp2_with fail;refine(l4.out _ _ oS.ints).mono ?_;rintro e o1 ⟨rfl,Z⟩;have a6:=j2.after Z j2.size;have b9:=r2.after Z (Nat.le_of_lt l8.lt);have b0:=l8.keep Z;clear j2 r2 l8 Z;have G:=(cB K2 b9 zb).cell;go_wp2_with fail;clear G;refine(fC g K3 _ (hp.keep a6)).mono ?_;rintro e k6 ⟨rfl,I⟩;have M:=a6.after I a6.size;have a8:=b9.after I (Nat.le_of_lt b0.lt);have O:=b0.keep I;clear a6 b9 b0 I;go_wp2_with fail;have q7:=O.lt;refine(dF bo k3 [(⟨#[115,117,110,102,108,111,119,101,114]⟩:ByteArray),bG g K3] k6.heap.size 2 2 _ (O.keep (bF _ _)) rfl (fF (aZ _ _ _ _ _ rfl) (aZ _ _ _ _ _ rfl)) (by simp only[List.length_cons,List.length_nil];omega)).mono ?_;rintro e k7 ⟨rfl,R,J⟩;have N:=(M.alloc M.size _).after J aD;have a9:=(a8.alloc (Nat.le_of_lt q7) _).after J aI;clear M a8 O;obtain⟨k0,e6⟩:=aJ (k3++[(⟨#[115,117,110,102,108,111,119,101,114]⟩:ByteArray),bG g K3]);rw[<-e6]at R;have u6:k0.length<=9:=by rw[e6,List.length_append];first|(simp only[List.length_cons,List.length_nil];omega)|(have:=cN _ _;omega)|(simp[yes];omega)
     have Y:bR dW k0=TT:=by rw[e6,c6,F,D,z];exact HX.out
     have hz:=f3.out;rw[<-Y]at hz;have HT:=aH Y;clear Y z D F c6 e6;obtain⟨lv,KL,oL⟩:=R;have G:=KL.cell;go_wp2_with fail;clear G;refine(dE (bo+1) lv k0 _ oL aD aD).mono ?_;rintro e wz ⟨rfl,bz⟩;go_wp2;go_ret;exact⟨bJ (HT.out.trans f4.out),N.after bz N.size⟩
  |true=>
   have v6:=(t9.out rfl).symm;subst v6;go_wp2_with fail;refine bU ?_;intro e9 hV;have c8:Below w w e9:=by rw[hV];exact h7.alloc h7.size _
   have k9:=Nat.le_of_lt i6.lt;have j5:Below bo w2 e9:=by rw[hV];exact h8.alloc k9 _
   have f9:gI bo e9 b3:=by rw[hV];exact i6.keep (bF _ _)
   have n3:aK e9 (.slice pA (tQ g l).length qA) (tQ g l):=by rw[hV];exact hA.alloc _
   clear hV h7 h8 i6 hA;refine(jJ g (tQ g l) _ _ n3 (hp.keep c8)).mono ?_;rintro e s5 ⟨rfl,e4⟩;have a7:=c8.after e4 c8.size;have f2:=j5.after e4 (Nat.le_of_lt f9.lt);have c9:=f9.keep e4;clear c8 j5 f9 e4;go_wp2_with fail;have s7:=c9.lt;refine(dF bo b3 [(⟨#[97,110,116,105,99,104,97,105,110]⟩:ByteArray),bZ g (tQ g l)] s5.heap.size 2 2 _ (c9.keep (bF _ _)) rfl (fF (aZ _ _ _ _ _ rfl) (aZ _ _ _ _ _ rfl)) (by simp only[List.length_cons,List.length_nil];omega)).mono ?_;rintro e w57 ⟨rfl,l7,r8⟩;have l3:=(a7.alloc a7.size _).after r8 aD;have o6:=(f2.alloc (Nat.le_of_lt s7) _).after r8 aI;clear a7 f2 c9;obtain⟨g0,S⟩:=aJ (b3++[(⟨#[97,110,116,105,99,104,97,105,110]⟩:ByteArray),bZ g (tQ g l)]);rw[<-S]at l7;have x6:g0.length<=7:=by rw[S,List.length_append];first|(simp only[List.length_cons,List.length_nil];omega)|(have:=cN _ _;omega)|(simp[yes];omega)
   have G:=(cB K2 o6 zb).cell;go_wp2_with fail;clear G;refine(r3.out _ (b5.below l3 aI)).mono ?_;rintro e w58 ⟨pI,iI,qI,rfl,oI,m2⟩;have f6:=l3.after m2 l3.size;have j6:=o6.after m2 (Nat.le_of_lt l7.lt);have j8:=l7.keep m2;clear l3 o6 l7 m2;have p8:iI=(oK g l).length:=oI.ints.capLe.1;subst p8
   cases bI with
   |false=>
    have G:=(cB K2 j6 zb).cell;go_wp2_with fail;clear G;refine(l5.out _ (b5.below f6 aI)).mono ?_;rintro e w5 ⟨pS,iS,qS,rfl,oS,g5⟩;have b7:=f6.after g5 f6.size;have i1:=j6.after g5 (Nat.le_of_lt j8.lt);have e0:=j8.keep g5;clear f6 j6 j8 g5
    cases bS with
    |false=>
     have Y:bR dW g0=TT:=by rw[S,F,D,z];exact HX.out
     have hz:=f3.out;rw[<-Y]at hz;have HT:=aH Y;clear Y z D F S;obtain⟨lv,KL,oL⟩:=e0;have G:=KL.cell;go_wp2_with fail;clear G;refine(dE (bo+1) lv g0 _ oL aD aD).mono ?_;rintro e wz ⟨rfl,bz⟩;go_wp2;go_ret;exact⟨bJ (HT.out.trans f4.out),b7.after bz b7.size⟩
    |true=>
     go_wp2_with fail;refine(l4.out _ _ oS.ints).mono ?_;rintro e k6 ⟨rfl,I⟩;have M:=b7.after I b7.size;have a8:=i1.after I (Nat.le_of_lt e0.lt);have O:=e0.keep I;clear b7 i1 e0 I;have G:=(cB K2 a8 zb).cell;go_wp2_with fail;clear G;refine(fC g K3 _ (hp.keep M)).mono ?_;rintro e k7 ⟨rfl,J⟩;have N:=M.after J M.size;have a9:=a8.after J (Nat.le_of_lt O.lt);have R:=O.keep J;clear M a8 O J;go_wp2_with fail;have q8:=R.lt;refine(dF bo g0 [(⟨#[115,117,110,102,108,111,119,101,114]⟩:ByteArray),bG g K3] k7.heap.size 2 2 _ (R.keep (bF _ _)) rfl (fF (aZ _ _ _ _ _ rfl) (aZ _ _ _ _ _ rfl)) (by simp only[List.length_cons,List.length_nil];omega)).mono ?_;rintro e o2 ⟨rfl,c5,b4⟩;have b8:=(N.alloc N.size _).after b4 aD;have j4:=(a9.alloc (Nat.le_of_lt q8) _).after b4 aI;clear N a9 R;obtain⟨k1,e7⟩:=aJ (g0++[(⟨#[115,117,110,102,108,111,119,101,114]⟩:ByteArray),bG g K3]);rw[<-e7]at c5;have u7:k1.length<=9:=by rw[e7,List.length_append];first|(simp only[List.length_cons,List.length_nil];omega)|(have:=cN _ _;omega)|(simp[yes];omega)
     have Y:bR dW k1=TT:=by rw[e7,S,F,D,z];exact HX.out
     have hz:=f3.out;rw[<-Y]at hz;have HT:=aH Y;clear Y z D F S e7;obtain⟨lv,KL,oL⟩:=c5;have G:=KL.cell;go_wp2_with fail;clear G;refine(dE (bo+1) lv k1 _ oL aD aD).mono ?_;rintro e wz ⟨rfl,bz⟩;go_wp2;go_ret;exact⟨bJ (HT.out.trans f4.out),b8.after bz b8.size⟩
   |true=>
    go_wp2_with fail;refine(kV bo g0 (⟨#[105,110,116,101,114,118,97,108,115]⟩:ByteArray) _ (oK g l) _ oI.ints aD j8 (hp.keep f6) aD).mono ?_;rintro e w5 ⟨rfl,e0,g5⟩;have b7:=f6.after g5 aD;have i1:=j6.after g5 aI;clear f6 j6 j8;obtain⟨k4,c7⟩:=aJ (g0++[(⟨#[105,110,116,101,114,118,97,108,115]⟩:ByteArray),eR (oK g l)]);rw[<-c7]at e0;have x8:k4.length<=9:=by rw[c7,List.length_append];first|(simp only[List.length_cons,List.length_nil];omega)|(have:=cN _ _;omega)|(simp[yes];omega)
    have G:=(cB K2 i1 zb).cell;go_wp2_with fail;clear G;refine(l5.out _ (b5.below b7 aI)).mono ?_;rintro e y3 ⟨pS,iS,qS,rfl,oS,h5⟩;have f0:=b7.after h5 b7.size;have n0:=i1.after h5 (Nat.le_of_lt e0.lt);have h0:=e0.keep h5;clear b7 i1 e0 h5
    cases bS with
    |false=>
     have Y:bR dW k4=TT:=by rw[c7,S,F,D,z];exact HX.out
     have hz:=f3.out;rw[<-Y]at hz;have HT:=aH Y;clear Y z D F S c7;obtain⟨lv,KL,oL⟩:=h0;have G:=KL.cell;go_wp2_with fail;clear G;refine(dE (bo+1) lv k4 _ oL aD aD).mono ?_;rintro e wz ⟨rfl,bz⟩;go_wp2;go_ret;exact⟨bJ (HT.out.trans f4.out),f0.after bz f0.size⟩
    |true=>
     go_wp2_with fail;refine(l4.out _ _ oS.ints).mono ?_;rintro e k7 ⟨rfl,J⟩;have N:=f0.after J f0.size;have a9:=n0.after J (Nat.le_of_lt h0.lt);have R:=h0.keep J;clear f0 n0 h0 J;have G:=(cB K2 a9 zb).cell;go_wp2_with fail;clear G;refine(fC g K3 _ (hp.keep N)).mono ?_;rintro e o2 ⟨rfl,b4⟩;have b8:=N.after b4 N.size;have j4:=a9.after b4 (Nat.le_of_lt R.lt);have c5:=R.keep b4;clear N a9 R b4;go_wp2_with fail;have q9:=c5.lt;refine(dF bo k4 [(⟨#[115,117,110,102,108,111,119,101,114]⟩:ByteArray),bG g K3] o2.heap.size 2 2 _ (c5.keep (bF _ _)) rfl (fF (aZ _ _ _ _ _ rfl) (aZ _ _ _ _ _ rfl)) (by simp only[List.length_cons,List.length_nil];omega)).mono ?_;rintro e y5 ⟨rfl,n1,n2⟩;have m9:=(b8.alloc b8.size _).after n2 aD;have w7:=(j4.alloc (Nat.le_of_lt q9) _).after n2 aI;clear b8 j4 c5;obtain⟨k2,e8⟩:=aJ (k4++[(⟨#[115,117,110,102,108,111,119,101,114]⟩:ByteArray),bG g K3]);rw[<-e8]at n1;have u8:k2.length<=11:=by rw[e8,List.length_append];first|(simp only[List.length_cons,List.length_nil];omega)|(have:=cN _ _;omega)|(simp[yes];omega)
     have Y:bR dW k2=TT:=by rw[e8,c7,S,F,D,z];exact HX.out
     have hz:=f3.out;rw[<-Y]at hz;have HT:=aH Y;clear Y z D F S c7 e8;obtain⟨lv,KL,oL⟩:=n1;have G:=KL.cell;go_wp2_with fail;clear G;refine(dE (bo+1) lv k2 _ oL aD aD).mono ?_;rintro e wz ⟨rfl,bz⟩;go_wp2;go_ret;exact⟨bJ (HT.out.trans f4.out),m9.after bz m9.size⟩
theorem aiI{p:Prop}(h:p:=by
  go_wp2_with fail;refine I.out.mono ?_;rintro e w1 ⟨rfl,K⟩;go_wp2_with fail;refine(ai3 _ w1).mono ?_;rintro e w2 ⟨rfl,rfl⟩;go_wp2;go_ret2;exact⟨rfl,D.after K D.size⟩):p:=h
theorem aeV(w:World)(c:ByteArray)(n:Int)(v:Value)(l:List Int)(R:aK w v l)(hl:l.length<=1048576)(N:iY w):
  Calls prog 89 #[.string c,.agg #[n,v]] w fun e w'=>e=.returned (.tuple #[.string ((rR c n l).getD ByteArray.empty),.bool (rR c n l).isSome])/\Below w w w':=by
 obtain⟨a,d,rfl⟩:=R.shape;have D:Below w w (w.alloc (.cells #[n,aA a l.length d] 27)):=bF _ _;have F:=R.alloc (.cells #[n,aA a l.length d] 27);have z0:=D.size;have M:=N.keep D;by_cases c0:c=(⟨#[102,117,110,99,116,105,111,110]⟩:ByteArray)
 ·have z:rR c n l=some (mL n l):=by unfold rR;rw[if_pos c0]
  have t0:(c.toList==([102,117,110,99,116,105,111,110]:List UInt8))=true:=by rw[show([102,117,110,99,116,105,111,110]:List UInt8)=((⟨#[102,117,110,99,116,105,111,110]⟩:ByteArray):ByteArray).toList by decide +kernel,dX,decide_eq_true c0]
  rw[z];clear z c0;have hC:=af0 _ n _ l F hl M;have I:=aH hC;clear hC;go_enter func89,ntmps89;go_wp2_with fail;refine I.out.mono ?_;rintro e w1 ⟨rfl,K⟩;go_wp2;go_ret2;exact⟨rfl,D.after K D.size⟩
 have t0:(c.toList==([102,117,110,99,116,105,111,110]:List UInt8))=false:=by rw[show([102,117,110,99,116,105,111,110]:List UInt8)=((⟨#[102,117,110,99,116,105,111,110]⟩:ByteArray):ByteArray).toList by decide +kernel,dX,decide_eq_false c0]
 by_cases c1:c=(⟨#[101,120,116,114,101,109,101]⟩:ByteArray)
 ·have z:rR c n l=some (wH n l):=by unfold rR;rw[if_neg c0,if_pos c1]
  have t1:(c.toList==([101,120,116,114,101,109,101]:List UInt8))=true:=by rw[show([101,120,116,114,101,109,101]:List UInt8)=((⟨#[101,120,116,114,101,109,101]⟩:ByteArray):ByteArray).toList by decide +kernel,dX,decide_eq_true c1]
  rw[z];clear z c0 c1;have hC:=aj6 _ n _ l F hl M;have I:=aH hC;clear hC;go_enter func89,ntmps89;go_wp2_with fail;refine I.out.mono ?_;rintro e w1 ⟨rfl,K⟩;go_wp2;go_ret2;exact⟨rfl,D.after K D.size⟩
 have t1:(c.toList==([101,120,116,114,101,109,101]:List UInt8))=false:=by rw[show([101,120,116,114,101,109,101]:List UInt8)=((⟨#[101,120,116,114,101,109,101]⟩:ByteArray):ByteArray).toList by decide +kernel,dX,decide_eq_false c1]
 by_cases c2:c=(⟨#[109,97,116,114,111,105,100]⟩:ByteArray)
 ·have z:rR c n l=some (E2 (EX n l)):=by unfold rR;rw[if_neg c0,if_neg c1,if_pos c2]
  have t2:(c.toList==([109,97,116,114,111,105,100]:List UInt8))=true:=by rw[show([109,97,116,114,111,105,100]:List UInt8)=((⟨#[109,97,116,114,111,105,100]⟩:ByteArray):ByteArray).toList by decide +kernel,dX,decide_eq_true c2]
  rw[z];clear z c0 c1 c2;have hC:=aiS _ n _ l F hl M;have I:=aH hC;clear hC;go_enter func89,ntmps89;exact aiI
 have t2:(c.toList==([109,97,116,114,111,105,100]:List UInt8))=false:=by rw[show([109,97,116,114,111,105,100]:List UInt8)=((⟨#[109,97,116,114,111,105,100]⟩:ByteArray):ByteArray).toList by decide +kernel,dX,decide_eq_false c2]
 by_cases c3:c=(⟨#[99,108,97,105,109]⟩:ByteArray)
 ·have z:rR c n l=some (cfT n l):=by unfold rR;rw[if_neg c0,if_neg c1,if_neg c2,if_pos c3]
  have t3:(c.toList==([99,108,97,105,109]:List UInt8))=true:=by rw[show([99,108,97,105,109]:List UInt8)=((⟨#[99,108,97,105,109]⟩:ByteArray):ByteArray).toList by decide +kernel,dX,decide_eq_true c3]
  rw[z];clear z c0 c1 c2 c3;have hC:=ZK _ n _ l F hl;have I:=aH hC;clear hC;go_enter func89,ntmps89;go_wp2_with fail;refine I.out.mono ?_;rintro e w1 ⟨p0,i0,q0,p1,i1,q1,p2,i2,q2,p3,i3,q3,rfl,S,Y,Z,o3,_,K⟩;have J:=D.after K D.size;go_wp2_with fail;refine(nY w1 (rV n l) (rU n l) _ (tO n l) S.ints 0 _ [] Y.ints 0 _ [] Z.ints (rW n l) (rX n l) _ (tN n l) o3.ints (eD n l) (N.keep J)).mono ?_;rintro e w2 ⟨rfl,b2⟩;go_wp2;go_ret2;exact⟨rfl,J.after b2 J.size⟩
 have t3:(c.toList==([99,108,97,105,109]:List UInt8))=false:=by rw[show([99,108,97,105,109]:List UInt8)=((⟨#[99,108,97,105,109]⟩:ByteArray):ByteArray).toList by decide +kernel,dX,decide_eq_false c3]
 by_cases c4:c=(⟨#[99,117,116]⟩:ByteArray)
 ·have z:rR c n l=some (ccT n l):=by unfold rR;rw[if_neg c0,if_neg c1,if_neg c2,if_neg c3,if_pos c4]
  have t4:(c.toList==([99,117,116]:List UInt8))=true:=by rw[show([99,117,116]:List UInt8)=((⟨#[99,117,116]⟩:ByteArray):ByteArray).toList by decide +kernel,dX,decide_eq_true c4]
  rw[z];clear z c0 c1 c2 c3 c4;have hC:=ZJ _ n _ l F hl;have I:=aH hC;clear hC;go_enter func89,ntmps89;go_wp2_with fail;refine I.out.mono ?_;rintro e w1 ⟨p0,i0,q0,p1,i1,q1,p2,i2,q2,p3,i3,q3,rfl,S,Y,Z,o3,_,K⟩;have J:=D.after K D.size;go_wp2_with fail;refine(nY w1 (UN n l) (UP n l) _ (UO n l) S.ints 0 _ [] Y.ints 0 _ [] Z.ints (lO n l) (nZ n l) _ [] o3.ints (gK n l) (N.keep J)).mono ?_;rintro e w2 ⟨rfl,b2⟩;go_wp2;go_ret2;exact⟨rfl,J.after b2 J.size⟩
 have t4:(c.toList==([99,117,116]:List UInt8))=false:=by rw[show([99,117,116]:List UInt8)=((⟨#[99,117,116]⟩:ByteArray):ByteArray).toList by decide +kernel,dX,decide_eq_false c4]
 have z:rR c n l=none:=by unfold rR;rw[if_neg c0,if_neg c1,if_neg c2,if_neg c3,if_neg c4]
 rw[z];clear z c0 c1 c2 c3 c4;go_enter func89,ntmps89;go_wp2;go_ret2;exact⟨rfl,D⟩
theorem aeW(w:World)(c:ByteArray)(n:Int)(v:Value)(l:List Int)(R:aK w v l)(hl:l.length<=1048576)(m:Int)(u:Value)(k:List Int)(hu:aK w u k)(hk:k.length<=1048576)(N:iY w):
  Calls prog 90 #[.string c,.agg #[n,v],.agg #[m,u]] w fun e w'=>e=.returned (.tuple #[.string ((BD c n l m k).getD ByteArray.empty),.bool (BD c n l m k).isSome])/\Below w w w':=by
 obtain⟨a,d,rfl⟩:=R.shape;obtain⟨b,f,rfl⟩:=hu.shape;have D:Below w w ((w.alloc (.cells #[n,aA a l.length d] 27)).alloc (.cells #[m,aA b k.length f] 27)):=wI _ _ _;have F:=(R.alloc (.cells #[n,aA a l.length d] 27)).alloc (.cells #[m,aA b k.length f] 27);have O:=(hu.alloc (.cells #[n,aA a l.length d] 27)).alloc (.cells #[m,aA b k.length f] 27);have K1:=(aP.new w 27 #[n,aA a l.length d]).alloc (.cells #[m,aA b k.length f] 27);have K2:aP ((w.alloc (.cells #[n,aA a l.length d] 27)).alloc (.cells #[m,aA b k.length f] 27)) (w.heap.size+1) 27 #[m,aA b k.length f]:=by have:=aP.new (w.alloc (.cells #[n,aA a l.length d] 27)) 27 #[m,aA b k.length f];simpa using this
 have z0:=D.size;have G1:=K1.cell;have G2:=K2.cell;have M:=N.keep D;by_cases c0:c=(⟨#[112,97,105,114]⟩:ByteArray)
 ·have z:BD c n l m k=some (E2 (E6 n l m k)):=by unfold BD;rw[if_pos c0]
  have t0:(c.toList==([112,97,105,114]:List UInt8))=true:=by rw[show([112,97,105,114]:List UInt8)=((⟨#[112,97,105,114]⟩:ByteArray):ByteArray).toList by decide +kernel,dX,decide_eq_true c0]
  rw[z];clear z c0;have hC:=ajA _ n _ l F hl m _ k O hk M;have I:=aH hC;clear hC;go_enter func90,ntmps90;exact aiI
 have t0:(c.toList==([112,97,105,114]:List UInt8))=false:=by rw[show([112,97,105,114]:List UInt8)=((⟨#[112,97,105,114]⟩:ByteArray):ByteArray).toList by decide +kernel,dX,decide_eq_false c0]
 by_cases c1:c=(⟨#[99,111,109,109,111,110]⟩:ByteArray)
 ·have z:BD c n l m k=some (cmT n l m k):=by unfold BD;rw[if_neg c0,if_pos c1]
  have t1:(c.toList==([99,111,109,109,111,110]:List UInt8))=true:=by rw[show([99,111,109,109,111,110]:List UInt8)=((⟨#[99,111,109,109,111,110]⟩:ByteArray):ByteArray).toList by decide +kernel,dX,decide_eq_true c1]
  rw[z];clear z c0 c1;have hC:=ZI _ n _ l F hl m _ k O hk;have I:=aH hC;clear hC;go_enter func90,ntmps90;go_wp2_with fail;refine I.out.mono ?_;rintro e w1 ⟨p0,i0,q0,p1,i1,q1,p2,i2,q2,p3,i3,q3,rfl,S,Y,Z,o3,_,K⟩;have J:=D.after K D.size;go_wp2_with fail;refine(nY w1 (U0 n l m k) (UX n l m k) _ (U1 n l m k) S.ints (UY n l m k) _ (U2 n l m k) Y.ints 0 _ [] Z.ints (U3 n l m k) (BH n l m k) _ (UZ n l m k) o3.ints (fE n l m k) (N.keep J)).mono ?_;rintro e w2 ⟨rfl,b2⟩;go_wp2;go_ret2;exact⟨rfl,J.after b2 J.size⟩
 have t1:(c.toList==([99,111,109,109,111,110]:List UInt8))=false:=by rw[show([99,111,109,109,111,110]:List UInt8)=((⟨#[99,111,109,109,111,110]⟩:ByteArray):ByteArray).toList by decide +kernel,dX,decide_eq_false c1]
 have z:BD c n l m k=none:=by unfold BD;rw[if_neg c0,if_neg c1]
 rw[z];clear z c0 c1;go_enter func90,ntmps90;go_wp2;go_ret2;exact⟨rfl,D⟩
theorem W4{p:Prop}(h:p:=by
  have K:=aH hC;clear hC;go_enter func93,ntmps93;go_wp2_with fail;refine K.out.mono ?_;rintro e w1 ⟨rfl,M⟩;go_wp2;go_ret2;exact⟨rfl,F.after M F.size⟩):p:=h
theorem RG(w:World)(c:ByteArray)(g:Int)(v:Value)(l:List Int)(Z:aK w v l)(hl:l.length<=1048576)(N:iY w):
  Calls prog 93 #[.string c,.agg #[g,v]] w fun e w'=>e=.returned (.tuple #[.string ((rA c g l).getD ByteArray.empty),.bool (rA c g l).isSome])/\Below w w w':=by
 obtain⟨a,d,rfl⟩:=Z.shape;have F:Below w w (w.alloc (.cells #[g,aA a l.length d] 29)):=bF _ _;have D:=Z.alloc (.cells #[g,aA a l.length d] 29);have z0:=F.size;have J:=N.keep F;by_cases c0:c=(⟨#[102,97,109,105,108,121]⟩:ByteArray)
 ·have z:rA c g l=some (vO g l):=by unfold rA;rw[if_pos c0]
  have t0:(c.toList==([102,97,109,105,108,121]:List UInt8))=true:=by rw[show([102,97,109,105,108,121]:List UInt8)=((⟨#[102,97,109,105,108,121]⟩:ByteArray):ByteArray).toList by decide +kernel,dX,decide_eq_true c0]
  rw[z];clear z c0;have hC:=afW _ g _ l D hl J;exact W4
 have t0:(c.toList==([102,97,109,105,108,121]:List UInt8))=false:=by rw[show([102,97,109,105,108,121]:List UInt8)=((⟨#[102,97,109,105,108,121]⟩:ByteArray):ByteArray).toList by decide +kernel,dX,decide_eq_false c0]
 by_cases c1:c=(⟨#[99,111,118,101,114]⟩:ByteArray)
 ·have z:rA c g l=some (pU g l):=by unfold rA;rw[if_neg c0,if_pos c1]
  have t1:(c.toList==([99,111,118,101,114]:List UInt8))=true:=by rw[show([99,111,118,101,114]:List UInt8)=((⟨#[99,111,118,101,114]⟩:ByteArray):ByteArray).toList by decide +kernel,dX,decide_eq_true c1]
  rw[z];clear z c0 c1;have hC:=acQ _ g _ l D hl J;exact W4
 have t1:(c.toList==([99,111,118,101,114]:List UInt8))=false:=by rw[show([99,111,118,101,114]:List UInt8)=((⟨#[99,111,118,101,114]⟩:ByteArray):ByteArray).toList by decide +kernel,dX,decide_eq_false c1]
 by_cases c2:c=(⟨#[111,114,100,101,114]⟩:ByteArray)
 ·have z:rA c g l=some (tV g l):=by unfold rA;rw[if_neg c0,if_neg c1,if_pos c2]
  have t2:(c.toList==([111,114,100,101,114]:List UInt8))=true:=by rw[show([111,114,100,101,114]:List UInt8)=((⟨#[111,114,100,101,114]⟩:ByteArray):ByteArray).toList by decide +kernel,dX,decide_eq_true c2]
  rw[z];clear z c0 c1 c2;have hC:=ai0 _ g _ l D hl J;exact W4
 have t2:(c.toList==([111,114,100,101,114]:List UInt8))=false:=by rw[show([111,114,100,101,114]:List UInt8)=((⟨#[111,114,100,101,114]⟩:ByteArray):ByteArray).toList by decide +kernel,dX,decide_eq_false c2]
 by_cases c3:c=(⟨#[104,97,108,108]⟩:ByteArray)
 ·have z:rA c g l=some (UR g l):=by unfold rA;rw[if_neg c0,if_neg c1,if_neg c2,if_pos c3]
  have t3:(c.toList==([104,97,108,108]:List UInt8))=true:=by rw[show([104,97,108,108]:List UInt8)=((⟨#[104,97,108,108]⟩:ByteArray):ByteArray).toList by decide +kernel,dX,decide_eq_true c3]
  rw[z];clear z c0 c1 c2 c3;have hC:=UV _ g _ l D hl;have K:=aH hC;clear hC;go_enter func93,ntmps93;go_wp2_with fail;refine K.out.mono ?_;rintro e w1 ⟨p0,i0,q0,p1,i1,q1,p2,i2,q2,p3,i3,q3,rfl,O,R,S,Y,_,M⟩;have I:=F.after M F.size;go_wp2_with fail;refine(nY w1 (xV g l) 0 _ [] O.ints 0 _ [] R.ints (xU g l) _ (yS g l) S.ints (tP g l) 0 _ (rG g l) Y.ints (mG g l) (N.keep I)).mono ?_;rintro e w2 ⟨rfl,b2⟩;go_wp2;go_ret2;exact⟨rfl,I.after b2 I.size⟩
 have t3:(c.toList==([104,97,108,108]:List UInt8))=false:=by rw[show([104,97,108,108]:List UInt8)=((⟨#[104,97,108,108]⟩:ByteArray):ByteArray).toList by decide +kernel,dX,decide_eq_false c3]
 by_cases c4:c=(⟨#[115,117,110,102,108,111,119,101,114]⟩:ByteArray)
 ·have z:rA c g l=some (csT g l):=by unfold rA;rw[if_neg c0,if_neg c1,if_neg c2,if_neg c3,if_pos c4]
  have t4:(c.toList==([115,117,110,102,108,111,119,101,114]:List UInt8))=true:=by rw[show([115,117,110,102,108,111,119,101,114]:List UInt8)=((⟨#[115,117,110,102,108,111,119,101,114]⟩:ByteArray):ByteArray).toList by decide +kernel,dX,decide_eq_true c4]
  rw[z];clear z c0 c1 c2 c3 c4;have hC:=ZM _ g _ l D hl 3 ⟨by omega,by omega⟩;have K:=aH hC;clear hC;go_enter func93,ntmps93;go_wp2_with fail;refine K.out.mono ?_;rintro e w1 ⟨p0,i0,q0,p1,i1,q1,p2,i2,q2,p3,i3,q3,rfl,O,R,S,Y,_,M⟩;have I:=F.after M F.size;go_wp2_with fail;refine(nY w1 (VD g l 3) 0 _ [] O.ints 0 _ [] R.ints (VC g l 3) _ (VB g l 3) S.ints (VE g l 3) 0 _ (iH g l 3) Y.ints (iE g l 3) (N.keep I)).mono ?_;rintro e w2 ⟨rfl,b2⟩;go_wp2;go_ret2;exact⟨rfl,I.after b2 I.size⟩
 have t4:(c.toList==([115,117,110,102,108,111,119,101,114]:List UInt8))=false:=by rw[show([115,117,110,102,108,111,119,101,114]:List UInt8)=((⟨#[115,117,110,102,108,111,119,101,114]⟩:ByteArray):ByteArray).toList by decide +kernel,dX,decide_eq_false c4]
 have z:rA c g l=none:=by unfold rA;rw[if_neg c0,if_neg c1,if_neg c2,if_neg c3,if_neg c4]
 rw[z];clear z c0 c1 c2 c3 c4;go_enter func93,ntmps93;go_wp2;go_ret2;exact⟨rfl,F⟩
end
end Go.Proofs.YtkdbkjjacgigiaaGreatDoor
