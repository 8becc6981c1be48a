/- Lemmas for CardConsoleResults. No condition. -/
import Derived.Test.YtkdbkjjacgigiaaGreatDoorQ36
set_option maxRecDepth 100000
set_option maxHeartbeats 64000000
namespace Go.Proofs.YtkdbkjjacgigiaaGreatDoor
section
open Go.RowKit Go.G5 Go.Proofs.Tryz
theorem afA(w:World)(D:List ByteArray)(t:TypeId):∀(j:Nat) z,D[j]?=some z->(w.alloc (.cells (D.map Value.string).toArray t)).cell? ⟨w.heap.size,0+j,none⟩=some (.string z):=by
 intro j z F;refine aZ w _ t (0+j) _ ?_;simp[F]
theorem afW(w:World)(g:Int)(v:Value)(l:List Int)(hv:aK w v l)(hl:l.length<=1048576)(hp:iY w):
  Calls prog 147 #[.agg #[g,v]] w fun e w'=>e=.returned (.string (vO g l))/\Below w w w':=by
 have z:=hv;obtain⟨a,c,rfl⟩:=hv.shape;have K0:=aP.new w 29 #[g,aA a l.length c]
 cases I:aU g l with
 |false=>have HX:=aH (P1 I);have HF:=aH I;clear I;go_enter func147,ntmps147;go_wp2_with fail;refine(cQ g l _ _ (z.alloc _)).mono ?_;rintro e w1 ⟨rfl,b1⟩;rw[HF.out];go_wp2;go_ret;exact⟨bJ HX.out.symm,(bF _ _).after b1 (by simp)⟩
 |true=>
  obtain⟨TT,h5⟩:=aJ (vO g l);have y0:TT.size<=20700:=by rw[h5,DW I];exact VW g l
  have hx:bR dW (fmL g l)=TT:=by rw[h5,DW I];exact arZ g l
  unfold fmL NT C0 at hx;have hdb:=PT g l;have hgl:=(MA g l).1;have hyb:=QA g l;have hcb:=UU g l;obtain⟨N,hN⟩:∃N:Nat,g=(N:Int):=Int.eq_ofNat_of_zero_le (dB I).1;have s7:∀(W:World),aK W (aA a l.length c) l->Calls prog 223 #[.agg #[g,aA a l.length c]] W fun e w'=>∃ad i c,e=.returned (aA ad i c)/\aK w' (aA ad i c) (nK g l)/\Below W W w':=by intro W h;subst hN;exact ZX W N _ l h I
  have b3:=fun(W:World) (h:aK W (aA a l.length c) l)=>M9 W g _ l h hl;have s5:=fun(W:World) (h:aK W (aA a l.length c) l)=>TL g l _ W h I;have s6:=fun(W:World) (h:aK W (aA a l.length c) l)=>akW W g _ l h I;have s8:=fun(W:World) (h:aK W (aA a l.length c) l)=>alS g l _ W h I;have s4:=fun(W:World) (h:aK W (aA a l.length c) l)=>PR g l _ W h I;have s2:=fun(W:World) (h:aK W (aA a l.length c) l)=>WG W g _ l h I;simp only[I]at b3;obtain⟨M,hM⟩:=aJ (gS g l);simp only[<-hM]at b3 hx;obtain⟨L,hL⟩:=aJ (lD g l);simp only[<-hL]at b3 hx;have u7:=aH b3;have u9:=aH s5;have v1:=aH s6;have v8:=aH s8;have u8:=aH s4;have u6:=aH s2;have v7:=aH s7;have v9:=aH h5;have HX:=aH hx;have HF:=aH I;clear hx I b3 s5 s6 s8 s4 s2 s7 h5 hM hL hN;go_enter func147,ntmps147;go_wp2_with fail;refine(cQ g l _ _ (z.alloc _)).mono ?_;rintro e w1 ⟨rfl,b1⟩;rw[HF.out];have B1:Below w w w1:=(bF _ _).after b1 (by simp);have K1:=K0.keep b1;clear K0 b1;have G:=K1.cell;go_wp2_with fail;refine(u7.out _ (z.below B1 aI)).mono ?_;rintro e w2 ⟨pB,iB,qB,rfl,oB,b2⟩;have x8:iB=L.length:=oB.ints.capLe.1;subst x8;have B2:=B1.after b2 B1.size;have F:=K1.keep b2;clear G B1 K1 b2;have KB:=aP.new w2 29 #[M,aA pB L.length qB];have hB:=oB.ints.alloc (.cells #[M,aA pB L.length qB] 29);have c6:=B2.alloc B2.size (.cells #[M,aA pB L.length qB] 29);have k2:=F.alloc (.cells #[M,aA pB L.length qB] 29);have G:=k2.cell;go_wp2_with fail;refine(u9.out _ (z.below c6 aI)).mono ?_;rintro e w4 ⟨rfl,b4⟩;have B4:=c6.after b4 c6.size;have p5:=k2.keep b4;have KB:=KB.keep b4;have hB:=hB.keep b4;clear G B2 c6 F k2 b4;have F:=p5;clear p5;have hA:=z.below B4 aI;obtain⟨gB,l6⟩:=aJ w2.heap.size;obtain⟨D,a9⟩:=aJ w4.heap.size;rw[<-l6]at KB;have zb:w.heap.size<D:=by rw[a9];exact F.lt
  have zB:gB<D:=by rw[a9];exact KB.lt
  have zc:w4.heap.size<=D:=aD;have L5:gI D (w4.alloc (.cells #[()] 143)) []:=by rw[a9];exact gI.new w4
  have B5:=B4.alloc B4.size (.cells #[()] 143);have C5:Below D w4 (w4.alloc (.cells #[()] 143)):=by rw[a9];exact bF w4 _
  go_wp2_with fail;rw[<-a9,<-l6];clear a9 l6;obtain⟨V,hV⟩:=aJ (w4.alloc (.cells #[()] 143));rw[<-hV]at L5 B5 C5 ⊢;clear hV;have e4:=cB KB C5 zB;have e5:=cB F C5 zb;have s0:=(hB.below C5 zc).drewN 1;have s1:=(hA.below C5 zc).drewN 1;have l7:=(hp.keep B5).keep ((Below.refl V.heap.size V).drewN' 1);have LV:=L5.keep ((Below.refl V.heap.size V).drewN' 1);have t1:=L5.lt;have zBV:=e4.lt;have zCV:=e5.lt;have bV:Below V V (V.drewN 1):=(Below.refl V.heap.size V).drewN' 1;have GB:=e4.cell;have GC:=e5.cell;have k0:=aH (jJ g l _ _ s1 l7);have k1:=aH (fun(W:World) (h:Below (V.drewN 1).heap.size (V.drewN 1) W)=>jJ M L _ W (s0.keep h) (l7.keep h));have j9:=aH (fun(W:World) (h:Below (V.drewN 1).heap.size (V.drewN 1) W)=>dF D [] [(⟨#[102,97,109,105,108,121]⟩:ByteArray),bZ g l,(⟨#[98,108,111,99,107,101,114]⟩:ByteArray),bZ M L] W.heap.size 4 4 _ ((LV.keep h).keep (bF W (.cells #[.string (⟨#[102,97,109,105,108,121]⟩:ByteArray),.string (bZ g l),.string (⟨#[98,108,111,99,107,101,114]⟩:ByteArray),.string (bZ M L)] 9))) rfl (afA W [(⟨#[102,97,109,105,108,121]⟩:ByteArray),bZ g l,(⟨#[98,108,111,99,107,101,114]⟩:ByteArray),bZ M L] _) (by simp));obtain⟨F1,g9⟩:=aJ (bZ g l);obtain⟨F2,h0⟩:=aJ (bZ M L);simp only[<-g9]at k0;simp only[<-h0]at k1;simp only[<-g9,<-h0]at j9;have l8:=HX.out;rw[<-g9,<-h0]at l8;have HX:=aH l8;clear l8 g9 h0;go_region_held3 (fun w'=>(∀i,w'.cell? ⟨w.heap.size,i,none⟩=(#[aG g,aA a l.length c]:Array Value)[i]?)/\(∀i,w'.cell? ⟨gB,i,none⟩=(#[aG M,aA pB L.length qB]:Array Value)[i]?)) (go_keep)
   (first
    |(go_at_call_of 196 (Value.slice a l.length c);refine k0.out.mono ?_;rintro e wa ⟨rfl,ba⟩;obtain⟨x2,x5⟩:=gN ba V.heap.size (by first|omega|(simp;done)|(simp;omega));have za:=ba.size;(try simp at za))
    |(go_at_call_of 196 (Value.slice pB L.length qB);refine(k1.out wa ba).mono ?_;rintro e wb ⟨rfl,bb⟩;have bb:=ba.after bb ba.size;have w9:=fun o=>(((e4.drewN 1).keep bb).alloc o).cell;have x0:=fun o=>(((e5.drewN 1).keep bb).alloc o).cell;obtain⟨s3,x6⟩:=gN bb V.heap.size (by first|omega|(simp;done)|(simp;omega));have y2:=bb.size;(try simp at y2))
    |(go_at_call 177;refine(j9.out wb bb).mono ?_;rintro e wc ⟨rfl,L6,b6⟩;obtain⟨x4,x7⟩:=gN b6 D aI))
  have Bw:=(B5.after bV B5.size).after bb B5.size;have Cw:=(C5.after bV (Nat.le_of_lt t1)).after bb (Nat.le_of_lt t1);have zl:=(LV.keep bb).lt;have B6:=(Bw.alloc Bw.size _).after b6 aD;have C6:=(Cw.alloc (Nat.le_of_lt zl) _).after b6 aI;clear Bw Cw B5 C5 bV bb b6 s0 s1 l7 LV L5 e4 e5 GB GC x2 x5 s3 x6 w9 x0 x4 x7 k0 k1 j9 ba;obtain⟨X6,h6⟩:=aJ ([]++[(⟨#[102,97,109,105,108,121]⟩:ByteArray),F1,(⟨#[98,108,111,99,107,101,114]⟩:ByteArray),F2]);rw[<-h6]at L6;have hN6:X6.length<=4:=by rw[h6];simp
  have G:=(cB F C6 zb).cell;go_wp2_with fail;clear G;refine(v1.out _ (z.below B6 aI)).mono ?_;rintro e w11 ⟨rfl,f6⟩;have h8:=B6.after f6 B6.size;have n2:=C6.after f6 (Nat.le_of_lt L6.lt);have p7:=L6.keep f6;clear B6 C6 L6 f6;go_wp2_with fail;refine(eQ D X6 (⟨#[100,105,109,101,110,115,105,111,110]⟩:ByteArray) (tT g l) ⟨by omega,by omega⟩ _ p7 (hp.keep h8) aD).mono ?_;rintro e w12 ⟨rfl,e6,q8⟩;have b7:=h8.after q8 aD;have i8:=n2.after q8 aI;clear h8 n2 p7;obtain⟨k5,J⟩:=aJ (X6++[(⟨#[100,105,109,101,110,115,105,111,110]⟩:ByteArray),aX (tT g l)]);rw[<-J]at e6;have y9:k5.length<=6:=by rw[J,List.length_append];first|(simp only[List.length_cons,List.length_nil];omega)|(have:=cN _ _;omega)|(simp[yes];omega)
  have G:=(cB F i8 zb).cell;go_wp2_with fail;clear G;refine(v7.out _ (z.below b7 aI)).mono ?_;rintro e w13 ⟨pG,iG,qG,rfl,oG,f7⟩;have h9:=b7.after f7 b7.size;have n3:=i8.after f7 (Nat.le_of_lt e6.lt);have p8:=e6.keep f7;clear b7 i8 e6 f7;have x9:iG=(nK g l).length:=oG.capLe.1;subst x9;go_wp2_with fail;refine(kV D k5 (⟨#[103,114,111,119,116,104]⟩:ByteArray) _ (nK g l) _ oG aD p8 (hp.keep h9) aD).mono ?_;rintro e w14 ⟨rfl,e7,q9⟩;have b8:=h9.after q9 aD;have j0:=n3.after q9 aI;clear h9 n3 p8;obtain⟨k6,K⟩:=aJ (k5++[(⟨#[103,114,111,119,116,104]⟩:ByteArray),eR (nK g l)]);rw[<-K]at e7;have z1:k6.length<=8:=by rw[K,List.length_append];first|(simp only[List.length_cons,List.length_nil];omega)|(have:=cN _ _;omega)|(simp[yes];omega)
  have G:=(cB F j0 zb).cell;go_wp2_with fail;clear G;refine(v8.out _ (z.below b8 aI)).mono ?_;rintro e w15 ⟨rfl,f8⟩;have i1:=b8.after f8 b8.size;have o0:=j0.after f8 (Nat.le_of_lt e7.lt);have p9:=e7.keep f8;clear b8 j0 e7 f8;go_wp2_with fail;refine(eQ D k6 (⟨#[108,121,109]⟩:ByteArray) (tU g l) ⟨by omega,by omega⟩ _ p9 (hp.keep i1) aD).mono ?_;rintro e w16 ⟨rfl,k3,r0⟩;have i6:=i1.after r0 aD;have o1:=o0.after r0 aI;clear i1 o0 p9;obtain⟨k7,O⟩:=aJ (k6++[(⟨#[108,121,109]⟩:ByteArray),aX (tU g l)]);rw[<-O]at k3;have z6:k7.length<=10:=by rw[O,List.length_append];first|(simp only[List.length_cons,List.length_nil];omega)|(have:=cN _ _;omega)|(simp[yes];omega)
  go_wp2_with fail;refine(eQ D k7 (⟨#[100,105,115,99,114,101,112,97,110,99,121]⟩:ByteArray) (yR g l) ⟨by omega,by omega⟩ _ k3 (hp.keep i6) aD).mono ?_;rintro e w17 ⟨rfl,e8,r1⟩;have b9:=i6.after r1 aD;have j1:=o1.after r1 aI;clear i6 o1 k3;obtain⟨k8,R⟩:=aJ (k7++[(⟨#[100,105,115,99,114,101,112,97,110,99,121]⟩:ByteArray),aX (yR g l)]);rw[<-R]at e8;have z7:k8.length<=12:=by rw[R,List.length_append];first|(simp only[List.length_cons,List.length_nil];omega)|(have:=cN _ _;omega)|(simp[yes];omega)
  have G:=(cB F j1 zb).cell;go_wp2_with fail;clear G;refine(fC g (BK g l) _ (hp.keep b9)).mono ?_;rintro e y1 ⟨rfl,f9⟩;have i7:=b9.after f9 b9.size;have o2:=j1.after f9 (Nat.le_of_lt e8.lt);have k4:=e8.keep f9;clear b9 j1 e8 f9;go_wp2_with fail;have t6:=k4.lt;refine(dF D k8 [(⟨#[98,121]⟩:ByteArray),bG g (BK g l)] y1.heap.size 2 2 _ (k4.keep (bF _ _)) rfl (fF (aZ _ _ _ _ _ rfl) (aZ _ _ _ _ _ rfl)) (by simp only[List.length_cons,List.length_nil];omega)).mono ?_;rintro e w19 ⟨rfl,e9,r2⟩;have c5:=(i7.alloc i7.size _).after r2 aD;have j2:=(o2.alloc (Nat.le_of_lt t6) _).after r2 aI;clear i7 o2 k4;obtain⟨k9,S⟩:=aJ (k8++[(⟨#[98,121]⟩:ByteArray),bG g (BK g l)]);rw[<-S]at e9;have z8:k9.length<=14:=by rw[S,List.length_append];first|(simp only[List.length_cons,List.length_nil];omega)|(have:=cN _ _;omega)|(simp[yes];omega)
  have G:=(cB F j2 zb).cell;go_wp2_with fail;clear G;refine(TR g l _ _ (z.below c5 aI)).mono ?_;rintro e w20 ⟨rfl,g0⟩;have m5:=c5.after g0 c5.size;have o3:=j2.after g0 (Nat.le_of_lt e9.lt);have q0:=e9.keep g0;clear c5 j2 e9 g0;go_wp2_with fail;refine(fK D k9 (⟨#[108,97,109,105,110,97,114]⟩:ByteArray) (uU g l) _ q0 aD).mono ?_;rintro e w21 ⟨rfl,f0,r3⟩;have c7:=m5.after r3 aD;have j3:=o3.after r3 aI;clear m5 o3 q0;obtain⟨l0,Y⟩:=aJ (k9++yes (uU g l) (⟨#[108,97,109,105,110,97,114]⟩:ByteArray));rw[<-Y]at f0;have z9:l0.length<=15:=by rw[Y,List.length_append];have:=cN (uU g l) (⟨#[108,97,109,105,110,97,114]⟩:ByteArray);omega
  have G:=(cB F j3 zb).cell;go_wp2_with fail;clear G;refine(u8.out _ (z.below c7 aI)).mono ?_;rintro e w22 ⟨rfl,g2⟩;have m6:=c7.after g2 c7.size;have o4:=j3.after g2 (Nat.le_of_lt f0.lt);have q1:=f0.keep g2;clear c7 j3 f0 g2;go_wp2_with fail;refine(fK D l0 (⟨#[99,114,111,115,115,102,114,101,101]⟩:ByteArray) (nA g l) _ q1 aD).mono ?_;rintro e w23 ⟨rfl,f2,r4⟩;have c8:=m6.after r4 aD;have j4:=o4.after r4 aI;clear m6 o4 q1;obtain⟨l1,Z⟩:=aJ (l0++yes (nA g l) (⟨#[99,114,111,115,115,102,114,101,101]⟩:ByteArray));rw[<-Z]at f2;have hN23:l1.length<=16:=by rw[Z,List.length_append];have:=cN (nA g l) (⟨#[99,114,111,115,115,102,114,101,101]⟩:ByteArray);omega
  have G:=(cB F j4 zb).cell;go_wp2_with fail;clear G;refine(Z1 g l _ _ (z.below c8 aI)).mono ?_;rintro e w24 ⟨rfl,g5⟩;have m7:=c8.after g5 c8.size;have o5:=j4.after g5 (Nat.le_of_lt f2.lt);have q2:=f2.keep g5;clear c8 j4 f2 g5;go_wp2_with fail;refine(fK D l1 (⟨#[105,110,116,101,114,115,101,99,116,105,110,103]⟩:ByteArray) (mH g l) _ q2 aD).mono ?_;rintro e w25 ⟨rfl,f3,r5⟩;have c9:=m7.after r5 aD;have j5:=o5.after r5 aI;clear m7 o5 q2;obtain⟨l2,a1⟩:=aJ (l1++yes (mH g l) (⟨#[105,110,116,101,114,115,101,99,116,105,110,103]⟩:ByteArray));rw[<-a1]at f3;have hN25:l2.length<=17:=by rw[a1,List.length_append];have:=cN (mH g l) (⟨#[105,110,116,101,114,115,101,99,116,105,110,103]⟩:ByteArray);omega
  have G:=(cB F j5 zb).cell;go_wp2_with fail;clear G;refine(ac7 g l _ _ (z.below c9 aI)).mono ?_;rintro e w26 ⟨rfl,g6⟩;have m8:=c9.after g6 c9.size;have o6:=j5.after g6 (Nat.le_of_lt f3.lt);have q3:=f3.keep g6;clear c9 j5 f3 g6;go_wp2_with fail;refine(fK D l2 (⟨#[97,110,116,105,99,104,97,105,110]⟩:ByteArray) (rT g l) _ q3 aD).mono ?_;rintro e w27 ⟨rfl,f4,r6⟩;have d0:=m8.after r6 aD;have j6:=o6.after r6 aI;clear m8 o6 q3;obtain⟨l3,a6⟩:=aJ (l2++yes (rT g l) (⟨#[97,110,116,105,99,104,97,105,110]⟩:ByteArray));rw[<-a6]at f4;have hN27:l3.length<=18:=by rw[a6,List.length_append];have:=cN (rT g l) (⟨#[97,110,116,105,99,104,97,105,110]⟩:ByteArray);omega
  have G:=(cB F j6 zb).cell;go_wp2_with fail;clear G;refine(ZZ g l _ _ (z.below d0 aI) hl).mono ?_;rintro e w28 ⟨rfl,g7⟩;have m9:=d0.after g7 d0.size;have o7:=j6.after g7 (Nat.le_of_lt f4.lt);have q4:=f4.keep g7;clear d0 j6 f4 g7;go_wp2_with fail;refine(fK D l3 (⟨#[100,111,119,110]⟩:ByteArray) (pW g l) _ q4 aD).mono ?_;rintro e w29 ⟨rfl,f5,r7⟩;have e0:=m9.after r7 aD;have j7:=o7.after r7 aI;clear m9 o7 q4;obtain⟨l4,a7⟩:=aJ (l3++yes (pW g l) (⟨#[100,111,119,110]⟩:ByteArray));rw[<-a7]at f5;have hN29:l4.length<=19:=by rw[a7,List.length_append];have:=cN (pW g l) (⟨#[100,111,119,110]⟩:ByteArray);omega
  have G:=(cB F j7 zb).cell;go_wp2_with fail;clear G;refine(u6.out _ (z.below e0 aI)).mono ?_;rintro e w30 ⟨rfl,g8⟩;have n0:=e0.after g8 e0.size;have o8:=j7.after g8 (Nat.le_of_lt f5.lt);have q5:=f5.keep g8;clear e0 j7 f5 g8;go_wp2_with fail;refine(fK D l4 (⟨#[98,97,115,101,115]⟩:ByteArray) (yO g l) _ q5 aD).mono ?_;rintro e w31 ⟨rfl,q6,r8⟩;have n1:=n0.after r8 aD;have C31:=o8.after r8 aI;clear n0 o8 q5;obtain⟨l5,a8⟩:=aJ (l4++yes (yO g l) (⟨#[98,97,115,101,115]⟩:ByteArray));rw[<-a8]at q6;have hN31:l5.length<=20:=by rw[a8,List.length_append];have:=cN (yO g l) (⟨#[98,97,115,101,115]⟩:ByteArray);omega
  have hT:bR dW l5=TT:=by rw[a8,a7,a6,a1,Z,Y,S,R,O,K,J,h6];exact HX.out
  have hz:=y0;rw[<-hT]at hz;have HT:=aH hT;clear hT h6 J K O R S Y Z a1 a6 a7 a8;obtain⟨lv,KL,oL⟩:=q6;have G:=KL.cell;go_wp2_with fail;clear G;refine(dE (D+1) lv l5 _ oL aD aD).mono ?_;rintro e wz ⟨rfl,bz⟩;go_wp2;go_ret;exact⟨bJ (HT.out.trans v9.out),n1.after bz n1.size⟩
def FM(z:Nat)(v:Value)(l:List Int):Prop:=l≠[]->∀k,v.ownBlock=some k->k≠z
theorem uF{w w':World}{P:Nat->Prop}{v:Value}{l:List Int}(h:aK w v l)(F:GrownIn w w' P)(I:l≠[]->∀k,v.ownBlock=some k->¬P k):aK w' v l:=by
 obtain⟨a,c,rfl,h1,h2,h3,h4⟩:=h;refine⟨a,c,rfl,h1,h2,h3,?_⟩;rcases h4 with h4|⟨b,D,rfl,hb,hc⟩
 ·exact .inl h4
 ·refine .inr ⟨b,D,rfl,Nat.lt_of_lt_of_le hb F.size,fun k hk=>?_⟩;have e:=F.block b hb (I (by intro e;subst e;simp at hk) b rfl);have z:=hc k hk;unfold World.cell? at z ⊢;simp only at z ⊢;rw[e];exact z
theorem abD{w:World}{v:Value}{l:List Int}(h:aK w v l)(hl:l≠[]):∀k,v.ownBlock=some k->k<w.heap.size:=by
 obtain⟨a,c,rfl,h1,h2,h3,h4⟩:=h;intro k hk;rcases h4 with h4|⟨b,z,rfl,hb,_⟩
 ·exact absurd h4 hl
 ·have:b=k:=Option.some.inj hk;omega
theorem N6{P:Program}{w:World}{a:Option Addr}{c:Nat}{l:List Int}(h:aK w (aA a l.length c) l)(T E:TypeId)(J:P.underlying T=some (.slice E))(K:IntElem P E)(k:Nat)(hk:k<=l.length):
  ∃D F,(∀(N:IntKind) (w':World),(Instr.slice T (aA a l.length c) (some (.int N (k:Int))) none none).run P w'=.ok (.slice D (l.drop k).length F) w')/\aK w (.slice D (l.drop k).length F) (l.drop k) /\
   ∀q,(Value.slice D (l.drop k).length F).ownBlock=some q->(Value.slice a l.length c).ownBlock=some q:=by
 obtain⟨i,M,_,h1,_⟩:=K.get;have I:P.elem T=E:=by simp[Program.elem,J]
 obtain⟨hl,hcl,hcm⟩:=h.capLe;obtain⟨D,F,e1,e2⟩:=aK.from h T E J K k hk
 refine⟨D,F,e1,e2,?_⟩;have e3:=e1 .i64 default;rw[run_slice_l default T a l.length c (by rw[I];exact J) .i64 k aD aD]at e3;simp[sizeOf,typeInfo,I,M,h1,Result.andThen,sliced,List.length_drop]at e3;obtain⟨rfl,_⟩:=e3;intro q z
 cases a with
 |none=>simp[Value.ownBlock]at z
 |some ad=>
  split at z
  ·simpa[Value.ownBlock]using z
  ·simp only[Option.map_some,Value.ownBlock,Addr.add]at z ⊢
   split at z
   ·exact z
   ·exact z
theorem CF(N:Nat):∀(r:List Int) (u:Int) (c b:List Int),c.length+r.length<=N->b.length<=N->(kD r u c b).length<=N
 |[],_,_,_,_,h=>h
 |s::r,u,c,b,h1,h2=>by
  rw[List.length_cons]at h1;rw[kD]
  split
  ·refine CF N r u c _ aD (CF N r (eH u s) (c++[s]) _ aT ?_);unfold cH
   split
   ·simp;omega
   ·exact h2
  ·exact CF N r u c b aD h2
def MO(z:Nat)(b:List Int)(w:World)(e:Ending)(w':World):Prop:=
 e=.returned (.tuple #[])/\∃v,aP w' z 180 #[v]/\aK w' v b/\FM z v b/\GrownIn w w' (fun k=>k=z)
theorem ahE{p:Prop}(h:p:=by
  have hI:=(oc.setFar ⟨J,0,none⟩ (fun e=>by have:=(oc.lt J e).1;omega) (aA pc F.length qc)).ints;exact⟨pc,qc,by rw[O.out];exact KF,by rw[O.out];exact hI,by rw[O.out];exact k5,(GrownIn.of_below bc).trans (GrownIn.of_row gF (fun k hk=>(Option.some.inj hk).symm))⟩):p:=h
theorem ah7{p:Prop}(h:p:=by
  rw[l9]at I;have a1:=aH I;clear I l9 e9;go_wp2;go_roundw
  case rel=>exact⟨j+1,y,p',q',by omega,by go_num,K2,hy,e0,j3,a1.out.symm,g2⟩
  case measure=>simp[intOf];omega):p:=h
theorem ah9{p:Prop}(h:p:=by
  have o2:=aH i1;clear b4 i1 k1;go_wp2;exact bodyPost_end (v:=.tuple #[]) (results_none rfl _ _ _) rfl ⟨rfl,_,K2,by rw[<-o2.out];exact hy,by rw[<-o2.out];exact e0,g2⟩):p:=h
theorem TX(J:Nat):∀(m:Nat) (sets:List Int) (sv:Value) (u:Int) (F:List Int) (lv:Value) (M:List Int) (bv:Value) (w:World),sets.length=m->(∀x∈sets,0<=x/\x<64)->aK w sv sets->FM J sv sets->aK w lv F->FM J lv F ->
  aP w J 180 #[bv]->aK w bv M->FM J bv M->0<=u->u<64->F.length+m<=64->M.length<=64 ->
  Calls prog 313 #[.pointer (some ⟨J,0,none⟩),sv,u,lv] w (MO J (kD sets u F (cH M F)) w):=by
 intro m
 induction m using Nat.strongRecOn with
 |ind m ih=>
 intro sets sv u F lv M bv w hm j0 hs h5 hc l5 K hb h0 m4 v7 p6 s0;have m3:=hs;have g0:=hc;have zo:=K.lt;obtain⟨a,n,s8,cp,rfl,e4,h7,k0,o7⟩:=hs.view prog 25 3 underlying25 aN;obtain⟨av,cv,rfl⟩:=hc.shape;obtain⟨ab,cb,rfl⟩:=hb.shape;have r1:=aH h7;have f6:=aH j0;have IH:=aH ih;have G:=K.cell;have HM:=aH hm;clear h7 j0 ih e4 hm;go_enter func313,ntmps313;go_upto_if 17 with fail;go_cut [18] (fun _ wx=>∃p q,aP wx J 180 #[.slice p (cH M F).length q]/\aK wx (.slice p (cH M F).length q) (cH M F)/\FM J (.slice p (cH M F).length q) (cH M F)/\GrownIn w wx (fun k=>k=J))
 case rest=>
  obtain⟨p,q,K1,c9,d0,g1⟩:=hcut;clear K hb h0 G;have h8:(cH M F).length<=64:=by unfold cH;split<;>omega
  obtain⟨b1,S⟩:=aJ (cH M F);have HE:=aH S;rw[<-S]at K1 c9 d0 h8;clear S;go_wp2_with fail;go_loopw [25] (fun iv wr=>∃(j:Nat) (y:List Int) (p:Option Addr) (q:Nat),j<=sets.length/\iv=aG j/\aP wr J 180 #[aA p y.length q]/\aK wr (aA p y.length q) y/\FM J (aA p y.length q) y/\y.length<=64/\kD (sets.drop j) u F y=kD sets u F b1/\GrownIn w wr (fun k=>k=J)) (fun iv _=>sets.length-(intOf iv).toNat)
  case atStart=>exact⟨0,b1,p,q,Nat.zero_le _,rfl,K1,c9,d0,h8,rfl,g1⟩
  case round=>
   obtain⟨j,y,p',q',hj,rfl,K2,hy,e0,j3,b4,g2⟩:=hrel;clear K1 c9 d0 g1;by_cases hlt:j<sets.length
   ·have h9:(j:Int)<(sets.length:Int):=aD;have i7:=uF m3 g2 h5;have e6:=uF g0 g2 l5;obtain⟨a2,n2,q7,c2,he,_,b3,g6,_⟩:=i7.view prog 25 3 underlying25 aN;injection he with e1 _ e3;subst e1 e3;have l3:=g6 j hlt;have s2:=fun W=>b3 W j hlt;clear g6 b3;have b9:=f6.out _ (List.getElem_mem hlt);have g8:=List.drop_eq_getElem_cons hlt;have I:kD (sets.drop j) u F y=if DC sets[j] u then kD (sets.drop (j+1)) u F (kD (sets.drop (j+1)) (eH u sets[j]) (F++[sets[j]]) (cH y (F++[sets[j]]))) else kD (sets.drop (j+1)) u F y:=by rw[g8,kD]
    rw[b4]at I;have yw:=g2.size;obtain⟨x,hx⟩:=aJ (sets[j]);rw[<-hx]at l3 b9 I;have o4:bits .and .i64 x u=bB x u:=dU b9.1 aD m4 aD;have e9:DC x u=(x != 0&&bB x u==0):=rfl;obtain⟨z,hz⟩:=aJ (bB x u);rw[<-hz]at o4 e9;clear hx hz b4 g8
    cases h1:x != 0 with
    |false=>
     have l9:DC x u=false:=by rw[e9,h1];rfl
     exact ah7
    |true=>
     cases h2:z==0 with
     |false=>
      have l9:DC x u=false:=by rw[e9,h1,h2];rfl
      exact ah7
     |true=>
      have k6:DC x u=true:=by rw[e9,h1,h2];rfl
      rw[k6,if_pos rfl]at I;have s3:bits .or .i64 u x=eH u x:=sJ m4 aD b9.1 aD;have m2:=AJ u x 6 m4 b9.1 aD aD;obtain⟨u2,q4⟩:=aJ (eH u x);rw[<-q4]at s3 m2 I;have p8:=m2.1;have p9:u2<64:=aD;have l7:j+1<=sets.length:=hlt;have N:(sets.drop (j+1)).length=sets.length-(j+1):=List.length_drop ..;have Y:(F++[x]).length=F.length+1:=by simp
      obtain⟨a3,c3,j1,i8,g9⟩:=N6 i7 25 3 underlying25 aN (j+1) l7;have b8:=fun W=>j1 .i64 W;rw[show((j+1:Nat):Int)=(j:Int)+1 by simp]at b8;have c8:∀e∈sets.drop (j+1),0<=e/\e<64:=fun e he=>f6.out e (List.mem_of_mem_drop he);obtain⟨D,hD⟩:=aJ (sets.drop (j+1));rw[<-hD]at N i8 g9 c8;simp only[<-hD]at b8;have a6:=aH hD;have f8:kD (sets.drop (j+1)) u2 (F++[x]) (cH y (F++[x]))=kD D u2 (F++[x]) (cH y (F++[x])):=by rw[a6.out]
      clear hD j1;obtain⟨R,hR⟩:=aJ (kD D u2 (F++[x]) (cH y (F++[x])));have l8:=HM.out;have l2:R.length<=64:=by rw[hR];exact CF 64 _ _ _ _ (by rw[N,Y];omega) (by unfold cH;split<;>omega)
      have b7:∀(v6:Value) (w6:World),aM 3 wr w6 v6 (F++[x])->Below wr wr w6 ->
        Calls prog 313 #[.pointer (some ⟨J,0,none⟩),aA a3 D.length c3,u2,v6] w6 (MO J R w6):=fun v6 w6 q1 q2=>by
       rw[hR];have zz:=K2.lt;exact IH.out D.length (by rw[N];omega) _ _ u2 (F++[x]) v6 y _ w6 rfl c8 (i8.below q2 aI) (fun a8 k hk=>h5 (fun e=>a8 (by rw[a6.out,e];rfl)) k (g9 k hk)) q1.ints (fun _ k hk=>by have:=(q1.lt k hk).1;omega) (K2.keep q2) (hy.below q2 aI) e0 p8 p9 (by rw[N,Y];omega) j3
      rw[f8,<-hR]at I;have f5:=aH b7;have a1:=aH I;have f7:F.length + [x].length<=17592186044416:=by simp;omega
      have f9:dL x:=⟨by omega,by omega⟩;have s4:IntKind.i64.wrap ((j:Int)+1)=(j:Int)+1:=by rw[IntKind.wrap_i64];omega
      have f4:=aH f7;have k8:=aH f9;have g5:F.length<=1048576:=aD;have o9:=aH N;clear b7 I hR f8 c8 q4 m2 k6 e9 f7 f9 N Y l8;go_wp2_with fail;go_region_law
       (first
        |(go_simp;go_at_call 287;refine(kR _ F _ ?_ g5).mono ?_;(first|(with_reducible exact e6.drew')|(with_reducible exact(e6.alloc _).drew'));rintro e w5 ⟨p5,i5,q5,rfl,o5,b5⟩;have c5:=aM.mono (B':=wr.heap.size) o5 (by first|omega|(simp;done)|(simp;omega));first|(have a7:Below wr wr w5:=((bF wr (.cells #[x] 3)).drewN' 1).after b5 (by first|omega|(simp;done)|(simp;omega));have j4:w5.cell? ⟨wr.heap.size,0,none⟩=some (aG x):=keep b5 (BI wr 3 (aG x)))|(have a7:Below wr wr w5:=((Below.refl wr.heap.size wr).drewN' 1).after b5 (by first|omega|(simp;done)|(simp;omega))))
        |(refine gE rfl _ _ _ rfl 3 underlying25 aN wr.heap.size (aA p5 i5 q5) F rfl (aA (some ⟨_,0,none⟩) 1 1) [x] rfl ?_ ?_ f4.out wr ?_ aI ?_;(first|(with_reducible exact c5.alloc _)|(with_reducible exact c5));(refine aK.one ?_ k8.out;first|(with_reducible exact aZ _ _ _ _ _ rfl)|(with_reducible exact j4));(first|(with_reducible exact a7.alloc a7.size _)|(with_reducible exact a7));intro v6 w6 o6 b6 _)
        |(go_simp;go_at_call 313;refine(f5.out _ w6 o6 b6).mono ?_;rintro e7 w7 ⟨rfl,r6,K7,j2,l4,g7⟩))
      all_goals
       obtain⟨p7,c7,rfl⟩:=j2.shape;have l1:=g2.trans ((GrownIn.of_below (P:=fun k=>k=J) b6).trans g7);have b0:kD D u F R=kD sets u F b1:=by rw[a1.out,a6.out]
       have f3:=aH b0;clear b0;go_wp2;go_roundw
       case rel=>exact⟨j+1,R,p7,c7,by omega,by go_num,K7,j2,l4,l2,by rw[<-a6.out];exact f3.out,l1⟩
       case measure=>simp[intOf];omega
   ·have h9:¬(j:Int)<(sets.length:Int):=aD;have k1:j=sets.length:=aD;have i1:y=kD sets u F (cH M F):=by rw[<-HE.out,<-b4,k1,List.drop_length];rfl
    exact ah9
 case first=>
  by_cases Z:M.length<F.length
  ·have h6:(M.length:Int)<(F.length:Int):=aD;have hlo:cH M F=F:=by unfold cH;rw[if_pos Z]
   have O:=aH hlo;have a8:F≠[]:=by intro e;subst e;simp at Z
   have r2:=aH a8;clear hlo Z a8;go_wp2_with fail;refine(kR _ F w g0 aD).mono ?_;rintro e w1 ⟨pc,ic,qc,rfl,oc,bc⟩;have l6:ic=F.length:=oc.ints.capLe.1;subst l6;have K1:=K.keep bc;have G1:=K1.cell;have F1:=K1.frozen;have z1:=K1.lt;clear G;go_wp2;go_meet;have KF:aP (w1.setCell ⟨J,0,none⟩ (aA pc F.length qc)) J 180 #[aA pc F.length qc]:=by have:=K1.set 0 (aA pc F.length qc);simpa using this
   have gF:w1.grownBy (w1.setCell ⟨J,0,none⟩ (aA pc F.length qc)) (some J):=bQ (World.grownBy.refl _ _) 0 _;have k5:FM J (aA pc F.length qc) F:=fun _ k hk=>by have:=(oc.lt k hk).1;omega
   exact ahE
  ·have h6:¬(M.length:Int)<(F.length:Int):=aD;have hlo:cH M F=M:=by unfold cH;rw[if_neg Z]
   have O:=aH hlo;clear hlo Z;go_wp2_with fail;go_meet;exact⟨ab,cb,by rw[O.out];exact K,by rw[O.out];exact hb,by rw[O.out];exact h0,GrownIn.refl _ _⟩
theorem XS(w:World)(g:Int)(v:Value)(l:List Int)(hv:aK w v l):
  Calls prog 231 #[.agg #[g,v]] w fun e w'=>∃ad i cp,e=.returned (.tuple #[aG ((lL g l).length:Int),aA ad i cp,.bool (aU g l)])/\aK w' (aA ad i cp) (lL g l)/\Below w w w':=by
 have D:=hv;obtain⟨a,c,rfl⟩:=hv.shape;have K0:=aP.new w 29 #[g,aA a l.length c]
 cases F:aU g l with
 |false=>
  have N:lL g l=[]:=by unfold lL;rw[F];rfl
  have M:=aH N;have S:=aH F;clear N F;go_enter func231,ntmps231;go_wp2_with fail;refine(cQ g l _ _ (D.alloc _)).mono ?_;rintro e w1 ⟨rfl,z⟩;rw[S.out];go_wp2;exact bodyPost_ret (v:=.tuple #[aB,(),.bool false]) (by simp[results,results231,go_sem]) rfl ⟨none,0,0,by rw[M.out];rfl,by rw[M.out];exact aK.empty _ _ _ _ rfl aQ,(bF _ _).after z (by simp)⟩
 |true=>
  have N:lL g l=tJ l:=by unfold lL;rw[F];rfl
  have hm:=dR F;have R:=iL F;have b7:(tJ l).length<=64:=vH 64 l 0 [] [] (by simpa using R) (by simp);have I:∀K V,aK V (aA a l.length c) l->FM K (aA a l.length c) l->aP V K 180 #[()]->Calls prog 313 #[.pointer (some ⟨K,0,none⟩),aA a l.length c,aB,()] V (MO K (tJ l) V):=fun K V h1 h2 h3=>by have h:=TX K l.length l _ 0 [] (aA none 0 0) [] (aA none 0 0) V rfl hm h1 h2 (aK.empty _ _ _ _ rfl aQ) (fun h=>absurd rfl h) h3 (aK.empty _ _ _ _ rfl aQ) (fun h=>absurd rfl h) aD aD (by simpa using R) (by simp);rw[<-ai6];exact h
  have M:=aH N;have S:=aH F;have HV:=aH I;clear N F I hm;go_enter func231,ntmps231;go_wp2_with fail;refine(cQ g l _ _ (D.alloc _)).mono ?_;rintro e w1 ⟨rfl,z⟩;rw[S.out];have J:Below w w w1:=(bF _ _).after z (by simp);have K1:=K0.keep z;have K2:=K1.alloc (.cells #[()] 180);have G1:=K2.cell;have Z:=(D.below J aI).alloc (.cells #[()] 180);have hz:=K1.lt;have O:FM w1.heap.size (aA a l.length c) l:=fun Y k hk e=>by have h1:=abD D Y k hk;have h2:=J.size;omega
  clear z K0;go_wp2_with fail;refine(HV.out w1.heap.size _ Z O (aP.new _ _ _)).mono ?_;rintro e w2 ⟨rfl,bv,K3,hb,b8,g2⟩;obtain⟨pb,qb,rfl⟩:=hb.shape;have B2:Below w w w2:=Below.growIn (J.alloc J.size _) g2 (J.alloc J.size _).size (by rintro k rfl;exact J.size);have G3:=K3.cell;go_wp2_with fail;go_quiet (fail);go_wp2;exact bodyPost_ret (v:=.tuple #[aG ((tJ l).length:Int),.slice pb (tJ l).length qb,.bool true]) (by simp[results,results231,go_sem]) rfl ⟨pb,_,qb,by rw[M.out],by rw[M.out];exact hb.drewN _,B2.drewN' _⟩
end
end Go.Proofs.YtkdbkjjacgigiaaGreatDoor
