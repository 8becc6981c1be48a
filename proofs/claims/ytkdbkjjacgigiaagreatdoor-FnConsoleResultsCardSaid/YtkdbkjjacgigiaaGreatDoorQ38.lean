/- Lemmas for CardConsoleResults. No condition. -/
import Derived.Test.YtkdbkjjacgigiaaGreatDoorQ22
import Derived.Test.YtkdbkjjacgigiaaGreatDoorQ37
set_option maxRecDepth 100000
set_option maxHeartbeats 64000000
namespace Go.Proofs.YtkdbkjjacgigiaaGreatDoor
section
open Go.RowKit Go.G5 Go.Proofs.Tryz
theorem ae8{w:World}{cs:Array Value}{T:TypeId}{n i:Nat}{u:Value}(z:w.heap.size=n)(h:cs[i]?=some u):(w.alloc (.cells cs T)).cell? ⟨n,i,none⟩=some u:=by
 subst z;exact aZ w cs T i u h
theorem acQ(w:World)(g:Int)(v:Value)(l:List Int)(hv:aK w v l)(hl:l.length<=1048576)(hp:iY w):
  Calls prog 148 #[.agg #[g,v]] w fun e w'=>e=.returned (.string (pU g l))/\Below w w w':=by
 have S:=hv;obtain⟨a,c,rfl⟩:=hv.shape;have K0:=aP.new w 29 #[g,aA a l.length c]
 cases hf:aU g l with
 |false=>have HX:=aH (LQ hf);have HF:=aH hf;clear hf;go_enter func148,ntmps148;go_wp2_with fail;refine(cQ g l _ _ (S.alloc _)).mono ?_;rintro e w1 ⟨rfl,b1⟩;rw[HF.out];go_wp2;go_ret;exact⟨bJ HX.out.symm,(bF _ _).after b1 (by simp)⟩
 |true=>
  obtain⟨TT,k5⟩:=aJ (pU g l);have hx:bR dW (acP g l)=TT:=by rw[k5,BL hf];exact ap8 g l
  unfold acP at hx;have y7:=XU g l;have y8:=IZ g l;have z1:=YU g l;obtain⟨bT,q1⟩:=aJ (kY g l);obtain⟨bS,k6⟩:=aJ (jU g l);rw[<-q1,<-k6]at hx;have e5:(bS=true->∀x∈eG g l,dL x)->TT.size<=11000:=fun h=>by rw[k5,BL hf];exact RN g l (by rw[<-k6];exact h)
  have y9:=FI g l;have y6:=vP g l;have q8:=fun(W:World) (h:aK W (aA a l.length c) l)=>apK W g _ l h hl;have q7:=fun(W:World) (h:aK W (aA a l.length c) l)=>aaR W g _ l h hl;simp only[<-q1]at q8;simp only[<-k6]at q7;have j2:=aH k5;have HX:=aH hx;have j1:=aH e5;have HF:=aH hf;have u2:=aH q8;have s1:=aH q7;clear hx hf q8 q7 k5 e5 q1 k6;go_enter func148,ntmps148;go_wp2_with fail;refine(cQ g l _ _ (S.alloc _)).mono ?_;rintro e w1 ⟨rfl,b1⟩;rw[HF.out];have B:Below w w w1:=(bF _ _).after b1 (by simp);have K:=K0.keep b1;clear K0 b1;have G:=K.cell;go_wp2_with fail;refine(XS _ g _ l (S.below B aI)).mono ?_;rintro e w2 ⟨p2,i2,q2,rfl,hP,b2⟩;have v6:i2=(lL g l).length:=hP.capLe.1;subst v6;have B1:=B.after b2 B.size;have K1:=K.keep b2;clear B K G b2;obtain⟨I,e4⟩:=aJ w2.heap.size;have zb:w.heap.size<I:=by rw[e4];exact K1.lt
  have zc:w2.heap.size<=I:=aD;have L3:gI I (w2.alloc (.cells #[()] 143)) []:=by rw[e4];exact gI.new w2
  have K2:aP w2 w 29 #[g,aA a l.length c]:=K1;have B3:=B1.alloc B1.size (.cells #[()] 143);have C3:Below I w2 (w2.alloc (.cells #[()] 143)):=by rw[e4];exact bF w2 _
  have u0:=aH (show(w2.alloc (.cells #[()] 143)).heap.size=I+1 by rw[e4];simp);go_wp2_with fail;rw[<-e4];clear e4 K1;have t1:=L3.lt;refine(dF I [] [(⟨#[99,111,118,101,114]⟩:ByteArray)] (I+1) 1 1 _ (L3.keep (bF _ _)) rfl (BJ (ae8 u0.out rfl)) (by simp only[List.length_cons,List.length_nil];omega)).mono ?_;rintro e w11 ⟨rfl,o4,s5⟩;have m7:=(B3.alloc B3.size _).after s5 aD;have r6:=(C3.alloc (Nat.le_of_lt t1) _).after s5 aI;clear B3 C3 L3;obtain⟨o8,z⟩:=aJ ([]++[(⟨#[99,111,118,101,114]⟩:ByteArray)]);rw[<-z]at o4;have x6:o8.length<=1:=by rw[z,List.length_append];first|(simp only[List.length_cons,List.length_nil];omega)|(have:=cN _ _;omega)|(simp[yes];omega)
  go_wp2_with fail;refine(eQ I o8 (⟨#[112,97,99,107,105,110,103]⟩:ByteArray) (((lL g l).length:Int)) ⟨by omega,by omega⟩ _ o4 (hp.keep m7) aD).mono ?_;rintro e w12 ⟨rfl,j4,s6⟩;have i1:=m7.after s6 aD;have j0:=r6.after s6 aI;clear m7 r6 o4;obtain⟨o9,D⟩:=aJ (o8++[(⟨#[112,97,99,107,105,110,103]⟩:ByteArray),aX (((lL g l).length:Int))]);rw[<-D]at j4;have x7:o9.length<=3:=by rw[D,List.length_append];first|(simp only[List.length_cons,List.length_nil];omega)|(have:=cN _ _;omega)|(simp[yes];omega)
  have G:=(cB K2 j0 zb).cell;go_wp2_with fail;clear G;refine(jJ g (lL g l) _ _ (hP.below j0 zc) (hp.keep i1)).mono ?_;rintro e w6 ⟨rfl,j9⟩;have m8:=i1.after j9 i1.size;have r7:=j0.after j9 (Nat.le_of_lt j4.lt);have o5:=j4.keep j9;clear i1 j0 j4 j9;go_wp2_with fail;have t6:=o5.lt;refine(dF I o9 [(⟨#[111,102]⟩:ByteArray),bZ g (lL g l)] w6.heap.size 2 2 _ (o5.keep (bF _ _)) rfl (fF (aZ _ _ _ _ _ rfl) (aZ _ _ _ _ _ rfl)) (by simp only[List.length_cons,List.length_nil];omega)).mono ?_;rintro e w14 ⟨rfl,j5,s7⟩;have i6:=(m8.alloc m8.size _).after s7 aD;have n2:=(r7.alloc (Nat.le_of_lt t6) _).after s7 aI;clear m8 r7 o5;obtain⟨b8,F⟩:=aJ (o9++[(⟨#[111,102]⟩:ByteArray),bZ g (lL g l)]);rw[<-F]at j5;have x8:b8.length<=5:=by rw[F,List.length_append];first|(simp only[List.length_cons,List.length_nil];omega)|(have:=cN _ _;omega)|(simp[yes];omega)
  have G:=(cB K2 n2 zb).cell;go_wp2_with fail;clear G;refine(u2.out _ (S.below i6 aI)).mono ?_;rintro e w15 ⟨rfl,k0⟩;have b9:=i6.after k0 i6.size;have f3:=n2.after k0 (Nat.le_of_lt j5.lt);have f5:=j5.keep k0;clear i6 n2 j5 k0
  cases bT with
  |false=>
   have G:=(cB K2 f3 zb).cell;go_wp2_with fail;clear G;refine(s1.out _ (S.below b9 aI)).mono ?_;rintro e w7 ⟨pS,iS,qS,rfl,oS,c6⟩;have N:=b9.after c6 b9.size;have c5:=f3.after c6 (Nat.le_of_lt f5.lt);have a8:=f5.keep c6;clear b9 f3 f5 c6;have q5:iS=(fB g l).length:=oS.ints.capLe.1;subst q5
   cases bS with
   |false=>
    have hT:bR dW b8=TT:=by rw[F,D,z];exact HX.out
    have hz:=j1.out (fun h=>by cases h);rw[<-hT]at hz;have HT:=aH hT;clear hT z D F;obtain⟨lv,KL,oL⟩:=a8;have G:=KL.cell;go_wp2_with fail;clear G;refine(dE (I+1) lv b8 _ oL aD aD).mono ?_;rintro e wz ⟨rfl,bz⟩;go_wp2;go_ret;exact⟨bJ (HT.out.trans j2.out),N.after bz N.size⟩
   |true=>
    have G:=(cB K2 c5 zb).cell;go_wp2_with fail;clear G;refine(IF _ g _ l (S.below N aI) hl).mono ?_;rintro e w97 ⟨pG,iG,qG,rfl,oG,k3⟩;have i8:=N.after k3 N.size;have o1:=c5.after k3 (Nat.le_of_lt a8.lt);have j8:=a8.keep k3;clear N c5 a8 k3;have q4:iG=(dD g l).length:=oG.ints.capLe.1;subst q4;have G:=(cB K2 o1 zb).cell;go_wp2_with fail;clear G;refine(IY _ g _ l (S.below i8 aI) hl).mono ?_;rintro e r2 ⟨pR,iR,qR,rfl,oR,k4⟩;have n0:=i8.after k4 i8.size;have r9:=o1.after k4 (Nat.le_of_lt j8.lt);have v9:=j8.lt;have b6:=oR.lt;have q6:=oR.ints.inR;have s2:uL I (aA pR iR qR) r2 b8:=j8.far k4 (fun k hk=>(b6 k hk).1);have l9:∀k,(Value.slice pR iR qR).ownBlock=some k->I<k/\k<r2.heap.size:=fun k hk=>⟨by have:=(b6 k hk).1;omega,(b6 k hk).2⟩;have l6:=oR.ints;clear i8 o1 j8 k4 oR b6;go_wp2_with fail;have HU:=aH l9;clear l9;refine(BY I (aA pR iR qR) b8 (⟨#[115,109,97,108,108,101,115,116]⟩:ByteArray) (((fB g l).length:Int)) ⟨by omega,by omega⟩ _ s2 HU.out (hp.keep n0) aD).mono ?_;rintro e r3 ⟨rfl,o7,p7,s9⟩;have n1:=n0.after p7 aD;have s0:=r9.after p7 aI;clear n0 r9 s2;obtain⟨p6,c8⟩:=aJ (b8++[(⟨#[115,109,97,108,108,101,115,116]⟩:ByteArray),aX (((fB g l).length:Int))]);rw[<-c8]at o7;have y1:p6.length<=7:=by rw[c8,List.length_append];first|(simp only[List.length_cons,List.length_nil];omega)|(have:=cN _ _;omega)|(simp[yes];omega)
    have l8:r2.heap.size<=r3.heap.size:=p7.size;have m2:∀k,(Value.slice pR iR qR).ownBlock=some k->I<k/\k<r3.heap.size:=fun k hk=>⟨(HU.out k hk).1,Nat.lt_of_lt_of_le (HU.out k hk).2 l8⟩;have l7:=BW l6 l8 s9;clear l6 s9 HU;go_wp2_with fail;have HU:=aH m2;clear m2;refine(BY I (aA pR iR qR) p6 (⟨#[103,114,101,101,100,121]⟩:ByteArray) (((dD g l).length:Int)) ⟨by omega,by omega⟩ _ o7 HU.out (hp.keep n1) aD).mono ?_;rintro e h7 ⟨rfl,O,M,m3⟩;have J:=n1.after M aD;have Z:=s0.after M aI;clear n1 s0 o7;obtain⟨f6,a9⟩:=aJ (p6++[(⟨#[103,114,101,101,100,121]⟩:ByteArray),aX (((dD g l).length:Int))]);rw[<-a9]at O;have u6:f6.length<=9:=by rw[a9,List.length_append];first|(simp only[List.length_cons,List.length_nil];omega)|(have:=cN _ _;omega)|(simp[yes];omega)
    have g8:r3.heap.size<=h7.heap.size:=M.size;have v7:∀k,(Value.slice pR iR qR).ownBlock=some k->I<k/\k<h7.heap.size:=fun k hk=>⟨(HU.out k hk).1,Nat.lt_of_lt_of_le (HU.out k hk).2 g8⟩;have p9:=BW l7 g8 m3;clear l7 m3 HU;go_wp2_with fail;have LL:=O.line;refine(kV I f6 (⟨#[112,114,105,99,101,115]⟩:ByteArray) _ (eG g l) _ p9 aD LL (hp.keep J) aD).mono ?_;rintro e c9 ⟨rfl,b7,R⟩;have Y:=J.after R aD;have f2:=Z.after R aI;clear J Z LL;obtain⟨f7,b0⟩:=aJ (f6++[(⟨#[112,114,105,99,101,115]⟩:ByteArray),eR (eG g l)]);rw[<-b0]at b7;have u7:f7.length<=11:=by rw[b0,List.length_append];first|(simp only[List.length_cons,List.length_nil];omega)|(have:=cN _ _;omega)|(simp[yes];omega)
    have e5:=j1.out (fun _=>q6);have hT:bR dW f7=TT:=by rw[b0,a9,c8,F,D,z];exact HX.out
    have hz:=e5;rw[<-hT]at hz;have HT:=aH hT;clear hT z D F c8 a9 b0;obtain⟨lv,KL,oL⟩:=b7;have G:=KL.cell;go_wp2_with fail;clear G;refine(dE (I+1) lv f7 _ oL aD aD).mono ?_;rintro e wz ⟨rfl,bz⟩;go_wp2;go_ret;exact⟨bJ (HT.out.trans j2.out),Y.after bz Y.size⟩
  |true=>
   go_wp2_with fail;refine(eQ I b8 (⟨#[116,114,97,110,115,118,101,114,115,97,108]⟩:ByteArray) (uJ g l) ⟨by omega,by omega⟩ _ f5 (hp.keep b9) aD).mono ?_;rintro e w7 ⟨rfl,a8,c6⟩;have N:=b9.after c6 aD;have c5:=f3.after c6 aI;clear b9 f3 f5;obtain⟨p5,a1⟩:=aJ (b8++[(⟨#[116,114,97,110,115,118,101,114,115,97,108]⟩:ByteArray),aX (uJ g l)]);rw[<-a1]at a8;have x9:p5.length<=7:=by rw[a1,List.length_append];first|(simp only[List.length_cons,List.length_nil];omega)|(have:=cN _ _;omega)|(simp[yes];omega)
   have G:=(cB K2 c5 zb).cell;go_wp2_with fail;clear G;refine(fC g (mQ g l) _ (hp.keep N)).mono ?_;rintro e w8 ⟨rfl,k1⟩;have m9:=N.after k1 N.size;have r8:=c5.after k1 (Nat.le_of_lt a8.lt);have o6:=a8.keep k1;clear N c5 a8 k1;go_wp2_with fail;have t7:=o6.lt;refine(dF I p5 [(⟨#[98,121]⟩:ByteArray),bG g (mQ g l)] w8.heap.size 2 2 _ (o6.keep (bF _ _)) rfl (fF (aZ _ _ _ _ _ rfl) (aZ _ _ _ _ _ rfl)) (by simp only[List.length_cons,List.length_nil];omega)).mono ?_;rintro e w58 ⟨rfl,j6,s8⟩;have i7:=(m9.alloc m9.size _).after s8 aD;have n3:=(r8.alloc (Nat.le_of_lt t7) _).after s8 aI;clear m9 r8 o6;obtain⟨e0,a6⟩:=aJ (p5++[(⟨#[98,121]⟩:ByteArray),bG g (mQ g l)]);rw[<-a6]at j6;have y0:e0.length<=9:=by rw[a6,List.length_append];first|(simp only[List.length_cons,List.length_nil];omega)|(have:=cN _ _;omega)|(simp[yes];omega)
   have G:=(cB K2 n3 zb).cell;go_wp2_with fail;clear G;refine(s1.out _ (S.below i7 aI)).mono ?_;rintro e w59 ⟨pS,iS,qS,rfl,oS,k2⟩;have d0:=i7.after k2 i7.size;have o0:=n3.after k2 (Nat.le_of_lt j6.lt);have j7:=j6.keep k2;clear i7 n3 j6 k2;have q5:iS=(fB g l).length:=oS.ints.capLe.1;subst q5
   cases bS with
   |false=>
    have hT:bR dW e0=TT:=by rw[a6,a1,F,D,z];exact HX.out
    have hz:=j1.out (fun h=>by cases h);rw[<-hT]at hz;have HT:=aH hT;clear hT z D F a1 a6;obtain⟨lv,KL,oL⟩:=j7;have G:=KL.cell;go_wp2_with fail;clear G;refine(dE (I+1) lv e0 _ oL aD aD).mono ?_;rintro e wz ⟨rfl,bz⟩;go_wp2;go_ret;exact⟨bJ (HT.out.trans j2.out),d0.after bz d0.size⟩
   |true=>
    have G:=(cB K2 o0 zb).cell;go_wp2_with fail;clear G;refine(IF _ g _ l (S.below d0 aI) hl).mono ?_;rintro e h7 ⟨pG,iG,qG,rfl,oG,M⟩;have J:=d0.after M d0.size;have Z:=o0.after M (Nat.le_of_lt j7.lt);have O:=j7.keep M;clear d0 o0 j7 M;have q4:iG=(dD g l).length:=oG.ints.capLe.1;subst q4;have G:=(cB K2 Z zb).cell;go_wp2_with fail;clear G;refine(IY _ g _ l (S.below J aI) hl).mono ?_;rintro e c9 ⟨pR,iR,qR,rfl,oR,R⟩;have Y:=J.after R J.size;have f2:=Z.after R (Nat.le_of_lt O.lt);have v9:=O.lt;have b6:=oR.lt;have q6:=oR.ints.inR;have b7:uL I (aA pR iR qR) c9 e0:=O.far R (fun k hk=>(b6 k hk).1);have h5:∀k,(Value.slice pR iR qR).ownBlock=some k->I<k/\k<c9.heap.size:=fun k hk=>⟨by have:=(b6 k hk).1;omega,(b6 k hk).2⟩;have g6:=oR.ints;clear J Z O R oR b6;go_wp2_with fail;have HU:=aH h5;clear h5;refine(BY I (aA pR iR qR) e0 (⟨#[115,109,97,108,108,101,115,116]⟩:ByteArray) (((fB g l).length:Int)) ⟨by omega,by omega⟩ _ b7 HU.out (hp.keep Y) aD).mono ?_;rintro e h8 ⟨rfl,f4,g2,m4⟩;have e9:=Y.after g2 aD;have l1:=f2.after g2 aI;clear Y f2 b7;obtain⟨f8,b3⟩:=aJ (e0++[(⟨#[115,109,97,108,108,101,115,116]⟩:ByteArray),aX (((fB g l).length:Int))]);rw[<-b3]at f4;have u8:f8.length<=11:=by rw[b3,List.length_append];first|(simp only[List.length_cons,List.length_nil];omega)|(have:=cN _ _;omega)|(simp[yes];omega)
    have g9:c9.heap.size<=h8.heap.size:=g2.size;have h6:∀k,(Value.slice pR iR qR).ownBlock=some k->I<k/\k<h8.heap.size:=fun k hk=>⟨(HU.out k hk).1,Nat.lt_of_lt_of_le (HU.out k hk).2 g9⟩;have g7:=BW g6 g9 m4;clear g6 m4 HU;go_wp2_with fail;have HU:=aH h6;clear h6;refine(BY I (aA pR iR qR) f8 (⟨#[103,114,101,101,100,121]⟩:ByteArray) (((dD g l).length:Int)) ⟨by omega,by omega⟩ _ f4 HU.out (hp.keep e9) aD).mono ?_;rintro e m6 ⟨rfl,l3,g5,m5⟩;have f0:=e9.after g5 aD;have l2:=l1.after g5 aI;clear e9 l1 f4;obtain⟨f9,b4⟩:=aJ (f8++[(⟨#[103,114,101,101,100,121]⟩:ByteArray),aX (((dD g l).length:Int))]);rw[<-b4]at l3;have u9:f9.length<=13:=by rw[b4,List.length_append];first|(simp only[List.length_cons,List.length_nil];omega)|(have:=cN _ _;omega)|(simp[yes];omega)
    have h0:h8.heap.size<=m6.heap.size:=g5.size;have v8:∀k,(Value.slice pR iR qR).ownBlock=some k->I<k/\k<m6.heap.size:=fun k hk=>⟨(HU.out k hk).1,Nat.lt_of_lt_of_le (HU.out k hk).2 h0⟩;have q0:=BW g7 h0 m5;clear g7 m5 HU;go_wp2_with fail;have LL:=l3.line;refine(kV I f9 (⟨#[112,114,105,99,101,115]⟩:ByteArray) _ (eG g l) _ q0 aD LL (hp.keep f0) aD).mono ?_;rintro e y4 ⟨rfl,l4,l5⟩;have l0:=f0.after l5 aD;have x2:=l2.after l5 aI;clear f0 l2 LL;obtain⟨g0,b5⟩:=aJ (f9++[(⟨#[112,114,105,99,101,115]⟩:ByteArray),eR (eG g l)]);rw[<-b5]at l4;have v1:g0.length<=15:=by rw[b5,List.length_append];first|(simp only[List.length_cons,List.length_nil];omega)|(have:=cN _ _;omega)|(simp[yes];omega)
    have e5:=j1.out (fun _=>q6);have hT:bR dW g0=TT:=by rw[b5,b4,b3,a6,a1,F,D,z];exact HX.out
    have hz:=e5;rw[<-hT]at hz;have HT:=aH hT;clear hT z D F a1 a6 b3 b4 b5;obtain⟨lv,KL,oL⟩:=l4;have G:=KL.cell;go_wp2_with fail;clear G;refine(dE (I+1) lv g0 _ oL aD aD).mono ?_;rintro e wz ⟨rfl,bz⟩;go_wp2;go_ret;exact⟨bJ (HT.out.trans j2.out),l0.after bz l0.size⟩
end
section
open Go.Proofs.Tryz
open Go.Shelf
set_option maxRecDepth 100000
def QZ:Go.Shelf.Ren:=⟨fun|112=>316|n=>n,fun|28=>25|3=>3|4=>4|0=>0|n=>n,fun|n=>n⟩
theorem OW:Go.Proofs.Lays.n112 prog QZ:={
 mixed:=aO
 f112:=func316.trans (congrArg some aO)
 t0:=underlying0
 a0:=Tryz.isAgg0
 z0:=Tryz.sizeOf0
 v0:=Tryz.zeroValue0
 t3:=underlying3
 a3:=Tryz.isAgg3
 z3:=Tryz.sizeOf3
 v3:=Tryz.zeroValue3
 t4:=underlying4
 a4:=Tryz.isAgg4
 z4:=Tryz.sizeOf4
 v4:=Tryz.zeroValue4
 t28:=underlying25
 a28:=Tryz.isAgg25
 z28:=Tryz.sizeOf25
 v28:=Tryz.zeroValue25 }
open Go.RowKit Go.Lib Go.Sort in
theorem DI(z D cap:Nat)(F:List Int)(w:World)(J:Holds (Value.int .i64) w z D F.toArray)(I:F.length<=9223372036854775807):
 Calls prog 316 #[aA (some ⟨z,D,none⟩) F.length cap] w fun e w'=>e=.returned (.tuple #[])/\∃n,w'=putRow (Value.int .i64) (Sort.ahead w n) z D F.reverse.toArray:=Any.slices_Reverse_int OW z D cap F w J I
open Go.RowKit Go.Lib Go.Sort in
theorem yI(a:Option Addr)(cap:Nat)(w:World):
 Calls prog 316 #[aA a 0 cap] w fun e w'=>e=.returned (.tuple #[])/\w'=w:=Any.slices_Reverse_int_empty OW a cap w
open Go.RowKit Go.G5 in
theorem aaH(B:Nat)(v:Value)(l:List Int)(w:World)(h:aM 3 B w v l)(hl:l.length<=1048576):
  Calls prog 316 #[v] w fun e w'=>e=.returned (.tuple #[])/\aM 3 B w' v l.reverse/\w.grownBy w' v.ownBlock:=by
 have hr:∀x∈l.reverse,dL x:=fun x F=>h.2 x (List.mem_reverse.1 F);rcases h.cases with⟨rfl,rfl⟩|⟨g,cap,rfl,hB,I⟩
 ·refine(yI none 0 w).mono ?_;rintro e w' ⟨z,rfl⟩;exact⟨z,h,World.grownBy.refl _ _⟩
 ·refine(DI g 0 cap l w (h.holds rfl) aD).mono ?_;rintro e w' ⟨z,n,rfl⟩;have D:=h.put l.reverse List.length_reverse hr n #[];rw[Go.Sort.grow_empty]at D;exact⟨z,D.1,D.2⟩
end
section
open Go.RowKit Go.G5 Go.Proofs.Tryz
theorem amF(x:Int)(r:List Int)(h:(x::r).reverse.length-1<(x::r).reverse.length):(x::r).reverse[(x::r).reverse.length-1]=x:=by
 simp
theorem akK(w:World)(g:Int)(v:Value)(l:List Int)(hv:aK w v l):
  Calls prog 236 #[.agg #[g,v]] w fun e w'=>∃ad i cp,e=.returned (.tuple #[aA ad i cp,.bool (aU g l)])/\aM 3 w w' (aA ad i cp) (yQ g l)/\Below w w w':=by
 have j6:=hv;obtain⟨a,c,rfl⟩:=hv.shape;obtain⟨T,hT⟩:=aJ (yQ g l);have b1:=tH g l;have R:=OE g l;have Z:T=yP (eA g l) (eA g l).length []:=hT;have a7:=agJ (w.alloc (.cells #[g,aA a l.length c] 29)) g _ l (j6.alloc _);have J:aU g l=false->T=[]:=fun h=>by rw[Z];unfold eA;rw[h];rfl
 rw[<-hT];obtain⟨Y,f0⟩:=aJ (eA g l);rw[<-f0]at b1 R Z a7;obtain⟨bf,e6⟩:=aJ (aU g l);rw[<-e6]at a7 J ⊢;have h9:=aH Z;have HM:=aH R;have g7:=aH a7;have h7:=aH J;clear hT Z R a7 J f0 e6;go_enter func236,ntmps236;go_wp2_with fail;refine g7.out.mono ?_;rintro e K ⟨ad,cp,rfl,e8,b2⟩;have B2:Below w w K:=(bF _ _).after b2 (by simp);have g6:=aH (e8.mono (show w.heap.size<=_ by simp));clear b2 e8
 cases bf with
 |false=>have hx:=h7.out rfl;have HX:=aH hx;clear hx;go_wp2;go_ret2;exact⟨_,_,_,rfl,by rw[HX.out];exact aM.nil _ _ _,B2⟩
 |true=>
  have m5:IntKind.i64.wrap ((Y.length:Int)-1)=(Y.length:Int)-1:=by rw[IntKind.wrap_i64];omega
  go_wp2_with fail;go_loopw [6,7] (fun ov iv wr=>∃(i:Nat) (out:List Int) (p:Option Addr) (q:Nat),i<=Y.length/\iv=aG ((i:Int)-1)/\ov=aA p out.length q/\aM 3 K wr (aA p out.length q) out.reverse/\out.length+i<=64/\yP Y i out=T/\(∀x∈out,0<=x/\x<64)/\Below K K wr) (fun _ iv _=>(intOf iv+1).toNat)
  case atStart=>exact⟨Y.length,[],_,_,aI,rfl,rfl,aM.nil _ _ _,by simpa using b1,h9.out.symm,by simp,Below.refl _ _⟩
  case round=>
   obtain⟨i,out,p,q,hi,rfl,rfl,ho,c5,a1,f5,N⟩:=hrel;obtain⟨wo,rfl⟩:∃z:World,z=wr:=⟨_,rfl⟩
   cases i with
   |zero=>have F:out=T:=a1;subst F;have k5:¬(0:Int)<=((0:Nat):Int)-1:=aD;have HO:=aH ho;have c6:=aaH K.heap.size _ _ wo ho aT;rw[List.reverse_reverse]at c6;have h8:=aH c6;have hlt:=ho.lt;clear c6 ho a1;go_wp2_with fail;refine h8.out.mono ?_;rintro e w3 ⟨rfl,o3,g3⟩;have B3:Below K K w3:=N.grown g3 N.size (fun k hk=>(hlt k hk).1);go_wp2;go_ret2;exact⟨_,_,_,rfl,o3.mono B2.size,B2.after B3 B2.size⟩
   |succ i=>
    have j3:((i+1:Nat):Int)-1=(i:Int):=aD;rw[j3];have hlt:i<Y.length:=aD;have m4:IntKind.i64.wrap ((i:Int)-1)=(i:Int)-1:=by rw[IntKind.wrap_i64];omega
    have F:=afB Y i hlt out;rw[a1]at F;obtain⟨gg,u,l8,l7,a8⟩:=(g6.out.keep N).view prog 77 underlying77 lY i hlt;have hM:=HM.out Y[i] (List.getElem_mem hlt);obtain⟨M,e5⟩:=aJ (Y[i]);rw[<-e5]at F a8 hM;obtain⟨am,cm,rfl⟩:=a8.shape;obtain⟨_,mb,k8,_,c7,_,b3,f2,l9⟩:=a8.ints.view prog 25 3 underlying25 aN;injection c7 with x1 _ x3;subst x1 x3;have g8:=aH f2;have h5:=aH b3;have g9:=aH hM.2;have d0:=aH F;have HO:=aH ho;have b7:=aH f5;clear f2 b3 hM a1 F ho f5 e5 a8;go_wp2_with fail;go_loop [6,29] (fun ov iv=>∃j:Nat,j<=M.length/\ov=aA p out.length q/\iv=aG j/\lS (M.drop j) out=lS M out) (fun _ iv=>M.length-(intOf iv).toNat)
    case atStart=>exact⟨0,Nat.zero_le _,rfl,rfl,rfl⟩
    case round=>
     obtain⟨j,hj,rfl,rfl,S⟩:=hrel;by_cases a6:j<M.length
     ·have e7:(j:Int)<(M.length:Int):=aD;have ck:=g8.out j a6;have ik:=fun W=>h5.out W j a6;have b0:=g9.out M[j] (List.getElem_mem a6);have O:=YP M j a6 out;rw[S]at O;obtain⟨x,hx⟩:=aJ (M[j]);rw[<-hx]at ck b0 O;clear hx S;have b5:H6 out x=true->yP Y i (x::out)=T:=fun h=>by rw[d0.out,O,h];rfl
      have J:H6 out x=false->lS (M.drop (j+1)) out=lS M out:=fun h=>by rw[O,h];rfl
      have HY:=aH b5;have HN:=aH J;have f8:∀y∈x::out,0<=y/\y<64:=fun y hy=>by
       rcases List.mem_cons.1 hy with e|h
       ·rw[e];exact b0
       ·exact b7.out y h
      have e4:=aH f8;have e9:(x::out).reverse=out.reverse++[x]:=by simp
      have e0:=aH e9;clear O b5 J f8 e9
      cases out with
      |nil=>
       go_wp2_with (at_builtin;refine dA rfl _ _ _ rfl 3 underlying25 aN K.heap.size _ _ x wo.heap.size rfl rfl (aZ wo #[x] 3 0 _ rfl) (HO.out.alloc _) ⟨by omega,by omega⟩ (by simp) (by have:=N.size;simp;omega) ?_;intro v' w6 D b8;obtain⟨av,nv,cv,rfl⟩:=D.shape3);have B6:Below K K w6:=(N.alloc N.size (.cells #[x] 3)).grown b8 (by have:=N.size;simp;omega) (fun q hq=>(HO.out.lt q hq).1);have b9:nv=1:=by have:=D.ints.capLe.1;simpa using this
       subst b9;go_roundw
       case rel=>exact⟨i,[x],av,cv,by omega,by go_num,rfl,by rw[e0.out];exact D,by simp;omega,HY.out rfl,e4.out,B6⟩
       case measure=>simp[intOf]
      |cons y r=>
       have a9:(y::r).reverse.length=r.length+1:=by simp
       have f9:=b7.out y (by simp);obtain⟨_,ob,k9,_,c7,_,b4,f3,m3⟩:=HO.out.ints.view prog 25 3 underlying25 aN;injection c7 with x1 _ x3;subst x1 x3;have hk:(y::r).reverse.length-1<(y::r).reverse.length:=by rw[a9];omega
       have oc:=f3 _ hk;rw[amF y r hk]at oc;have oi:=fun W=>b4 W _ hk;rw[a9]at oc;simp only[a9]at oi;have f6:r.length+1-1=r.length:=aD;rw[f6]at oc;simp only[f6]at oi;have m8:((y::r).length:Int)=(r.length:Int)+1:=by simp
       have m6:IntKind.i64.wrap ((r.length:Int)+1-1)=(r.length:Int):=by rw[IntKind.wrap_i64];simp at c5;omega
       have m2:((r.length:Int)+1==0)=false:=by simp;omega
       have j2:=lA b0.1 b0.2 f9.1 f9.2;have I:H6 (y::r) x=(cG x y==0):=rfl;obtain⟨z,hz⟩:=aJ (cG x y);rw[<-hz]at j2 I;clear hz f3 b4 hk
       cases h0:z==0 with
       |false=>
        have hN:=HN.out (by rw[I,h0]);have h6:=aH hN;clear hN I;go_wp2;go_round
        case rel=>exact⟨j+1,by omega,rfl,by go_num,h6.out⟩
        case measure=>simp[intOf];omega
       |true=>
        have hY:=HY.out (by rw[I,h0]);have i1:=aH hY;have f4:(y::r).reverse.length<17592186044416:=by rw[a9];simp at c5;omega
        clear hY I;go_wp2_with (at_builtin;refine dA rfl _ _ _ rfl 3 underlying25 aN K.heap.size _ _ x wo.heap.size rfl rfl (aZ wo #[x] 3 0 _ rfl) (HO.out.alloc _) ⟨by omega,by omega⟩ f4 (by have:=N.size;simp;omega) ?_;intro v' w6 D b8;obtain⟨av,nv,cv,rfl⟩:=D.shape3);have B6:Below K K w6:=(N.alloc N.size (.cells #[x] 3)).grown b8 (by have:=N.size;simp;omega) (fun q hq=>(HO.out.lt q hq).1);have b9:nv=(x::y::r).length:=by have:=D.ints.capLe.1;simpa using this
        subst b9;go_roundw
        case rel=>exact⟨i,x::y::r,av,cv,by omega,by go_num,rfl,by rw[e0.out];exact D,by simp at c5 ⊢;omega,i1.out,e4.out,B6⟩
        case measure=>simp[intOf]
     ·have e7:¬(j:Int)<(M.length:Int):=aD;have j4:j=M.length:=aD;subst j4;rw[S0]at S;have hC:yP Y i out=T:=by rw[d0.out,<-S]
      have HC:=aH hC;clear hC S;go_wp2;go_roundw
      case rel=>exact⟨i,out,p,q,by omega,by go_num,rfl,HO.out,by omega,HC.out,b7.out,N⟩
      case measure=>simp[intOf]
theorem ab6(c:List Int)(v:Value)(s:Int)(w:World)(hv:aK w v c)(hm:∀x∈c,0<=x/\x<64)(hs:0<=s/\s<64):
  Calls prog 320 #[v,s] w fun e w'=>e=.returned (.bool (kQ c s))/\w=w':=by
 obtain⟨a,b,b7,cp,rfl,a9,M,hc,hb⟩:=hv.view prog 25 3 underlying25 aN;have HC:=aH hc;have Y:=aH M;have HM:=aH hm;obtain⟨R,Z⟩:=aJ (kQ c s);rw[<-Z];have HR:=aH Z;clear hc M hm Z;go_enter func320,ntmps320;go_wp2;go_loop [9] (fun iv=>∃j:Nat,j<=c.length/\iv=aG j/\cA (fun j=>lJ s (c.getD j 0)) j=true) (fun iv=>c.length-(intOf iv).toNat)
 case atStart=>exact⟨0,Nat.zero_le _,rfl,rfl⟩
 case round=>
  obtain⟨j,hj,rfl,z⟩:=hrel;by_cases hlt:j<c.length
  ·have N:(j:Int)<(c.length:Int):=aD;have ck:=HC.out j hlt;have ik:=fun W=>Y.out W j hlt;have O:=HM.out _ (List.getElem_mem hlt);have hg:c.getD j 0=c[j]:=aS c j hlt;obtain⟨x,hx⟩:=aJ (c[j]);rw[<-hx]at ck O hg;clear hx;have D:=RH s x w hs O
   cases K:lJ s x with
   |false=>
    rw[K]at D;have hr:R=false:=by rw[HR.out];exact cW hlt (by rw[hg];exact K)
    have I:=aH D;have J:=aH hr;clear D hr K;go_wp2_with (go_at_call 308;refine I.out.mono ?_;rintro e w' ⟨rfl,rfl⟩);go_ret;exact⟨aW J.out.symm,rfl⟩
   |true=>
    rw[K]at D;have F:cA (fun j=>lJ s (c.getD j 0)) (j+1)=true:=dG z (by rw[hg];exact K);have I:=aH D;have S:=aH F;clear D F K z;go_wp2_with (go_at_call 308;refine I.out.mono ?_;rintro e w' ⟨rfl,rfl⟩);go_round
    case rel=>exact⟨j+1,by omega,by go_num,S.out⟩
    case measure=>simp[intOf];omega
  ·have N:¬(j:Int)<(c.length:Int):=aD;have a6:j=c.length:=aD;subst a6;have hr:R=true:=by rw[HR.out];exact z
   have J:=aH hr;clear hr z;go_wp2;go_ret;exact⟨aW J.out.symm,rfl⟩
theorem TF:∀args w,(callFunc 320 args).run prog w=.ok (.enter 320 args) w:=enters_of func320 aO rfl
def Up(z:Nat)(v:Value)(l:List Int):Prop:=l≠[]->∀k,v.ownBlock=some k->z<k
def UB(z:Nat)(b:List Int)(w:World)(e:Ending)(w':World):Prop:=
 e=.returned (.tuple #[])/\∃v,aP w' z 204 #[v,.func (.func 320) #[] #[]]/\aK w' v b/\Up z v b/\GrownIn w w' (fun k=>k=z)
theorem ZD(J:Nat):∀(m:Nat) (sets:List Int) (sv:Value) (F:List Int) (lv:Value) (M:List Int) (bv:Value) (w:World),sets.length=m->(∀x∈sets,0<=x/\x<64)->aK w sv sets->FM J sv sets->aK w lv F->FM J lv F->(∀x∈F,0<=x/\x<64) ->
  aP w J 204 #[bv,.func (.func 320) #[] #[]]->aK w bv M->Up J bv M->F.length+m<=64->M.length<=64 ->
  Calls prog 359 #[.pointer (some ⟨J,0,none⟩),sv,lv] w (UB J (uA kQ sets F (cH M F)) w):=by
 intro m
 induction m using Nat.strongRecOn with
 |ind m ih=>
 intro sets sv F lv M bv w hm j0 hs h5 hc l5 o8 K hb h0 p6 s0;have m3:=hs;have g0:=hc;have zo:=K.lt;obtain⟨a,n,s8,cp,rfl,e4,h7,k0,o7⟩:=hs.view prog 25 3 underlying25 aN;obtain⟨av,cv,rfl⟩:=hc.shape;obtain⟨ab,cb,rfl⟩:=hb.shape;have r1:=aH h7;have f6:=aH j0;have o0:=aH o8;have IH:=aH ih;have G:=K.cell;have HM:=aH hm;have he:=TF;clear h7 j0 ih e4 hm o8;go_enter func359,ntmps359;go_upto_if 15 with fail;go_cut [16] (fun _ wx=>∃p q,aP wx J 204 #[.slice p (cH M F).length q,.func (.func 320) #[] #[]]/\aK wx (.slice p (cH M F).length q) (cH M F)/\Up J (.slice p (cH M F).length q) (cH M F)/\GrownIn w wx (fun k=>k=J))
 case rest=>
  obtain⟨p,q,K1,c9,d0,g1⟩:=hcut;clear K hb h0 G;have h8:(cH M F).length<=64:=by unfold cH;split<;>omega
  obtain⟨b1,S⟩:=aJ (cH M F);have HE:=aH S;rw[<-S]at K1 c9 d0 h8;clear S;go_wp2_with fail;go_loopw [23] (fun iv wr=>∃(j:Nat) (y:List Int) (p:Option Addr) (q:Nat),j<=sets.length/\iv=aG j/\aP wr J 204 #[aA p y.length q,.func (.func 320) #[] #[]]/\aK wr (aA p y.length q) y/\Up J (aA p y.length q) y/\y.length<=64/\uA kQ (sets.drop j) F y=uA kQ sets F b1/\GrownIn w wr (fun k=>k=J)) (fun iv _=>sets.length-(intOf iv).toNat)
  case atStart=>exact⟨0,b1,p,q,Nat.zero_le _,rfl,K1,c9,d0,h8,rfl,g1⟩
  case round=>
   obtain⟨j,y,p',q',hj,rfl,K2,hy,e0,j3,b4,g2⟩:=hrel;clear K1 c9 d0 g1;have G:=K2.cell;have l8:F.length+sets.length<=64:=by have:=HM.out;omega
   by_cases hlt:j<sets.length
   ·have h9:(j:Int)<(sets.length:Int):=aD;have i7:=uF m3 g2 h5;have e6:=uF g0 g2 l5;obtain⟨a2,n2,q7,c2,s1,_,b3,g6,_⟩:=i7.view prog 25 3 underlying25 aN;injection s1 with e1 _ e3;subst e1 e3;have l3:=g6 j hlt;have s2:=fun W=>b3 W j hlt;clear g6 b3;have b9:=f6.out _ (List.getElem_mem hlt);have g8:=List.drop_eq_getElem_cons hlt;have N:(sets.drop (j+1)).length=sets.length-(j+1):=List.length_drop ..;have I:uA kQ (sets.drop j) F y=if F.length+((sets.drop (j+1)).length+1)<=y.length then y else if kQ F sets[j] then uA kQ (sets.drop (j+1)) F (uA kQ (sets.drop (j+1)) (F++[sets[j]]) (cH y (F++[sets[j]]))) else uA kQ (sets.drop (j+1)) F y:=by rw[g8,uA]
    rw[b4]at I;have yw:=g2.size;obtain⟨x,hx⟩:=aJ (sets[j]);rw[<-hx]at l3 b9 I;clear hx b4 g8;have v8:IntKind.i64.wrap ((F.length:Int)+(sets.length:Int))=(F.length:Int)+(sets.length:Int):=by rw[IntKind.wrap_i64];omega
    have v9:IntKind.i64.wrap ((F.length:Int)+(sets.length:Int)-(j:Int))=(F.length:Int)+(sets.length:Int)-(j:Int):=by rw[IntKind.wrap_i64];omega
    by_cases i6:F.length+((sets.drop (j+1)).length+1)<=y.length
    ·rw[if_pos i6]at I;have q0:(F.length:Int)+(sets.length:Int)-(j:Int)<=(y.length:Int):=aD;have a1:=aH I;clear I i6 N;go_wp2;exact bodyPost_end (v:=.tuple #[]) (results_none rfl _ _ _) rfl ⟨rfl,_,K2,by rw[<-HE.out,a1.out];exact hy,by rw[<-HE.out,a1.out];exact e0,g2⟩
    ·rw[if_neg i6]at I;have q0:¬(F.length:Int)+(sets.length:Int)-(j:Int)<=(y.length:Int):=aD;have e8:=ab6 F _ x wr e6 o0.out b9
     cases hT:kQ F x with
     |false=>
      rw[hT,if_neg (by simp)]at I;rw[hT]at e8;have a1:=aH I;have k7:=aH e8;clear I i6 N hT e8;go_wp2_with (go_at_fn 320;refine k7.out.mono ?_;rintro e w' ⟨rfl,rfl⟩);go_roundw
      case rel=>exact⟨j+1,y,p',q',by omega,by go_num,K2,hy,e0,j3,a1.out.symm,g2⟩
      case measure=>simp[intOf];omega
     |true=>
      rw[hT,if_pos rfl]at I;rw[hT]at e8;have l7:j+1<=sets.length:=hlt;have Y:(F++[x]).length=F.length+1:=by simp
      obtain⟨a3,c3,j1,i8,g9⟩:=N6 i7 25 3 underlying25 aN (j+1) l7;have b8:=fun W=>j1 .i64 W;rw[show((j+1:Nat):Int)=(j:Int)+1 by simp]at b8;have c8:∀e∈sets.drop (j+1),0<=e/\e<64:=fun e he=>f6.out e (List.mem_of_mem_drop he);have hcm:∀e∈F++[x],0<=e/\e<64:=fun e he=>by
       rcases List.mem_append.1 he with h|h
       ·exact o0.out e h
       ·rw[List.mem_singleton]at h;rw[h];exact b9
      obtain⟨D,hD⟩:=aJ (sets.drop (j+1));rw[<-hD]at N i8 g9 c8;simp only[<-hD]at b8;have a6:=aH hD;have f8:uA kQ (sets.drop (j+1)) (F++[x]) (cH y (F++[x]))=uA kQ D (F++[x]) (cH y (F++[x])):=by rw[a6.out]
      clear hD j1;obtain⟨R,hR⟩:=aJ (uA kQ D (F++[x]) (cH y (F++[x])));have l2:R.length<=64:=by rw[hR];have h1:=anO kQ D (F++[x]) (cH y (F++[x]));rw[zN,Y]at h1;omega
      have b7:∀(v6:Value) (w6:World),aM 3 wr w6 v6 (F++[x])->Below wr wr w6 ->
        Calls prog 359 #[.pointer (some ⟨J,0,none⟩),aA a3 D.length c3,v6] w6 (UB J R w6):=fun v6 w6 q1 q2=>by
       rw[hR];have zz:=K2.lt;exact IH.out D.length (by rw[N];have:=HM.out;omega) _ _ (F++[x]) v6 y _ w6 rfl c8 (i8.below q2 aI) (fun a8 k hk=>h5 (fun e=>a8 (by rw[a6.out,e];rfl)) k (g9 k hk)) q1.ints (fun _ k hk=>by have:=(q1.lt k hk).1;omega) hcm (K2.keep q2) (hy.below q2 aI) e0 (by rw[N,Y];omega) j3
      rw[f8,<-hR]at I;have f5:=aH b7;have a1:=aH I;have k7:=aH e8;have f7:F.length + [x].length<=17592186044416:=by simp;omega
      have f9:dL x:=⟨by omega,by omega⟩;have s4:IntKind.i64.wrap ((j:Int)+1)=(j:Int)+1:=by rw[IntKind.wrap_i64];omega
      have f4:=aH f7;have k8:=aH f9;have g5:F.length<=1048576:=aD;have o9:=aH N;clear b7 I hR f8 c8 f7 f9 N Y l8 hcm hT e8 i6;go_wp2_with (go_at_fn 320;refine k7.out.mono ?_;rintro e w' ⟨rfl,rfl⟩);go_region_law
       (first
        |(go_simp;go_at_call 287;refine(kR _ F _ ?_ g5).mono ?_;(first|(with_reducible exact e6.drew')|(with_reducible exact(e6.alloc _).drew'));rintro e w5 ⟨p5,i5,q5,rfl,o5,b5⟩;have c5:=aM.mono (B':=wr.heap.size) o5 (by first|omega|(simp;done)|(simp;omega));first|(have a7:Below wr wr w5:=((bF wr (.cells #[x] 3)).drewN' 1).after b5 (by first|omega|(simp;done)|(simp;omega));have j4:w5.cell? ⟨wr.heap.size,0,none⟩=some (aG x):=keep b5 (BI wr 3 (aG x)))|(have a7:Below wr wr w5:=((Below.refl wr.heap.size wr).drewN' 1).after b5 (by first|omega|(simp;done)|(simp;omega))))
        |(refine gE rfl _ _ _ rfl 3 underlying25 aN wr.heap.size (aA p5 i5 q5) F rfl (aA (some ⟨_,0,none⟩) 1 1) [x] rfl ?_ ?_ f4.out wr ?_ aI ?_;(first|(with_reducible exact c5.alloc _)|(with_reducible exact c5));(refine aK.one ?_ k8.out;first|(with_reducible exact aZ _ _ _ _ _ rfl)|(with_reducible exact j4));(first|(with_reducible exact a7.alloc a7.size _)|(with_reducible exact a7));intro v6 w6 o6 b6 _)
        |(go_simp;go_at_call 359;refine(f5.out _ w6 o6 b6).mono ?_;rintro e7 w7 ⟨rfl,r6,K7,j2,l4,g7⟩))
      all_goals
       obtain⟨p7,c7,rfl⟩:=j2.shape;have l1:=g2.trans ((GrownIn.of_below (P:=fun k=>k=J) b6).trans g7);have b0:uA kQ D F R=uA kQ sets F b1:=by rw[a1.out,a6.out]
       have f3:=aH b0;clear b0 G;go_wp2;go_roundw
       case rel=>exact⟨j+1,R,p7,c7,by omega,by go_num,K7,j2,l4,l2,by rw[<-a6.out];exact f3.out,l1⟩
       case measure=>simp[intOf];omega
   ·have h9:¬(j:Int)<(sets.length:Int):=aD;have k1:j=sets.length:=aD;have i1:y=uA kQ sets F (cH M F):=by rw[<-HE.out,<-b4,k1,List.drop_length];rfl
    exact ah9
 case first=>
  by_cases Z:M.length<F.length
  ·have h6:(M.length:Int)<(F.length:Int):=aD;have hlo:cH M F=F:=by unfold cH;rw[if_pos Z]
   have O:=aH hlo;have a8:F≠[]:=by intro e;subst e;simp at Z
   have r2:=aH a8;clear hlo Z a8;go_wp2_with fail;refine(kR _ F w g0 aD).mono ?_;rintro e w1 ⟨pc,ic,qc,rfl,oc,bc⟩;have l6:ic=F.length:=oc.ints.capLe.1;subst l6;have K1:=K.keep bc;have G1:=K1.cell;have F1:=K1.frozen;have z1:=K1.lt;clear G;go_wp2;go_meet;have KF:aP (w1.setCell ⟨J,0,none⟩ (aA pc F.length qc)) J 204 #[aA pc F.length qc,.func (.func 320) #[] #[]]:=by have:=K1.set 0 (aA pc F.length qc);simpa using this
   have gF:w1.grownBy (w1.setCell ⟨J,0,none⟩ (aA pc F.length qc)) (some J):=bQ (World.grownBy.refl _ _) 0 _;have k5:Up J (aA pc F.length qc) F:=fun _ k hk=>by have:=(oc.lt k hk).1;omega
   exact ahE
  ·have h6:¬(M.length:Int)<(F.length:Int):=aD;have hlo:cH M F=M:=by unfold cH;rw[if_neg Z]
   have O:=aH hlo;clear hlo Z;go_wp2_with fail;go_meet;exact⟨ab,cb,by rw[O.out];exact K,by rw[O.out];exact hb,by rw[O.out];exact h0,GrownIn.refl _ _⟩
end
end Go.Proofs.YtkdbkjjacgigiaaGreatDoor
section
namespace Go.G5
open Go Go.RowKit
variable {P:Program} {w:World} {a:Addr} {m:Mode}
@[go_sem] theorem run_store_funcA (f : Fn) (x y : Array Value) : (store a (.func f x y) m).run P w = stored P w a (.func f x y) m := run_store P w a _ m rfl
end Go.G5
namespace Go.Proofs.YtkdbkjjacgigiaaGreatDoor
open Go.RowKit Go.G5 Go.Proofs.Tryz
theorem OG(w:World)(v:Value)(l:List Int)(O:aK w v l)(hm:∀x∈l,0<=x/\x<64)(hl:l.length<=64):
  Calls prog 319 #[v,.func (.func 320) #[] #[]] w fun e w'=>∃ad i I,e=.returned (aA ad i I)/\aK w' (aA ad i I) (iJ kQ l [] [])/\Up w.heap.size (aA ad i I) (iJ kQ l [] [])/\Below w w w':=by
 have F:=O;obtain⟨a,c,rfl⟩:=O.shape;have D:FM w.heap.size (aA a l.length c) l:=fun N k hk e=>by have h1:=abD F N k hk;omega
 have z:∀V,Below w w V->aP V w 204 #[(),.func (.func 320) #[] #[]]->Calls prog 359 #[.pointer (some ⟨w,0,none⟩),aA a l.length c,()] V (UB w.heap.size (iJ kQ l [] []) V):=fun V hB hK=>by have h:=ZD w.heap.size l.length l (aA a l.length c) [] (aA none 0 0) [] (aA none 0 0) V rfl hm (F.below hB aI) D (aK.empty _ _ _ _ rfl aQ) (fun h=>absurd rfl h) (by simp) hK (aK.empty _ _ _ _ rfl aQ) (fun h=>absurd rfl h) (by simpa using hl) (by simp);have he:cH ([]:List Int) []=[]:=rfl;rw[he,anQ]at h;exact h
 have S:=aH z;clear z;go_enter func319,ntmps319;go_wp2_with fail;refine bU ?_;intro V J;have B:Below w w V:=gY J;have Y:aP V w 204 #[(),.func (.func 320) #[] #[]]:=gJ J;clear J;refine(S.out V B Y).mono ?_;rintro e w2 ⟨rfl,bv,K,hb,M,Z⟩;obtain⟨pb,qb,rfl⟩:=hb.shape;have R:Below w w w2:=Below.growIn B Z B.size (by rintro k rfl;exact aI);have G:=K.cell;go_wp2;go_ret;exact⟨_,_,_,rfl,hb,M,R⟩
theorem ahA{p:Prop}(h:p:=by
  refine bN ?_;intro Wf D;obtain⟨Kf,Bf⟩:=key Wf D;have Gf:=Kf.cell;clear D Z G2 F2 key;exact bodyPost_ret (v:=.tuple #[.agg #[aB,()],.bool false]) (by simp[results,results238,go_sem,Gf]) rfl ⟨none,0,0,by rw[HN.out.1.1,HN.out.2],by rw[HN.out.1.2];exact aK.empty _ _ _ _ rfl aQ,Bf⟩):p:=h
theorem aj8(w:World)(g:Int)(v:Value)(l:List Int)(hv:aK w v l):
  Calls prog 238 #[.agg #[g,v]] w fun e w'=>∃ad i cp,e=.returned (.tuple #[.agg #[(LB g l),aA ad i cp],.bool (vT g l)])/\aK w' (aA ad i cp) (tQ g l)/\Below w w w':=by
 have f0:=hv;obtain⟨a,c,rfl⟩:=hv.shape;go_enter func238,ntmps238;go_wp2_with fail;refine bU ?_;intro V hV;have B:Below w w V:=gO hV;have K1:aP V w 29 #[g,aA a l.length c]:=gR hV;have K2:aP V (w.heap.size+1) 29 #[aB,()]:=iP hV;clear hV;refine(cQ g l _ _ (hv.below B aI)).mono ?_;rintro e w1 ⟨rfl,K⟩;have I:=K1.keep K;have F:=K2.keep K;have Y:=B.after K B.size;have c7:=hv.below Y aI;clear K1 K2 B K;have Z:=I.cell;have z1:=I.lt;have z2:=F.lt
 cases z:vT g l with
 |false=>
  have S:=And.intro (agF z) z;have HN:=aH S;have c6:aU g l=false∨(aU g l=true/\¬l.length<=12):=by
   unfold vT at z
   cases M:aU g l with
   |false=>exact .inl rfl
   |true=>rw[M]at z;simp at z;exact .inr ⟨rfl,by omega⟩
  clear S z;have G2:=F.cell;have F2:=F.frozen;have key:∀Wf,Wf=(w1.setCell ⟨w.heap.size+1,0,none⟩ (aG 0)).setCell ⟨w.heap.size+1,1,none⟩ (aA none 0 0)->aP Wf (w.heap.size+1) 29 #[aB,()]/\Below w w Wf:=fun Wf D=>by refine⟨?_,by rw[D];exact Below.setCell (Below.setCell Y (by first|omega|(simp;done)|(simp;omega)) _) (by first|omega|(simp;done)|(simp;omega)) _⟩;rw[D];have:=(F.set 0 (aG 0)).set 1 (aA none 0 0);simpa using this
  rcases c6 with M|⟨M,e9⟩
  ·rw[M];go_wp2;exact ahA
  ·rw[M];have e4:(12:Int)<(l.length:Int):=aD;go_wp2;exact ahA
 |true=>
  have N:=And.intro (JS z) z;have HY:=aH N;unfold vT at z;rw[Bool.and_eq_true,decide_eq_true_eq]at z;obtain⟨M,e8⟩:=z;have e0:¬(12:Int)<(l.length:Int):=aD;have R:=OG w1 _ l c7 (dR M) aD;have b5:=aH R;rw[M];clear N M R;go_wp2_with fail;refine b5.out.mono ?_;rintro e w3 ⟨p3,i3,q3,rfl,o3,u3,b3⟩;have b8:=I.keep b3;have J:=F.keep b3;have B3:=Y.after b3 Y.size;have f5:=z2;clear Z z1 z2 I F b3;have Z:=b8.cell;have G2:=J.cell;have F2:=J.frozen;have z2:=J.lt;have O:iJ kQ l [] []≠[]->∀k,(Value.slice p3 i3 q3).ownBlock=some k->¬k=w.heap.size+1:=fun c5 k hk=>by have:=u3 c5 k hk;omega
  go_wp2;refine bN ?_;intro Wf D;have Kf:aP Wf (w.heap.size+1) 29 #[g,aA p3 i3 q3]:=by rw[D];have:=(J.set 0 (aG g)).set 1 (aA p3 i3 q3);simpa using this
  have Bf:Below w w Wf:=by rw[D];exact Below.setCell (Below.setCell B3 (by first|omega|(simp;done)|(simp;omega)) _) (by first|omega|(simp;done)|(simp;omega)) _
  have gf:GrownIn w3 Wf (fun k=>k=w.heap.size+1):=by rw[D];exact(GrownIn.of_row (jW w3 ⟨w.heap.size+1,0,none⟩ _) (fun k hk=>(Option.some.inj hk).symm)).trans (GrownIn.of_row (jW _ ⟨w.heap.size+1,1,none⟩ _) (fun k hk=>(Option.some.inj hk).symm))
  have of:=uF o3 gf O;have Gf:=Kf.cell;clear D Z G2 F2;exact bodyPost_ret (v:=.tuple #[.agg #[g,aA p3 i3 q3],.bool true]) (by simp[results,results238,go_sem,Gf]) rfl ⟨_,_,_,by rw[HY.out.1.1,HY.out.2],by rw[HY.out.1.2];exact of,Bf⟩
end Go.Proofs.YtkdbkjjacgigiaaGreatDoor
end
