/- Lemmas for CardRunConsole. No condition. -/
import Derived.Test.YtkdbkjjacgigiaaGreatDoorR18
import Derived.Test.YtkdbkjjacgigiaaGreatDoorR19
import Derived.Test.YtkdbkjjacgigiaaGreatDoorR26
set_option maxRecDepth 100000
set_option maxHeartbeats 64000000
namespace Go.Proofs.YtkdbkjjacgigiaaGreatDoor
section
open Go.RowKit Go.G5 Go.Proofs.Tryz
variable(w:World)(n:Int)(v:Value)(l:aI)
theorem aqD{n m:Int}{l k:aI}:fP n l m k=(eX n l&&(eX m k&&decide (n=m))):=by
 unfold fP
 cases eX n l<;>cases eX m k<;>simp
theorem ajS{p:Prop}(h:p:=by
  clear f6;go_wp2;refine cT ?_;intro Wf F;obtain⟨Bf,S⟩:=c6.out Wf F;have Gf:=S.cell;clear F G1 G2 G3 F3;exact bW (v:=aS #[aM #[aK,()],aG false]) (by simp[results,results253,go_sem,Gf]) rfl ⟨none,0,0,by rw[HN.out,HF.out],by rw[HL.out];exact bB.nil _ _ _,Bf⟩):p:=h
theorem at9(hv:Ints w v l)(hl:l.length<=1048576)(m:Int)(u:Value)(k:aI)(hu:Ints w u k)(hk:k.length<=1048576):
  Calls prog 253 #[aM #[n,v],aM #[m,u]] w fun e w'=>∃ad i O,e=aQ (aS #[aM #[(xN n l m k),aD ad i O],aG (fP n l m k)])/\bB 3 w w' (aD ad i O) (xM n l m k)/\Below w w w':=by
 have m3:=hv;have m2:=hu;obtain⟨a,c,rfl⟩:=hv.shape;obtain⟨b,d,rfl⟩:=hu.shape;have hcm:=aqD (n:=n) (m:=m) (l:=l) (k:=k);have f3:=fun(W:World) (h:Ints W (aD a l c) l)=>XK W n _ l h hl;have f4:=fun(W:World) (h:Ints W (aD b k d) k)=>XK W m _ k h hk;obtain⟨r1,b6⟩:=aW (eX n l);obtain⟨r2,b7⟩:=aW (eX m k);obtain⟨D,f0⟩:=aW (iX n l);obtain⟨I,f2⟩:=aW (iX m k);obtain⟨M1,h8⟩:=aW (lE n l);obtain⟨M2,h9⟩:=aW (lE m k);simp only[<-b6,<-f0,<-h8]at f3;simp only[<-b7,<-f2,<-h9]at f4;rw[<-b6,<-b7]at hcm;have k4:=aT f3;have k5:=aT f4;have d0:=aT f0;have k2:=aT f2;have HR:=aT (And.intro b6 b7);clear f3 f4 b6 b7 f0 f2 h8 h9;go_enter func253,ntmps253;go_wp2_with fail;refine cZ ?_;intro V hV;have B:Below w w V:=by rw[hV];exact(wU _ _ _).alloc cK _
 have K1:bK V w 27 #[n,aD a l c]:=by rw[hV];exact((bK.new _ _ _).alloc _).alloc _
 have K2:bK V (w+1) 27 #[m,aD b k d]:=by rw[hV];have:=(bK.new (w.alloc (.cells #[n,aD a l c] 27)) 27 #[m,aD b k d]).alloc (.cells #[aK,()] 29);simpa using this
 have K:bK V (w.heap.size+1+1) 29 #[aK,()]:=by rw[hV];have:=bK.new ((w.alloc (.cells #[n,aD a l c] 27)).alloc (.cells #[m,aD b k d] 27)) 29 #[aK,()];simpa using this
 clear hV;refine(k4.out _ (m3.below B aU)).mono ?_;rintro e w2 ⟨p1,i1,q1,rfl,o1,b2⟩;have l5:i1=D.length:=o1.ints.capLe.1;subst l5;have B2:=B.after b2 B.size;have K1:=K1.keep b2;have K2:=K2.keep b2;have K:=K.keep b2;clear B b2;have J1:=bK.new w2 29 #[M1,aD p1 D q1];have h1:=o1.ints.alloc (.cells #[M1,aD p1 D q1] 29);have b1:=B2.alloc B2.size (.cells #[M1,aD p1 D q1] 29);have h0:=K1.alloc (.cells #[M1,aD p1 D q1] 29);have e6:=K2.alloc (.cells #[M1,aD p1 D q1] 29);have h5:=K.alloc (.cells #[M1,aD p1 D q1] 29);have G1:=e6.cell;go_wp2_with fail;refine(k5.out _ (m2.below b1 aU)).mono ?_;rintro e w3 ⟨p2,i2,q2,rfl,o2,b3⟩;have l6:i2=I.length:=o2.ints.capLe.1;subst l6;have B3:=b1.after b3 b1.size;have K1:=h0.keep b3;have K2:=e6.keep b3;have K:=h5.keep b3;have J1:=J1.keep b3;have h1:=h1.keep b3;clear G1 B2 b1 h0 e6 h5 b3;have J2:=bK.new w3 29 #[M2,aD p2 I q2];have h2:=o2.ints.alloc (.cells #[M2,aD p2 I q2] 29);have B3:=B3.alloc B3.size (.cells #[M2,aD p2 I q2] 29);have K1:=K1.alloc (.cells #[M2,aD p2 I q2] 29);have K2:=K2.alloc (.cells #[M2,aD p2 I q2] 29);have K:=K.alloc (.cells #[M2,aD p2 I q2] 29);have J1:=J1.alloc (.cells #[M2,aD p2 I q2] 29);have h1:=h1.alloc (.cells #[M2,aD p2 I q2] 29);have G1:=K1.cell;have G2:=K2.cell;have G3:=K.cell;have F3:=K.frozen;have z3:=K.lt;have M:fP n l m k=(r1&&(r2&&(n==m))):=by rw[hcm,xW]
 clear hcm
 cases Y:fP n l m k with
 |false=>
  have hN:xN n l m k=0:=by unfold xN;rw[Y];rfl
  have hL:xM n l m k=[]:=by unfold xM;rw[Y];rfl
  have f6:(!r1||(!r2||n != m))=true:=by rw[Y]at M;revert M;cases r1<;>cases r2<;>cases h:n==m<;>simp[bne,h]
  have HN:=aT hN;have HL:=aT hL;have HF:=aT Y;have c8:∀Wf:World,Wf=(((w3.alloc (.cells #[M2,aD p2 I q2] 29)).setCell ⟨w+1+1,0,none⟩ (aO 0)).setCell ⟨w+1+1,1,none⟩ (aD none 0 0))->Below w w Wf/\bK Wf (w.heap.size+1+1) 29 #[aK,()]:=by intro Wf F;rw[F];refine⟨bX (bX B3 cK _) cK _,?_⟩;have:=(K.set 0 (aO 0)).set 1 (aD none 0 0);simpa using this
  have c6:=aT c8;clear hN hL Y M c8
  cases r1 with
  |false=>exact ajS
  |true=>
   cases r2 with
   |false=>exact ajS
   |true=>
    have f6:(n != m)=true:=by simpa using f6
    go_wp2;refine cT ?_;intro Wf F;obtain⟨Bf,S⟩:=c6.out Wf F;have Gf:=S.cell;clear F G1 G2 G3 F3;exact bW (v:=aS #[aM #[aK,()],aG false]) (by simp[results,results253,go_sem,Gf]) rfl ⟨none,0,0,by rw[HN.out,HF.out],by rw[HL.out];exact bB.nil _ _ _,Bf⟩
 |true=>
  obtain⟨Z,f7⟩:=OO Y;obtain⟨rfl,N,rfl,p6,l8,j0,i8,_,_⟩:=sY Y;have l9:r1=true/\r2=true:=⟨HR.out.1.trans Z,HR.out.2.trans f7⟩;obtain⟨rfl,rfl⟩:=l9;have hN:xN N l N k=N:=by unfold xN;rw[Y];rfl
  have hL:xM N l N k=D.filter (jI I):=by
   rw[d0.out,k2.out];unfold xM iX;rw[Y,if_pos rfl,Z,if_pos rfl,f7,if_pos rfl,i8,WK]
   rfl
  have p5:D.length<=32:=by rw[d0.out];unfold iX;rw[Z,if_pos rfl];exact dC (jD _ _) j0
  have h6:∀y∈D,0<=y/\y<64:=by rw[d0.out];unfold iX;rw[Z,if_pos rfl];intro y hy;have:=rT _ _ y hy;omega
  have k3:=aT h6;have p8:(((N:Nat):Int) != (N:Int))=false:=bF;have HN:=aT hN;have HL:=aT hL;have HF:=aT Y;obtain⟨av,ab,m8,cv,m4,_,i7,hc,hb⟩:=h1.vw;injection m4 with x1 _ x3;subst x1 x3;have HC:=aT hc;have k6:=aT i7;clear h6 hN hL Y Z f7 l8 i8 M hc i7;clear z3;go_wp2_with fail;obtain⟨V,hV⟩:=aW (w3.alloc (.cells #[M2,aD p2 I q2] 29));have o0:=bB.lit0 (E:=3) (B:=V.heap.size) V aU;clear G1 G2 G3 F3;have zV:V.heap.size=w3.heap.size+1:=by rw[hV];simp
  have l3:D≠[]->ab<V.heap.size:=by rw[hV];exact hb
  rw[<-hV]at B3 K1 K2 K J1 J2 h1 h2 HC |-;have j3:bB 3 V (V.alloc (.cells #[] 3)) (aD (some ⟨w3+1,0,none⟩) 0 0) []:=by rw[show(⟨V,0,none⟩:Addr)=⟨w3+1,0,none⟩ by rw[zV]]at o0;exact o0
  clear hV;go_loopw [10,11] (fun out i wr=>∃(j:Nat) (ad:Option Addr) (nn O:Nat),j<=D/\out=aD ad nn O/\i=aO j/\bB 3 V wr (aD ad nn O) ((D.take j).filter (jI I))/\Below V V wr)
   (fun _ i _=>D.length-(intOf i).toNat)
  .exact⟨0,_,_,_,aZ _,rfl,rfl,j3,cQ _ _⟩
  obtain⟨j,ad,nn,O,hj,rfl,rfl,ho,B⟩:=hrel;obtain⟨wo,rfl⟩:∃z:World,z=wr:=⟨_,rfl⟩;have HO:=aT ho;clear ho o0 j3;have zw:=B.size;have R:=dN J1 B J1.lt;have l0:=dN J2 B J2.lt;have z1:=R.lt;by_cases hlt:j<D
  .have j1:(j:Int)<(D.length:Int):=aA;have J:=ac6 (jI I) D j hlt;have p7:((D.take j).filter (jI I)).length<=64:=by have h1:=List.length_filter_le (jI I) (D.take j);have h2:=List.length_take_le j D;omega
   have e9:=bY HC.out l3 B aU j hlt;have q3:=fun W=>k6.out W j hlt;have m6:=k3.out D[j] (aX hlt);obtain⟨x,hx⟩:=aW (D[j]);rw[<-hx]at m6;rw[<-hx]at J e9;have f5:=fun y:Ext wo=>rX I _ x y.w ((h2.below B aU).keep y.b);obtain⟨q,hq⟩:=aW (jI I x);rw[<-hq]at J;simp only[<-hq]at f5;have a1:=R.cell 1;have a2:=l0.cell 1;simp only[List.getElem?_toArray,List.getElem?_cons_zero,List.getElem?_cons_succ]at a1 a2;have e1:∀y:Ext wo,y.w.cell? ⟨w2,1,none⟩=some (aD p1 D q1):=fun y=>y.cell a1;have e2:∀y:Ext wo,y.w.cell? ⟨w3,1,none⟩=some (aD p2 I q2):=fun y=>y.cell a2;have e3:∀y:Ext wo,y.w.cell? ⟨ab,m8+j,none⟩=some (aO x):=fun y=>y.cell e9;have G1:=R.cell;have e4:=aT f5;clear hx hq f5 a1 a2
   cases q with
   |false=>
    rw[if_neg bF,List.append_nil]at J;have e0:=aT J;clear J;go_wp2_with fail;refine cW _ bM bM ?_
    repeat(first|go_big_quiet_skip|(go_big_quiet_want;go_big_quiet_op;first|go_big_quiet_on|(apply Exists.intro;refine⟨fun _=>?_,?_⟩;(go_at_call 110;exact fA (e4.out _));go_big_quiet_on)))
    refine wpQuiet_nil ?_;rintro w5 ⟨⟨w5,b5⟩,rfl⟩
    try dsimp only
    go_wp2;go_roundw
    .exact⟨j+1,ad,nn,O,aA,rfl,cD,by rw[e0.out];exact HO.out.keep b5,B.after b5 B.size⟩
    exact aY
   |true=>
    rw[if_pos rfl]at J;have e0:=aT J;clear J;go_wp2_with fail;refine cW _ bM bM ?_
    repeat(first|go_big_quiet_skip|(go_big_quiet_want;go_big_quiet_op;first|go_big_quiet_on|(apply Exists.intro;refine⟨fun _=>?_,?_⟩;(go_at_call 110;exact fA (e4.out _));go_big_quiet_on)))
    refine wpQuiet_nil ?_;rintro w5 ⟨⟨w5,b5⟩,rfl⟩
    try dsimp only
    clear G1;have k8:=R.keep b5;have G1:=k8.cell;have c5:=(Ext.mk w5 b5).cell e9;have g9:=HO.out.keep b5;have B5:=B.after b5 B.size;have z5:=B5.size;clear e1 e2 e3 e4;go_wp2_with (at_builtin;refine eF rfl _ _ _ rfl 3 underlying25 intElem V.heap.size _ _ x w5.heap.size rfl rfl (cR w5 #[x] 3 0 _ rfl) (g9.alloc _) ⟨aA,aA⟩ aA cK ?_;intro v' w6 c9 l4;obtain⟨av,nv,cv,rfl⟩:=c9.shape3);have B6:Below V V w6:=(B5.alloc B5.size (.cells #[x] 3)).grown l4 bO (fun q hq=>(g9.lt q hq).1);go_roundw
    .exact⟨j+1,av,nv,cv,aA,rfl,cD,by rw[e0.out];exact c9,B6⟩
    exact aY
  .have j1:¬(j:Int)<(D.length:Int):=aA;have l7:j=D.length:=aA;subst l7;have l1:=dN K1 B K1.lt;have b4:=dN K B K.lt;have y3:=b4.lt;have G1:=R.cell;have G2:=l1.cell;have G3:=b4.cell;have F3:=b4.frozen;have yy:=B3.size;have y4:=K.lt;go_wp2;refine cT ?_;intro Wf F;have S:bK Wf (w.heap.size+1+1) 29 #[N,aD ad nn O]:=by rw[F];have:=(b4.set 0 (aO N)).set 1 (aD ad nn O);simpa using this
   have Bf:Below w w Wf:=by rw[F];exact bX (bX (B3.after B B3.size) cK _) cK _
   have of:bB 3 w Wf (aD ad nn O) ((D.take D.length).filter (jI I)):=by rw[F];exact((HO.out.setBelow cK _).setBelow cK _).mono cK
   rw[List.take_length]at of;have Gf:=S.cell;clear F G1 G2 G3 F3;exact bW (v:=aS #[aM #[N,aD ad nn O],aG true]) (by simp[results,results253,go_sem,Gf]) rfl ⟨ad,nn,O,by rw[HN.out,HF.out],by rw[HL.out];exact of,Bf⟩
theorem alV(hv:Ints w v l)(hl:l.length<=1048576)(m:Int)(u:Value)(k:aI)(hu:Ints w u k)(hk:k.length<=1048576):
  aH 164 #[aM #[n,v],aM #[m,u]] w (aR (BR n l m k)):=by
 have K:=hv;have J:=hu;obtain⟨a,c,rfl⟩:=hv.shape;obtain⟨Z,c',rfl⟩:=hu.shape;have z:=fun(W:World) (h1:Ints W (aD a l c) l) (h2:Ints W (aD Z k c') k)=>DH W n _ l h1 hl m _ k h2 hk;have N:=fun(W:World) (h1:Ints W (aD a l c) l) (h2:Ints W (aD Z k c') k)=>FL W n _ l h1 hl m _ k h2 hk;have O:=fun(W:World) (h1:Ints W (aD a l c) l) (h2:Ints W (aD Z k c') k)=>apH W n _ l h1 hl m _ k h2 hk;have R:=fun(W:World) (h1:Ints W (aD a l c) l) (h2:Ints W (aD Z k c') k)=>at9 W n _ l h1 hl m _ k h2 hk;have S:Below w w ((w.alloc (.cells #[n,aD a l c] 27)).alloc (.cells #[m,aD Z k c'] 27)):=wU _ _ _;have D:=(bK.new w 27 #[n,aD a l c]).alloc (.cells #[m,aD Z k c'] 27);have I:bK ((w.alloc (.cells #[n,aD a l c] 27)).alloc (.cells #[m,aD Z k c'] 27)) (w.heap.size+1) 27 #[m,aD Z k c']:=by have:=bK.new (w.alloc (.cells #[n,aD a l c] 27)) 27 #[m,aD Z k c'];simpa using this
 cases hf:fP n l m k with
 |false=>have HX:=aT (TR hf);have z:=z _ (K.below S aU) (J.below S aU);rw[hf]at z;have Y:=aT z;clear hf z N O R D I;go_enter func164,ntmps164;go_wp2_with fail;refine aV Y.out ?_;intro w1 b1;go_wp2;go_ret;exact⟨dA HX.out.symm,S.after b1 S.size⟩
 |true=>
  have g2:=XP n l m k;obtain⟨TT,b7⟩:=aW (BR n l m k);have k0:TT.size<=10600:=by rw[b7,DQ hf];exact PC n l m k
  have hx:plQ (dH n (tK n l m k)) (dB (AO n l m k)) (dH n (uU n l m k)) (dH n (DI n l m k)) (eG (xN n l m k) (xM n l m k))=TT:=by rw[b7,DQ hf];rfl
  unfold plQ at hx;simp only[hf]at z N O R;obtain⟨S1,c8⟩:=aW (tK n l m k);obtain⟨S2,c9⟩:=aW (uU n l m k);obtain⟨S3,d0⟩:=aW (DI n l m k);obtain⟨N1,b6⟩:=aW (AO n l m k);obtain⟨M,hM⟩:=aW (xN n l m k);obtain⟨L,hL⟩:=aW (xM n l m k);simp only[<-c8]at z;simp only[<-c9,<-b6]at N;simp only[<-d0]at O;simp only[<-hM,<-hL]at R;rw[<-c8,<-c9,<-d0,<-b6,<-hM,<-hL]at hx;rw[<-b6]at g2;have Y:=aT z;have f8:=aT N;have f9:=aT O;have g0:=aT R;have HX:=aT hx;have g9:=aT b7;clear z N O R hx b7 hf c8 c9 d0 b6 hM hL;go_enter func164,ntmps164;go_wp2_with fail;refine aV (Y.out _ (K.below S aU) (J.below S aU)) ?_;intro w1 b1;have B1:=S.after b1 S.size;have D:=D.keep b1;have I:=I.keep b1;clear S b1;have G1:=D.cell;have G2:=I.cell;have z1:=D.lt;have z2:=I.lt;go_wp2_with fail;refine aV (f8.out _ (K.below B1 aU) (J.below B1 aU)) ?_;intro w2 b2;have B2:=B1.after b2 B1.size;have D:=D.keep b2;have I:=I.keep b2;clear B1 b2 G1 G2 z1 z2;have G1:=D.cell;have G2:=I.cell;have z1:=D.lt;have z2:=I.lt;go_wp2_with fail;refine aV (f9.out _ (K.below B2 aU) (J.below B2 aU)) ?_;intro w3 b3;have B3:=B2.after b3 B2.size;have D:=D.keep b3;have I:=I.keep b3;clear B2 b3 G1 G2 z1 z2;have G1:=D.cell;have G2:=I.cell;have z1:=D.lt;have z2:=I.lt;go_wp2_with fail;refine(g0.out _ (K.below B3 aU) (J.below B3 aU)).mono ?_;rintro e w4 ⟨pB,iB,qB,rfl,oB,b4⟩;have i7:iB=L.length:=oB.ints.capLe.1;subst i7;have B4:=B3.after b4 B3.size;have D:=D.keep b4;clear B3 b4 G1 G2 z1 z2 I;have KB:=bK.new w4 29 #[M,aD pB L qB];have hB:=oB.ints.alloc (.cells #[M,aD pB L qB] 29);have c5:=B4.alloc B4.size (.cells #[M,aD pB L qB] 29);have c7:=D.alloc (.cells #[M,aD pB L qB] 29);have q1:=gN n S1;have q2:=gN n S2;have q3:=gN n S3;have q4:=eB N1 ⟨aA,aA⟩;have q5:=gK M L;have e5:=fun W:World=>kL n S1 W;have e6:=fun W:World=>kL n S2 W;have e7:=fun W:World=>kL n S3 W;have e8:=fun W:World=>iL N1 ⟨aA,aA⟩ W;obtain⟨F1,a7⟩:=aW (dH n S1);obtain⟨F2,a8⟩:=aW (dH n S2);obtain⟨F3,a9⟩:=aW (dH n S3);obtain⟨F4,b0⟩:=aW (dB N1);simp only[<-a7]at e5;simp only[<-a8]at e6;simp only[<-a9]at e7;simp only[<-b0]at e8;rw[<-a7]at q1;rw[<-a8]at q2;rw[<-a9]at q3;rw[<-b0]at q4;have F:=HX.out;rw[<-a7,<-a8,<-a9,<-b0]at F;have HX:=aT F;clear a7 a8 a9 b0 F;obtain⟨W5,e0⟩:=aW (w4.alloc (.cells #[M,aD pB L qB] 29));rw[<-e0]at hB KB c7 c5;have a0:=c7.cell 0;have a1:=KB.cell 0;have a2:=KB.cell 1;simp only[List.getElem?_toArray,List.getElem?_cons_zero,List.getElem?_cons_succ]at a0 a1 a2;have p0:∀y:Ext W5,y.w.cell? ⟨w,0,none⟩=some (aO n):=fun y=>y.cell a0;have p1:∀y:Ext W5,y.w.cell? ⟨w4,0,none⟩=some (aO M):=fun y=>y.cell a1;have p2:∀y:Ext W5,y.w.cell? ⟨w4,1,none⟩=some (aD pB L qB):=fun y=>y.cell a2;have e9:=fun y:Ext W5=>lV M L _ y.w (hB.keep y.b);obtain⟨F5,b5⟩:=aW (eG M L);simp only[<-b5]at e9;rw[<-b5]at q5;have F:=HX.out;rw[<-b5]at F;have HX:=aT F;have R1:=aT (fun y:Ext W5=>e5 y.w);have R2:=aT (fun y:Ext W5=>e6 y.w);have R3:=aT (fun y:Ext W5=>e7 y.w);have R4:=aT (fun y:Ext W5=>e8 y.w);have R5:=aT e9;clear b5 F e5 e6 e7 e8 e9 a0 a1 a2 D c7 KB hB hv hu K J Y f8 f9 g0 oB g2;go_upto_region 7 with fail;rw[<-e0];clear e0;refine cW _ bM bM ?_
  repeat(first|go_big_quiet_skip|(go_big_quiet_want;go_big_quiet_op;first|go_big_quiet_on|(apply Exists.intro;refine⟨fun _=>?_,?_⟩;(first|(go_at_call 22;first|(with_reducible exact dI (R1.out _))|(with_reducible exact dI (R2.out _))|(with_reducible exact dI (R3.out _)))|(go_at_call 8;exact dI (R4.out _))|(go_at_call 9;exact dI (R5.out _)));go_big_quiet_on)))
  refine wpQuiet_nil ?_;rintro w9 ⟨⟨w9,b9⟩,rfl⟩
  try dsimp only
  go_wp2;go_ret;exact⟨dA (HX.out.trans g9.out),c5.after b9 c5.size⟩
theorem ab5:fU []=[]:=by simp[fU];rfl
theorem OI(hv:Ints w v l)(hm:∀x∈l,0<=x/\x<64)(hl:l.length<=64)(s:Int)(R:0<=s/\s<64):
  Calls prog 103 #[v,s] w fun e w'=>∃ad i c,e=aQ (aD ad i c)/\bB 3 w w' (aD ad i c) (CB l s)/\Below w w w':=by
 obtain⟨a,b,c6,c,rfl,a8,M,hc,hb⟩:=hv.vw;have HC:=aT hc;have Z:=aT M;have HM:=aT hm;have o0:=bB.lit0 (E:=3) (B:=w.heap.size) w aU;clear hc M hm;go_enter func103,ntmps103;go_wp2_with fail;go_loopw [5,6] (fun ov iv wr=>∃(j:Nat) (p:Option Addr) (r m:Nat),j<=l/\iv=aO j/\ov=aD p r m/\bB 3 w wr (aD p r m) (fU ((l.take j).map fun t=>cU s t))/\Below w w wr) (fun _ iv _=>l.length-(intOf iv).toNat)
 .refine⟨0,_,_,_,aZ _,rfl,rfl,?_,cQ _ _⟩;have e0:fU ((l.take 0).map fun t=>cU s t)=[]:=by rw[List.take_zero,List.map_nil];exact ab5
  rw[e0];exact o0
 obtain⟨j,p,r,m,hj,rfl,rfl,mF,J⟩:=hrel;clear o0;have F:=aT mF;have zw:=J.size;clear mF;by_cases hlt:j<l
 .have O:(j:Int)<(l.length:Int):=aA;have ck:=bY HC.out hb J aU j hlt;have ik:=fun W=>Z.out W j hlt;have hx:=HM.out _ (aX hlt);have D:=al1 l s j hlt;obtain⟨x,S⟩:=aW (l[j]);rw[<-S]at ck hx D;have I:=fV hx.1 (show x<4611686018427387904 from aA) R.1 (show s<4611686018427387904 from aA);rw[A7 x s]at I;have a1:=EC s x R.1 R.2;have N:(fU ((l.take j).map fun t=>cU s t)).length<=1048576:=by refine dC (YW _ ?_).2 aA;intro y Y;obtain⟨t,_,rfl⟩:=List.mem_map.1 Y;exact EC s t R.1 R.2
  obtain⟨y,Y⟩:=aW (cU s x);rw[<-Y]at I a1 D;have z:=afL w.heap.size _ _ y wr F.out zw (wW _) N ⟨aA,aA⟩;rw[D]at z;have K:=aT z;clear S Y D z N;go_wp2_with fail;refine K.out.mono ?_;rintro e w5 ⟨p5,i5,q5,rfl,o5,b5,_⟩;go_wp2;go_roundw
  .exact⟨j+1,p5,i5,q5,aA,cD,rfl,o5,J.after b5 J.size⟩
  exact aY
 .have O:¬(j:Int)<(l.length:Int):=aA;have hT:CB l s=fU ((l.take j).map fun t=>cU s t):=by rw[List.take_of_length_le aA];rfl
  have HT:=aT hT;clear hT;go_wp2;go_ret;exact⟨_,_,_,rfl,by rw[HT.out];exact F.out,J⟩
theorem acD(N:Nat)(v:Value)(l:aI)(hv:Ints w v l)(M:cO (N:Int) l=true)(s:Nat)(hs:s<2^N):
  aH 154 #[aM #[(N:Int),v],(s:Int)] w (aG (BI l s)):=by
 obtain⟨h0,h6,b6,b7⟩:=fF M;have hN:N<=6:=aA;have a9:(2:Nat)^N<=2^6:=bQ bZ hN;have R:((2:Int)^N)=((2^N:Nat):Int):=bF;obtain⟨a,c,rfl⟩:=hv.shape;have K0:=bK.new w 29 #[(N:Int),aD a l c];have z:=eA (N:Int) l _ _ (hv.alloc (.cells #[(N:Int),aD a l c] 29));rw[M]at z;have I:=fun(W:World) (h:Ints W (aD a l c) l)=>OI W _ l h (fS M) (kZ M) (s:Int) ⟨aA,aA⟩;have O:fN (s:Int) 0 (2^N-1)=true:=eW.2 ⟨aA,by rw[R];omega⟩;have D:=fun W=>eH (s:Int) 0 (2^N-1) W;simp only[O]at D;have S:=XB N aA s hs;have Y:BI l s=((CB l (s:Int)).length==2^dG s):=rfl;have J:=aT (fun W=>iE s W aA);have a6:=aT (fun W=>fZ N W aA);obtain⟨T,hT⟩:=aW (CB l (s:Int));simp only[<-hT]at I;rw[<-hT]at Y;obtain⟨p,hp⟩:=aW (dG s);rw[<-hp]at S Y;simp only[<-hp]at J;have F:=dW p 6 aA;have b5:=F.1;have c9:=F.2;simp at b5;have K:((T.length:Int)==(2:Int)^p)=(T.length==2^p):=by
  have e:((2:Int)^p)=((2^p:Nat):Int):=bF;rw[e,Bool.eq_iff_iff,beq_iff_eq,beq_iff_eq];omega
 have e0:IntKind.i64.wrap ((2:Int)^p)=2^p:=dV;rw[<-K]at Y;have HX:=aT Y;have a8:=aT I;have a1:=aT z;have a7:=aT D;have d0:p<=6:=aA;clear Y I hT hp S R M b6 b7 K F a9 hs z O D;go_enter func154,ntmps154;go_wp2_with fail;refine aV a1.out ?_;intro w1 b1;have Z:Below w w w1:=(cQ _ _).after b1 bF;have G:=(K0.keep b1).cell;go_wp2_with (first|(go_at_call 78;refine aV (a6.out _) ?_;rintro w' rfl)|(go_at_call 77;refine aV (a7.out _) ?_;rintro w' rfl));refine(a8.out w1 (hv.below Z aU)).mono ?_;rintro e w2 ⟨p2,i2,q2,rfl,o2,b2⟩;have b3:i2=T.length:=o2.ints.capLe.1;subst b3;go_wp2_with (go_at_call 84;refine aV (J.out _) ?_;rintro w' rfl);go_ret;exact⟨cP HX.out.symm,Z.after b2 Z.size⟩
theorem W4(g:Int)(v:Value)(l:aI)(hv:Ints w v l)(hf:cO g l=true):
  Calls prog 102 #[aM #[g,v]] w fun e w'=>∃ad i c,e=aQ (aS #[aM #[g,aD ad i c],aG true])/\Ints w' (aD ad i c) (sF g l)/\Below w w w':=by
 obtain⟨a,c,rfl⟩:=hv.shape;obtain⟨h0,h6,f3,f4⟩:=fF hf;obtain⟨N,rfl⟩:=cN h0;have hN:N<=6:=aA;have e7:(2:Nat)^N<=2^6:=bQ bZ hN;have a1:=dW N 6 hN;have f2:=a1.1;have j2:=a1.2;simp at f2;have I:((2:Int)^N)=((2^N:Nat):Int):=bF;have j5:IntKind.i64.wrap ((2:Int)^N)=2^N:=dV;have hx:sF (N:Int) l=dE (BI l) (2^N):=by unfold sF;rw[hf,cA];rfl
 obtain⟨V,hV⟩:=aW ((w.alloc (.cells #[(N:Int),aD a l c] 29)).alloc (.cells #[aK,()] 29));have B:Below w w V:=iJ hV;have K1:bK V w 29 #[(N:Int),aD a l c]:=iQ hV;have K2:bK V (w+1) 29 #[aK,()]:=jL hV;have o0:=bB.lit0 (E:=3) (B:=V.heap.size) V aU;have Z:=fun(W:World) (h:Ints W (aD a l c) l)=>eA (N:Int) l _ W h;simp only[hf]at Z;have F:=fun(W:World) (s:Nat) (hs:s<2^N) (h:Ints W (aD a l c) l)=>acD W N _ l h hf s hs;have z1:=K1.lt;have z2:=K2.lt;have e9:V.heap.size=w.heap.size+1+1:=by rw[hV];simp
 obtain⟨M,hM⟩:=aW (2^N);have b8:((2:Int)^N)=(M:Int):=by rw[I,hM]
 rw[<-hM]at hx e7 F;have HV:=aT hV;have HX:=aT hx;have b0:=aT Z;have e0:=aT F;have b1:=aT b8;clear hV Z F hf f3 f4 hx I hM b8 a1;go_enter func102,ntmps102;go_wp2_with fail;rw[HV.out.symm];go_loopw [4,5] (fun ov iv wr=>∃(j:Nat) (p:Option Addr) (r m:Nat),j<=M/\iv=aO j/\ov=aD p r m/\bB 3 V wr (aD p r m) (dE (BI l) j)/\Below V V wr) (fun _ iv _=>M-(intOf iv).toNat)
 .exact⟨0,_,_,_,aZ _,rfl,rfl,(by rw[<-e9];exact o0),cQ _ _⟩
 obtain⟨j,p,r,m,hj,rfl,rfl,mF,Bw⟩:=hrel;clear o0;have B2:=B.after Bw B.size;have b7:=K1.keep Bw;have G:=b7.cell;go_wp2_with fail;refine aV (b0.out wr (hv.below B2 aU)) ?_;intro w3 b3;have D:=Bw.after b3 Bw.size;have B3:=B.after D B.size;have b6:=K1.keep D;have e6:=K2.keep D;have J:=mF.keep b3;clear G b7 mF;have G:=b6.cell;by_cases hlt:j<M
 .have c6:(j:Int)<2^N:=by rw[b1.out];omega
  have F:=e0.out w3 j hlt (hv.below B3 aU);have Y:=gV (BI l) j;obtain⟨z,hz⟩:=aW (BI l j);rw[<-hz]at F Y;have j1:=jD (BI l) j;have b5:=aT F;have a9:=aT Y;clear hz F Y
  cases z with
  |false=>
   go_wp2_with fail;refine aV b5.out ?_;intro w4 K;have o4:=J.keep K;go_wp2;go_roundw
   .exact⟨j+1,p,r,m,aA,cD,rfl,by rw[a9.out];exact o4,D.after K D.size⟩
   exact aY
  |true=>
   go_wp2_with fail;refine aV b5.out ?_;intro w4 K;have o4:=J.keep K;have B4:=D.after K D.size;have z4:=B4.size;go_wp2_with (at_builtin;refine eF rfl _ _ _ rfl 3 underlying25 intElem V.heap.size _ (dE (BI l) j) (j:Int) w4.heap.size rfl rfl (cR _ _ _ _ _ rfl) (o4.alloc _) ⟨aA,aA⟩ aA bO ?_;intro v' w6 S f0;obtain⟨av,nv,cv,rfl⟩:=S.shape3);have c7:=o4.lt;have B6:Below V V w6:=(B4.alloc B4.size (.cells #[(j:Int)] 3)).grown f0 bO (fun q hq=>(c7 q hq).1);go_roundw
   .exact⟨j+1,av,nv,cv,aA,cD,rfl,by rw[a9.out];exact S,B6⟩
   exact aY
 .have c6:¬(j:Int)<2^N:=by rw[b1.out];omega
  have c5:j=M:=aA;have HJ:=aT c5;clear c5;go_wp2_with fail;refine aV (b0.out w3 (hv.below B3 aU)) ?_;intro w4 K;have O:=e6.keep K;have e5:=b6.keep K;have B4:=B3.after K B3.size;have o4:=J.keep K;have z3:=O.lt;clear G;have G:=e5.cell;have G2:=O.cell;have F2:=O.frozen;go_wp2;refine cT ?_;intro Wf R;have Kf:bK Wf (w+1) 29 #[(N:Int),aD p r m]:=by rw[R];have:=(O.set 0 (aO (N:Int))).set 1 (aD p r m);simpa using this
  have Bf:Below w w Wf:=by rw[R];exact bX (bX B4 cK _) cK _
  have of:bB 3 V Wf (aD p r m) (dE (BI l) j):=by rw[R];exact(o4.setBelow (by show w.heap.size+1<_;omega) _).setBelow (by show w.heap.size+1<_;omega) _
  have Gf:=Kf.cell;clear R G2 F2 G;exact bW (v:=aS #[aM #[(N:Int),aD p r m],aG true]) (by simp[results,results102,go_sem,Gf]) rfl ⟨_,_,_,rfl,by rw[HX.out,<-HJ.out];exact of.ints,Bf⟩
theorem anC(g:Int)(v:Value)(l:aI)(hv:Ints w v l)(hf:cO g l=true):
  aH 54 #[aM #[g,v]] w (wM g l):=by
 obtain⟨a,c,rfl⟩:=hv.shape;have Y:wM g l=vL (-1) (sF g l) (sF g l).length:=by unfold wM;rw[hf];rfl
 have I:=W4 (w.alloc (.cells #[g,aD a l c] 29)) g _ l (hv.alloc _) hf;have D:=PL g l;have F:=TM (-1) (sF g l) (fun x Y=>(D x Y).2) aA;obtain⟨T,hT⟩:=aW (sF g l);rw[<-hT]at Y I D F;have HX:=aT Y;have a8:=aT I;have a7:=aT D;have a1:=aT F;clear Y I D F hf hT;go_enter func54,ntmps54;go_wp2_with fail;refine a8.out.mono ?_;rintro e w1 ⟨p1,i1,q1,rfl,o1,b1⟩;have b3:i1=T.length:=o1.capLe.1;subst b3;have B1:Below w w w1:=(cQ _ _).after b1 bF;obtain⟨_,b,e8,_,b5,_,N,hc,hb⟩:=o1.vw;injection b5 with x1 _ x3;subst x1 x3;have K:=bY hc hb (cQ w1 (.cells #[g,aD p1 T q1] 29)) aU;have HC:=aT K;have a6:=aT N;clear hc N o1 hb K;go_wp2_with fail;go_loop [5,6] (fun mv iv=>∃j:Nat,j<=T/\iv=aO j/\mv=aO (vL (-1) T j)) (fun _ iv=>T.length-(intOf iv).toNat)
 .exact⟨0,aZ _,rfl,rfl⟩
 obtain⟨j,hj,rfl,rfl⟩:=hrel;have a9:=a1.out j;by_cases hlt:j<T
 .have R:(j:Int)<(T.length:Int):=aA;have ck:=HC.out j hlt;have ik:=fun W=>a6.out W j hlt;have S:vL (-1) T (j+1)=max (vL (-1) T j) (eO T[j]):=by rw[vL,cJ T j hlt]
  have Z:=a7.out _ (aX hlt);obtain⟨y,hy⟩:=aW (T[j]);rw[<-hy]at ck S Z;have J:=aT (fun W=>tT y W Z.1 aA);have b4:=zP y aA;obtain⟨z,hz⟩:=aW (eO y);rw[<-hz]at S b4;simp only[<-hz]at J;obtain⟨M,hM⟩:=aW (vL (-1) T j);rw[<-hM]at S a9 |-;have HS:=aT S;clear hy hz hM S;go_wp2_with (go_at_call 84;refine aV (J.out _) ?_;rintro w' rfl);go_round
  .exact⟨j+1,aA,cD,by rw[HS.out];try omega⟩
  exact aY
 .have R:¬(j:Int)<(T.length:Int):=aA;have O:j=T.length:=aA;have HJ:=aT O;clear O;go_wp2;go_ret;exact⟨jK (by rw[HX.out,<-HJ.out]),B1.alloc B1.size _⟩
theorem ab8(N:Nat)(v:Value)(l:aI)(hv:Ints w v l)(R:cO (N:Int) l=true):
  Calls prog 55 #[aM #[(N:Int),v]] w fun e w'=>∃ad i c,e=aQ (aD ad i c)/\Ints w' (aD ad i c) (sE (N:Int) l)/\Below w w w':=by
 obtain⟨a,c,rfl⟩:=hv.shape;have hm:=fS R;have hl:=kZ R;obtain⟨h0,h6,e8,e9⟩:=fF R;have hN:N<=6:=aA;have hp:=dW N 6 hN;have b7:=hp.1;have h7:=hp.2;simp at b7;have hx:sE (N:Int) l=lP l N (2^N):=by unfold sE;rw[R,cA];rfl
 obtain⟨V,hV⟩:=aW (w.alloc (.cells #[(N:Int),aD a l c] 29));have B:Below w w V:=jP hV;have K1:bK V w 29 #[(N:Int),aD a l c]:=jV hV;have S:=eA (N:Int) l _ V (hv.below B aU);rw[R]at S;obtain⟨M,hM⟩:=aW (2^N);have a1:(2:Int)^N=(M:Int):=by rw[hM];simp
 have l4:IntKind.i64.wrap ((2:Int)^N)=2^N:=dV;have g8:M<=64:=by have h:=bQ (show 0<2 from bZ) hN;rw[hM];simpa using h
 have a8:∀s,s<M->dG s<=N:=fun s hs=>XB N aA s aA;have D:=fun(W:World) (s:Nat) (hs:s<M) (h:Ints W (aD a l c) l)=>OI W _ l h hm hl (s:Int) ⟨aA,aA⟩;rw[<-hM]at hx;have HV:=aT hV;have c8:=aT S;have g0:=aT a1;have d0:=aT D;have c9:=aT a8;have HX:=aT hx;clear hV S D a8 hx R e8 e9 hm hp hM a1;go_enter func55,ntmps55;go_wp2_with fail;rw[HV.out.symm];refine aV c8.out ?_;intro w1 b1;have B1:=B.after b1 B.size;have J:=K1.keep b1;have G1:=J.cell;go_wp2_with (at_make;refine nP rfl _ _ _ rfl 3 underlying25 intElem (N+1) _ _ rfl rfl cD cD aA ?_;intro w2 I hg;have B2:=B1.grown hg B1.size (fun q hq=>by cases hq);have K2:=J.grow hg bF;clear G1 hg;have G1:=K2.cell);have j5:=J.lt;go_loopw [4] (fun iv wr=>∃j:Nat,j<=M/\iv=aO j/\bB 3 w1 wr (aD (some ⟨w1,0,none⟩) (N+1) (N+1)) (lP l N j)/\Below w w wr/\bK wr w 29 #[(N:Int),aD a l c]) (fun iv _=>M-(intOf iv).toNat)
 .exact⟨0,aZ _,rfl,I,B2,K2⟩
 obtain⟨j,hj,rfl,ho,Br,Kr⟩:=hrel;clear I G1;have G:=Kr.cell;by_cases hlt:j<M
 .have a7:(j:Int)<2^N:=by rw[g0.out];omega
  have a9:=c9.out j hlt;have z:lP l N (j+1)=(lP l N j).set (dG j) (max ((lP l N j).getD (dG j) 0) ((CB l (j:Int)).length:Int)):=rfl;have K:=OZ l N j aA;have f0:=UD l (j:Int) aA aA;have hk:=YY l N (dG j) a9 j;have F:=EA l N j;have e4:(dG j:Int)<(N:Int)+1:=aA;have Y:=aT (fun W=>iE j W aA);have D:=d0.out wr.drew j hlt (hv.below Br.drew aU);obtain⟨T,hT⟩:=aW (CB l (j:Int));rw[<-hT]at z f0 D;obtain⟨L,hL⟩:=aW (lP l N j);rw[<-hL]at z K hk F ho;obtain⟨k,O⟩:=aW (dG j);rw[<-O]at z hk a9 e4;simp only[<-O]at Y;rw[bR,cG hk,Option.getD_some]at z;have f4:=K _ (aX hk);obtain⟨y,hy⟩:=aW (L[k]);have g2:=aT z;have Z:=aT D;have c0:=ho.cellAt F.symm k hk;rw[<-hy]at c0 f4;have HY:=aT hy;clear z D hT hL O K hy;have Kd:bK wr.drew w.heap.size 29 #[(N:Int),aD a l c]:=Kr;have od:=ho.drewN 1;have j6:∀(p:Option Addr) (i q:Nat) (W:World),(Instr.field 29 (aM #[(N:Int),aD p i q]) 1).run prog W=.ok (aD p i q) W:=fun _ _ _ _=>rfl;have Gd:=Kd.cell;go_wp2_with fail;go_region_law
   (go_simp;first|(go_at_call 84;refine aV (Y.out _) ?_;rintro w' rfl)|(go_at_call 103;refine Z.out.mono ?_;rintro e w5 ⟨p5,i5,q5,rfl,o5,b5⟩;have e6:i5=T.length:=o5.ints.capLe.1;subst e6;have o6:=od.keep b5;have c6:=o6.cellAt F.symm k hk;rw[<-HY.out]at c6;have f6:=o6.frozenAt F.symm k))
  all_goals
   have st:=o6.stored F.symm k (max y (T.length:Int)) ⟨aA,aA⟩;exact ajG
 .have a7:¬(j:Int)<2^N:=by rw[g0.out];omega
  have a6:j=M:=aA;have HJ:=aT a6;clear a6;go_wp2;go_ret;exact⟨_,_,_,rfl,by rw[HX.out,<-HJ.out];exact ho.ints,Br⟩
theorem anY(s r:Int)(w:World)(J:0<=s/\s<64)(hr:0<=r/\r<64):
  Calls prog 156 #[s,r] w fun e w'=>e=aQ (E2 s r)/\w=w':=by
 have hA:=fV J.1 (show s<4611686018427387904 from aA) hr.1 (show r<4611686018427387904 from aA);have D:=mW s r 64 J.1 J.2;have z:=Y9 J hr;have Y:=anZ J hr;have K:E2 s r=max (eO (cU s r)-eO (dQ s r)) (-(eO (cU s r)-eO (dQ s r))):=rfl;rw[<-Y]at K z;obtain⟨A,O⟩:=aW (cU s r);rw[<-O]at hA D z K;have M:=aT (fun W=>tT A W D.1 aA);have N:=aT (fun W=>tT s W J.1 aA);obtain⟨p,hp⟩:=aW (eO A);obtain⟨q,hq⟩:=aW (eO s);simp only[<-hp]at M z K;simp only[<-hq]at N z K;have R:fN s 0 1023=true:=eW.2 ⟨J.1,aA⟩;have S:fN r 0 1023=true:=eW.2 ⟨hr.1,aA⟩;have F:=fun W=>eH s 0 1023 W;have I:=fun W=>eH r 0 1023 W;simp only[R]at F;simp only[S]at I;have Z:=aT F;have a1:=aT I;have b0:IntKind.i64.wrap (2*p)=2*p:=dV;have b1:IntKind.i64.wrap (2*p-q)=2*p-q:=dV;have b3:IntKind.i64.wrap (-(2*p-q))=-(2*p-q):=dV;have HX:=aT K;clear K O hp hq D Y R S F I;go_enter func156,ntmps156;go_wp2_with (first
  |(go_at_call 77;first|(with_reducible refine aV (Z.out _) ?_;rintro w' rfl)|(with_reducible refine aV (a1.out _) ?_;rintro w' rfl))
  |(go_at_call 84;first|(with_reducible refine aV (M.out _) ?_;rintro w' rfl)|(with_reducible refine aV (N.out _) ?_;rintro w' rfl)))
 go_ret;exact⟨jK (by rw[HX.out];try omega),rfl⟩
theorem ahQ(N:Nat)(l:aI)(v:Value)(r:Int)(w:World)(hv:Ints w v l)(hf:cO (N:Int) l=true)(hr:0<=r/\r<2^N):
  aH 105 #[aM #[(N:Int),v],r] w (zA l r):=by
 have c5:=hv;obtain⟨a,b,f7,c,rfl,e5,S,hc,hb⟩:=hv.vw;have hm:=fS hf;obtain⟨h0,h6,b8,b9⟩:=fF hf;have hN:N<=6:=aA;have hp:=dW N 6 hN;have f5:=hp.1;have f6:=hp.2;have I:((2:Int)^N)=((2^N:Nat):Int):=bF;have b5:(2:Nat)^N<=2^6:=bQ bZ hN;have D:0<=r/\r<64:=aA;have O:=NH l r hm D;have K0:=bK.new w 29 #[(N:Int),aD a l c];have R:fN r 0 (2^N-1)=true:=eW.2 ⟨hr.1,aA⟩;have K:=fun W=>eH r 0 (2^N-1) W;simp only[R]at K;have J:=eA (N:Int) l _ _ (c5.alloc (.cells #[(N:Int),aD a l c] 29));rw[hf]at J;have b4:=aT K;have a9:=aT (fun W=>fZ N W aA);have a8:=aT J;have HC:=aT hc;have b3:=aT S;have HM:=aT hm;have a7:=aT O;have HR:=aT D;clear hc S hm O K J hf R b8 b9 hp I b5 D;go_enter func105,ntmps105;go_wp2_with fail;refine aV a8.out ?_;intro w1 b1;have B1:Below w w w1:=(cQ _ _).after b1 bF;have G:=(K0.keep b1).cell;go_wp2_with (first|(go_at_call 78;refine aV (a9.out _) ?_;rintro w' rfl)|(go_at_call 77;refine aV (b4.out _) ?_;rintro w' rfl));go_loop [5,6] (fun mv iv=>∃j:Nat,j<=l/\iv=aO j/\mv=aO (wR l r j)) (fun _ iv=>l.length-(intOf iv).toNat)
 .exact⟨0,aZ _,rfl,rfl⟩
 obtain⟨j,hj,rfl,rfl⟩:=hrel;have b6:=a7.out j;by_cases hlt:j<l
 .have Z:(j:Int)<(l.length:Int):=aA;have ck:=bY HC.out hb B1 aU j hlt;have ik:=fun W=>b3.out W j hlt;have F:=fun W=>anY l[j] r W (HM.out _ (aX hlt)) HR.out;have hs:wR l r (j+1)=max (wR l r j) (E2 l[j] r):=by rw[wR,cJ l j hlt]
  obtain⟨y,hy⟩:=aW (l[j]);rw[<-hy]at ck hs;simp only[<-hy]at F;obtain⟨z,hz⟩:=aW (E2 y r);rw[<-hz]at hs;simp only[<-hz]at F;obtain⟨M,hM⟩:=aW (wR l r j);rw[<-hM]at hs b6 |-;have HS:=aT hs;have b0:=aT F;clear hy hz hM hs F;go_wp2_with (go_at_call 156;refine aV (b0.out _) ?_;rintro w' rfl);go_round
  .exact⟨j+1,aA,cD,by rw[HS.out];try omega⟩
  exact aY
 .have Z:¬(j:Int)<(l.length:Int):=aA;have Y:j=l.length:=aA;have HJ:=aT Y;clear Y;go_wp2;go_ret;exact⟨jK (by unfold zA;rw[<-HJ.out]),B1⟩
theorem aeS(r:Nat):mN l (r+1)=if zA l ((r+1:Nat):Int)<(mN l r).2 then (((r+1:Nat):Int),zA l ((r+1:Nat):Int)) else mN l r:=rfl
theorem akF{p:Prop}(h:p:=by
  clear F I hD;go_wp2_with fail;refine aV c8.out ?_;intro w2 b2;have B2:=B.after b2 B.size;have K2:=K.keep b2;go_wp2;go_roundw
  .exact⟨r+1,aA,cD,by rw[R.out],by rw[R.out],K2,B2⟩
  exact aY):p:=h
theorem XL(g:Int)(l:aI)(v:Value)(w:World)(hv:Ints w v l)(Y:cO g l=true):
  aH 57 #[aM #[g,v]] w (aS #[(D3 g l),(BZ g l),aG true]):=by
 obtain⟨a,c,rfl⟩:=hv.shape;have hm:=fS Y;obtain⟨h0,h6,e8,e9⟩:=fF Y;obtain⟨N,rfl⟩:=cN h0;have hN:N<=6:=aA;have a1:D3 (N:Int) l=(mN l (2^N-1)).1:=by unfold D3;rw[Y,cA];rfl
 have a6:BZ (N:Int) l=(mN l (2^N-1)).2:=by unfold BZ;rw[Y,cA];rfl
 have a8:=SI l hm;have I:=fun(W:World) (r:Int) (h:Ints W (aD a l c) l) (hr:0<=r/\r<2^N)=>ahQ N l _ r W h Y hr;have e0:(2:Nat)^N<=2^6:=bQ bZ hN;have e7:=dJ N;have J:((2:Int)^N)=((2^N:Nat):Int):=bF;have hp:=dW N 6 hN;have g5:=hp.1;have g6:=hp.2;have g8:IntKind.i64.wrap ((2:Int)^N)=2^N:=dV;have z:mN l 0=(0,zA l 0):=rfl;obtain⟨M,hM⟩:=aW (2^N-1);have a7:((2:Int)^N)=(M:Int)+1:=by rw[J,hM];omega
 have f6:M<64:=aA;rw[<-hM]at a1 a6;have K0:=bK.new w 29 #[(N:Int),aD a l c];have HR:=aT (And.intro a1 a6);have b9:=aT a8;have c7:=aT I;have O:=aT a7;have Z:=eA (N:Int) l _ _ (hv.alloc (.cells #[(N:Int),aD a l c] 29));rw[Y]at Z;have c5:=aT Z;obtain⟨W0,S⟩:=aW (zA l 0);have b4:∀W,Ints W (aD a l c) l->Calls prog 105 #[aM #[(N:Int),aD a l c],aK] W fun e w'=>e=.returned W0/\Below W W w':=fun W h=>by rw[S];exact I W 0 h aA
 rw[<-S]at z;have HW:=aT b4;have HS:=aT z;clear a1 a6 a8 I e0 e7 J hM hm Y b4 z S Z e8 e9 hp a7;go_enter func57,ntmps57;go_wp2_with fail;refine aV c5.out ?_;intro w1 b1;have B1:Below w w w1:=(cQ _ _).after b1 bF;have K1:=K0.keep b1;have G:=K1.cell;go_wp2_with fail;refine aV (HW.out w1 (hv.below B1 aU)) ?_;intro w2 b2;have B2:=B1.after b2 B1.size;have K2:=K1.keep b2;clear G K0 b1 K1 B1 b2;go_wp2_with fail;go_loopw [5,6,7] (fun bv mv iv wr=>∃(r:Nat),r<=M/\iv=aO ((r:Int)+1)/\bv=aO (mN l r).1/\mv=aO (mN l r).2/\bK wr w 29 #[(N:Int),aD a l c]/\Below w w wr) (fun _ _ iv _=>M+1-(intOf iv).toNat)
 .exact⟨0,aZ _,rfl,by rw[HS.out],by rw[HS.out],K2,B2⟩
 obtain⟨r,hr,rfl,rfl,rfl,K,B⟩:=hrel;clear K2 B2;have e5:=b9.out r aA;have F:=aeS l r;have a9:((r+1:Nat):Int)=(r:Int)+1:=aA;rw[a9]at F;obtain⟨C,hC⟩:=aW (mN l r);rw[<-hC]at e5 F |-;have HC:=aT hC;have G:=K.cell;clear hC a9;by_cases hlt:r<M
 .have b0:(r:Int)+1<2^N:=by rw[O.out];omega
  have I:=c7.out wr ((r:Int)+1) (hv.below B aU) (by rw[O.out];omega);obtain⟨D,hD⟩:=aW (zA l ((r:Int)+1));rw[<-hD]at I F;have c8:=aT I;have g7:IntKind.i64.wrap ((r:Int)+1+1)=(r:Int)+1+1:=dV;by_cases hd:D<C.2
  .rw[if_pos hd]at F;have R:=aT F;exact akF
  .rw[if_neg hd]at F;have R:=aT F;exact akF
 .have b0:¬(r:Int)+1<2^N:=by rw[O.out];omega
  have b3:r=M:=aA;have c6:=aT b3;clear b3 F;go_wp2;go_ret3;exact⟨by rw[HR.out.1,HR.out.2,<-c6.out,HC.out];rfl,B⟩
theorem ZT{p:Prop}(h:p:=by
  go_wp2_with fail;refine aV K.out ?_;intro w1 S;have N:Below w w w1:=(cQ _ _).after S bF;have G:=(R.keep S).cell;go_wp2_with fail;refine aV (M.out w1 (I.below N aU)) ?_;intro Y b2;go_wp2;go_ret;exact⟨cP O.out.symm,N.after b2 N.size⟩):p:=h
theorem ag5(g:Int)(l:aI)(v:Value)(w:World)(I:Ints w v l)(D:cO g l=true):
  aH 61 #[aM #[g,v]] w (aG (uT g l)):=by
 obtain⟨a,c,rfl⟩:=I.shape;have R:=bK.new w 29 #[g,aD a l c];have z:=eA g l _ _ (I.alloc (.cells #[g,aD a l c] 29));rw[D]at z;have J:uT g l=xG l:=by unfold uT;rw[D,ag6 (fS D)];rfl
 have F:=fun W (h:Ints W (aD a l c) l)=>N9 l _ W h (fS D) (kZ D);have O:=aT J;have K:=aT z;have M:=aT F;clear J z F D;go_enter func61,ntmps61;exact ZT
theorem an7(g:Int)(l:aI)(v:Value)(w:World)(I:Ints w v l)(D:cO g l=true):
  aH 58 #[aM #[g,v]] w (aG (xS g l)):=by
 obtain⟨a,c,rfl⟩:=I.shape;have R:=bK.new w 29 #[g,aD a l c];have z:=eA g l _ _ (I.alloc (.cells #[g,aD a l c] 29));rw[D]at z;have J:xS g l=ZN l:=by
  first
   |(unfold xS;rw[D,ZO (fS D)];rfl)
   |(unfold qQ;rw[D,QK];rfl)
 have F:=fun W (h:Ints W (aD a l c) l)=>S5 l _ W h (fS D);have O:=aT J;have K:=aT z;have M:=aT F;clear J z F D;go_enter func58,ntmps58;exact ZT
theorem afD(g:Int)(l:aI)(v:Value)(w:World)(I:Ints w v l)(D:cO g l=true):
  aH 60 #[aM #[g,v]] w (aG (qQ g l)):=by
 obtain⟨a,c,rfl⟩:=I.shape;have R:=bK.new w 29 #[g,aD a l c];have z:=eA g l _ _ (I.alloc (.cells #[g,aD a l c] 29));rw[D]at z;have J:qQ g l=RA l:=by
  first
   |(unfold xS;rw[D,ZO (fS D)];rfl)
   |(unfold qQ;rw[D,QK];rfl)
 have F:=fun W (h:Ints W (aD a l c) l)=>ZJ l _ W h (fS D);have O:=aT J;have K:=aT z;have M:=aT F;clear J z F D;go_enter func60,ntmps60;exact ZT
theorem DZ(a:Int)(e:Nat)(h:0<=a/\a<64):bits BinOp.and IntKind.i64 (a/2^e) 1=fE a e/\(fE a e==0)=!eI a.toNat e/\(fE a e==1)=eI a.toNat e:=by
 have h1:=rP a.toNat e;rw[show((a.toNat:Nat):Int)=a from aA]at h1;refine⟨lL a e h.1 aA,?_,h1⟩;rw[<-h1];have:fE a e=0\/fE a e=1:=by unfold fE;omega
 rcases this with h|h<;>rw[h]<;>rfl
theorem TU(e:Nat)(h:e<6):0<(2:Int)^e/\(2:Int)^e<64:=by
 rcases(show e=0\/e=1\/e=2\/e=3\/e=4\/e=5 from aA) with rfl|rfl|rfl|rfl|rfl|rfl<;>decide
theorem ajV{p:Prop}(h:p:=by
  have M:=aT K;clear K D;go_wp2_with fail;go_quiet ((go_at_call 110;first|exact tE (rX l _ _ _ (j2.drewN _)) O|exact vM (rX l _ _ _ (j2.drewN _)) O));go_wp2;go_roundw
  .exact⟨d+1,aA,cD,by rw[M.out],Bd.drewN' _,Kd.drewN _⟩
  exact aY):p:=h
theorem akH{p:Prop}(h:p:=by
  have K:dP (fun e=>DO a b e||sB (yV l a b e) N) (e+1)=true:=by rw[D.out.1,D.out.2];rfl
  have HS:=aT K;clear K;go_wp2;go_roundw
  .exact⟨e+1,aA,cD,HS.out,Be,Ke⟩
  exact aY):p:=h
theorem ZD(N:Nat)(v:Value)(l:aI)(hv:Ints w v l)(hf:cO (N:Int) l=true):
  Calls prog 63 #[aM #[(N:Int),v]] w fun r w'=>r=aQ (aG (BT (N:Int) l))/\Below w w w':=by
 have e5:=hv;obtain⟨p,bb,p5,c,rfl,i6,h8,hc,hb⟩:=hv.vw;have hm:=fF hf;have hl:=kZ hf;obtain⟨h0,h6,e4,k7⟩:=fF hf;have hN:N<=6:=aA;have f4:=dW N 6 hN;have k6:=f4.1;have o7:=f4.2;simp at k6;have K1:=bK.new w 29 #[(N:Int),aD p l c];have f3:=fun(W:World) (h:Ints W (aD p l c) l)=>eA (N:Int) l _ W h;simp only[hf]at f3;have hx:BT (N:Int) l=(!l.isEmpty&&l.all fun a=>l.all (sH l a)):=by unfold BT;rw[hf,Bool.true_and]
 have h5:∀a b,a∈l->b∈l->sH l a b=exS N l a b:=fun a b ha hb=>by have h1:=e4 a ha;have h2:=e4 b hb;have e:((N:Int)).toNat=N:=cA N;exact aqQ N hN l a b (by simpa[e]using h1) (by simpa[e]using h2)
 have e9:=aT f3;have HX:=aT hx;have j7:=aT h5;have HQ:=aT e4;have HC:=aT hc;have g2:=aT h8;clear f3 hx h5 e4 k7 hm hf hc h8 f4 i6;go_enter func63,ntmps63;go_wp2_with fail;go_loopw [3] (fun iv wr=>∃j:Nat,j<=l/\iv=aO j/\(l.take j).all (fun a=>l.all (sH l a))=true/\Below w w wr/\bK wr w 29 #[(N:Int),aD p l c]) (fun iv _=>l.length-(intOf iv).toNat)
 .exact⟨0,aZ _,rfl,bF,cQ _ _,K1⟩
 obtain⟨j,hj,rfl,F,Bw,Kw⟩:=hrel;have e6:=aT F;clear F;have G:=Kw.cell;by_cases hlt:j<l
 .have i8:(j:Int)<(l.length:Int):=aA;go_wp2_with fail;refine aV (e9.out wr (e5.below Bw aU)) ?_;intro w3 b3;have B3:=Bw.after b3 Bw.size;have K3:=Kw.keep b3;have hB:=B3.size;clear G;have G:=K3.cell;go_wp2_with fail;have Z:(l.take (j+1)).all (fun a=>l.all (sH l a))=l.all (sH l l[j]):=by rw[cH hlt,List.all_append,e6.out];simp
  have b4:=aX hlt;obtain⟨a,f0⟩:=aW (l[j]);rw[<-f0]at Z b4;have k0:=aT Z;have a7:=aT b4;have j6:=aT f0;clear Z b4 f0 G;go_loopw [4] (fun iv wq=>∃k:Nat,k<=l/\iv=aO k/\(l.take k).all (sH l a)=true/\Below w w wq/\bK wq w 29 #[(N:Int),aD p l c]) (fun iv _=>l.length-(intOf iv).toNat)
  .exact⟨0,aZ _,rfl,bF,B3,K3⟩
  obtain⟨k,hk,rfl,F,Bk,Kk⟩:=hrel;obtain⟨wk,rfl⟩:∃wk:World,wk=wr:=⟨_,rfl⟩;have a1:=aT F;clear F B3 K3 hB;have G:=Kk.cell;by_cases e0:k<l
  .have i7:(k:Int)<(l.length:Int):=aA;have g8:=bY HC.out hb Bk aU j hlt;have g9:=bY HC.out hb Bk aU k e0;rw[<-j6.out]at g8;have k9:=fun W=>g2.out W j hlt;have l0:=fun W=>g2.out W k e0;obtain⟨b,d0⟩:=aW (l[k]);have j0:=HQ.out a a7.out;have b1:=aX e0;rw[<-d0]at g9 b1;have j1:=HQ.out b b1;have b6:=j7.out a b a7.out b1;have Z:(l.take (k+1)).all (sH l a)=sH l a b:=by rw[cH e0,List.all_append,a1.out,d0];simp
   have R:0<=a/\a<64:=by rw[cA]at j0;omega
   have S:0<=b/\b<64:=by rw[cA]at j1;omega
   have g4:=aT Z;have a8:=aT b6;have j9:=aT b1;have m9:=aT d0;clear Z b6 b1 d0 j0 j1;go_wp2_with fail;clear g8 g9 k9 l0 G;have o1:=R.1;have o2:=R.2;have o3:=S.1;have o4:=S.2;have c7:=aT (And.intro R S);clear R S;go_loopw [7] (fun iv wq=>∃e:Nat,e<=N/\iv=aO e/\dP (fun e=>DO a b e||sB (yV l a b e) N) e=true/\Below w w wq/\bK wq w 29 #[(N:Int),aD p l c]) (fun iv _=>N-(intOf iv).toNat)
   .exact⟨0,aZ _,rfl,rfl,Bk,Kk⟩
   obtain⟨e,he,rfl,F,Be,Ke⟩:=hrel;obtain⟨we,rfl⟩:∃we:World,we=wr:=⟨_,rfl⟩;have a6:=aT F;clear F Bk Kk;have G:=Ke.cell;by_cases o6:e<N
   .have i1:(e:Int)<(N:Int):=aA;have k5:e<6:=aA;obtain⟨c8,I,a9⟩:=DZ a e c7.out.1;obtain⟨c9,b0,Y⟩:=DZ b e c7.out.2;have z:dP (fun e=>DO a b e||sB (yV l a b e) N) (e+1)=(DO a b e||sB (yV l a b e) N):=by rw[dP,a6.out,Bool.true_and]
    have J:DO a b e=(!eI a.toNat e||eI b.toNat e):=rfl;obtain⟨za,b9⟩:=aW (eI a.toNat e);obtain⟨zb,c5⟩:=aW (eI b.toNat e);rw[<-b9]at I a9 J;rw[<-c5]at b0 Y J;obtain⟨ya,b7⟩:=aW (fE a e);obtain⟨yb,b8⟩:=aW (fE b e);rw[<-b7]at c8 I a9;rw[<-b8]at c9 b0 Y;have D:=aT (And.intro z J);clear b9 c5 b7 b8 z J a9 b0
    cases za with
    |false=>simp only[Bool.not_false]at I;exact akH
    |true=>
     simp only[Bool.not_true]at I
     cases zb with
     |true=>exact akH
     |false=>
      have K:dP (fun e=>DO a b e||sB (yV l a b e) N) (e+1)=sB (yV l a b e) N:=by rw[D.out.1,D.out.2];rfl
      have HS:=aT K;clear K D;go_wp2_with fail;clear c8 I c9 Y G;go_loopw [9,8] (fun dv fv wq=>∃d:Nat,d<=N/\dv=aO d/\fv=aG (sB (yV l a b e) d)/\Below w w wq/\bK wq w 29 #[(N:Int),aD p l c]) (fun dv _ _=>N-(intOf dv).toNat)
      .exact⟨0,aZ _,rfl,rfl,Be,Ke⟩
      obtain⟨d,hd,rfl,rfl,Bd,Kd⟩:=hrel;obtain⟨wd,rfl⟩:∃wd:World,wd=wr:=⟨_,rfl⟩;clear Be Ke;have G:=Kd.cell;have j2:=e5.below Bd aU;by_cases o5:d<N
      .have h9:(d:Int)<(N:Int):=aA;have k3:d<6:=aA;obtain⟨c8,I,a9⟩:=DZ a d c7.out.1;obtain⟨c9,b0,Y⟩:=DZ b d c7.out.2;have z:sB (yV l a b e) (d+1)=(sB (yV l a b e) d||(eI b.toNat d&&(!eI a.toNat d&&jI l (a-2^e+2^d)))):=rfl;obtain⟨za,b9⟩:=aW (eI a.toNat d);obtain⟨zb,c5⟩:=aW (eI b.toNat d);rw[<-b9]at I z;rw[<-c5]at Y z;obtain⟨ya,b7⟩:=aW (fE a d);obtain⟨yb,b8⟩:=aW (fE b d);rw[<-b7]at c8 I;rw[<-b8]at c9 Y;obtain⟨q,hq⟩:=aW (sB (yV l a b e) d);rw[<-hq]at z |-;have D:=aT z;clear b9 c5 b7 b8 z a9 b0 hq
       cases zb with
       |false=>
        have K:sB (yV l a b e) (d+1)=q:=by rw[D.out];simp
        have M:=aT K;clear K D;go_wp2_with fail;go_quiet (fail);go_wp2;go_roundw
        .exact⟨d+1,aA,cD,by rw[M.out],Bd.drewN' _,Kd.drewN _⟩
        exact aY
       |true=>
        cases za with
        |true=>
         have K:sB (yV l a b e) (d+1)=q:=by rw[D.out];simp
         have M:=aT K;clear K D;simp only[Bool.not_true]at I;go_wp2_with fail;go_quiet (fail);go_wp2;go_roundw
         .exact⟨d+1,aA,cD,by rw[M.out],Bd.drewN' _,Kd.drewN _⟩
         exact aY
        |false=>
         simp only[Bool.not_false]at I;have pe:=TU e k5;have pd:=TU d k3;have p8:=pe.1;have p9:=pe.2;have p6:=pd.1;have p7:=pd.2;have o8:IntKind.i64.wrap (a-2^e)=a-2^e:=dV;have o9:IntKind.i64.wrap (a-2^e+2^d)=a-2^e+2^d:=dV;clear pe pd
         cases O:jI l (a-2^e+2^d) with
         |false=>
          have K:sB (yV l a b e) (d+1)=q:=by rw[D.out,O];simp
          exact ajV
         |true=>
          have K:sB (yV l a b e) (d+1)=true:=by rw[D.out,O];simp
          exact ajV
      .have h9:¬(d:Int)<(N:Int):=aA;have k4:d=N:=aA;subst k4;obtain⟨q,hq⟩:=aW (sB (yV l a b e) d);have K:=HS.out;rw[<-hq]at K |-;have M:=aT K;have n0:=aT hq;clear K hq HS
       cases q with
       |true=>
        go_wp2;go_roundw
        .exact⟨e+1,aA,cD,M.out,Bd,Kd⟩
        exact aY
       |false=>
        go_wp2;go_ret;refine⟨cP ?_,Bd⟩;rw[HX.out];have k8:sH l a b=false:=by
         rw[a8.out]
         cases hc:exS d l a b with
         |false=>rfl
         |true=>
          unfold exS at hc;have h1:=gD.1 hc;have h2:dP (fun e=>DO a b e||sB (yV l a b e) d) (e+1)=true:=gD.2 (fun i hi=>h1 i aA);rw[M.out]at h2
          cases h2
        have h1:l.all (fun a=>l.all (sH l a))=false:=by
         cases hc:l.all (fun a=>l.all (sH l a)) with
         |false=>rfl
         |true=>
          have:=List.all_eq_true.1 (List.all_eq_true.1 hc a a7.out) b j9.out;rw[k8]at this
          cases this
        rw[h1,Bool.and_false]
   .have i1:¬(e:Int)<(N:Int):=aA;have f2:e=N:=aA;have O:sH l a b=true:=by rw[a8.out];unfold exS;rw[<-f2];simpa[f2]using a6.out
    have HH:=aT O;clear O f2;go_wp2;go_roundw
    .exact⟨k+1,aA,cD,by rw[g4.out,HH.out],Be,Ke⟩
    exact aY
  .have i7:¬(k:Int)<(l.length:Int):=aA;have O:=a1.out;rw[List.take_of_length_le aA]at O;have HH:=aT O;clear O;go_wp2;go_roundw
   .exact⟨j+1,aA,cD,by rw[k0.out,HH.out],Bk,Kk⟩
   exact aY
 .have i8:¬(j:Int)<(l.length:Int):=aA;have O:=e6.out;rw[List.take_of_length_le aA]at O;have HH:=aT O;clear O;go_wp2_with fail;refine aV (e9.out wr (e5.below Bw aU)) ?_;intro w3 b3;have B3:=Bw.after b3 Bw.size;have K3:=Kw.keep b3;clear G;have G:=K3.cell;go_wp2_with fail;refine aV (e9.out w3 (e5.below B3 aU)) ?_;intro w5 b5;have B5:=B3.after b5 B3.size;have K5:=K3.keep b5;clear G;have G:=K5.cell;have h7:(decide ((0:Int)<(l.length:Int)))=!l.isEmpty:=by cases l with|nil=>rfl|cons x t=>simp
  have j8:=aT h7;clear h7;go_wp2;go_ret;exact⟨cP (by rw[HX.out,HH.out,Bool.and_true,<-j8.out];simp),B5⟩
