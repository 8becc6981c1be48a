/- Lemmas for CardConsoleResults. No condition. -/
import Derived.Test.YtkdbkjjacgigiaaGreatDoorQ40
import Derived.Test.YtkdbkjjacgigiaaGreatDoorQ42
set_option maxRecDepth 100000
set_option maxHeartbeats 64000000
namespace Go.Proofs.YtkdbkjjacgigiaaGreatDoor
section
open Go.RowKit Go.G5 Go.Proofs.Tryz
theorem afX(w:World)(g:Int)(v:Value)(l:List Int)(hv:aK w v l)(hl:l.length<=1048576):
  Calls prog 16 #[.agg #[g,v]] w fun e w'=>e=.returned (.string (vO g l))/\Below w w w':=by
 have K:=hv;obtain⟨a,c,rfl⟩:=hv.shape;have K0:=aP.new w 29 #[g,aA a l.length c]
 cases J:aU g l with
 |false=>have HX:=aH (P1 J);have HF:=aH J;clear J;go_enter func16,ntmps16;go_wp2_with fail;refine(cK g l _ _ (K.alloc _)).mono ?_;rintro e w1 ⟨rfl,b1⟩;rw[HF.out];go_wp2;go_ret;exact⟨bJ HX.out.symm,(bF _ _).after b1 (by simp)⟩
 |true=>
  have s8:=PT g l;have s9:=(MA g l).1;have t7:=QA g l;have r9:=UU g l;have hx:vO g l=fmT g l:=DW J;unfold fmT zT wP at hx;obtain⟨N,hN⟩:∃N:Nat,g=(N:Int):=Int.eq_ofNat_of_zero_le (dB J).1;have k9:∀(W:World),aK W (aA a l.length c) l->Calls prog 55 #[.agg #[g,aA a l.length c]] W fun e w'=>∃ad i c,e=.returned (aA ad i c)/\aK w' (aA ad i c) (nK g l)/\Below W W w':=by intro W h;subst hN;exact ZY W N _ l h J
  have k6:∀(W:World),aK W (aA a l.length c) l->Calls prog 63 #[.agg #[g,aA a l.length c]] W fun e w'=>e=.returned (.bool (yO g l))/\Below W W w':=by intro W h;subst hN;exact WH W N _ l h J
  have a9:=fun(W:World) (h:aK W (aA a l.length c) l)=>NA W g _ l h hl;have k7:=fun(W:World) (h:aK W (aA a l.length c) l)=>UJ g l _ W h J;have k8:=fun(W:World) (h:aK W (aA a l.length c) l)=>akX W g _ l h J;have l0:=fun(W:World) (h:aK W (aA a l.length c) l)=>alT g l _ W h J;simp only[J]at a9;obtain⟨M,hM⟩:=aJ (gS g l);obtain⟨L,hL⟩:=aJ (lD g l);simp only[<-hM,<-hL]at a9 hx;have s1:=fG g l;have s2:=fG M L;have s3:=cM (tT g l) ⟨by omega,by omega⟩;have s4:=KW g l;have s5:=cM (tU g l) ⟨by omega,by omega⟩;have s6:=cM (yR g l) ⟨by omega,by omega⟩;have s7:=fA g (BK g l);have q1:=fun(W:World) (h:aK W (aA a l.length c) l)=>nG g l _ W h;have q2:=fun(W:World) (v:Value) (h:aK W v L)=>nG M L v W h;have q3:=fun(W:World)=>fS (tT g l) ⟨by omega,by omega⟩ W;have q4:=fun(W:World) (v:Value) (h:aK W v (nK g l))=>wV (nK g l) v W h aD;have q5:=fun(W:World)=>fS (tU g l) ⟨by omega,by omega⟩ W;have q6:=fun(W:World)=>fS (yR g l) ⟨by omega,by omega⟩ W;have q7:=fun(W:World)=>nH g (BK g l) W;obtain⟨F1,e9⟩:=aJ (bZ g l);obtain⟨F2,f0⟩:=aJ (bZ M L);obtain⟨F3,f2⟩:=aJ (aX (tT g l));obtain⟨F4,f3⟩:=aJ (eR (nK g l));obtain⟨F5,f4⟩:=aJ (aX (tU g l));obtain⟨F6,f5⟩:=aJ (aX (yR g l));obtain⟨F7,f6⟩:=aJ (bG g (BK g l));simp only[<-e9]at q1 s1;simp only[<-f0]at q2 s2;simp only[<-f2]at q3 s3;simp only[<-f3]at q4 s4;simp only[<-f4]at q5 s5;simp only[<-f5]at q6 s6;simp only[<-f6]at q7 s7;rw[<-e9,<-f0,<-f2,<-f3,<-f4,<-f5,<-f6]at hx;have h9:=aH q1;have i6:=aH q2;have i7:=aH q3;have i8:=aH q4;have j0:=aH q5;have d0:=aH q6;have e6:=aH q7;have g9:=aH a9;have c8:=aH k7;have h6:=aH k8;have h8:=aH l0;have c7:=aH k6;have h7:=aH k9;have HX:=aH hx;have HF:=aH J;clear hx J a9 k7 k8 l0 k6 k9 hM hL hN e9 f0 f2 f3 f4 f5 f6 q1 q2 q3 q4 q5 q6 q7;go_enter func16,ntmps16;go_wp2_with fail;refine(cK g l _ _ (K.alloc _)).mono ?_;rintro e w1 ⟨rfl,b1⟩;rw[HF.out];have B1:Below w w w1:=(bF _ _).after b1 (by simp);have K1:=K0.keep b1;clear K0 b1;have G:=K1.cell;go_wp2_with fail;refine(g9.out _ (K.below B1 aI)).mono ?_;rintro e w2 ⟨pB,iB,qB,rfl,oB,b2⟩;have t6:iB=L.length:=oB.ints.capLe.1;subst t6;have B2:=B1.after b2 B1.size;have K2:=K1.keep b2;clear G B1 K1 b2;have KB:=aP.new w2 29 #[M,aA pB L.length qB];have hB:=oB.ints.alloc (.cells #[M,aA pB L.length qB] 29);have B3:=B2.alloc B2.size (.cells #[M,aA pB L.length qB] 29);have K3:=K2.alloc (.cells #[M,aA pB L.length qB] 29);have hA:=K.below B3 aI;clear oB B2 K2;go_upto_region 4 with fail;obtain⟨w3,l1⟩:=aJ (w2.alloc (.cells #[M,aA pB L.length qB] 29));rw[<-l1]at KB hB B3 K3 hA ⊢;clear l1;go_cut [5] (fun v wx=>∃X,v=.string X/\X=NR F1 F2 F3 F4 F5/\Below w3 w3 wx)
  case rest=>
   obtain⟨X,rfl,hX,b4⟩:=hcut;have z8:X.size<=20400:=by rw[hX];exact NS F1 F2 F3 F4 F5 s1 s2 s3 s4 s5
   have D:=HX.out;rw[<-hX]at D;have HX:=aH D;have B4:=B3.after b4 B3.size;have K4:=K3.keep b4;clear hX D b4 B3 K3 KB hB hA h9 i6 i7 i8 j0 g9 h6 h8 h7 s1 s2 s3 s4 s5;have G:=K4.cell;go_wp2_with fail;refine(c8.out _ (K.below B4 aI)).mono ?_;rintro e w5 ⟨rfl,b5⟩;have B5:=B4.after b5 B4.size;have K5:=K4.keep b5;clear B4 K4 G b5;have g0:=K5.cell 0;simp only[List.getElem?_toArray,List.getElem?_cons_zero]at g0;have q0:∀y:Ext w5,y.w.cell? ⟨w.heap.size,0,none⟩=some (aG g):=fun y=>y.cell g0;have R6:=aH (fun y:Ext w5=>d0.out y.w);have R7:=aH (fun y:Ext w5=>e6.out y.w);clear g0;go_wp2_with fail;refine bH _ aO aO ?_
   repeat(first|go_big_quiet_skip|(go_big_quiet_want;go_big_quiet_op;first|go_big_quiet_on|(apply Exists.intro;refine⟨fun _=>?_,?_⟩;(first|(go_at_call 8;with_reducible exact bW (R6.out _))|(go_at_call 22;with_reducible exact bW (R7.out _)));go_big_quiet_on)))
   refine wpQuiet_nil ?_;rintro I ⟨⟨I,b6⟩,rfl⟩
   try dsimp only
   have B6:=B5.after b6 B5.size;have K6:=K5.keep b6;have F:=K.below B6 aI;have y8:(⟨#[32,98,121,32]⟩:ByteArray).size=4:=rfl;have z0:(X++F6++(⟨#[32,98,121,32]⟩:ByteArray)++F7).size<=20600:=by simp only[ByteArray.size_append];omega
   have G:=K6.cell;have g0:=G 0;have g1:=G 1;simp only[List.getElem?_toArray,List.getElem?_cons_zero,List.getElem?_cons_succ]at g0 g1;have q0:∀y:Ext I,y.w.cell? ⟨w.heap.size,0,none⟩=some (aG g):=fun y=>y.cell g0;have q1:∀y:Ext I,y.w.cell? ⟨w.heap.size,1,none⟩=some (aA a l.length c):=fun y=>y.cell g1;clear R6 R7 d0 e6 B5 K5 b6 g0 g1 G;obtain⟨Y,hY⟩:=aJ (X++F6++(⟨#[32,98,121,32]⟩:ByteArray)++F7);rw[<-hY]at z0;have D:=HX.out;rw[<-hY]at D;have HX:=aH D;clear D;have Q0:=fun y:Ext I=>alM g l _ y.w (F.keep y.b) HF.out;have Q1:=fun y:Ext I=>PS g l _ y.w (F.keep y.b) HF.out;have Q2:=fun y:Ext I=>ac6 g l _ y.w (F.keep y.b) HF.out;have Q3:=fun y:Ext I=>aeX g l _ y.w (F.keep y.b) HF.out;have Q4:=fun y:Ext I=>Z0 g l _ y.w (F.keep y.b) hl;have Q5:=fun y:Ext I=>c7.out y.w (F.keep y.b);obtain⟨j3,O⟩:=aJ (uU g l);rw[<-O]at Q0;obtain⟨j4,R⟩:=aJ (nA g l);rw[<-R]at Q1;obtain⟨j5,S⟩:=aJ (mH g l);rw[<-S]at Q2;obtain⟨j6,Z⟩:=aJ (rT g l);rw[<-Z]at Q3;obtain⟨j7,a6⟩:=aJ (pW g l);rw[<-a6]at Q4;obtain⟨j8,a7⟩:=aJ (yO g l);rw[<-a7]at Q5;have p8:=aH (And.intro O (And.intro R (And.intro S (And.intro Z (And.intro a6 a7)))));have Q0:=aH Q0;have Q1:=aH Q1;have Q2:=aH Q2;have Q3:=aH Q3;have Q4:=aH Q4;have Q5:=aH Q5;obtain⟨t0,b0⟩:=aJ (iV j3 (⟨#[32,108,97,109,105,110,97,114]⟩:ByteArray));have Y0:=fun y:Ext I=>kL j3 (⟨#[32,108,97,109,105,110,97,114]⟩:ByteArray) y.w;rw[<-b0]at Y0;have Y0:=aH Y0;have z1:t0.size<=14:=by rw[b0];exact Nat.le_trans (dP _ _) aQ
   obtain⟨t1,b3⟩:=aJ (iV j4 (⟨#[32,99,114,111,115,115,102,114,101,101]⟩:ByteArray));have Y1:=fun y:Ext I=>kL j4 (⟨#[32,99,114,111,115,115,102,114,101,101]⟩:ByteArray) y.w;rw[<-b3]at Y1;have Y1:=aH Y1;have z2:t1.size<=14:=by rw[b3];exact Nat.le_trans (dP _ _) aQ
   obtain⟨t2,b8⟩:=aJ (iV j5 (⟨#[32,105,110,116,101,114,115,101,99,116,105,110,103]⟩:ByteArray));have Y2:=fun y:Ext I=>kL j5 (⟨#[32,105,110,116,101,114,115,101,99,116,105,110,103]⟩:ByteArray) y.w;rw[<-b8]at Y2;have Y2:=aH Y2;have z3:t2.size<=14:=by rw[b8];exact Nat.le_trans (dP _ _) aQ
   obtain⟨t3,b9⟩:=aJ (iV j6 (⟨#[32,97,110,116,105,99,104,97,105,110]⟩:ByteArray));have Y3:=fun y:Ext I=>kL j6 (⟨#[32,97,110,116,105,99,104,97,105,110]⟩:ByteArray) y.w;rw[<-b9]at Y3;have Y3:=aH Y3;have z4:t3.size<=14:=by rw[b9];exact Nat.le_trans (dP _ _) aQ
   obtain⟨t4,c5⟩:=aJ (iV j7 (⟨#[32,100,111,119,110]⟩:ByteArray));have Y4:=fun y:Ext I=>kL j7 (⟨#[32,100,111,119,110]⟩:ByteArray) y.w;rw[<-c5]at Y4;have Y4:=aH Y4;have z5:t4.size<=14:=by rw[c5];exact Nat.le_trans (dP _ _) aQ
   obtain⟨t5,c6⟩:=aJ (iV j8 (⟨#[32,98,97,115,101,115]⟩:ByteArray));have Y5:=fun y:Ext I=>kL j8 (⟨#[32,98,97,115,101,115]⟩:ByteArray) y.w;rw[<-c6]at Y5;have Y5:=aH Y5;have z6:t5.size<=14:=by rw[c6];exact Nat.le_trans (dP _ _) aQ
   have p9:=aH (And.intro b0 (And.intro b3 (And.intro b8 (And.intro b9 (And.intro c5 c6)))));clear O R S Z a6 a7 b0 b3 b8 b9 c5 c6 F K6 s9 s8 t7 r9 c8 c7;have s0:(Y++t0).size<=20614:=by simp only[ByteArray.size_append];omega
   have s1:(Y++t0++t1).size<=20628:=by simp only[ByteArray.size_append];omega
   have s2:(Y++t0++t1++t2).size<=20642:=by simp only[ByteArray.size_append];omega
   have s3:(Y++t0++t1++t2++t3).size<=20656:=by simp only[ByteArray.size_append];omega
   have s4:(Y++t0++t1++t2++t3++t4).size<=20670:=by simp only[ByteArray.size_append];omega
   have s5:(Y++t0++t1++t2++t3++t4++t5).size<=20684:=by simp only[ByteArray.size_append];omega
   have HY:=aH hY;rw[<-hY];clear hY;go_wp2_with fail;refine bH _ aO aO ?_
   repeat(first|go_big_quiet_skip|(go_big_quiet_want;go_big_quiet_op;first|go_big_quiet_on|(apply Exists.intro;refine⟨fun _=>?_,?_⟩;(first|(go_at_call 58;with_reducible exact bW (Q0.out _))|(go_at_call 59;with_reducible exact bW (Q1.out _))|(go_at_call 60;with_reducible exact bW (Q2.out _))|(go_at_call 61;with_reducible exact bW (Q3.out _))|(go_at_call 62;with_reducible exact bW (Q4.out _))|(go_at_call 63;with_reducible exact bW (Q5.out _))|(go_at_call 42;first|(with_reducible exact dN (Y0.out _))|(with_reducible exact dN (Y1.out _))|(with_reducible exact dN (Y2.out _))|(with_reducible exact dN (Y3.out _))|(with_reducible exact dN (Y4.out _))|(with_reducible exact dN (Y5.out _))));go_big_quiet_on)))
   refine wpQuiet_nil ?_;rintro w7 ⟨⟨w7,b7⟩,rfl⟩
   try dsimp only
   go_wp2_with fail;go_ret;refine⟨bJ ?_,B6.after b7 B6.size⟩;obtain⟨h0,h1,h2,h3,h4,h5⟩:=p8.out;obtain⟨k0,k1,k2,k3,k4,k5⟩:=p9.out;rw[HX.out,<-h0,<-h1,<-h2,<-h3,<-h4,<-h5,k0,k1,k2,k3,k4,k5]
  case first=>
   have a0:=K3.cell 0;have a1:=K3.cell 1;have a2:=KB.cell 0;have a3:=KB.cell 1;simp only[List.getElem?_toArray,List.getElem?_cons_zero,List.getElem?_cons_succ]at a0 a1 a2 a3;have q0:∀y:Ext w3,y.w.cell? ⟨w.heap.size,0,none⟩=some (aG g):=fun y=>y.cell a0;have q1:∀y:Ext w3,y.w.cell? ⟨w.heap.size,1,none⟩=some (aA a l.length c):=fun y=>y.cell a1;have q2:∀y:Ext w3,y.w.cell? ⟨w2.heap.size,0,none⟩=some (aG M):=fun y=>y.cell a2;have q3:∀y:Ext w3,y.w.cell? ⟨w2.heap.size,1,none⟩=some (aA pB L.length qB):=fun y=>y.cell a3;clear a0 a1 a2 a3 c8 c7 d0 e6;have e0:(⟨#[102,97,109,105,108,121,32]⟩:ByteArray).size=7:=rfl;have e1:(⟨#[32,98,108,111,99,107,101,114,32]⟩:ByteArray).size=9:=rfl;have e2:(⟨#[32,100,105,109,101,110,115,105,111,110,32]⟩:ByteArray).size=11:=rfl;have e3:(⟨#[32,103,114,111,119,116,104,32]⟩:ByteArray).size=8:=rfl;have e4:(⟨#[32,108,121,109,32]⟩:ByteArray).size=5:=rfl;have e5:(⟨#[32,100,105,115,99,114,101,112,97,110,99,121,32]⟩:ByteArray).size=13:=rfl;refine FZ (C:=fun w'=>∃x:Ext w3,w'=x.w) aO aO aO ⟨⟨w3.drew,(Below.refl _ _).drew⟩,rfl⟩ ?_;have bd:Below w3 w3 w3.drew:=(Below.refl _ _).drew
   repeat(refine fV (by rfl) ?_;(first|go_big_quiet_skip|(go_big_quiet_want;go_big_quiet_op;go_big_quiet_on));refine wpQuiet_nil ?_)
   refine gU 9 _ _ rfl (enters_of func9 aO rfl) aO ?_;intro KK z;go_simp;refine(h9.out _ (hA.keep bd)).mono ?_;rintro e x0 ⟨rfl,y0⟩;have y0:=bd.after y0 bd.size;refine⟨_,rfl,?_⟩;go_simp;refine z _ _ ⟨⟨x0,y0⟩,rfl⟩ ?_;clear z KK
   repeat(refine fV (by rfl) ?_;(first|go_big_quiet_skip|(go_big_quiet_want;go_big_quiet_op;go_big_quiet_on));refine wpQuiet_nil ?_)
   refine gU 9 _ _ rfl (enters_of func9 aO rfl) aO ?_;intro KK z;go_simp;refine(i6.out _ _ (hB.keep y0)).mono ?_;rintro e x1 ⟨rfl,y1⟩;have y1:=y0.after y1 y0.size;refine⟨_,rfl,?_⟩;go_simp;refine z _ _ ⟨⟨x1,y1⟩,rfl⟩ ?_;clear z KK
   repeat(refine fV (by rfl) ?_;(first|go_big_quiet_skip|(go_big_quiet_want;go_big_quiet_op;go_big_quiet_on));refine wpQuiet_nil ?_)
   refine gU 54 _ _ rfl (enters_of func54 aO rfl) aO ?_;intro KK z;go_simp;refine(h6.out _ (hA.keep y1)).mono ?_;rintro e x2 ⟨rfl,y2⟩;have y2:=y1.after y2 y1.size;refine⟨_,rfl,?_⟩;go_simp;refine z _ _ ⟨⟨x2,y2⟩,rfl⟩ ?_;clear z KK
   repeat(refine fV (by rfl) ?_;(first|go_big_quiet_skip|(go_big_quiet_want;go_big_quiet_op;go_big_quiet_on));refine wpQuiet_nil ?_)
   refine gU 8 _ _ rfl (enters_of func8 aO rfl) aO ?_;intro KK z;go_simp;refine(i7.out _).mono ?_;rintro e x3 ⟨rfl,y3⟩;have y3:=y2.after y3 y2.size;refine⟨_,rfl,?_⟩;go_simp;refine z _ _ ⟨⟨x3,y3⟩,rfl⟩ ?_;clear z KK
   repeat(refine fV (by rfl) ?_;(first|go_big_quiet_skip|(go_big_quiet_want;go_big_quiet_op;go_big_quiet_on));refine wpQuiet_nil ?_)
   refine gU 55 _ _ rfl (enters_of func55 aO rfl) aO ?_;intro KK z;go_simp;refine(h7.out _ (hA.keep y3)).mono ?_;rintro e x4 ⟨p1,i1,r1,rfl,o1,y4⟩;have y4:=y3.after y4 y3.size;refine⟨_,rfl,?_⟩;go_simp;refine z _ _ ⟨⟨x4,y4⟩,rfl⟩ ?_;clear z KK
   repeat(refine fV (by rfl) ?_;(first|go_big_quiet_skip|(go_big_quiet_want;go_big_quiet_op;go_big_quiet_on));refine wpQuiet_nil ?_)
   refine gU 39 _ _ rfl (enters_of func39 aO rfl) aO ?_;intro KK z;go_simp;refine(i8.out _ _ o1).mono ?_;rintro e x5 ⟨rfl,y5⟩;have y5:=y4.after y5 y4.size;refine⟨_,rfl,?_⟩;go_simp;refine z _ _ ⟨⟨x5,y5⟩,rfl⟩ ?_;clear z KK
   repeat(refine fV (by rfl) ?_;(first|go_big_quiet_skip|(go_big_quiet_want;go_big_quiet_op;go_big_quiet_on));refine wpQuiet_nil ?_)
   refine gU 56 _ _ rfl (enters_of func56 aO rfl) aO ?_;intro KK z;go_simp;refine(h8.out _ (hA.keep y5)).mono ?_;rintro e x6 ⟨rfl,y6⟩;have y6:=y5.after y6 y5.size;refine⟨_,rfl,?_⟩;go_simp;refine z _ _ ⟨⟨x6,y6⟩,rfl⟩ ?_;clear z KK
   repeat(refine fV (by rfl) ?_;(first|go_big_quiet_skip|(go_big_quiet_want;go_big_quiet_op;go_big_quiet_on));refine wpQuiet_nil ?_)
   refine gU 8 _ _ rfl (enters_of func8 aO rfl) aO ?_;intro KK z;go_simp;refine(j0.out _).mono ?_;rintro e x7 ⟨rfl,y7⟩;have y7:=y6.after y7 y6.size;refine⟨_,rfl,?_⟩;go_simp;refine z _ _ ⟨⟨x7,y7⟩,rfl⟩ ?_;clear z KK
   repeat(refine fV (by rfl) ?_;(first|go_big_quiet_skip|(go_big_quiet_want;go_big_quiet_op;go_big_quiet_on));refine wpQuiet_nil ?_)
   refine TC ?_;go_wp2_with fail;go_meet;exact⟨_,rfl,rfl,y7⟩
theorem aqY(s u:Int):DC s u=(!(bB s u != 0)&&!(s==0)):=by
 unfold DC
 cases h1:bB s u==0<;>cases h2:s==0<;>simp_all
theorem aoZ(l:List Int)(j:Nat)(h:j<l.length)(u:Int)(c b:List Int):jT (l.drop j) u c b=if DC l[j] u then jT (l.drop (j+1)) u c (cH b (jT (l.drop (j+1)) (eH u l[j]) (c++[l[j]]) (c++[l[j]]))) else jT (l.drop (j+1)) u c b:=by
 rw[List.drop_eq_getElem_cons h,jT]
theorem ah4{p:Prop}(h:p:=by
  rw[b4]at F;have N:=aH F;clear F b4 J;go_wp2;go_roundw
  case rel=>exact⟨j+1,y,p,_,q,by omega,by omega,by go_num,rfl,ox,a8,N.out.symm,M⟩
  case measure=>simp[intOf];omega):p:=h
theorem Z6(l:List Int)(lv:Value)(hm:∀x∈l,0<=x/\x<64)(hl:l.length<=64):∀(m k:Nat) (u:Int) (D:List Int) (v:Value) (w:World) (B:Nat),k+m=l.length->aK w lv l->aM 3 B w v D->B<=w.heap.size->0<=u->u<64->D.length+m<=64 ->
  Calls prog 111 #[lv,k,u,v] w fun e w'=>∃a i q,e=.returned (aA a i q)/\aM 3 B w' (aA a i q) (jT (l.drop k) u D D)/\Below w w w':=by
 have HM:=aH hm;clear hm;intro m
 induction m using Nat.strongRecOn with
 |ind m ih=>
 intro k u D v w B k0 e4 jS hB b6 k4 hcm;have e5:=e4;obtain⟨a,b,g7,cp,rfl,e0,d0,hc,hb⟩:=e4.view prog 25 3 underlying25 aN;obtain⟨av,cv,rfl⟩:=jS.shape;have HC:=aH hc;have f4:=aH d0;have IH:=aH ih;clear hc d0 ih e0;go_enter func111,ntmps111;go_wp2_with fail;go_loopw [9,10] (fun bv iv wr=>∃(j:Nat) (x:List Int) (p:Option Addr) (n q:Nat),k<=j/\j<=l.length/\iv=aG j/\bv=aA p n q/\aM 3 B wr (aA p n q) x/\x.length<=64/\jT (l.drop j) u D x=jT (l.drop k) u D D/\Below w w wr) (fun _ iv _=>l.length-(intOf iv).toNat)
 case atStart=>exact⟨k,D,_,_,_,aI,by omega,rfl,rfl,jS,by omega,rfl,Below.refl _ _⟩
 case round=>
  obtain⟨j,y,p,n,q,j9,hj,rfl,rfl,ox,a8,Y,M⟩:=hrel;have g0:=ox.ints.capLe.1;subst g0;by_cases hlt:j<l.length
  ·have h0:(j:Int)<(l.length:Int):=aD;have O:=aR HC.out hb M aI j hlt;have j8:=fun W=>f4.out W j hlt;have Z:=HM.out _ (List.getElem_mem hlt);have F:=aoZ l j hlt u D y;rw[Y]at F;have yw:=M.size;have ol:=jS.keep M;obtain⟨x,hx⟩:=aJ (l[j]);rw[<-hx]at O Z F;have c8:bits .and .i64 x u=bB x u:=dU Z.1 aD b6 aD;have J:=aqY x u;obtain⟨z,hz⟩:=aJ (bB x u);rw[<-hz]at c8 J;clear hx hz Y
   cases h1:z != 0 with
   |true=>
    have b4:DC x u=false:=by rw[J,h1];rfl
    exact ah4
   |false=>
    cases h2:x==0 with
    |true=>
     have b4:DC x u=false:=by rw[J,h1,h2];rfl
     exact ah4
    |false=>
     have a9:DC x u=true:=by rw[J,h1,h2];rfl
     rw[a9,if_pos rfl]at F;have g2:bits .or .i64 u x=eH u x:=sJ b6 aD Z.1 aD;have b5:=AJ u x 6 b6 Z.1 aD aD;obtain⟨u2,e8⟩:=aJ (eH u x);rw[<-e8]at g2 b5 F;have e6:=b5.1;have e7:u2<64:=aD;obtain⟨R,hR⟩:=aJ (jT (l.drop (j+1)) u2 (D++[x]) (D++[x]));have f7:R.length<=64:=by rw[hR];exact vH 64 _ _ _ _ aT aT
     have a7:∀(v2:Value) (w2:World),aM 3 wr w2 v2 (([]++D)++[x])->Below wr wr w2 ->
       Calls prog 111 #[aA a l.length cp,aG ((j:Int)+1),u2,v2] w2 fun e w'=>∃ad i q,e=.returned (aA ad i q)/\aM 3 wr w' (aA ad i q) R/\Below w2 w2 w':=fun v2 w2 q1 q2=>by
      rw[hR,show(j:Int)+1=((j+1:Nat):Int) by simp];rw[List.nil_append]at q1;exact IH.out (l.length-(j+1)) aD (j+1) u2 _ v2 w2 wr.heap.size aD (e5.below (M.after q2 M.size) aI) q1 q2.size e6 e7 (by rw[List.length_append,List.length_singleton];omega)
     rw[<-hR]at F;have b9:=aH a7;have N:=aH F;have c5:([]:List Int).length+D.length<=17592186044416:=by simp;omega
     have c6:([]++D).length + [x].length<=17592186044416:=by simp;omega
     have c7:dL x:=⟨by omega,by omega⟩;have k5:IntKind.i64.wrap ((j:Int)+1)=(j:Int)+1:=by rw[IntKind.wrap_i64];omega
     have b7:=aH c5;have b8:=aH c6;have f6:=aH c7;clear a7 F hR e8 b5 a9 J c5 c6 c7;go_wp2_with fail;go_region_held3 (fun w'=>w'.cell? ⟨b,g7+j,none⟩=some (aG x)) (go_keep)
      (first
       |(refine gE rfl _ _ _ rfl 3 underlying25 aN wr.heap.size (aA (some ⟨_,0,none⟩) 0 0) [] rfl (aA av D.length cv) D rfl ?_ ?_ b7.out wr ?_ aI ?_;(first|(with_reducible exact(aM.lit0 wr aI).drew')|(with_reducible exact((aM.lit0 wr aI).alloc _).drew')|(with_reducible exact(aM.lit0' wr _).drew'));(first|(with_reducible exact(ol.ints.alloc _).drew')|(with_reducible exact((ol.ints.alloc _).alloc _).drew'));(first|(with_reducible exact(bF wr _).drew)|(with_reducible exact(wI wr _ _).drew));(intro v1 w1 o1 b1 pc;have k1:=keep b1 O))
       |(refine gE rfl _ _ _ rfl 3 underlying25 aN wr.heap.size v1 ([]++D) rfl (aA (some ⟨_,0,none⟩) 1 1) [x] rfl ?_ ?_ b8.out wr ?_ aI ?_;(first|(with_reducible exact o1)|(with_reducible exact o1.alloc _));(refine aK.one ?_ f6.out;first|(with_reducible exact aZ _ _ _ _ _ rfl)|(with_reducible exact pc _ _ (rJ _ _ _ _) (wW _ _ _))|(with_reducible exact pc _ _ (sZ _ _ _ _) (wX _ _ _)));(first|(with_reducible exact b1)|(with_reducible exact b1.alloc b1.size _));(intro v2 w2 o2 b2 _;have k2:=keep b2 O))
       |(go_at_call 111;with_reducible refine(b9.out v2 w2 o2 b2).mono ?_;rintro e3 w3 ⟨p3,i3,q3,rfl,o3,b3⟩;have b0:=b2.after b3 b2.size;have k3:=keep b0 O)
      )
     all_goals
      have f8:i3=R.length:=o3.ints.capLe.1;subst f8;have B3:Below w w w3:=M.after b0 M.size;have g8:=ox.keep b0;by_cases S:y.length<R.length
      ·have c9:(y.length:Int)<(R.length:Int):=aD;have hlo:cH y R=R:=by unfold cH;rw[if_pos S]
       have I:jT (l.drop (j+1)) u D R=jT (l.drop k) u D D:=by rw[N.out,hlo]
       have K:=aH I;have g6:=o3.mono (B':=B) aD;clear hlo I S;go_wp2;go_roundw
       case rel=>exact⟨j+1,R,p3,_,q3,by omega,by omega,by go_num,rfl,g6,f7,K.out,B3⟩
       case measure=>simp[intOf];omega
      ·have c9:¬(y.length:Int)<(R.length:Int):=aD;have hlo:cH y R=y:=by unfold cH;rw[if_neg S]
       have I:jT (l.drop (j+1)) u D y=jT (l.drop k) u D D:=by rw[N.out,hlo]
       have K:=aH I;clear hlo I S;go_wp2;go_roundw
       case rel=>exact⟨j+1,y,p,_,q,by omega,by omega,by go_num,rfl,g8,a8,K.out,B3⟩
       case measure=>simp[intOf];omega
  ·have f9:j=l.length:=aD;have a6:y=jT (l.drop k) u D D:=by rw[<-Y,f9,List.drop_length];rfl
   have f5:=aH a6;clear Y a6;go_wp2;go_ret;exact⟨_,_,_,rfl,by rw[<-f5.out];exact ox,M⟩
theorem XT(w:World)(g:Int)(v:Value)(l:List Int)(hv:aK w v l):
  Calls prog 64 #[.agg #[g,v]] w fun e w'=>∃ad i Z,e=.returned (.tuple #[aG ((lL g l).length:Int),aA ad i Z,.bool (aU g l)])/\aK w' (aA ad i Z) (lL g l)/\Below w w w':=by
 have I:=hv;obtain⟨a,c,rfl⟩:=hv.shape;have S:=aP.new w 29 #[g,aA a l.length c]
 cases F:aU g l with
 |false=>
  have K:lL g l=[]:=by unfold lL;rw[F];rfl
  have J:=aH K;have N:=aH F;clear K F;go_enter func64,ntmps64;go_wp2_with fail;refine(cK g l _ _ (I.alloc _)).mono ?_;rintro e w1 ⟨rfl,z⟩;rw[N.out];have D:Below w w w1:=(bF _ _).after z (by simp);go_wp2;exact bodyPost_ret (v:=.tuple #[aB,aA (some ⟨w1,0,none⟩) 0 0,.bool false]) (by simp[results,results64,go_sem]) rfl ⟨_,0,0,by rw[J.out];rfl,by rw[J.out];exact aK.empty _ _ _ _ rfl aQ,D.alloc D.size _⟩
 |true=>
  have K:lL g l=tJ l:=by unfold lL;rw[F];rfl
  have hm:=dR F;have M:=iL F;have hp:∀W v,aK W (aA a l.length c) l->aM 3 W (W.alloc (.cells #[] 3)) v []->Calls prog 111 #[aA a l.length c,aB,aB,v] (W.alloc (.cells #[] 3)) fun e w'=>∃a i q,e=.returned (aA a i q)/\aM 3 W w' (aA a i q) (tJ l)/\Below (W.alloc (.cells #[] 3)).heap.size (W.alloc (.cells #[] 3)) w':=fun W v h1 h2=>by exact Z6 l _ hm M l.length 0 0 [] v _ W.heap.size aD (h1.alloc _) h2 (by simp) aD aD (by simpa using M)
  have J:=aH K;have N:=aH F;have HP:=aH hp;clear K F hp hm;go_enter func64,ntmps64;go_wp2_with fail;refine(cK g l _ _ (I.alloc _)).mono ?_;rintro e w1 ⟨rfl,z⟩;rw[N.out];have D:Below w w w1:=(bF _ _).after z (by simp);have Y:=S.keep z;have G1:=Y.cell;have z1:=Y.lt;have R:=I.below D aI;clear z S;go_wp2_with fail;refine(HP.out w1 _ R (aM.lit0 w1 aI)).mono ?_;rintro e w2 ⟨p2,i2,q2,rfl,o2,b2⟩;have O:i2=(tJ l).length:=o2.ints.capLe.1;subst O;have B2:Below w w w2:=(D.alloc D.size _).after b2 (D.alloc D.size _).size;go_wp2;exact bodyPost_ret (v:=.tuple #[aG ((tJ l).length:Int),.slice p2 (tJ l).length q2,.bool true]) (by simp[results,results64,go_sem]) rfl ⟨p2,_,q2,by rw[J.out],by rw[J.out];exact o2.ints,B2⟩
theorem acR(w:World)(g:Int)(v:Value)(l:List Int)(hv:aK w v l)(hl:l.length<=1048576):
  Calls prog 17 #[.agg #[g,v]] w fun e w'=>e=.returned (.string (pU g l))/\Below w w w':=by
 have D:=hv;obtain⟨a,c,rfl⟩:=hv.shape;have K0:=aP.new w 29 #[g,aA a l.length c]
 cases hf:aU g l with
 |false=>have HX:=aH (LQ hf);have HF:=aH hf;clear hf;go_enter func17,ntmps17;go_wp2_with fail;refine(cK g l _ _ (D.alloc _)).mono ?_;rintro e w1 ⟨rfl,b1⟩;rw[HF.out];go_wp2;go_ret;exact⟨bJ HX.out.symm,(bF _ _).after b1 (by simp)⟩
 |true=>
  have d0:=aH (BL hf);have l7:=XU g l;have l8:=IZ g l;have m2:=YU g l;have l9:=FI g l;have l6:=vP g l;have e9:=cM ((lL g l).length:Int) ⟨by omega,by omega⟩;have e8:=fG g (lL g l);have f0:=fA g (mQ g l);have f2:=cM (uJ g l) ⟨by omega,by omega⟩;obtain⟨bT,b0⟩:=aJ (kY g l);obtain⟨bS,a9⟩:=aJ (jU g l);have c6:=fun(W:World) (h:aK W (aA a l.length c) l)=>apL W g _ l h hl;have c5:=fun(W:World) (h:aK W (aA a l.length c) l)=>aaS W g _ l h hl;simp only[<-b0]at c6;simp only[<-a9]at c5;have HF:=aH hf;have g7:=aH c6;have g6:=aH c5;have J:=aH (And.intro b0 a9);clear hf c6 c5 b0 a9;go_enter func17,ntmps17;go_wp2_with fail;refine(cK g l _ _ (D.alloc _)).mono ?_;rintro e w1 ⟨rfl,b1⟩;rw[HF.out];have B:Below w w w1:=(bF _ _).after b1 (by simp);have K:=K0.keep b1;clear K0 b1;have G:=K.cell;go_wp2_with fail;refine(XT _ g _ l (D.below B aI)).mono ?_;rintro e w2 ⟨p2,i2,q2,rfl,hP,b2⟩;have j6:i2=(lL g l).length:=hP.capLe.1;subst j6;have B1:=B.after b2 B.size;have K1:=K.keep b2;clear B K G b2;obtain⟨N,hN⟩:=aJ (aX ((lL g l).length:Int));obtain⟨A,hA⟩:=aJ (bZ g (lL g l));rw[<-hN]at e9;rw[<-hA]at e8;have I:=aH (And.intro hN hA);clear hN hA;go_upto_region 4 with fail;go_cut [6] (fun v wx=>∃X,v=.string X/\X=JN N A/\Below w2 w2 wx)
  case rest=>
   obtain⟨X,rfl,hX,b3⟩:=hcut;have j5:X.size<=10100:=by rw[hX];exact NI N A e9 e8
   have HX:=aH hX;have B3:=B1.after b3 B1.size;have K3:=K1.keep b3;clear hX b3 B1 K1 hP;have G:=K3.cell;go_wp2_with fail;refine(g7.out _ (D.below B3 aI)).mono ?_;rintro e w4 ⟨rfl,b4⟩;have B4:=B3.after b4 B3.size;have K4:=K3.keep b4;clear B3 K3 G b4;obtain⟨M,hM⟩:=aJ (aX (uJ g l));obtain⟨S,hS⟩:=aJ (bG g (mQ g l));rw[<-hM]at f2;rw[<-hS]at f0;have F:=aH (And.intro hM hS);clear hM hS;go_upto_if 41 with fail;go_cut [6] (fun v wx=>∃X2,v=.string X2/\X2=JO bT X M S/\Below w4 w4 wx)
   case rest=>
    obtain⟨X2,rfl,a8,b5⟩:=hcut;have k6:X2.size<=10300:=by rw[a8];exact NJ bT X M S j5 f2 f0
    have e0:=aH a8;have B5:=B4.after b5 B4.size;have K5:=K4.keep b5;clear a8 b5 B4 K4;have G:=K5.cell;go_wp2_with fail;refine(g6.out _ (D.below B5 aI)).mono ?_;rintro e w6 ⟨pS,iS,qS,rfl,oS,b6⟩;have j8:iS=(fB g l).length:=oS.ints.capLe.1;subst j8;have B6:=B5.after b6 B5.size;have K6:=K5.keep b6;clear B5 K5 G b6
    cases bS with
    |false=>
     have z:X2=pU g l:=by rw[d0.out];unfold GX;rw[<-J.out.1,<-J.out.2,e0.out,HX.out,F.out.1,F.out.2,I.out.1,I.out.2];rfl
     have Y:=aH z;clear z;go_wp2;go_ret;exact⟨bJ Y.out,B6⟩
    |true=>
     have G:=K6.cell;go_wp2_with fail;refine(R9 _ g _ l (D.below B6 aI) hl).mono ?_;rintro e w7 ⟨pG,iG,qG,rfl,oG,b7⟩;have j7:iG=(dD g l).length:=oG.ints.capLe.1;subst j7;have B7:=B6.after b7 B6.size;have K7:=K6.keep b7;clear B6 K6 G b7;have G:=K7.cell;go_wp2_with fail;refine(ajE _ g _ l (D.below B7 aI) hl).mono ?_;rintro e w8 ⟨pR,iR,qR,rfl,oR,b8⟩;have B8:=B7.after b8 B7.size;have j2:=oR.ints.inR;clear B7 K7 G b8;have h1:=fS ((fB g l).length:Int) ⟨by omega,by omega⟩ w8;have s1:=cM ((fB g l).length:Int) ⟨by omega,by omega⟩;have h2:=fun W:World=>fS ((dD g l).length:Int) ⟨by omega,by omega⟩ W;have s2:=cM ((dD g l).length:Int) ⟨by omega,by omega⟩;have h3:=fun(W:World) (hb:Below w8 w8 W)=>wV (eG g l) _ W (oR.ints.below hb aI) aD;have s3:(eR (eG g l)).size<=200:=by have:=lW _ j2;omega
     obtain⟨A1,a1⟩:=aJ (aX ((fB g l).length:Int));obtain⟨A2,a6⟩:=aJ (aX ((dD g l).length:Int));obtain⟨A3,a7⟩:=aJ (eR (eG g l));rw[<-a1]at h1 s1;simp only[<-a6]at h2 s2;simp only[<-a7]at h3 s3;have z:JP true X2 A1 A2 A3=pU g l:=by rw[d0.out];unfold GX;rw[<-J.out.1,<-J.out.2,e0.out,HX.out,F.out.1,F.out.2,I.out.1,I.out.2,a1,a6,a7]
     have Y:=aH z;have H1:=aH h1;have H2:=aH h2;have H3:=aH h3;clear z h1 h2 h3 a1 a6 a7;have e1:(⟨#[32,115,109,97,108,108,101,115,116,32]⟩:ByteArray).size=10:=rfl;have e2:(⟨#[32,103,114,101,101,100,121,32]⟩:ByteArray).size=8:=rfl;have e3:(⟨#[32,112,114,105,99,101,115,32]⟩:ByteArray).size=8:=rfl;go_wp2_with fail;refine H1.out.mono ?_;rintro e w9 ⟨rfl,b9⟩;go_wp2_with fail;refine(H2.out w9).mono ?_;rintro e wa ⟨rfl,ba⟩;have ba:=b9.after ba b9.size;go_wp2_with fail;refine(H3.out wa ba).mono ?_;rintro e wb ⟨rfl,bb⟩;have bb:=ba.after bb ba.size;go_wp2;go_ret;exact⟨bJ Y.out,B8.after bb B8.size⟩
   case first=>
    cases bT with
    |false=>go_wp2_with fail;go_meet;exact⟨X,rfl,rfl,Below.refl _ _⟩
    |true=>
     have G:=K4.cell;have Z:=G 0;simp only[List.getElem?_toArray,List.getElem?_cons_zero]at Z;have q0:∀y:Ext w4,y.w.cell? ⟨w.heap.size,0,none⟩=some (aG g):=fun y=>y.cell Z;have O:=fun y:Ext w4=>fS (uJ g l) ⟨by omega,by omega⟩ y.w;have R:=fun y:Ext w4=>nH g (mQ g l) y.w;simp only[<-F.out.1]at O;simp only[<-F.out.2]at R;have O:=aH O;have R:=aH R;clear G Z;go_wp2_with fail;refine bH _ aO aO ?_
     repeat(first|go_big_quiet_skip|(go_big_quiet_want;go_big_quiet_op;first|go_big_quiet_on|(apply Exists.intro;refine⟨fun _=>?_,?_⟩;(first|(go_at_call 8;with_reducible exact bW (O.out _))|(go_at_call 22;with_reducible exact bW (R.out _)));go_big_quiet_on)))
     refine wpQuiet_nil ?_;rintro w5 ⟨⟨w5,b5⟩,rfl⟩
     try dsimp only
     go_wp2_with fail;go_meet;exact⟨_,rfl,rfl,b5⟩
  case first=>
   have G:=K1.cell;have Z:=G 0;simp only[List.getElem?_toArray,List.getElem?_cons_zero]at Z;have q0:∀y:Ext w2,y.w.cell? ⟨w.heap.size,0,none⟩=some (aG g):=fun y=>y.cell Z;have O:=fun y:Ext w2=>fS ((lL g l).length:Int) ⟨by omega,by omega⟩ y.w;have R:=fun y:Ext w2=>nG g (lL g l) _ y.w (hP.keep y.b);simp only[<-I.out.1]at O;simp only[<-I.out.2]at R;have O:=aH O;have R:=aH R;clear G Z;refine bH _ aO aO ?_
   repeat(first|go_big_quiet_skip|(go_big_quiet_want;go_big_quiet_op;first|go_big_quiet_on|(apply Exists.intro;refine⟨fun _=>?_,?_⟩;(first|(go_at_call 8;with_reducible exact bW (O.out _))|(go_at_call 9;with_reducible exact bW (R.out _)));go_big_quiet_on)))
   refine wpQuiet_nil ?_;rintro w3 ⟨⟨w3,b3⟩,rfl⟩
   try dsimp only
   go_wp2_with fail;go_meet;exact⟨_,rfl,rfl,b3⟩
end
end Go.Proofs.YtkdbkjjacgigiaaGreatDoor
