/- Lemmas for CardRunConsole. No condition. -/
import Derived.Test.YtkdbkjjacgigiaaGreatDoorR29
import Derived.Test.YtkdbkjjacgigiaaGreatDoorR30
set_option maxRecDepth 100000
set_option maxHeartbeats 64000000
namespace Go.Proofs.YtkdbkjjacgigiaaGreatDoor
section
open Go.RowKit Go.G5 Go.Proofs.Tryz
variable(w:World)(n:Int)(v:Value)(l:aI)
theorem ah4(g:Int)(v:Value)(l:aI)(hv:Ints w v l)(hl:l.length<=1048576):
  aH 16 #[aM #[g,v]] w (aR (BN g l)):=by
 have K:=hv;obtain⟨a,c,rfl⟩:=hv.shape;have K0:=bK.new w 29 #[g,aD a l c]
 cases J:cO g l with
 |false=>have HX:=aT (SW J);have HF:=aT J;clear J;go_enter func16,ntmps16;go_wp2_with fail;refine aV (eA g l _ _ (K.alloc _)) ?_;intro w1 b1;rw[HF.out];go_wp2;go_ret;exact⟨dA HX.out.symm,(cQ _ _).after b1 bF⟩
 |true=>
  have r9:=SP g l;have s8:=(OY g l).1;have t6:=TA g l;have r8:=XT g l;have hx:BN g l=fmT g l:=IK J;unfold fmT CS zO at hx;obtain⟨N,hN⟩:∃N:Nat,g=(N:Int):=cN (fF J).1;have k8:∀(W:World),Ints W (aD a l c) l->Calls prog 55 #[aM #[g,aD a l c]] W fun e w'=>∃ad i c,e=aQ (aD ad i c)/\Ints w' (aD ad i c) (sE g l)/\Below W W w':=by intro W h;subst hN;exact ab8 W N _ l h J
  have j9:∀(W:World),Ints W (aD a l c) l->Calls prog 63 #[aM #[g,aD a l c]] W fun e w'=>e=aQ (aG (BT g l))/\Below W W w':=by intro W h;subst hN;exact ZD W N _ l h J
  have a9:=fun(W:World) (h:Ints W (aD a l c) l)=>PV W g _ l h hl;have k6:=fun(W:World) (h:Ints W (aD a l c) l)=>XL g l _ W h J;have k7:=fun(W:World) (h:Ints W (aD a l c) l)=>anC W g _ l h J;have k9:=fun(W:World) (h:Ints W (aD a l c) l)=>aoF g l _ W h J;simp only[J]at a9;obtain⟨M,hM⟩:=aW (kM g l);obtain⟨L,hL⟩:=aW (nT g l);simp only[<-hM,<-hL]at a9 hx;have s1:=gK g l;have s2:=gK M L;have s3:=eB (wM g l) ⟨aA,aA⟩;have s4:=N7 g l;have s5:=eB (wN g l) ⟨aA,aA⟩;have s6:=eB (BZ g l) ⟨aA,aA⟩;have s7:=gN g (D3 g l);have q1:=fun(W:World) (h:Ints W (aD a l c) l)=>lV g l _ W h;have q2:=fun(W:World) (v:Value) (h:Ints W v L)=>lV M L v W h;have q3:=fun(W:World)=>iL (wM g l) ⟨aA,aA⟩ W;have q4:=fun(W:World) (v:Value) (h:Ints W v (sE g l))=>zT (sE g l) v W h aA;have q5:=fun(W:World)=>iL (wN g l) ⟨aA,aA⟩ W;have q6:=fun(W:World)=>iL (BZ g l) ⟨aA,aA⟩ W;have q7:=fun(W:World)=>kL g (D3 g l) W;obtain⟨F1,e9⟩:=aW (eG g l);obtain⟨F2,f0⟩:=aW (eG M L);obtain⟨F3,f2⟩:=aW (dB (wM g l));obtain⟨F4,f3⟩:=aW (gY (sE g l));obtain⟨F5,f4⟩:=aW (dB (wN g l));obtain⟨F6,f5⟩:=aW (dB (BZ g l));obtain⟨F7,f6⟩:=aW (dH g (D3 g l));simp only[<-e9]at q1 s1;simp only[<-f0]at q2 s2;simp only[<-f2]at q3 s3;simp only[<-f3]at q4 s4;simp only[<-f4]at q5 s5;simp only[<-f5]at q6 s6;simp only[<-f6]at q7 s7;rw[<-e9,<-f0,<-f2,<-f3,<-f4,<-f5,<-f6]at hx;have h8:=aT q1;have h9:=aT q2;have i6:=aT q3;have i7:=aT q4;have i8:=aT q5;have d0:=aT q6;have e6:=aT q7;have g8:=aT a9;have c8:=aT k6;have g9:=aT k7;have h7:=aT k9;have c7:=aT j9;have h6:=aT k8;have HX:=aT hx;have HF:=aT J;clear hx J a9 k6 k7 k9 j9 k8 hM hL hN e9 f0 f2 f3 f4 f5 f6 q1 q2 q3 q4 q5 q6 q7;go_enter func16,ntmps16;go_wp2_with fail;refine aV (eA g l _ _ (K.alloc _)) ?_;intro w1 b1;rw[HF.out];have B1:Below w w w1:=(cQ _ _).after b1 bF;have K1:=K0.keep b1;clear K0 b1;have G:=K1.cell;go_wp2_with fail;refine(g8.out _ (K.below B1 aU)).mono ?_;rintro e w2 ⟨pB,iB,qB,rfl,oB,b2⟩;have s9:iB=L.length:=oB.ints.capLe.1;subst s9;have B2:=B1.after b2 B1.size;have K2:=K1.keep b2;clear G B1 K1 b2;have KB:=bK.new w2 29 #[M,aD pB L qB];have hB:=oB.ints.alloc (.cells #[M,aD pB L qB] 29);have B3:=B2.alloc B2.size (.cells #[M,aD pB L qB] 29);have K3:=K2.alloc (.cells #[M,aD pB L qB] 29);have hA:=K.below B3 aU;clear oB B2 K2;go_upto_region 4 with fail;obtain⟨w3,l0⟩:=aW (w2.alloc (.cells #[M,aD pB L qB] 29));rw[<-l0]at KB hB B3 K3 hA |-;clear l0;go_cut [5] (fun v wx=>∃X,v=aR X/\X=QC F1 F2 F3 F4 F5/\Below w3 w3 wx)
  case rest=>
   obtain⟨X,rfl,hX,b4⟩:=hcut;have z8:X.size<=20400:=by rw[hX];exact QD F1 F2 F3 F4 F5 s1 s2 s3 s4 s5
   have D:=HX.out;rw[<-hX]at D;have HX:=aT D;have B4:=B3.after b4 B3.size;have K4:=K3.keep b4;clear hX D b4 B3 K3 KB hB hA h8 h9 i6 i7 i8 g8 g9 h7 h6 s1 s2 s3 s4 s5;have G:=K4.cell;go_wp2_with fail;refine aV (c8.out _ (K.below B4 aU)) ?_;intro w5 b5;have B5:=B4.after b5 B4.size;have K5:=K4.keep b5;clear B4 K4 G b5;have g0:=K5.cell 0;simp only[List.getElem?_toArray,List.getElem?_cons_zero]at g0;have q0:∀y:Ext w5,y.w.cell? ⟨w,0,none⟩=some (aO g):=fun y=>y.cell g0;have R6:=aT (fun y:Ext w5=>d0.out y.w);have R7:=aT (fun y:Ext w5=>e6.out y.w);clear g0;go_wp2_with fail;refine cW _ bM bM ?_
   repeat(first|go_big_quiet_skip|(go_big_quiet_want;go_big_quiet_op;first|go_big_quiet_on|(apply Exists.intro;refine⟨fun _=>?_,?_⟩;(first|(go_at_call 8;with_reducible exact dI (R6.out _))|(go_at_call 22;with_reducible exact dI (R7.out _)));go_big_quiet_on)))
   refine wpQuiet_nil ?_;rintro I ⟨⟨I,b6⟩,rfl⟩
   try dsimp only
   have B6:=B5.after b6 B5.size;have K6:=K5.keep b6;have F:=K.below B6 aU;have y8:(⟨#[32,98,121,32]⟩:aB).size=4:=rfl;have z0:(X++F6++(⟨#[32,98,121,32]⟩:aB)++F7).size<=20600:=by simp only[ByteArray.size_append];omega
   have G:=K6.cell;have g0:=G 0;have g1:=G 1;simp only[List.getElem?_toArray,List.getElem?_cons_zero,List.getElem?_cons_succ]at g0 g1;have q0:∀y:Ext I,y.w.cell? ⟨w,0,none⟩=some (aO g):=fun y=>y.cell g0;have q1:∀y:Ext I,y.w.cell? ⟨w,1,none⟩=some (aD a l c):=fun y=>y.cell g1;clear R6 R7 d0 e6 B5 K5 b6 g0 g1 G;obtain⟨Y,hY⟩:=aW (X++F6++(⟨#[32,98,121,32]⟩:aB)++F7);rw[<-hY]at z0;have D:=HX.out;rw[<-hY]at D;have HX:=aT D;clear D;have Q0:=fun y:Ext I=>an7 g l _ y.w (F.keep y.b) HF.out;have Q1:=fun y:Ext I=>SO g l _ y.w (F.keep y.b) HF.out;have Q2:=fun y:Ext I=>afD g l _ y.w (F.keep y.b) HF.out;have Q3:=fun y:Ext I=>ag5 g l _ y.w (F.keep y.b) HF.out;have Q4:=fun y:Ext I=>acA g l _ y.w (F.keep y.b) hl;have Q5:=fun y:Ext I=>c7.out y.w (F.keep y.b);obtain⟨j2,O⟩:=aW (xS g l);rw[<-O]at Q0;obtain⟨j3,R⟩:=aW (rV g l);rw[<-R]at Q1;obtain⟨j4,S⟩:=aW (qQ g l);rw[<-S]at Q2;obtain⟨j5,Z⟩:=aW (uT g l);rw[<-Z]at Q3;obtain⟨j6,a6⟩:=aW (tO g l);rw[<-a6]at Q4;obtain⟨j7,a7⟩:=aW (BT g l);rw[<-a7]at Q5;have p7:=aT (And.intro O (And.intro R (And.intro S (And.intro Z (And.intro a6 a7)))));have Q0:=aT Q0;have Q1:=aT Q1;have Q2:=aT Q2;have Q3:=aT Q3;have Q4:=aT Q4;have Q5:=aT Q5;obtain⟨t0,b0⟩:=aW (lT j2 (⟨#[32,108,97,109,105,110,97,114]⟩:aB));have Y0:=fun y:Ext I=>nA j2 (⟨#[32,108,97,109,105,110,97,114]⟩:aB) y.w;rw[<-b0]at Y0;have Y0:=aT Y0;have z1:t0.size<=14:=by rw[b0];exact dC (fR _ _) bZ
   obtain⟨t1,b3⟩:=aW (lT j3 (⟨#[32,99,114,111,115,115,102,114,101,101]⟩:aB));have Y1:=fun y:Ext I=>nA j3 (⟨#[32,99,114,111,115,115,102,114,101,101]⟩:aB) y.w;rw[<-b3]at Y1;have Y1:=aT Y1;have z2:t1.size<=14:=by rw[b3];exact dC (fR _ _) bZ
   obtain⟨t2,b8⟩:=aW (lT j4 (⟨#[32,105,110,116,101,114,115,101,99,116,105,110,103]⟩:aB));have Y2:=fun y:Ext I=>nA j4 (⟨#[32,105,110,116,101,114,115,101,99,116,105,110,103]⟩:aB) y.w;rw[<-b8]at Y2;have Y2:=aT Y2;have z3:t2.size<=14:=by rw[b8];exact dC (fR _ _) bZ
   obtain⟨t3,b9⟩:=aW (lT j5 (⟨#[32,97,110,116,105,99,104,97,105,110]⟩:aB));have Y3:=fun y:Ext I=>nA j5 (⟨#[32,97,110,116,105,99,104,97,105,110]⟩:aB) y.w;rw[<-b9]at Y3;have Y3:=aT Y3;have z4:t3.size<=14:=by rw[b9];exact dC (fR _ _) bZ
   obtain⟨t4,c5⟩:=aW (lT j6 (⟨#[32,100,111,119,110]⟩:aB));have Y4:=fun y:Ext I=>nA j6 (⟨#[32,100,111,119,110]⟩:aB) y.w;rw[<-c5]at Y4;have Y4:=aT Y4;have z5:t4.size<=14:=by rw[c5];exact dC (fR _ _) bZ
   obtain⟨t5,c6⟩:=aW (lT j7 (⟨#[32,98,97,115,101,115]⟩:aB));have Y5:=fun y:Ext I=>nA j7 (⟨#[32,98,97,115,101,115]⟩:aB) y.w;rw[<-c6]at Y5;have Y5:=aT Y5;have z6:t5.size<=14:=by rw[c6];exact dC (fR _ _) bZ
   have p8:=aT (And.intro b0 (And.intro b3 (And.intro b8 (And.intro b9 (And.intro c5 c6)))));clear O R S Z a6 a7 b0 b3 b8 b9 c5 c6 F K6 s8 r9 t6 r8 c8 c7;have s0:(Y++t0).size<=20614:=by simp only[ByteArray.size_append];omega
   have s1:(Y++t0++t1).size<=20628:=by simp only[ByteArray.size_append];omega
   have s2:(Y++t0++t1++t2).size<=20642:=by simp only[ByteArray.size_append];omega
   have s3:(Y++t0++t1++t2++t3).size<=20656:=by simp only[ByteArray.size_append];omega
   have s4:(Y++t0++t1++t2++t3++t4).size<=20670:=by simp only[ByteArray.size_append];omega
   have s5:(Y++t0++t1++t2++t3++t4++t5).size<=20684:=by simp only[ByteArray.size_append];omega
   have HY:=aT hY;rw[<-hY];clear hY;go_wp2_with fail;refine cW _ bM bM ?_
   repeat(first|go_big_quiet_skip|(go_big_quiet_want;go_big_quiet_op;first|go_big_quiet_on|(apply Exists.intro;refine⟨fun _=>?_,?_⟩;(first|(go_at_call 58;with_reducible exact dI (Q0.out _))|(go_at_call 59;with_reducible exact dI (Q1.out _))|(go_at_call 60;with_reducible exact dI (Q2.out _))|(go_at_call 61;with_reducible exact dI (Q3.out _))|(go_at_call 62;with_reducible exact dI (Q4.out _))|(go_at_call 63;with_reducible exact dI (Q5.out _))|(go_at_call 42;first|(with_reducible exact fA (Y0.out _))|(with_reducible exact fA (Y1.out _))|(with_reducible exact fA (Y2.out _))|(with_reducible exact fA (Y3.out _))|(with_reducible exact fA (Y4.out _))|(with_reducible exact fA (Y5.out _))));go_big_quiet_on)))
   refine wpQuiet_nil ?_;rintro w7 ⟨⟨w7,b7⟩,rfl⟩
   try dsimp only
   go_wp2_with fail;go_ret;refine⟨dA ?_,B6.after b7 B6.size⟩;obtain⟨h0,h1,h2,h3,h4,h5⟩:=p7.out;obtain⟨k0,k1,k2,k3,k4,k5⟩:=p8.out;rw[HX.out,<-h0,<-h1,<-h2,<-h3,<-h4,<-h5,k0,k1,k2,k3,k4,k5]
  case first=>
   have a0:=K3.cell 0;have a1:=K3.cell 1;have a2:=KB.cell 0;have a3:=KB.cell 1;simp only[List.getElem?_toArray,List.getElem?_cons_zero,List.getElem?_cons_succ]at a0 a1 a2 a3;have q0:∀y:Ext w3,y.w.cell? ⟨w,0,none⟩=some (aO g):=fun y=>y.cell a0;have q1:∀y:Ext w3,y.w.cell? ⟨w,1,none⟩=some (aD a l c):=fun y=>y.cell a1;have q2:∀y:Ext w3,y.w.cell? ⟨w2,0,none⟩=some (aO M):=fun y=>y.cell a2;have q3:∀y:Ext w3,y.w.cell? ⟨w2,1,none⟩=some (aD pB L qB):=fun y=>y.cell a3;clear a0 a1 a2 a3 c8 c7 d0 e6;have e0:(⟨#[102,97,109,105,108,121,32]⟩:aB).size=7:=rfl;have e1:(⟨#[32,98,108,111,99,107,101,114,32]⟩:aB).size=9:=rfl;have e2:(⟨#[32,100,105,109,101,110,115,105,111,110,32]⟩:aB).size=11:=rfl;have e3:(⟨#[32,103,114,111,119,116,104,32]⟩:aB).size=8:=rfl;have e4:(⟨#[32,108,121,109,32]⟩:aB).size=5:=rfl;have e5:(⟨#[32,100,105,115,99,114,101,112,97,110,99,121,32]⟩:aB).size=13:=rfl;refine KD (C:=fun w'=>∃x:Ext w3,w'=x.w) bM bM bM ⟨⟨w3.drew,(bJ _ _).drew⟩,rfl⟩ ?_;have bd:Below w3 w3 w3.drew:=(bJ _ _).drew
   repeat(refine jU (by rfl) ?_;(first|go_big_quiet_skip|(go_big_quiet_want;go_big_quiet_op;go_big_quiet_on));refine wpQuiet_nil ?_)
   refine kO 9 _ _ rfl (enters_of func9 bM rfl) bM ?_;intro KK z;go_simp;refine aV (h8.out _ (hA.keep bd)) ?_;intro x0 y0;have y0:=bd.after y0 bd.size;refine⟨_,rfl,?_⟩;go_simp;refine z _ _ ⟨⟨x0,y0⟩,rfl⟩ ?_;clear z KK
   repeat(refine jU (by rfl) ?_;(first|go_big_quiet_skip|(go_big_quiet_want;go_big_quiet_op;go_big_quiet_on));refine wpQuiet_nil ?_)
   refine kO 9 _ _ rfl (enters_of func9 bM rfl) bM ?_;intro KK z;go_simp;refine aV (h9.out _ _ (hB.keep y0)) ?_;intro x1 y1;have y1:=y0.after y1 y0.size;refine⟨_,rfl,?_⟩;go_simp;refine z _ _ ⟨⟨x1,y1⟩,rfl⟩ ?_;clear z KK
   repeat(refine jU (by rfl) ?_;(first|go_big_quiet_skip|(go_big_quiet_want;go_big_quiet_op;go_big_quiet_on));refine wpQuiet_nil ?_)
   refine kO 54 _ _ rfl (enters_of func54 bM rfl) bM ?_;intro KK z;go_simp;refine aV (g9.out _ (hA.keep y1)) ?_;intro x2 y2;have y2:=y1.after y2 y1.size;refine⟨_,rfl,?_⟩;go_simp;refine z _ _ ⟨⟨x2,y2⟩,rfl⟩ ?_;clear z KK
   repeat(refine jU (by rfl) ?_;(first|go_big_quiet_skip|(go_big_quiet_want;go_big_quiet_op;go_big_quiet_on));refine wpQuiet_nil ?_)
   refine kO 8 _ _ rfl (enters_of func8 bM rfl) bM ?_;intro KK z;go_simp;refine aV (i6.out _) ?_;intro x3 y3;have y3:=y2.after y3 y2.size;refine⟨_,rfl,?_⟩;go_simp;refine z _ _ ⟨⟨x3,y3⟩,rfl⟩ ?_;clear z KK
   repeat(refine jU (by rfl) ?_;(first|go_big_quiet_skip|(go_big_quiet_want;go_big_quiet_op;go_big_quiet_on));refine wpQuiet_nil ?_)
   refine kO 55 _ _ rfl (enters_of func55 bM rfl) bM ?_;intro KK z;go_simp;refine(h6.out _ (hA.keep y3)).mono ?_;rintro e x4 ⟨p1,i1,r1,rfl,o1,y4⟩;have y4:=y3.after y4 y3.size;refine⟨_,rfl,?_⟩;go_simp;refine z _ _ ⟨⟨x4,y4⟩,rfl⟩ ?_;clear z KK
   repeat(refine jU (by rfl) ?_;(first|go_big_quiet_skip|(go_big_quiet_want;go_big_quiet_op;go_big_quiet_on));refine wpQuiet_nil ?_)
   refine kO 39 _ _ rfl (enters_of func39 bM rfl) bM ?_;intro KK z;go_simp;refine aV (i7.out _ _ o1) ?_;intro x5 y5;have y5:=y4.after y5 y4.size;refine⟨_,rfl,?_⟩;go_simp;refine z _ _ ⟨⟨x5,y5⟩,rfl⟩ ?_;clear z KK
   repeat(refine jU (by rfl) ?_;(first|go_big_quiet_skip|(go_big_quiet_want;go_big_quiet_op;go_big_quiet_on));refine wpQuiet_nil ?_)
   refine kO 56 _ _ rfl (enters_of func56 bM rfl) bM ?_;intro KK z;go_simp;refine aV (h7.out _ (hA.keep y5)) ?_;intro x6 y6;have y6:=y5.after y6 y5.size;refine⟨_,rfl,?_⟩;go_simp;refine z _ _ ⟨⟨x6,y6⟩,rfl⟩ ?_;clear z KK
   repeat(refine jU (by rfl) ?_;(first|go_big_quiet_skip|(go_big_quiet_want;go_big_quiet_op;go_big_quiet_on));refine wpQuiet_nil ?_)
   refine kO 8 _ _ rfl (enters_of func8 bM rfl) bM ?_;intro KK z;go_simp;refine aV (i8.out _) ?_;intro x7 y7;have y7:=y6.after y7 y6.size;refine⟨_,rfl,?_⟩;go_simp;refine z _ _ ⟨⟨x7,y7⟩,rfl⟩ ?_;clear z KK
   repeat(refine jU (by rfl) ?_;(first|go_big_quiet_skip|(go_big_quiet_want;go_big_quiet_op;go_big_quiet_on));refine wpQuiet_nil ?_)
   refine V9 ?_;go_wp2_with fail;go_meet;exact⟨_,rfl,rfl,y7⟩
theorem atF(s u:Int):GW s u=(!(cU s u != 0)&&!(s==0)):=by
 unfold GW
 cases h1:cU s u==0<;>cases h2:s==0<;>simp_all
theorem arH(j:Nat)(h:j<l)(u:Int)(c b:aI):mG (l.drop j) u c b=if GW l[j] u then mG (l.drop (j+1)) u c (dT b (mG (l.drop (j+1)) (gO u l[j]) (c++[l[j]]) (c++[l[j]]))) else mG (l.drop (j+1)) u c b:=by
 rw[List.drop_eq_getElem_cons h,mG]
theorem akX{p:Prop}(h:p:=by
  rw[b4]at F;have N:=aT F;clear F b4 J;go_wp2;go_roundw
  .exact⟨j+1,y,p,_,q,aA,aA,cD,rfl,ox,a8,N.out.symm,M⟩
  exact aY):p:=h
theorem acG(lv:Value)(hm:∀x∈l,0<=x/\x<64)(hl:l.length<=64):∀(m k:Nat) (u:Int) (D:aI) (v:Value) (w:World) (B:Nat),k+m=l.length->Ints w lv l->bB 3 B w v D->B<=w.heap.size->0<=u->u<64->D.length+m<=64 ->
  Calls prog 111 #[lv,k,u,v] w fun e w'=>∃a i q,e=aQ (aD a i q)/\bB 3 B w' (aD a i q) (mG (l.drop k) u D D)/\Below w w w':=by
 have HM:=aT hm;clear hm;intro m
 induction m using Nat.strongRecOn with
 |ind m ih=>
 intro k u D v w B j9 e4 mF hB b6 k3 hcm;have e5:=e4;obtain⟨a,b,g6,cp,rfl,e0,d0,hc,hb⟩:=e4.vw;obtain⟨av,cv,rfl⟩:=mF.shape;have HC:=aT hc;have f4:=aT d0;have IH:=aT ih;clear hc d0 ih e0;go_enter func111,ntmps111;go_wp2_with fail;go_loopw [9,10] (fun bv iv wr=>∃(j:Nat) (x:aI) (p:Option Addr) (n q:Nat),k<=j/\j<=l/\iv=aO j/\bv=aD p n q/\bB 3 B wr (aD p n q) x/\x.length<=64/\mG (l.drop j) u D x=mG (l.drop k) u D D/\Below w w wr) (fun _ iv _=>l.length-(intOf iv).toNat)
 .exact⟨k,D,_,_,_,aU,aA,rfl,rfl,mF,aA,rfl,bJ _ _⟩
 obtain⟨j,y,p,n,q,j8,hj,rfl,rfl,ox,a8,Y,M⟩:=hrel;have g0:=ox.ints.capLe.1;subst g0;by_cases hlt:j<l
 .have g9:(j:Int)<(l.length:Int):=aA;have O:=bY HC.out hb M aU j hlt;have j7:=fun W=>f4.out W j hlt;have Z:=HM.out _ (aX hlt);have F:=arH l j hlt u D y;rw[Y]at F;have yw:=M.size;have ol:=mF.keep M;obtain⟨x,hx⟩:=aW (l[j]);rw[<-hx]at O Z F;have c8:bits .and .i64 x u=cU x u:=fV Z.1 aA b6 aA;have J:=atF x u;obtain⟨z,hz⟩:=aW (cU x u);rw[<-hz]at c8 J;clear hx hz Y
  cases h1:z != 0 with
  |true=>
   have b4:GW x u=false:=by rw[J,h1];rfl
   exact akX
  |false=>
   cases h2:x==0 with
   |true=>
    have b4:GW x u=false:=by rw[J,h1,h2];rfl
    exact akX
   |false=>
    have a9:GW x u=true:=by rw[J,h1,h2];rfl
    rw[a9,if_pos rfl]at F;have g2:bits .or .i64 u x=gO u x:=vJ b6 aA Z.1 aA;have b5:=DC u x 6 b6 Z.1 aA aA;obtain⟨u2,e8⟩:=aW (gO u x);rw[<-e8]at g2 b5 F;have e6:=b5.1;have e7:u2<64:=aA;obtain⟨R,hR⟩:=aW (mG (l.drop (j+1)) u2 (D++[x]) (D++[x]));have f7:R.length<=64:=by rw[hR];exact yC 64 _ _ _ _ bO bO
    have a7:∀(v2:Value) (w2:World),bB 3 wr w2 v2 (([]++D)++[x])->Below wr wr w2 ->
      Calls prog 111 #[aD a l cp,aO ((j:Int)+1),u2,v2] w2 fun e w'=>∃ad i q,e=aQ (aD ad i q)/\bB 3 wr w' (aD ad i q) R/\Below w2 w2 w':=fun v2 w2 q1 q2=>by
     rw[hR,show(j:Int)+1=((j+1:Nat):Int) from bF];rw[List.nil_append]at q1;exact IH.out (l.length-(j+1)) aA (j+1) u2 _ v2 w2 wr.heap.size aA (e5.below (M.after q2 M.size) aU) q1 q2.size e6 e7 (by rw[bN,List.length_singleton];omega)
    rw[<-hR]at F;have b9:=aT a7;have N:=aT F;have c5:([]:aI).length+D.length<=17592186044416:=bO;have c6:([]++D).length + [x].length<=17592186044416:=bO;have c7:fM x:=⟨aA,aA⟩;have k4:IntKind.i64.wrap ((j:Int)+1)=(j:Int)+1:=dV;have b7:=aT c5;have b8:=aT c6;have f6:=aT c7;clear a7 F hR e8 b5 a9 J c5 c6 c7;go_wp2_with fail;go_region_held3 (fun w'=>w'.cell? ⟨b,g6+j,none⟩=some (aO x)) (go_keep)
     (first
      |(refine jT rfl _ _ _ rfl 3 underlying25 intElem wr.heap.size (aD (some ⟨_,0,none⟩) 0 0) [] rfl (aD av D cv) D rfl ?_ ?_ b7.out wr ?_ aU ?_;(first|(with_reducible exact(bB.lit0 wr aU).drew')|(with_reducible exact((bB.lit0 wr aU).alloc _).drew')|(with_reducible exact(bB.lit0' wr _).drew'));(first|(with_reducible exact(ol.ints.alloc _).drew')|(with_reducible exact((ol.ints.alloc _).alloc _).drew'));(first|(with_reducible exact(cQ wr _).drew)|(with_reducible exact(wU wr _ _).drew));(intro v1 w1 o1 b1 pc;have k0:=keep b1 O))
      |(refine jT rfl _ _ _ rfl 3 underlying25 intElem wr.heap.size v1 ([]++D) rfl (aD (some ⟨_,0,none⟩) 1 1) [x] rfl ?_ ?_ b8.out wr ?_ aU ?_;(first|(with_reducible exact o1)|(with_reducible exact o1.alloc _));(refine Ints.one ?_ f6.out;first|(with_reducible exact cR _ _ _ _ _ rfl)|(with_reducible exact pc _ _ (uM _ _ _ _) (zW _ _ _))|(with_reducible exact pc _ _ (vT _ _ _ _) (zX _ _ _)));(first|(with_reducible exact b1)|(with_reducible exact b1.alloc b1.size _));(intro v2 w2 o2 b2 _;have k1:=keep b2 O))
      |(go_at_call 111;with_reducible refine(b9.out v2 w2 o2 b2).mono ?_;rintro e3 w3 ⟨p3,i3,q3,rfl,o3,b3⟩;have b0:=b2.after b3 b2.size;have k2:=keep b0 O)
     )
    all_goals
     have f8:i3=R.length:=o3.ints.capLe.1;subst f8;have B3:Below w w w3:=M.after b0 M.size;have g7:=ox.keep b0;by_cases S:y.length<R.length
     .have c9:(y.length:Int)<(R.length:Int):=aA;have hlo:dT y R=R:=by unfold dT;rw[if_pos S]
      have I:mG (l.drop (j+1)) u D R=mG (l.drop k) u D D:=by rw[N.out,hlo]
      have K:=aT I;have g5:=o3.mono (B':=B) aA;clear hlo I S;go_wp2;go_roundw
      .exact⟨j+1,R,p3,_,q3,aA,aA,cD,rfl,g5,f7,K.out,B3⟩
      exact aY
     .have c9:¬(y.length:Int)<(R.length:Int):=aA;have hlo:dT y R=y:=by unfold dT;rw[if_neg S]
      have I:mG (l.drop (j+1)) u D y=mG (l.drop k) u D D:=by rw[N.out,hlo]
      have K:=aT I;clear hlo I S;go_wp2;go_roundw
      .exact⟨j+1,y,p,_,q,aA,aA,cD,rfl,g7,a8,K.out,B3⟩
      exact aY
 .have f9:j=l.length:=aA;have a6:y=mG (l.drop k) u D D:=by rw[<-Y,f9,List.drop_length];rfl
  have f5:=aT a6;clear Y a6;go_wp2;go_ret;exact⟨_,_,_,rfl,by rw[<-f5.out];exact ox,M⟩
theorem aaE(g:Int)(v:Value)(l:aI)(hv:Ints w v l):
  Calls prog 64 #[aM #[g,v]] w fun e w'=>∃ad i Z,e=aQ (aS #[aO ((oN g l).length:Int),aD ad i Z,aG (cO g l)])/\Ints w' (aD ad i Z) (oN g l)/\Below w w w':=by
 have I:=hv;obtain⟨a,c,rfl⟩:=hv.shape;have S:=bK.new w 29 #[g,aD a l c]
 cases F:cO g l with
 |false=>
  have K:oN g l=[]:=by unfold oN;rw[F];rfl
  have J:=aT K;have N:=aT F;clear K F;go_enter func64,ntmps64;go_wp2_with fail;refine aV (eA g l _ _ (I.alloc _)) ?_;intro w1 z;rw[N.out];have D:Below w w w1:=(cQ _ _).after z bF;go_wp2;exact bW (v:=aS #[aK,aD (some ⟨w1,0,none⟩) 0 0,aG false]) (by simp[results,results64,go_sem]) rfl ⟨_,0,0,by rw[J.out];rfl,by rw[J.out];exact Ints.empty _ _ _ _ rfl bZ,D.alloc D.size _⟩
 |true=>
  have K:oN g l=wF l:=by unfold oN;rw[F];rfl
  have hm:=fS F;have M:=kZ F;have hp:∀W v,Ints W (aD a l c) l->bB 3 W (W.alloc (.cells #[] 3)) v []->Calls prog 111 #[aD a l c,aK,aK,v] (W.alloc (.cells #[] 3)) fun e w'=>∃a i q,e=aQ (aD a i q)/\bB 3 W w' (aD a i q) (wF l)/\Below (W.alloc (.cells #[] 3)).heap.size (W.alloc (.cells #[] 3)) w':=fun W v h1 h2=>by exact acG l _ hm M l.length 0 0 [] v _ W.heap.size aA (h1.alloc _) h2 bF aA aA (by simpa using M)
  have J:=aT K;have N:=aT F;have HP:=aT hp;clear K F hp hm;go_enter func64,ntmps64;go_wp2_with fail;refine aV (eA g l _ _ (I.alloc _)) ?_;intro w1 z;rw[N.out];have D:Below w w w1:=(cQ _ _).after z bF;have Y:=S.keep z;have G1:=Y.cell;have z1:=Y.lt;have R:=I.below D aU;clear z S;go_wp2_with fail;refine(HP.out w1 _ R (bB.lit0 w1 aU)).mono ?_;rintro e w2 ⟨p2,i2,q2,rfl,o2,b2⟩;have O:i2=(wF l).length:=o2.ints.capLe.1;subst O;have B2:Below w w w2:=(D.alloc D.size _).after b2 (D.alloc D.size _).size;go_wp2;exact bW (v:=aS #[aO ((wF l).length:Int),.slice p2 (wF l).length q2,aG true]) (by simp[results,results64,go_sem]) rfl ⟨p2,_,q2,by rw[J.out],by rw[J.out];exact o2.ints,B2⟩
theorem ae1(g:Int)(v:Value)(l:aI)(hv:Ints w v l)(hl:l.length<=1048576):
  aH 17 #[aM #[g,v]] w (aR (vV g l)):=by
 have D:=hv;obtain⟨a,c,rfl⟩:=hv.shape;have K0:=bK.new w 29 #[g,aD a l c]
 cases hf:cO g l with
 |false=>have HX:=aT (OQ hf);have HF:=aT hf;clear hf;go_enter func17,ntmps17;go_wp2_with fail;refine aV (eA g l _ _ (D.alloc _)) ?_;intro w1 b1;rw[HF.out];go_wp2;go_ret;exact⟨dA HX.out.symm,(cQ _ _).after b1 bF⟩
 |true=>
  have d0:=aT (D4 hf);have l6:=aaF g l;have l7:=L0 g l;have l9:=aa9 g l;have l8:=JV g l;have l5:=yN g l;have e9:=eB ((oN g l).length:Int) ⟨aA,aA⟩;have e8:=gK g (oN g l);have f0:=gN g (qY g l);have f2:=eB (xD g l) ⟨aA,aA⟩;obtain⟨bT,b0⟩:=aW (nN g l);obtain⟨bS,a9⟩:=aW (mH g l);have c6:=fun(W:World) (h:Ints W (aD a l c) l)=>ar2 W g _ l h hl;have c5:=fun(W:World) (h:Ints W (aD a l c) l)=>ac5 W g _ l h hl;simp only[<-b0]at c6;simp only[<-a9]at c5;have HF:=aT hf;have g6:=aT c6;have g5:=aT c5;have J:=aT (And.intro b0 a9);clear hf c6 c5 b0 a9;go_enter func17,ntmps17;go_wp2_with fail;refine aV (eA g l _ _ (D.alloc _)) ?_;intro w1 b1;rw[HF.out];have B:Below w w w1:=(cQ _ _).after b1 bF;have K:=K0.keep b1;clear K0 b1;have G:=K.cell;go_wp2_with fail;refine(aaE _ g _ l (D.below B aU)).mono ?_;rintro e w2 ⟨p2,i2,q2,rfl,hP,b2⟩;have j5:i2=(oN g l).length:=hP.capLe.1;subst j5;have B1:=B.after b2 B.size;have K1:=K.keep b2;clear B K G b2;obtain⟨N,hN⟩:=aW (dB ((oN g l).length:Int));obtain⟨A,hA⟩:=aW (eG g (oN g l));rw[<-hN]at e9;rw[<-hA]at e8;have I:=aT (And.intro hN hA);clear hN hA;go_upto_region 4 with fail;go_cut [6] (fun v wx=>∃X,v=aR X/\X=MV N A/\Below w2 w2 wx)
  case rest=>
   obtain⟨X,rfl,hX,b3⟩:=hcut;have j4:X.size<=10100:=by rw[hX];exact P3 N A e9 e8
   have HX:=aT hX;have B3:=B1.after b3 B1.size;have K3:=K1.keep b3;clear hX b3 B1 K1 hP;have G:=K3.cell;go_wp2_with fail;refine aV (g6.out _ (D.below B3 aU)) ?_;intro w4 b4;have B4:=B3.after b4 B3.size;have K4:=K3.keep b4;clear B3 K3 G b4;obtain⟨M,hM⟩:=aW (dB (xD g l));obtain⟨S,hS⟩:=aW (dH g (qY g l));rw[<-hM]at f2;rw[<-hS]at f0;have F:=aT (And.intro hM hS);clear hM hS;go_upto_if 41 with fail;go_cut [6] (fun v wx=>∃X2,v=aR X2/\X2=MW bT X M S/\Below w4 w4 wx)
   case rest=>
    obtain⟨X2,rfl,a8,b5⟩:=hcut;have k5:X2.size<=10300:=by rw[a8];exact P4 bT X M S j4 f2 f0
    have e0:=aT a8;have B5:=B4.after b5 B4.size;have K5:=K4.keep b5;clear a8 b5 B4 K4;have G:=K5.cell;go_wp2_with fail;refine(g5.out _ (D.below B5 aU)).mono ?_;rintro e w6 ⟨pS,iS,qS,rfl,oS,b6⟩;have j7:iS=(iV g l).length:=oS.ints.capLe.1;subst j7;have B6:=B5.after b6 B5.size;have K6:=K5.keep b6;clear B5 K5 G b6
    cases bS with
    |false=>
     have z:X2=vV g l:=by rw[d0.out];unfold KN;rw[<-J.out.1,<-J.out.2,e0.out,HX.out,F.out.1,F.out.2,I.out.1,I.out.2];rfl
     have Y:=aT z;clear z;go_wp2;go_ret;exact⟨dA Y.out,B6⟩
    |true=>
     have G:=K6.cell;go_wp2_with fail;refine(U2 _ g _ l (D.below B6 aU) hl).mono ?_;rintro e w7 ⟨pG,iG,qG,rfl,oG,b7⟩;have j6:iG=(fC g l).length:=oG.ints.capLe.1;subst j6;have B7:=B6.after b7 B6.size;have K7:=K6.keep b7;clear B6 K6 G b7;have G:=K7.cell;go_wp2_with fail;refine(alX _ g _ l (D.below B7 aU) hl).mono ?_;rintro e w8 ⟨pR,iR,qR,rfl,oR,b8⟩;have B8:=B7.after b8 B7.size;have j1:=oR.ints.inR;clear B7 K7 G b8;have h1:=iL ((iV g l).length:Int) ⟨aA,aA⟩ w8;have s1:=eB ((iV g l).length:Int) ⟨aA,aA⟩;have h2:=fun W:World=>iL ((fC g l).length:Int) ⟨aA,aA⟩ W;have s2:=eB ((fC g l).length:Int) ⟨aA,aA⟩;have h3:=fun(W:World) (hb:Below w8 w8 W)=>zT (gM g l) _ W (oR.ints.below hb aU) aA;have s3:(gY (gM g l)).size<=200:=by have:=pK _ j1;omega
     obtain⟨A1,a1⟩:=aW (dB ((iV g l).length:Int));obtain⟨A2,a6⟩:=aW (dB ((fC g l).length:Int));obtain⟨A3,a7⟩:=aW (gY (gM g l));rw[<-a1]at h1 s1;simp only[<-a6]at h2 s2;simp only[<-a7]at h3 s3;have z:MX true X2 A1 A2 A3=vV g l:=by rw[d0.out];unfold KN;rw[<-J.out.1,<-J.out.2,e0.out,HX.out,F.out.1,F.out.2,I.out.1,I.out.2,a1,a6,a7]
     have Y:=aT z;have H1:=aT h1;have H2:=aT h2;have H3:=aT h3;clear z h1 h2 h3 a1 a6 a7;have e1:(⟨#[32,115,109,97,108,108,101,115,116,32]⟩:aB).size=10:=rfl;have e2:(⟨#[32,103,114,101,101,100,121,32]⟩:aB).size=8:=rfl;have e3:(⟨#[32,112,114,105,99,101,115,32]⟩:aB).size=8:=rfl;go_wp2_with fail;refine aV H1.out ?_;intro w9 b9;go_wp2_with fail;refine aV (H2.out w9) ?_;intro wa ba;have ba:=b9.after ba b9.size;go_wp2_with fail;refine aV (H3.out wa ba) ?_;intro wb bb;have bb:=ba.after bb ba.size;go_wp2;go_ret;exact⟨dA Y.out,B8.after bb B8.size⟩
   case first=>
    cases bT with
    |false=>go_wp2_with fail;go_meet;exact⟨X,rfl,rfl,bJ _ _⟩
    |true=>
     have G:=K4.cell;have Z:=G 0;simp only[List.getElem?_toArray,List.getElem?_cons_zero]at Z;have q0:∀y:Ext w4,y.w.cell? ⟨w,0,none⟩=some (aO g):=fun y=>y.cell Z;have O:=fun y:Ext w4=>iL (xD g l) ⟨aA,aA⟩ y.w;have R:=fun y:Ext w4=>kL g (qY g l) y.w;simp only[<-F.out.1]at O;simp only[<-F.out.2]at R;have O:=aT O;have R:=aT R;clear G Z;go_wp2_with fail;refine cW _ bM bM ?_
     repeat(first|go_big_quiet_skip|(go_big_quiet_want;go_big_quiet_op;first|go_big_quiet_on|(apply Exists.intro;refine⟨fun _=>?_,?_⟩;(first|(go_at_call 8;with_reducible exact dI (O.out _))|(go_at_call 22;with_reducible exact dI (R.out _)));go_big_quiet_on)))
     refine wpQuiet_nil ?_;rintro w5 ⟨⟨w5,b5⟩,rfl⟩
     try dsimp only
     go_wp2_with fail;go_meet;exact⟨_,rfl,rfl,b5⟩
  case first=>
   have G:=K1.cell;have Z:=G 0;simp only[List.getElem?_toArray,List.getElem?_cons_zero]at Z;have q0:∀y:Ext w2,y.w.cell? ⟨w,0,none⟩=some (aO g):=fun y=>y.cell Z;have O:=fun y:Ext w2=>iL ((oN g l).length:Int) ⟨aA,aA⟩ y.w;have R:=fun y:Ext w2=>lV g (oN g l) _ y.w (hP.keep y.b);simp only[<-I.out.1]at O;simp only[<-I.out.2]at R;have O:=aT O;have R:=aT R;clear G Z;refine cW _ bM bM ?_
   repeat(first|go_big_quiet_skip|(go_big_quiet_want;go_big_quiet_op;first|go_big_quiet_on|(apply Exists.intro;refine⟨fun _=>?_,?_⟩;(first|(go_at_call 8;with_reducible exact dI (O.out _))|(go_at_call 9;with_reducible exact dI (R.out _)));go_big_quiet_on)))
   refine wpQuiet_nil ?_;rintro w3 ⟨⟨w3,b3⟩,rfl⟩
   try dsimp only
   go_wp2_with fail;go_meet;exact⟨_,rfl,rfl,b3⟩
def wL(l:List Int)(s:Int):Bool:=xG (l++[s])
theorem at7(j:Nat)(h:j<l)(c b:aI):kU wL (l.drop j) c b=if c.length+(l.length-j)<=b.length then b else if wL c l[j] then kU wL (l.drop (j+1)) c (dT b (kU wL (l.drop (j+1)) (c++[l[j]]) (c++[l[j]]))) else kU wL (l.drop (j+1)) c b:=by
 rw[List.drop_eq_getElem_cons h,kU,List.length_drop,show l.length-(j+1)+1=l.length-j from aA]
theorem acH(lv:Value)(hm:∀x∈l,0<=x/\x<64)(hl:l.length<=64):∀(m k:Nat) (z:aI) (v:Value) (w:World) (B:Nat),k+m=l.length->Ints w lv l->bB 3 B w v z->(∀x∈z,0<=x/\x<64)->B<=w.heap.size->z.length+m<=64 ->
  Calls prog 113 #[lv,k,v] w fun e w'=>∃a i q,e=aQ (aD a i q)/\bB 3 B w' (aD a i q) (kU wL (l.drop k) z z)/\Below w w w':=by
 have HM:=aT hm;clear hm;intro m
 induction m using Nat.strongRecOn with
 |ind m ih=>
 intro k z v w B k4 e5 mF c9 hB hcm;have e6:=e5;obtain⟨a,b,h0,cp,rfl,e4,e0,hc,hb⟩:=e5.vw;obtain⟨av,cv,rfl⟩:=mF.shape;have HC:=aT hc;have f7:=aT e0;have IH:=aT ih;have f6:=aT c9;clear hc e0 ih e4 c9;go_enter func113,ntmps113;go_wp2_with fail;go_loopw [7,8] (fun bv iv wr=>∃(j:Nat) (x:aI) (p:Option Addr) (n q:Nat),k<=j/\j<=l/\iv=aO j/\bv=aD p n q/\bB 3 B wr (aD p n q) x/\x.length<=64/\kU wL (l.drop j) z x=kU wL (l.drop k) z z/\Below w w wr) (fun _ iv _=>l.length-(intOf iv).toNat)
 .exact⟨k,z,_,_,_,aU,aA,rfl,rfl,mF,aA,rfl,bJ _ _⟩
 obtain⟨j,y,p,n,q,k3,hj,rfl,rfl,ox,a9,S,K⟩:=hrel;have g5:=ox.ints.capLe.1;subst g5;by_cases hlt:j<l
 .have i1:(j:Int)<(l.length:Int):=aA;have b5:=bY HC.out hb K aU j hlt;have k2:=fun W=>f7.out W j hlt;have e8:=HM.out _ (aX hlt);have F:=at7 l j hlt z y;rw[S]at F;have yw:=K.size;have ol:=mF.keep K;have h8:z.length<=64:=aA;obtain⟨x,hx⟩:=aW (l[j]);rw[<-hx]at b5 e8 F;have k7:IntKind.i64.wrap ((z.length:Int)+(l.length:Int))=(z.length:Int)+(l.length:Int):=dV;have k8:IntKind.i64.wrap ((z.length:Int)+(l.length:Int)-(j:Int))=(z.length:Int)+(l.length:Int)-(j:Int):=dV;clear hx S;by_cases Y:z.length+(l.length-j)<=y.length
  .rw[if_pos Y]at F;have e7:(z.length:Int)+(l.length:Int)-(j:Int)<=(y.length:Int):=aA;have N:=aT F;clear F Y;go_wp2;go_ret;exact⟨_,_,_,rfl,by rw[N.out];exact ox,K⟩
  .rw[if_neg Y]at F
   have e7:¬(z.length:Int)+(l.length:Int)-(j:Int)<=(y.length:Int):=aA;have g6:z.length+1+(l.length-(j+1))<=64:=aA;have b6:∀e∈([]++z)++[x],0<=e/\e<64:=fun e he=>by
    rw[List.nil_append]at he;rcases dM.1 he with h|h
    .exact f6.out e h
    .rw[eM]at h;rw[h];exact e8
   have M:∀(v2:Value) (J:World),bB 3 wr J v2 (([]++z)++[x])->Calls prog 109 #[v2] J fun e w'=>e=aQ (aG (wL z x))/\Below J J w':=fun v2 J q1=>by have:=N9 (([]++z)++[x]) v2 J q1.ints b6 bO;exact this
   obtain⟨R,hR⟩:=aW (kU wL (l.drop (j+1)) (z++[x]) (z++[x]));have g0:R.length<=64:=by rw[hR];have h1:=CO wL (l.drop (j+1)) (z++[x]) (z++[x]);rw[bN,List.length_singleton,List.length_drop]at h1;omega
   have a8:∀(v2:Value) (J:World),bB 3 wr J v2 (([]++z)++[x])->Below wr wr J ->
     Calls prog 113 #[aD a l cp,aO ((j:Int)+1),v2] J fun e w'=>∃ad i q,e=aQ (aD ad i q)/\bB 3 wr w' (aD ad i q) R/\Below J J w':=fun v2 J q1 q2=>by
    rw[hR,show(j:Int)+1=((j+1:Nat):Int) from bF];have a6:=b6;rw[List.nil_append]at q1 a6;exact IH.out (l.length-(j+1)) aA (j+1) _ v2 J wr.heap.size aA (e6.below (K.after q2 K.size) aU) q1 a6 q2.size (by rw[bN,List.length_singleton];omega)
   rw[<-hR]at F;have c5:=aT a8;have b0:=aT M;have N:=aT F;have c6:([]:aI).length+z.length<=17592186044416:=bO;have c7:([]++z).length + [x].length<=17592186044416:=bO;have c8:fM x:=⟨aA,aA⟩;have k9:IntKind.i64.wrap ((j:Int)+1)=(j:Int)+1:=dV;have b8:=aT c6;have b9:=aT c7;have f9:=aT c8;clear a8 F hR c6 c7 c8 b6 M Y g6;go_wp2_with fail;go_region_held3 (fun w'=>w'.cell? ⟨b,h0+j,none⟩=some (aO x)) (go_keep)
    (first
     |(refine jT rfl _ _ _ rfl 3 underlying25 intElem wr.heap.size (aD (some ⟨_,0,none⟩) 0 0) [] rfl (aD av z cv) z rfl ?_ ?_ b8.out wr ?_ aU ?_;(first|(with_reducible exact(bB.lit0 wr aU).drew')|(with_reducible exact((bB.lit0 wr aU).alloc _).drew')|(with_reducible exact(bB.lit0' wr _).drew'));(first|(with_reducible exact(ol.ints.alloc _).drew')|(with_reducible exact((ol.ints.alloc _).alloc _).drew'));(first|(with_reducible exact(cQ wr _).drew)|(with_reducible exact(wU wr _ _).drew));(intro v1 w1 o1 b1 pc;have k5:=keep b1 b5))
     |(refine jT rfl _ _ _ rfl 3 underlying25 intElem wr.heap.size v1 ([]++z) rfl (aD (some ⟨_,0,none⟩) 1 1) [x] rfl ?_ ?_ b9.out wr ?_ aU ?_;(first|(with_reducible exact o1)|(with_reducible exact o1.alloc _));(refine Ints.one ?_ f9.out;first|(with_reducible exact cR _ _ _ _ _ rfl)|(with_reducible exact pc _ _ (uM _ _ _ _) (zW _ _ _))|(with_reducible exact pc _ _ (vT _ _ _ _) (zX _ _ _)));(first|(with_reducible exact b1)|(with_reducible exact b1.alloc b1.size _));(intro v2 J o2 b2 _;have k6:=keep b2 b5))
    )
   all_goals
    obtain⟨p2,n2,c2,rfl⟩:=o2.shape3;go_wp2_with fail;refine aV (b0.out _ J o2) ?_;intro w3 b3;have B3:=b2.after b3 b2.size;have o3:=o2.keep b3
    cases hT:wL z x with
    |false=>
     have D:kU wL (l.drop (j+1)) z y=kU wL (l.drop k) z z:=by rw[N.out,hT];rfl
     have I:=aT D;have Bz:=K.after B3 K.size;have oz:=ox.keep B3;clear D hT;go_wp2;go_roundw
     .exact⟨j+1,y,p,_,q,aA,aA,cD,rfl,oz,a9,I.out,Bz⟩
     exact aY
    |true=>
     have a1:kU wL (l.drop (j+1)) z (dT y R)=kU wL (l.drop k) z z:=by rw[N.out,hT];rfl
     have Z:=aT a1;clear a1 hT;go_wp2_with fail;refine(c5.out _ w3 o3 B3).mono ?_;rintro e w4 ⟨p4,i4,q4,rfl,o4,b4⟩;have g2:i4=R.length:=o4.ints.capLe.1;subst g2;have B4:=B3.after b4 B3.size;have Bz:=K.after B4 K.size;have oz:=ox.keep B4;by_cases O:y.length<R.length
     .have d0:(y.length:Int)<(R.length:Int):=aA;have hlo:dT y R=R:=by unfold dT;rw[if_pos O]
      have D:kU wL (l.drop (j+1)) z R=kU wL (l.drop k) z z:=by rw[<-Z.out,hlo]
      have I:=aT D;have g9:=o4.mono (B':=B) aA;clear hlo D O;go_wp2;go_roundw
      .exact⟨j+1,R,p4,_,q4,aA,aA,cD,rfl,g9,g0,I.out,Bz⟩
      exact aY
     .have d0:¬(y.length:Int)<(R.length:Int):=aA;have hlo:dT y R=y:=by unfold dT;rw[if_neg O]
      have D:kU wL (l.drop (j+1)) z y=kU wL (l.drop k) z z:=by rw[<-Z.out,hlo]
      have I:=aT D;clear hlo D O;go_wp2;go_roundw
      .exact⟨j+1,y,p,_,q,aA,aA,cD,rfl,oz,a9,I.out,Bz⟩
      exact aY
 .have g4:j=l.length:=aA;have a7:y=kU wL (l.drop k) z z:=by rw[<-S,g4,List.drop_length];rfl
  have f8:=aT a7;clear S a7;go_wp2;go_ret;exact⟨_,_,_,rfl,by rw[<-f8.out];exact ox,K⟩
theorem ajR{p:Prop}(h:p:=by
  refine cT ?_;intro Wf D;obtain⟨Kf,Bf⟩:=key Wf D;have Gf:=Kf.cell;clear D G1 G2 F2 key;exact bW (v:=aS #[aM #[aK,()],aG false]) (by simp[results,results71,go_sem,Gf]) rfl ⟨none,0,0,by rw[HN.out.1.1,HN.out.2],by rw[HN.out.1.2];exact Ints.empty _ _ _ _ rfl bZ,Bf⟩):p:=h
theorem amO(g:Int)(v:Value)(l:aI)(Z:Ints w v l):
  Calls prog 71 #[aM #[g,v]] w fun e w'=>∃ad i cp,e=aQ (aS #[aM #[(OA g l),aD ad i cp],aG (yP g l)])/\Ints w' (aD ad i cp) (wK g l)/\Below w w w':=by
 have e6:=Z;obtain⟨a,c,rfl⟩:=Z.shape;go_enter func71,ntmps71;go_wp2_with fail;refine cZ ?_;intro V Y;have B:Below w w V:=iJ Y;have K1:bK V w 29 #[g,aD a l c]:=iQ Y;have K2:bK V (w+1) 29 #[aK,()]:=jL Y;clear Y;refine aV (eA g l _ _ (Z.below B aU)) ?_;intro w1 J;have M:=K1.keep J;have F:=K2.keep J;have R:=B.after J B.size;have c5:=Z.below R aU;clear K1 K2 B J;have G1:=M.cell;have z1:=M.lt;have z2:=F.lt
 cases z:yP g l with
 |false=>
  have O:=And.intro (aiQ z) z;have HN:=aT O;have b9:cO g l=false\/(cO g l=true/\¬l.length<=12):=by
   unfold yP at z
   cases I:cO g l with
   |false=>exact .inl rfl
   |true=>rw[I]at z;simp at z;exact .inr ⟨rfl,aA⟩
  clear O z;have G2:=F.cell;have F2:=F.frozen;have key:∀Wf,Wf=(w1.setCell ⟨w+1,0,none⟩ (aO 0)).setCell ⟨w+1,1,none⟩ (aD none 0 0)->bK Wf (w+1) 29 #[aK,()]/\Below w w Wf:=fun Wf D=>by refine⟨?_,by rw[D];exact bX (bX R cK _) cK _⟩;rw[D];have:=(F.set 0 (aO 0)).set 1 (aD none 0 0);simpa using this
  rcases b9 with I|⟨I,e5⟩
  .rw[I];go_wp2;exact ajR
  .rw[I];have e0:(12:Int)<(l.length:Int):=aA;go_wp2;exact ajR
 |true=>
  have K:=And.intro (M4 z) z;have HY:=aT K;unfold yP at z;rw[fB,decide_eq_true_eq]at z;obtain⟨I,e4⟩:=z;have d0:¬(12:Int)<(l.length:Int):=aA;have N:∀W v,Below w1 w1 W->bB 3 w1 W v []->Calls prog 113 #[aD a l c,aK,v] W fun e w'=>∃a i q,e=aQ (aD a i q)/\bB 3 w1 w' (aD a i q) (kU nH l [] [])/\Below W W w':=fun W v h1 h2=>by have:=acH l _ (fS I) aA l.length 0 [] v W w1.heap.size aA (c5.below h1 aU) h2 bF h1.size bO;rw[List.drop_zero]at this;have e:kU wL l [] []=kU nH l [] []:=MP l [] [] anR bF (fun x hx=>(fS I x hx).1);rw[e]at this;exact this
  have b0:=aT N;rw[I];clear K I N;go_wp2_with fail;have G2:=F.cell;have F2:=F.frozen;go_region_held3 (fun w'=>w'.cell? ⟨w,0,none⟩=some (aO g)/\w'.cell? ⟨w,1,none⟩=some (aD a l c)) (go_keep)
   (first
    |(go_at_call 113;refine(b0.out _ _ (cQ w1 _).drew (bB.lit0 w1 aU).drew').mono ?_;rintro e w3 ⟨p3,i3,q3,rfl,o3,b6⟩;have S:=(cQ w1 (.cells #[] 3)).drew.after b6 (cQ w1 (.cells #[] 3)).drew.size;obtain⟨b7,b8⟩:=jN S w1.heap.size cK;have z3:=S.size;(try simp at z3)))
  go_wp2;refine cT ?_;intro Wf D;have Kf:bK Wf (w+1) 29 #[g,aD p3 i3 q3]:=by rw[D];have:=((F.keep S).set 0 (aO g)).set 1 (aD p3 i3 q3);simpa using this
  have Bf:Below w w Wf:=by rw[D];exact bX (bX (R.after S R.size) cK _) cK _
  have of:bB 3 w1 Wf (aD p3 i3 q3) (kU nH l [] []):=by rw[D];exact(o3.setBelow (by show w.heap.size+1<_;omega) _).setBelow (by show w.heap.size+1<_;omega) _
  have Gf:=Kf.cell;clear D G1 G2 F2 b7 b8;exact bW (v:=aS #[aM #[g,aD p3 i3 q3],aG true]) (by simp[results,results71,go_sem,Gf]) rfl ⟨_,_,_,by rw[HY.out.1.1,HY.out.2],by rw[HY.out.1.2];exact of.ints,Bf⟩
theorem alL(g:Int)(v:Value)(l:aI)(hv:Ints w v l)(hl:l.length<=1048576):
  aH 18 #[aM #[g,v]] w (aR (yQ g l)):=by
 have J:=hv;obtain⟨a,c,rfl⟩:=hv.shape;have K0:=bK.new w 29 #[g,aD a l c]
 cases hf:cO g l with
 |false=>have M:=aT (TN hf);have HF:=aT hf;clear hf;go_enter func18,ntmps18;go_wp2_with fail;refine aV (eA g l _ _ (J.alloc _)) ?_;intro w1 b1;rw[HF.out];go_wp2;go_ret;exact⟨dA M.out.symm,(cQ _ _).after b1 bF⟩
 |true=>
  have hcl:=SH g l;have k2:=wD g l;have k1:=(LI g l).1;have a8:yP g l=true->OA g l=g:=fun h=>(M4 h).1;have c6:=fun(W:World) (h:Ints W (aD a l c) l)=>amY W g _ l h;have c7:=fun(W:World) (h:Ints W (aD a l c) l)=>aiV W g _ l h;have a7:=fun(W:World) (h:Ints W (aD a l c) l)=>amO W g _ l h;have b9:=fun(W:World) (h:Ints W (aD a l c) l)=>auL W g _ l h;have c8:=fun(W:World) (h:Ints W (aD a l c) l)=>QB W g _ l h hl 3 ⟨aA,aA⟩;have c5:=fun(W:World) (v:Value) (h:Ints W v (kK g l 3))=>acF (kK g l 3) v W h;have h1:=fun W:World=>iL ((BY g l).length:Int) ⟨aA,aA⟩ W;have h2:=fun W:World=>iL ((gG g l).length:Int) ⟨aA,aA⟩ W;have h3:=fun(W:World) (v:Value) (h:Ints W v (wK g l))=>lV g (wK g l) v W h;have h4:=fun(W:World) (v:Value) (h:Ints W v (tB g l))=>zT (tB g l) v W h aA;have h5:=fun(W:World)=>kL g (rH (kK g l 3)) W;have s1:=eB ((BY g l).length:Int) ⟨aA,aA⟩;have s2:=eB ((gG g l).length:Int) ⟨aA,aA⟩;have s3:=gK g (wK g l);have s4:=QO g l;have s5:=gN g (rH (kK g l 3));have c9:PA (dB ((BY g l).length:Int)) (dB ((gG g l).length:Int))=TO g l:=rfl;have a9:E3 (⟨#[97,110,116,105,99,104,97,105,110]⟩:aB) (yP g l) (TO g l) (eG g (wK g l))=TP g l:=rfl;have b0:E3 (⟨#[105,110,116,101,114,118,97,108,115]⟩:aB) (DD g l) (TP g l) (gY (tB g l))=TQ g l:=rfl;have b4:E3 (⟨#[115,117,110,102,108,111,119,101,114]⟩:aB) (kG g l 3) (TQ g l) (dH g (rH (kK g l 3)))=yQ g l:=(JF hf).symm;have z1:=VK g l;have z2:=VL g l;have z3:=VM g l;obtain⟨bA,b5⟩:=aW (yP g l);obtain⟨bI,b6⟩:=aW (DD g l);obtain⟨bS,b7⟩:=aW (kG g l 3);rw[<-b5]at a8 a9;rw[<-b6]at b0;rw[<-b7]at b4;simp only[hf]at c6 c7;simp only[<-b5]at a7;simp only[<-b6]at b9;simp only[<-b7]at c8;obtain⟨N0,f3⟩:=aW (OA g l);simp only[<-f3]at a7 a8;obtain⟨A1,N⟩:=aW (dB ((BY g l).length:Int));obtain⟨A2,O⟩:=aW (dB ((gG g l).length:Int));obtain⟨A3,R⟩:=aW (eG g (wK g l));obtain⟨A4,S⟩:=aW (gY (tB g l));obtain⟨A5,Y⟩:=aW (dH g (rH (kK g l 3)));obtain⟨T1,Z⟩:=aW (TO g l);obtain⟨T2,a1⟩:=aW (TP g l);obtain⟨T3,a6⟩:=aW (TQ g l);obtain⟨K3,f2⟩:=aW (rH (kK g l 3));rw[<-N,<-O,<-Z]at c9;rw[<-R,<-Z,<-a1]at a9;rw[<-S,<-a1,<-a6]at b0;rw[<-Y,<-a6]at b4;rw[<-N]at s1;rw[<-O]at s2;rw[<-R]at s3;rw[<-S]at s4;rw[<-Y]at s5;rw[<-Z]at z1;rw[<-a1]at z2;rw[<-a6]at z3;simp only[<-N]at h1;simp only[<-O]at h2;simp only[<-R]at h3;simp only[<-S]at h4;simp only[<-Y]at h5;simp only[<-f2]at c5 h5;have g5:=aT c9;have d0:=aT a9;have e0:=aT b0;have e6:=aT b4;have H1:=aT h1;have H2:=aT h2;have H3:=aT h3;have H4:=aT h4;have H5:=aT h5;have HF:=aT hf;have f9:=aT a8;have g0:=aT c6;have g2:=aT c7;have f5:=aT a7;have f7:=aT b9;have g4:=aT c8;have f8:=aT c5;clear c9 a9 b0 b4 h1 h2 h3 h4 h5 hf a8 c6 c7 a7 b9 c8 c5 b5 b6 b7 f3 N O R S Y Z a1 a6 f2;have e1:(⟨#[111,114,100,101,114,32,99,104,97,105,110,32]⟩:aB).size=12:=rfl;have e2:(⟨#[32,108,101,118,101,108,115,32]⟩:aB).size=8:=rfl;have e3:(⟨#[32,97,110,116,105,99,104,97,105,110,32]⟩:aB).size=11:=rfl;have e4:(⟨#[32,105,110,116,101,114,118,97,108,115,32]⟩:aB).size=11:=rfl;have e5:(⟨#[32,115,117,110,102,108,111,119,101,114,32]⟩:aB).size=11:=rfl;go_enter func18,ntmps18;go_wp2_with fail;refine aV (eA g l _ _ (J.alloc _)) ?_;intro w0 b1;rw[HF.out];have B:Below w w w0:=(cQ _ _).after b1 bF;have K:=K0.keep b1;clear K0 b1;have G:=K.cell;go_wp2_with fail;refine(g0.out _ (J.below B aU)).mono ?_;rintro e w1 ⟨pC,iC,qC,rfl,oC,b2⟩;have g8:iC=(BY g l).length:=oC.ints.capLe.1;subst g8;have D:=B.after b2 B.size;have I:=K.keep b2;clear B K G b2 oC;have G:=I.cell;go_wp2_with fail;refine(g2.out _ (J.below D aU)).mono ?_;rintro e w2 ⟨pL,qL,rfl,oL,b2⟩;have B:=D.after b2 D.size;have K:=I.keep b2;clear D I G b2 oL;go_wp2_with fail;refine aV (H1.out w2) ?_;intro w3 z;have D:=B.after z B.size;have I:=K.keep z;clear B K z;go_wp2_with fail;refine aV (H2.out w3) ?_;intro w4 z;have B:=D.after z D.size;have K:=I.keep z;clear D I z;have F:=g5.out;unfold PA at F;have G:=K.cell;have e7:=aT F;clear F;go_wp2_with fail;refine(f5.out _ (J.below B aU)).mono ?_;rintro e w5 ⟨pA,iA,qA,rfl,hA,z⟩;have g7:iA=(wK g l).length:=hA.capLe.1;subst g7;have D:=B.after z B.size;have I:=K.keep z;clear B K z G;go_upto_if 43 with fail;go_cut [7] (fun v wx=>v=aR T2/\Below w5 w5 wx)
  case rest=>
   obtain⟨rfl,z⟩:=hcut;have B:=D.after z D.size;have K:=I.keep z;clear D I z hA;have G:=K.cell;go_wp2_with fail;refine(f7.out _ (J.below B aU)).mono ?_;rintro e w6 ⟨pI,iI,qI,rfl,oI,z⟩;have D:=B.after z B.size;have I:=K.keep z;clear B K z G;go_upto_if 54 with fail;go_cut [7] (fun v wx=>v=aR T3/\Below w6 w6 wx)
   case rest=>
    obtain⟨rfl,z⟩:=hcut;have B:=D.after z D.size;have K:=I.keep z;clear D I z oI;have G:=K.cell;go_wp2_with fail;refine(g4.out _ (J.below B aU)).mono ?_;rintro e w7 ⟨pS,iS,qS,rfl,oS,z⟩;have D:=B.after z B.size;have I:=K.keep z;clear B K z G
    cases bS with
    |false=>have F:T3=yQ g l:=e6.out;have M:=aT F;clear F;go_wp2;go_ret;exact⟨dA M.out,D⟩
    |true=>
     have F:T3++(⟨#[32,115,117,110,102,108,111,119,101,114,32]⟩:aB)++A5=yQ g l:=by rw[<-aa2];exact e6.out
     have M:=aT F;clear F;go_wp2_with fail;refine aV (f8.out _ _ oS.ints) ?_;intro w8 z;have B:=D.after z D.size;have K:=I.keep z;clear D I z;have G:=K.cell;go_wp2_with fail;refine aV (H5.out w8) ?_;intro w9 z;have D:=B.after z B.size;clear B K z G;go_wp2;go_ret;exact⟨dA M.out,D⟩
   case first=>
    cases bI with
    |false=>have F:T2=T3:=e0.out;have M:=aT F;clear F;go_wp2_with fail;go_meet;exact⟨by rw[M.out],bJ _ _⟩
    |true=>
     have F:T2++(⟨#[32,105,110,116,101,114,118,97,108,115,32]⟩:aB)++A4=T3:=by rw[<-aa1];exact e0.out
     have M:=aT F;clear F;go_wp2_with fail;refine aV (H4.out w6 _ oI.ints) ?_;intro w8 z;go_wp2_with fail;go_meet;exact⟨by rw[M.out],z⟩
  case first=>
   cases bA with
   |false=>have F:T1=T2:=d0.out;have M:=aT F;clear F;go_wp2_with fail;go_meet;exact⟨by rw[e7.out,M.out],cQ _ _⟩
   |true=>
    have g9:=(f9.out rfl).symm;subst g9;have F:T1++(⟨#[32,97,110,116,105,99,104,97,105,110,32]⟩:aB)++A3=T2:=by rw[<-aa0];exact d0.out
    have M:=aT F;clear F;go_wp2_with fail;refine aV (H3.out _ _ (hA.alloc _)) ?_;intro w8 z;go_wp2_with fail;go_meet;exact⟨by rw[e7.out,M.out],(cQ _ _).after z bF⟩
