/- Lemmas for CardRunConsole. No condition. -/
import Derived.Test.YtkdbkjjacgigiaaGreatDoorR12
set_option maxRecDepth 100000
set_option maxHeartbeats 64000000
namespace Go.Proofs.YtkdbkjjacgigiaaGreatDoor
section
open Go.RowKit Go.G5 Go.Proofs.Tryz
variable(w:World)(n:Int)(v:Value)(l:aI)
theorem P2(l o:aI)(hl:l.length=2^o.length)(D:∀k,(hk:k<l.length)->-1000<=l[k]/\l[k]<=1000)(F:∀x∈o,0<=x/\x<o.length):
  ∀x∈vU l o,-2000<=x/\x<=2000:=by
 have h:∀k,k<=o.length->∀x∈lJ l o k,-2000<=x/\x<=2000:=by
  intro k
  induction k with
  |zero=>intro _ x z;have:=List.eq_of_mem_replicate z;omega
  |succ k ih=>
   intro hk x z;rw[lJ]at z;rcases List.mem_or_eq_of_mem_set z with z|z
   .exact ih aA x z
   .rw[z];have hlt:k<o.length:=aA;have hm:=F _ (aX hlt);have I:=aaP o o.length k F aA;rw[bR,cG hlt,Option.getD_some];refine OX l _ _ aA ?_ D;rw[hl];exact gI _ _ _ I aA
 exact h o.length aU
theorem adP(h:∀x∈l,-2000<=x/\x<=2000)(e:Nat):-2000<=l.getD e 0/\l.getD e 0<=2000:=by
 rw[bR];by_cases z:e<l
 .rw[cG z];exact h _ (aX z)
 .rw[List.getElem?_eq_none aA];decide
theorem atW(os:List aI)(n:Nat)(hl:l.length=2^n)(z:∀k,(hk:k<l.length)->-1000<=l[k]/\l[k]<=1000)(F:∀o∈os,o.length=n/\∀x∈o,0<=x/\x<n)(e j:Nat)(I:j<=os):
  -2000*(j:Int)<=DS l os e j/\DS l os e j<=2000*(j:Int):=by
 induction j with
 |zero=>simp[DS]
 |succ j ih=>have h1:=ih aA;have D:=F _ (aX (show j<os.length from aA));have hb:=adP _ (P2 l os[j] (by rw[D.1];exact hl) z (by rw[D.1];exact D.2)) e;rw[DS,show os.getD j []=os[j] by rw[bR,cG (show j<os.length from aA)];rfl];omega
theorem ad8(hv:Ints w v l)(_:l.length<=1048576):
  Calls prog 182 #[aM #[n,v]] w fun e w'=>∃ad i cp,e=aQ (aD ad i cp)/\bB 3 w w' (aD ad i cp) (kR n l)/\Below w w w':=by
 obtain⟨a,c,rfl⟩:=hv.shape;go_enter func182,ntmps182;go_wp2_with fail;refine aV (fO n l _ _ (hv.alloc _)) ?_;intro w1 c8;have X1:=(Box2.new w n (aD a l c) 27).after c8;clear c8
 cases hf:cS n l with
 |false=>
  have hx:kR n l=[]:=by unfold kR;rw[hf];rfl
  have HX:=aT hx;obtain⟨I,d1,B1,z1⟩:=X1;clear hx;go_wp2;go_ret;exact⟨none,0,0,rfl,by rw[HX.out];exact bB.nil _ _ _,B1⟩
 |true=>
  obtain⟨h0,h5,hl,e9⟩:=nE hf;obtain⟨N,rfl⟩:=cN h0;have hN:N<=5:=aA;have e8:l.length=2^N:=by
   have:((l.length:Nat):Int)=((2^N:Nat):Int):=by push_cast;exact hl
   exact_mod_cast this
  have hx:kR N l=qU l (eV N N) N (eV N N).length:=by unfold kR;rw[if_pos hf,al7 N hN];rfl
  have f2:=acO N hN N;have i8:(5:Nat)^N<=5^5:=bQ bZ hN;have Y:=xA N N;have c5:=fun W=>aaC N hN W;obtain⟨os,f3⟩:=aW (eV N N);rw[<-f3]at hx f2 Y c5;have l3:os.length<=3125:=aA;have HX:=aT hx;have a9:=aT Y;have h7:=aT c5;have b3:=aT e9;have b4:=aT e8;have n3:=X1.z;clear hx f2 i8 Y c5 f3 hl e9 e8 hf;obtain⟨I,d1,B1,z1⟩:=X1;go_wp2_with (at_make;refine nP rfl _ _ _ rfl 3 underlying25 intElem N _ _ rfl rfl rfl rfl aA ?_;intro w2 a1 hg;have X2:=(Box2.mk I d1 B1 z1).grow hg bF;have n0:=hg.size;have rO:=a1.lt;clear hg I d1;obtain⟨I,d1,B2,z2⟩:=X2);refine(h7.out _).mono ?_;rintro e w3 ⟨p3,i3,q3,rfl,oL,J⟩;have X3:=(Box2.mk I d1 B2 z2).after J;have a6:=a1.keep J;obtain⟨o0,o2,e3,_⟩:=oL.len;simp only[Value.slice.injEq]at e3;obtain⟨rfl,rfl,rfl⟩:=e3;have z3:=J.size;have b0:w1.heap.size<w2.heap.size:=(rO _ rfl).2;clear I d1 a1 J B2 z2;go_wp2_with fail;go_loopw [18] (fun i wr=>∃j:Nat,j<=os/\i=aO j/\bB 3 w1 wr (aD (some ⟨w1,0,none⟩) N N) (qU l os N j)/\eR 3 25 w2.heap.size wr (aD p3 os q3) os/\Box2 w wr N (aD a l c)/\w2.heap.size<=wr.heap.size)
   (fun i _=>os.length-(intOf i).toNat)
  .exact⟨0,aZ _,rfl,by rw[al2];exact a6,oL,X3,z3⟩
  obtain⟨j,hj,rfl,K,oL,X,zr⟩:=hrel;obtain⟨wo,rfl⟩:∃wo:World,wo=wr:=⟨_,rfl⟩;clear X3 a6;by_cases hlt:j<os
  .obtain⟨g,u,j4,b7,hu⟩:=oL.view prog 77 underlying77 pU j hlt;have D:=a9.out _ (aX hlt);have b8:os.getD j []=os[j]:=by rw[bR,cG hlt];rfl
   obtain⟨o,ho⟩:=aW (os[j]);rw[<-ho]at hu D b8;obtain⟨au,nu,cu,rfl⟩:=hu.shape3;have hcl:(vU l o).length=N:=by unfold vU;rw[C0];exact D.1
   have b6:=P2 l o (by rw[D.1];exact b4.out) b3.out (by rw[D.1];exact D.2);have b5:∀(W:World),Ints W (aD a l c) l->Ints W (aD au nu cu) o->Calls prog 264 #[aM #[(N:Int),aD a l c],aD au nu cu] W fun e w'=>∃ad i c,e=aQ (aD ad i c)/\bB 3 W w' (aD ad i c) (vU l o)/\Below W W w':=
    fun W h1 h2=>aeW N l o _ _ W h1 h2 (by rw[D.1];exact hN) (by rw[D.1];exact b4.out) b3.out (by rw[D.1];exact D.2)
   have f4:=fun e j' (h:j'<=os.length)=>atW l os N b4.out b3.out a9.out e j' h;have F:∀e,DS l os e (j+1)=DS l os e j+(vU l o).getD e 0:=fun e=>by rw[DS,b8]
   obtain⟨C,hC⟩:=aW (vU l o);rw[<-hC]at hcl b6 b5 F;have g7:=aT b6;have g6:=aT b5;have h8:=aT f4;have h9:=aT F;have HW:=aT K;have h6:=aT oL;obtain⟨I,d1,B3,f8⟩:=X;have j9:=hv.below B3 aU;clear hC b6 b5 f4 F ho D b8 K oL;go_wp2_with fail;refine(g6.out _ j9 hu.ints).mono ?_;rintro e w4 ⟨p4,i4,q4,rfl,oC,O⟩;obtain⟨o1,o4,e4⟩:=oC.shape;simp only[Value.slice.injEq]at e4;obtain⟨rfl,rfl,rfl⟩:=e4;rw[hcl]at oC |-;have X4:=(Box2.mk I d1 B3 f8).after O;have f6:=HW.out.keep O;have f5:=h6.out.keep O;have z4:=O.size;have rC:=oC.lt;clear I d1 j4 b7 hu O;go_wp2_with fail;go_loopw [26] (fun i wr=>∃e:Nat,e<=N/\i=aO e/\bB 3 w1 wr (aD (some ⟨w1,0,none⟩) N N) ((qU l os N (j+1)).take e++(qU l os N j).drop e)/\bB 3 wo wr (aD p4 N q4) C /\
     eR 3 25 w2.heap.size wr (aD p3 os q3) os/\Box2 w wr N (aD a l c)/\w2.heap.size<=wr.heap.size)
    (fun i _=>N-(intOf i).toNat)
   .exact⟨0,aZ _,rfl,by simpa using f6,oC,f5,X4,aA⟩
   obtain⟨e,he,rfl,K,oC,oL,X,zi⟩:=hrel;obtain⟨wi,rfl⟩:∃wi:World,wi=wr:=⟨_,rfl⟩;clear f6 f5 X4;obtain⟨I,d1,B4,f9⟩:=X;by_cases j2:e<N
   .have S:(qU l os N (j+1)).length=N:=JO _ _ _ _;have f0:(qU l os N j).length=N:=JO _ _ _ _;have Z:=aq6 (qU l os N (j+1)) (qU l os N j) e aA aA;have c9:=K.cellAt (by rw[Z,S]) e (by rw[Z,S];exact j2);rw[aq5 _ _ _ aA aA,aaU]at c9;have m9:=K.frozenAt (by rw[Z,S]) e;obtain⟨aC,bC,l7,cC,eC,j5,R,e5,m7⟩:=oC.ints.vw;simp only[Value.slice.injEq]at eC;obtain⟨rfl,eN,rfl⟩:=eC;rw[hcl]at R;have e0:=e5 e aA;have e6:C[e]=C.getD e 0:=by rw[bR,cG (show e<C.length from aA)];rfl
    rw[e6]at e0;have j0:=adP C g7.out e;have J:=h8.out e j hj;have F:=h9.out e;obtain⟨x,hx⟩:=aW (DS l os e j);obtain⟨y,hy⟩:=aW (C.getD e 0);rw[<-hx]at c9 J F;rw[<-hy]at e0 j0 F;have c6:=K.stored (by rw[Z,S]) e (x+y) ⟨aA,aA⟩;have b9:=aoH (qU l os N (j+1)) (qU l os N j) e aA aA;rw[aaU,F]at b9;rw[b9]at c6;have M:=aT c6;have g8:=aT oC;have g9:=aT oL;have l1:=R;have m8:(0:Int)<=(e:Int):=Int.natCast_nonneg _;have l0:(e:Int)<(N:Int):=aA;have m3:=aT hcl;clear eN hcl S f0 Z K hx hy F b9 c6 oC oL e6 e5 R;go_wp2;go_roundw
    .exact⟨e+1,aA,cD,M.out.1,g8.out.grow M.out.2 (fun q hq j6=>by cases hq;have:=(rC _ j6).1;have:=b0;omega),g9.out.growLow M.out.2 b0,(Box2.mk I d1 B4 f9).grow M.out.2 bO,by have:=M.out.2.size;omega⟩
    exact aY
   .have j1:e=N:=aA;subst j1;have j7:(qU l os e (j+1)).take e++(qU l os e j).drop e=qU l os e (j+1):=by rw[List.take_of_length_le (by rw[JO];exact aU),List.drop_eq_nil_of_le (by rw[JO];exact aU),List.append_nil]
    rw[j7]at K;go_wp2;go_roundw
    .exact⟨j+1,aA,cD,K,oL,⟨I,d1,B4,f9⟩,zi⟩
    exact aY
  .have e7:os.length=j:=aA;obtain⟨I,d1,B3,f8⟩:=X;rw[<-e7]at K;have HW:=aT K;clear K e7;go_wp2;go_ret;exact⟨_,_,_,rfl,by rw[HX.out];exact HW.out.mono B1.size,B3⟩
theorem aeI(g N s:Nat)(l:aI)(v:Value)(hv:Ints w v l)(K:bK w g 27 #[N,v])(hs:s<l)(b3:l.length=2^N)(hN:N<=5):
  aH 277 #[(s:Int),aP (some ⟨g,0,none⟩)] w (aG (mV l s)):=by
 have a8:=hv;obtain⟨a,b,a9,c,rfl,a6,R,hc,hb⟩:=hv.vw;have c6:(2:Nat)^N<=32:=bQ (n:=2) bZ hN;have c5:0<(2:Nat)^N:=dJ N;have F:l.length-1<l.length:=aA;have a7:((l.length-1:Nat):Int)=2^N-1:=by have:((2^N:Nat):Int)=(2:Int)^N:=bF;omega
 have ck:=hc s hs;have M:=hc (l.length-1) F;have ik:=fun W=>R W s hs;have b5:=fun W=>R W (l.length-1) F;rw[a7]at b5;have hg:l.getD s 0=l[s]:=cJ l s hs;have a1:oY l=l[l.length-1]:=cJ l _ F;have z:mV l s=(gJ l s&&decide (l[s]=oY l)):=by unfold mV;rw[hg]
 obtain⟨x,hx⟩:=aW (l[s]);obtain⟨t,ht⟩:=aW (oY l);rw[<-hx,<-ht]at z;rw[<-hx]at ck;rw[<-a1,<-ht]at M;have e0:∀y:Ext w,y.w.cell? ⟨g,0,none⟩=some (aO N):=fun y=>y.cell (K.cell 0);have e1:∀y:Ext w,y.w.cell? ⟨g,1,none⟩=some (aD a l c):=fun y=>y.cell (K.cell 1);have e2:∀y:Ext w,y.w.cell? ⟨b,a9+s,none⟩=some (aO x):=fun y=>y.cell ck;have e3:∀y:Ext w,y.w.cell? ⟨b,a9+(l.length-1),none⟩=some (aO t):=fun y=>y.cell M;have D:∀y:Ext w,Calls prog 278 #[aM #[(N:Int),aD a l c],s] y.w fun e w'=>e=aQ (aG (gJ l s))/\Below y.w.heap.size y.w w':=fun y=>wA y.w N _ l (y.ints a8) s hs aA;have Z:∀y:Ext w,Calls prog 272 #[aM #[(N:Int),aD a l c]] y.w fun e w'=>e=aQ (aO (2^N-1))/\Below y.w.heap.size y.w w':=fun y=>by have:=vA (N:Int) (aD a l c) l y.w (y.ints a8) aA aA;rw[cA]at this;exact this
 have Y:=aT Z;clear hc R hb hg a1 hx ht ck M Z a7 a6 b3
 cases S:gJ l s with
 |false=>
  rw[S]at z;simp only[S]at D;have I:=aT z;have J:=aT D;clear z D S;go_enter func277,ntmps277;go_wp2_with fail;refine cW _ bM bM ?_
  repeat(first|go_big_quiet_skip|(go_big_quiet_want;go_big_quiet_op;first|go_big_quiet_on|(apply Exists.intro;refine⟨fun _=>?_,?_⟩;(first|(go_at_call 278;exact dI (J.out _))|(go_at_call 272;exact dI (Y.out _)));go_big_quiet_on)))
  refine wpQuiet_nil ?_;rintro w3 ⟨⟨w3,O⟩,rfl⟩
  try dsimp only
  go_wp2;go_ret;exact⟨cP (by rw[I.out];rfl),O⟩
 |true=>
  rw[S]at z;simp only[S]at D;have I:=aT z;have J:=aT D;clear z D S;go_enter func277,ntmps277;go_wp2_with fail;refine cW _ bM bM ?_
  repeat(first|go_big_quiet_skip|(go_big_quiet_want;go_big_quiet_op;first|go_big_quiet_on|(apply Exists.intro;refine⟨fun _=>?_,?_⟩;(first|(go_at_call 278;exact dI (J.out _))|(go_at_call 272;exact dI (Y.out _)));go_big_quiet_on)))
  refine wpQuiet_nil ?_;rintro w3 ⟨⟨w3,O⟩,rfl⟩
  try dsimp only
  go_wp2;go_ret;exact⟨cP (by rw[I.out,Bool.true_and];exact xW _ _),O⟩
theorem NI:∀args w,(callFunc 277 args).run prog w=.ok (.enter 277 args) w:=enters_of func277 bM rfl
theorem aeR(g N s:Nat)(l:aI)(v:Value)(F:Ints w v l)(K:bK w g 27 #[N,v])(M:s<l)(J:l.length<=32):
  aH 279 #[(s:Int),aP (some ⟨g,0,none⟩)] w (aG (xO l s)):=by
 have D:=F;obtain⟨a,c,rfl⟩:=F.shape;have G:=K.cell;have z:=K.lt;go_enter func279,ntmps279;go_wp2_with fail;refine aV (wA w N _ l D s M aA) ?_;intro w1 I;go_wp2;go_ret;exact⟨cP (by unfold xO;cases gJ l s<;>rfl),I⟩
theorem NL:∀args w,(callFunc 279 args).run prog w=.ok (.enter 279 args) w:=enters_of func279 bM rfl
theorem XJ(hv:Ints w v l)(hl:l.length<=1048576):
  Calls prog 201 #[aM #[n,v]] w fun e w'=>∃ad i S,e=aQ (aS #[aM #[(lE n l),aD ad i S],aG (eX n l)])/\bB 3 w w' (aD ad i S) (iX n l)/\Below w w w':=by
 obtain⟨a,c,rfl⟩:=hv.shape;go_enter func201,ntmps201;go_wp2_with fail;refine cZ ?_;intro V hV;have B:Below w w V:=iJ hV;have K1:bK V w 27 #[n,aD a l c]:=iQ hV;have K:bK V (w+1) 29 #[aK,()]:=jL hV;clear hV;refine aV (pQ n l _ _ (hv.below B aU) hl) ?_;intro w1 F;have J:=K1.keep F;have D:=K.keep F;have R:=B.after F B.size;have G1:=J.cell;have G2:=D.cell;have F2:=D.frozen;have z1:=J.lt;have z2:=D.lt;have b9:=hv.below R aU;clear K1 K B F
 cases I:eX n l with
 |false=>
  have Z:lE n l=0:=by unfold lE;rw[I];rfl
  have Y:iX n l=[]:=by unfold iX;rw[I];rfl
  have HN:=aT Z;have HL:=aT Y;have HF:=aT I;clear Z Y;go_wp2;refine cT ?_;intro Wf z;have M:bK Wf (w+1) 29 #[aK,()]:=by rw[z];have:=(D.set 0 (aO 0)).set 1 (aD none 0 0);simpa using this
  have Bf:Below w w Wf:=by rw[z];exact bX (bX R cK _) cK _
  have Gf:=M.cell;clear z G1 G2 F2;exact bW (v:=aS #[aM #[aK,()],aG false]) (by simp[results,results201,go_sem,Gf]) rfl ⟨none,0,0,by rw[HN.out,HF.out],by rw[HL.out];exact bB.nil _ _ _,Bf⟩
 |true=>
  obtain⟨N,rfl,h5,O,c7,_⟩:=eJ (mZ I);have Z:lE N l=N:=by unfold lE;rw[I];rfl
  have Y:iX N l=dE (mV l) (2^N):=by unfold iX;rw[I,if_pos rfl,O]
  have HN:=aT Z;have HL:=aT Y;have HF:=aT I;have a6:Calls prog 276 #[(N:Int),.func (.func 277) #[] #[aP (some ⟨w,0,none⟩)]] w1 fun e w'=>
    ∃ad i S,e=aQ (aM #[(N:Int),aD ad i S])/\bB 3 w1 w' (aD ad i S) (dE (mV l) (2^N))/\Below w1 w1 w':=
   CE w1 N aA 277 NI w.heap.size (mV l) (fun s W' hs hB=>aeI W' w.heap.size N s l _ (b9.keep hB) (J.keep hB) aA O h5)
  have b4:=aT a6;clear Z Y a6 I O;go_wp2_with fail;refine b4.out.mono ?_;rintro e w3 ⟨p3,i3,q3,rfl,o3,a1⟩;have B3:=R.after a1 R.size;have K:=D.keep a1;clear G1 G2 F2;have G2:=K.cell;have F2:=K.frozen;have z5:=K.lt;have y1:=R.size;go_wp2;refine cT ?_;intro Wf z;have M:bK Wf (w+1) 29 #[N,aD p3 i3 q3]:=by rw[z];have:=(K.set 0 (aO N)).set 1 (aD p3 i3 q3);simpa using this
  have Bf:Below w w Wf:=by rw[z];exact bX (bX B3 cK _) cK _
  have of:bB 3 w Wf (aD p3 i3 q3) (dE (mV l) (2^N)):=by rw[z];exact((o3.setBelow cK _).setBelow cK _).mono cK
  have Gf:=M.cell;clear z G2 F2;exact bW (v:=aS #[aM #[N,aD p3 i3 q3],aG true]) (by simp[results,results201,go_sem,Gf]) rfl ⟨p3,i3,q3,by rw[HN.out,HF.out],by rw[HL.out];exact of,Bf⟩
theorem asN(hv:Ints w v l)(hl:l.length<=1048576):
  Calls prog 202 #[aM #[n,v]] w fun e w'=>∃ad i I,e=aQ (aS #[aM #[(lE n l),aD ad i I],aG (eX n l)])/\bB 3 w w' (aD ad i I) (jW n l)/\Below w w w':=by
 obtain⟨a,c,rfl⟩:=hv.shape;go_enter func202,ntmps202;go_wp2_with fail;refine cZ ?_;intro V hV;have B:Below w w V:=iJ hV;have K1:bK V w 27 #[n,aD a l c]:=iQ hV;have F:bK V (w+1) 29 #[aK,()]:=jL hV;clear hV;refine aV (pQ n l _ _ (hv.below B aU) hl) ?_;intro w1 J;have M:=K1.keep J;have D:=F.keep J;have S:=B.after J B.size;have G1:=M.cell;have G2:=D.cell;have F2:=D.frozen;have z1:=M.lt;have z2:=D.lt;have e8:=hv.below S aU;clear K1 F B J
 cases K:eX n l with
 |false=>
  have hN:lE n l=0:=by unfold lE;rw[K];rfl
  have hL:jW n l=[]:=by unfold jW;rw[K];rfl
  have HN:=aT hN;have HL:=aT hL;have HF:=aT K;clear hN hL;go_wp2;refine cT ?_;intro Wf z;have O:bK Wf (w+1) 29 #[aK,()]:=by rw[z];have:=(D.set 0 (aO 0)).set 1 (aD none 0 0);simpa using this
  have Bf:Below w w Wf:=by rw[z];exact bX (bX S cK _) cK _
  have Gf:=O.cell;clear z G1 G2 F2;exact bW (v:=aS #[aM #[aK,()],aG false]) (by simp[results,results202,go_sem,Gf]) rfl ⟨none,0,0,by rw[HN.out,HF.out],by rw[HL.out];exact bB.nil _ _ _,Bf⟩
 |true=>
  obtain⟨N,rfl,h5,a8,a9,_⟩:=eJ (mZ K);have hN:lE N l=N:=by unfold lE;rw[K];rfl
  have hL:jW N l=lF (dE (xO l) (2^N)):=by unfold jW;rw[K,if_pos rfl,a8]
  have HN:=aT hN;have HL:=aT hL;have HF:=aT K;have a7:Calls prog 276 #[(N:Int),.func (.func 279) #[] #[aP (some ⟨w,0,none⟩)]] w1 fun e w'=>
    ∃ad i I,e=aQ (aM #[(N:Int),aD ad i I])/\bB 3 w1 w' (aD ad i I) (dE (xO l) (2^N))/\Below w1 w1 w':=
   CE w1 N aA 279 NL w.heap.size (xO l) (fun s W' hs hB=>aeR W' w.heap.size N s l _ (e8.keep hB) (M.keep hB) aA a9)
  have b0:=jD (xO l) (2^N);have b1:∀(W:World) (ad:Option Addr) (i I:Nat),Ints W (aD ad i I) (dE (xO l) (2^N))->Calls prog 280 #[aM #[(N:Int),aD ad i I]] W fun e w'=>
    ∃Y i' Z,e=aQ (aS #[aM #[(N:Int),aD Y i' Z],aG true])/\bB 3 W w' (aD Y i' Z) (lF (dE (xO l) (2^N)))/\Below W W w':=fun W ad i I hW=>
   OD N _ _ W hW aA (PX _ N aA)
  have c8:=aT a7;have e0:=aT b1;clear hN hL a7 b1 K a8 b0;go_wp2_with fail;refine c8.out.mono ?_;rintro e w3 ⟨p3,i3,q3,rfl,o3,R⟩;have B3:=S.after R S.size;have F:=D.keep R;clear G1 G2 F2;go_wp2_with fail;refine(e0.out _ p3 i3 q3 (o3.alloc _).ints).mono ?_;rintro e w5 ⟨p5,i5,q5,rfl,o5,e6⟩;have b5:Below w3 w3 w5:=(cQ w3 _).after e6 bF;have B5:=B3.after b5 B3.size;have F:=F.keep b5;have G2:=F.cell;have F2:=F.frozen;have z5:=F.lt;have y3:=B3.size;have y1:=S.size;have z6:=R.size;have z7:=b5.size;go_wp2;refine cT ?_;intro Wf z;have O:bK Wf (w+1) 29 #[N,aD p5 i5 q5]:=by rw[z];have:=(F.set 0 (aO N)).set 1 (aD p5 i5 q5);simpa using this
  have Bf:Below w w Wf:=by rw[z];exact bX (bX B5 cK _) cK _
  have of:bB 3 w Wf (aD p5 i5 q5) (lF (dE (xO l) (2^N))):=by rw[z];have e9:=o5.mono (B':=w3.heap.size) bF;exact((e9.setBelow cK _).setBelow cK _).mono cK
  have Gf:=O.cell;clear z G2 F2;exact bW (v:=aS #[aM #[N,aD p5 i5 q5],aG true]) (by simp[results,results202,go_sem,Gf]) rfl ⟨p5,i5,q5,by rw[HN.out,HF.out],by rw[HL.out];exact of,Bf⟩
theorem aq8(t s:Nat):((t:Int)==(s:Int))=decide (t=s):=by
 by_cases h:t=s
 .subst h;simp
 .rw[bG h,dZ];omega
theorem aiJ{N s:Nat}(h:s<2^N):gL N (s:Int)=true:=by
 unfold gL;have:((2^N:Nat):Int)=(2:Int)^N:=bF;simp only[Bool.and_eq_true,decide_eq_true_eq];omega
theorem akQ{p:Prop}(h:p:=by
  have b1:=aT z;clear z hz;go_wp2_with (go_at_call 266;refine aV a9.out ?_;intro w3 b3);go_roundw
  .exact⟨k+1,aA,cD,by rw[b1.out],B.after b3 B.size⟩
  exact aY):p:=h
theorem ahK(N:Nat)(v:Value)(l:aI)(hv:Ints w v l)(hl:l.length<=1048576)(hf:gU N l=true)(s:Nat)(hs:s<2^N):
  aH 345 #[aM #[(N:Int),v],s] w (rU l s N):=by
 have a1:=hv;obtain⟨a,c,rfl⟩:=hv.shape;have K0:=bK.new w 27 #[(N:Int),aD a l c];obtain⟨_,hN,h5,b8,e4,S⟩:=eJ (uA hf);have hN:=Int.ofNat.inj hN;subst hN;have hg:∀k W,k<N->Ints W (aD a l c) l->Calls prog 266 #[aM #[(N:Int),aD a l c],(s:Int),(k:Int)] W fun e' w'=>e'=aQ (fW l s k)/\Below W W w':=fun k W hk hW=>by have h1:=gI s k N hs hk;exact IX N l _ s k W hW aA aA aA aA S
 have F:=ON l s N hs;have a8:=aT F;have HG:=aT hg;have HF:=aT hf;have b0:=aT (aiJ hs);have f8:(2:Nat)^N<=32:=bQ (n:=2) bZ h5;obtain⟨R,hR⟩:=aW (rU l s N);rw[<-hR];have HR:=aT hR;clear F hg hf S hR b8;go_enter func345,ntmps345;go_wp2_with fail;refine aV (yD N l _ _ (a1.alloc _) hl) ?_;intro w1 I;rw[HF.out];have B1:Below w w w1:=(cQ _ _).after I bF;have K1:=K0.keep I;have c5:=a1.below B1 aU;clear I K0;have G:=K1.cell;go_wp2_with (go_at_call 273;refine aV (uO N s _ aA) ?_;rintro w2 rfl;rw[b0.out]);go_loopw [5,20] (fun ov iv wr=>∃k:Nat,k<=N/\iv=aO k/\ov=aO (rU l s k)/\Below w1 w1 wr) (fun _ iv _=>N-(intOf iv).toNat)
 .exact⟨0,aZ _,rfl,rfl,bJ _ _⟩
 obtain⟨k,hk,rfl,rfl,B⟩:=hrel;obtain⟨wo,rfl⟩:∃wo:World,wo=wr:=⟨_,rfl⟩;clear G;have K:=K1.keep B;have G:=K.cell;by_cases b7:k<N
 .have M:(k:Int)<(N:Int):=aA;have z:rU l s (k+1)=if fW l s k=0 then dF (rU l s k) k else rU l s k:=rfl;have hlt:=a8.out k hk;have J:=HG.out k wo b7 (c5.below B aU);have Y:=iU (rU l s k) k aA aA;obtain⟨t,ht⟩:=aW (rU l s k);obtain⟨t2,Z⟩:=aW (dF t k);obtain⟨x,hx⟩:=aW (fW l s k);rw[<-ht]at z hlt Y |-;rw[<-Z]at z Y;rw[<-hx]at z J;have a9:=aT J;have D:=dW k 6 aA;have f6:(2:Int)^k<=64:=by simpa using D.1
  have f7:=D.2;have f5:(0:Int)<=(k:Int):=Int.natCast_nonneg _;clear ht Z hx J D;by_cases hz:x=0
  .rw[if_pos hz]at z;have c6:(x==0)=true:=by simp[hz]
   exact akQ
  .rw[if_neg hz]at z;have c6:(x==0)=false:=by simp[hz]
   exact akQ
 .have M:¬(k:Int)<(N:Int):=aA;have O:k=N:=aA;subst O;rw[<-HR.out];go_wp2;go_ret;exact⟨rfl,B1.after B B1.size⟩
theorem afG(N:Nat)(v:Value)(l:aI)(I:Ints w v l)(hl:l.length<=1048576)(M:gU N l=true)(s:Nat)(O:s<2^N):
  aH 281 #[aM #[(N:Int),v],s] w (aG (oQ l N s)):=by
 have F:=I;obtain⟨a,c,rfl⟩:=I.shape;have hc:=fun W (h:Ints W (aD a l c) l)=>ahK W N _ l h hl M s O;have z:=aeT l s N;obtain⟨t,ht⟩:=aW (rU l s N);simp only[<-ht]at hc;rw[<-ht]at z;have J:=aT hc;have D:=aT z;have R:(0:Int)<=(s:Int):=Int.natCast_nonneg _;clear hc z ht;go_enter func281,ntmps281;go_wp2_with fail;refine aV (J.out _ (F.alloc _)) ?_;intro w1 K;go_wp2;go_ret;exact⟨cP (by rw[<-D.out];exact aq8 t s),(cQ _ _).after K bF⟩
theorem asY(hv:Ints w v l)(hl:l.length<=1048576):
  Calls prog 203 #[aM #[n,v]] w fun e w'=>∃ad i cp,e=aQ (aS #[aD ad i cp,aG (gU n l)])/\bB 3 w w' (aD ad i cp) (rD n l)/\Below w w w':=by
 have O:=hv;obtain⟨a,c,rfl⟩:=hv.shape;have K0:=bK.new w 27 #[n,aD a l c]
 cases J:gU n l with
 |false=>
  have R:rD n l=[]:=by unfold rD;rw[J];rfl
  have HL:=aT R;have HF:=aT J;clear R J;go_enter func203,ntmps203;go_wp2_with fail;refine aV (yD n l _ _ (O.alloc _) hl) ?_;intro w1 F;rw[HF.out];go_wp2;go_ret2;exact⟨none,0,0,rfl,by rw[HL.out];exact bB.nil _ _ _,(cQ _ _).after F bF⟩
 |true=>
  obtain⟨N,rfl,h5,b8,e4,b9⟩:=eJ (uA J);have R:rD N l=dE (oQ l N) l.length:=by unfold rD;rw[J];rfl
  have M:=fun(W:World) (h:Ints W (aD a l c) l) (s:Nat) (hs:s<l)=>afG W N _ l h hl J s aA;obtain⟨P,hP⟩:=aW (oQ l N);rw[<-hP]at R;simp only[<-hP]at M;have HL:=aT R;have HF:=aT J;have b4:=aT M;clear R J M hP b9 b8;go_enter func203,ntmps203;go_wp2_with fail;refine aV (yD N l _ _ (O.alloc _) hl) ?_;intro w1 F;rw[HF.out];have B1:Below w w w1:=(cQ _ _).after F bF;have K1:=K0.keep F;have c6:=O.below B1 aU;clear F K0;have G:=K1.cell;go_wp2_with fail;go_loopw [4,12] (fun ov iv wr=>∃(k:Nat) (p:Option Addr) (i q:Nat),k<=l/\iv=aO k/\ov=aD p i q/\bB 3 w1 wr (aD p i q) (dE P k)/\Below w1 w1 wr) (fun _ iv _=>l.length-(intOf iv).toNat)
  .exact⟨0,_,_,_,aZ _,rfl,rfl,bB.nil _ _ _,bJ _ _⟩
  obtain⟨k,p,i,q,hk,rfl,rfl,ho,B⟩:=hrel;obtain⟨wo,rfl⟩:∃wo:World,wo=wr:=⟨_,rfl⟩;clear G;have K:=K1.keep B;have G:=K.cell;by_cases b7:k<l
  .have a6:(k:Int)<(l.length:Int):=aA;have a1:=gV P k;have e9:(dE P k).length<=64:=dC (jD P k) aA;have S:=aT a1;clear a1;have Y:=aT (b4.out wo (c6.below B aU) k b7)
   cases I:P k with
   |false=>
    have D:=aT I;clear I;go_wp2_with fail;refine aV Y.out ?_;intro w3 Z;rw[D.out];go_wp2;go_roundw
    .exact⟨k+1,p,i,q,aA,cD,rfl,by rw[S.out,D.out];exact ho.keep Z,B.after Z B.size⟩
    exact aY
   |true=>
    have D:=aT I;clear I;go_wp2_with fail;refine aV Y.out ?_;intro w3 Z;rw[D.out];have a8:=ho.keep Z;have B3:=B.after Z B.size;have rr:=a8.lt;go_wp2_with (at_builtin;refine eF rfl _ _ _ rfl 3 underlying25 intElem w1.heap.size (aD p i q) (dE P k) (k:Int) _ rfl rfl (cR _ _ _ _ _ rfl) (a8.alloc _) ⟨aA,aA⟩ aA (by have:=B3.size;simp;omega) ?_;intro v7 w7 o7 g7;obtain⟨p7,i7,q7,rfl⟩:=o7.shape3);have B7:=(B3.alloc B3.size (.cells #[(k:Int)] 3)).grown g7 (by have:=B3.size;simp;omega) (fun z hz=>(rr _ hz).1);go_roundw
    .exact⟨k+1,p7,i7,q7,aA,cD,rfl,by rw[S.out,D.out];exact o7,B7⟩
    exact aY
  .have a6:¬(k:Int)<(l.length:Int):=aA;have a7:k=l.length:=aA;subst a7;go_wp2;go_ret2;exact⟨p,i,q,rfl,by rw[HL.out];exact ho.mono B1.size,B1.after B B1.size⟩
theorem ajO{p:Prop}(h:p:=by
  have D:=aT z;clear R z hb;go_wp2_with (first
   |(go_at_call 214;(first|(with_reducible refine(I.out _).mono ?_)|(with_reducible refine(J.out _).mono ?_));rintro e w1 ⟨rfl,rfl⟩)
   |(go_at_fn c;refine aV hcl ?_;intro w2 S))
  go_roundw
  .exact⟨t+1,aA,cD,by rw[D.out];rfl,B.after S B.size⟩
  exact aY):p:=h
theorem NO(n:Nat)(hn:n<=5)(c:FuncId)(he:∀args w,(callFunc c args).run prog w=.ok (.enter c args) w)(g1 g2:Nat)(P:Nat->Bool)
  (hw:∀(s:Nat) W',s<2^n->Below w w W'->Calls prog c #[(s:Int),aP (some ⟨g1,0,none⟩),aP (some ⟨g2,0,none⟩)] W' fun e w2=>e=aQ (aG (P s))/\Below W' W' w2):
  aH 289 #[(n:Int),.func (.func c) #[] #[aP (some ⟨g1,0,none⟩),aP (some ⟨g2,0,none⟩)]] w (aO (uR P (2^n):Int)):=by
 have Z:(2:Nat)^n<=32:=bQ (n:=2) bZ hn;have F:((2^n:Nat):Int)=(2:Int)^n:=bF;obtain⟨N,hN⟩:∃N:Nat,N=2^n:=⟨_,rfl⟩;rw[<-hN]at hw Z F |-;have HW:=aT hw;clear hN hw;go_enter func289,ntmps289;go_wp2_with fail;go_loopw [5,10] (fun O i wr=>∃t:Nat,t<=N/\i=aO t/\O=aO (uR P t:Int)/\Below w w wr) (fun _ i _=>N-(intOf i).toNat)
 .exact⟨0,aZ _,rfl,rfl,bJ _ _⟩
 obtain⟨t,ht,rfl,rfl,B⟩:=hrel;have Y:=aq4 P t;by_cases hlt:t<N
 .have M:(t:Int)<2^n:=by rw[<-F];exact_mod_cast hlt
  have z:=VB P t;obtain⟨b,hb⟩:=aW (uR P t);rw[<-hb]at Y z |-;have I:=aT (fun W=>jF t W aA);have J:=aT (fun W=>jF b W aA);have hcl:=HW.out t wr hlt B;by_cases K:dG b<dG t
  .rw[bH K,Bool.true_and]at z
   cases R:P t with
   |true=>rw[R]at hcl z;exact ajO
   |false=>rw[R]at hcl z;exact ajO
  .rw[bG K,Bool.false_and]at z;have D:=aT z;clear z hb hcl;go_wp2_with (go_at_call 214;(first|(with_reducible refine(I.out _).mono ?_)|(with_reducible refine(J.out _).mono ?_));rintro e w1 ⟨rfl,rfl⟩);go_roundw
   .exact⟨t+1,aA,cD,by rw[D.out];rfl,B⟩
   exact aY
 .have M:¬(t:Int)<2^n:=by rw[<-F];exact_mod_cast hlt
  have a1:t=N:=aA;subst a1;go_wp2;go_ret;exact⟨rfl,B⟩
theorem alR(n m:Int)(v u:Value)(l k:aI)(hv:Ints w v l)(hu:Ints w u k)(a9:k.length=l.length)(f4:l.length<=32)(s:Nat)(hs:s<l):
  Calls prog 293 #[aM #[n,v],aM #[m,u],(s:Int)] w fun e w'=>∃t:Int,e=aQ (aS #[t,aG (nG l k s)])/\Below w w w':=by
 have d0:=hv;have b5:=hu;obtain⟨a,c,rfl⟩:=hv.shape;obtain⟨b,d,rfl⟩:=hu.shape;have a8:=fun(W:World) (h:Ints W (aD a l c) l) (t:Nat) (ht:t<l)=>wA W n _ l h t ht aA;have a7:=fun(W:World) (h:Ints W (aD b k d) k) (t:Nat) (ht:t<k)=>wA W m _ k h t ht aA;have b8:=aT a8;have b7:=aT a7;have b9:=aT a9;clear a8 a7 a9;have K1:=(bK.new w 27 #[n,aD a l c]).alloc (.cells #[m,aD b k d] 27);have K2:bK ((w.alloc (.cells #[n,aD a l c] 27)).alloc (.cells #[m,aD b k d] 27)) (w.heap.size+1) 27 #[m,aD b k d]:=by have:=bK.new (w.alloc (.cells #[n,aD a l c] 27)) 27 #[m,aD b k d];simpa using this
 have B0:Below w w ((w.alloc (.cells #[n,aD a l c] 27)).alloc (.cells #[m,aD b k d] 27)):=wU _ _ _;have wS:IntKind.i64.wrap ((s:Int)+1)=(s:Int)+1:=dV;go_enter func293,ntmps293;go_wp2_with fail;go_loopw [11] (fun iv wr=>∃t:Nat,t<=s+1/\iv=aO t/\LT l k s t=true/\Below w w wr/\bK wr w 27 #[n,aD a l c]/\bK wr (w+1) 27 #[m,aD b k d]) (fun iv _=>s+1-(intOf iv).toNat)
 .exact⟨0,aZ _,rfl,rfl,B0,K1,K2⟩
 obtain⟨t,ht,rfl,b1,B,I,J⟩:=hrel;obtain⟨wo,rfl⟩:∃z:World,z=wr:=⟨_,rfl⟩;have Y:=aT b1;clear b1 K1 K2 B0;have G1:=I.cell;have G2:=J.cell;have z1:=I.lt;have z2:=J.lt;by_cases hlt:t<s+1
 .have b0:(t:Int)<(s:Int)+1:=aA;have O:=OE l k s t;rw[Y.out,Bool.true_and]at O;have D:RI l k s t=((dY t s==0)&&(gJ l t&&gJ k (dY s t))):=rfl;have c6:=AK t s aA aA;have c7:=AK s t aA aA;have a6:=zS s t l.length hs;have c1:=b8.out wo (d0.below B aU) t aA;have c2:=fun(W:World) (h:Ints W (aD b k d) k)=>b7.out W h (dY s t) (by rw[b9.out];exact a6);have K:RI l k s t=true->nG l k s=true:=fun h=>aeB aA h;obtain⟨x,hx⟩:∃x:Nat,x=dY t s:=⟨_,rfl⟩;obtain⟨y,hy⟩:∃y:Nat,y=dY s t:=⟨_,rfl⟩;obtain⟨p,hp⟩:=aW (gJ l t);obtain⟨q,hq⟩:=aW (gJ k (dY s t));rw[<-hx,<-hp,<-hq]at D;rw[<-hx]at c6;simp only[<-hq]at c2;simp only[<-hy]at c7 c2;rw[<-hp]at c1;have C1:=aT c1;have C2:=aT c2;have M:=aT O;have c5:=aT K;clear O c1 c2 hx hy hp hq a6 K;by_cases R:x=0
  .have e4:((x:Int)==0)=true:=by simp[R]
   have F:(x==0)=true:=by simp[R]
   rw[F,Bool.true_and]at D
   cases p with
   |false=>
    have Z:=aT D;clear D R F;go_wp2_with fail;refine aV C1.out ?_;intro w3 N;go_wp2;go_roundw
    .exact⟨t+1,aA,cD,by rw[M.out,Z.out];rfl,B.after N B.size,I.keep N,J.keep N⟩
    exact aY
   |true=>
    rw[Bool.true_and]at D;go_wp2_with fail;refine aV C1.out ?_;intro w3 N;have S:=B.after N B.size;have K3:=I.keep N;have K4:=J.keep N;clear G1 G2;have G2:=K4.cell
    cases q with
    |false=>
     have Z:=aT D;clear D R F;go_wp2_with fail;refine aV (C2.out _ (b5.below S aU)) ?_;intro w4 b4;go_wp2;go_roundw
     .exact⟨t+1,aA,cD,by rw[M.out,Z.out];rfl,S.after b4 S.size,K3.keep b4,K4.keep b4⟩
     exact aY
    |true=>have hr:=c5.out D;have HR:=aT hr;clear D R F hr;go_wp2_with fail;refine aV (C2.out _ (b5.below S aU)) ?_;intro w4 b4;go_wp2;go_ret2;exact⟨t,by rw[HR.out];rfl,S.after b4 S.size⟩
  .have e4:((x:Int)==0)=false:=by rw[dZ];omega
   have F:(x==0)=false:=by simp[R]
   rw[F,Bool.false_and]at D;have Z:=aT D;clear D R F;go_wp2;go_roundw
   .exact⟨t+1,aA,cD,by rw[M.out,Z.out];rfl,B,I,J⟩
   exact aY
 .have b0:¬(t:Int)<(s:Int)+1:=aA;have hr:nG l k s=false:=by unfold nG;rw[<-show t=s+1 from aA,Y.out];rfl
  have HR:=aT hr;clear hr;go_wp2;go_ret2
  first|exact⟨0,by rw[HR.out];rfl,B⟩|exact⟨⟨0,by rw[HR.out];rfl⟩,B⟩
theorem agQ(g1 I:Nat)(n m:Int)(v u:Value)(l k:aI)(K:Ints w v l)(J:Ints w u k)(z:k.length=l.length)(hl:l.length<=32)(s:Nat)(O:s<l)(D:bK w g1 27 #[n,v])(F:bK w I 27 #[m,u]):
  aH 292 #[s,aP (some ⟨g1,0,none⟩),aP (some ⟨I,0,none⟩)] w (aG (nG l k s)):=by
 have M:=aT (alR w n m v u l k K J z hl s O);obtain⟨a,c,rfl⟩:=K.shape;obtain⟨b,d,rfl⟩:=J.shape;have R:=D.cell;have S:=F.cell;have Y:=D.lt;have z2:=F.lt;clear z;go_enter func292,ntmps292;go_wp2_with fail;refine M.out.mono ?_;rintro e w1 ⟨t,rfl,N⟩;go_wp2;go_ret;exact⟨rfl,N⟩
theorem NU:∀args w,(callFunc 292 args).run prog w=.ok (.enter 292 args) w:=enters_of func292 bM rfl
theorem apG(hv:Ints w v l)(hl:l.length<=1048576)(m:Int)(u:Value)(k:aI)(hu:Ints w u k)(hk:k.length<=1048576):
  aH 212 #[aM #[n,v],aM #[m,u]] w (aS #[(DI n l m k),aG (fP n l m k)]):=by
 obtain⟨a,c,rfl⟩:=hv.shape;obtain⟨b,d,rfl⟩:=hu.shape;have b0:∀(fn:Fn) (first cap:Array Value) (w:World),(Instr.makeFunc fn first cap).run prog w=.ok (.func fn first cap) w:=fun _ _ _ _=>rfl;go_enter func212,ntmps212;go_wp2_with fail;refine cZ ?_;intro V O;have B:Below w w V:=iJ O;have K:bK V w 27 #[n,aD a l c]:=iQ O;have M:bK V (w+1) 27 #[m,aD b k d]:=jL O;clear O;refine aV (AH V n _ l (hv.below B aU) hl m _ k (hu.below B aU) hk) ?_;intro w1 Z;have K:=K.keep Z;have M:=M.keep Z;have B:=B.after Z B.size;have a9:=hv.below B aU;have a7:=hu.below B aU;have z2:=M.lt;have G1:=K.cell
 cases z:fP n l m k with
 |false=>
  have J:DI n l m k=0:=by unfold DI;rw[z];rfl
  have Y:=aT J;have S:=aT z;clear J z;go_wp2;go_ret2;exact⟨by rw[Y.out,S.out];rfl,B⟩
 |true=>
  obtain⟨rfl,N,rfl,a1,F,I,D,_,_⟩:=sY z;have J:DI N l N k=(uR (nG l k) (2^N):Int):=by unfold DI;rw[z,if_pos rfl,F]
  have Y:=aT J;have S:=aT z;have hcl:=NO w1 N a1 292 NU w.heap.size (w.heap.size+1) (nG l k) (fun s W' hs hB=>
   agQ W' w.heap.size (w.heap.size+1) N N _ _ l k (a9.keep hB) (a7.keep hB) D I s aA (K.keep hB) (M.keep hB))
  have R:=aT hcl;clear J z F D hcl;go_wp2_with fail;refine aV R.out ?_;intro w2 b2;go_wp2;go_ret2;exact⟨by rw[Y.out,S.out];rfl,B.after b2 B.size⟩
theorem abO(n:Nat)(hn:n<=6)(c:FuncId)(he:∀args w,(callFunc c args).run prog w=.ok (.enter c args) w)(g h:Nat)(P:Nat->Bool)
  (hw:∀(s:Nat) W',s<2^n->Below w w W'->Calls prog c #[(s:Int),aP (some ⟨g,0,none⟩),aP (some ⟨h,0,none⟩)] W' fun e O=>e=aQ (aG (P s))/\Below W' W' O):
  Calls prog 276 #[(n:Int),.func (.func c) #[] #[aP (some ⟨g,0,none⟩),aP (some ⟨h,0,none⟩)]] w fun e w'=>
   ∃ad i D,e=aQ (aM #[(n:Int),aD ad i D])/\bB 3 w w' (aD ad i D) (dE P (2^n))/\Below w w w':=by
 exact apO
theorem ahD(g h s n:Nat)(P Q:Nat->Bool)(x y:Int)(v u:Value)(R:Ints w v (dE P n))(O:Ints w u (dE Q n))(hn:n<=32)(N:s<n)(K:bK w g 29 #[x,v])(J:bK w h 29 #[y,u]):
  aH 294 #[(s:Int),aP (some ⟨g,0,none⟩),aP (some ⟨h,0,none⟩)] w (aG (P s&&Q s)):=by
 have Z:(dE P n).length<=1048576:=dC (jD P n) aA;have l2:(dE Q n).length<=1048576:=dC (jD Q n) aA;have F:=CK x (dE P n) v s w R (yJ P n) Z;have I:=fun(W:World) (Y:Below w w W)=>CK y (dE Q n) u s W (O.keep Y) (yJ Q n) l2;rw[I1,bH N,Bool.true_and]at F;simp only[I1,decide_eq_true N,Bool.true_and]at I;have D:=aT F;have S:=aT I;obtain⟨a,c,rfl⟩:=R.shape;obtain⟨b,d,rfl⟩:=O.shape;have G:=K.cell;have z1:=K.lt;have z2:=J.lt;clear F I
 cases M:P s with
 |false=>rw[M]at D;go_enter func294,ntmps294;go_wp2_with fail;refine aV D.out ?_;intro w1 z;go_wp2;go_ret;exact⟨rfl,z⟩
 |true=>rw[M]at D;go_enter func294,ntmps294;go_wp2_with fail;refine aV D.out ?_;intro w1 z;have z3:=(J.keep z).lt;have G2:=(J.keep z).cell;go_wp2_with fail;refine aV (S.out _ z) ?_;intro w2 b2;go_wp2;go_ret;exact⟨cP bF,z.after b2 z.size⟩
theorem OM:∀args w,(callFunc 294 args).run prog w=.ok (.enter 294 args) w:=enters_of func294 bM rfl
theorem at8(hv:Ints w v l)(hl:l.length<=1048576)(m:Int)(u:Value)(k:aI)(hu:Ints w u k)(hk:k.length<=1048576):
  Calls prog 213 #[aM #[n,v],aM #[m,u]] w fun e w'=>∃ad i cp,e=aQ (aS #[aM #[(xN n l m k),aD ad i cp],aG (fP n l m k)])/\bB 3 w w' (aD ad i cp) (xM n l m k)/\Below w w w':=by
 have e8:=hv;have e7:=hu;obtain⟨a,c,rfl⟩:=hv.shape;obtain⟨b,d,rfl⟩:=hu.shape;have j4:∀(fn:Fn) (first cap:Array Value) (w:World),(Instr.makeFunc fn first cap).run prog w=.ok (.func fn first cap) w:=fun _ _ _ _=>rfl;go_enter func213,ntmps213;go_wp2_with fail;refine cZ ?_;intro V hV;have B:Below w w V:=by rw[hV];exact(wU _ _ _).alloc cK _
 have O:bK V w 27 #[n,aD a l c]:=by rw[hV];exact((bK.new _ _ _).alloc _).alloc _
 have K2:bK V (w+1) 27 #[m,aD b k d]:=by rw[hV];have:=(bK.new (w.alloc (.cells #[n,aD a l c] 27)) 27 #[m,aD b k d]).alloc (.cells #[aK,()] 29);simpa using this
 have I:bK V (w.heap.size+1+1) 29 #[aK,()]:=by rw[hV];have:=bK.new ((w.alloc (.cells #[n,aD a l c] 27)).alloc (.cells #[m,aD b k d] 27)) 29 #[aK,()];simpa using this
 clear hV;refine aV (AH V n _ l (e8.below B aU) hl m _ k (e7.below B aU) hk) ?_;intro w1 b1;have O:=O.keep b1;have K2:=K2.keep b1;have I:=I.keep b1;have B1:=B.after b1 B.size;have z3:=I.lt;clear B b1
 cases K:fP n l m k with
 |false=>
  have hN:xN n l m k=0:=by unfold xN;rw[K];rfl
  have hL:xM n l m k=[]:=by unfold xM;rw[K];rfl
  have HN:=aT hN;have HL:=aT hL;have HF:=aT K;have G2:=I.cell;have F2:=I.frozen;clear hN hL K;go_wp2;refine cT ?_;intro Wf z;have a8:bK Wf (w.heap.size+1+1) 29 #[aK,()]:=by rw[z];have:=(I.set 0 (aO 0)).set 1 (aD none 0 0);simpa using this
  have Bf:Below w w Wf:=by rw[z];exact bX (bX B1 cK _) cK _
  have Gf:=a8.cell;clear z G2 F2;exact bW (v:=aS #[aM #[aK,()],aG false]) (by simp[results,results213,go_sem,Gf]) rfl ⟨none,0,0,by rw[HN.out,HF.out],by rw[HL.out];exact bB.nil _ _ _,Bf⟩
 |true=>
  obtain⟨b6,b7⟩:=OO K;obtain⟨rfl,N,rfl,g7,Y,i7,e6,_,_⟩:=sY K;have hN:xN N l N k=N:=by unfold xN;rw[K];rfl
  have hL:xM N l N k=dE (fun s=>mV l s&&mV k s) (2^N):=by unfold xM;rw[K,if_pos rfl,Y];rfl
  have R:=XJ w1 N _ l (e8.below B1 aU) hl;have S:=fun(W:World) (h:Ints W (aD b k d) k)=>XJ W N _ k h hk;have e1:iX N l=dE (mV l) (2^N):=by unfold iX;rw[b6,if_pos rfl,Y]
  have e2:iX N k=dE (mV k) (2^N):=by unfold iX;rw[b7,if_pos rfl,e6,Y]
  have e3:lE N l=N:=by unfold lE;rw[b6];rfl
  have e4:lE N k=N:=by unfold lE;rw[b7];rfl
  rw[e1,e3]at R;simp only[e2,e4]at S;have h0:(2:Nat)^N<=32:=bQ (n:=2) bZ g7;obtain⟨A1,b0⟩:=aW (dE (mV l) (2^N));obtain⟨Z,b5⟩:=aW (dE (mV k) (2^N));rw[<-b0]at R;simp only[<-b5]at S;have HA:=aT (And.intro b0 b5);have f9:=aT R;have g0:=aT S;have HN:=aT hN;have HL:=aT hL;have HF:=aT K;clear hN hL K R S e1 e2 e3 e4 b6 b7 Y e6 b0 b5;have G1:=O.cell;go_wp2_with fail;refine f9.out.mono ?_;rintro e w2 ⟨p1,i1,q1,rfl,o1,b2⟩;have g8:i1=A1.length:=o1.ints.capLe.1;subst g8;have B2:=B1.after b2 B1.size;have K2:=K2.keep b2;have I:=I.keep b2;have O:=O.keep b2;clear G1 B1 b2;have J1:=bK.new w2 29 #[N,aD p1 A1 q1];have h1:=o1.ints.alloc (.cells #[N,aD p1 A1 q1] 29);have M:=B2.alloc B2.size (.cells #[N,aD p1 A1 q1] 29);have c9:=K2.alloc (.cells #[N,aD p1 A1 q1] 29);have F:=O.alloc (.cells #[N,aD p1 A1 q1] 29);have D:=I.alloc (.cells #[N,aD p1 A1 q1] 29);have G1:=c9.cell;go_wp2_with fail;refine(g0.out _ (e7.below M aU)).mono ?_;rintro e w3 ⟨p2,i2,q2,rfl,o2,b3⟩;have g9:i2=Z.length:=o2.ints.capLe.1;subst g9;have B3:=M.after b3 M.size;have O:=F.keep b3;have I:=D.keep b3;have J1:=J1.keep b3;have h1:=h1.keep b3;clear G1 B2 M K2 c9 F D b3;have J2:=bK.new w3 29 #[N,aD p2 Z q2];have h2:=o2.ints.alloc (.cells #[N,aD p2 Z q2] 29);have J:=B3.alloc B3.size (.cells #[N,aD p2 Z q2] 29);have F:=O.alloc (.cells #[N,aD p2 Z q2] 29);have D:=I.alloc (.cells #[N,aD p2 Z q2] 29);have a7:=J1.alloc (.cells #[N,aD p2 Z q2] 29);have a9:=h1.alloc (.cells #[N,aD p2 Z q2] 29);have G1:=F.cell;have z1:=F.lt;go_wp2_with fail;refine cZ ?_;intro V hV;rw[<-hV]at J2 h2 J D a7 a9;have hc:=abO V N aA 294 OM w2.heap.size w3.heap.size (fun s=>mV l s&&mV k s) (fun s W' hs hB=>ahD W' w2.heap.size w3.heap.size s (2^N) (mV l) (mV k) N N _ _ (by rw[<-HA.out.1];exact a9.keep hB) (by rw[<-HA.out.2];exact h2.keep hB) h0 hs (a7.keep hB) (J2.keep hB));clear hV G1 z1;refine hc.mono ?_;rintro e w4 ⟨p4,i4,q4,rfl,o4,b4⟩;have B4:=J.after b4 J.size;have K4:=D.keep b4;have z4:=K4.lt;have z3:=D.lt;have y4:=J.size;have G2:=K4.cell;have F2:=K4.frozen;clear D a7 J2 a9 h2 hc F O I J1 h1 B3 J;go_wp2;refine cT ?_;intro Wf z;have a8:bK Wf (w.heap.size+1+1) 29 #[N,aD p4 i4 q4]:=by
   rw[z];have:=(K4.set 0 (aO N)).set 1 (aD p4 i4 q4);simpa using this
  have Bf:Below w w Wf:=by rw[z];exact bX (bX B4 cK _) cK _
  have of:bB 3 w Wf (aD p4 i4 q4) (dE (fun s=>mV l s&&mV k s) (2^N)):=by rw[z];exact((o4.setBelow cK _).setBelow cK _).mono cK
  have Gf:=a8.cell;clear z G2 F2;exact bW (v:=aS #[aM #[N,aD p4 i4 q4],aG true]) (by simp[results,results213,go_sem,Gf]) rfl ⟨p4,i4,q4,by rw[HN.out,HF.out],by rw[HL.out];exact of,Bf⟩
theorem SZ(v:Value)(w:World)(S:Ints w v l)(c:FuncId)(he:∀args w,(callFunc c args).run prog w=.ok (.enter c args) w)(g1 O g3:Nat)(P:Int->Bool)
  (hw:∀(t:Int) W',t∈l->Below w w W'->Calls prog c #[t,aP (some ⟨g1,0,none⟩),aP (some ⟨O,0,none⟩),aP (some ⟨g3,0,none⟩)] W' fun e K=>e=aQ (aG (P t))/\Below W' W' K):
  Calls prog 355 #[v,.func (.func c) #[] #[aP (some ⟨g1,0,none⟩),aP (some ⟨O,0,none⟩),aP (some ⟨g3,0,none⟩)]] w fun e w'=>(∃i:Int,e=aQ i/\(0<=i↔l.any P=true)/\-1<=i/\i<=9223372036854775807)/\Below w w w':=by
 exact ai2
theorem NM(v:Value)(w:World)(D:Ints w v l)(c:FuncId)(z:∀args w,(callFunc c args).run prog w=.ok (.enter c args) w)(g1 F g3:Nat)(P:Int->Bool)
  (hw:∀(t:Int) W',t∈l->Below w w W'->Calls prog c #[t,aP (some ⟨g1,0,none⟩),aP (some ⟨F,0,none⟩),aP (some ⟨g3,0,none⟩)] W' fun e J=>e=aQ (aG (P t))/\Below W' W' J):
  aH 310 #[v,.func (.func c) #[] #[aP (some ⟨g1,0,none⟩),aP (some ⟨F,0,none⟩),aP (some ⟨g3,0,none⟩)]] w (aG (l.any P)):=by
 have hcl:=SZ l v w D c z g1 F g3 P hw;exact ajN
theorem KS:∀args w,(callFunc 356 args).run prog w=.ok (.enter 356 args) w:=enters_of func356 bM rfl
theorem ab1(g1 Y g3:Nat)(g:Int)(l:aI)(v:Value)(a e d:Nat)(Z:Ints w v l)(D:l.Pairwise (· < ·))(hl:l.length<=1048576)
  (d0:w.cell? ⟨g1,0,none⟩=some (aO g)) (d1:w.cell? ⟨g1,1,none⟩=some v) (d2:w.cell? ⟨Y,0,none⟩=some (aO (a:Int))) (d3:w.cell? ⟨g3,0,none⟩=some (aO (e:Int)))
  (ha:a<64) (he:e<6) (hd:d<6):
  Calls prog 356 #[(d:Int),aP (some ⟨g1,0,none⟩),aP (some ⟨Y,0,none⟩),aP (some ⟨g3,0,none⟩)] w fun r w'=>r=aQ (aG (EQ l (a:Int) (e:Int) (d:Int)))/\Below w w w':=by
 obtain⟨p,c,rfl⟩:=Z.shape;have I:=dW e 5 aA;have F:=dW d 5 aA;have S:=I.1;have a9:=I.2;have R:=F.1;have a8:=F.2;simp at S R;have b0:wrap64 ((2:Int)^e)=2^e:=by unfold wrap64;omega
 have b3:wrap64 ((2:Int)^d)=2^d:=by unfold wrap64;omega
 have N:=nR (a:=(a:Int)) (b:=2^e) aA aA aA aA;have hy:=rK (a:Int) (2^e) 64 aA aA;have K:EQ l (a:Int) (e:Int) (d:Int)=jI l (gO (dQ (a:Int) (2^e)) (2^d)):=by unfold EQ;rw[cA,cA]
 obtain⟨y,J⟩:=aW (dQ (a:Int) (2^e));rw[<-J]at N hy K;have O:=vJ (a:=y) (b:=2^d) aA aA aA aA;obtain⟨z,hz⟩:=aW (gO y (2^d));rw[<-hz]at O K;have hcl:=CK g l _ z w Z D hl;have M:=aT hcl;have HX:=aT K;clear hcl D K hz J I F;go_enter func356,ntmps356;go_wp2_with fail;refine aV M.out ?_;intro w1 b1;go_wp2;go_ret;exact⟨cP HX.out.symm,b1⟩
theorem ST(g:Int)(v:Value)(l:aI)(hv:Ints w v l)(O:l.Pairwise (· < ·))(hl:l.length<=1048576)(a b:Int)(ha:0<=a/\a<64)(hb:0<=b/\b<64):
  Calls prog 312 #[aM #[g,v],a,b] w fun r w'=>r=aQ (aG (sH l a b))/\Below w w w':=by
 obtain⟨p,c,rfl⟩:=hv.shape;have k0:∀(fn:Fn) (first cap:Array Value) (w:World),(Instr.makeFunc fn first cap).run prog w=.ok (.func fn first cap) w:=fun _ _ _ _=>rfl;obtain⟨V,hV⟩:=aW ((w.alloc (.cells #[g,aD p l c] 29)).alloc (.cells #[a] 3));have B:Below w w V:=iJ hV;have K1:bK V w 29 #[g,aD p l c]:=iQ hV;have K2:bK V (w+1) 3 #[a]:=jL hV;have g6:=nR ha.1 ha.2 hb.1 hb.2;have g7:=nR hb.1 hb.2 ha.1 ha.2;have a6:=rK a b 64 ha.1 ha.2;have a7:=rK b a 64 hb.1 hb.2;have hx:sH l a b=(iP (dQ a b)).all fun e=>(iP (dQ b a)).any (EQ l a e):=rfl;obtain⟨A,hA⟩:=aW (dQ a b);obtain⟨D,hD⟩:=aW (dQ b a);rw[<-hA]at g6 a6 hx;rw[<-hD]at g7 a7 hx;have Y:=fun W=>nJ A W a6.1 a6.2;have R:=fun W=>nJ D W a7.1 a7.2;have Z:=CU A;have a1:=CU D;have h5:=xQ A;obtain⟨I,b6⟩:=aW (iP A);obtain⟨J,b7⟩:=aW (iP D);simp only[<-b6]at Y Z hx h5;simp only[<-b7]at R a1 hx;have F:∀(W:World) (ge e:Nat) (u:Value),e<6->Ints W u J->Ints W (aD p l c) l->bK W w 29 #[g,aD p l c]->bK W (w+1) 3 #[a]->bK W ge 3 #[(e:Int)] ->
   Calls prog 310 #[u,.func (.func 356) #[] #[aP (some ⟨w,0,none⟩),aP (some ⟨w+1,0,none⟩),aP (some ⟨ge,0,none⟩)]] W fun r w'=>r=aQ (aG (J.any (EQ l a (e:Int))))/\Below W W w':=by
  intro W ge e u he h1 h2 k1 k2 k3;refine NM J u W h1 356 KS _ _ _ (EQ l a (e:Int)) ?_;intro t W' ht hB;obtain⟨d,hd,_,rfl⟩:=(a1 t).1 ht;obtain⟨n,rfl⟩:∃n:Nat,a=(n:Int):=⟨a.toNat,aA⟩;exact ab1 W' _ _ _ g l _ n e d (h2.keep hB) O hl ((k1.keep hB).cell 0) ((k1.keep hB).cell 1) ((k2.keep hB).cell 0) ((k3.keep hB).cell 0) aA he hd
 have HV:=aT hV;have e8:=aT Y;have e7:=aT R;have f2:=aT Z;have e6:=aT F;have HX:=aT hx;clear hV Y R Z a1 F hx hA hD b6 b7 O;have z1:=K1.lt;have z2:=K2.lt;have G:=K2.cell;go_enter func312,ntmps312;go_wp2_with fail;rw[HV.out.symm];refine(e8.out V).mono ?_;rintro r w1 ⟨pa,ia,qa,rfl,o1,b1⟩;have h0:ia=I.length:=o1.ints.capLe.1;subst h0;have B1:=B.after b1 B.size;have f4:=K1.keep b1;have f8:=K2.keep b1;obtain⟨_,bb,k7,_,h6,_,c7,hc,g8⟩:=o1.ints.vw;injection h6 with x1 _ x3;subst x1 x3;have HC:=aT hc;have f0:=aT c7;clear G hc c7 o1;go_wp2_with fail;go_loopw [15] (fun iv wr=>∃j:Nat,j<=I/\iv=aO j/\(I.take j).all (fun e=>J.any (EQ l a e))=true/\Below w1 w1 wr) (fun iv _=>I.length-(intOf iv).toNat)
 .trace_state
  exact⟨0,aZ _,rfl,bF,bJ _ _⟩
 obtain⟨j,hj,rfl,N,Bw⟩:=hrel;have K:=aT N;clear N;have B2:=B1.after Bw B1.size;have f5:=f4.keep Bw;have f9:=f8.keep Bw;have z3:=Bw.size;by_cases hlt:j<I
 .have c8:(j:Int)<(I.length:Int):=aA;have ck:=bY HC.out g8 Bw aU j hlt;have ik:=fun W=>f0.out W j hlt;obtain⟨e,he,_,S⟩:=(f2.out _).1 (aX hlt);have c9:(I.take (j+1)).all (fun e=>J.any (EQ l a e))=J.any (EQ l a (e:Int)):=by rw[cH hlt,List.all_append,K.out,S];simp
  rw[S]at ck;have f3:=aT c9;clear c9;have f6:bK (wr.alloc (.cells #[(e:Int)] 3)) w.heap.size 29 #[g,aD p l c]:=f5.alloc _;have b3:bK (wr.alloc (.cells #[(e:Int)] 3)) (w.heap.size+1) 3 #[a]:=f9.alloc _;have g0:bK (wr.alloc (.cells #[(e:Int)] 3)) wr.heap.size 3 #[(e:Int)]:=bK.new _ _ _;have B3:Below w1 w1 (wr.alloc (.cells #[(e:Int)] 3)):=Bw.alloc z3 _;have G:=b3.cell;go_wp2_with fail;refine(e7.out _).mono ?_;rintro r w4 ⟨pd,id,qd,rfl,o4,b4⟩;have c6:id=J.length:=o4.ints.capLe.1;subst c6;have B4:=B3.after b4 B3.size;have B5:=B1.after B4 B1.size;have F:=e6.out w4 wr.heap.size e _ he o4.ints (hv.below B5 aU) (f6.keep b4) (b3.keep b4) (g0.keep b4);obtain⟨z,hz⟩:=aW (J.any (EQ l a (e:Int)));rw[<-hz]at F;have M:=aT F;have HZ:=aT hz;clear F hz G
  cases z with
  |true=>
   go_wp2_with fail;refine aV M.out ?_;intro w5 b5;go_wp2;go_roundw
   .exact⟨j+1,aA,cD,by rw[f3.out,<-HZ.out],B4.after b5 B4.size⟩
   exact aY
  |false=>
   have b9:sH l a b=false:=by
    rw[HX.out]
    cases hh:(I.all fun e=>J.any (EQ l a e)) with
    |false=>rfl
    |true=>
     have:=List.all_eq_true.1 hh _ (aX hlt);rw[S,<-HZ.out]at this
     cases this
   have e9:=aT b9;clear b9;go_wp2_with fail;refine aV M.out ?_;intro w5 b5;go_wp2;go_ret;exact⟨cP e9.out.symm,B5.after b5 B5.size⟩
 .have c8:¬(j:Int)<(I.length:Int):=aA;have hh:=K.out;rw[List.take_of_length_le aA]at hh;have HH:=aT hh;clear hh;go_wp2;go_ret;exact⟨cP (by rw[HX.out,HH.out]),B2⟩
