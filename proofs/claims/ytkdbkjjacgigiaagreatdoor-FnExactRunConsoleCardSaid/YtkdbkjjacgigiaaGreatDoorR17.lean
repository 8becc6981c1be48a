/- Lemmas for CardRunConsole. No condition. -/
import Derived.Test.YtkdbkjjacgigiaaGreatDoorR16
set_option maxRecDepth 100000
set_option maxHeartbeats 64000000
namespace Go.Proofs.YtkdbkjjacgigiaaGreatDoor
section
open Go.RowKit Go.G5 Go.Proofs.Tryz
variable(w:World)(n:Int)(v:Value)(l:aI)
def NC(o:Option (List Int))(z:List Int):List Int:=match o with|some x=>z++x|none=>[]
theorem FM(g:Nat)(hg:g<=6)(F t z:aI)(K:Int)(w:World)(vF tv:Value)(ad:Option Addr)(ni cp:Nat)(B:Nat)(a1:Ints w vF F)(hv:Ints w tv t)(R:bB 3 B w (aD ad ni cp) z)
  (ha:∀s∈z,0<=s/\s<64) (hu:eU z=2^g-1):
  Calls prog 315 #[aM #[(g:Int),vF],tv,aD ad ni cp,K] w fun e w'=>
   e=aQ (aS #[aD ad ni cp,aG true])/\bB 3 B w' (aD ad ni cp) z/\Below w w w':=by
 obtain⟨N,O,rfl⟩:=a1.shape;obtain⟨av,cv,rfl⟩:=hv.shape;obtain⟨d0,d1,M,z1⟩:=Box2.new w g (aD N F O) 29;obtain⟨W0,J⟩:=aW (w.alloc (.cells #[g,aD N F O] 29));rw[<-J]at d0 d1 M z1;have e0:∀x:Ext W0,x.w.cell? ⟨w,0,none⟩=some (aO g):=fun x=>x.cell d0;have e1:∀x:Ext W0,x.w.cell? ⟨w,1,none⟩=some (aD N F O):=fun x=>x.cell d1;have D:=R.below M aU;have a6:=a1.below M aU;have HA:=aT ha;have HU:=aT hu;obtain⟨u,I⟩:=aW ((2:Int)^g-1);have Y:∀W,Ints W (aD N F O) F->Calls prog 302 #[aM #[g,aD N F O]] W fun e w'=>e=.returned u/\Below W W w':=fun W hW=>by rw[I];exact lC g _ F W hW aA aA
 have HG:=aT Y;have b9:=aT I;have Z:eU z=u:=by rw[I,hu]
 have a9:=aT Z;clear ha hu Y I Z;go_enter func315,ntmps315;go_wp2;rw[<-J];clear J;refine cW _ bM bM ?_
 repeat(first|go_big_quiet_skip|(go_big_quiet_want;go_big_quiet_op;first|go_big_quiet_on|(apply Exists.intro;refine⟨fun _=>?_,?_⟩;(first|(go_at_call 314;exact ahT (pW z _ _ (Ext.ints _ D.ints) HA.out) a9.out)|(go_at_call 302;exact dI (HG.out _ (Ext.ints _ a6))));go_big_quiet_on)))
 refine wpQuiet_nil ?_;rintro w3 ⟨⟨w3,S⟩,rfl⟩
 try dsimp only
 clear e0 e1;go_wp2;go_ret2;exact⟨rfl,D.keep S,M.after S M.size⟩
theorem SM(g:Nat)(hg:g<=6)(F t z:aI)(w:World)(vF tv:Value)(ad:Option Addr)(ni cp:Nat)(B:Nat)(S:Ints w vF F)(hv:Ints w tv t)(O:bB 3 B w (aD ad ni cp) z)
  (ha:∀s∈z,0<=s/\s<64) (hu:eU z≠2^g-1):
  Calls prog 315 #[aM #[(g:Int),vF],tv,aD ad ni cp,aK] w fun e w'=>
   e=aQ (aS #[(),aG false])/\Below w w w':=by
 obtain⟨M,N,rfl⟩:=S.shape;obtain⟨av,cv,rfl⟩:=hv.shape;obtain⟨d0,d1,K,z1⟩:=Box2.new w g (aD M F N) 29;obtain⟨W0,I⟩:=aW (w.alloc (.cells #[g,aD M F N] 29));rw[<-I]at d0 d1 K z1;have e0:∀x:Ext W0,x.w.cell? ⟨w,0,none⟩=some (aO g):=fun x=>x.cell d0;have e1:∀x:Ext W0,x.w.cell? ⟨w,1,none⟩=some (aD M F N):=fun x=>x.cell d1;have J:=O.below K aU;have Y:=S.below K aU;have HA:=aT ha;obtain⟨u,D⟩:=aW ((2:Int)^g-1);have R:∀W,Ints W (aD M F N) F->Calls prog 302 #[aM #[g,aD M F N]] W fun e w'=>e=.returned u/\Below W W w':=fun W hW=>by rw[D];exact lC g _ F W hW aA aA
 have HG:=aT R;have b9:(eU z==u)=false:=by rw[D];simpa using hu
 have b6:=aT D;clear ha hu R D;go_enter func315,ntmps315;go_wp2;rw[<-I];clear I;refine cW _ bM bM ?_
 repeat(first|go_big_quiet_skip|(go_big_quiet_want;go_big_quiet_op;first|go_big_quiet_on|(apply Exists.intro;refine⟨fun _=>?_,?_⟩;(first|(go_at_call 314;exact fA (pW z _ _ (Ext.ints _ J.ints) HA.out))|(go_at_call 302;exact dI (HG.out _ (Ext.ints _ Y))));go_big_quiet_on)))
 refine wpQuiet_nil ?_;rintro w3 ⟨⟨w3,Z⟩,rfl⟩
 try dsimp only
 clear e0 e1;go_wp2;go_ret2;exact⟨rfl,K.after Z K.size⟩
theorem WJ(g:Nat)(hg:g<=6)(F:aI):∀(k:Nat) (_:k<=60) (K:Int) (_:K=k) (t z:aI) (w:World) (vF tv:Value) (ad:Option Addr) (ni Y:Nat) (B:Nat) (_:B<=w.heap.size) (_:Ints w vF F) (_:Ints w tv t) (_:bB 3 B w (aD ad ni Y) z)
  (_:∀s∈t,0<=s/\s<2^g) (_:∀s∈z,0<=s/\s<2^g) (_:z.length+k<=100),
  Calls prog 315 #[aM #[(g:Int),vF],tv,aD ad ni Y,K] w fun e w'=>
   ∃O i' R,e=aQ (aS #[aD O i' R,aG (gQ t k (dQ (2^g-1) (eU z))).isSome])/\bB 3 B w' (aD O i' R) (NC (gQ t k (dQ (2^g-1) (eU z))) z)/\Below w w w':=by
 intro k
 induction k with
 |zero=>
  intro _ K hK t z w vF tv ad ni Y B hB N hv D ht ha k7;have hp:=dW g 6 hg;have q1:(2:Int)^g<=64:=by simpa using hp.1
  have e6:=hp.2;have hU:0<=eU z/\eU z<2^g:=AD g z ha 0 aA e6;have I:∀s∈z,0<=s/\s<64:=fun s hs=>by have:=ha s hs;omega
  rw[ED g _ hU.1 hU.2];by_cases J:eU z=2^g-1
  .rw[J,Int.sub_self,xX];exact(FM g hg F t z K w vF tv ad ni Y B N hv D I J).mono fun e w' ⟨h1,h2,h3⟩=>⟨ad,ni,Y,h1,by simpa[NC]using h2,h3⟩
  .rw[xY _ _ aA];have:K=0:=hK;subst this;exact(SM g hg F t z w vF tv ad ni Y B N hv D I J).mono fun e w' ⟨h1,h2⟩=>⟨none,0,0,h1,bB.nil _ _ _,h2⟩
 |succ k ih=>
  intro hk K hK t z w vF tv ad ni Y B hB N hv D ht ha k7;have hp:=dW g 6 hg;have q1:(2:Int)^g<=64:=by simpa using hp.1
  have e6:=hp.2;have hU:0<=eU z/\eU z<2^g:=AD g z ha 0 aA e6;have I:∀s∈z,0<=s/\s<64:=fun s hs=>by have:=ha s hs;omega
  by_cases J:eU z=2^g-1
  .rw[ED g _ hU.1 hU.2,J,Int.sub_self,xX];exact(FM g hg F t z K w vF tv ad ni Y B N hv D I J).mono fun e w' ⟨h1,h2,h3⟩=>⟨ad,ni,Y,h1,by simpa[NC]using h2,h3⟩
  obtain⟨aF,cF,rfl⟩:=N.shape;obtain⟨a,b,u7,c,rfl,q0,p5,hc,hb⟩:=hv.vw;obtain⟨u,hu⟩:=aW (eU z);obtain⟨L,hL⟩:=aW (dQ (2^g-1) (eU z));rw[<-hL];have k1:L≠0:=by rw[hL,ED g _ hU.1 hU.2];omega
  rw[<-hu]at hU hL J;have l3:=hU.1;have r1:=hU.2;obtain⟨f,hf⟩:=aW ((2:Int)^g-1);have b6:∀W,Ints W (aD aF F cF) F->Calls prog 302 #[aM #[g,aD aF F cF]] W fun e w'=>e=.returned f/\Below W W w':=fun W hW=>by rw[hf];exact lC g _ F W hW aA aA
  have r0:(u==f)=false:=by rw[hf];simpa using J
  have p9:(K==0)=false:=bO;obtain⟨d0,d1,B1,z1⟩:=Box2.new w g (aD aF F cF) 29;obtain⟨W0,g7⟩:=aW (w.alloc (.cells #[g,aD aF F cF] 29));rw[<-g7]at d0 d1 B1 z1;have e0:∀x:Ext W0,x.w.cell? ⟨w,0,none⟩=some (aO g):=fun x=>x.cell d0;have e1:∀x:Ext W0,x.w.cell? ⟨w,1,none⟩=some (aD aF F cF):=fun x=>x.cell d1;have b1:=D.below B1 aU;have f7:=N.below B1 aU;have l4:∀W,Ints W (aD ad ni Y) z->Calls prog 314 #[aD ad ni Y] W fun e w'=>e=.returned u/\W=w':=fun W hW=>by rw[hu];exact pW z _ W hW I
  have g4:=aT l4;have HG:=aT b6;have HU:=aT hu;have HL:=aT hL;have HF:=aT hf;have HT:=aT ht;have HA:=aT ha;have HK:=aT hK;have g2:=aT k1;have IH:=aT ih;have g6:1<=K/\K<=60:=aA;have t9:=g6.1;have u0:=g6.2;clear hu hL hf hp hU ht ha I l4 b6 J ih hK k1 g6;go_enter func315,ntmps315;go_wp2;rw[<-g7];clear g7;refine cW _ bM bM ?_
  repeat(first|go_big_quiet_skip|(go_big_quiet_want;go_big_quiet_op;first|go_big_quiet_on|(apply Exists.intro;refine⟨fun _=>?_,?_⟩;(first|(go_at_call 314;exact fA (g4.out _ (Ext.ints _ b1.ints)))|(go_at_call 302;exact dI (HG.out _ (Ext.ints _ f7))));go_big_quiet_on)))
  refine wpQuiet_nil ?_;rintro w3 ⟨⟨w3,k3⟩,rfl⟩
  try dsimp only
  clear e0 e1;have X3:=(Box2.mk d0 d1 B1 z1).after k3;clear k3 d0 d1 b1 f7 z1;go_wp2_with fail;go_loopw [24] (fun i wr=>∃j:Nat,j<=t/\i=aO j/\gQ (t.drop j) (k+1) L=gQ t (k+1) L/\Box2 w wr g (aD aF F cF)) (fun i _=>t.length-(intOf i).toNat)
  .exact⟨0,aZ _,rfl,by rw[List.drop_zero],X3⟩
  obtain⟨j,hj,rfl,k5,X⟩:=hrel;clear X3 r0 p9 B1;have f9:=aT k5;clear k5;obtain⟨d0,d1,B4,z4⟩:=X;by_cases hlt:j<t
  .have k4:=bY hc hb B4 aU;have h8:=HT.out _ (aX hlt);have o4:=k4 j hlt;have Z:=hv.from 25 3 underlying25 intElem j aA
   have M:=hv.from 25 3 underlying25 intElem (j+1) aA
   have b5:t.drop j=t[j]::t.drop (j+1):=List.drop_eq_getElem_cons hlt;have b9:∀x∈t.drop j,0<=x/\x<2^g:=fun x hx=>HT.out x (List.mem_of_mem_drop hx);have h0:∀x∈t.drop (j+1),0<=x/\x<2^g:=fun x hx=>HT.out x (List.mem_of_mem_drop hx);have e9:=aT f9.out;obtain⟨t2,h6⟩:=aW (t.drop j);obtain⟨t3,h7⟩:=aW (t.drop (j+1));obtain⟨s,hs⟩:=aW (t[j]);rw[<-h6]at Z b5 b9;rw[<-h7]at M b5 h0;rw[<-hs]at o4 h8 b5;have f4:gQ t2 (k+1) L=gQ t (k+1) L:=by rw[h6];exact e9.out
   have f8:=aT f4;have o0:=aT h7;obtain⟨a2,c2,Z,r2⟩:=Z;obtain⟨a3,c3,M,r3⟩:=M;have q5:∀(kk:IntKind) (w':World),(Instr.slice 25 (aD a t c) (some (.int kk ((j:Int)+1))) none none).run prog w'=.ok (aD a3 t3 c3) w':=by simpa using M
   have q2:0<=s:=h8.1;have q3:s<64:=aA;have g0:=aT b5;have j6:=aT b9;have m9:=aT h0;have hq:0<=eU t2/\eU t2<2^g:=AD g t2 b9 0 aA e6;obtain⟨q,e7⟩:=aW (eU t2);have f6:∀W,Ints W (aD a2 t2 c2) t2->Calls prog 314 #[aD a2 t2 c2] W fun e w'=>e=.returned q/\W=w':=fun W hW=>by rw[e7];exact pW t2 _ W hW (fun x hx=>by have:=b9 x hx;omega)
   rw[<-e7]at hq;have h5:=vJ l3 (show u<4611686018427387904 from aA) hq.1 aA;obtain⟨r,hr⟩:=aW (gO u q);rw[<-hr]at h5;have f2:=aT f6;have HQ:=aT e7;have HR:=aT hr;have s4:=p5;have S:=D.below B4 aU;have c8:=N.below B4 aU;have c7:=r2.below B4 aU;clear f4 h6 b5 b9 h0 f6 e7 hq hr k4 M h8 hs f9 e9 h7;have e0:∀x:Ext wr,x.w.cell? ⟨w,0,none⟩=some (aO g):=fun x=>x.cell d0;have e1:∀x:Ext wr,x.w.cell? ⟨w,1,none⟩=some (aD aF F cF):=fun x=>x.cell d1;by_cases a6:r=f
   .have q9:(r != f)=false:=by simp[a6]
    have l0:=h5;have t7:=aT a6;clear a6;go_wp2_with fail;refine cW _ bM bM ?_
    repeat(first|go_big_quiet_skip|(go_big_quiet_want;go_big_quiet_op;first|go_big_quiet_on|(apply Exists.intro;refine⟨fun _=>?_,?_⟩;(first|(go_at_call 314;first|(with_reducible exact fA (g4.out _ (Ext.ints _ S.ints)))|(with_reducible exact fA (f2.out _ (Ext.ints _ c7))))|(go_at_call 302;exact dI (HG.out _ (Ext.ints _ c8))));go_big_quiet_on)))
    refine wpQuiet_nil ?_;rintro w5 ⟨⟨w5,b3⟩,rfl⟩
    try dsimp only
    clear e0 e1;have B5:=B4.after b3 B4.size;obtain⟨j8,j9,m6,l7⟩:=(Box2.mk d0 d1 B4 z4).after b3;have g9:=D.below B5 aU;have l6:=N.below B5 aU;have l5:=r3.below B5 aU;obtain⟨o,ho⟩:=aW (gQ t3 k (dQ L s));have k6:∀(W:World) (O:Option Addr) (e8 R:Nat) (B':Nat),B'<=W.heap.size->Ints W (aD aF F cF) F->Ints W (aD a3 t3 c3) t3->bB 3 B' W (aD O e8 R) (z++[s]) ->
      Calls prog 315 #[aM #[(g:Int),aD aF F cF],aD a3 t3 c3,aD O e8 R,aO (K-1)] W fun e w'=>
       ∃ad i Y,e=aQ (aS #[aD ad i Y,aG o.isSome])/\bB 3 B' w' (aD ad i Y) (NC o (z++[s]))/\Below W W w':=by
     intro W O e8 R B' h1 h2 h3 h4;have q4:0<=s/\s<2^g:=by have:=j6.out s (by rw[g0.out];simp);exact this
     have:=IH.out aA (K-1) (by have:=HK.out;omega) t3 (z++[s]) W (aD aF F cF) (aD a3 t3 c3) O e8 R B' h1 h2 h3 h4 m9.out
      (fun x hx=>by rcases dM.1 hx with hx|hx;exact HA.out x hx;simp only[List.mem_singleton]at hx;subst hx;exact q4)
      bO
     have e:dQ (2^g-1) (eU (z++[s]))=dQ L s:=by rw[agR,aqY ⟨aA,aA⟩ (by rw[<-HU.out];omega) ⟨q2,q3⟩,HL.out,HU.out]
     rw[e,<-ho]at this;exact this
    have k8:o=none->gQ t3 (k+1) L=gQ t (k+1) L:=fun e=>by rw[<-f8.out,g0.out];simp only[gQ,if_neg g2.out];rw[<-ho,e]
    have l2:∀x,o=some x->gQ t (k+1) L=some (s::x):=fun x e=>by rw[<-f8.out,g0.out];simp only[gQ,if_neg g2.out];rw[<-ho,e]
    have n0:=aT k8;have n2:=aT l2;clear k8 l2;have m8:=aT k6;have HO:=aT ho;have r5:w.heap.size<w5.heap.size:=l7;clear k6 ho d0 d1 z4 b3 Z h5 l0 S c8 c7 m6 l7;have u1:IntKind.i64.wrap ((j:Int)+1)=(j:Int)+1:=IntWalk.i64_in _ aA;have u2:IntKind.i64.wrap (K-1)=K-1:=IntWalk.i64_in _ aA;go_wp2_with fail;go_region_held3 (fun w'=>w'.cell? ⟨w,0,none⟩=some (aO g)/\w'.cell? ⟨w,1,none⟩=some (aD aF F cF)) (go_keep)
     (first
      |(go_at_call 287;refine(nI _ z _ (g9.below (B':=w5.heap.size) rB aU).ints aA).mono ?_;rintro e w6 ⟨p6,i6,q6,rfl,o6,b4⟩;obtain⟨o1,o5⟩:=jN b4 w5.heap.size cK;have z6:=b4.size;(try simp at z6);have r6:=o6.lt)
      |(refine MG rfl _ _ _ rfl 3 underlying25 intElem w5.heap.size (aD p6 i6 q6) z s _ rfl rfl ?_ ?_ ⟨aA,aA⟩ aA ?_ ?_;(first|exact cR _ _ _ _ _ rfl|exact keep b4 (cR _ _ _ _ _ rfl)|exact keep b4 (by simp[go_sem]));(first|exact(o6.mono cK).alloc _|exact o6.mono cK);(first|omega|(simp;done)|(simp;omega));intro v' w7 c6 b6;obtain⟨p7,i7,q7,rfl⟩:=c6.shape3;have b7:Below w5 w5 w7:=abM rB b6 cK (fun q hq=>by have:=(r6 q hq).1;(try simp at this);omega);obtain⟨o2,o7⟩:=jN b7 w5.heap.size aU;have z7:=b7.size)
      |(go_at_call 315;refine(m8.out _ p7 i7 q7 w5.heap.size z7 (l6.below b7 aU) (l5.below b7 aU) c6).mono ?_;rintro e w8 ⟨p8,i8,q8,rfl,o8,e5⟩;obtain⟨o3,o9⟩:=jN e5 w5.heap.size cK;have z8:=e5.size))
    all_goals
     have b8:Below w5 w5 w8:=b7.after e5 b7.size;have X8:=(Box2.mk j8 j9 B5 r5).after b8;have n1:=aT o8;have j7:=aT X8;clear o8 X8 b8 e5 b7 b4 o1 o5 o2 o7 o3 o9 b6 c6 r6 o6 j8 j9
     cases o with
     |none=>
      go_wp2;go_roundw
      .exact⟨j+1,aA,cD,by have:=n0.out rfl;rw[o0.out]at this;exact this,j7.out⟩
      exact aY
     |some x=>have f5:=n2.out x rfl;have f0:=aT f5;clear f5;go_wp2;go_ret2;exact⟨p8,i8,q8,by rw[f0.out];rfl,by rw[f0.out];have:=n1.out.mono (B':=B) (by have:=B5.size;omega);simpa[NC]using this,j7.out.B⟩
   .have q9:(r != f)=true:=by simp[a6]
    have c5:gQ t (k+1) L=none:=by rw[<-f8.out,HL.out];exact aeY g hg u l3 r1 t2 j6.out (k+1) (by rw[<-HQ.out,<-HR.out,<-HF.out];exact a6)
    have HN:=aT c5;clear a6 c5;go_wp2_with fail;refine cW _ bM bM ?_
    repeat(first|go_big_quiet_skip|(go_big_quiet_want;go_big_quiet_op;first|go_big_quiet_on|(apply Exists.intro;refine⟨fun _=>?_,?_⟩;(first|(go_at_call 314;first|(with_reducible exact fA (g4.out _ (Ext.ints _ S.ints)))|(with_reducible exact fA (f2.out _ (Ext.ints _ c7))))|(go_at_call 302;exact dI (HG.out _ (Ext.ints _ c8))));go_big_quiet_on)))
    refine wpQuiet_nil ?_;rintro w5 ⟨⟨w5,b3⟩,rfl⟩
    try dsimp only
    clear e0 e1;go_wp2;go_ret2;exact⟨none,0,0,by rw[HN.out];rfl,by rw[HN.out];exact bB.nil _ _ _,B4.after b3 B4.size⟩
  .have hr:gQ t (k+1) L=none:=by rw[<-f9.out,List.drop_eq_nil_of_le aA];exact OP _ _ g2.out
   have HR:=aT hr;clear hr;go_wp2;go_ret2;exact⟨none,0,0,by rw[HR.out];rfl,by rw[HR.out];exact bB.nil _ _ _,B4⟩
theorem ac3{g:Nat}{l:aI}(z:cO g l=true):qE g l=kC (fun k=>gQ l k (2^g-1)) 0 (g+1):=by
 have D:=(dW g g aU).2;unfold qE;rw[if_pos z,YP l _ aA]
 rfl
theorem ac4(g:Int)(v:Value)(l:aI)(hv:Ints w v l)(_:l.length<=1048576):
  Calls prog 233 #[aM #[g,v]] w fun e w'=>∃ad i cp,e=aQ (aS #[aD ad i cp,aG (mH g l)])/\bB 3 w w' (aD ad i cp) (iV g l)/\Below w w w':=by
 obtain⟨a,c,rfl⟩:=hv.shape;obtain⟨d0,d1,Y,z1⟩:=Box2.new w g (aD a l c) 29;obtain⟨W0,I⟩:=aW (w.alloc (.cells #[g,aD a l c] 29));rw[<-I]at d0 d1 Y z1;have e0:∀x:Ext W0,x.w.cell? ⟨w,0,none⟩=some (aO g):=fun x=>x.cell d0;have e1:∀x:Ext W0,x.w.cell? ⟨w,1,none⟩=some (aD a l c):=fun x=>x.cell d1;have z:=hv.below Y aU
 cases Z:cO g l with
 |false=>
  have hx:qE g l=none:=by unfold qE;rw[Z];rfl
  have D:mH g l=false:=by unfold mH;rw[hx];rfl
  have F:iV g l=[]:=by unfold iV;rw[hx];rfl
  have HB:=aT D;have HL:=aT F;clear hx D F;go_enter func233,ntmps233;go_wp2;rw[<-I];clear I;refine cW _ bM bM ?_
  repeat(first|go_big_quiet_skip|(go_big_quiet_want;go_big_quiet_op;first|go_big_quiet_on|(apply Exists.intro;refine⟨fun _=>?_,?_⟩;(go_at_call 146;exact zN (eP g l _ _ (Ext.ints _ z)) Z);go_big_quiet_on)))
  refine wpQuiet_nil ?_;rintro w3 ⟨⟨w3,J⟩,rfl⟩
  try dsimp only
  clear e0 e1;have B3:=Y.after J Y.size;go_wp2;go_ret2;exact⟨none,0,0,by rw[HB.out];rfl,by rw[HL.out];exact bB.nil _ _ _,B3⟩
 |true=>
  obtain⟨h0,h6,hs,_⟩:=fF Z;have hm:=fS Z;obtain⟨G,rfl⟩:=cN h0;have hG:G<=6:=aA;obtain⟨f,K⟩:=aW ((2:Int)^G-1);have a7:∀W,Ints W (aD a l c) l->Calls prog 302 #[aM #[G,aD a l c]] W fun e w'=>e=.returned f/\Below W W w':=fun W hW=>by rw[K];exact lC G _ l W hW aA aA
  have f5:=(dW G G aU).2;have HM:=aT hm;have HS:=aT hs;have HG:=aT a7;have g9:=aT K;by_cases hu:eU l=2^G-1
  .have c5:(eU l != f)=false:=by rw[K];simp[hu]
   have S:=ac3 Z;obtain⟨q,hq⟩:=aW (kC (fun k=>gQ l k (2^G-1)) 0 (G+1));rw[<-hq]at S;have D:mH G l=q.isSome:=by unfold mH;rw[S]
   have F:iV G l=q.getD []:=by unfold iV;rw[S]
   have b7:∀(k:Nat),k<=60->∀(W:World),Ints W (aD a l c) l->Calls prog 315 #[aM #[(G:Int),aD a l c],aD a l c,(),k] W fun e w'=>
     ∃N i' O,e=aQ (aS #[aD N i' O,aG (gQ l k (2^G-1)).isSome])/\bB 3 W w' (aD N i' O) ((gQ l k (2^G-1)).getD [])/\Below W W w':=by
    intro k hk W hW;have:=WJ G hG l k hk k rfl l [] W _ _ none 0 0 W.heap.size aU hW hW (bB.nil _ _ _) hs bF bO;have e:dQ (2^G-1) (eU [])=2^G-1:=by have:eU []=0:=rfl;rw[this,ED G 0 aA f5];omega
    rw[e]at this;refine this.mono ?_;rintro e w' ⟨ad,i,cp,h1,h2,h3⟩;refine⟨ad,i,cp,h1,?_,h3⟩
    cases hc:gQ l k (2^G-1) with
    |none=>rw[hc]at h2;exact h2
    |some x=>rw[hc]at h2;simpa[NC]using h2
   have HB:=aT D;have HL:=aT F;have HQ:=aT hq;have e9:=aT b7;clear D F hu hq S b7 a7 K hs hm;go_enter func233,ntmps233;go_wp2;rw[<-I];clear I;refine cW _ bM bM ?_
   repeat(first|go_big_quiet_skip|(go_big_quiet_want;go_big_quiet_op;first|go_big_quiet_on|(apply Exists.intro;refine⟨fun _=>?_,?_⟩;(first|(go_at_call 146;exact zN (eP G l _ _ (Ext.ints _ z)) Z)|(go_at_call 314;exact fA (pW l _ _ (Ext.ints _ z) HM.out))|(go_at_call 302;exact dI (HG.out _ (Ext.ints _ z))));go_big_quiet_on)))
   refine wpQuiet_nil ?_;rintro w3 ⟨⟨w3,J⟩,rfl⟩
   try dsimp only
   clear e0 e1;obtain⟨d2,d3,B3,z3⟩:=(Box2.mk d0 d1 Y z1).after J;clear J d0 d1 Y z1 c5 z;go_wp2_with fail;go_loopw [4] (fun i wr=>∃k:Nat,k<=G+1/\i=aO k/\kC (fun k=>gQ l k (2^G-1)) k (G+1-k)=q/\Box2 w wr G (aD a l c)) (fun i _=>G+1-(intOf i).toNat)
   .exact⟨0,aZ _,rfl,HQ.out.symm,⟨d2,d3,B3,z3⟩⟩
   obtain⟨k,hk,rfl,b8,X⟩:=hrel;clear d2 d3 B3 z3;have a1:=aT b8;clear b8;obtain⟨d0,d1,B4,z4⟩:=X;by_cases hlt:k<=G
   .have f8:=hv.below B4 aU;have c6:kC (fun k=>gQ l k (2^G-1)) k (G+1-k)=(match gQ l k (2^G-1) with|some x=>some x|none=>kC (fun k=>gQ l k (2^G-1)) (k+1) (G+1-(k+1))):=by rw[show G+1-k=(G+1-(k+1))+1 from aA];rfl
    have b3:=aT c6;have HC:=aT (e9.out k aA);obtain⟨o,ho⟩:=aW (gQ l k (2^G-1));have b6:∀(W:World),Ints W (aD a l c) l->Calls prog 315 #[aM #[(G:Int),aD a l c],aD a l c,(),k] W fun e w'=>∃N i' O,e=aQ (aS #[aD N i' O,aG o.isSome])/\bB 3 W w' (aD N i' O) (o.getD [])/\Below W W w':=by rw[ho];exact HC.out
    have e8:=aT b6;have HO:=aT ho;clear c6 b6 ho HC;go_wp2_with fail;refine(e8.out _ f8).mono ?_;rintro e w5 ⟨p5,i5,q5,rfl,o5,b5⟩;have X5:=(Box2.mk d0 d1 B4 z4).after b5;have b4:=aT X5;have f2:=aT o5;clear d0 d1 X5 o5 b5
    cases o with
    |none=>
     have b9:kC (fun k=>gQ l k (2^G-1)) (k+1) (G+1-(k+1))=q:=by have h1:=b3.out;rw[<-HO.out,a1.out]at h1;exact h1.symm
     have f0:=aT b9;clear b9;go_wp2;go_roundw
     .exact⟨k+1,aA,cD,f0.out,b4.out⟩
     exact aY
    |some x=>
     have R:q=some x:=by have h1:=b3.out;rw[<-HO.out,a1.out]at h1;exact h1
     have M:=aT R;clear R;go_wp2;go_ret2;exact⟨p5,i5,q5,by rw[HB.out,M.out];rfl,by rw[HL.out,M.out];exact f2.out.mono B4.size,b4.out.B⟩
   .have R:q=none:=by rw[<-a1.out,show G+1-k=0 from aA];rfl
    have M:=aT R;clear R;go_wp2;go_ret2;exact⟨none,0,0,by rw[HB.out,M.out];rfl,by rw[HL.out,M.out];exact bB.nil _ _ _,B4⟩
  .have c5:(eU l != f)=true:=by rw[K];simp[hu]
   have hx:=agK Z hu;have D:mH G l=false:=by unfold mH;rw[hx];rfl
   have F:iV G l=[]:=by unfold iV;rw[hx];rfl
   have HB:=aT D;have HL:=aT F;clear hx D F hu a7 K hs hm;go_enter func233,ntmps233;go_wp2;rw[<-I];clear I;refine cW _ bM bM ?_
   repeat(first|go_big_quiet_skip|(go_big_quiet_want;go_big_quiet_op;first|go_big_quiet_on|(apply Exists.intro;refine⟨fun _=>?_,?_⟩;(first|(go_at_call 146;exact zN (eP G l _ _ (Ext.ints _ z)) Z)|(go_at_call 314;exact fA (pW l _ _ (Ext.ints _ z) HM.out))|(go_at_call 302;exact dI (HG.out _ (Ext.ints _ z))));go_big_quiet_on)))
   refine wpQuiet_nil ?_;rintro w3 ⟨⟨w3,J⟩,rfl⟩
   try dsimp only
   clear e0 e1;have B3:=Y.after J Y.size;go_wp2;go_ret2;exact⟨none,0,0,by rw[HB.out];rfl,by rw[HL.out];exact bB.nil _ _ _,B3⟩
theorem aiU(g:Int)(v:Value)(l:aI)(hv:Ints w v l):
  Calls prog 237 #[aM #[g,v]] w fun e w'=>∃ad cp,e=aQ (aS #[.slice ad (gG g l).length cp,aG (cO g l)])/\eR 3 25 w.heap.size w' (.slice ad (gG g l).length cp) (gG g l)/\Below w w w':=by
 have j3:=hv;obtain⟨a,c,rfl⟩:=hv.shape;obtain⟨T,N⟩:=aW (gG g l);rw[<-N];have d0:=aT N;clear N;go_enter func237,ntmps237;go_wp2_with fail;refine cZ ?_;intro V hV;have B:Below w w V:=jP hV;have K:bK V w 29 #[g,aD a l c]:=jV hV;have o0:eR 3 25 w.heap.size V (aD none 0 0) []:=eR.nil _ _ _ _;clear hV;refine aV (eP g l _ V (hv.below B aU)) ?_;intro w1 b1;have o0:=o0.keep b1;have K:=K.keep b1;have B:=B.after b1 B.size;have G:=K.cell;have z:=K.lt
 cases S:cO g l with
 |false=>
  have hx:T=[]:=by rw[d0.out];unfold gG;rw[S];rfl
  subst hx;have HF:=aT S;clear S;go_wp2;go_ret2;exact⟨_,_,by rw[HF.out];rfl,o0,B⟩
 |true=>
  have hx:T=aoB l:=by rw[d0.out];unfold gG;rw[S];rfl
  have h1:=fF S;have e4:∀s∈l,0<=s/\s<64:=fun s hs=>by obtain⟨k,hk,rfl⟩:=List.getElem_of_mem hs;exact(sZ S).2.2 k hk
  have e7:=W9 S;have a7:=h1.2.2.2;have F:T=[]++tU l.length l:=hx;have m2:T.length<=64:=by rw[hx];exact dC (O7 _ _) e7
  have HF:=aT S;have g9:=aT F;have c7:=aT a7;have f8:=aT e4;have j5:=j3.below B aU;clear hx h1 S F a7 e4;go_wp2_with fail;go_loopw [4,5] (fun ov rv wr=>∃(done:List aI) (k:Nat) (rest:aI) (oa:Option Addr) (oc:Nat) (ra:Option Addr) (rc:Nat),T=done++tU k rest/\rest.length<=k/\k<=64/\(rest.Pairwise (· < ·)/\∀s∈rest,0<=s/\s<64)/\ov=aD oa done oc/\rv=aD ra rest rc/\Ints wr (aD ra rest rc) rest/\eR 3 25 w.heap.size wr (aD oa done oc) done/\Below w w wr) (fun _ rv _=>lenOf rv)
  .exact⟨[],l.length,l,_,_,_,_,g9.out,aU,e7,⟨c7.out,f8.out⟩,rfl,rfl,j5,o0,B⟩
  obtain⟨done,k,rest,oa,oc,ra,rc,N,m6,k9,⟨ha,hm⟩,rfl,rfl,hr,ho,Bo⟩:=hrel;obtain⟨wo,rfl⟩:∃z:World,z=wr:=⟨_,rfl⟩;clear o0;by_cases J:0<rest.length
  .have I:rest≠[]:=fun e=>by rw[e]at J;simp at J
   have b8:(0:Int)<(rest.length:Int):=aA;have hlt:=ad4 I ha hm;obtain⟨k',rfl⟩:∃k',k=k'+1:=⟨k-1,aA⟩;have O:T=(done++[lF rest])++tU k' (uB rest):=by rw[N,U8 _ _ I,eY];rfl
   have b4:=aaT ha;have b6:∀s∈uB rest,0<=s/\s<64:=fun s hs=>hm s (PH hs);have m3:done.length<=64:=by have:=congrArg List.length N;rw[bN]at this;omega
   have b7:=J5 rest _ wo hr hm aA;have Z:uB rest=(rest.take rest.length).filter (fun s=>!jI (lF rest) s):=by rw[List.take_length];rfl
   obtain⟨M,hM⟩:=aW (lF rest);obtain⟨R,hR⟩:=aW (uB rest);rw[<-hM]at b7 O Z;rw[<-hR]at hlt O b4 b6 Z;have h0:=aT O;have g8:=aT Z;have g4:=aT (And.intro b4 b6);have g2:=aT b7;have HO:=aT ho;have HR:=aT hr;have g6:=aT hm;clear N O Z b4 b6 b7 ho hM hR ha hm I;go_wp2_with fail;refine g2.out.mono ?_;rintro e w2 ⟨p2,i2,q2,rfl,o2,b2⟩;have i1:i2=M.length:=o2.ints.capLe.1;subst i1;have j0:=HR.out.keep b2;obtain⟨_,rb,l1,_,j4,_,e5,hc,hb⟩:=j0.vw;injection j4 with x1 _ x3;subst x1 x3;have HC:=aT hc;have g0:=aT e5;have c9:=aT o2;clear hc e5 o2;go_wp2_with fail;go_loopw [7,22] (fun lv i wr=>∃(j:Nat) (ad:Option Addr) (nn cp:Nat),j<=rest/\i=aO j/\lv=aD ad nn cp/\bB 3 w2 wr (aD ad nn cp) ((rest.take j).filter (fun s=>!jI M s))/\Below w2 w2 wr) (fun _ i _=>rest.length-(intOf i).toNat)
   .exact⟨0,_,_,_,aZ _,rfl,rfl,bB.nil _ _ _,bJ _ _⟩
   obtain⟨j,ad,nn,cp,hj,rfl,rfl,hw,Bi⟩:=hrel;obtain⟨wi,rfl⟩:∃z:World,z=wr:=⟨_,rfl⟩;have HW:=aT hw;have zi:=Bi.size;clear hw;by_cases Y:j<rest
   .have e6:(j:Int)<(rest.length:Int):=aA;have ck:=bY HC.out hb Bi aU j Y;have ik:=fun W=>g0.out W j Y;have c5:=VS (fun s=>!jI M s) rest j Y;have j7:=g6.out rest[j] (aX Y);have m5:((rest.take j).filter (fun s=>!jI M s)).length<=64:=by have h1:=List.length_filter_le (fun s=>!jI M s) (rest.take j);have h2:=List.length_take_le j rest;omega
    obtain⟨x,hx⟩:=aW (rest[j]);rw[<-hx]at ck c5 j7;have b5:=AB M _ x wi (c9.out.ints.keep Bi);obtain⟨q,hq⟩:=aW (jI M x);rw[<-hq]at b5;have D:(rest.take (j+1)).filter (fun s=>!jI M s)=(rest.take j).filter (fun s=>!jI M s)++(if !q then [x] else []):=by rw[c5,hq]
    have c8:=aT b5;clear c5 b5 hx hq
    cases q with
    |true=>
     rw[if_neg bF,List.append_nil]at D;have b3:=aT D;clear D;go_wp2_with (go_at_call 318;refine aV c8.out ?_;rintro w' rfl);go_roundw
     .exact⟨j+1,ad,nn,cp,aA,cD,rfl,by rw[b3.out];exact HW.out,Bi⟩
     exact aY
    |false=>
     rw[if_pos bF]at D;have b3:=aT D;clear D;go_wp2_with (first
      |(go_at_call 318;refine aV c8.out ?_;rintro w' rfl)
      |(at_builtin;refine eF rfl _ _ _ rfl 3 underlying25 intElem w2.heap.size _ _ x wi.heap.size rfl rfl (cR wi #[x] 3 0 _ rfl) (HW.out.alloc _) ⟨aA,aA⟩ aA cK ?_;intro v' w6 a8 h9;obtain⟨av,nv,cv,rfl⟩:=a8.shape3))
     have B6:Below w2 w2 w6:=(Bi.alloc Bi.size (.cells #[x] 3)).grown h9 bO (fun q hq=>(HW.out.lt q hq).1);go_roundw
     .exact⟨j+1,av,nv,cv,aA,cD,rfl,by rw[b3.out];exact a8,B6⟩
     exact aY
   .have e6:¬(j:Int)<(rest.length:Int):=aA;have i6:j=rest.length:=aA;subst i6;have hw:=HW.out;rw[<-g8.out]at hw;have i7:nn=R.length:=hw.ints.capLe.1;subst i7;have h5:=aT hw;have e0:=b2.after Bi b2.size;have Bw:=Bo.after e0 Bo.size;have b0:=aT (HO.out.keep e0);have g5:=aT ((c9.out.keep Bi).mono Bo.size);clear hw;go_wp2_with (at_builtin;refine AF rfl _ _ _ rfl 3 25 BG underlying77 pU w.heap.size _ done (aD p2 M q2) M wi.heap.size rfl rfl (cR wi #[aD p2 M q2] 25 0 _ rfl) ((b0.out).alloc _) (g5.out.alloc _) aA (by have:=Bw.size;simp;omega) ?_;intro v7 w7 o7 g7);have rO:=b0.out.lt;obtain⟨n1,f2⟩:=(b0.out.alloc (.cells #[aD p2 M q2] 25)).row;have j6:=(h5.out.alloc (.cells #[aD p2 M q2] 25)).growL f2 BG g7;have B7:Below w w w7:=(Bw.alloc Bw.size (.cells #[aD p2 M q2] 25)).grown g7 (by have:=Bw.size;simp;omega) (fun q hq=>(rO q hq).1);obtain⟨k0,k2,rfl,_⟩:=o7.len;have m4:(done++[M]).length=done.length+1:=bF;go_wp2_with fail;go_roundw
    .exact⟨done++[M],k',R,k0,k2,ad,cp,h0.out,aA,aA,g4.out,rfl,rfl,j6.ints,o7,B7⟩
    simp[lenOf];omega
  .have I:rest=[]:=by cases rest with
    |nil=>rfl
    |cons x r=>simp at J
   subst I;have b8:¬(0:Int)<(0:Int):=aA;rw[ZP,List.append_nil]at N;subst N;go_wp2;go_ret2;exact⟨_,_,by rw[HF.out];rfl,ho,Bo⟩
theorem TD{p:Prop}(h:p:=by
  go_wp2;go_round
  .exact⟨k+1,aA,cD,by rw[Z.out],by rw[H2.out]⟩
  exact aY):p:=h
theorem al9(p:aI)(v:Value)(s:Nat)(w:World)(hv:Ints w v p)(d0:p.length<=6)(Y:∀x∈p,0<=x/\x<6)(hs:s<64):
  Calls prog 360 #[v,(s:Int)] w fun e w'=>e=aQ (aS #[(uJ p s p.length),(zJ p s p.length),aG (AC p s)])/\w=w':=by
 obtain⟨a,b,e4,c,rfl,b7,R,hc,hb⟩:=hv.vw;have HC:=aT hc;have a6:=aT R;have a7:=aT Y;have a8:=aT (jF s w aA);clear hc R Y;go_enter func360,ntmps360;go_wp2;go_loop [7,8,13] (fun fi la i=>∃k:Nat,k<=p/\i=aO k/\fi=aO (uJ p s k)/\la=aO (zJ p s k)) (fun _ _ i=>p.length-(intOf i).toNat)
 .exact⟨0,aZ _,rfl,rfl,rfl⟩
 obtain⟨k,hk,rfl,rfl,rfl⟩:=hrel;by_cases hlt:k<p
 .have S:(k:Int)<(p.length:Int):=aA;have ck:=HC.out k hlt;have ik:=fun W=>a6.out W k hlt;have hm:=a7.out _ (aX hlt);have h1:=JW p s k;have h2:=PN p s k;have h3:=RT p s k;obtain⟨e,he⟩:∃e:Nat,p[k]=(e:Int):=⟨p[k].toNat,aA⟩;have O:N8 p s k=eI s e:=by unfold N8;rw[bR,cG hlt,Option.getD_some,he,cA]
  rw[he]at ck hm;rw[O]at h1 h2;have c7:e<6:=aA;have N:=lL (s:Int) e aA aA;have D:=rP s e;obtain⟨y,hy⟩:=aW (fE (s:Int) e);rw[<-hy]at N D;have hp:=dW e 6 aA;have c8:(2:Int)^e<=64:=by simpa using hp.1
  have c9:=hp.2;obtain⟨F,J⟩:=aW (uJ p s k);obtain⟨L,K⟩:=aW (zJ p s k);rw[<-J]at h1 h3 |-;rw[<-K]at h2 |-;clear hp hy O he hm J K
  cases z:eI s e with
  |false=>
   have b5:(y==1)=false:=by rw[D,z]
   rw[z,Bool.false_and,if_neg bF]at h1;rw[z,if_neg bF]at h2;have Z:=aT h1;have H2:=aT h2;clear z D h1 h2;exact TD
  |true=>
   have b5:(y==1)=true:=by rw[D,z]
   rw[z,Bool.true_and]at h1;rw[z,if_pos rfl]at h2;have H2:=aT h2;clear z D h2;by_cases I:F<0
   .rw[bH I,if_pos rfl]at h1;have Z:=aT h1;clear h1;exact TD
   .rw[bG I,if_neg bF]at h1;have Z:=aT h1;clear h1;exact TD
 .have b1:k=p.length:=aA;have S:¬(k:Int)<(p.length:Int):=aA;have h3:=RT p s p.length;have h4:=al8 p s p.length;have M:AC p s=decide (zJ p s p.length-uJ p s p.length+1=(dG s:Int)):=rfl;subst b1;obtain⟨F,J⟩:=aW (uJ p s p.length);obtain⟨L,K⟩:=aW (zJ p s p.length);rw[<-J,<-K]at M |-;rw[<-J]at h3;rw[<-K]at h4;have e5:IntKind.i64.wrap (L-F)=L-F:=dV;have e6:IntKind.i64.wrap (L-F+1)=L-F+1:=dV;have a9:(L-F+1==(dG s:Int))=AC p s:=by rw[M];by_cases h:L-F+1=(dG s:Int)<;>simp[h]
  obtain⟨o,ho⟩:=aW (AC p s);rw[<-ho]at a9;have HH:=aT (And.intro J (And.intro K ho));clear M J K ho;go_wp2_with (go_at_call 214;refine aV a8.out ?_;rintro w3 rfl);go_ret3;exact⟨by rw[<-HH.out.1,<-HH.out.2.1,<-HH.out.2.2];rfl,rfl⟩
theorem ah0(g:Int)(l p:aI)(v u:Value)(w:World)(hv:Ints w v l)(hu:Ints w u p)(b3:p.length<=6)(a6:∀x∈p,0<=x/\x<6)(S:∀s∈l,0<=s/\s<64):
  aH 321 #[aM #[g,v],u] w (aG (qK l p)):=by
 have e0:=hv;have b4:=hu;obtain⟨a,b,e5,c,rfl,b7,O,hc,hb⟩:=hv.vw;obtain⟨a',c',rfl⟩:=hu.shape;have N:=bY hc hb (cQ w (.cells #[g,aD a l c] 29)) aU;have a7:=fun(s:Nat) (hs:s<64)=>al9 p _ s _ (b4.alloc (.cells #[g,aD a l c] 29)) b3 a6 hs;have HC:=aT N;have a8:=aT O;have a9:=aT S;have b1:=aT a7;clear hc N O S a7 a6;go_enter func321,ntmps321;go_wp2;go_loop [13] (fun i=>∃k:Nat,k<=l/\i=aO k/\(∀j,(R:j<l.length)->j<k->tF p l[j]=true)) (fun i=>l.length-(intOf i).toNat)
 .exact⟨0,aZ _,rfl,by intros;omega⟩
 obtain⟨k,hk,rfl,F⟩:=hrel;have HY:=aT F;clear F;by_cases hlt:k<l
 .have Y:(k:Int)<(l.length:Int):=aA;have ck:=HC.out k hlt;have ik:=fun W=>a8.out W k hlt;have hm:=a9.out _ (aX hlt);obtain⟨s,I⟩:∃s:Nat,l[k]=(s:Int):=⟨l[k].toNat,aA⟩;have z:tF p l[k]=((s:Int)==0||AC p s):=by unfold tF;rw[I,cA]
  have J:=b1.out s aA;have Z:tF p l[k]=false->qK l p=false:=fun h=>by unfold qK;rw[List.all_eq_false];exact⟨l[k],aX hlt,by rw[h];simp⟩
  have a1:tF p l[k]=true->∀j,(R:j<l.length)->j<k+1->tF p l[j]=true:=fun h j R c9=>by
   by_cases e:j=k
   .subst e;exact h
   .exact HY.out j R aA
  rw[I]at ck;obtain⟨o,ho⟩:=aW (AC p s);rw[<-ho]at z J;have b0:=aT Z;have K:=aT a1;have M:=aT J;clear Z a1 J ho I hm
  cases h0:((s:Int)==0) with
  |true=>
   rw[h0,Bool.true_or]at z;have D:=aT z;clear z;go_wp2;go_round
   .exact⟨k+1,aA,cD,K.out D.out⟩
   exact aY
  |false=>
   rw[h0,Bool.false_or]at z;have D:=aT z;clear z
   cases o with
   |true=>
    go_wp2_with (go_at_call 360;refine aV M.out ?_;rintro w3 rfl);go_round
    .exact⟨k+1,aA,cD,K.out D.out⟩
    exact aY
   |false=>go_wp2_with (go_at_call 360;refine aV M.out ?_;rintro w3 rfl);go_ret;exact⟨by rw[b0.out D.out];rfl,cQ _ _⟩
 .have Y:¬(k:Int)<(l.length:Int):=aA;have hr:qK l p=true:=by unfold qK;rw[List.all_eq_true];intro x hx;obtain⟨j,R,rfl⟩:=List.getElem_of_mem hx;exact HY.out j R aA
  have HR:=aT hr;clear hr;go_wp2;go_ret;exact⟨by rw[HR.out];rfl,cQ _ _⟩
theorem auK(g:Int)(v:Value)(l:aI)(hv:Ints w v l):
  Calls prog 239 #[aM #[g,v]] w fun e w'=>∃ad i cp,e=aQ (aS #[aD ad i cp,aG (DD g l)])/\bB 3 w w' (aD ad i cp) (tB g l)/\Below w w w':=by
 have f3:=hv;obtain⟨a,c,rfl⟩:=hv.shape;go_enter func239,ntmps239;go_wp2_with fail;refine cZ ?_;intro V hV;have B:Below w w V:=jP hV;have K:bK V w 29 #[g,aD a l c]:=jV hV;clear hV;refine aV (eP g l _ V (hv.below B aU)) ?_;intro w1 b1;have K:=K.keep b1;have B:=B.after b1 B.size;have G:=K.cell;have z:=K.lt
 cases O:cO g l with
 |false=>
  have hx:DD g l=false/\tB g l=[]:=by unfold DD tB;rw[O];exact⟨rfl,rfl⟩
  have HX:=aT hx;clear hx O;go_wp2;go_ret2;exact⟨none,0,0,by rw[HX.out.1];rfl,by rw[HX.out.2];exact bB.nil _ _ _,B⟩
 |true=>
  obtain⟨g7,g8,e9,_⟩:=fF O;obtain⟨N,rfl⟩:∃N:Nat,g=N:=⟨g.toNat,aA⟩;have b0:∀s∈l,0<=s/\s<64:=fun s hs=>by obtain⟨k,hk,rfl⟩:=List.getElem_of_mem hs;exact(sZ O).2.2 k hk
  have I:=xA N N;have hR:CA (N:Int) l=(eV N N).find? (qK l):=by unfold CA;rw[cA]
  have hB:DD (N:Int) l=(CA (N:Int) l).isSome:=by unfold DD;rw[O];rfl
  have hL:tB (N:Int) l=(CA (N:Int) l).getD []:=by unfold tB;rw[O];rfl
  have a8:=aT (J7 N aA w1);obtain⟨D,b6⟩:=aW (eV N N);have b5:=DN N aA N;have e4:(6:Nat)^N<=6^6:=bQ bZ aA;rw[<-b6]at hR I a8 b5;have g0:D.length<=46656:=aA;have a9:=aT hR;have Y:=aT hB;have a6:=aT hL;have d0:=aT I;have c9:=aT b0;clear O e9 I hR hB hL b6 b0 b5 e4;go_wp2_with fail;refine a8.out.mono ?_;rintro e w2 ⟨pO,iO,qO,rfl,oO,b2⟩;obtain⟨_,_,b9,_⟩:=oO.len;have e8:iO=D.length:=by injection b9
  subst e8;have K:=K.keep b2;have z1:=B.size;have B:=B.after b2 B.size;clear G z b9;have zk:=K.lt;go_wp2_with fail;go_loopw [13] (fun i wr=>∃k:Nat,k<=D/\i=aO k/\(∀j,(hj:j<D.length)->j<k->qK l D[j]=false)/\Below w2 w2 wr) (fun i _=>D.length-(intOf i).toNat)
  .exact⟨0,aZ _,rfl,by intros;omega,bJ _ _⟩
  obtain⟨k,hk,rfl,b8,S⟩:=hrel;obtain⟨wo,rfl⟩:∃z:World,z=wr:=⟨_,rfl⟩;have HN:=aT b8;clear b8;have Bw:=B.after S B.size;by_cases hlt:k<D
  .have b7:(k:Int)<(D.length:Int):=aA;obtain⟨gg,u,g9,e7,hu⟩:=(oO.keep S).view prog 77 underlying77 pU k hlt;have hm:=d0.out _ (aX hlt);have J:=ah0 (N:Int) l D[k] _ _ wo (f3.below Bw aU) hu.ints aA (fun x hx=>by have:=hm.2 x hx;omega) c9.out;have F:qK l D[k]=true->CA (N:Int) l=some D[k]:=fun h=>by rw[a9.out];exact YO k hlt HN.out h
   have R:qK l D[k]=false->∀j,(hj:j<D.length)->j<k+1->qK l D[j]=false:=fun h j hj h0=>by
    by_cases e:j=k
    .subst e;exact h
    .exact HN.out j hj aA
   have a7:=aT R;obtain⟨p,hp⟩:=aW (D[k]);rw[<-hp]at J F hu R a7;obtain⟨o,ho⟩:=aW (qK l p);rw[<-ho]at J;have Z:=aT J;have a1:=aT F;have M:=aT ho;have HU:=aT (hu.mono (show w.heap.size<=w1.heap.size from z1));obtain⟨ua,un,uc,rfl⟩:=hu.shape3;have Kw:=K.keep S;have G:=Kw.cell;have zz:=Kw.lt;clear R F J ho hp hm hu
   cases o with
   |true=>go_wp2_with fail;refine aV Z.out ?_;intro w3 b3;go_wp2;go_ret2;exact⟨ua,un,uc,by rw[Y.out,a1.out M.out.symm];rfl,by rw[a6.out,a1.out M.out.symm];exact HU.out.keep b3,Bw.after b3 Bw.size⟩
   |false=>
    go_wp2_with fail;refine aV Z.out ?_;intro w3 b3;go_wp2;go_roundw
    .exact⟨k+1,aA,cD,a7.out M.out.symm,S.after b3 S.size⟩
    exact aY
  .have b7:¬(k:Int)<(D.length:Int):=aA;have hr:CA (N:Int) l=none:=by rw[a9.out];exact UZ (fun j hj=>HN.out j hj aA)
   have HR:=aT hr;clear hr;go_wp2;go_ret2;exact⟨none,0,0,by rw[Y.out,HR.out];rfl,by rw[a6.out,HR.out];exact bB.nil _ _ _,Bw⟩
theorem aaN:∀n:Nat,n<=5->∀s:Nat,s<2^n->∀e:Nat,e<n->fE (s:Int) e≠1->dG s+1<=n:=dS
theorem P7(k:Nat)(h:k<=4):kA k<=24:=by
 have:=UX k 4 h;have e:kA 4=24:=bZ;omega
theorem M7{a b A B:Int}(D:0<=a)(F:a<=A)(hb:-B<=b)(hB:b<=B)(z:0<=B):-(A*B)<=a*b/\a*b<=A*B:=by
 have h1:a*b<=a*B:=Int.mul_le_mul_of_nonneg_left hB D;have h2:a*B<=A*B:=Int.mul_le_mul_of_nonneg_right F z;have h3:a*(-B)<=a*b:=Int.mul_le_mul_of_nonneg_left hb D;rw[Int.mul_neg]at h3;omega
theorem arV(n e:Nat)(I:n<=5)(D:e<n)(hl:l.length=2^n)(z:∀k,(hk:k<l.length)->-1000<=l[k]/\l[k]<=1000)(s:Nat)(K:s<=2^n):-1152000*(s:Int)<=tG l n e s/\tG l n e s<=1152000*(s:Int):=by
 induction s with
 |zero=>simp[tG]
 |succ s ih=>
  have h1:=ih aA;rw[tG];by_cases hb:fE (s:Int) e=1
  .rw[if_pos hb];omega
  .rw[if_neg hb];have hr:=aaN n I s aA e D hb;have f1:=P7 (dG s) aA;have J:=P7 (n-1-dG s) aA;have F:=OX l s e aA (by rw[hl];exact gI _ _ _ aA D) z;unfold fW at F;have m1:=M7 (a:=(kA (dG s):Int)) (b:=(kA (n-1-dG s):Int)) (A:=24) (B:=24) aA aA aA aA aA;have m0:0<=(kA (dG s):Int)*(kA (n-1-dG s):Int):=Int.mul_nonneg aA aA;have M:=M7 (a:=(kA (dG s):Int)*(kA (n-1-dG s):Int)) (b:=l.getD (dF s e) 0-l.getD s 0) (A:=576) (B:=2000) m0 aA aA aA aA;omega
theorem arW(hv:Ints w v l)(_:l.length<=1048576):
  Calls prog 41 #[aM #[n,v]] w fun e w'=>∃ad i cp,e=aQ (aD ad i cp)/\bB 3 w w' (aD ad i cp) (kR n l)/\Below w w w':=by
 obtain⟨a,b,l8,c,rfl,j4,e8,hc,hb⟩:=hv.vw;have X0:=Box2.new w n (aD a l c) 27;have o0:bB 3 (w.heap.size+1) ((w.alloc (.cells #[n,aD a l c] 27)).alloc (.cells #[] 3)) (aD (some ⟨w+1,0,none⟩) 0 0) []:=by have:=bB.lit0 (E:=3) (B:=w.heap.size+1) (w.alloc (.cells #[n,aD a l c] 27)) bF;simpa using this
 have X1:=X0.after (cQ _ (.cells #[] 3));clear X0
 cases hf:cS n l with
 |false=>
  have hx:kR n l=[]:=by unfold kR;rw[hf];rfl
  have HX:=aT hx;have HF:=aT hf;have HO:=aT o0;clear hx hf e8 hc o0;obtain⟨d0,d1,M,z1⟩:=X1;go_enter func41,ntmps41;go_wp2_with fail;refine wp_loop_rounds 1 ?_;rw[rounds_succ];go_wp2_with fail;refine aV (fD n l _ _ (hv.below M aU)) ?_;intro w2 K;rw[HF.out];have B2:=M.after K M.size;have g4:=aT (HO.out.keep K);go_wp2;go_ret;exact⟨_,_,_,rfl,by rw[HX.out];exact g4.out.mono (Nat.le_succ _),B2⟩
 |true=>
  obtain⟨h0,h5,hl,e9⟩:=nE hf;obtain⟨N,rfl⟩:=cN h0;have hN:N<=5:=aA;have b4:l.length=2^N:=by
   have:((l.length:Nat):Int)=((2^N:Nat):Int):=by push_cast;exact hl
   exact_mod_cast this
  have j3:l.length<=32:=by rw[b4];exact bQ bZ hN
  have hx:kR N l=sO N l:=by unfold kR;rw[if_pos hf];rfl
  have HX:=aT hx;have a8:=aT e9;have O:=aT b4;have HF:=aT hf;have HO:=aT o0;clear hx hl e9 b4 hf o0;go_enter func41,ntmps41;go_wp2_with fail;go_loopw [3,4] (fun out i wr=>∃(e:Nat) (ad:Option Addr) (nn cp:Nat),e<=N/\i=aO e/\out=aD ad nn cp/\bB 3 (w.heap.size+1) wr (aD ad nn cp) ((sO N l).take e)/\Box2 w wr N (aD a l c))
   (fun _ i _=>N-(intOf i).toNat)
  .exact⟨0,_,_,_,aZ _,rfl,rfl,by simpa using HO.out,X1⟩
  obtain⟨e,ad,nn,cp,he,rfl,rfl,ow,X⟩:=hrel;have HW:=aT ow;clear ow X1;obtain⟨d0,d1,M,z1⟩:=X;go_wp2_with fail;refine(fD N l _ _ (hv.below M aU)).mono ?_;rintro e' w2 ⟨rfl,K⟩;rw[HF.out];have X2:=(Box2.mk d0 d1 M z1).after K;have b0:=aT (HW.out.keep K);clear K d0 d1 M z1;obtain⟨d0,d1,M,z1⟩:=X2;by_cases a1:e<N
  .have e6:=bY hc hb M aU;have a6:(sO N l).length=N:=by simp[sO]
   have f3:(sO N l).take (e+1)=(sO N l).take e++[tG l N e (2^N)]:=by rw[cH (by rw[a6];exact a1)];simp[sO]
   have l6:((sO N l).take e).length<=5:=by rw[List.length_take];omega
   have g5:=aT f3;have c7:=aT e6;clear a6 f3 e6;go_wp2_with fail;go_loopw [5,6] (fun x i wr=>∃s m:Nat,s<=l/\i=aO s/\x=aO (tG l N e s)/\wr=w2.drewN m) (fun _ i _=>l.length-(intOf i).toNat)
   .exact⟨0,0,aZ _,rfl,rfl,rfl⟩
   obtain⟨s,m,hs,rfl,rfl,rfl⟩:=hrel;have Z:=arV l N e hN a1 O.out a8.out s (by rw[<-O.out];exact hs);by_cases hlt:s<l
   .have j2:=lL s e aA aA;by_cases I:fE (s:Int) e=1
    .have ht:(fE (s:Int) e==1)=true:=by simp[I]
     have D:tG l N e (s+1)=tG l N e s:=by rw[tG,if_pos I]
     have a9:=aT D;clear I D;go_wp2;go_roundw
     .exact⟨s+1,m,aA,cD,by rw[a9.out],rfl⟩
     exact aY
    .have ht:(fE (s:Int) e==1)=false:=by simp[I]
     have D:tG l N e (s+1)=tG l N e s+(kA (dG s):Int)*(kA (N-1-dG s):Int)*(l.getD (dF s e) 0-l.getD s 0):=by rw[tG,if_neg I]
     have b9:s<2^N:=by rw[<-O.out];exact hlt
     have hr:=aaN N hN s b9 e a1 I;have R:dF s e<l.length:=by rw[O.out];exact gI _ _ _ b9 a1
     have f4:=a8.out s hlt;have f5:=a8.out _ R;have h6:=c7.out s hlt;have e5:=c7.out _ R;have h7:=fun w'=>e8 w' _ R;rw[show l.getD (dF s e) 0=l[dF s e] by rw[bR,cG R];rfl,show l.getD s 0=l[s] by rw[bR,cG hlt];rfl]at D;have S:∀W,Calls prog 95 #[aO (dG s:Int)] W fun e' w'=>e'=aQ (aO (kA (dG s):Int))/\W=w':=fun W=>by have:=UW (dG s:Int) W;rw[show yM (dG s:Int)=(kA (dG s):Int) by unfold yM;rw[show fN (dG s:Int) 0 12=true from eW.2 ⟨aA,aA⟩];rfl]at this;exact this
     have Y:∀W,Calls prog 95 #[aO ((N:Int)-1-(dG s:Int))] W fun e' w'=>e'=aQ (aO (kA (N-1-dG s):Int))/\W=w':=fun W=>by have:=UW (((N-1-dG s:Nat)):Int) W;rw[show yM ((N-1-dG s:Nat):Int)=(kA (N-1-dG s):Int) by unfold yM;rw[show fN ((N-1-dG s:Nat):Int) 0 12=true from eW.2 ⟨aA,aA⟩];rfl]at this;rw[show((N:Int)-1-(dG s:Int))=((N-1-dG s:Nat):Int) from aA];exact this
     have f1:=P7 (dG s) aA;have f2:=P7 (N-1-dG s) aA;have h9:=iE s w2 aA;obtain⟨x,hx⟩:=aW (l[dF s e]);obtain⟨y,hy⟩:=aW (l[s]);obtain⟨q,hq⟩:=aW (dF s e);obtain⟨F,hF⟩:∃F:Int,F=(kA (dG s):Int):=⟨_,rfl⟩;obtain⟨G,hG⟩:∃G:Int,G=(kA (N-1-dG s):Int):=⟨_,rfl⟩;obtain⟨k,hk⟩:∃k:Int,k=(dG s:Int):=⟨_,rfl⟩;obtain⟨k2,b3⟩:∃k:Int,k=(N:Int)-1-(dG s:Int):=⟨_,rfl⟩;obtain⟨z,hz⟩:∃z:Int,z=tG l N e s:=⟨_,rfl⟩;rw[<-hx]at D f5 e5;rw[<-hy]at D f4 h6;rw[<-hF]at D S;rw[<-hG]at D Y;rw[<-b3]at Y;rw[<-hk]at S;rw[<-hz]at D Z |-;have m1:=M7 (a:=F) (b:=G) (A:=24) (B:=24) aA aA aA aA aA;have m0:0<=F*G:=Int.mul_nonneg aA aA;have m2:=M7 (a:=F*G) (b:=x-y) (A:=576) (B:=2000) m0 aA aA aA aA;obtain⟨p1,b5⟩:∃p:Int,p=F*G:=⟨_,rfl⟩;obtain⟨p2,b6⟩:∃p:Int,p=p1*(x-y):=⟨_,rfl⟩;obtain⟨p3,b7⟩:∃p:Int,p=(N:Int)-1:=⟨_,rfl⟩;rw[<-b5]at m0 m1 m2 D;rw[<-b6]at m2 D;have w1:IntKind.i64.wrap (F*G)=p1:=by rw[b5];exact IntWalk.i64_in _ aA
     have l9:IntKind.i64.wrap (x-y)=x-y:=IntWalk.i64_in _ aA;have w3:IntKind.i64.wrap (p1*(x-y))=p2:=by rw[b6];exact IntWalk.i64_in _ aA
     have w4:IntKind.i64.wrap ((N:Int)-1)=p3:=by rw[b7];exact IntWalk.i64_in _ aA
     have w5:IntKind.i64.wrap (p3-k)=k2:=by rw[b7,hk,b3];exact IntWalk.i64_in _ aA
     have w6:IntKind.i64.wrap (z+p2)=z+p2:=IntWalk.i64_in _ aA;have h8:=iU s e aA aA;have b8:=dW e 6 aA;have j5:(2:Int)^e<=64:=by simpa using b8.1
     have j6:=b8.2;rw[<-hq]at h8 h7 e5;have a9:=aT D;have c8:=aT S;have c9:=aT Y;have HK:=aT hk;have l3:(0:Int)<=(e:Int):=Int.natCast_nonneg _;clear I D S Y R hr b9 hx hy hq hF hG hk b3 hz b5 b6 b7 m0 m1 m2 f1 f2 b8 h9 f4 f5 Z;go_wp2_with (go_at_call 84;refine(iE s _ aA).mono ?_;rintro e' w' ⟨rfl,rfl⟩;rw[<-HK.out]);go_quiet ((go_at_call 95;first|(with_reducible exact kH (c8.out _))|(with_reducible exact lO (c8.out _))|(with_reducible exact kH (c9.out _))|(with_reducible exact lO (c9.out _))));go_wp2;go_roundw
     .exact⟨s+1,m+nq,aA,cD,by rw[a9.out],bF⟩
     exact aY
   .have f0:s=2^N:=by have:=O.out;omega
    have j8:(s:Int)<=32:=aA;obtain⟨z,hz⟩:∃z:Int,z=tG l N e s:=⟨_,rfl⟩;rw[<-hz]at Z |-;have f6:z=tG l N e (2^N):=by rw[hz,f0]
    have k0:-40000000<=z:=aA;have k1:z<=40000000:=aA;have HZ:=aT f6;clear hz f6 f0 Z;go_wp2_with (at_builtin;refine eF rfl _ _ _ rfl 3 underlying25 intElem (w.heap.size+1) _ _ z w2.heap.size rfl rfl (cR w2 #[z] 3 0 _ rfl) ((b0.out.alloc _).drewN m) ⟨aA,aA⟩ aA cK ?_;intro v' w6 J e7;obtain⟨av,nv,cv,rfl⟩:=J.shape3);have X6:=(((Box2.mk d0 d1 M z1).after (cQ _ (.cells #[z] 3))).drewN m).grow e7 (fun k hk=>by have:=(b0.out.lt k hk).1;omega);rw[HZ.out,<-g5.out]at J;have g6:=aT J;clear J e7;go_wp2;go_roundw
    .exact⟨e+1,_,_,_,aA,cD,rfl,g6.out,X6⟩
    exact aY
  .have l4:e=N:=aA;have a6:(sO N l).length=N:=by simp[sO]
   have hw:(sO N l).take e=sO N l:=List.take_of_length_le aA;have HH:=aT hw;clear hw a6;go_wp2;go_ret;exact⟨_,_,_,rfl,by rw[HX.out,<-HH.out];exact b0.out.mono (Nat.le_succ _),M⟩
