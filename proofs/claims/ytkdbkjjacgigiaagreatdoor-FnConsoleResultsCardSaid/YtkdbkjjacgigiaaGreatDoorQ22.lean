/- Lemmas for CardConsoleResults. No condition. -/
import Derived.Test.YtkdbkjjacgigiaaGreatDoorQ20
set_option maxRecDepth 100000
set_option maxHeartbeats 64000000
namespace Go.Proofs.YtkdbkjjacgigiaaGreatDoor
section
open Go.RowKit Go.G5 Go.Proofs.Tryz
def JY(o:Option (List Int))(z:List Int):List Int:=match o with|some x=>z++x|none=>[]
theorem CZ(g:Nat)(hg:g<=6)(F t z:List Int)(K:Int)(w:World)(vF tv:Value)(ad:Option Addr)(ni cp:Nat)(B:Nat)(a1:aK w vF F)(hv:aK w tv t)(R:aM 3 B w (aA ad ni cp) z)
  (ha:∀s∈z,0<=s/\s<64) (hu:cX z=2^g-1):
  Calls prog 315 #[.agg #[(g:Int),vF],tv,aA ad ni cp,K] w fun e w'=>
   e=.returned (.tuple #[aA ad ni cp,.bool true])/\aM 3 B w' (aA ad ni cp) z/\Below w w w':=by
 obtain⟨N,O,rfl⟩:=a1.shape;obtain⟨av,cv,rfl⟩:=hv.shape;obtain⟨d0,d1,M,z1⟩:=Box2.new w g (aA N F.length O) 29;obtain⟨W0,J⟩:=aJ (w.alloc (.cells #[g,aA N F.length O] 29));rw[<-J]at d0 d1 M z1;have e0:∀x:Ext W0,x.w.cell? ⟨w.heap.size,0,none⟩=some (aG g):=fun x=>x.cell d0;have e1:∀x:Ext W0,x.w.cell? ⟨w.heap.size,1,none⟩=some (aA N F.length O):=fun x=>x.cell d1;have D:=R.below M aI;have a6:=a1.below M aI;have HA:=aH ha;have HU:=aH hu;obtain⟨u,I⟩:=aJ ((2:Int)^g-1);have Y:∀W,aK W (aA N F.length O) F->Calls prog 302 #[.agg #[g,aA N F.length O]] W fun e w'=>e=.returned u/\Below W W w':=fun W hW=>by rw[I];exact iT g _ F W hW aD aD
 have HG:=aH Y;have b9:=aH I;have Z:cX z=u:=by rw[I,hu]
 have a9:=aH Z;clear ha hu Y I Z;go_enter func315,ntmps315;go_wp2;rw[<-J];clear J;refine bH _ aO aO ?_
 repeat(first|go_big_quiet_skip|(go_big_quiet_want;go_big_quiet_op;first|go_big_quiet_on|(apply Exists.intro;refine⟨fun _=>?_,?_⟩;(first|(go_at_call 314;exact afM (lZ z _ _ (Ext.ints _ D.ints) HA.out) a9.out)|(go_at_call 302;exact bW (HG.out _ (Ext.ints _ a6))));go_big_quiet_on)))
 refine wpQuiet_nil ?_;rintro w3 ⟨⟨w3,S⟩,rfl⟩
 try dsimp only
 clear e0 e1;go_wp2;go_ret2;exact⟨rfl,D.keep S,M.after S M.size⟩
theorem PQ(g:Nat)(hg:g<=6)(F t z:List Int)(w:World)(vF tv:Value)(ad:Option Addr)(ni cp:Nat)(B:Nat)(S:aK w vF F)(hv:aK w tv t)(O:aM 3 B w (aA ad ni cp) z)
  (ha:∀s∈z,0<=s/\s<64) (hu:cX z≠2^g-1):
  Calls prog 315 #[.agg #[(g:Int),vF],tv,aA ad ni cp,aB] w fun e w'=>
   e=.returned (.tuple #[(),.bool false])/\Below w w w':=by
 obtain⟨M,N,rfl⟩:=S.shape;obtain⟨av,cv,rfl⟩:=hv.shape;obtain⟨d0,d1,K,z1⟩:=Box2.new w g (aA M F.length N) 29;obtain⟨W0,I⟩:=aJ (w.alloc (.cells #[g,aA M F.length N] 29));rw[<-I]at d0 d1 K z1;have e0:∀x:Ext W0,x.w.cell? ⟨w.heap.size,0,none⟩=some (aG g):=fun x=>x.cell d0;have e1:∀x:Ext W0,x.w.cell? ⟨w.heap.size,1,none⟩=some (aA M F.length N):=fun x=>x.cell d1;have J:=O.below K aI;have Y:=S.below K aI;have HA:=aH ha;obtain⟨u,D⟩:=aJ ((2:Int)^g-1);have R:∀W,aK W (aA M F.length N) F->Calls prog 302 #[.agg #[g,aA M F.length N]] W fun e w'=>e=.returned u/\Below W W w':=fun W hW=>by rw[D];exact iT g _ F W hW aD aD
 have HG:=aH R;have b9:(cX z==u)=false:=by rw[D];simpa using hu
 have b6:=aH D;clear ha hu R D;go_enter func315,ntmps315;go_wp2;rw[<-I];clear I;refine bH _ aO aO ?_
 repeat(first|go_big_quiet_skip|(go_big_quiet_want;go_big_quiet_op;first|go_big_quiet_on|(apply Exists.intro;refine⟨fun _=>?_,?_⟩;(first|(go_at_call 314;exact dN (lZ z _ _ (Ext.ints _ J.ints) HA.out))|(go_at_call 302;exact bW (HG.out _ (Ext.ints _ Y))));go_big_quiet_on)))
 refine wpQuiet_nil ?_;rintro w3 ⟨⟨w3,Z⟩,rfl⟩
 try dsimp only
 clear e0 e1;go_wp2;go_ret2;exact⟨rfl,K.after Z K.size⟩
theorem TM(g:Nat)(hg:g<=6)(F:List Int):∀(k:Nat) (_:k<=60) (K:Int) (_:K=k) (t z:List Int) (w:World) (vF tv:Value) (ad:Option Addr) (ni Y:Nat) (B:Nat) (_:B<=w.heap.size) (_:aK w vF F) (_:aK w tv t) (_:aM 3 B w (aA ad ni Y) z)
  (_:∀s∈t,0<=s/\s<2^g) (_:∀s∈z,0<=s/\s<2^g) (_:z.length+k<=100),
  Calls prog 315 #[.agg #[(g:Int),vF],tv,aA ad ni Y,K] w fun e w'=>
   ∃O i' R,e=.returned (.tuple #[aA O i' R,.bool (eJ t k (cG (2^g-1) (cX z))).isSome])/\aM 3 B w' (aA O i' R) (JY (eJ t k (cG (2^g-1) (cX z))) z)/\Below w w w':=by
 intro k
 induction k with
 |zero=>
  intro _ K hK t z w vF tv ad ni Y B hB N hv D ht ha k8;have hp:=cJ g 6 hg;have q2:(2:Int)^g<=64:=by simpa using hp.1
  have e6:=hp.2;have hU:0<=cX z/\cX z<2^g:=xD g z ha 0 aD e6;have I:∀s∈z,0<=s/\s<64:=fun s hs=>by have:=ha s hs;omega
  rw[BT g _ hU.1 hU.2];by_cases J:cX z=2^g-1
  ·rw[J,Int.sub_self,vC];exact(CZ g hg F t z K w vF tv ad ni Y B N hv D I J).mono fun e w' ⟨h1,h2,h3⟩=>⟨ad,ni,Y,h1,by simpa[JY]using h2,h3⟩
  ·rw[vD _ _ aD];have:K=0:=hK;subst this;exact(PQ g hg F t z w vF tv ad ni Y B N hv D I J).mono fun e w' ⟨h1,h2⟩=>⟨none,0,0,h1,aM.nil _ _ _,h2⟩
 |succ k ih=>
  intro hk K hK t z w vF tv ad ni Y B hB N hv D ht ha k8;have hp:=cJ g 6 hg;have q2:(2:Int)^g<=64:=by simpa using hp.1
  have e6:=hp.2;have hU:0<=cX z/\cX z<2^g:=xD g z ha 0 aD e6;have I:∀s∈z,0<=s/\s<64:=fun s hs=>by have:=ha s hs;omega
  by_cases J:cX z=2^g-1
  ·rw[BT g _ hU.1 hU.2,J,Int.sub_self,vC];exact(CZ g hg F t z K w vF tv ad ni Y B N hv D I J).mono fun e w' ⟨h1,h2,h3⟩=>⟨ad,ni,Y,h1,by simpa[JY]using h2,h3⟩
  obtain⟨aF,cF,rfl⟩:=N.shape;obtain⟨a,b,u8,c,rfl,q1,p9,hc,hb⟩:=hv.view prog 25 3 underlying25 aN;obtain⟨u,hu⟩:=aJ (cX z);obtain⟨L,hL⟩:=aJ (cG (2^g-1) (cX z));rw[<-hL];have k2:L≠0:=by rw[hL,BT g _ hU.1 hU.2];omega
  rw[<-hu]at hU hL J;have l4:=hU.1;have r2:=hU.2;obtain⟨f,hf⟩:=aJ ((2:Int)^g-1);have b6:∀W,aK W (aA aF F.length cF) F->Calls prog 302 #[.agg #[g,aA aF F.length cF]] W fun e w'=>e=.returned f/\Below W W w':=fun W hW=>by rw[hf];exact iT g _ F W hW aD aD
  have r1:(u==f)=false:=by rw[hf];simpa using J
  have q0:(K==0)=false:=by simp;omega
  obtain⟨d0,d1,B1,z1⟩:=Box2.new w g (aA aF F.length cF) 29;obtain⟨W0,g8⟩:=aJ (w.alloc (.cells #[g,aA aF F.length cF] 29));rw[<-g8]at d0 d1 B1 z1;have e0:∀x:Ext W0,x.w.cell? ⟨w.heap.size,0,none⟩=some (aG g):=fun x=>x.cell d0;have e1:∀x:Ext W0,x.w.cell? ⟨w.heap.size,1,none⟩=some (aA aF F.length cF):=fun x=>x.cell d1;have b1:=D.below B1 aI;have f7:=N.below B1 aI;have l5:∀W,aK W (aA ad ni Y) z->Calls prog 314 #[aA ad ni Y] W fun e w'=>e=.returned u/\W=w':=fun W hW=>by rw[hu];exact lZ z _ W hW I
  have g5:=aH l5;have HG:=aH b6;have HU:=aH hu;have HL:=aH hL;have HF:=aH hf;have HT:=aH ht;have HA:=aH ha;have HK:=aH hK;have g2:=aH k2;have IH:=aH ih;have g7:1<=K/\K<=60:=aD;have u0:=g7.1;have u1:=g7.2;clear hu hL hf hp hU ht ha I l5 b6 J ih hK k2 g7;go_enter func315,ntmps315;go_wp2;rw[<-g8];clear g8;refine bH _ aO aO ?_
  repeat(first|go_big_quiet_skip|(go_big_quiet_want;go_big_quiet_op;first|go_big_quiet_on|(apply Exists.intro;refine⟨fun _=>?_,?_⟩;(first|(go_at_call 314;exact dN (g5.out _ (Ext.ints _ b1.ints)))|(go_at_call 302;exact bW (HG.out _ (Ext.ints _ f7))));go_big_quiet_on)))
  refine wpQuiet_nil ?_;rintro w3 ⟨⟨w3,k4⟩,rfl⟩
  try dsimp only
  clear e0 e1;have X3:=(Box2.mk d0 d1 B1 z1).after k4;clear k4 d0 d1 b1 f7 z1;go_wp2_with fail;go_loopw [24] (fun i wr=>∃j:Nat,j<=t.length/\i=aG j/\eJ (t.drop j) (k+1) L=eJ t (k+1) L/\Box2 w wr g (aA aF F.length cF)) (fun i _=>t.length-(intOf i).toNat)
  case atStart=>exact⟨0,Nat.zero_le _,rfl,by rw[List.drop_zero],X3⟩
  case round=>
   obtain⟨j,hj,rfl,k6,X⟩:=hrel;clear X3 r1 q0 B1;have f9:=aH k6;clear k6;obtain⟨d0,d1,B4,z4⟩:=X;by_cases hlt:j<t.length
   ·have k5:=aR hc hb B4 aI;have h9:=HT.out _ (List.getElem_mem hlt);have o5:=k5 j hlt;have Z:=hv.from 25 3 underlying25 aN j aD
    have M:=hv.from 25 3 underlying25 aN (j+1) aD
    have b5:t.drop j=t[j]::t.drop (j+1):=List.drop_eq_getElem_cons hlt;have b9:∀x∈t.drop j,0<=x/\x<2^g:=fun x hx=>HT.out x (List.mem_of_mem_drop hx);have h5:∀x∈t.drop (j+1),0<=x/\x<2^g:=fun x hx=>HT.out x (List.mem_of_mem_drop hx);have e9:=aH f9.out;obtain⟨t2,h7⟩:=aJ (t.drop j);obtain⟨t3,h8⟩:=aJ (t.drop (j+1));obtain⟨s,hs⟩:=aJ (t[j]);rw[<-h7]at Z b5 b9;rw[<-h8]at M b5 h5;rw[<-hs]at o5 h9 b5;have f4:eJ t2 (k+1) L=eJ t (k+1) L:=by rw[h7];exact e9.out
    have f8:=aH f4;have o1:=aH h8;obtain⟨a2,c2,Z,r3⟩:=Z;obtain⟨a3,c3,M,r4⟩:=M;have q9:∀(kk:IntKind) (w':World),(Instr.slice 25 (aA a t.length c) (some (.int kk ((j:Int)+1))) none none).run prog w'=.ok (aA a3 t3.length c3) w':=by simpa using M
    have q3:0<=s:=h9.1;have q4:s<64:=aD;have g0:=aH b5;have j7:=aH b9;have n0:=aH h5;have hq:0<=cX t2/\cX t2<2^g:=xD g t2 b9 0 aD e6;obtain⟨q,e7⟩:=aJ (cX t2);have f6:∀W,aK W (aA a2 t2.length c2) t2->Calls prog 314 #[aA a2 t2.length c2] W fun e w'=>e=.returned q/\W=w':=fun W hW=>by rw[e7];exact lZ t2 _ W hW (fun x hx=>by have:=b9 x hx;omega)
    rw[<-e7]at hq;have h6:=sJ l4 (show u<4611686018427387904 by omega) hq.1 aD;obtain⟨r,hr⟩:=aJ (eH u q);rw[<-hr]at h6;have f2:=aH f6;have HQ:=aH e7;have HR:=aH hr;have s5:=p9;have S:=D.below B4 aI;have c8:=N.below B4 aI;have c7:=r3.below B4 aI;clear f4 h7 b5 b9 h5 f6 e7 hq hr k5 M h9 hs f9 e9 h8;have e0:∀x:Ext wr,x.w.cell? ⟨w.heap.size,0,none⟩=some (aG g):=fun x=>x.cell d0;have e1:∀x:Ext wr,x.w.cell? ⟨w.heap.size,1,none⟩=some (aA aF F.length cF):=fun x=>x.cell d1;by_cases a6:r=f
    ·have r0:(r != f)=false:=by simp[a6]
     have l1:=h6;have t8:=aH a6;clear a6;go_wp2_with fail;refine bH _ aO aO ?_
     repeat(first|go_big_quiet_skip|(go_big_quiet_want;go_big_quiet_op;first|go_big_quiet_on|(apply Exists.intro;refine⟨fun _=>?_,?_⟩;(first|(go_at_call 314;first|(with_reducible exact dN (g5.out _ (Ext.ints _ S.ints)))|(with_reducible exact dN (f2.out _ (Ext.ints _ c7))))|(go_at_call 302;exact bW (HG.out _ (Ext.ints _ c8))));go_big_quiet_on)))
     refine wpQuiet_nil ?_;rintro w5 ⟨⟨w5,b3⟩,rfl⟩
     try dsimp only
     clear e0 e1;have B5:=B4.after b3 B4.size;obtain⟨j9,k0,m7,l8⟩:=(Box2.mk d0 d1 B4 z4).after b3;have h0:=D.below B5 aI;have l7:=N.below B5 aI;have l6:=r4.below B5 aI;obtain⟨o,ho⟩:=aJ (eJ t3 k (cG L s));have k7:∀(W:World) (O:Option Addr) (e8 R:Nat) (B':Nat),B'<=W.heap.size->aK W (aA aF F.length cF) F->aK W (aA a3 t3.length c3) t3->aM 3 B' W (aA O e8 R) (z++[s]) ->
       Calls prog 315 #[.agg #[(g:Int),aA aF F.length cF],aA a3 t3.length c3,aA O e8 R,aG (K-1)] W fun e w'=>
        ∃ad i Y,e=.returned (.tuple #[aA ad i Y,.bool o.isSome])/\aM 3 B' w' (aA ad i Y) (JY o (z++[s]))/\Below W W w':=by
      intro W O e8 R B' h1 h2 h3 h4;have q5:0<=s/\s<2^g:=by have:=j7.out s (by rw[g0.out];simp);exact this
      have:=IH.out aD (K-1) (by have:=HK.out;omega) t3 (z++[s]) W (aA aF F.length cF) (aA a3 t3.length c3) O e8 R B' h1 h2 h3 h4 n0.out
       (fun x hx=>by rcases List.mem_append.1 hx with hx|hx;exact HA.out x hx;simp only[List.mem_singleton]at hx;subst hx;exact q5)
       aT
      have e:cG (2^g-1) (cX (z++[s]))=cG L s:=by rw[aeP,aoH ⟨by omega,by omega⟩ (by rw[<-HU.out];omega) ⟨q3,q4⟩,HL.out,HU.out]
      rw[e,<-ho]at this;exact this
     have k9:o=none->eJ t3 (k+1) L=eJ t (k+1) L:=fun e=>by rw[<-f8.out,g0.out];simp only[eJ,if_neg g2.out];rw[<-ho,e]
     have l3:∀x,o=some x->eJ t (k+1) L=some (s::x):=fun x e=>by rw[<-f8.out,g0.out];simp only[eJ,if_neg g2.out];rw[<-ho,e]
     have n1:=aH k9;have n3:=aH l3;clear k9 l3;have m9:=aH k7;have HO:=aH ho;have r7:w.heap.size<w5.heap.size:=l8;clear k7 ho d0 d1 z4 b3 Z h6 l1 S c8 c7 m7 l8;have u2:IntKind.i64.wrap ((j:Int)+1)=(j:Int)+1:=IntWalk.i64_in _ aD;have u3:IntKind.i64.wrap (K-1)=K-1:=IntWalk.i64_in _ aD;go_wp2_with fail;go_region_held3 (fun w'=>w'.cell? ⟨w.heap.size,0,none⟩=some (aG g)/\w'.cell? ⟨w.heap.size,1,none⟩=some (aA aF F.length cF)) (go_keep)
      (first
       |(go_at_call 287;refine(kR _ z _ (h0.below (B':=w5.heap.size) (by repeat(first|exact Below.refl _ _|(with_reducible refine Below.setCell ?_ (by first|omega|(simp;done)|(simp;omega)) _)|(with_reducible refine Below.alloc ?_ (by first|omega|(simp;done)|(simp;omega)) _)|(with_reducible refine Below.drewN' ?_ _)|(with_reducible refine Below.drew ?_)|(with_reducible assumption)|refine Below.trans ?_ (Below.mono (by assumption) (by first|omega|(simp;done)|(simp;omega))))) aI).ints aD).mono ?_;rintro e w6 ⟨p6,i6,q6,rfl,o6,b4⟩;obtain⟨o2,o7⟩:=gN b4 w5.heap.size (by first|omega|(simp;done)|(simp;omega));have z6:=b4.size;(try simp at z6);have r6:=o6.lt)
       |(refine JC rfl _ _ _ rfl 3 underlying25 aN w5.heap.size (aA p6 i6 q6) z s _ rfl rfl ?_ ?_ ⟨by omega,by omega⟩ aD ?_ ?_;(first|exact aZ _ _ _ _ _ rfl|exact keep b4 (aZ _ _ _ _ _ rfl)|exact keep b4 (by simp[go_sem]));(first|exact(o6.mono (by first|omega|(simp;done)|(simp;omega))).alloc _|exact o6.mono (by first|omega|(simp;done)|(simp;omega)));(first|omega|(simp;done)|(simp;omega));intro v' w7 c6 b6;obtain⟨p7,i7,q7,rfl⟩:=c6.shape3;have b7:Below w5 w5 w7:=ZF (by repeat(first|exact Below.refl _ _|(with_reducible refine Below.setCell ?_ (by first|omega|(simp;done)|(simp;omega)) _)|(with_reducible refine Below.alloc ?_ (by first|omega|(simp;done)|(simp;omega)) _)|(with_reducible refine Below.drewN' ?_ _)|(with_reducible refine Below.drew ?_)|(with_reducible assumption)|refine Below.trans ?_ (Below.mono (by assumption) (by first|omega|(simp;done)|(simp;omega))))) b6 (by first|omega|(simp;done)|(simp;omega)) (fun q hq=>by have:=(r6 q hq).1;(try simp at this);omega);obtain⟨o3,o9⟩:=gN b7 w5.heap.size aI;have z7:=b7.size)
       |(go_at_call 315;refine(m9.out _ p7 i7 q7 w5.heap.size z7 (l7.below b7 aI) (l6.below b7 aI) c6).mono ?_;rintro e w8 ⟨p8,i8,q8,rfl,o8,e5⟩;obtain⟨o4,p5⟩:=gN e5 w5.heap.size (by first|omega|(simp;done)|(simp;omega));have z8:=e5.size))
     all_goals
      have b8:Below w5 w5 w8:=b7.after e5 b7.size;have X8:=(Box2.mk j9 k0 B5 r7).after b8;have n2:=aH o8;have j8:=aH X8;clear o8 X8 b8 e5 b7 b4 o2 o7 o3 o9 o4 p5 b6 c6 r6 o6 j9 k0
      cases o with
      |none=>
       go_wp2;go_roundw
       case rel=>exact⟨j+1,by omega,by go_num,by have:=n1.out rfl;rw[o1.out]at this;exact this,j8.out⟩
       case measure=>simp[intOf];omega
      |some x=>have f5:=n3.out x rfl;have f0:=aH f5;clear f5;go_wp2;go_ret2;exact⟨p8,i8,q8,by rw[f0.out];rfl,by rw[f0.out];have:=n2.out.mono (B':=B) (by have:=B5.size;omega);simpa[JY]using this,j8.out.B⟩
    ·have r0:(r != f)=true:=by simp[a6]
     have c5:eJ t (k+1) L=none:=by rw[<-f8.out,HL.out];exact acO g hg u l4 r2 t2 j7.out (k+1) (by rw[<-HQ.out,<-HR.out,<-HF.out];exact a6)
     have HN:=aH c5;clear a6 c5;go_wp2_with fail;refine bH _ aO aO ?_
     repeat(first|go_big_quiet_skip|(go_big_quiet_want;go_big_quiet_op;first|go_big_quiet_on|(apply Exists.intro;refine⟨fun _=>?_,?_⟩;(first|(go_at_call 314;first|(with_reducible exact dN (g5.out _ (Ext.ints _ S.ints)))|(with_reducible exact dN (f2.out _ (Ext.ints _ c7))))|(go_at_call 302;exact bW (HG.out _ (Ext.ints _ c8))));go_big_quiet_on)))
     refine wpQuiet_nil ?_;rintro w5 ⟨⟨w5,b3⟩,rfl⟩
     try dsimp only
     clear e0 e1;go_wp2;go_ret2;exact⟨none,0,0,by rw[HN.out];rfl,by rw[HN.out];exact aM.nil _ _ _,B4.after b3 B4.size⟩
   ·have hr:eJ t (k+1) L=none:=by rw[<-f9.out,List.drop_eq_nil_of_le aD];exact LP _ _ g2.out
    have HR:=aH hr;clear hr;go_wp2;go_ret2;exact⟨none,0,0,by rw[HR.out];rfl,by rw[HR.out];exact aM.nil _ _ _,B4⟩
theorem aaQ{g:Nat}{l:List Int}(z:aU g l=true):mC g l=gG (fun k=>eJ l k (2^g-1)) 0 (g+1):=by
 have D:=(cJ g g aI).2;unfold mC;rw[if_pos z,VT l _ aD]
 rfl
theorem aaR(w:World)(g:Int)(v:Value)(l:List Int)(hv:aK w v l)(_:l.length<=1048576):
  Calls prog 233 #[.agg #[g,v]] w fun e w'=>∃ad i cp,e=.returned (.tuple #[aA ad i cp,.bool (jU g l)])/\aM 3 w w' (aA ad i cp) (fB g l)/\Below w w w':=by
 obtain⟨a,c,rfl⟩:=hv.shape;obtain⟨d0,d1,Y,z1⟩:=Box2.new w g (aA a l.length c) 29;obtain⟨W0,I⟩:=aJ (w.alloc (.cells #[g,aA a l.length c] 29));rw[<-I]at d0 d1 Y z1;have e0:∀x:Ext W0,x.w.cell? ⟨w.heap.size,0,none⟩=some (aG g):=fun x=>x.cell d0;have e1:∀x:Ext W0,x.w.cell? ⟨w.heap.size,1,none⟩=some (aA a l.length c):=fun x=>x.cell d1;have z:=hv.below Y aI
 cases Z:aU g l with
 |false=>
  have hx:mC g l=none:=by unfold mC;rw[Z];rfl
  have D:jU g l=false:=by unfold jU;rw[hx];rfl
  have F:fB g l=[]:=by unfold fB;rw[hx];rfl
  have HB:=aH D;have HL:=aH F;clear hx D F;go_enter func233,ntmps233;go_wp2;rw[<-I];clear I;refine bH _ aO aO ?_
  repeat(first|go_big_quiet_skip|(go_big_quiet_want;go_big_quiet_op;first|go_big_quiet_on|(apply Exists.intro;refine⟨fun _=>?_,?_⟩;(go_at_call 146;exact wO (cQ g l _ _ (Ext.ints _ z)) Z);go_big_quiet_on)))
  refine wpQuiet_nil ?_;rintro w3 ⟨⟨w3,J⟩,rfl⟩
  try dsimp only
  clear e0 e1;have B3:=Y.after J Y.size;go_wp2;go_ret2;exact⟨none,0,0,by rw[HB.out];rfl,by rw[HL.out];exact aM.nil _ _ _,B3⟩
 |true=>
  obtain⟨h0,h6,hs,_⟩:=dB Z;have hm:=dR Z;obtain⟨G,rfl⟩:=Int.eq_ofNat_of_zero_le h0;have hG:G<=6:=aD;obtain⟨f,K⟩:=aJ ((2:Int)^G-1);have a7:∀W,aK W (aA a l.length c) l->Calls prog 302 #[.agg #[G,aA a l.length c]] W fun e w'=>e=.returned f/\Below W W w':=fun W hW=>by rw[K];exact iT G _ l W hW aD aD
  have f5:=(cJ G G aI).2;have HM:=aH hm;have HS:=aH hs;have HG:=aH a7;have h5:=aH K;by_cases hu:cX l=2^G-1
  ·have c5:(cX l != f)=false:=by rw[K];simp[hu]
   have S:=aaQ Z;obtain⟨q,hq⟩:=aJ (gG (fun k=>eJ l k (2^G-1)) 0 (G+1));rw[<-hq]at S;have D:jU G l=q.isSome:=by unfold jU;rw[S]
   have F:fB G l=q.getD []:=by unfold fB;rw[S]
   have b7:∀(k:Nat),k<=60->∀(W:World),aK W (aA a l.length c) l->Calls prog 315 #[.agg #[(G:Int),aA a l.length c],aA a l.length c,(),k] W fun e w'=>
     ∃N i' O,e=.returned (.tuple #[aA N i' O,.bool (eJ l k (2^G-1)).isSome])/\aM 3 W w' (aA N i' O) ((eJ l k (2^G-1)).getD [])/\Below W W w':=by
    intro k hk W hW;have:=TM G hG l k hk k rfl l [] W _ _ none 0 0 W.heap.size aI hW hW (aM.nil _ _ _) hs (by simp) aT;have e:cG (2^G-1) (cX [])=2^G-1:=by have:cX []=0:=rfl;rw[this,BT G 0 aD f5];omega
    rw[e]at this;refine this.mono ?_;rintro e w' ⟨ad,i,cp,h1,h2,h3⟩;refine⟨ad,i,cp,h1,?_,h3⟩
    cases hc:eJ l k (2^G-1) with
    |none=>rw[hc]at h2;exact h2
    |some x=>rw[hc]at h2;simpa[JY]using h2
   have HB:=aH D;have HL:=aH F;have HQ:=aH hq;have e9:=aH b7;clear D F hu hq S b7 a7 K hs hm;go_enter func233,ntmps233;go_wp2;rw[<-I];clear I;refine bH _ aO aO ?_
   repeat(first|go_big_quiet_skip|(go_big_quiet_want;go_big_quiet_op;first|go_big_quiet_on|(apply Exists.intro;refine⟨fun _=>?_,?_⟩;(first|(go_at_call 146;exact wO (cQ G l _ _ (Ext.ints _ z)) Z)|(go_at_call 314;exact dN (lZ l _ _ (Ext.ints _ z) HM.out))|(go_at_call 302;exact bW (HG.out _ (Ext.ints _ z))));go_big_quiet_on)))
   refine wpQuiet_nil ?_;rintro w3 ⟨⟨w3,J⟩,rfl⟩
   try dsimp only
   clear e0 e1;obtain⟨d2,d3,B3,z3⟩:=(Box2.mk d0 d1 Y z1).after J;clear J d0 d1 Y z1 c5 z;go_wp2_with fail;go_loopw [4] (fun i wr=>∃k:Nat,k<=G+1/\i=aG k/\gG (fun k=>eJ l k (2^G-1)) k (G+1-k)=q/\Box2 w wr G (aA a l.length c)) (fun i _=>G+1-(intOf i).toNat)
   case atStart=>exact⟨0,Nat.zero_le _,rfl,HQ.out.symm,⟨d2,d3,B3,z3⟩⟩
   case round=>
    obtain⟨k,hk,rfl,b8,X⟩:=hrel;clear d2 d3 B3 z3;have a1:=aH b8;clear b8;obtain⟨d0,d1,B4,z4⟩:=X;by_cases hlt:k<=G
    ·have f8:=hv.below B4 aI;have c6:gG (fun k=>eJ l k (2^G-1)) k (G+1-k)=(match eJ l k (2^G-1) with|some x=>some x|none=>gG (fun k=>eJ l k (2^G-1)) (k+1) (G+1-(k+1))):=by rw[show G+1-k=(G+1-(k+1))+1 by omega];rfl
     have b3:=aH c6;have HC:=aH (e9.out k aD);obtain⟨o,ho⟩:=aJ (eJ l k (2^G-1));have b6:∀(W:World),aK W (aA a l.length c) l->Calls prog 315 #[.agg #[(G:Int),aA a l.length c],aA a l.length c,(),k] W fun e w'=>∃N i' O,e=.returned (.tuple #[aA N i' O,.bool o.isSome])/\aM 3 W w' (aA N i' O) (o.getD [])/\Below W W w':=by rw[ho];exact HC.out
     have e8:=aH b6;have HO:=aH ho;clear c6 b6 ho HC;go_wp2_with fail;refine(e8.out _ f8).mono ?_;rintro e w5 ⟨p5,i5,q5,rfl,o5,b5⟩;have X5:=(Box2.mk d0 d1 B4 z4).after b5;have b4:=aH X5;have f2:=aH o5;clear d0 d1 X5 o5 b5
     cases o with
     |none=>
      have b9:gG (fun k=>eJ l k (2^G-1)) (k+1) (G+1-(k+1))=q:=by have h1:=b3.out;rw[<-HO.out,a1.out]at h1;exact h1.symm
      have f0:=aH b9;clear b9;go_wp2;go_roundw
      case rel=>exact⟨k+1,by omega,by go_num,f0.out,b4.out⟩
      case measure=>simp[intOf];omega
     |some x=>
      have R:q=some x:=by have h1:=b3.out;rw[<-HO.out,a1.out]at h1;exact h1
      have M:=aH R;clear R;go_wp2;go_ret2;exact⟨p5,i5,q5,by rw[HB.out,M.out];rfl,by rw[HL.out,M.out];exact f2.out.mono B4.size,b4.out.B⟩
    ·have R:q=none:=by rw[<-a1.out,show G+1-k=0 by omega];rfl
     have M:=aH R;clear R;go_wp2;go_ret2;exact⟨none,0,0,by rw[HB.out,M.out];rfl,by rw[HL.out,M.out];exact aM.nil _ _ _,B4⟩
  ·have c5:(cX l != f)=true:=by rw[K];simp[hu]
   have hx:=aeG Z hu;have D:jU G l=false:=by unfold jU;rw[hx];rfl
   have F:fB G l=[]:=by unfold fB;rw[hx];rfl
   have HB:=aH D;have HL:=aH F;clear hx D F hu a7 K hs hm;go_enter func233,ntmps233;go_wp2;rw[<-I];clear I;refine bH _ aO aO ?_
   repeat(first|go_big_quiet_skip|(go_big_quiet_want;go_big_quiet_op;first|go_big_quiet_on|(apply Exists.intro;refine⟨fun _=>?_,?_⟩;(first|(go_at_call 146;exact wO (cQ G l _ _ (Ext.ints _ z)) Z)|(go_at_call 314;exact dN (lZ l _ _ (Ext.ints _ z) HM.out))|(go_at_call 302;exact bW (HG.out _ (Ext.ints _ z))));go_big_quiet_on)))
   refine wpQuiet_nil ?_;rintro w3 ⟨⟨w3,J⟩,rfl⟩
   try dsimp only
   clear e0 e1;have B3:=Y.after J Y.size;go_wp2;go_ret2;exact⟨none,0,0,by rw[HB.out];rfl,by rw[HL.out];exact aM.nil _ _ _,B3⟩
theorem agJ(w:World)(g:Int)(v:Value)(l:List Int)(hv:aK w v l):
  Calls prog 237 #[.agg #[g,v]] w fun e w'=>∃ad cp,e=.returned (.tuple #[.slice ad (eA g l).length cp,.bool (aU g l)])/\cV 3 25 w.heap.size w' (.slice ad (eA g l).length cp) (eA g l)/\Below w w w':=by
 have j4:=hv;obtain⟨a,c,rfl⟩:=hv.shape;obtain⟨T,N⟩:=aJ (eA g l);rw[<-N];have d0:=aH N;clear N;go_enter func237,ntmps237;go_wp2_with fail;refine bU ?_;intro V hV;have B:Below w w V:=gY hV;have K:aP V w 29 #[g,aA a l.length c]:=gJ hV;have o0:cV 3 25 w.heap.size V (aA none 0 0) []:=cV.nil _ _ _ _;clear hV;refine(cQ g l _ V (hv.below B aI)).mono ?_;rintro e w1 ⟨rfl,b1⟩;have o0:=o0.keep b1;have K:=K.keep b1;have B:=B.after b1 B.size;have G:=K.cell;have z:=K.lt
 cases S:aU g l with
 |false=>
  have hx:T=[]:=by rw[d0.out];unfold eA;rw[S];rfl
  subst hx;have HF:=aH S;clear S;go_wp2;go_ret2;exact⟨_,_,by rw[HF.out];rfl,o0,B⟩
 |true=>
  have hx:T=alP l:=by rw[d0.out];unfold eA;rw[S];rfl
  have h1:=dB S;have e4:∀s∈l,0<=s/\s<64:=fun s hs=>by obtain⟨k,hk,rfl⟩:=List.getElem_of_mem hs;exact(oH S).2.2 k hk
  have e7:=T7 S;have a7:=h1.2.2.2;have F:T=[]++qJ l.length l:=hx;have m3:T.length<=64:=by rw[hx];exact Nat.le_trans (MJ _ _) e7
  have HF:=aH S;have h0:=aH F;have c7:=aH a7;have f8:=aH e4;have j6:=j4.below B aI;clear hx h1 S F a7 e4;go_wp2_with fail;go_loopw [4,5] (fun ov rv wr=>∃(done:List (List Int)) (k:Nat) (rest:List Int) (oa:Option Addr) (oc:Nat) (ra:Option Addr) (rc:Nat),T=done++qJ k rest/\rest.length<=k/\k<=64/\(rest.Pairwise (· < ·)/\∀s∈rest,0<=s/\s<64)/\ov=aA oa done.length oc/\rv=aA ra rest.length rc/\aK wr (aA ra rest.length rc) rest/\cV 3 25 w.heap.size wr (aA oa done.length oc) done/\Below w w wr) (fun _ rv _=>lenOf rv)
  case atStart=>exact⟨[],l.length,l,_,_,_,_,h0.out,aI,e7,⟨c7.out,f8.out⟩,rfl,rfl,j6,o0,B⟩
  case round=>
   obtain⟨done,k,rest,oa,oc,ra,rc,N,m7,l0,⟨ha,hm⟩,rfl,rfl,hr,ho,Bo⟩:=hrel;obtain⟨wo,rfl⟩:∃z:World,z=wr:=⟨_,rfl⟩;clear o0;by_cases J:0<rest.length
   ·have I:rest≠[]:=fun e=>by rw[e]at J;simp at J
    have b8:(0:Int)<(rest.length:Int):=aD;have hlt:=abT I ha hm;obtain⟨k',rfl⟩:∃k',k=k'+1:=⟨k-1,by omega⟩;have O:T=(done++[jR rest])++qJ k' (qV rest):=by rw[N,SE _ _ I,List.append_assoc];rfl
    have b4:=YE ha;have b6:∀s∈qV rest,0<=s/\s<64:=fun s hs=>hm s (MV hs);have m4:done.length<=64:=by have:=congrArg List.length N;rw[List.length_append]at this;omega
    have b7:=FT rest _ wo hr hm aD;have Z:qV rest=(rest.take rest.length).filter (fun s=>!gQ (jR rest) s):=by rw[List.take_length];rfl
    obtain⟨M,hM⟩:=aJ (jR rest);obtain⟨R,hR⟩:=aJ (qV rest);rw[<-hM]at b7 O Z;rw[<-hR]at hlt O b4 b6 Z;have h5:=aH O;have g9:=aH Z;have g5:=aH (And.intro b4 b6);have g2:=aH b7;have HO:=aH ho;have HR:=aH hr;have g8:=aH hm;clear N O Z b4 b6 b7 ho hM hR ha hm I;go_wp2_with fail;refine g2.out.mono ?_;rintro e w2 ⟨p2,i2,q2,rfl,o2,b2⟩;have i6:i2=M.length:=o2.ints.capLe.1;subst i6;have j1:=HR.out.keep b2;obtain⟨_,rb,l2,_,j5,_,e5,hc,hb⟩:=j1.view prog 25 3 underlying25 aN;injection j5 with x1 _ x3;subst x1 x3;have HC:=aH hc;have g0:=aH e5;have c9:=aH o2;clear hc e5 o2;go_wp2_with fail;go_loopw [7,22] (fun lv i wr=>∃(j:Nat) (ad:Option Addr) (nn cp:Nat),j<=rest.length/\i=aG j/\lv=aA ad nn cp/\aM 3 w2 wr (aA ad nn cp) ((rest.take j).filter (fun s=>!gQ M s))/\Below w2 w2 wr) (fun _ i _=>rest.length-(intOf i).toNat)
    case atStart=>exact⟨0,_,_,_,Nat.zero_le _,rfl,rfl,aM.nil _ _ _,Below.refl _ _⟩
    case round=>
     obtain⟨j,ad,nn,cp,hj,rfl,rfl,hw,Bi⟩:=hrel;obtain⟨wi,rfl⟩:∃z:World,z=wr:=⟨_,rfl⟩;have HW:=aH hw;have zi:=Bi.size;clear hw;by_cases Y:j<rest.length
     ·have e6:(j:Int)<(rest.length:Int):=aD;have ck:=aR HC.out hb Bi aI j Y;have ik:=fun W=>g0.out W j Y;have c5:=SU (fun s=>!gQ M s) rest j Y;have j8:=g8.out rest[j] (List.getElem_mem Y);have m6:((rest.take j).filter (fun s=>!gQ M s)).length<=64:=by have h1:=List.length_filter_le (fun s=>!gQ M s) (rest.take j);have h2:=List.length_take_le j rest;omega
      obtain⟨x,hx⟩:=aJ (rest[j]);rw[<-hx]at ck c5 j8;have b5:=xB M _ x wi (c9.out.ints.keep Bi);obtain⟨q,hq⟩:=aJ (gQ M x);rw[<-hq]at b5;have D:(rest.take (j+1)).filter (fun s=>!gQ M s)=(rest.take j).filter (fun s=>!gQ M s)++(if !q then [x] else []):=by rw[c5,hq]
      have c8:=aH b5;clear c5 b5 hx hq
      cases q with
      |true=>
       rw[if_neg (by simp),List.append_nil]at D;have b3:=aH D;clear D;go_wp2_with (go_at_call 318;refine c8.out.mono ?_;rintro e w' ⟨rfl,rfl⟩);go_roundw
       case rel=>exact⟨j+1,ad,nn,cp,by omega,by go_num,rfl,by rw[b3.out];exact HW.out,Bi⟩
       case measure=>simp[intOf];omega
      |false=>
       rw[if_pos (by simp)]at D;have b3:=aH D;clear D;go_wp2_with (first
        |(go_at_call 318;refine c8.out.mono ?_;rintro e w' ⟨rfl,rfl⟩)
        |(at_builtin;refine dA rfl _ _ _ rfl 3 underlying25 aN w2.heap.size _ _ x wi.heap.size rfl rfl (aZ wi #[x] 3 0 _ rfl) (HW.out.alloc _) ⟨by omega,by omega⟩ aD (by first|omega|(simp;done)|(simp;omega)) ?_;intro v' w6 a8 i1;obtain⟨av,nv,cv,rfl⟩:=a8.shape3))
       have B6:Below w2 w2 w6:=(Bi.alloc Bi.size (.cells #[x] 3)).grown i1 aT (fun q hq=>(HW.out.lt q hq).1);go_roundw
       case rel=>exact⟨j+1,av,nv,cv,by omega,by go_num,rfl,by rw[b3.out];exact a8,B6⟩
       case measure=>simp[intOf];omega
     ·have e6:¬(j:Int)<(rest.length:Int):=aD;have i7:j=rest.length:=aD;subst i7;have hw:=HW.out;rw[<-g9.out]at hw;have i8:nn=R.length:=hw.ints.capLe.1;subst i8;have h6:=aH hw;have e0:=b2.after Bi b2.size;have Bw:=Bo.after e0 Bo.size;have b0:=aH (HO.out.keep e0);have g6:=aH ((c9.out.keep Bi).mono Bo.size);clear hw;go_wp2_with (at_builtin;refine xF rfl _ _ _ rfl 3 25 yD underlying77 lY w.heap.size _ done (aA p2 M.length q2) M wi.heap.size rfl rfl (aZ wi #[aA p2 M.length q2] 25 0 _ rfl) ((b0.out).alloc _) (g6.out.alloc _) aD (by have:=Bw.size;simp;omega) ?_;intro v7 w7 o7 g7);have rO:=b0.out.lt;obtain⟨n2,f2⟩:=(b0.out.alloc (.cells #[aA p2 M.length q2] 25)).row;have j7:=(h6.out.alloc (.cells #[aA p2 M.length q2] 25)).growL f2 yD g7;have B7:Below w w w7:=(Bw.alloc Bw.size (.cells #[aA p2 M.length q2] 25)).grown g7 (by have:=Bw.size;simp;omega) (fun q hq=>(rO q hq).1);obtain⟨k1,k3,rfl,_⟩:=o7.len;have m5:(done++[M]).length=done.length+1:=by simp
      go_wp2_with fail;go_roundw
      case rel=>exact⟨done++[M],k',R,k1,k3,ad,cp,h5.out,by omega,by omega,g5.out,rfl,rfl,j7.ints,o7,B7⟩
      case measure=>simp[lenOf];omega
   ·have I:rest=[]:=by cases rest with
     |nil=>rfl
     |cons x r=>simp at J
    subst I;have b8:¬(0:Int)<(0:Int):=aD;rw[WT,List.append_nil]at N;subst N;go_wp2;go_ret2;exact⟨_,_,by rw[HF.out];rfl,ho,Bo⟩
theorem W8{p:Prop}(h:p:=by
  go_wp2;go_round
  case rel=>exact⟨k+1,by omega,by go_num,by rw[Z.out],by rw[H2.out]⟩
  case measure=>simp[intOf];omega):p:=h
theorem ajU(p:List Int)(v:Value)(s:Nat)(w:World)(hv:aK w v p)(d0:p.length<=6)(Y:∀x∈p,0<=x/\x<6)(hs:s<64):
  Calls prog 360 #[v,(s:Int)] w fun e w'=>e=.returned (.tuple #[(rH p s p.length),(wK p s p.length),.bool (xC p s)])/\w=w':=by
 obtain⟨a,b,e4,c,rfl,b7,R,hc,hb⟩:=hv.view prog 25 3 underlying25 aN;have HC:=aH hc;have a6:=aH R;have a7:=aH Y;have a8:=aH (fH s w aD);clear hc R Y;go_enter func360,ntmps360;go_wp2;go_loop [7,8,13] (fun fi la i=>∃k:Nat,k<=p.length/\i=aG k/\fi=aG (rH p s k)/\la=aG (wK p s k)) (fun _ _ i=>p.length-(intOf i).toNat)
 case atStart=>exact⟨0,Nat.zero_le _,rfl,rfl,rfl⟩
 case round=>
  obtain⟨k,hk,rfl,rfl,rfl⟩:=hrel;by_cases hlt:k<p.length
  ·have S:(k:Int)<(p.length:Int):=aD;have ck:=HC.out k hlt;have ik:=fun W=>a6.out W k hlt;have hm:=a7.out _ (List.getElem_mem hlt);have h1:=FJ p s k;have h2:=M1 p s k;have h3:=O5 p s k;obtain⟨e,he⟩:∃e:Nat,p[k]=(e:Int):=⟨p[k].toNat,by omega⟩;have O:KY p s k=cZ s e:=by unfold KY;rw[List.getD_eq_getElem?_getD,List.getElem?_eq_getElem hlt,Option.getD_some,he,Int.toNat_natCast]
   rw[he]at ck hm;rw[O]at h1 h2;have c7:e<6:=aD;have N:=jN (s:Int) e aD aD;have D:=oP s e;obtain⟨y,hy⟩:=aJ (dI (s:Int) e);rw[<-hy]at N D;have hp:=cJ e 6 aD;have c8:(2:Int)^e<=64:=by simpa using hp.1
   have c9:=hp.2;obtain⟨F,J⟩:=aJ (rH p s k);obtain⟨L,K⟩:=aJ (wK p s k);rw[<-J]at h1 h3 ⊢;rw[<-K]at h2 ⊢;clear hp hy O he hm J K
   cases z:cZ s e with
   |false=>
    have b5:(y==1)=false:=by rw[D,z]
    rw[z,Bool.false_and,if_neg (by simp)]at h1;rw[z,if_neg (by simp)]at h2;have Z:=aH h1;have H2:=aH h2;clear z D h1 h2;exact W8
   |true=>
    have b5:(y==1)=true:=by rw[D,z]
    rw[z,Bool.true_and]at h1;rw[z,if_pos rfl]at h2;have H2:=aH h2;clear z D h2;by_cases I:F<0
    ·rw[decide_eq_true I,if_pos rfl]at h1;have Z:=aH h1;clear h1;exact W8
    ·rw[decide_eq_false I,if_neg (by simp)]at h1;have Z:=aH h1;clear h1;exact W8
  ·have b1:k=p.length:=aD;have S:¬(k:Int)<(p.length:Int):=aD;have h3:=O5 p s p.length;have h4:=ajS p s p.length;have M:xC p s=decide (wK p s p.length-rH p s p.length+1=(bY s:Int)):=rfl;subst b1;obtain⟨F,J⟩:=aJ (rH p s p.length);obtain⟨L,K⟩:=aJ (wK p s p.length);rw[<-J,<-K]at M ⊢;rw[<-J]at h3;rw[<-K]at h4;have e5:IntKind.i64.wrap (L-F)=L-F:=by rw[IntKind.wrap_i64];omega
   have e6:IntKind.i64.wrap (L-F+1)=L-F+1:=by rw[IntKind.wrap_i64];omega
   have a9:(L-F+1==(bY s:Int))=xC p s:=by rw[M];by_cases h:L-F+1=(bY s:Int)<;>simp[h]
   obtain⟨o,ho⟩:=aJ (xC p s);rw[<-ho]at a9;have HH:=aH (And.intro J (And.intro K ho));clear M J K ho;go_wp2_with (go_at_call 214;refine a8.out.mono ?_;rintro e w3 ⟨rfl,rfl⟩);go_ret3;exact⟨by rw[<-HH.out.1,<-HH.out.2.1,<-HH.out.2.2];rfl,rfl⟩
theorem afT(g:Int)(l p:List Int)(v u:Value)(w:World)(hv:aK w v l)(hu:aK w u p)(b3:p.length<=6)(a6:∀x∈p,0<=x/\x<6)(S:∀s∈l,0<=s/\s<64):
  Calls prog 321 #[.agg #[g,v],u] w fun e w'=>e=.returned (.bool (mE l p))/\Below w w w':=by
 have e0:=hv;have b4:=hu;obtain⟨a,b,e5,c,rfl,b7,O,hc,hb⟩:=hv.view prog 25 3 underlying25 aN;obtain⟨a',c',rfl⟩:=hu.shape;have N:=aR hc hb (bF w (.cells #[g,aA a l.length c] 29)) aI;have a7:=fun(s:Nat) (hs:s<64)=>ajU p _ s _ (b4.alloc (.cells #[g,aA a l.length c] 29)) b3 a6 hs;have HC:=aH N;have a8:=aH O;have a9:=aH S;have b1:=aH a7;clear hc N O S a7 a6;go_enter func321,ntmps321;go_wp2;go_loop [13] (fun i=>∃k:Nat,k<=l.length/\i=aG k/\(∀j,(R:j<l.length)->j<k->oW p l[j]=true)) (fun i=>l.length-(intOf i).toNat)
 case atStart=>exact⟨0,Nat.zero_le _,rfl,by intros;omega⟩
 case round=>
  obtain⟨k,hk,rfl,F⟩:=hrel;have HY:=aH F;clear F;by_cases hlt:k<l.length
  ·have Y:(k:Int)<(l.length:Int):=aD;have ck:=HC.out k hlt;have ik:=fun W=>a8.out W k hlt;have hm:=a9.out _ (List.getElem_mem hlt);obtain⟨s,I⟩:∃s:Nat,l[k]=(s:Int):=⟨l[k].toNat,by omega⟩;have z:oW p l[k]=((s:Int)==0||xC p s):=by unfold oW;rw[I,Int.toNat_natCast]
   have J:=b1.out s aD;have Z:oW p l[k]=false->mE l p=false:=fun h=>by unfold mE;rw[List.all_eq_false];exact⟨l[k],List.getElem_mem hlt,by rw[h];simp⟩
   have a1:oW p l[k]=true->∀j,(R:j<l.length)->j<k+1->oW p l[j]=true:=fun h j R c9=>by
    by_cases e:j=k
    ·subst e;exact h
    ·exact HY.out j R aD
   rw[I]at ck;obtain⟨o,ho⟩:=aJ (xC p s);rw[<-ho]at z J;have b0:=aH Z;have K:=aH a1;have M:=aH J;clear Z a1 J ho I hm
   cases h0:((s:Int)==0) with
   |true=>
    rw[h0,Bool.true_or]at z;have D:=aH z;clear z;go_wp2;go_round
    case rel=>exact⟨k+1,by omega,by go_num,K.out D.out⟩
    case measure=>simp[intOf];omega
   |false=>
    rw[h0,Bool.false_or]at z;have D:=aH z;clear z
    cases o with
    |true=>
     go_wp2_with (go_at_call 360;refine M.out.mono ?_;rintro e w3 ⟨rfl,rfl⟩);go_round
     case rel=>exact⟨k+1,by omega,by go_num,K.out D.out⟩
     case measure=>simp[intOf];omega
    |false=>go_wp2_with (go_at_call 360;refine M.out.mono ?_;rintro e w3 ⟨rfl,rfl⟩);go_ret;exact⟨by rw[b0.out D.out];rfl,bF _ _⟩
  ·have Y:¬(k:Int)<(l.length:Int):=aD;have hr:mE l p=true:=by unfold mE;rw[List.all_eq_true];intro x hx;obtain⟨j,R,rfl⟩:=List.getElem_of_mem hx;exact HY.out j R aD
   have HR:=aH hr;clear hr;go_wp2;go_ret;exact⟨by rw[HR.out];rfl,bF _ _⟩
theorem ar0(w:World)(g:Int)(v:Value)(l:List Int)(hv:aK w v l):
  Calls prog 239 #[.agg #[g,v]] w fun e w'=>∃ad i cp,e=.returned (.tuple #[aA ad i cp,.bool (AK g l)])/\aM 3 w w' (aA ad i cp) (oK g l)/\Below w w w':=by
 have f3:=hv;obtain⟨a,c,rfl⟩:=hv.shape;go_enter func239,ntmps239;go_wp2_with fail;refine bU ?_;intro V hV;have B:Below w w V:=gY hV;have K:aP V w 29 #[g,aA a l.length c]:=gJ hV;clear hV;refine(cQ g l _ V (hv.below B aI)).mono ?_;rintro e w1 ⟨rfl,b1⟩;have K:=K.keep b1;have B:=B.after b1 B.size;have G:=K.cell;have z:=K.lt
 cases O:aU g l with
 |false=>
  have hx:AK g l=false/\oK g l=[]:=by unfold AK oK;rw[O];exact⟨rfl,rfl⟩
  have HX:=aH hx;clear hx O;go_wp2;go_ret2;exact⟨none,0,0,by rw[HX.out.1];rfl,by rw[HX.out.2];exact aM.nil _ _ _,B⟩
 |true=>
  obtain⟨g8,g9,e9,_⟩:=dB O;obtain⟨N,rfl⟩:∃N:Nat,g=N:=⟨g.toNat,by omega⟩;have b0:∀s∈l,0<=s/\s<64:=fun s hs=>by obtain⟨k,hk,rfl⟩:=List.getElem_of_mem hs;exact(oH O).2.2 k hk
  have I:=uI N N;have hR:yT (N:Int) l=(cY N N).find? (mE l):=by unfold yT;rw[Int.toNat_natCast]
  have hB:AK (N:Int) l=(yT (N:Int) l).isSome:=by unfold AK;rw[O];rfl
  have hL:oK (N:Int) l=(yT (N:Int) l).getD []:=by unfold oK;rw[O];rfl
  have a8:=aH (FV N aD w1);obtain⟨D,b6⟩:=aJ (cY N N);have b5:=AU N aD N;have e4:(6:Nat)^N<=6^6:=Nat.pow_le_pow_right aQ aD;rw[<-b6]at hR I a8 b5;have g0:D.length<=46656:=aD;have a9:=aH hR;have Y:=aH hB;have a6:=aH hL;have d0:=aH I;have c9:=aH b0;clear O e9 I hR hB hL b6 b0 b5 e4;go_wp2_with fail;refine a8.out.mono ?_;rintro e w2 ⟨pO,iO,qO,rfl,oO,b2⟩;obtain⟨_,_,b9,_⟩:=oO.len;have e8:iO=D.length:=by injection b9
  subst e8;have K:=K.keep b2;have z1:=B.size;have B:=B.after b2 B.size;clear G z b9;have zk:=K.lt;go_wp2_with fail;go_loopw [13] (fun i wr=>∃k:Nat,k<=D.length/\i=aG k/\(∀j,(hj:j<D.length)->j<k->mE l D[j]=false)/\Below w2 w2 wr) (fun i _=>D.length-(intOf i).toNat)
  case atStart=>exact⟨0,Nat.zero_le _,rfl,by intros;omega,Below.refl _ _⟩
  case round=>
   obtain⟨k,hk,rfl,b8,S⟩:=hrel;obtain⟨wo,rfl⟩:∃z:World,z=wr:=⟨_,rfl⟩;have HN:=aH b8;clear b8;have Bw:=B.after S B.size;by_cases hlt:k<D.length
   ·have b7:(k:Int)<(D.length:Int):=aD;obtain⟨gg,u,h0,e7,hu⟩:=(oO.keep S).view prog 77 underlying77 lY k hlt;have hm:=d0.out _ (List.getElem_mem hlt);have J:=afT (N:Int) l D[k] _ _ wo (f3.below Bw aI) hu.ints aD (fun x hx=>by have:=hm.2 x hx;omega) c9.out;have F:mE l D[k]=true->yT (N:Int) l=some D[k]:=fun h=>by rw[a9.out];exact VS k hlt HN.out h
    have R:mE l D[k]=false->∀j,(hj:j<D.length)->j<k+1->mE l D[j]=false:=fun h j hj h5=>by
     by_cases e:j=k
     ·subst e;exact h
     ·exact HN.out j hj aD
    have a7:=aH R;obtain⟨p,hp⟩:=aJ (D[k]);rw[<-hp]at J F hu R a7;obtain⟨o,ho⟩:=aJ (mE l p);rw[<-ho]at J;have Z:=aH J;have a1:=aH F;have M:=aH ho;have HU:=aH (hu.mono (show w.heap.size<=w1.heap.size from z1));obtain⟨ua,un,uc,rfl⟩:=hu.shape3;have Kw:=K.keep S;have G:=Kw.cell;have zz:=Kw.lt;clear R F J ho hp hm hu
    cases o with
    |true=>go_wp2_with fail;refine Z.out.mono ?_;rintro e w3 ⟨rfl,b3⟩;go_wp2;go_ret2;exact⟨ua,un,uc,by rw[Y.out,a1.out M.out.symm];rfl,by rw[a6.out,a1.out M.out.symm];exact HU.out.keep b3,Bw.after b3 Bw.size⟩
    |false=>
     go_wp2_with fail;refine Z.out.mono ?_;rintro e w3 ⟨rfl,b3⟩;go_wp2;go_roundw
     case rel=>exact⟨k+1,by omega,by go_num,a7.out M.out.symm,S.after b3 S.size⟩
     case measure=>simp[intOf];omega
   ·have b7:¬(k:Int)<(D.length:Int):=aD;have hr:yT (N:Int) l=none:=by rw[a9.out];exact RX (fun j hj=>HN.out j hj aD)
    have HR:=aH hr;clear hr;go_wp2;go_ret2;exact⟨none,0,0,by rw[Y.out,HR.out];rfl,by rw[a6.out,HR.out];exact aM.nil _ _ _,Bw⟩
theorem XZ:∀n:Nat,n<=5->∀s:Nat,s<2^n->∀e:Nat,e<n->dI (s:Int) e≠1->bY s+1<=n:=by decide +kernel
theorem NN(k:Nat)(h:k<=4):gA k<=24:=by
 have:=RU k 4 h;have e:gA 4=24:=by decide
 omega
theorem JU{a b A B:Int}(D:0<=a)(F:a<=A)(hb:-B<=b)(hB:b<=B)(z:0<=B):-(A*B)<=a*b/\a*b<=A*B:=by
 have h1:a*b<=a*B:=Int.mul_le_mul_of_nonneg_left hB D;have h2:a*B<=A*B:=Int.mul_le_mul_of_nonneg_right F z;have h3:a*(-B)<=a*b:=Int.mul_le_mul_of_nonneg_left hb D;rw[Int.mul_neg]at h3;omega
theorem apD(l:List Int)(n e:Nat)(I:n<=5)(D:e<n)(hl:l.length=2^n)(z:∀k,(hk:k<l.length)->-1000<=l[k]/\l[k]<=1000)(s:Nat)(K:s<=2^n):-1152000*(s:Int)<=oX l n e s/\oX l n e s<=1152000*(s:Int):=by
 induction s with
 |zero=>simp[oX]
 |succ s ih=>
  have h1:=ih aD;rw[oX];by_cases hb:dI (s:Int) e=1
  ·rw[if_pos hb];omega
  ·rw[if_neg hb];have hr:=XZ n I s aD e D hb;have f1:=NN (bY s) aD;have J:=NN (n-1-bY s) aD;have F:=L0 l s e aD (by rw[hl];exact eI _ _ _ aD D) z;unfold gM at F;have m1:=JU (a:=(gA (bY s):Int)) (b:=(gA (n-1-bY s):Int)) (A:=24) (B:=24) aD aD aD aD aD;have m0:0<=(gA (bY s):Int)*(gA (n-1-bY s):Int):=Int.mul_nonneg aD aD;have M:=JU (a:=(gA (bY s):Int)*(gA (n-1-bY s):Int)) (b:=l.getD (bX s e) 0-l.getD s 0) (A:=576) (B:=2000) m0 aD aD aD aD;omega
theorem apE(w:World)(n:Int)(v:Value)(l:List Int)(hv:aK w v l)(_:l.length<=1048576):
  Calls prog 41 #[.agg #[n,v]] w fun e w'=>∃ad i cp,e=.returned (aA ad i cp)/\aM 3 w w' (aA ad i cp) (gX n l)/\Below w w w':=by
 obtain⟨a,b,l9,c,rfl,j5,e8,hc,hb⟩:=hv.view prog 25 3 underlying25 aN;have X0:=Box2.new w n (aA a l.length c) 27;have o0:aM 3 (w.heap.size+1) ((w.alloc (.cells #[n,aA a l.length c] 27)).alloc (.cells #[] 3)) (aA (some ⟨w.heap.size+1,0,none⟩) 0 0) []:=by have:=aM.lit0 (E:=3) (B:=w.heap.size+1) (w.alloc (.cells #[n,aA a l.length c] 27)) (by simp);simpa using this
 have X1:=X0.after (bF _ (.cells #[] 3));clear X0
 cases hf:aY n l with
 |false=>
  have hx:gX n l=[]:=by unfold gX;rw[hf];rfl
  have HX:=aH hx;have HF:=aH hf;have HO:=aH o0;clear hx hf e8 hc o0;obtain⟨d0,d1,M,z1⟩:=X1;go_enter func41,ntmps41;go_wp2_with fail;refine wp_loop_rounds 1 ?_;rw[rounds_succ];go_wp2_with fail;refine(dH n l _ _ (hv.below M aI)).mono ?_;rintro e w2 ⟨rfl,K⟩;rw[HF.out];have B2:=M.after K M.size;have g5:=aH (HO.out.keep K);go_wp2;go_ret;exact⟨_,_,_,rfl,by rw[HX.out];exact g5.out.mono (Nat.le_succ _),B2⟩
 |true=>
  obtain⟨h0,h5,hl,e9⟩:=kP hf;obtain⟨N,rfl⟩:=Int.eq_ofNat_of_zero_le h0;have hN:N<=5:=aD;have b4:l.length=2^N:=by
   have:((l.length:Nat):Int)=((2^N:Nat):Int):=by push_cast;exact hl
   exact_mod_cast this
  have j4:l.length<=32:=by rw[b4];exact Nat.pow_le_pow_right aQ hN
  have hx:gX N l=nR N l:=by unfold gX;rw[if_pos hf];rfl
  have HX:=aH hx;have a8:=aH e9;have O:=aH b4;have HF:=aH hf;have HO:=aH o0;clear hx hl e9 b4 hf o0;go_enter func41,ntmps41;go_wp2_with fail;go_loopw [3,4] (fun out i wr=>∃(e:Nat) (ad:Option Addr) (nn cp:Nat),e<=N/\i=aG e/\out=aA ad nn cp/\aM 3 (w.heap.size+1) wr (aA ad nn cp) ((nR N l).take e)/\Box2 w wr N (aA a l.length c))
   (fun _ i _=>N-(intOf i).toNat)
  case atStart=>exact⟨0,_,_,_,Nat.zero_le _,rfl,rfl,by simpa using HO.out,X1⟩
  case round=>
   obtain⟨e,ad,nn,cp,he,rfl,rfl,ow,X⟩:=hrel;have HW:=aH ow;clear ow X1;obtain⟨d0,d1,M,z1⟩:=X;go_wp2_with fail;refine(dH N l _ _ (hv.below M aI)).mono ?_;rintro e' w2 ⟨rfl,K⟩;rw[HF.out];have X2:=(Box2.mk d0 d1 M z1).after K;have b0:=aH (HW.out.keep K);clear K d0 d1 M z1;obtain⟨d0,d1,M,z1⟩:=X2;by_cases a1:e<N
   ·have e6:=aR hc hb M aI;have a6:(nR N l).length=N:=by simp[nR]
    have f3:(nR N l).take (e+1)=(nR N l).take e++[oX l N e (2^N)]:=by rw[List.take_succ_eq_append_getElem (by rw[a6];exact a1)];simp[nR]
    have l7:((nR N l).take e).length<=5:=by rw[List.length_take];omega
    have g6:=aH f3;have c7:=aH e6;clear a6 f3 e6;go_wp2_with fail;go_loopw [5,6] (fun x i wr=>∃s m:Nat,s<=l.length/\i=aG s/\x=aG (oX l N e s)/\wr=w2.drewN m) (fun _ i _=>l.length-(intOf i).toNat)
    case atStart=>exact⟨0,0,Nat.zero_le _,rfl,rfl,rfl⟩
    case round=>
     obtain⟨s,m,hs,rfl,rfl,rfl⟩:=hrel;have Z:=apD l N e hN a1 O.out a8.out s (by rw[<-O.out];exact hs);by_cases hlt:s<l.length
     ·have j3:=jN s e aD aD;by_cases I:dI (s:Int) e=1
      ·have ht:(dI (s:Int) e==1)=true:=by simp[I]
       have D:oX l N e (s+1)=oX l N e s:=by rw[oX,if_pos I]
       have a9:=aH D;clear I D;go_wp2;go_roundw
       case rel=>exact⟨s+1,m,by omega,by go_num,by rw[a9.out],rfl⟩
       case measure=>simp[intOf];omega
      ·have ht:(dI (s:Int) e==1)=false:=by simp[I]
       have D:oX l N e (s+1)=oX l N e s+(gA (bY s):Int)*(gA (N-1-bY s):Int)*(l.getD (bX s e) 0-l.getD s 0):=by rw[oX,if_neg I]
       have b9:s<2^N:=by rw[<-O.out];exact hlt
       have hr:=XZ N hN s b9 e a1 I;have R:bX s e<l.length:=by rw[O.out];exact eI _ _ _ b9 a1
       have f4:=a8.out s hlt;have f5:=a8.out _ R;have h7:=c7.out s hlt;have e5:=c7.out _ R;have h8:=fun w'=>e8 w' _ R;rw[show l.getD (bX s e) 0=l[bX s e] by rw[List.getD_eq_getElem?_getD,List.getElem?_eq_getElem R];rfl,show l.getD s 0=l[s] by rw[List.getD_eq_getElem?_getD,List.getElem?_eq_getElem hlt];rfl]at D;have S:∀W,Calls prog 95 #[aG (bY s:Int)] W fun e' w'=>e'=.returned (aG (gA (bY s):Int))/\W=w':=fun W=>by have:=RT (bY s:Int) W;rw[show vN (bY s:Int)=(gA (bY s):Int) by unfold vN;rw[show dV (bY s:Int) 0 12=true from cR.2 ⟨by omega,by omega⟩];rfl]at this;exact this
       have Y:∀W,Calls prog 95 #[aG ((N:Int)-1-(bY s:Int))] W fun e' w'=>e'=.returned (aG (gA (N-1-bY s):Int))/\W=w':=fun W=>by have:=RT (((N-1-bY s:Nat)):Int) W;rw[show vN ((N-1-bY s:Nat):Int)=(gA (N-1-bY s):Int) by unfold vN;rw[show dV ((N-1-bY s:Nat):Int) 0 12=true from cR.2 ⟨by omega,by omega⟩];rfl]at this;rw[show((N:Int)-1-(bY s:Int))=((N-1-bY s:Nat):Int) by omega];exact this
       have f1:=NN (bY s) aD;have f2:=NN (N-1-bY s) aD;have i1:=lQ s w2 aD;obtain⟨x,hx⟩:=aJ (l[bX s e]);obtain⟨y,hy⟩:=aJ (l[s]);obtain⟨q,hq⟩:=aJ (bX s e);obtain⟨F,hF⟩:∃F:Int,F=(gA (bY s):Int):=⟨_,rfl⟩;obtain⟨G,hG⟩:∃G:Int,G=(gA (N-1-bY s):Int):=⟨_,rfl⟩;obtain⟨k,hk⟩:∃k:Int,k=(bY s:Int):=⟨_,rfl⟩;obtain⟨k2,b3⟩:∃k:Int,k=(N:Int)-1-(bY s:Int):=⟨_,rfl⟩;obtain⟨z,hz⟩:∃z:Int,z=oX l N e s:=⟨_,rfl⟩;rw[<-hx]at D f5 e5;rw[<-hy]at D f4 h7;rw[<-hF]at D S;rw[<-hG]at D Y;rw[<-b3]at Y;rw[<-hk]at S;rw[<-hz]at D Z ⊢;have m1:=JU (a:=F) (b:=G) (A:=24) (B:=24) aD aD aD aD aD;have m0:0<=F*G:=Int.mul_nonneg aD aD;have m2:=JU (a:=F*G) (b:=x-y) (A:=576) (B:=2000) m0 aD aD aD aD;obtain⟨p1,b5⟩:∃p:Int,p=F*G:=⟨_,rfl⟩;obtain⟨p2,b6⟩:∃p:Int,p=p1*(x-y):=⟨_,rfl⟩;obtain⟨p3,b7⟩:∃p:Int,p=(N:Int)-1:=⟨_,rfl⟩;rw[<-b5]at m0 m1 m2 D;rw[<-b6]at m2 D;have w1:IntKind.i64.wrap (F*G)=p1:=by rw[b5];exact IntWalk.i64_in _ aD
       have m3:IntKind.i64.wrap (x-y)=x-y:=IntWalk.i64_in _ aD;have w3:IntKind.i64.wrap (p1*(x-y))=p2:=by rw[b6];exact IntWalk.i64_in _ aD
       have w4:IntKind.i64.wrap ((N:Int)-1)=p3:=by rw[b7];exact IntWalk.i64_in _ aD
       have w5:IntKind.i64.wrap (p3-k)=k2:=by rw[b7,hk,b3];exact IntWalk.i64_in _ aD
       have w6:IntKind.i64.wrap (z+p2)=z+p2:=IntWalk.i64_in _ aD;have h9:=fQ s e aD aD;have b8:=cJ e 6 aD;have j6:(2:Int)^e<=64:=by simpa using b8.1
       have j7:=b8.2;rw[<-hq]at h9 h8 e5;have a9:=aH D;have c8:=aH S;have c9:=aH Y;have HK:=aH hk;have l4:(0:Int)<=(e:Int):=Int.natCast_nonneg _;clear I D S Y R hr b9 hx hy hq hF hG hk b3 hz b5 b6 b7 m0 m1 m2 f1 f2 b8 i1 f4 f5 Z;go_wp2_with (go_at_call 84;refine(lQ s _ aD).mono ?_;rintro e' w' ⟨rfl,rfl⟩;rw[<-HK.out]);go_quiet ((go_at_call 95;first|(with_reducible exact gL (c8.out _))|(with_reducible exact jF (c8.out _))|(with_reducible exact gL (c9.out _))|(with_reducible exact jF (c9.out _))));go_wp2;go_roundw
       case rel=>exact⟨s+1,m+nq,by omega,by go_num,by rw[a9.out],by simp⟩
       case measure=>simp[intOf];omega
     ·have f0:s=2^N:=by have:=O.out;omega
      have j9:(s:Int)<=32:=aD;obtain⟨z,hz⟩:∃z:Int,z=oX l N e s:=⟨_,rfl⟩;rw[<-hz]at Z ⊢;have f6:z=oX l N e (2^N):=by rw[hz,f0]
      have k1:-40000000<=z:=aD;have k3:z<=40000000:=aD;have HZ:=aH f6;clear hz f6 f0 Z;go_wp2_with (at_builtin;refine dA rfl _ _ _ rfl 3 underlying25 aN (w.heap.size+1) _ _ z w2.heap.size rfl rfl (aZ w2 #[z] 3 0 _ rfl) ((b0.out.alloc _).drewN m) ⟨by omega,by omega⟩ aD (by first|omega|(simp;done)|(simp;omega)) ?_;intro v' w6 J e7;obtain⟨av,nv,cv,rfl⟩:=J.shape3);have X6:=(((Box2.mk d0 d1 M z1).after (bF _ (.cells #[z] 3))).drewN m).grow e7 (fun k hk=>by have:=(b0.out.lt k hk).1;omega);rw[HZ.out,<-g6.out]at J;have g7:=aH J;clear J e7;go_wp2;go_roundw
      case rel=>exact⟨e+1,_,_,_,by omega,by go_num,rfl,g7.out,X6⟩
      case measure=>simp[intOf];omega
   ·have l5:e=N:=aD;have a6:(nR N l).length=N:=by simp[nR]
    have hw:(nR N l).take e=nR N l:=List.take_of_length_le aD;have HH:=aH hw;clear hw a6;go_wp2;go_ret;exact⟨_,_,_,rfl,by rw[HX.out,<-HH.out];exact b0.out.mono (Nat.le_succ _),M⟩
end
end Go.Proofs.YtkdbkjjacgigiaaGreatDoor
