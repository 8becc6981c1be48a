/- Lemmas for CardReports. No condition. -/
import Derived.Test.YtcpoomdoodlkjaaGreatDoorQ19
import Derived.Test.YtcpoomdoodlkjaaGreatDoorQ20
set_option maxRecDepth 100000
set_option maxHeartbeats 64000000
namespace Go.Proofs.YtcpoomdoodlkjaaGreatDoor
section
open Go.RowKit Go.G5 Go.Proofs.Tryz
def EY(o:Option (List Int))(z:List Int):List Int:=match o with|some x=>z++x|none=>[]
theorem AE(g:Nat)(hg:g<=6)(F t z:List Int)(K:Int)(w:World)(vF tv:Value)(ad:Option Addr)(ni cp:Nat)(B:Nat)(a1:aR w vF F)(hv:aR w tv t)(R:aP 3 B w (aI ad ni cp) z)
  (ha:∀s∈z,0<=s/\s<64) (hu:dE z=2^g-1):
  Calls prog 237 #[.agg #[(g:Int),vF],tv,aI ad ni cp,K] w fun e w'=>
   e=.returned (.tuple #[aI ad ni cp,.bool true])/\aP 3 B w' (aI ad ni cp) z/\Below w w w':=by
 obtain⟨N,O,rfl⟩:=a1.shape;obtain⟨av,cv,rfl⟩:=hv.shape;obtain⟨d0,d1,M,z1⟩:=Box2.new w g (aI N F.length O) 31;obtain⟨W0,J⟩:=aQ (w.alloc (.cells #[g,aI N F.length O] 31));rw[<-J]at d0 d1 M z1;have e0:∀x:Ext W0,x.w.cell? ⟨w.heap.size,0,none⟩=some (aM g):=fun x=>x.cell d0;have e1:∀x:Ext W0,x.w.cell? ⟨w.heap.size,1,none⟩=some (aI N F.length O):=fun x=>x.cell d1;have D:=R.below M aO;have a6:=a1.below M aO;have HA:=aN ha;have HU:=aN hu;obtain⟨u,I⟩:=aQ ((2:Int)^g-1);have Y:∀W,aR W (aI N F.length O) F->Calls prog 215 #[.agg #[g,aI N F.length O]] W fun e w'=>e=.returned u/\Below W W w':=fun W hW=>by rw[I];exact jA g _ F W hW aK aK
 have HG:=aN Y;have b9:=aN I;have Z:dE z=u:=by rw[I,hu]
 have a9:=aN Z;clear ha hu Y I Z;go_enter func237,ntmps237;go_wp2;rw[<-J];clear J;refine bN _ aT aT ?_
 repeat(first|go_big_quiet_skip|(go_big_quiet_want;go_big_quiet_op;first|go_big_quiet_on|(apply Exists.intro;refine⟨fun _=>?_,?_⟩;(first|(go_at_call 236;exact aaX (lS z _ _ (Ext.ints _ D.ints) HA.out) a9.out)|(go_at_call 215;exact bO (HG.out _ (Ext.ints _ a6))));go_big_quiet_on)))
 refine wpQuiet_nil ?_;rintro w3 ⟨⟨w3,S⟩,rfl⟩
 try dsimp only
 clear e0 e1;go_wp2;go_ret2;exact⟨rfl,D.keep S,M.after S M.size⟩
theorem LY(g:Nat)(hg:g<=6)(F t z:List Int)(w:World)(vF tv:Value)(ad:Option Addr)(ni cp:Nat)(B:Nat)(S:aR w vF F)(hv:aR w tv t)(O:aP 3 B w (aI ad ni cp) z)
  (ha:∀s∈z,0<=s/\s<64) (hu:dE z≠2^g-1):
  Calls prog 237 #[.agg #[(g:Int),vF],tv,aI ad ni cp,aJ] w fun e w'=>
   e=.returned (.tuple #[(),.bool false])/\Below w w w':=by
 obtain⟨M,N,rfl⟩:=S.shape;obtain⟨av,cv,rfl⟩:=hv.shape;obtain⟨d0,d1,K,z1⟩:=Box2.new w g (aI M F.length N) 31;obtain⟨W0,I⟩:=aQ (w.alloc (.cells #[g,aI M F.length N] 31));rw[<-I]at d0 d1 K z1;have e0:∀x:Ext W0,x.w.cell? ⟨w.heap.size,0,none⟩=some (aM g):=fun x=>x.cell d0;have e1:∀x:Ext W0,x.w.cell? ⟨w.heap.size,1,none⟩=some (aI M F.length N):=fun x=>x.cell d1;have J:=O.below K aO;have Y:=S.below K aO;have HA:=aN ha;obtain⟨u,D⟩:=aQ ((2:Int)^g-1);have R:∀W,aR W (aI M F.length N) F->Calls prog 215 #[.agg #[g,aI M F.length N]] W fun e w'=>e=.returned u/\Below W W w':=fun W hW=>by rw[D];exact jA g _ F W hW aK aK
 have HG:=aN R;have b9:(dE z==u)=false:=by rw[D];simpa using hu
 have b6:=aN D;clear ha hu R D;go_enter func237,ntmps237;go_wp2;rw[<-I];clear I;refine bN _ aT aT ?_
 repeat(first|go_big_quiet_skip|(go_big_quiet_want;go_big_quiet_op;first|go_big_quiet_on|(apply Exists.intro;refine⟨fun _=>?_,?_⟩;(first|(go_at_call 236;exact cR (lS z _ _ (Ext.ints _ J.ints) HA.out))|(go_at_call 215;exact bO (HG.out _ (Ext.ints _ Y))));go_big_quiet_on)))
 refine wpQuiet_nil ?_;rintro w3 ⟨⟨w3,Z⟩,rfl⟩
 try dsimp only
 clear e0 e1;go_wp2;go_ret2;exact⟨rfl,K.after Z K.size⟩
theorem PF(g:Nat)(hg:g<=6)(F:List Int):∀(k:Nat) (_:k<=60) (K:Int) (_:K=k) (t z:List Int) (w:World) (vF tv:Value) (ad:Option Addr) (ni Y:Nat) (B:Nat) (_:B<=w.heap.size) (_:aR w vF F) (_:aR w tv t) (_:aP 3 B w (aI ad ni Y) z)
  (_:∀s∈t,0<=s/\s<2^g) (_:∀s∈z,0<=s/\s<2^g) (_:z.length+k<=100),
  Calls prog 237 #[.agg #[(g:Int),vF],tv,aI ad ni Y,K] w fun e w'=>
   ∃O i' R,e=.returned (.tuple #[aI O i' R,.bool (eS t k (cM (2^g-1) (dE z))).isSome])/\aP 3 B w' (aI O i' R) (EY (eS t k (cM (2^g-1) (dE z))) z)/\Below w w w':=by
 intro k
 induction k with
 |zero=>
  intro _ K hK t z w vF tv ad ni Y B hB N hv D ht ha k0;have hp:=cO g 6 hg;have o3:(2:Int)^g<=64:=by simpa using hp.1
  have d7:=hp.2;have hU:0<=dE z/\dE z<2^g:=tX g z ha 0 aK d7;have I:∀s∈z,0<=s/\s<64:=fun s hs=>by have:=ha s hs;omega
  rw[yW g _ hU.1 hU.2];by_cases J:dE z=2^g-1
  ·rw[J,Int.sub_self,tZ];exact(AE g hg F t z K w vF tv ad ni Y B N hv D I J).mono fun e w' ⟨h1,h2,h3⟩=>⟨ad,ni,Y,h1,by simpa[EY]using h2,h3⟩
  ·rw[uA _ _ aK];have:K=0:=hK;subst this;exact(LY g hg F t z w vF tv ad ni Y B N hv D I J).mono fun e w' ⟨h1,h2⟩=>⟨none,0,0,h1,aP.nil _ _ _,h2⟩
 |succ k ih=>
  intro hk K hK t z w vF tv ad ni Y B hB N hv D ht ha k0;have hp:=cO g 6 hg;have o3:(2:Int)^g<=64:=by simpa using hp.1
  have d7:=hp.2;have hU:0<=dE z/\dE z<2^g:=tX g z ha 0 aK d7;have I:∀s∈z,0<=s/\s<64:=fun s hs=>by have:=ha s hs;omega
  by_cases J:dE z=2^g-1
  ·rw[yW g _ hU.1 hU.2,J,Int.sub_self,tZ];exact(AE g hg F t z K w vF tv ad ni Y B N hv D I J).mono fun e w' ⟨h1,h2,h3⟩=>⟨ad,ni,Y,h1,by simpa[EY]using h2,h3⟩
  obtain⟨aF,cF,rfl⟩:=N.shape;obtain⟨a,b,t7,c,rfl,o2,o0,hc,hb⟩:=hv.view prog 24 3 underlying24 aS;obtain⟨u,hu⟩:=aQ (dE z);obtain⟨L,hL⟩:=aQ (cM (2^g-1) (dE z));rw[<-hL];have j4:L≠0:=by rw[hL,yW g _ hU.1 hU.2];omega
  rw[<-hu]at hU hL J;have k6:=hU.1;have p5:=hU.2;obtain⟨f,hf⟩:=aQ ((2:Int)^g-1);have b6:∀W,aR W (aI aF F.length cF) F->Calls prog 215 #[.agg #[g,aI aF F.length cF]] W fun e w'=>e=.returned f/\Below W W w':=fun W hW=>by rw[hf];exact jA g _ F W hW aK aK
  have p1:(u==f)=false:=by rw[hf];simpa using J
  have o1:(K==0)=false:=by simp;omega
  obtain⟨d0,d1,B1,z1⟩:=Box2.new w g (aI aF F.length cF) 31;obtain⟨W0,g0⟩:=aQ (w.alloc (.cells #[g,aI aF F.length cF] 31));rw[<-g0]at d0 d1 B1 z1;have e0:∀x:Ext W0,x.w.cell? ⟨w.heap.size,0,none⟩=some (aM g):=fun x=>x.cell d0;have e1:∀x:Ext W0,x.w.cell? ⟨w.heap.size,1,none⟩=some (aI aF F.length cF):=fun x=>x.cell d1;have b1:=D.below B1 aO;have f2:=N.below B1 aO;have k7:∀W,aR W (aI ad ni Y) z->Calls prog 236 #[aI ad ni Y] W fun e w'=>e=.returned u/\W=w':=fun W hW=>by rw[hu];exact lS z _ W hW I
  have f7:=aN k7;have HG:=aN b6;have HU:=aN hu;have HL:=aN hL;have HF:=aN hf;have HT:=aN ht;have HA:=aN ha;have HK:=aN hK;have f6:=aN j4;have IH:=aN ih;have f9:1<=K/\K<=60:=aK;have s4:=f9.1;have s5:=f9.2;clear hu hL hf hp hU ht ha I k7 b6 J ih hK j4 f9;go_enter func237,ntmps237;go_wp2;rw[<-g0];clear g0;refine bN _ aT aT ?_
  repeat(first|go_big_quiet_skip|(go_big_quiet_want;go_big_quiet_op;first|go_big_quiet_on|(apply Exists.intro;refine⟨fun _=>?_,?_⟩;(first|(go_at_call 236;exact cR (f7.out _ (Ext.ints _ b1.ints)))|(go_at_call 215;exact bO (HG.out _ (Ext.ints _ f2))));go_big_quiet_on)))
  refine wpQuiet_nil ?_;rintro w3 ⟨⟨w3,j6⟩,rfl⟩
  try dsimp only
  clear e0 e1;have X3:=(Box2.mk d0 d1 B1 z1).after j6;clear j6 d0 d1 b1 f2 z1;go_wp2_with fail;go_loopw [24] (fun i wr=>∃j:Nat,j<=t.length/\i=aM j/\eS (t.drop j) (k+1) L=eS t (k+1) L/\Box2 w wr g (aI aF F.length cF)) (fun i _=>t.length-(intOf i).toNat)
  case atStart=>exact⟨0,Nat.zero_le _,rfl,by rw[List.drop_zero],X3⟩
  case round=>
   obtain⟨j,hj,rfl,j8,X⟩:=hrel;clear X3 p1 o1 B1;have f4:=aN j8;clear j8;obtain⟨d0,d1,B4,z4⟩:=X;by_cases hlt:j<t.length
   ·have j7:=aW hc hb B4 aO;have g7:=HT.out _ (List.getElem_mem hlt);have n0:=j7 j hlt;have Z:=hv.from 24 3 underlying24 aS j aK
    have M:=hv.from 24 3 underlying24 aS (j+1) aK
    have b5:t.drop j=t[j]::t.drop (j+1):=List.drop_eq_getElem_cons hlt;have b9:∀x∈t.drop j,0<=x/\x<2^g:=fun x hx=>HT.out x (List.mem_of_mem_drop hx);have g3:∀x∈t.drop (j+1),0<=x/\x<2^g:=fun x hx=>HT.out x (List.mem_of_mem_drop hx);have e4:=aN f4.out;obtain⟨t2,g5⟩:=aQ (t.drop j);obtain⟨t3,g6⟩:=aQ (t.drop (j+1));obtain⟨s,hs⟩:=aQ (t[j]);rw[<-g5]at Z b5 b9;rw[<-g6]at M b5 g3;rw[<-hs]at n0 g7 b5;have e8:eS t2 (k+1) L=eS t (k+1) L:=by rw[g5];exact e4.out
    have f3:=aN e8;have m6:=aN g6;obtain⟨a2,c2,Z,p9⟩:=Z;obtain⟨a3,c3,M,q0⟩:=M;have o9:∀(kk:IntKind) (w':World),(Instr.slice 24 (aI a t.length c) (some (.int kk ((j:Int)+1))) none none).run prog w'=.ok (aI a3 t3.length c3) w':=by simpa using M
    have o4:0<=s:=g7.1;have o5:s<64:=aK;have f5:=aN b5;have i1:=aN b9;have m1:=aN g3;have hq:0<=dE t2/\dE t2<2^g:=tX g t2 b9 0 aK d7;obtain⟨q,d8⟩:=aQ (dE t2);have f0:∀W,aR W (aI a2 t2.length c2) t2->Calls prog 236 #[aI a2 t2.length c2] W fun e w'=>e=.returned q/\W=w':=fun W hW=>by rw[d8];exact lS t2 _ W hW (fun x hx=>by have:=b9 x hx;omega)
    rw[<-d8]at hq;have g4:=xQ k6 (show u<4611686018427387904 by omega) hq.1 aK;obtain⟨r,hr⟩:=aQ (fT u q);rw[<-hr]at g4;have e6:=aN f0;have HQ:=aN d8;have HR:=aN hr;have r3:=o0;have S:=D.below B4 aO;have c8:=N.below B4 aO;have c7:=p9.below B4 aO;clear e8 g5 b5 b9 g3 f0 d8 hq hr j7 M g7 hs f4 e4 g6;have e0:∀x:Ext wr,x.w.cell? ⟨w.heap.size,0,none⟩=some (aM g):=fun x=>x.cell d0;have e1:∀x:Ext wr,x.w.cell? ⟨w.heap.size,1,none⟩=some (aI aF F.length cF):=fun x=>x.cell d1;by_cases a6:r=f
    ·have p0:(r != f)=false:=by simp[a6]
     have k3:=g4;have s2:=aN a6;clear a6;go_wp2_with fail;refine bN _ aT aT ?_
     repeat(first|go_big_quiet_skip|(go_big_quiet_want;go_big_quiet_op;first|go_big_quiet_on|(apply Exists.intro;refine⟨fun _=>?_,?_⟩;(first|(go_at_call 236;first|(with_reducible exact cR (f7.out _ (Ext.ints _ S.ints)))|(with_reducible exact cR (e6.out _ (Ext.ints _ c7))))|(go_at_call 215;exact bO (HG.out _ (Ext.ints _ c8))));go_big_quiet_on)))
     refine wpQuiet_nil ?_;rintro w5 ⟨⟨w5,b3⟩,rfl⟩
     try dsimp only
     clear e0 e1;have B5:=B4.after b3 B4.size;obtain⟨j1,j2,l7,l0⟩:=(Box2.mk d0 d1 B4 z4).after b3;have g2:=D.below B5 aO;have k9:=N.below B5 aO;have k8:=q0.below B5 aO;obtain⟨o,ho⟩:=aQ (eS t3 k (cM L s));have j9:∀(W:World) (O:Option Addr) (d9 R:Nat) (B':Nat),B'<=W.heap.size->aR W (aI aF F.length cF) F->aR W (aI a3 t3.length c3) t3->aP 3 B' W (aI O d9 R) (z++[s]) ->
       Calls prog 237 #[.agg #[(g:Int),aI aF F.length cF],aI a3 t3.length c3,aI O d9 R,aM (K-1)] W fun e w'=>
        ∃ad i Y,e=.returned (.tuple #[aI ad i Y,.bool o.isSome])/\aP 3 B' w' (aI ad i Y) (EY o (z++[s]))/\Below W W w':=by
      intro W O d9 R B' h1 h2 h3 h4;have o7:0<=s/\s<2^g:=by have:=i1.out s (by rw[f5.out];simp);exact this
      have:=IH.out aK (K-1) (by have:=HK.out;omega) t3 (z++[s]) W (aI aF F.length cF) (aI a3 t3.length c3) O d9 R B' h1 h2 h3 h4 m1.out
       (fun x hx=>by rcases List.mem_append.1 hx with hx|hx;exact HA.out x hx;simp only[List.mem_singleton]at hx;subst hx;exact o7)
       aV
      have e:cM (2^g-1) (dE (z++[s]))=cM L s:=by rw[Z6,agI ⟨by omega,by omega⟩ (by rw[<-HU.out];omega) ⟨o4,o5⟩,HL.out,HU.out]
      rw[e,<-ho]at this;exact this
     have k1:o=none->eS t3 (k+1) L=eS t (k+1) L:=fun e=>by rw[<-f3.out,f5.out];simp only[eS,if_neg f6.out];rw[<-ho,e]
     have k5:∀x,o=some x->eS t (k+1) L=some (s::x):=fun x e=>by rw[<-f3.out,f5.out];simp only[eS,if_neg f6.out];rw[<-ho,e]
     have m2:=aN k1;have m4:=aN k5;clear k1 k5;have l9:=aN j9;have HO:=aN ho;have q2:w.heap.size<w5.heap.size:=l0;clear j9 ho d0 d1 z4 b3 Z g4 k3 S c8 c7 l7 l0;have s6:IntKind.i64.wrap ((j:Int)+1)=(j:Int)+1:=IntWalk.i64_in _ aK;have s7:IntKind.i64.wrap (K-1)=K-1:=IntWalk.i64_in _ aK;go_wp2_with fail;go_region_held3 (fun w'=>w'.cell? ⟨w.heap.size,0,none⟩=some (aM g)/\w'.cell? ⟨w.heap.size,1,none⟩=some (aI aF F.length cF)) (go_keep)
      (first
       |(go_at_call 260;refine(kW _ z _ (g2.below (B':=w5.heap.size) (by repeat(first|exact Below.refl _ _|(with_reducible refine Below.setCell ?_ (by first|omega|(simp;done)|(simp;omega)) _)|(with_reducible refine Below.alloc ?_ (by first|omega|(simp;done)|(simp;omega)) _)|(with_reducible refine Below.drewN' ?_ _)|(with_reducible refine Below.drew ?_)|(with_reducible assumption)|refine Below.trans ?_ (Below.mono (by assumption) (by first|omega|(simp;done)|(simp;omega))))) aO).ints aK).mono ?_;rintro e w6 ⟨p6,i6,q6,rfl,o6,b4⟩;obtain⟨m7,n1⟩:=iK b4 w5.heap.size (by first|omega|(simp;done)|(simp;omega));have z6:=b4.size;(try simp at z6);have r6:=o6.lt)
       |(refine rU rfl _ _ _ rfl 3 underlying24 aS w5.heap.size (aI p6 i6 q6) z s _ rfl rfl ?_ ?_ ⟨by omega,by omega⟩ aK ?_ ?_;(first|exact bB _ _ _ _ _ rfl|exact keep b4 (bB _ _ _ _ _ rfl)|exact keep b4 (by simp[go_sem]));(first|exact(o6.mono (by first|omega|(simp;done)|(simp;omega))).alloc _|exact o6.mono (by first|omega|(simp;done)|(simp;omega)));(first|omega|(simp;done)|(simp;omega));intro v' w7 c6 b6;obtain⟨p7,i7,q7,rfl⟩:=c6.shape3;have b7:Below w5 w5 w7:=UV (by repeat(first|exact Below.refl _ _|(with_reducible refine Below.setCell ?_ (by first|omega|(simp;done)|(simp;omega)) _)|(with_reducible refine Below.alloc ?_ (by first|omega|(simp;done)|(simp;omega)) _)|(with_reducible refine Below.drewN' ?_ _)|(with_reducible refine Below.drew ?_)|(with_reducible assumption)|refine Below.trans ?_ (Below.mono (by assumption) (by first|omega|(simp;done)|(simp;omega))))) b6 (by first|omega|(simp;done)|(simp;omega)) (fun q hq=>by have:=(r6 q hq).1;(try simp at this);omega);obtain⟨m8,n2⟩:=iK b7 w5.heap.size aO;have z7:=b7.size)
       |(go_at_call 237;refine(l9.out _ p7 i7 q7 w5.heap.size z7 (k9.below b7 aO) (k8.below b7 aO) c6).mono ?_;rintro e w8 ⟨p8,i8,q8,rfl,o8,d6⟩;obtain⟨m9,n3⟩:=iK d6 w5.heap.size (by first|omega|(simp;done)|(simp;omega));have z8:=d6.size))
     all_goals
      have b8:Below w5 w5 w8:=b7.after d6 b7.size;have X8:=(Box2.mk j1 j2 B5 q2).after b8;have m3:=aN o8;have j0:=aN X8;clear o8 X8 b8 d6 b7 b4 m7 n1 m8 n2 m9 n3 b6 c6 r6 o6 j1 j2
      cases o with
      |none=>
       go_wp2;go_roundw
       case rel=>exact⟨j+1,by omega,by go_num,by have:=m2.out rfl;rw[m6.out]at this;exact this,j0.out⟩
       case measure=>simp[intOf];omega
      |some x=>have e9:=m4.out x rfl;have e5:=aN e9;clear e9;go_wp2;go_ret2;exact⟨p8,i8,q8,by rw[e5.out];rfl,by rw[e5.out];have:=m3.out.mono (B':=B) (by have:=B5.size;omega);simpa[EY]using this,j0.out.B⟩
    ·have p0:(r != f)=true:=by simp[a6]
     have c5:eS t (k+1) L=none:=by rw[<-f3.out,HL.out];exact YJ g hg u k6 p5 t2 i1.out (k+1) (by rw[<-HQ.out,<-HR.out,<-HF.out];exact a6)
     have HN:=aN c5;clear a6 c5;go_wp2_with fail;refine bN _ aT aT ?_
     repeat(first|go_big_quiet_skip|(go_big_quiet_want;go_big_quiet_op;first|go_big_quiet_on|(apply Exists.intro;refine⟨fun _=>?_,?_⟩;(first|(go_at_call 236;first|(with_reducible exact cR (f7.out _ (Ext.ints _ S.ints)))|(with_reducible exact cR (e6.out _ (Ext.ints _ c7))))|(go_at_call 215;exact bO (HG.out _ (Ext.ints _ c8))));go_big_quiet_on)))
     refine wpQuiet_nil ?_;rintro w5 ⟨⟨w5,b3⟩,rfl⟩
     try dsimp only
     clear e0 e1;go_wp2;go_ret2;exact⟨none,0,0,by rw[HN.out];rfl,by rw[HN.out];exact aP.nil _ _ _,B4.after b3 B4.size⟩
   ·have hr:eS t (k+1) L=none:=by rw[<-f4.out,List.drop_eq_nil_of_le aK];exact GH _ _ f6.out
    have HR:=aN hr;clear hr;go_wp2;go_ret2;exact⟨none,0,0,by rw[HR.out];rfl,by rw[HR.out];exact aP.nil _ _ _,B4⟩
theorem WE{g:Nat}{l:List Int}(z:bJ g l=true):lW g l=gS (fun k=>eS l k (2^g-1)) 0 (g+1):=by
 have D:=(cO g g aO).2;unfold lW;rw[if_pos z,RP l _ aK]
 rfl
theorem WF(w:World)(g:Int)(v:Value)(l:List Int)(hv:aR w v l)(_:l.length<=1048576):
  Calls prog 127 #[.agg #[g,v]] w fun e w'=>∃ad i cp,e=.returned (.tuple #[aI ad i cp,.bool (jR g l)])/\aP 3 w w' (aI ad i cp) (fK g l)/\Below w w w':=by
 obtain⟨a,c,rfl⟩:=hv.shape;obtain⟨d0,d1,Y,z1⟩:=Box2.new w g (aI a l.length c) 31;obtain⟨W0,I⟩:=aQ (w.alloc (.cells #[g,aI a l.length c] 31));rw[<-I]at d0 d1 Y z1;have e0:∀x:Ext W0,x.w.cell? ⟨w.heap.size,0,none⟩=some (aM g):=fun x=>x.cell d0;have e1:∀x:Ext W0,x.w.cell? ⟨w.heap.size,1,none⟩=some (aI a l.length c):=fun x=>x.cell d1;have z:=hv.below Y aO
 cases Z:bJ g l with
 |false=>
  have hx:lW g l=none:=by unfold lW;rw[Z];rfl
  have D:jR g l=false:=by unfold jR;rw[hx];rfl
  have F:fK g l=[]:=by unfold fK;rw[hx];rfl
  have HB:=aN D;have HL:=aN F;clear hx D F;go_enter func127,ntmps127;go_wp2;rw[<-I];clear I;refine bN _ aT aT ?_
  repeat(first|go_big_quiet_skip|(go_big_quiet_want;go_big_quiet_op;first|go_big_quiet_on|(apply Exists.intro;refine⟨fun _=>?_,?_⟩;(go_at_call 101;exact vG (dF g l _ _ (Ext.ints _ z)) Z);go_big_quiet_on)))
  refine wpQuiet_nil ?_;rintro w3 ⟨⟨w3,J⟩,rfl⟩
  try dsimp only
  clear e0 e1;have B3:=Y.after J Y.size;go_wp2;go_ret2;exact⟨none,0,0,by rw[HB.out];rfl,by rw[HL.out];exact aP.nil _ _ _,B3⟩
 |true=>
  obtain⟨h0,h6,hs,_⟩:=dT Z;have hm:=dY Z;obtain⟨G,rfl⟩:=Int.eq_ofNat_of_zero_le h0;have hG:G<=6:=aK;obtain⟨f,K⟩:=aQ ((2:Int)^G-1);have a7:∀W,aR W (aI a l.length c) l->Calls prog 215 #[.agg #[G,aI a l.length c]] W fun e w'=>e=.returned f/\Below W W w':=fun W hW=>by rw[K];exact jA G _ l W hW aK aK
  have e9:=(cO G G aO).2;have HM:=aN hm;have HS:=aN hs;have HG:=aN a7;have g2:=aN K;by_cases hu:dE l=2^G-1
  ·have c5:(dE l != f)=false:=by rw[K];simp[hu]
   have S:=WE Z;obtain⟨q,hq⟩:=aQ (gS (fun k=>eS l k (2^G-1)) 0 (G+1));rw[<-hq]at S;have D:jR G l=q.isSome:=by unfold jR;rw[S]
   have F:fK G l=q.getD []:=by unfold fK;rw[S]
   have b7:∀(k:Nat),k<=60->∀(W:World),aR W (aI a l.length c) l->Calls prog 237 #[.agg #[(G:Int),aI a l.length c],aI a l.length c,(),k] W fun e w'=>
     ∃N i' O,e=.returned (.tuple #[aI N i' O,.bool (eS l k (2^G-1)).isSome])/\aP 3 W w' (aI N i' O) ((eS l k (2^G-1)).getD [])/\Below W W w':=by
    intro k hk W hW;have:=PF G hG l k hk k rfl l [] W _ _ none 0 0 W.heap.size aO hW hW (aP.nil _ _ _) hs (by simp) aV;have e:cM (2^G-1) (dE [])=2^G-1:=by have:dE []=0:=rfl;rw[this,yW G 0 aK e9];omega
    rw[e]at this;refine this.mono ?_;rintro e w' ⟨ad,i,cp,h1,h2,h3⟩;refine⟨ad,i,cp,h1,?_,h3⟩
    cases hc:eS l k (2^G-1) with
    |none=>rw[hc]at h2;exact h2
    |some x=>rw[hc]at h2;simpa[EY]using h2
   have HB:=aN D;have HL:=aN F;have HQ:=aN hq;have e4:=aN b7;clear D F hu hq S b7 a7 K hs hm;go_enter func127,ntmps127;go_wp2;rw[<-I];clear I;refine bN _ aT aT ?_
   repeat(first|go_big_quiet_skip|(go_big_quiet_want;go_big_quiet_op;first|go_big_quiet_on|(apply Exists.intro;refine⟨fun _=>?_,?_⟩;(first|(go_at_call 101;exact vG (dF G l _ _ (Ext.ints _ z)) Z)|(go_at_call 236;exact cR (lS l _ _ (Ext.ints _ z) HM.out))|(go_at_call 215;exact bO (HG.out _ (Ext.ints _ z))));go_big_quiet_on)))
   refine wpQuiet_nil ?_;rintro w3 ⟨⟨w3,J⟩,rfl⟩
   try dsimp only
   clear e0 e1;obtain⟨d2,d3,B3,z3⟩:=(Box2.mk d0 d1 Y z1).after J;clear J d0 d1 Y z1 c5 z;go_wp2_with fail;go_loopw [4] (fun i wr=>∃k:Nat,k<=G+1/\i=aM k/\gS (fun k=>eS l k (2^G-1)) k (G+1-k)=q/\Box2 w wr G (aI a l.length c)) (fun i _=>G+1-(intOf i).toNat)
   case atStart=>exact⟨0,Nat.zero_le _,rfl,HQ.out.symm,⟨d2,d3,B3,z3⟩⟩
   case round=>
    obtain⟨k,hk,rfl,b8,X⟩:=hrel;clear d2 d3 B3 z3;have a1:=aN b8;clear b8;obtain⟨d0,d1,B4,z4⟩:=X;by_cases hlt:k<=G
    ·have f3:=hv.below B4 aO;have c6:gS (fun k=>eS l k (2^G-1)) k (G+1-k)=(match eS l k (2^G-1) with|some x=>some x|none=>gS (fun k=>eS l k (2^G-1)) (k+1) (G+1-(k+1))):=by rw[show G+1-k=(G+1-(k+1))+1 by omega];rfl
     have b3:=aN c6;have HC:=aN (e4.out k aK);obtain⟨o,ho⟩:=aQ (eS l k (2^G-1));have b6:∀(W:World),aR W (aI a l.length c) l->Calls prog 237 #[.agg #[(G:Int),aI a l.length c],aI a l.length c,(),k] W fun e w'=>∃N i' O,e=.returned (.tuple #[aI N i' O,.bool o.isSome])/\aP 3 W w' (aI N i' O) (o.getD [])/\Below W W w':=by rw[ho];exact HC.out
     have d9:=aN b6;have HO:=aN ho;clear c6 b6 ho HC;go_wp2_with fail;refine(d9.out _ f3).mono ?_;rintro e w5 ⟨p5,i5,q5,rfl,o5,b5⟩;have X5:=(Box2.mk d0 d1 B4 z4).after b5;have b4:=aN X5;have e6:=aN o5;clear d0 d1 X5 o5 b5
     cases o with
     |none=>
      have b9:gS (fun k=>eS l k (2^G-1)) (k+1) (G+1-(k+1))=q:=by have h1:=b3.out;rw[<-HO.out,a1.out]at h1;exact h1.symm
      have e5:=aN b9;clear b9;go_wp2;go_roundw
      case rel=>exact⟨k+1,by omega,by go_num,e5.out,b4.out⟩
      case measure=>simp[intOf];omega
     |some x=>
      have R:q=some x:=by have h1:=b3.out;rw[<-HO.out,a1.out]at h1;exact h1
      have M:=aN R;clear R;go_wp2;go_ret2;exact⟨p5,i5,q5,by rw[HB.out,M.out];rfl,by rw[HL.out,M.out];exact e6.out.mono B4.size,b4.out.B⟩
    ·have R:q=none:=by rw[<-a1.out,show G+1-k=0 by omega];rfl
     have M:=aN R;clear R;go_wp2;go_ret2;exact⟨none,0,0,by rw[HB.out,M.out];rfl,by rw[HL.out,M.out];exact aP.nil _ _ _,B4⟩
  ·have c5:(dE l != f)=true:=by rw[K];simp[hu]
   have hx:=Z0 Z hu;have D:jR G l=false:=by unfold jR;rw[hx];rfl
   have F:fK G l=[]:=by unfold fK;rw[hx];rfl
   have HB:=aN D;have HL:=aN F;clear hx D F hu a7 K hs hm;go_enter func127,ntmps127;go_wp2;rw[<-I];clear I;refine bN _ aT aT ?_
   repeat(first|go_big_quiet_skip|(go_big_quiet_want;go_big_quiet_op;first|go_big_quiet_on|(apply Exists.intro;refine⟨fun _=>?_,?_⟩;(first|(go_at_call 101;exact vG (dF G l _ _ (Ext.ints _ z)) Z)|(go_at_call 236;exact cR (lS l _ _ (Ext.ints _ z) HM.out))|(go_at_call 215;exact bO (HG.out _ (Ext.ints _ z))));go_big_quiet_on)))
   refine wpQuiet_nil ?_;rintro w3 ⟨⟨w3,J⟩,rfl⟩
   try dsimp only
   clear e0 e1;have B3:=Y.after J Y.size;go_wp2;go_ret2;exact⟨none,0,0,by rw[HB.out];rfl,by rw[HL.out];exact aP.nil _ _ _,B3⟩
theorem aP.lit1{E:TypeId}{B:Nat}(w:World)(y:Int)(D:dD y)(hB:B<=w.heap.size):aP E B (w.alloc (.cells #[y] E)) (aI (some ⟨w,0,none⟩) 1 1) [y]:=
 ⟨World.ownsRow_lit w #[y] 1 hB aY rfl,by intro q z;simp only[List.mem_singleton]at z;subst z;exact D⟩
theorem agJ{a b:Int}(z:0<=a):a-bK a b=cM a b:=by
 have:=@Nat.and_le_left a.toNat b.toNat;unfold bK cM cV;omega
theorem SV(l:List Int)(hl:l.length<=1048576)(hm:∀s∈l,0<=s/\s<64):∀(k:Nat) (_:k<=60) (K:Int) (_:K=k) (i:Nat) (_:i<=l.length) (L:Int) (_:0<=L) (_:L<64) (w:World) (v:Value) (_:aR w v l),
  Calls prog 239 #[v,(i:Int),L,K] w fun e w'=>
   ∃z i' D,e=.returned (.tuple #[aI z i' D,.bool (fW (l.drop i) k L).isSome])/\aP 3 w w' (aI z i' D) ((fW (l.drop i) k L).getD [])/\Below w w w':=by
 intro k
 induction k with
 |zero=>
  intro _ K hK i hi L h0 h1 w v hv;obtain⟨a,c,rfl⟩:=hv.shape;have:K=0:=hK;subst this;clear hK;by_cases I:L=0
  ·subst I;rw[uB];clear hm;go_enter func239,ntmps239;go_wp2;go_ret2;exact⟨_,_,_,rfl,aP.lit0 w aO,(by repeat(first|exact Below.refl _ _|(with_reducible refine Below.setCell ?_ (by first|omega|(simp;done)|(simp;omega)) _)|(with_reducible refine Below.alloc ?_ (by first|omega|(simp;done)|(simp;omega)) _)|(with_reducible refine Below.drewN' ?_ _)|(with_reducible refine Below.drew ?_)|(with_reducible assumption)|refine Below.trans ?_ (Below.mono (by assumption) (by first|omega|(simp;done)|(simp;omega)))))⟩
  ·rw[vW _ _ I];have ht:(L==0)=false:=by simpa using I
   clear hm I;go_enter func239,ntmps239;go_wp2;go_ret2;exact⟨_,_,_,rfl,aP.lit0 w aO,(by repeat(first|exact Below.refl _ _|(with_reducible refine Below.setCell ?_ (by first|omega|(simp;done)|(simp;omega)) _)|(with_reducible refine Below.alloc ?_ (by first|omega|(simp;done)|(simp;omega)) _)|(with_reducible refine Below.drewN' ?_ _)|(with_reducible refine Below.drew ?_)|(with_reducible assumption)|refine Below.trans ?_ (Below.mono (by assumption) (by first|omega|(simp;done)|(simp;omega)))))⟩
 |succ k ih=>
  intro hk K hK i hi L h0 h1 w v hv;by_cases I:L=0
  ·obtain⟨a,c,rfl⟩:=hv.shape;subst I;rw[uB];clear hm ih;go_enter func239,ntmps239;go_wp2;go_ret2;exact⟨_,_,_,rfl,aP.lit0 w aO,(by repeat(first|exact Below.refl _ _|(with_reducible refine Below.setCell ?_ (by first|omega|(simp;done)|(simp;omega)) _)|(with_reducible refine Below.alloc ?_ (by first|omega|(simp;done)|(simp;omega)) _)|(with_reducible refine Below.drewN' ?_ _)|(with_reducible refine Below.drew ?_)|(with_reducible assumption)|refine Below.trans ?_ (Below.mono (by assumption) (by first|omega|(simp;done)|(simp;omega)))))⟩
  have ht:(L==0)=false:=by simpa using I
  obtain⟨a,b,h6,c,rfl,d8,g7,hc,hb⟩:=hv.view prog 24 3 underlying24 aS;have g8:(K==0)=false:=by simp;omega
  have O:1<=K/\K<=60:=aK;have g3:=O.1;have g4:=O.2;obtain⟨q,hq⟩:=aQ (fW (l.drop i) (k+1) L);rw[<-hq];have HQ:=aN hq;have HM:=aN hm;have HK:=aN hK;have IH:=aN ih;have HL:=aN I;clear hm hK ih I O hq;go_enter func239,ntmps239;go_wp2_with fail;go_loopw [10] (fun x wr=>∃j:Nat,i<=j/\j<=l.length/\x=aM j/\fW (l.drop j) (k+1) L=q/\Below w w wr) (fun x _=>l.length-(intOf x).toNat)
  case atStart=>exact⟨i,aO,hi,rfl,HQ.out.symm,Below.refl _ _⟩
  case round=>
   obtain⟨j,g6,hj,rfl,b0,B⟩:=hrel;have F:=aN b0;clear b0;have a9:=aW hc hb B aO;by_cases hlt:j<l.length
   ·have J:=HM.out _ (List.getElem_mem hlt);have R:=a9 j hlt;have S:l.drop j=l[j]::l.drop (j+1):=List.drop_eq_getElem_cons hlt;obtain⟨s,hs⟩:=aQ (l[j]);rw[<-hs]at J R S;have b7:=J.1;have g9:=J.2;have N:=aN S;have hA:=eG b7 (show s<4611686018427387904 by omega) h0 aK;have g1:=eG h0 (show L<4611686018427387904 by omega) b7 aK;have g2:=lU L s 64 h0 h1;clear S a9 J hs;by_cases Y:bK s L=0
    ·have e5:(bK s L==0)=true:=by simp[Y]
     have b4:fW (l.drop (j+1)) (k+1) L=q:=by rw[<-F.out,N.out];simp only[fW,if_neg HL.out,if_pos Y]
     have d0:=aN b4;clear b4 Y;go_wp2;go_roundw
     case rel=>exact⟨j+1,by omega,by omega,by go_num,d0.out,B⟩
     case measure=>simp[intOf];omega
    ·have e5:(bK s L==0)=false:=by simp[Y]
     obtain⟨o,ho⟩:=aQ (fW (l.drop (j+1)) k (cM L s));have b3:o=none->fW (l.drop (j+1)) (k+1) L=q:=fun e=>by rw[<-F.out,N.out];simp only[fW,if_neg HL.out,if_neg Y];rw[<-ho,e]
     have b8:∀x,o=some x->q=some (s::x):=fun x e=>by rw[<-F.out,N.out];simp only[fW,if_neg HL.out,if_neg Y];rw[<-ho,e]
     have hlo:∀x,o=some x->x.length<=60:=fun x e=>by have:=RA _ _ _ x (ho.symm.trans e);omega
     have c8:=aN hlo;have c9:=aN b3;have d6:=aN b8;have hd:=nT L s 64 h0 h1;have b1:∀(W:World),aR W (aI a l.length c) l->Calls prog 239 #[aI a l.length c,aM ((j:Int)+1),aM (L-bK L s),aM (K-1)] W fun e w'=>
       ∃z i' D,e=.returned (.tuple #[aI z i' D,.bool o.isSome])/\aP 3 W w' (aI z i' D) (o.getD [])/\Below W W w':=by
      intro W hW;have:=IH.out aK (K-1) (by have:=HK.out;omega) (j+1) aK (cM L s) hd.1 hd.2 W _ hW;rw[<-ho]at this;rw[agJ h0];exact this
     have c7:=aN b1;have e6:=hv.below B aO;clear b3 b8 b1 ho Y hd hlo;go_wp2_with fail;refine(c7.out _ e6).mono ?_;rintro e w5 ⟨p5,i5,q5,rfl,o5,a8⟩;have Z:=B.after a8 B.size;have e9:=keep a8 R
     cases o with
     |none=>
      have HN:=aN (c9.out rfl);go_wp2;go_roundw
      case rel=>exact⟨j+1,by omega,by omega,by go_num,HN.out,Z⟩
      case measure=>simp[intOf];omega
     |some x=>have HS:=aN (d6.out x rfl);have d9:=c8.out x rfl;have d5:=aN o5;clear R o5;go_wp2_with (at_builtin;refine vO rfl _ _ _ rfl 3 underlying24 aS w5.heap.size _ [s] rfl (aP.lit1 w5 s ⟨by omega,by omega⟩ aO) _ x rfl (d5.out.ints.alloc _) aV (by simp) ?_;intro v' w6 M d7;obtain⟨av,nv,cv,rfl⟩:=M.shape3);go_ret2;have z5:=Z.size;refine⟨av,nv,cv,by rw[HS.out];rfl,by rw[HS.out];exact M.mono Z.size,(Z.alloc Z.size _).grown d7 (by first|omega|(simp;done)|(simp;omega)) ?_⟩;intro r hr;have e4:some w5.heap.size=some r:=hr;have:=Option.some.inj e4;have:=Z.size;omega
   ·have b6:q=none:=by rw[<-F.out,List.drop_eq_nil_of_le aK];exact AY _ _ HL.out
    have a6:=aN b6;clear b6;go_wp2;go_ret2;exact⟨_,_,_,by rw[a6.out];rfl,by rw[a6.out];exact aP.lit0 wr B.size,B.alloc B.size _⟩
theorem WG(w:World)(g:Int)(v:Value)(l:List Int)(hv:aR w v l)(d9:l.length<=1048576):
  Calls prog 132 #[.agg #[g,v]] w fun e w'=>∃ad i cp,e=.returned (.tuple #[aI ad i cp,.bool (jR g l)])/\aP 3 w w' (aI ad i cp) (fK g l)/\Below w w w':=by
 obtain⟨a,c,rfl⟩:=hv.shape;obtain⟨K,d1,B1,z1⟩:=Box2.new w g (aI a l.length c) 31;obtain⟨W0,D⟩:=aQ (w.alloc (.cells #[g,aI a l.length c] 31));rw[<-D]at K d1 B1 z1
 cases R:bJ g l with
 |false=>
  have hx:lW g l=none:=by unfold lW;rw[R];rfl
  have I:jR g l=false:=by unfold jR;rw[hx];rfl
  have J:fK g l=[]:=by unfold fK;rw[hx];rfl
  have HB:=aN I;have HL:=aN J;have HF:=aN R;clear hx I J R;go_enter func132,ntmps132;go_wp2;rw[<-D];clear D;refine wp_loop_rounds 1 ?_;rw[rounds_succ];go_wp2_with fail;refine(cS g l _ _ (hv.below B1 aO)).mono ?_;rintro e w2 ⟨rfl,M⟩;rw[HF.out];have B2:=B1.after M B1.size;go_wp2;go_ret2;exact⟨_,_,_,by rw[HB.out];rfl,by rw[HL.out];exact aP.lit0 w2 B2.size,B2.alloc B2.size _⟩
 |true=>
  obtain⟨h0,h6,hs,_⟩:=dT R;have hm:=dY R;obtain⟨G,rfl⟩:=Int.eq_ofNat_of_zero_le h0;have hG:G<=6:=aK;have hp:=cO G 6 hG;have g4:(2:Int)^G<=64:=by simpa using hp.1
  have g5:=hp.2;obtain⟨f,Z⟩:=aQ ((2:Int)^G-1);have b4:∀W,Calls prog 187 #[G] W fun e w'=>e=.returned f/\W=w':=fun W=>by rw[Z];exact fE G W aK
  have N:lW G l=gS (fun k=>fW l k f) 0 (G+1):=by unfold lW;rw[if_pos R,Z];rfl
  obtain⟨q,hq⟩:=aQ (gS (fun k=>fW l k f) 0 (G+1));rw[<-hq]at N;have I:jR G l=q.isSome:=by unfold jR;rw[N]
  have J:fK G l=q.getD []:=by unfold fK;rw[N]
  have d6:0<=f:=aK;have d7:f<64:=aK;have HM:=aN hm;have c8:=aN b4;have HB:=aN I;have HL:=aN J;have HQ:=aN hq;have HF:=aN R;clear hm b4 I J hq N R Z hs hp;go_enter func132,ntmps132;go_wp2_with fail;rw[<-D];clear D;go_loopw [4] (fun i wr=>∃k:Nat,k<=G+1/\i=aM k/\gS (fun k=>fW l k f) k (G+1-k)=q/\Box2 w wr G (aI a l.length c)) (fun i _=>G+1-(intOf i).toNat)
  case atStart=>exact⟨0,Nat.zero_le _,rfl,HQ.out.symm,⟨K,d1,B1,z1⟩⟩
  case round=>
   obtain⟨k,hk,rfl,b3,X⟩:=hrel;clear K d1 B1 z1;have S:=aN b3;clear b3;obtain⟨K,d1,O,z4⟩:=X;go_wp2_with fail;refine(cS G l _ _ (hv.below O aO)).mono ?_;rintro e w2 ⟨rfl,M⟩;rw[HF.out];have X2:=(Box2.mk K d1 O z4).after M;clear K d1 O z4 M;obtain⟨K,d1,O,z4⟩:=X2;have zw:w.heap.size<w2.heap.size:=z4;clear z4;by_cases hlt:k<=G
   ·have e6:=hv.below O aO;have b6:gS (fun k=>fW l k f) k (G+1-k)=(match fW l k f with|some x=>some x|none=>gS (fun k=>fW l k f) (k+1) (G+1-(k+1))):=by rw[show G+1-k=(G+1-(k+1))+1 by omega];rfl
    have a6:=aN b6;obtain⟨o,ho⟩:=aQ (fW l k f);have b1:∀(W:World),aR W (aI a l.length c) l->Calls prog 239 #[aI a l.length c,aJ,f,k] W fun e w'=>
      ∃a8 i' a9,e=.returned (.tuple #[aI a8 i' a9,.bool o.isSome])/\aP 3 W w' (aI a8 i' a9) (o.getD [])/\Below W W w':=fun W hW=>by
     have:=SV l d9 HM.out k aK k rfl 0 (Nat.zero_le _) f d6 d7 W _ hW;rw[List.drop_zero,<-ho]at this;exact this
    have c6:=aN b1;have HO:=aN ho;clear b6 b1 ho;go_wp2_with fail;go_region_held3 (fun w'=>w'.cell? ⟨w.heap.size,0,none⟩=some (aM G)/\w'.cell? ⟨w.heap.size,1,none⟩=some (aI a l.length c)) (go_keep)
     (first
      |(go_at_call 187;refine(c8.out _).mono ?_;rintro e w5 ⟨rfl,rfl⟩)
      |(go_at_call 239;refine(c6.out _ (e6.below (B:=w2.heap.size) (by repeat(first|exact Below.refl _ _|(with_reducible refine Below.setCell ?_ (by first|omega|(simp;done)|(simp;omega)) _)|(with_reducible refine Below.alloc ?_ (by first|omega|(simp;done)|(simp;omega)) _)|(with_reducible refine Below.drewN' ?_ _)|(with_reducible refine Below.drew ?_)|(with_reducible assumption)|refine Below.trans ?_ (Below.mono (by assumption) (by first|omega|(simp;done)|(simp;omega))))) aO)).mono ?_;rintro e w6 ⟨p6,i6,q6,rfl,o6,b0⟩;obtain⟨Y,d8⟩:=iK b0 w2.heap.size (by first|omega|(simp;done)|(simp;omega));have z6:=b0.size;(try simp at z6)))
    have B6:Below w w w6:=(by repeat(first|exact Below.refl _ _|(with_reducible refine Below.setCell ?_ (by first|omega|(simp;done)|(simp;omega)) _)|(with_reducible refine Below.alloc ?_ (by first|omega|(simp;done)|(simp;omega)) _)|(with_reducible refine Below.drewN' ?_ _)|(with_reducible refine Below.drew ?_)|(with_reducible assumption)|refine Below.trans ?_ (Below.mono (by assumption) (by first|omega|(simp;done)|(simp;omega)))));have X6:Box2 w w6 G (aI a l.length c):=⟨(Y _ _ zw).trans K,(Y _ _ zw).trans d1,B6,by omega⟩;have a7:=aN X6;have d5:=aN o6;clear X6 o6 Y d8 K d1
    cases o with
    |none=>
     have b5:gS (fun k=>fW l k f) (k+1) (G+1-(k+1))=q:=by have h1:=a6.out;rw[<-HO.out,S.out]at h1;exact h1.symm
     have c9:=aN b5;clear b5;go_wp2;go_roundw
     case rel=>exact⟨k+1,by omega,by go_num,c9.out,a7.out⟩
     case measure=>simp[intOf];omega
    |some x=>
     have F:q=some x:=by have h1:=a6.out;rw[<-HO.out,S.out]at h1;exact h1
     have z:=aN F;clear F;go_wp2;go_ret2;exact⟨p6,i6,q6,by rw[HB.out,z.out];rfl,by rw[HL.out,z.out];exact d5.out.mono (by first|omega|(simp;done)|(simp;omega)),a7.out.B⟩
   ·have F:q=none:=by rw[<-S.out,show G+1-k=0 by omega];rfl
    have z:=aN F;clear F;go_wp2;go_ret2;exact⟨_,_,_,by rw[HB.out,z.out];rfl,by rw[HL.out,z.out];exact aP.lit0 w2 O.size,O.alloc O.size _⟩
def uV(l:List Int)(s:Int)(i:Nat):Bool:=!(l.getD i 0==s)&&(bK s (l.getD i 0)==bK s (l.getD 0 0))&&(i==0||bK s (l.getD i 0)==bK (l.getD 0 0) (l.getD 1 0))
def lE(l:List Int)(s:Int):Bool:=cJ (uV l s) l.length
def xC(l:List Int)(i k:Nat):Bool:=bK (l.getD i 0) (l.getD k 0)==bK (l.getD 0 0) (l.getD 1 0)
def rW(l:List Int):Bool:=cJ (fun i=>cJ (xC l i) i) l.length
def eY(T:List Int->Int->Bool):List Int->List Int->Int->Option (List Int)
 |sets,l,k=>if (l.length:Int)=k then some l else
  match sets with
  |[]=>none
  |s::rest=>if T l s then (match eY T rest (l++[s]) k with|some x=>some x|none=>eY T rest l k) else eY T rest l k
theorem sA(T:List Int->Int->Bool)(sets l:List Int)(k:Int)(h:(l.length:Int)=k):eY T sets l k=some l:=by unfold eY;rw[if_pos h]
theorem yP(T:List Int->Int->Bool)(l:List Int)(k:Int)(h:(l.length:Int)≠k):eY T [] l k=none:=by unfold eY;rw[if_neg h]
theorem wV(T:List Int->Int->Bool)(s:Int)(rest l:List Int)(k:Int)(h:(l.length:Int)≠k):
  eY T (s::rest) l k=if T l s then (match eY T rest (l++[s]) k with|some x=>some x|none=>eY T rest l k) else eY T rest l k:=by
 rw[eY];rw[if_neg h]
theorem YZ(a b:Int):bK a b=bK b a:=by unfold bK;rw[Nat.and_comm]
theorem IK(l:List Int):rW l=true↔∀i,i<l.length->∀k,k<i->bK (l.getD i 0) (l.getD k 0)=bK (l.getD 0 0) (l.getD 1 0):=by
 unfold rW;rw[eK];constructor
 ·intro h i z k hk;have:=eK.1 (h i z) k hk;unfold xC at this;simpa using this
 ·intro h i z;rw[eK];intro k hk;unfold xC;simpa using h i z k hk
theorem mW(l:List Int)(s:Int)(i:Nat)(h:i<l.length):(l++[s]).getD i 0=l.getD i 0:=by
 rw[List.getD_eq_getElem?_getD,List.getD_eq_getElem?_getD,List.getElem?_append_left h]
theorem CX(l:List Int)(s:Int):(l++[s]).getD l.length 0=s:=by
 rw[List.getD_eq_getElem?_getD,List.getElem?_append_right aO];simp
theorem zT(l:List Int)(s:Int)(hl:rW l=true)(Y:s∉l):lE l s=rW (l++[s]):=by
 have N:=(IK l).1 hl;have M:∀i,i<l.length->l.getD i 0≠s:=fun i z e=>Y (by rw[<-e,aX l i z];exact List.getElem_mem z);rw[Bool.eq_iff_iff,IK];unfold lE;rw[eK];rcases Nat.lt_or_ge l.length 2 with h2|h2
 ·
  constructor
  ·intro _ i z k hk;rw[List.length_append,List.length_singleton]at z;have O:i=1/\k=0/\l.length=1:=aK;obtain⟨rfl,rfl,_⟩:=O;exact YZ _ _
  ·intro _ i z;have:i=0:=aK;subst this;unfold uV;have I:(l.getD 0 0==s)=false:=beq_eq_false_iff_ne.2 (M 0 z);rw[I];simp
 ·have R:(l++[s]).getD 0 0=l.getD 0 0:=mW l s 0 aK;have e1:(l++[s]).getD 1 0=l.getD 1 0:=mW l s 1 aK;rw[R,e1];constructor
  ·intro h i z k hk;rw[List.length_append,List.length_singleton]at z;by_cases K:i<l.length
   ·rw[mW l s i K,mW l s k aK];exact N i K k hk
   ·have:i=l.length:=aK;subst this;rw[CX,mW l s k hk];have h1:=h 1 aK;have F:=h k hk;unfold uV at h1 F;simp only[Bool.and_eq_true,Bool.or_eq_true,beq_iff_eq,Bool.not_eq_true',beq_eq_false_iff_ne,ne_eq]at h1 F;have S:=h1.2.resolve_left aK;rcases F.2 with I|I
    ·subst I;rw[<-h1.1.2];exact S
    ·exact I
  ·intro h i z;have D:=h l.length (by rw[List.length_append,List.length_singleton];omega) i z;have J:=h l.length (by rw[List.length_append,List.length_singleton];omega) 0 aK;rw[CX,mW l s i z]at D;rw[CX,R]at J;unfold uV;simp only[Bool.and_eq_true,Bool.or_eq_true,beq_iff_eq,Bool.not_eq_true',beq_eq_false_iff_ne,ne_eq];exact⟨⟨M i z,by rw[D,J]⟩,.inr D⟩
theorem aa0:∀(sets l:List Int) (k:Int),rW l=true->(∀s∈sets,s∉l)->sets.Pairwise (· < ·)->eY (fun l s=>rW (l++[s])) sets l k=eY lE sets l k:=by
 intro sets
 induction sets with
 |nil=>
  intro l k _ _ _;by_cases h:(l.length:Int)=k
  ·rw[sA _ _ _ _ h,sA _ _ _ _ h]
  ·rw[yP _ _ _ h,yP _ _ _ h]
 |cons s rest ih=>
  intro l k hl F z;by_cases h:(l.length:Int)=k
  ·rw[sA _ _ _ _ h,sA _ _ _ _ h]
  ·rw[wV _ _ _ _ _ h,wV _ _ _ _ _ h];rw[List.pairwise_cons]at z;have ht:=zT l s hl (F s (by simp));have hr:=ih l k hl (fun x D=>F x (by simp[D])) z.2;rw[<-ht,hr]
   cases I:lE l s with
   |false=>rfl
   |true=>
    rw[ih (l++[s]) k (ht▸I) (fun x D hm=>by
     rw[List.mem_append,List.mem_singleton]at hm;rcases hm with hm|hm
     ·exact F x (by simp[D]) hm
     ·have:=z.1 x D;omega) z.2]
theorem QQ:∀(l:List Int) (z n:Int),l.Pairwise (· < ·)->(∀x∈l,z<=x/\x<n)->z<=n->(l.length:Int)<=n-z:=by
 intro l
 induction l with
 |nil=>intro z n _ _ h;simp;omega
 |cons x l ih=>intro z n D hb I;have J:=hb x (by simp);rw[List.pairwise_cons]at D;have:=ih (x+1) n D.2 (fun y F=>⟨by have:=D.1 y F;omega,(hb y (by simp[F])).2⟩) aK;rw[List.length_cons];omega
theorem FZ(l:List Int)(n:Nat)(z:l.Pairwise (· < ·))(hb:∀x∈l,0<=x/\x<(n:Int)):l.length<=n:=by
 have:=QQ l 0 n z hb aK;omega
def pQ(g:Int)(l:List Int)(k:Int):Bool:=bJ g l&&eZ k 1 5
def tV(g:Int)(l:List Int)(k:Int):Option (List Int):=if pQ g l k then eY lE l [] k else none
def nK(g:Int)(l:List Int)(k:Int):Bool:=(tV g l k).isSome
def kA(g:Int)(l:List Int)(k:Int):List Int:=(tV g l k).getD []
theorem ac0(g:Int)(l:List Int)(k:Int)(h:pQ g l k=true):tV g l k=eY (fun l s=>rW (l++[s])) l [] k:=by
 unfold tV;rw[h];unfold pQ at h;have z:=(Bool.and_eq_true_iff.1 h).1;exact(aa0 l [] k aY (by simp) (dT z).2.2.2).symm
def pJ(l:List Int):List Int:=l.filter fun s=>!fS (jC l) s
def oW:Nat->List Int->List (List Int)
 |0,_=>[]
 |k+1,l=>if l=[] then [] else jC l::oW k (pJ l)
def aeF(l:List Int):List (List Int):=oW l.length l
def lenOf:Value->Nat
 |.slice _ n _=>n
 |_=>0
theorem sub_le:∀s:Nat,s<64->∀t:Nat,t<64->cV t s=0->t<=s:=by decide +kernel
theorem ZL(x:Int)(l:List Int)(F:(x::l).Pairwise (· < ·))(hb:∀y∈x::l,0<=y/\y<64):x∈jC (x::l):=by
 unfold jC;rw[List.mem_filter];refine⟨by simp,?_⟩;rw[Bool.not_eq_true',List.any_eq_false];intro y z;have h1:=hb y z;have h2:=hb x (by simp);unfold nP;intro h;rw[Bool.and_eq_true,bne_iff_ne,beq_iff_eq]at h;obtain⟨D,I⟩:=h;unfold cM at I;have h3:=sub_le x.toNat aK y.toNat aK aK;rcases List.mem_cons.1 z with e|z
 ·exact D e
 ·have:=(List.pairwise_cons.1 F).1 y z;omega
theorem XM{l:List Int}(z:l≠[])(D:l.Pairwise (· < ·))(hb:∀y∈l,0<=y/\y<64):(pJ l).length<l.length:=by
 cases l with
 |nil=>exact absurd rfl z
 |cons x l=>unfold pJ;rw[List.length_filter_lt_length_iff_exists];exact⟨x,by simp,by rw[GS.2 (ZL x l D hb)];simp⟩
theorem TX{l:List Int}(z:l.Pairwise (· < ·)):(pJ l).Pairwise (· < ·):=z.filter _
theorem ID{l:List Int}{x:Int}(h:x∈pJ l):x∈l:=(List.mem_filter.1 h).1
theorem OD(k:Nat)(l:List Int)(h:l≠[]):oW (k+1) l=jC l::oW k (pJ l):=by rw[oW,if_neg h]
theorem S0(k:Nat):oW k []=[]:=by cases k<;>simp[oW]
theorem G6:∀(k:Nat) (l:List Int),(oW k l).length<=k:=by
 intro k
 induction k with
 |zero=>intro l;simp[oW]
 |succ k ih=>
  intro l;rw[oW]
  split
  ·simp
  ·have:=ih (pJ l);rw[List.length_cons];omega
theorem aeE:∀(k:Nat) (l:List Int),∀m∈oW k l,m.length<=l.length/\∀x∈m,x∈l:=by
 intro k
 induction k with
 |zero=>intro l m hm;simp[oW]at hm
 |succ k ih=>
  intro l m hm;rw[oW]at hm
  split at hm
  ·simp at hm
  ·rcases List.mem_cons.1 hm with e|hm
   ·subst e;exact⟨S8 l,fun x z=>S9 z⟩
   ·have h:=ih _ m hm;exact⟨Nat.le_trans h.1 (List.length_filter_le _ _),fun x z=>ID (h.2 x z)⟩
def eM(g:Int)(l:List Int):List (List Int):=if bJ g l then aeF l else []
theorem OS(p:Int->Bool)(L:List Int)(k:Nat)(h:k<L.length):(L.take (k+1)).filter p=(L.take k).filter p++(if p L[k] then [L[k]] else []):=by
 rw[List.take_succ_eq_append_getElem h,List.filter_append]
 congr 1
 cases z:p L[k]<;>simp[z]
theorem QL{g:Int}{l:List Int}(h:bJ g l=true):l.length<=64:=by
 have h1:=dT h;have h2:=pY h;exact FZ l 64 h1.2.2.2 (fun x z=>by obtain⟨k,hk,rfl⟩:=List.getElem_of_mem z;have:=h2.2.2 k hk;omega)
def CR(out:List Int)(s:Int):Bool:=out.isEmpty||cM s (out.headD 0)==0
def lM:List Int->List Int->List Int
 |[],out=>out
 |s::r,out=>if CR out s then s::out else lM r out
def wN(z:List (List Int)):Nat->List Int->List Int
 |0,out=>out
 |i+1,out=>wN z i (lM (z.getD i []) out)
def wO(g:Int)(l:List Int):List Int:=wN (eM g l) (eM g l).length []
theorem OZ:∀(M out:List Int),(lM M out).length<=out.length+1
 |[],out=>by rw[lM];omega
 |s::r,out=>by
  rw[lM]
  split
  ·simp
  ·exact OZ r out
theorem WP(z:List (List Int)):∀(i:Nat) (out:List Int),(wN z i out).length<=out.length+i
 |0,out=>by rw[wN];omega
 |i+1,out=>by rw[wN];have h1:=WP z i (lM (z.getD i []) out);have h2:=OZ (z.getD i []) out;omega
theorem sH(g:Int)(l:List Int):(eM g l).length<=64:=by
 unfold eM
 split
 ·rename_i h;exact Nat.le_trans (G6 _ _) (QL h)
 ·simp
theorem JX(g:Int)(l:List Int):∀m∈eM g l,m.length<=64/\∀x∈m,0<=x/\x<64:=by
 unfold eM
 split
 ·rename_i h;intro m hm;have h1:=aeE _ _ m hm;refine⟨Nat.le_trans h1.1 (QL h),fun x z=>?_⟩;obtain⟨k,hk,e⟩:=List.getElem_of_mem (h1.2 x z);rw[<-e];exact(pY h).2.2 k hk
 ·intro m hm;simp at hm
theorem LT(g:Int)(l:List Int):(wO g l).length<=64:=by
 have h1:=WP (eM g l) (eM g l).length [];have h2:=sH g l;unfold wO;simp at h1;omega
theorem UB(M:List Int)(j:Nat)(h:j<M.length)(out:List Int):lM (M.drop j) out=if CR out M[j] then M[j]::out else lM (M.drop (j+1)) out:=by
 rw[List.drop_eq_getElem_cons h,lM]
theorem OY(M out:List Int):lM (M.drop M.length) out=out:=by rw[List.drop_length];rfl
theorem aaN(z:List (List Int))(i:Nat)(h:i<z.length)(out:List Int):wN z (i+1) out=wN z i (lM z[i] out):=by
 rw[wN,List.getD_eq_getElem?_getD,List.getElem?_eq_getElem h];rfl
end
end Go.Proofs.YtcpoomdoodlkjaaGreatDoor
