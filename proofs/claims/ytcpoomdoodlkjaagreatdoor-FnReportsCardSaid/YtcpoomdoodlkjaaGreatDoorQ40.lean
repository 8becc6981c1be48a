/- Lemmas for CardReports. No condition. -/
import Derived.Test.YtcpoomdoodlkjaaGreatDoorQ24
import Derived.Test.YtcpoomdoodlkjaaGreatDoorQ39
set_option maxRecDepth 100000
set_option maxHeartbeats 64000000
namespace Go.Proofs.YtcpoomdoodlkjaaGreatDoor
section
open Go.RowKit Go.G5 Go.Proofs.Tryz
theorem af0{n m:Int}{l k:List Int}:fA n l m k=(dH n l&&(dH m k&&decide (n=m))):=by
 unfold fA
 cases dH n l<;>cases dH m k<;>simp
theorem aiQ(w:World)(n:Int)(v:Value)(l:List Int)(hv:aR w v l)(hl:l.length<=1048576)(m:Int)(u:Value)(k:List Int)(hu:aR w u k)(hk:k.length<=1048576):
  Calls prog 100 #[.agg #[n,v],.agg #[m,u]] w fun e w'=>∃ad i R,e=.returned (.tuple #[.agg #[(tM n l m k),aI ad i R],.bool (fA n l m k)])/\aP 3 w w' (aI ad i R) (tL n l m k)/\Below w w w':=by
 have l5:=hv;have l4:=hu;obtain⟨a,c,rfl⟩:=hv.shape;obtain⟨b,d,rfl⟩:=hu.shape;have hcm:=af0 (n:=n) (m:=m) (l:=l) (k:=k);have f0:=fun(W:World) (h:aR W (aI a l.length c) l)=>QS W n _ l h hl;have f2:=fun(W:World) (h:aR W (aI b k.length d) k)=>QS W m _ k h hk;obtain⟨r1,b8⟩:=aQ (dH n l);obtain⟨r2,b9⟩:=aQ (dH m k);obtain⟨F,e8⟩:=aQ (fL n l);obtain⟨I,e9⟩:=aQ (fL m k);obtain⟨M1,h5⟩:=aQ (jB n l);obtain⟨M2,h6⟩:=aQ (jB m k);simp only[<-b8,<-e8,<-h5]at f0;simp only[<-b9,<-e9,<-h6]at f2;rw[<-b8,<-b9]at hcm;have j8:=aN f0;have j9:=aN f2;have d7:=aN e8;have j6:=aN e9;have HR:=aN (And.intro b8 b9);clear f0 f2 b8 b9 e8 e9 h5 h6;go_enter func100,ntmps100;go_wp2_with fail;refine bH ?_;intro V hV;have B:Below w w V:=by rw[hV];exact(wM _ _ _).alloc (by first|omega|(simp;done)|(simp;omega)) _
 have K1:aU V w 26 #[n,aI a l.length c]:=by rw[hV];exact((aU.new _ _ _).alloc _).alloc _
 have K2:aU V (w.heap.size+1) 26 #[m,aI b k.length d]:=by rw[hV];have:=(aU.new (w.alloc (.cells #[n,aI a l.length c] 26)) 26 #[m,aI b k.length d]).alloc (.cells #[aJ,()] 31);simpa using this
 have M:aU V (w.heap.size+1+1) 31 #[aJ,()]:=by rw[hV];have:=aU.new ((w.alloc (.cells #[n,aI a l.length c] 26)).alloc (.cells #[m,aI b k.length d] 26)) 31 #[aJ,()];simpa using this
 clear hV;refine(j8.out _ (l5.below B aO)).mono ?_;rintro e w2 ⟨p1,i1,q1,rfl,o1,b2⟩;have k9:i1=F.length:=o1.ints.capLe.1;subst k9;have B2:=B.after b2 B.size;have K1:=K1.keep b2;have K2:=K2.keep b2;have M:=M.keep b2;clear B b2;have J1:=aU.new w2 31 #[M1,aI p1 F.length q1];have h1:=o1.ints.alloc (.cells #[M1,aI p1 F.length q1] 31);have b4:=B2.alloc B2.size (.cells #[M1,aI p1 F.length q1] 31);have g7:=K1.alloc (.cells #[M1,aI p1 F.length q1] 31);have e4:=K2.alloc (.cells #[M1,aI p1 F.length q1] 31);have g8:=M.alloc (.cells #[M1,aI p1 F.length q1] 31);have S:=e4.cell;go_wp2_with fail;refine(j9.out _ (l4.below b4 aO)).mono ?_;rintro e w3 ⟨p2,i2,q2,rfl,o2,b3⟩;have l0:i2=I.length:=o2.ints.capLe.1;subst l0;have B3:=b4.after b3 b4.size;have K1:=g7.keep b3;have K2:=e4.keep b3;have M:=g8.keep b3;have J1:=J1.keep b3;have h1:=h1.keep b3;clear S B2 b4 g7 e4 g8 b3;have J2:=aU.new w3 31 #[M2,aI p2 I.length q2];have h2:=o2.ints.alloc (.cells #[M2,aI p2 I.length q2] 31);have B3:=B3.alloc B3.size (.cells #[M2,aI p2 I.length q2] 31);have K1:=K1.alloc (.cells #[M2,aI p2 I.length q2] 31);have K2:=K2.alloc (.cells #[M2,aI p2 I.length q2] 31);have M:=M.alloc (.cells #[M2,aI p2 I.length q2] 31);have J1:=J1.alloc (.cells #[M2,aI p2 I.length q2] 31);have h1:=h1.alloc (.cells #[M2,aI p2 I.length q2] 31);have S:=K1.cell;have G2:=K2.cell;have G3:=M.cell;have F3:=M.frozen;have z3:=M.lt;have O:fA n l m k=(r1&&(r2&&(n==m))):=by rw[hcm,rY]
 clear hcm
 cases hf:fA n l m k with
 |false=>
  have hN:tM n l m k=0:=by unfold tM;rw[hf];rfl
  have hL:tL n l m k=[]:=by unfold tL;rw[hf];rfl
  have b7:(!r1||(!r2||n != m))=true:=by rw[hf]at O;revert O;cases r1<;>cases r2<;>cases h:n==m<;>simp[bne,h]
  have HN:=aN hN;have HL:=aN hL;have HF:=aN hf;have c9:∀Wf:World,Wf=(((w3.alloc (.cells #[M2,aI p2 I.length q2] 31)).setCell ⟨w.heap.size+1+1,0,none⟩ (aM 0)).setCell ⟨w.heap.size+1+1,1,none⟩ (aI none 0 0))->Below w w Wf/\aU Wf (w.heap.size+1+1) 31 #[aJ,()]:=by intro Wf D;rw[D];refine⟨Below.setCell (Below.setCell B3 (by first|omega|(simp;done)|(simp;omega)) _) (by first|omega|(simp;done)|(simp;omega)) _,?_⟩;have:=(M.set 0 (aM 0)).set 1 (aI none 0 0);simpa using this
  have Y:=aN c9;clear hN hL hf O c9
  cases r1 with
  |false=>clear b7;go_wp2;refine bG ?_;intro Wf D;obtain⟨Bf,K⟩:=Y.out Wf D;have Gf:=K.cell;clear D S G2 G3 F3;exact bodyPost_ret (v:=.tuple #[.agg #[aJ,()],.bool false]) (by simp[results,results100,go_sem,Gf]) rfl ⟨none,0,0,by rw[HN.out,HF.out],by rw[HL.out];exact aP.nil _ _ _,Bf⟩
  |true=>
   cases r2 with
   |false=>clear b7;go_wp2;refine bG ?_;intro Wf D;obtain⟨Bf,K⟩:=Y.out Wf D;have Gf:=K.cell;clear D S G2 G3 F3;exact bodyPost_ret (v:=.tuple #[.agg #[aJ,()],.bool false]) (by simp[results,results100,go_sem,Gf]) rfl ⟨none,0,0,by rw[HN.out,HF.out],by rw[HL.out];exact aP.nil _ _ _,Bf⟩
   |true=>
    have b7:(n != m)=true:=by simpa using b7
    go_wp2;refine bG ?_;intro Wf D;obtain⟨Bf,K⟩:=Y.out Wf D;have Gf:=K.cell;clear D S G2 G3 F3;exact bodyPost_ret (v:=.tuple #[.agg #[aJ,()],.bool false]) (by simp[results,results100,go_sem,Gf]) rfl ⟨none,0,0,by rw[HN.out,HF.out],by rw[HL.out];exact aP.nil _ _ _,Bf⟩
 |true=>
  obtain⟨a7,f4⟩:=GD hf;obtain⟨rfl,N,rfl,o3,l2,i6,h9,_,_⟩:=pX hf;have l3:r1=true/\r2=true:=⟨HR.out.1.trans a7,HR.out.2.trans f4⟩;obtain⟨rfl,rfl⟩:=l3;have hN:tM N l N k=N:=by unfold tM;rw[hf];rfl
  have hL:tL N l N k=F.filter (fS I):=by
   rw[d7.out,j6.out];unfold tL fL;rw[hf,if_pos rfl,a7,if_pos rfl,f4,if_pos rfl,h9,PH]
   rfl
  have n3:F.length<=32:=by rw[d7.out];unfold fL;rw[a7,if_pos rfl];exact Nat.le_trans (fJ _ _) i6
  have g9:∀y∈F,0<=y/\y<64:=by rw[d7.out];unfold fL;rw[a7,if_pos rfl];intro y hy;have:=mQ _ _ y hy;omega
  have j7:=aN g9;have o5:(((N:Nat):Int) != (N:Int))=false:=by simp
  have HN:=aN hN;have HL:=aN hL;have HF:=aN hf;obtain⟨av,ab,m1,cv,l6,_,h8,hc,hb⟩:=h1.view prog 24 3 underlying24 aS;injection l6 with x1 _ x3;subst x1 x3;have HC:=aN hc;have k0:=aN h8;clear g9 hN hL hf a7 f4 l2 h9 O hc h8;clear z3;go_wp2_with fail;obtain⟨V,hV⟩:=aQ (w3.alloc (.cells #[M2,aI p2 I.length q2] 31));have o0:=aP.lit0 (E:=3) (B:=V.heap.size) V aO;clear S G2 G3 F3;have zV:V.heap.size=w3.heap.size+1:=by rw[hV];simp
  have k7:F≠[]->ab<V.heap.size:=by rw[hV];exact hb
  rw[<-hV]at B3 K1 K2 M J1 J2 h1 h2 HC ⊢;have j0:aP 3 V (V.alloc (.cells #[] 3)) (aI (some ⟨w3.heap.size+1,0,none⟩) 0 0) []:=by rw[show(⟨V.heap.size,0,none⟩:Addr)=⟨w3.heap.size+1,0,none⟩ by rw[zV]]at o0;exact o0
  clear hV;go_loopw [10,11] (fun out i wr=>∃(j:Nat) (ad:Option Addr) (nn R:Nat),j<=F.length/\out=aI ad nn R/\i=aM j/\aP 3 V wr (aI ad nn R) ((F.take j).filter (fS I))/\Below V V wr)
   (fun _ i _=>F.length-(intOf i).toNat)
  case atStart=>exact⟨0,_,_,_,Nat.zero_le _,rfl,rfl,j0,bF _ _⟩
  case round=>
   obtain⟨j,ad,nn,R,hj,rfl,rfl,ho,B⟩:=hrel;obtain⟨wo,rfl⟩:∃z:World,z=wr:=⟨_,rfl⟩;have HO:=aN ho;clear ho o0 j0;have zw:=B.size;have Z:=bY J1 B J1.lt;have k4:=bY J2 B J2.lt;have z1:=Z.lt;by_cases hlt:j<F.length
   ·have i7:(j:Int)<(F.length:Int):=aK;have J:=WH (fS I) F j hlt;have o4:((F.take j).filter (fS I)).length<=64:=by have h1:=List.length_filter_le (fS I) (F.take j);have h2:=List.length_take_le j F;omega
    have e7:=aW HC.out k7 B aO j hlt;have o8:=fun W=>k0.out W j hlt;have l8:=j7.out F[j] (List.getElem_mem hlt);obtain⟨x,hx⟩:=aQ (F[j]);rw[<-hx]at l8;rw[<-hx]at J e7;have f3:=fun y:Ext wo=>kT I _ x y.w ((h2.below B aO).keep y.b);obtain⟨q,hq⟩:=aQ (fS I x);rw[<-hq]at J;simp only[<-hq]at f3;have a1:=Z.cell 1;have a2:=k4.cell 1;simp only[List.getElem?_toArray,List.getElem?_cons_zero,List.getElem?_cons_succ]at a1 a2;have e1:∀y:Ext wo,y.w.cell? ⟨w2.heap.size,1,none⟩=some (aI p1 F.length q1):=fun y=>y.cell a1;have e2:∀y:Ext wo,y.w.cell? ⟨w3.heap.size,1,none⟩=some (aI p2 I.length q2):=fun y=>y.cell a2;have e3:∀y:Ext wo,y.w.cell? ⟨ab,m1+j,none⟩=some (aM x):=fun y=>y.cell e7;have S:=Z.cell;have d9:=aN f3;clear hx hq f3 a1 a2
    cases q with
    |false=>
     rw[if_neg (by simp),List.append_nil]at J;have d8:=aN J;clear J;go_wp2_with fail;refine bN _ aT aT ?_
     repeat(first|go_big_quiet_skip|(go_big_quiet_want;go_big_quiet_op;first|go_big_quiet_on|(apply Exists.intro;refine⟨fun _=>?_,?_⟩;(go_at_call 210;exact cR (d9.out _));go_big_quiet_on)))
     refine wpQuiet_nil ?_;rintro w5 ⟨⟨w5,b5⟩,rfl⟩
     try dsimp only
     go_wp2;go_roundw
     case rel=>exact⟨j+1,ad,nn,R,by omega,rfl,by go_num,by rw[d8.out];exact HO.out.keep b5,B.after b5 B.size⟩
     case measure=>simp[intOf];omega
    |true=>
     rw[if_pos rfl]at J;have d8:=aN J;clear J;go_wp2_with fail;refine bN _ aT aT ?_
     repeat(first|go_big_quiet_skip|(go_big_quiet_want;go_big_quiet_op;first|go_big_quiet_on|(apply Exists.intro;refine⟨fun _=>?_,?_⟩;(go_at_call 210;exact cR (d9.out _));go_big_quiet_on)))
     refine wpQuiet_nil ?_;rintro w5 ⟨⟨w5,b5⟩,rfl⟩
     try dsimp only
     clear S;have k2:=Z.keep b5;have S:=k2.cell;have c5:=(Ext.mk w5 b5).cell e7;have g6:=HO.out.keep b5;have B5:=B.after b5 B.size;have z5:=B5.size;clear e1 e2 e3 d9;go_wp2_with (at_builtin;refine cZ rfl _ _ _ rfl 3 underlying24 aS V.heap.size _ _ x w5.heap.size rfl rfl (bB w5 #[x] 3 0 _ rfl) (g6.alloc _) ⟨by omega,by omega⟩ aK (by first|omega|(simp;done)|(simp;omega)) ?_;intro v' w6 d0 k8;obtain⟨av,nv,cv,rfl⟩:=d0.shape3);have B6:Below V V w6:=(B5.alloc B5.size (.cells #[x] 3)).grown k8 aV (fun q hq=>(g6.lt q hq).1);go_roundw
     case rel=>exact⟨j+1,av,nv,cv,by omega,rfl,by go_num,by rw[d8.out];exact d0,B6⟩
     case measure=>simp[intOf];omega
   ·have i7:¬(j:Int)<(F.length:Int):=aK;have l1:j=F.length:=aK;subst l1;have k5:=bY K1 B K1.lt;have b6:=bY M B M.lt;have y3:=b6.lt;have S:=Z.cell;have G2:=k5.cell;have G3:=b6.cell;have F3:=b6.frozen;have yy:=B3.size;have y4:=M.lt;go_wp2;refine bG ?_;intro Wf D;have K:aU Wf (w.heap.size+1+1) 31 #[N,aI ad nn R]:=by rw[D];have:=(b6.set 0 (aM N)).set 1 (aI ad nn R);simpa using this
    have Bf:Below w w Wf:=by rw[D];exact Below.setCell (Below.setCell (B3.after B B3.size) (by first|omega|(simp;done)|(simp;omega)) _) (by first|omega|(simp;done)|(simp;omega)) _
    have of:aP 3 w Wf (aI ad nn R) ((F.take F.length).filter (fS I)):=by rw[D];exact((HO.out.setBelow (by first|omega|(simp;done)|(simp;omega)) _).setBelow (by first|omega|(simp;done)|(simp;omega)) _).mono (by first|omega|(simp;done)|(simp;omega))
    rw[List.take_length]at of;have Gf:=K.cell;clear D S G2 G3 F3;exact bodyPost_ret (v:=.tuple #[.agg #[N,aI ad nn R],.bool true]) (by simp[results,results100,go_sem,Gf]) rfl ⟨ad,nn,R,by rw[HN.out,HF.out],by rw[HL.out];exact of,Bf⟩
theorem acK(w:World)(n:Int)(v:Value)(l:List Int)(hv:aR w v l)(hl:l.length<=1048576)(m:Int)(u:Value)(k:List Int)(hu:aR w u k)(hk:k.length<=1048576):
  Calls prog 19 #[.agg #[n,v],.agg #[m,u]] w fun e w'=>e=.returned (.string (DS n l m k))/\Below w w w':=by
 have K:=hv;have J:=hu;obtain⟨a,c,rfl⟩:=hv.shape;obtain⟨Z,c',rfl⟩:=hu.shape;have z:=fun(W:World) (h1:aR W (aI a l.length c) l) (h2:aR W (aI Z k.length c') k)=>GX W n _ l h1 hl m _ k h2 hk;have N:=fun(W:World) (h1:aR W (aI a l.length c) l) (h2:aR W (aI Z k.length c') k)=>LX W n _ l h1 hl m _ k h2 hk;have O:=fun(W:World) (h1:aR W (aI a l.length c) l) (h2:aR W (aI Z k.length c') k)=>afI W n _ l h1 hl m _ k h2 hk;have R:=fun(W:World) (h1:aR W (aI a l.length c) l) (h2:aR W (aI Z k.length c') k)=>aiQ W n _ l h1 hl m _ k h2 hk;have S:Below w w ((w.alloc (.cells #[n,aI a l.length c] 26)).alloc (.cells #[m,aI Z k.length c'] 26)):=wM _ _ _;have D:=(aU.new w 26 #[n,aI a l.length c]).alloc (.cells #[m,aI Z k.length c'] 26);have I:aU ((w.alloc (.cells #[n,aI a l.length c] 26)).alloc (.cells #[m,aI Z k.length c'] 26)) (w.heap.size+1) 26 #[m,aI Z k.length c']:=by
  have:=aU.new (w.alloc (.cells #[n,aI a l.length c] 26)) 26 #[m,aI Z k.length c'];simpa using this
 cases hf:fA n l m k with
 |false=>have HX:=aN (XJ hf);have z:=z _ (K.below S aO) (J.below S aO);rw[hf]at z;have Y:=aN z;clear hf z N O R D I;go_enter func19,ntmps19;go_wp2_with fail;refine Y.out.mono ?_;rintro e w1 ⟨rfl,b1⟩;go_wp2;go_ret;exact⟨cI HX.out.symm,S.after b1 S.size⟩
 |true=>
  have f6:=QX n l m k;obtain⟨TT,b7⟩:=aQ (DS n l m k);have j3:TT.size<=10600:=by rw[b7,BK hf];exact TM n l m k
  have hx:TL (bZ n (xU n l m k)) (bQ (uK n l m k)) (bZ n (xK n l m k)) (bZ n (xV n l m k)) (dB (tM n l m k) (tL n l m k))=TT:=by rw[b7,BK hf];rfl
  unfold TL at hx;simp only[hf]at z N O R;obtain⟨S1,c8⟩:=aQ (xU n l m k);obtain⟨S2,c9⟩:=aQ (xK n l m k);obtain⟨S3,d0⟩:=aQ (xV n l m k);obtain⟨N1,b6⟩:=aQ (uK n l m k);obtain⟨M,hM⟩:=aQ (tM n l m k);obtain⟨L,hL⟩:=aQ (tL n l m k);simp only[<-c8]at z;simp only[<-c9,<-b6]at N;simp only[<-d0]at O;simp only[<-hM,<-hL]at R;rw[<-c8,<-c9,<-d0,<-b6,<-hM,<-hL]at hx;rw[<-b6]at f6;have Y:=aN z;have f3:=aN N;have f4:=aN O;have f5:=aN R;have HX:=aN hx;have g2:=aN b7;clear z N O R hx b7 hf c8 c9 d0 b6 hM hL;go_enter func19,ntmps19;go_wp2_with fail;refine(Y.out _ (K.below S aO) (J.below S aO)).mono ?_;rintro e w1 ⟨rfl,b1⟩;have B1:=S.after b1 S.size;have D:=D.keep b1;have I:=I.keep b1;clear S b1;have G1:=D.cell;have G2:=I.cell;have z1:=D.lt;have z2:=I.lt;go_wp2_with fail;refine(f3.out _ (K.below B1 aO) (J.below B1 aO)).mono ?_;rintro e w2 ⟨rfl,b2⟩;have B2:=B1.after b2 B1.size;have D:=D.keep b2;have I:=I.keep b2;clear B1 b2 G1 G2 z1 z2;have G1:=D.cell;have G2:=I.cell;have z1:=D.lt;have z2:=I.lt;go_wp2_with fail;refine(f4.out _ (K.below B2 aO) (J.below B2 aO)).mono ?_;rintro e w3 ⟨rfl,b3⟩;have B3:=B2.after b3 B2.size;have D:=D.keep b3;have I:=I.keep b3;clear B2 b3 G1 G2 z1 z2;have G1:=D.cell;have G2:=I.cell;have z1:=D.lt;have z2:=I.lt;go_wp2_with fail;refine(f5.out _ (K.below B3 aO) (J.below B3 aO)).mono ?_;rintro e w4 ⟨pB,iB,qB,rfl,oB,b4⟩;have h5:iB=L.length:=oB.ints.capLe.1;subst h5;have B4:=B3.after b4 B3.size;have D:=D.keep b4;clear B3 b4 G1 G2 z1 z2 I;have KB:=aU.new w4 31 #[M,aI pB L.length qB];have hB:=oB.ints.alloc (.cells #[M,aI pB L.length qB] 31);have c5:=B4.alloc B4.size (.cells #[M,aI pB L.length qB] 31);have c7:=D.alloc (.cells #[M,aI pB L.length qB] 31);have q1:=fF n S1;have q2:=fF n S2;have q3:=fF n S3;have q4:=cW N1 ⟨by omega,by omega⟩;have q5:=fC M L;have d7:=fun W:World=>kS n S1 W;have d8:=fun W:World=>kS n S2 W;have d9:=fun W:World=>kS n S3 W;have e0:=fun W:World=>fX N1 ⟨by omega,by omega⟩ W;obtain⟨F1,a7⟩:=aQ (bZ n S1);obtain⟨F2,a8⟩:=aQ (bZ n S2);obtain⟨F3,a9⟩:=aQ (bZ n S3);obtain⟨F4,b0⟩:=aQ (bQ N1);simp only[<-a7]at d7;simp only[<-a8]at d8;simp only[<-a9]at d9;simp only[<-b0]at e0;rw[<-a7]at q1;rw[<-a8]at q2;rw[<-a9]at q3;rw[<-b0]at q4;have F:=HX.out;rw[<-a7,<-a8,<-a9,<-b0]at F;have HX:=aN F;clear a7 a8 a9 b0 F;obtain⟨W5,d5⟩:=aQ (w4.alloc (.cells #[M,aI pB L.length qB] 31));rw[<-d5]at hB KB c7 c5;have a0:=c7.cell 0;have a1:=KB.cell 0;have a2:=KB.cell 1;simp only[List.getElem?_toArray,List.getElem?_cons_zero,List.getElem?_cons_succ]at a0 a1 a2;have p0:∀y:Ext W5,y.w.cell? ⟨w.heap.size,0,none⟩=some (aM n):=fun y=>y.cell a0;have p1:∀y:Ext W5,y.w.cell? ⟨w4.heap.size,0,none⟩=some (aM M):=fun y=>y.cell a1;have p2:∀y:Ext W5,y.w.cell? ⟨w4.heap.size,1,none⟩=some (aI pB L.length qB):=fun y=>y.cell a2;have e4:=fun y:Ext W5=>kR M L _ y.w (hB.keep y.b);obtain⟨F5,b5⟩:=aQ (dB M L);simp only[<-b5]at e4;rw[<-b5]at q5;have F:=HX.out;rw[<-b5]at F;have HX:=aN F;have R1:=aN (fun y:Ext W5=>d7 y.w);have R2:=aN (fun y:Ext W5=>d8 y.w);have R3:=aN (fun y:Ext W5=>d9 y.w);have R4:=aN (fun y:Ext W5=>e0 y.w);have R5:=aN e4;clear b5 F d7 d8 d9 e0 e4 a0 a1 a2 D c7 KB hB hv hu K J Y f3 f4 f5 oB f6;go_upto_region 7 with fail;rw[<-d5];clear d5;refine bN _ aT aT ?_
  repeat(first|go_big_quiet_skip|(go_big_quiet_want;go_big_quiet_op;first|go_big_quiet_on|(apply Exists.intro;refine⟨fun _=>?_,?_⟩;(first|(go_at_call 80;first|(with_reducible exact bO (R1.out _))|(with_reducible exact bO (R2.out _))|(with_reducible exact bO (R3.out _)))|(go_at_call 54;exact bO (R4.out _))|(go_at_call 79;exact bO (R5.out _)));go_big_quiet_on)))
  refine wpQuiet_nil ?_;rintro w9 ⟨⟨w9,b9⟩,rfl⟩
  try dsimp only
  go_wp2;go_ret;exact⟨cI (HX.out.trans g2.out),c5.after b9 c5.size⟩
theorem ae8(B:Nat)(v:Value)(l:List Int)(w:World)(h:aP 3 B w v l)(hl:l.length<=1048576):
  Calls prog 309 #[v] w fun e w'=>e=.returned (.tuple #[])/\aP 3 B w' v (l.mergeSort fun x y=>decide (x<=y))/\w.grownBy w' v.ownBlock:=by
 have hr:∀x∈(l.mergeSort fun x y=>decide (x<=y)),dD x:=fun x F=>h.2 x (List.mem_mergeSort.1 F);rcases h.cases with⟨rfl,rfl⟩|⟨g,cap,rfl,hB,D⟩
 ·refine(yH none 0 w).mono ?_;rintro e w' ⟨z,rfl⟩;exact⟨z,by simpa using h,World.grownBy.refl _ _⟩
 ·refine(DW g 0 cap l w (h.holds rfl) D aK).mono ?_;rintro e w' ⟨z,n,os,rfl⟩;have:=h.put (l.mergeSort fun x y=>decide (x<=y)) (List.length_mergeSort _) hr n os;exact⟨z,this.1,this.2⟩
theorem UZ(B:Nat)(v:Value)(l:List Int)(w:World)(h:aP 3 B w v l)(hl:l.length<=1048576):
  Calls prog 311 #[v] w fun e w'=>∃ad i c,e=.returned (aI ad i c)/\aP 3 B w' (aI ad i c) (Lib.compact l)/\w.grownBy w' v.ownBlock:=by
 rcases h.cases with⟨rfl,rfl⟩|⟨g,cap,rfl,hB,N⟩
 ·refine(wD none 0 w).mono ?_;rintro e w' ⟨I,rfl⟩;exact⟨none,0,0,I,h,World.grownBy.refl _ _⟩
 ·have D:=h.ints.capLe
  have hcl:(Lib.compact l).length<=l.length:=FI l.toArray l.length;refine(AM g 0 cap l w (h.holds rfl) aK D.2.1).mono ?_;rintro e w' ⟨I,q,rfl⟩;have F:∀x∈Lib.compact l++List.replicate (l.length-(Lib.compact l).length) 0,dD x:=by
   intro x z;rcases List.mem_append.1 z with z|z
   ·unfold Lib.compact Lib.compactUpTo at z;obtain⟨j,M,rfl⟩:=List.mem_map.1 z;have J:=List.mem_range.1 (List.mem_filter.1 M).1;rw[getElem!_pos l.toArray j (by simpa using J)];exact h.2 _ (by simp)
   ·have:=List.eq_of_mem_replicate z;subst this;exact⟨by omega,by omega⟩
  have K:=h.put (Lib.compact l++List.replicate (l.length-(Lib.compact l).length) 0) aV F q #[];rw[Go.Sort.grow_empty]at K;have hc:=K.1;have hcut:=aP.cut (n:=l.length) hc (Lib.compact l).length (by simp);rw[List.take_left]at hcut;exact⟨_,_,_,I,hcut,K.2⟩
theorem adM(B:Nat)(v:Value)(l:List Int)(w:World)(h:aP 3 B w v l)(hl:l.length<=1048576):
  Calls prog 310 #[v] w fun e w'=>∃ad i c,e=.returned (aI ad i c)/\dR 3 B w' (aI ad i c) l/\w=w':=by
 have I:=h.toW;rcases h.cases with⟨rfl,rfl⟩|⟨g,cap,rfl,hB,Y⟩
 ·go_enter func310,ntmps310;go_wp2;go_ret;exact⟨none,0,0,rfl,I,rfl⟩
 ·have z:=h.ints.capLe;have N:=z.2.1;have J:=z.2.2;unfold maxLen at J;clear z;go_enter func310,ntmps310;go_wp2;go_ret;refine⟨some ⟨g,0,none⟩,l.length,l.length,?_,?_,rfl⟩
  ·rfl
  ·refine⟨I.1,?_⟩;rcases I.2 with⟨e,_⟩|⟨S,M,D,e,F,K,R,O,hm,ht⟩
   ·simp at e
   ·simp only[Value.slice.injEq,Option.some.injEq,Addr.mk.injEq,and_true]at e;obtain⟨rfl,_,rfl⟩:=e;exact .inr ⟨g,l.length,D,rfl,F,K,aO,by omega,by omega,ht⟩
theorem JI(n:Int)(v:Value)(l:List Int)(w:World)(hv:aR w v l)(hl:l.length<=1048576):
  Calls prog 282 #[n,v] w fun e w'=>∃ad i c,e=.returned (.agg #[n,aI ad i c])/\dR 3 w.heap.size w' (aI ad i c) (eD l)/\Below w w w':=by
 obtain⟨a,c,rfl⟩:=hv.shape;have O:(l.mergeSort fun x y=>decide (x<=y)).length<=1048576:=by rw[List.length_mergeSort];exact hl
 have b6:=zU l;go_enter func282,ntmps282;go_wp2_with fail;refine(kW _ l _ (hv.alloc _) hl).mono ?_;rintro e w1 ⟨p1,i1,q1,rfl,o1,D⟩;have Y:=aU.new w 31 #[aJ,()];have Z:=Y.keep D;have R:Below w w w1:=(bF _ _).after D (by simp);have J:=o1.mono (B':=w.heap.size+1) (by simp);have N:=J.lt;clear Y o1 D;go_wp2_with fail;refine(ae8 _ _ l _ J hl).mono ?_;rintro e w2 ⟨rfl,o2,F⟩;have K2:=Z.grow F (by intro hk;have:=(N _ hk).1;omega);have S:=R.grown F R.size (fun k hk=>by have:=(N k hk).1;omega);clear F Z J;go_wp2_with fail;refine(UZ _ _ _ _ o2 O).mono ?_;rintro e w3 ⟨p3,i3,q3,rfl,o3,I⟩;have K:=K2.grow I (by intro hk;have:=(N _ hk).1;omega);have B3:=S.grown I S.size (fun k hk=>by have:=(N k hk).1;omega);clear I K2 o2;go_wp2_with fail;refine(adM _ _ _ _ o3 (by have e:Lib.compact (l.mergeSort fun x y=>decide (x<=y))=eD l:=rfl;rw[e];omega)).mono ?_;rintro e w4 ⟨p4,i4,M,rfl,o4,rfl⟩;have G3:=K.cell;have F3:=K.frozen;have z3:=K.lt;go_wp2;refine bG ?_;intro Wf z;have Kf:aU Wf w 31 #[n,aI p4 i4 M]:=by
  rw[z];have:=(K.set 0 (aM n)).set 1 (aI p4 i4 M);simpa using this
 have Bf:Below w w Wf:=by rw[z];exact Below.setCell (Below.setCell B3 (by first|omega|(simp;done)|(simp;omega)) _) (by first|omega|(simp;done)|(simp;omega)) _
 have of:dR 3 w.heap.size Wf (aI p4 i4 M) (eD l):=by rw[z];exact((o4.setBelow (by first|omega|(simp;done)|(simp;omega)) _).setBelow (by first|omega|(simp;done)|(simp;omega)) _).mono (by first|omega|(simp;done)|(simp;omega))
 have Gf:=Kf.cell;clear z G3 F3;exact bodyPost_ret (v:=.agg #[n,aI p4 i4 M]) (by simp[results,results282,go_sem,Gf]) rfl ⟨_,_,_,rfl,of,Bf⟩
end
section
open Go.RowKit Go.G5 Go.Proofs.Tryz
end
section
open Go.RowKit Go.G5 Go.Proofs.Tryz
end
section
open Go.RowKit Go.G5 Go.Proofs.Tryz
theorem XK(e:Int)(h:0<=e/\e<6):0<(2:Int)^e.toNat/\(2:Int)^e.toNat<64:=by
 rcases(show e=0∨e=1∨e=2∨e=3∨e=4∨e=5 by omega) with rfl|rfl|rfl|rfl|rfl|rfl<;>decide
theorem UU:∀(l:List Int) (z n:Int),l.Pairwise (· < ·)->(∀x∈l,z<=x/\x<n)->z<=n->(l.length:Int)<=n-z:=by
 intro l
 induction l with
 |nil=>intro z n _ _ h;simp;omega
 |cons x l ih=>intro z n D hb I;have J:=hb x (by simp);rw[List.pairwise_cons]at D;have:=ih (x+1) n D.2 (fun y F=>⟨by have:=D.1 y F;omega,(hb y (by simp[F])).2⟩) aK;rw[List.length_cons];omega
theorem WN(l:List Int)(n:Nat)(z:l.Pairwise (· < ·))(hb:∀x∈l,0<=x/\x<(n:Int)):l.length<=n:=by
 have:=UU l 0 n z hb aK;omega
theorem SE(l:List Int)(h:∀x∈l,0<=x/\x<64):(∀x∈eD l,0<=x/\x<64)/\(eD l).length<=64:=by
 have h1:∀x∈eD l,0<=x/\x<64:=fun x z=>h x ((qE l x).1 z);exact⟨h1,WN _ 64 (vT l) (fun x z=>h1 x z)⟩
end
end Go.Proofs.YtcpoomdoodlkjaaGreatDoor
