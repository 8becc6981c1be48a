/- Lemmas for CardClaims, part 33 of 52. No condition. -/
import Derived.Test.YtipejodijbjpcaaGreatDoorQ32
set_option maxRecDepth 100000
set_option maxHeartbeats 64000000
namespace Go.Proofs.YtipejodijbjpcaaGreatDoor
section
open Go.RowKit Go.G5
theorem EZ(w:World)(N:Nat)(v:Value)(l:List Int)(hv:aD w v l)(hl:l.length<=1048576)(u:Value)(m:List Int)(hu:aD w u m)(hm:m.length<=1048576)(hc:cZ (N:Int) l (N:Int) m=true)(hN:N<=5)(a8:l.length=2^N)(a9:m.length=l.length)(s:Nat)(hs:s<2^N):
  Calls Tryz.prog 254 #[.agg #[.int .i64 (N:Int),v],.agg #[.int .i64 (N:Int),u],.int .i64 (s:Int)] w fun e w'=>e=.returned (.bool (bH l s&&bH m s))/\Below w.heap.size w w':=by
 obtain⟨a,c,rfl⟩:=hv.shape;obtain⟨b,d,rfl⟩:=hu.shape;have c5:(2:Nat)^N<=2^5:=Nat.pow_le_pow_right (by decide) hN;have o:=fun W (h1:aD W (.slice a l.length c) l) (h2:aD W (.slice b m.length d) m)=>pC W (N:Int) _ l h1 hl (N:Int) _ m h2 hm;simp only[hc]at o;have I:=fun W=>jW N (s:Int) W (by omega);have M:((2:Int)^N)=((2^N:Nat):Int):=by simp
 have O:bO N (s:Int)=true:=eN.2 ⟨by omega,by rw[M];omega⟩;simp only[O]at I;have z:=fun W (h1:aD W (.slice a l.length c) l)=>qF W (N:Int) _ l h1 s (by omega) (by omega);have A:=fun W (h1:aD W (.slice b m.length d) m)=>qF W (N:Int) _ m h1 s (by omega) (by omega);obtain⟨p1,D⟩:∃p,p=bH l s:=⟨_,rfl⟩;obtain⟨p2,F⟩:∃p,p=bH m s:=⟨_,rfl⟩;simp only[<-D]at z;simp only[<-F]at A;rw[<-D,<-F];have Y:=Lib.hid o;have a6:=Lib.hid I;have Z:=Lib.hid z;have a1:=Lib.hid A;clear M o I O z A D F a8 a9 hc hs;go_enter Tryz.func254,Tryz.ntmps254;go_wp2_with fail;refine aH ?_;intro V U;have B:Below w.heap.size w V:=by rw[U];exact cD _ _ _
 have K1:aB V w.heap.size 32 #[.int .i64 (N:Int),.slice a l.length c]:=by rw[U];exact(aB.new _ _ _).alloc _
 have K2:aB V (w.heap.size+1) 32 #[.int .i64 (N:Int),.slice b m.length d]:=by rw[U];have:=aB.new (w.alloc (.cells #[.int .i64 (N:Int),.slice a l.length c] 32)) 32 #[.int .i64 (N:Int),.slice b m.length d];simpa using this
 clear U;refine(Y.out V (hv.below B (Nat.le_refl _)) (hu.below B (Nat.le_refl _))).mono ?_;rintro e w1 ⟨rfl,S⟩;have Q:=B.after S B.size;have K:=K1.keep S;have L:=K2.keep S;clear K1 K2 B S;have G1:=K.cell;go_wp2_with (go_at_call 229;refine(a6.out _).mono ?_;rintro e w' ⟨rfl,rfl⟩);refine(Z.out w1 (hv.below Q (Nat.le_refl _))).mono ?_;rintro e w2 ⟨rfl,b2⟩;have R:=Q.after b2 Q.size;have a7:=L.keep b2;have G2:=a7.cell;clear G1 K L Q b2
 cases p1 with
 |false=>
  go_wp2;go_ret;exact⟨rfl,R⟩
 |true=>
  go_wp2_with fail;refine(a1.out w2 (hu.below R (Nat.le_refl _))).mono ?_;rintro e w3 ⟨rfl,b3⟩;go_wp2;go_ret;exact⟨by simp,R.after b3 R.size⟩
theorem KL(w:World)(k n1:Int)(v1:Value)(l1:List Int)(h1:aD w v1 l1)(n2:Int)(v2:Value)(l2:List Int)(h2:aD w v2 l2)(n3:Int)(v3:Value)(l3:List Int)(h3:aD w v3 l3)(q st:Int)(v4:Value)(l4:List Int)(h4:aD w v4 l4)(h8:l1.length<=1048576)(h9:l2.length<=1048576):
  Calls Tryz.prog 139 #[clV k n1 v1 n2 v2 n3 v3 q st v4] w fun e w'=>e=.returned (.bool (fR n1 l1 n2 l2 q st l4))/\Below w.heap.size w w':=by
 obtain⟨a1,c1,rfl⟩:=h1.shape;obtain⟨a2,c2,rfl⟩:=h2.shape;obtain⟨a3,c3,rfl⟩:=h3.shape;obtain⟨a4,c4,rfl⟩:=h4.shape;have K0:=aB.new w 49 (clC k n1 (.slice a1 l1.length c1) n2 (.slice a2 l2.length c2) n3 (.slice a3 l3.length c3) q st (.slice a4 l4.length c4));have D:=pC (w.alloc (.cells (clC k n1 (.slice a1 l1.length c1) n2 (.slice a2 l2.length c2) n3 (.slice a3 l3.length c3) q st (.slice a4 l4.length c4)) 49)) n1 _ l1 (h1.alloc _) h8 n2 _ l2 (h2.alloc _) h9
 cases hc:cZ n1 l1 n2 l2 with
 |false=>
  have o:fR n1 l1 n2 l2 q st l4=false:=by unfold fR;rw[hc];rfl
  rw[hc]at D;have HX:=Lib.hid o;have Z:=Lib.hid D;clear o D hc;go_enter Tryz.func139,Tryz.ntmps139;go_wp2_with fail;refine Z.out.mono ?_;rintro e Y ⟨rfl,b1⟩;go_wp2;go_ret;exact⟨aE HX.out.symm,(aM _ _).after b1 (by simp)⟩
 |true=>
  rw[hc]at D;obtain⟨rfl,N,rfl,hN,b9,a9,c5,R,S⟩:=kH hc;have o:fR (N:Int) l1 (N:Int) l2 q st l4=((q==(l4.length:Int)&&bO N st)&&(decide (0<=fL (N:Int) l4 0)&&yR (N:Int) l1 l2 q st (fL (N:Int) l4 0))):=by unfold fR;rw[hc,Int.toNat_natCast];rfl
  have O:=fun W=>jW N st W (by omega);have Z:=Lib.hid D
  cases hq:q==(l4.length:Int) with
  |false=>
   have m4:(q != (l4.length:Int))=true:=by rw[bne,hq];rfl
   rw[hq]at o;have HX:=Lib.hid o;clear o hq O D b9 a9 c5 R S hc;go_enter Tryz.func139,Tryz.ntmps139;go_wp2_with fail;refine Z.out.mono ?_;rintro e Y ⟨rfl,b1⟩;have G:=(K0.keep b1).cell;go_wp2;go_ret;exact⟨aE HX.out.symm,(aM _ _).after b1 (by simp)⟩
  |true=>
   have m4:(q != (l4.length:Int))=false:=by rw[bne,hq];rfl
   rw[hq,Bool.true_and]at o
   cases hs:bO N st with
   |false=>
    rw[hs]at o O;have HX:=Lib.hid o;have e7:=Lib.hid O;clear o hq O D b9 a9 c5 R S hc hs;go_enter Tryz.func139,Tryz.ntmps139;go_wp2_with fail;refine Z.out.mono ?_;rintro e Y ⟨rfl,b1⟩;have G:=(K0.keep b1).cell;go_wp2_with (go_at_call 229;refine(e7.out _).mono ?_;rintro e w' ⟨rfl,rfl⟩);go_ret;exact⟨aE HX.out.symm,(aM _ _).after b1 (by simp)⟩
   |true=>
    rw[hs,Bool.true_and]at o;rw[hs]at O;obtain⟨Q,rfl,j1⟩:=qP hs;have f3:=tE N (by omega) l4 0 (Nat.two_pow_pos N);obtain⟨T,U⟩:∃T,T=fL (N:Int) l4 0:=⟨_,rfl⟩;rw[<-U]at o f3;have e0:T=-1->fR (N:Int) l1 (N:Int) l2 q (Q:Int) l4=false:=fun h=>by rw[o,h];rfl
    have c6:=Lib.hid e0;have j2:fL (N:Int) (l4.drop 0) 0=T:=by rw[List.drop_zero];exact U.symm
    have I:Q<l1.length:=by omega
    have i7:=uG N hN Q j1;have l9:(2:Nat)^N<=2^5:=Nat.pow_le_pow_right (by decide) hN;have i8:=Nat.two_pow_pos N;have K:=AZ (2^N-1) Q (by omega) (by omega);rw[i7]at K;have L:((2^N-1:Nat):Int)=(2:Int)^N-1:=by rw[Int.ofNat_sub i8];simp
    rw[L]at K;obtain⟨cm,f0⟩:∃cm,cm=2^N-1-Q:=⟨_,rfl⟩;rw[<-f0]at K;have a7:cm<l2.length:=by omega
    have F:∀s:Nat,T=(s:Int)->fR (N:Int) l1 (N:Int) l2 q (Q:Int) l4=((bH l1 s&&bH l2 s)&&l1.getD Q 0+l2.getD cm 0==q):=fun s h=>by
     rw[o,h];unfold yR;have e1:((2:Int)^N-1-(Q:Int)).toNat=cm:=by rw[<-L,f0];omega
     rw[Int.toNat_natCast,Int.toNat_natCast,Int.toNat_natCast,e1]
     rfl
    rw[aJ l1 Q I,aJ l2 cm a7]at F;have c7:=fun(W:World) (s:Nat) (g1:s<2^N) (h1:aD W (.slice a1 l1.length c1) l1) (h2:aD W (.slice a2 l2.length c2) l2)=>EZ W N _ l1 h1 h8 _ l2 h2 h9 hc hN b9 c5 s g1;have e9:=fun(W:World) (h:aD W (.slice a1 l1.length c1) l1)=>jM (N:Int) _ l1 W h (by omega) (by omega);simp only[Int.toNat_natCast]at e9;obtain⟨_,k9,j8,_,b3,_,c8,g7,p6⟩:=h1.view Tryz.prog 22 3 Tryz.underlying22 aG
    injection b3 with x1 _ x3
    subst x1 x3;obtain⟨_,l0,j9,_,b3,_,c9,g8,p7⟩:=h2.view Tryz.prog 22 3 Tryz.underlying22 aG
    injection b3 with x1 _ x3
    subst x1 x3;obtain⟨_,l5,k0,_,b3,_,d0,g9,m1⟩:=h4.view Tryz.prog 22 3 Tryz.underlying22 aG
    injection b3 with x1 _ x3
    subst x1 x3;have d1:=g7 Q I;have i1:=fun W=>c8 W Q I;have d2:=g8 cm a7;have i2:=fun W=>c9 W cm a7;have g1:=R Q I;have g2:=S cm a7;obtain⟨y1,j6⟩:∃y,y=l1[Q]:=⟨_,rfl⟩;obtain⟨y2,j7⟩:∃y,y=l2[cm]:=⟨_,rfl⟩;rw[<-j6]at d1 g1 F;rw[<-j7]at d2 g2 F;have q2:IntKind.i64.wrap (y1+y2)=y1+y2:=by rw[IntKind.wrap_i64];omega
    have e7:=Lib.hid O;have k6:=Lib.hid f3;have f7:=Lib.hid F;have f6:=Lib.hid c7;have k3:=Lib.hid e9;have k4:=Lib.hid g9;have f8:=Lib.hid d0;have k7:=Lib.hid j2;clear o hq O D b9 a9 c5 R S hc hs f3 F c7 e9 g7 g8 g9 c8 c9 d0 j2 e0 U j6 j7 I a7 i7 i8 L f0 j1 l9;go_enter Tryz.func139,Tryz.ntmps139;go_wp2_with fail;refine Z.out.mono ?_;rintro e Y ⟨rfl,b1⟩;have B1:Below w.heap.size w Y:=(aM _ _).after b1 (by simp);have K1:=K0.keep b1;have G:=K1.cell;go_wp2_with (go_at_call 229;refine(e7.out _).mono ?_;rintro e w' ⟨rfl,rfl⟩);go_loop [3,33] (fun uv iv=>∃(j u:Nat),j<=l4.length/\iv=.int .i64 j/\uv=.int .i64 (u:Int)/\u<64/\fL (N:Int) (l4.drop j) u=T) (fun _ iv=>l4.length-(intOf iv).toNat)
    case atStart=>exact⟨0,0,Nat.zero_le _,rfl,rfl,by omega,k7.out⟩
    case round=>
     obtain⟨j,u,hj,rfl,rfl,hu,hid⟩:=hrel
     by_cases hlt:j<l4.length
     ·have i6:(j:Int)<(l4.length:Int):=by omega
      have ck:Y.cell? ⟨l5,k0+j,none⟩=some (.int .i64 l4[j]):=aK k4.out m1 B1 (Nat.le_refl _) j hlt;have ik:=fun W=>f8.out W j hlt;have A:=FZ (N:Int) l4 j hlt u;rw[hid]at A;have j4:u<64:=hu;obtain⟨x,o⟩:∃x,x=l4[j]:=⟨_,rfl⟩;rw[<-o]at ck A;clear o;obtain⟨el,a8⟩:∃b,b=fX (N:Int) x:=⟨_,rfl⟩;have h5:∀W,Calls Tryz.prog 248 #[.int .i64 (N:Int),.int .i64 x] W fun e' w'=>e'=.returned (.bool el)/\W=w':=fun W=>by rw[a8];exact nK (N:Int) x W
      have e6:=Lib.hid h5;have M:sK (N:Int) u x=(el&&!aW u x.toNat):=by unfold sK;rw[a8]
      clear h5 hid
      cases el with
      |false=>
       have U:T=-1:=by rw[A,M];rfl
       have HT:=Lib.hid U;clear U A M a8;go_wp2_with (go_at_call 248;refine(e6.out _).mono ?_;rintro e w' ⟨rfl,rfl⟩);go_ret;exact⟨aE (c6.out HT.out).symm,B1⟩
      |true=>
       obtain⟨e,rfl,m3⟩:=sZ a8.symm;have h0:e<6:=by omega
       rw[Int.toNat_natCast]at A M;have m2:=dY (u:Int) e (by omega) (by omega);have b0:=gP u e;have j0:=eK u e (by omega) h0;have hp:=mW (e:Int) (by omega);rw[Int.toNat_natCast]at hp;have p8:=hp.1;have p9:=hp.2;have e5:=sF u j4 e h0;obtain⟨z,hz⟩:∃y,y=bR (u:Int) e:=⟨_,rfl⟩;rw[<-hz]at m2 b0;clear hz hp m3 a8
       cases h2:aW u e with
       |true=>
        have t2:(z==1)=true:=by rw[b0,h2]
        have U:T=-1:=by rw[A,M,h2];rfl
        have HT:=Lib.hid U;clear U A M h2 b0;go_wp2_with (go_at_call 248;refine(e6.out _).mono ?_;rintro e w' ⟨rfl,rfl⟩);go_ret;exact⟨aE (c6.out HT.out).symm,B1⟩
       |false=>
        have t2:(z==1)=false:=by rw[b0,h2]
        have U:fL (N:Int) (l4.drop (j+1)) (aP u e)=T:=by rw[A,M,h2];rfl
        obtain⟨u2,j3⟩:∃q,q=aP u e:=⟨_,rfl⟩;rw[<-j3]at j0 e5 U;have HT:=Lib.hid U;clear U A M h2 b0 j3;go_wp2_with (go_at_call 248;refine(e6.out _).mono ?_;rintro e w' ⟨rfl,rfl⟩);go_round
        case rel=>exact⟨j+1,u2,by omega,by go_num,rfl,e5,HT.out⟩
        case measure=>simp[intOf];omega
     ·have i6:¬(j:Int)<(l4.length:Int):=by omega
      have h7:j=l4.length:=by omega
      rw[h7,List.drop_length]at hid;have g5:T=(u:Int):=hid.symm;have j5:u<2^N:=by
       rcases k6.out with h|⟨s,hs,q0,_⟩
       ·omega
       ·have:s=u:=by omega
        omega
      have o:=f7.out u g5;have HX:=Lib.hid o;have k5:=Lib.hid (fun(W:World) h1 h2=>f6.out W u j5 h1 h2);have l8:=h1.below B1 (Nat.le_refl _);have p5:=h2.below B1 (Nat.le_refl _);have g3:=keep B1 d1;have g4:=keep B1 d2;have e1:∀z:Ext Y,z.w.cell? ⟨w.heap.size,1,none⟩=some (.int .i64 (N:Int)):=fun z=>z.cell (G 1);have e2:∀z:Ext Y,z.w.cell? ⟨w.heap.size,2,none⟩=some (.slice a1 l1.length c1):=fun z=>z.cell (G 2);have e4:∀z:Ext Y,z.w.cell? ⟨w.heap.size,4,none⟩=some (.slice a2 l2.length c2):=fun z=>z.cell (G 4);have e8:∀z:Ext Y,z.w.cell? ⟨w.heap.size,8,none⟩=some (.int .i64 (Q:Int)):=fun z=>z.cell (G 8);have f1:∀z:Ext Y,z.w.cell? ⟨k9,j8+Q,none⟩=some (.int .i64 y1):=fun z=>z.cell g3;have f2:∀z:Ext Y,z.w.cell? ⟨l0,j9+cm,none⟩=some (.int .i64 y2):=fun z=>z.cell g4;have QA:=Lib.hid (fun z:Ext Y=>k3.out z.w (z.ints l8));clear hid g5 o d1 d2 g3 g4 h7 j5;go_wp2_with fail;refine aO _ (by kernel_rfl) (by kernel_rfl) ?_
      repeat(first|go_big_quiet_skip|(go_big_quiet_want;go_big_quiet_op;first|go_big_quiet_on|(apply Exists.intro;refine⟨fun _=>?_,?_⟩;(go_at_call 127;exact aV (QA.out _));go_big_quiet_on)))
      refine wpQuiet_nil ?_;rintro w3 ⟨⟨w3,g6⟩,rfl⟩
      try dsimp only
      have B3:=B1.after g6 B1.size;have K3:=K1.keep g6;clear G e1 e2 e4 e8 f1 f2;have G:=K3.cell;go_wp2_with fail;refine(k5.out w3 (h1.below B3 (Nat.le_refl _)) (h2.below B3 (Nat.le_refl _))).mono ?_;rintro e w4 ⟨rfl,b4⟩;have B4:=B3.after b4 B3.size;have K4:=K3.keep b4;clear G;have G:=K4.cell
      cases h6:(bH l1 u&&bH l2 u) with
      |false=>
       rw[h6]at HX;go_wp2;go_ret;exact⟨aE HX.out.symm,B4⟩
      |true=>
       rw[h6]at HX;go_wp2;go_ret;exact⟨aE HX.out.symm,B4⟩
end
section
open Go.RowKit Go.G5
theorem VB{g:Int}{l:List Int}(h:bW g l=true):∃N:Nat,g=(N:Int)/\N<=6:=by
 obtain⟨o,z,_,_⟩:=jZ h;obtain⟨N,rfl⟩:=Int.eq_ofNat_of_zero_le o;exact⟨N,rfl,by omega⟩
theorem J7(w:World)(k n1:Int)(v1:Value)(l1:List Int)(h1:aD w v1 l1)(n2:Int)(v2:Value)(l2:List Int)(h2:aD w v2 l2)(n3:Int)(v3:Value)(l3:List Int)(h3:aD w v3 l3)(q st:Int)(v4:Value)(l4:List Int)(h4:aD w v4 l4):
  Calls Tryz.prog 142 #[clV k n1 v1 n2 v2 n3 v3 q st v4] w fun e w'=>e=.returned (.bool (dL n3 l3 q l4))/\Below w.heap.size w w':=by
 obtain⟨a1,c1,rfl⟩:=h1.shape;obtain⟨a2,c2,rfl⟩:=h2.shape;obtain⟨a3,c3,rfl⟩:=h3.shape;obtain⟨a4,c4,rfl⟩:=h4.shape;have K0:=aB.new w 49 (clC k n1 (.slice a1 l1.length c1) n2 (.slice a2 l2.length c2) n3 (.slice a3 l3.length c3) q st (.slice a4 l4.length c4));obtain⟨V0,a8⟩:∃V,V=(w.alloc (.cells (clC k n1 (.slice a1 l1.length c1) n2 (.slice a2 l2.length c2) n3 (.slice a3 l3.length c3) q st (.slice a4 l4.length c4)) 49)).alloc (.cells #[.int .i64 n3,.slice a3 l3.length c3] 27):=⟨_,rfl⟩;have U:Below w.heap.size w V0:=by rw[a8];exact cD _ _ _
 have Y:aB V0 w.heap.size 49 (clC k n1 (.slice a1 l1.length c1) n2 (.slice a2 l2.length c2) n3 (.slice a3 l3.length c3) q st (.slice a4 l4.length c4)):=by rw[a8];exact K0.alloc _
 have KF:aB V0 (w.heap.size+1) 27 #[.int .i64 n3,.slice a3 l3.length c3]:=by
  rw[a8];have:=aB.new (w.alloc (.cells (clC k n1 (.slice a1 l1.length c1) n2 (.slice a2 l2.length c2) n3 (.slice a3 l3.length c3) q st (.slice a4 l4.length c4)) 49)) 27 #[.int .i64 n3,.slice a3 l3.length c3];simpa using this
 have f6:=kR n3 l3 _ V0 (h3.below U (Nat.le_refl _));have A:=Lib.hid a8;have b8:∀V,V=V0->Calls Tryz.prog 90 #[.agg #[.int .i64 n3,.slice a3 l3.length c3]] V fun e w'=>e=.returned (.bool (bW n3 l3))/\Below V.heap.size V w':=fun V h=>by rw[h];exact f6
 have O:=Lib.hid b8;clear f6 b8 a8 K0
 cases Z:bW n3 l3 with
 |false=>
  have I:dL n3 l3 q l4=false:=by unfold dL;rw[Z];rfl
  rw[Z]at O;have HX:=Lib.hid I;clear I Z;go_enter Tryz.func142,Tryz.ntmps142;go_wp2_with fail;refine(O.out _ A.out.symm).mono ?_;rintro e w1 ⟨rfl,o⟩;rw[A.out.symm]at o;have N:=U.after o U.size;have K1:=Y.keep o;have G:=K1.cell;have K:=KF.keep o;have F:=K.cell;go_wp2;go_ret;exact⟨aE HX.out.symm,N⟩
 |true=>
  rw[Z]at O;have hm:=MP Z
  by_cases M:q=1
  ·have I:dL n3 l3 q l4=fC n3 l3 l4:=by unfold dL;rw[Z,if_pos M];rfl
   have t1:(q==1)=true:=by rw[M];rfl
   have g0:=fun W (g3:aD W (.slice a3 l3.length c3) l3) (g4:aD W (.slice a4 l4.length c4) l4)=>OH W n3 _ _ l3 l4 g3 g4;have HX:=Lib.hid I;have i1:=Lib.hid g0;clear I Z hm M g0;go_enter Tryz.func142,Tryz.ntmps142;go_wp2_with fail;refine(O.out _ A.out.symm).mono ?_;rintro e w1 ⟨rfl,o⟩;rw[A.out.symm]at o;have N:=U.after o U.size;have K1:=Y.keep o;have G:=K1.cell;have K:=KF.keep o;have F:=K.cell;have j0:=h3.below N (Nat.le_refl _);have j1:=h4.below N (Nat.le_refl _);go_wp2_with (go_at_call 256;refine(i1.out _ j0 j1).mono ?_;rintro e w' ⟨rfl,rfl⟩);go_ret;exact⟨aE HX.out.symm,N⟩
  ·have t1:(q==1)=false:=by simpa using M
   have I:dL n3 l3 q l4=((q==0&&decide (l3.length<=6))&&wP l3 l4):=by unfold dL;rw[Z,if_neg M];rfl
   cases Q:q==0 with
   |false=>
    have t0:(q != 0)=true:=by rw[bne,Q];rfl
    rw[Q]at I;have HX:=Lib.hid I;clear I Z hm M Q;go_enter Tryz.func142,Tryz.ntmps142;go_wp2_with fail;refine(O.out _ A.out.symm).mono ?_;rintro e w1 ⟨rfl,o⟩;rw[A.out.symm]at o;have N:=U.after o U.size;have K1:=Y.keep o;have G:=K1.cell;have K:=KF.keep o;have F:=K.cell;go_wp2;go_ret;exact⟨aE HX.out.symm,N⟩
   |true=>
    have t0:(q != 0)=false:=by rw[bne,Q];rfl
    rw[Q,Bool.true_and]at I
    by_cases h6:l3.length<=6
    ·have t6:¬(6:Int)<(l3.length:Int):=by omega
     rw[decide_eq_true h6,Bool.true_and]at I;have b5:=tE l3.length h6 l4 0 (Nat.two_pow_pos _);obtain⟨T,R⟩:∃T,T=fL (l3.length:Int) l4 0:=⟨_,rfl⟩;rw[<-R]at b5;have b4:dL n3 l3 q l4=(decide (0<T)&&decide (cK (bD l3 T.toNat l3.length)<cK T)):=by rw[I,R];rfl
     have b0:T=-1->dL n3 l3 q l4=false:=fun h=>by rw[b4,h];rfl
     by_cases j6:1<=l4.length
     ·have tl:¬(l4.length:Int)<1:=by omega
      have g5:fL (l3.length:Int) (l4.drop 0) 0=T:=by rw[List.drop_zero];exact R.symm
      have j2:(2:Nat)^l3.length<=2^6:=Nat.pow_le_pow_right (by decide) h6;have b7:∀u:Nat,T=(u:Int)->u<64->dL n3 l3 q l4=decide (0<(aY u:Int)-cK (bD l3 u l3.length)):=fun u h hu=>by
       rw[b4,h,Int.toNat_natCast];have hp:cK (u:Int)=(aY u:Int):=by unfold cK;rw[Int.toNat_natCast]
       have k1:0<u:=by
        rcases b5 with h'|⟨s,hs,_,g1⟩
        ·omega
        ·have e:s=u:=by omega
         rw[e,dR]at g1
         by_cases h0:u=0
         ·rw[h0,dR]at g1;omega
         ·omega
       rw[decide_eq_true (show(0:Int)<(u:Int) by omega),Bool.true_and,hp];rw[Bool.eq_iff_iff,decide_eq_true_eq,decide_eq_true_eq];omega
      have f8:=fun(W:World) (u:Nat) (hu:u<64) (g:aD W (.slice a3 l3.length c3) l3)=>AU l3 _ W g hm h6 u hu;obtain⟨_,i7,g9,_,j7,_,b9,f3,j3⟩:=h4.view Tryz.prog 22 3 Tryz.underlying22 aG
      injection j7 with x1 _ x3
      subst x1 x3;have b6:=Lib.hid b0;have e7:=Lib.hid b7;have h8:=Lib.hid f8;have h7:=Lib.hid f3;have e8:=Lib.hid b9;have i6:=Lib.hid g5;clear I Z hm M Q b5 R b4 b0 g5 j2 b7 f8 f3 b9;go_enter Tryz.func142,Tryz.ntmps142;go_wp2_with fail;refine(O.out _ A.out.symm).mono ?_;rintro e w1 ⟨rfl,o⟩;rw[A.out.symm]at o;have N:=U.after o U.size;have K1:=Y.keep o;have G:=K1.cell;have K:=KF.keep o;have F:=K.cell;go_wp2_with fail;go_loop [4,40] (fun uv iv=>∃(j u:Nat),j<=l4.length/\iv=.int .i64 j/\uv=.int .i64 (u:Int)/\u<64/\fL (l3.length:Int) (l4.drop j) u=T) (fun _ iv=>l4.length-(intOf iv).toNat)
      case atStart=>exact⟨0,0,Nat.zero_le _,rfl,rfl,by omega,i6.out⟩
      case round=>
       obtain⟨j,u,hj,rfl,rfl,hu,hid⟩:=hrel
       by_cases hlt:j<l4.length
       ·have f9:(j:Int)<(l4.length:Int):=by omega
        have ck:w1.cell? ⟨i7,g9+j,none⟩=some (.int .i64 l4[j]):=aK h7.out j3 N (Nat.le_refl _) j hlt;have ik:=fun W=>e8.out W j hlt;have L:=FZ (l3.length:Int) l4 j hlt u;rw[hid]at L;have g7:u<64:=hu;obtain⟨x,I⟩:∃x,x=l4[j]:=⟨_,rfl⟩;rw[<-I]at ck L;clear I;obtain⟨el,a9⟩:∃b,b=fX (l3.length:Int) x:=⟨_,rfl⟩;have f5:∀W,Calls Tryz.prog 248 #[.int .i64 (l3.length:Int),.int .i64 x] W fun e' w'=>e'=.returned (.bool el)/\W=w':=fun W=>by rw[a9];exact nK (l3.length:Int) x W
        have c7:=Lib.hid f5;have S:sK (l3.length:Int) u x=(el&&!aW u x.toNat):=by unfold sK;rw[a9]
        clear f5 hid
        cases el with
        |false=>
         have R:T=-1:=by rw[L,S];rfl
         have HT:=Lib.hid R;clear R L S a9;go_wp2_with (go_at_call 248;refine(c7.out _).mono ?_;rintro e w' ⟨rfl,rfl⟩);go_ret;exact⟨aE (b6.out HT.out).symm,N⟩
        |true=>
         obtain⟨e,rfl,j5⟩:=sZ a9.symm;have f4:e<6:=by omega
         rw[Int.toNat_natCast]at L S;have j4:=dY (u:Int) e (by omega) (by omega);have b3:=gP u e;have g2:=eK u e (by omega) f4;have hp:=mW (e:Int) (by omega);rw[Int.toNat_natCast]at hp;have k9:=hp.1;have l0:=hp.2;have c6:=sF u g7 e f4;obtain⟨z,hz⟩:∃y,y=bR (u:Int) e:=⟨_,rfl⟩;rw[<-hz]at j4 b3;clear hz hp j5 a9
         cases h2:aW u e with
         |true=>
          have t2:(z==1)=true:=by rw[b3,h2]
          have R:T=-1:=by rw[L,S,h2];rfl
          have HT:=Lib.hid R;clear R L S h2 b3;go_wp2_with (go_at_call 248;refine(c7.out _).mono ?_;rintro e w' ⟨rfl,rfl⟩);go_ret;exact⟨aE (b6.out HT.out).symm,N⟩
         |false=>
          have t2:(z==1)=false:=by rw[b3,h2]
          have R:fL (l3.length:Int) (l4.drop (j+1)) (aP u e)=T:=by rw[L,S,h2];rfl
          obtain⟨u2,g6⟩:∃q,q=aP u e:=⟨_,rfl⟩;rw[<-g6]at g2 c6 R;have HT:=Lib.hid R;clear R L S h2 b3 g6;go_wp2_with (go_at_call 248;refine(c7.out _).mono ?_;rintro e w' ⟨rfl,rfl⟩);go_round
          case rel=>exact⟨j+1,u2,by omega,by go_num,rfl,c6,HT.out⟩
          case measure=>simp[intOf];omega
       ·have f9:¬(j:Int)<(l4.length:Int):=by omega
        have f7:j=l4.length:=by omega
        rw[f7,List.drop_length]at hid;have f2:T=(u:Int):=hid.symm;have I:=e7.out u f2 hu;have c8:=h8.out w1 u hu (h3.below N (Nat.le_refl _));obtain⟨D,hD⟩:∃D,D=(aY u:Int)-cK (bD l3 u l3.length):=⟨_,rfl⟩;rw[<-hD]at I c8;have HX:=Lib.hid I;have h9:=Lib.hid c8;clear hid f2 I c8 hD f7;go_wp2_with (go_at_call 257;refine h9.out.mono ?_;rintro e w' ⟨rfl,rfl⟩);go_ret;exact⟨aE HX.out.symm,N⟩
     ·have tl:(l4.length:Int)<1:=by omega
      have c5:l4=[]:=List.eq_nil_of_length_eq_zero (by omega);have g8:dL n3 l3 q l4=false:=by rw[b4,R,c5];rfl
      have HX:=Lib.hid g8;clear I Z hm M Q b5 R b4 b0 c5 g8 j6;go_enter Tryz.func142,Tryz.ntmps142;go_wp2_with fail;refine(O.out _ A.out.symm).mono ?_;rintro e w1 ⟨rfl,o⟩;rw[A.out.symm]at o;have N:=U.after o U.size;have K1:=Y.keep o;have G:=K1.cell;have K:=KF.keep o;have F:=K.cell;go_wp2;go_ret;exact⟨aE HX.out.symm,N⟩
    ·have t6:(6:Int)<(l3.length:Int):=by omega
     rw[decide_eq_false h6,Bool.false_and]at I;have HX:=Lib.hid I;clear I Z hm M Q h6;go_enter Tryz.func142,Tryz.ntmps142;go_wp2_with fail;refine(O.out _ A.out.symm).mono ?_;rintro e w1 ⟨rfl,o⟩;rw[A.out.symm]at o;have N:=U.after o U.size;have K1:=Y.keep o;have G:=K1.cell;have K:=KF.keep o;have F:=K.cell;go_wp2;go_ret;exact⟨aE HX.out.symm,N⟩
theorem E7(w:World)(k n1:Int)(v1:Value)(l1:List Int)(h1:aD w v1 l1)(n2:Int)(v2:Value)(l2:List Int)(h2:aD w v2 l2)(n3:Int)(v3:Value)(l3:List Int)(h3:aD w v3 l3)(q st:Int)(v4:Value)(l4:List Int)(h4:aD w v4 l4)(S:l1.length<=1048576)(Z:l2.length<=1048576)(a6:l3.length<=1048576):
  Calls Tryz.prog 27 #[clV k n1 v1 n2 v2 n3 v3 q st v4] w fun e w'=>e=.returned (.bool (fQ k n1 l1 n2 l2 n3 l3 q st l4))/\Below w.heap.size w w':=by
 obtain⟨Y,c1,rfl⟩:=h1.shape;obtain⟨a2,c2,rfl⟩:=h2.shape;obtain⟨a3,c3,rfl⟩:=h3.shape;obtain⟨a4,c4,rfl⟩:=h4.shape;have K0:=aB.new w 49 (clC k n1 (.slice Y l1.length c1) n2 (.slice a2 l2.length c2) n3 (.slice a3 l3.length c3) q st (.slice a4 l4.length c4));have N:=h1.alloc (.cells (clC k n1 (.slice Y l1.length c1) n2 (.slice a2 l2.length c2) n3 (.slice a3 l3.length c3) q st (.slice a4 l4.length c4)) 49);have O:=h2.alloc (.cells (clC k n1 (.slice Y l1.length c1) n2 (.slice a2 l2.length c2) n3 (.slice a3 l3.length c3) q st (.slice a4 l4.length c4)) 49);have Q:=h3.alloc (.cells (clC k n1 (.slice Y l1.length c1) n2 (.slice a2 l2.length c2) n3 (.slice a3 l3.length c3) q st (.slice a4 l4.length c4)) 49);have R:=h4.alloc (.cells (clC k n1 (.slice Y l1.length c1) n2 (.slice a2 l2.length c2) n3 (.slice a3 l3.length c3) q st (.slice a4 l4.length c4)) 49);have m1:=LG _ k n1 _ l1 N n2 _ l2 O n3 _ l3 Q q st _ l4 R;have m2:=LQ _ k n1 _ l1 N n2 _ l2 O n3 _ l3 Q q st _ l4 R;have m3:=GI _ k n1 _ l1 N n2 _ l2 O n3 _ l3 Q q st _ l4 R S Z;have m4:=KL _ k n1 _ l1 N n2 _ l2 O n3 _ l3 Q q st _ l4 R S Z;have m5:=L3 _ k n1 _ l1 N n2 _ l2 O n3 _ l3 Q q st _ l4 R S;have m6:=LL _ k n1 _ l1 N n2 _ l2 O n3 _ l3 Q q st _ l4 R a6;have m7:=J7 _ k n1 _ l1 N n2 _ l2 O n3 _ l3 Q q st _ l4 R;have M1:=Lib.hid m1;have M2:=Lib.hid m2;have M3:=Lib.hid m3;have M4:=Lib.hid m4;have M5:=Lib.hid m5;have M6:=Lib.hid m6;have M7:=Lib.hid m7;clear m1 m2 m3 m4 m5 m6 m7
 by_cases A:k=1
 ·subst A
  have o:=Lib.hid (show fQ 1 n1 l1 n2 l2 n3 l3 q st l4=gN n1 l1 q st l4 from rfl);go_enter Tryz.func27,Tryz.ntmps27;go_wp2_with fail;refine M1.out.mono ?_;rintro e U ⟨rfl,z⟩;go_wp2;go_ret;exact⟨aE o.out.symm,(aM _ _).after z (by simp)⟩
 by_cases D:k=2
 ·subst D
  have o:=Lib.hid (show fQ 2 n1 l1 n2 l2 n3 l3 q st l4=dU n1 l1 l4 from rfl);go_enter Tryz.func27,Tryz.ntmps27;go_wp2_with fail;refine M2.out.mono ?_;rintro e U ⟨rfl,z⟩;go_wp2;go_ret;exact⟨aE o.out.symm,(aM _ _).after z (by simp)⟩
 by_cases F:k=3
 ·subst F
  have o:=Lib.hid (show fQ 3 n1 l1 n2 l2 n3 l3 q st l4=dG n1 l1 n2 l2 q l4 from rfl);go_enter Tryz.func27,Tryz.ntmps27;go_wp2_with fail;refine M3.out.mono ?_;rintro e U ⟨rfl,z⟩;go_wp2;go_ret;exact⟨aE o.out.symm,(aM _ _).after z (by simp)⟩
 by_cases I:k=4
 ·subst I
  have o:=Lib.hid (show fQ 4 n1 l1 n2 l2 n3 l3 q st l4=fR n1 l1 n2 l2 q st l4 from rfl);go_enter Tryz.func27,Tryz.ntmps27;go_wp2_with fail;refine M4.out.mono ?_;rintro e U ⟨rfl,z⟩;go_wp2;go_ret;exact⟨aE o.out.symm,(aM _ _).after z (by simp)⟩
 by_cases K:k=5
 ·subst K
  have o:=Lib.hid (show fQ 5 n1 l1 n2 l2 n3 l3 q st l4=gX n1 l1 q st from rfl);go_enter Tryz.func27,Tryz.ntmps27;go_wp2_with fail;refine M5.out.mono ?_;rintro e U ⟨rfl,z⟩;go_wp2;go_ret;exact⟨aE o.out.symm,(aM _ _).after z (by simp)⟩
 by_cases L:k=6
 ·subst L
  have o:=Lib.hid (show fQ 6 n1 l1 n2 l2 n3 l3 q st l4=iC n3 l3 q l4 from rfl);go_enter Tryz.func27,Tryz.ntmps27;go_wp2_with fail;refine M6.out.mono ?_;rintro e U ⟨rfl,z⟩;go_wp2;go_ret;exact⟨aE o.out.symm,(aM _ _).after z (by simp)⟩
 by_cases M:k=7
 ·subst M
  have o:=Lib.hid (show fQ 7 n1 l1 n2 l2 n3 l3 q st l4=dL n3 l3 q l4 from rfl);go_enter Tryz.func27,Tryz.ntmps27;go_wp2_with fail;refine M7.out.mono ?_;rintro e U ⟨rfl,z⟩;go_wp2;go_ret;exact⟨aE o.out.symm,(aM _ _).after z (by simp)⟩
 have hx:fQ k n1 l1 n2 l2 n3 l3 q st l4=false:=by unfold fQ;rw[if_neg A,if_neg D,if_neg F,if_neg I,if_neg K,if_neg L,if_neg M]
 have o:=Lib.hid hx;have s1:(k==1)=false:=by simpa using A
 have s2:(k==2)=false:=by simpa using D
 have s3:(k==3)=false:=by simpa using F
 have s4:(k==4)=false:=by simpa using I
 have s5:(k==5)=false:=by simpa using K
 have s6:(k==6)=false:=by simpa using L
 have s7:(k==7)=false:=by simpa using M
 clear hx A D F I K L M;go_enter Tryz.func27,Tryz.ntmps27;go_wp2;go_ret;exact⟨aE o.out.symm,aM _ _⟩
end
end Go.Proofs.YtipejodijbjpcaaGreatDoor
