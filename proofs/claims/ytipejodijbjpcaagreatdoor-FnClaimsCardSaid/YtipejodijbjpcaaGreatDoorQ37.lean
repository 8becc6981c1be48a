/- Lemmas for CardClaims, part 37 of 52. No condition. -/
import Derived.Test.YtipejodijbjpcaaGreatDoorQ07
import Derived.Test.YtipejodijbjpcaaGreatDoorQ21
import Derived.Test.YtipejodijbjpcaaGreatDoorQ31
import Derived.Test.YtipejodijbjpcaaGreatDoorQ32
import Derived.Test.YtipejodijbjpcaaGreatDoorQ33
import Derived.Test.YtipejodijbjpcaaGreatDoorQ35
import Derived.Deep.RegionHeld3
set_option maxRecDepth 100000
set_option maxHeartbeats 64000000
namespace Go.Proofs.YtipejodijbjpcaaGreatDoor
section
open Go.RowKit Go.G5
theorem QR(w:World)(n1:Int)(v1:Value)(l1:List Int)(h1:aD w v1 l1)(n2:Int)(v2:Value)(l2:List Int)(h2:aD w v2 l2)(n3:Int)(v3:Value)(l3:List Int)(h3:aD w v3 l3)(q st:Int)(v4:Value)(l4:List Int)(h4:aD w v4 l4)(p7:l1.length<=1048576)(p8:l2.length<=1048576):
  Calls Tryz.prog 55 #[clV 3 n1 v1 n2 v2 n3 v3 q st v4] w fun e w'=>e=.returned (.bool (dG n1 l1 n2 l2 q l4))/\Below w.heap.size w w':=by
 obtain⟨a1,c1,rfl⟩:=h1.shape;obtain⟨a2,c2,rfl⟩:=h2.shape;obtain⟨a3,c3,rfl⟩:=h3.shape;obtain⟨a4,c4,rfl⟩:=h4.shape;have K0:=aB.new w 49 (clC 3 n1 (.slice a1 l1.length c1) n2 (.slice a2 l2.length c2) n3 (.slice a3 l3.length c3) q st (.slice a4 l4.length c4));obtain⟨V0,a9⟩:∃V,V=(w.alloc (.cells (clC 3 n1 (.slice a1 l1.length c1) n2 (.slice a2 l2.length c2) n3 (.slice a3 l3.length c3) q st (.slice a4 l4.length c4)) 49)).alloc (.cells #[.int .i64 n1,.slice a1 l1.length c1] 32):=⟨_,rfl⟩;have U:Below w.heap.size w V0:=by rw[a9];exact cD _ _ _
 have a8:aB V0 w.heap.size 49 (clC 3 n1 (.slice a1 l1.length c1) n2 (.slice a2 l2.length c2) n3 (.slice a3 l3.length c3) q st (.slice a4 l4.length c4)):=by rw[a9];exact K0.alloc _
 have KF:aB V0 (w.heap.size+1) 32 #[.int .i64 n1,.slice a1 l1.length c1]:=by
  rw[a9];have:=aB.new (w.alloc (.cells (clC 3 n1 (.slice a1 l1.length c1) n2 (.slice a2 l2.length c2) n3 (.slice a3 l3.length c3) q st (.slice a4 l4.length c4)) 49)) 32 #[.int .i64 n1,.slice a1 l1.length c1];simpa using this
 have D:=Lib.hid a9;have g1:=h1.below U (Nat.le_refl _);have g2:=h2.below U (Nat.le_refl _);have g3:=h3.below U (Nat.le_refl _);have g4:=h4.below U (Nat.le_refl _);clear a9 K0;have e4:∀V,V=V0->Calls Tryz.prog 129 #[.agg #[.int .i64 n2,.slice a2 l2.length c2]] V fun e w'=>e=.returned (.bool (aN n2 l2))/\Below V.heap.size V w':=fun V h=>by rw[h];exact cI n2 l2 _ V0 g2
 have M:=Lib.hid e4;clear e4
 cases hf:aN n2 l2 with
 |false=>
  have o:dG n1 l1 n2 l2 q l4=false:=by unfold dG bP;rw[hf];rfl
  rw[hf]at M;have HX:=Lib.hid o;clear o hf;go_enter Tryz.func55,Tryz.ntmps55;go_wp2_with fail;refine(M.out _ D.out.symm).mono ?_;rintro e w1 ⟨rfl,z⟩;rw[D.out.symm]at z;have L:=U.after z U.size;have Z:=a8.keep z;have A:=KF.keep z;have G:=Z.cell;have F:=A.cell;go_wp2;go_ret;exact⟨aE HX.out.symm,L⟩
 |true=>
  rw[hf]at M
  cases hn:n2==n1 with
  |false=>
   have o:dG n1 l1 n2 l2 q l4=false:=by unfold dG;rw[hn,Bool.and_false];rfl
   have q0:(n2 != n1)=true:=by rw[bne,hn];rfl
   have HX:=Lib.hid o;clear o hf hn;go_enter Tryz.func55,Tryz.ntmps55;go_wp2_with fail;refine(M.out _ D.out.symm).mono ?_;rintro e w1 ⟨rfl,z⟩;rw[D.out.symm]at z;have L:=U.after z U.size;have Z:=a8.keep z;have A:=KF.keep z;have G:=Z.cell;have F:=A.cell;go_wp2;go_ret;exact⟨aE HX.out.symm,L⟩
  |true=>
   have k0:n2=n1:=by simpa using hn
   subst k0;have q0:(n2 != n2)=false:=by simp
   have K:=fun W (h:aD W (.slice a2 l2.length c2) l2)=>kJ n2 l2 _ W h;have O:=fun W (h:aD W (.slice a2 l2.length c2) l2)=>OY n2 l2 _ W h p8
   cases hg:bP n2 l2 with
   |false=>
    have o:dG n2 l1 n2 l2 q l4=false:=by unfold dG;rw[hg];rfl
    simp only[hg]at K;have HX:=Lib.hid o;have a6:=Lib.hid K;clear o hf hn hg K O;go_enter Tryz.func55,Tryz.ntmps55;go_wp2_with fail;refine(M.out _ D.out.symm).mono ?_;rintro e w1 ⟨rfl,z⟩;rw[D.out.symm]at z;have L:=U.after z U.size;have Z:=a8.keep z;have A:=KF.keep z;have G:=Z.cell;have F:=A.cell;go_wp2_with fail;refine(a6.out w1 (h2.below L (Nat.le_refl _))).mono ?_;rintro e w2 ⟨rfl,b2⟩;go_wp2;go_ret;exact⟨aE HX.out.symm,L.after b2 L.size⟩
   |true=>
    simp only[hg]at K
    cases hm:iW n2 l2 with
    |false=>
     have o:dG n2 l1 n2 l2 q l4=false:=by unfold dG;rw[hg,hm];rfl
     simp only[hm]at O;have HX:=Lib.hid o;have a6:=Lib.hid K;have f3:=Lib.hid O;clear o hf hn hg K hm O;go_enter Tryz.func55,Tryz.ntmps55;go_wp2_with fail;refine(M.out _ D.out.symm).mono ?_;rintro e w1 ⟨rfl,z⟩;rw[D.out.symm]at z;have L:=U.after z U.size;have Z:=a8.keep z;have A:=KF.keep z;have G:=Z.cell;have F:=A.cell;go_wp2_with fail;refine(a6.out w1 (h2.below L (Nat.le_refl _))).mono ?_;rintro e w2 ⟨rfl,b2⟩;have B2:=L.after b2 L.size;have G2:=(Z.keep b2).cell;clear G;go_wp2_with fail;refine(f3.out w2 (h2.below B2 (Nat.le_refl _))).mono ?_;rintro e w3 ⟨rfl,b3⟩;go_wp2;go_ret;exact⟨aE HX.out.symm,B2.after b3 B2.size⟩
    |true=>
     simp only[hm]at O;have o:dG n2 l1 n2 l2 q l4=(fE n2 l1 (eW n2 l2) l4&&q==cH (eW n2 l2) l4 (eW n2 l2).length):=by unfold dG;rw[hg,hm,hn];rfl
     obtain⟨N,rfl,hN,j7,k3,j6⟩:=bN hf;have I:=uA N l2;have R:=RN hf;have b0:fE (N:Int) l1 (eW (N:Int) l2) l4=true->l4.length=N/\∀k,(hk:k<l4.length)->-5000<=l4[k]/\l4[k]<=5000:=fun hb=>by
      have b0:dZ (N:Int) l1 l4=true:=by
       unfold fE at hb;simp only[Bool.and_eq_true]at hb;exact uJ hb.1.2
      obtain⟨t9,q3⟩:=iV (jQ b0).2;exact⟨by omega,q3⟩
     rw[I]at o;have Y:=fun W (u:Value) (h:aD W (.slice a1 l1.length c1) l1) (hu:aD W u (eW (N:Int) l2)) (h':aD W (.slice a4 l4.length c4) l4)=>RE W (N:Int) _ l1 h p7 u (eW (N:Int) l2) hu _ l4 h';obtain⟨bb,f5⟩:∃b,b=fE (N:Int) l1 (eW (N:Int) l2) l4:=⟨_,rfl⟩;simp only[<-f5]at Y;rw[<-f5]at o b0;obtain⟨_,c6,f0,_,b7,_,e6,j1,i8⟩:=h2.view Tryz.prog 22 3 Tryz.underlying22 aG
     injection b7 with x1 _ x3
     subst x1 x3;obtain⟨_,s0,r5,_,b7,_,e7,j2,o8⟩:=h4.view Tryz.prog 22 3 Tryz.underlying22 aG
     injection b7 with x1 _ x3
     subst x1 x3;have HX:=Lib.hid o;have a6:=Lib.hid K;have f3:=Lib.hid O;have l5:=Lib.hid Y;have l7:=Lib.hid b0;have m8:=Lib.hid R;have m9:=Lib.hid I;have m1:=Lib.hid j6;have m3:=Lib.hid j7;have l8:=Lib.hid j1;have g6:=Lib.hid e6;have l9:=Lib.hid j2;have g7:=Lib.hid e7;clear o hf hn hg K hm O Y b0 R I j6 j7 k3 j1 e6 j2 e7 f5;go_enter Tryz.func55,Tryz.ntmps55;go_wp2_with fail;refine(M.out _ D.out.symm).mono ?_;rintro e w1 ⟨rfl,z⟩;rw[D.out.symm]at z;have L:=U.after z U.size;have Z:=a8.keep z;have A:=KF.keep z;have G:=Z.cell;have F:=A.cell;go_wp2_with fail;refine(a6.out w1 (h2.below L (Nat.le_refl _))).mono ?_;rintro e w2 ⟨rfl,b2⟩;have B2:=L.after b2 L.size;have K2:=Z.keep b2;have h5:=A.keep b2;clear G F;have G:=K2.cell;go_wp2_with fail;refine(f3.out w2 (h2.below B2 (Nat.le_refl _))).mono ?_;rintro e w3 ⟨rfl,b3⟩;have B3:=B2.after b3 B2.size;have K3:=K2.keep b3;have h6:=h5.keep b3;have o0:=aC.lit0 (E:=3) (B:=w3.heap.size) w3 (Nat.le_refl _);clear G K2 h5 Z A B2 L b2 b3;have G:=K3.cell;have F:=h6.cell;go_wp2_with fail;go_loopw [5,7] (fun ov iv wr=>∃(j:Nat) (p:Option Addr) (r m:Nat),j<=N/\iv=.int .i64 j/\ov=.slice p r m/\aC 3 w3.heap.size wr (.slice p r m) (eW (j:Int) l2)/\Below w3.heap.size w3 wr) (fun _ iv _=>N-(intOf iv).toNat)
     case atStart=>exact⟨0,_,_,_,Nat.zero_le _,rfl,rfl,o0,aM _ _⟩
     case round=>
      obtain⟨j,p,r,m,hj,rfl,rfl,own,Bw⟩:=hrel;have a7:=Lib.hid own;have B4:=B3.after Bw B3.size;have K4:=K3.keep Bw;have h7:=h6.keep Bw;clear own o0 G F;have G:=K4.cell;have F:=h7.cell;have zw:=Bw.size
      by_cases hlt:j<N
      ·have j8:(j:Int)<(N:Int):=by omega
       have Q:2^j<l2.length:=by rw[m3.out];exact Nat.pow_lt_pow_right (by decide) hlt
       have ck:=aK l8.out i8 B4 (Nat.le_refl _) (2^j) Q;have ik:∀W,(Instr.indexAt 22 (.slice a2 l2.length c2) (.int .i64 ((2:Int)^j))).run Tryz.prog W=.ok (.pointer (some ⟨c6,f0+2^j,none⟩)) W:=fun W=>by have:=g6.out W (2^j) Q;simpa using this
       have p0:=m1.out (2^j) Q;have hs:=DZ l2 j;rw[aJ l2 (2^j) Q]at hs;have I:=uA j l2;obtain⟨y,hy⟩:∃y,y=l2[2^j]:=⟨_,rfl⟩;rw[<-hy]at ck p0 hs;have hp:=bJ j 5 (by omega);have q2:=hp.1;have t5:=hp.2;simp at q2;have t8:IntKind.i64.wrap ((2:Int)^j)=2^j:=by rw[IntKind.wrap_i64];omega
       have HS:=Lib.hid hs;have i1:(eW (j:Int) l2).length + [y].length<=17592186044416:=by simp;omega
       have m4:=Lib.hid i1;have i7:bA y:=⟨by omega,by omega⟩;have o3:=Lib.hid i7;have p1:wr.cell? ⟨w.heap.size,4,none⟩=some (.slice a2 l2.length c2):=G 4;have j9:w.heap.size<w3.heap.size:=K3.lt;have j0:c6<w3.heap.size:=by
        have p9:l2≠[]:=fun e=>by rw[e]at Q;simp at Q
        have:=i8 p9;have:=B3.size;omega
       obtain⟨po,k2⟩:∃po,po=f0+2^j:=⟨_,rfl⟩;rw[<-k2]at ck ik;clear hy hs hp I Q i1 i7 k2;go_wp2_with fail;go_region_held3 (fun w'=>w'.cell? ⟨w.heap.size,4,none⟩=some (.slice a2 l2.length c2)/\w'.cell? ⟨c6,po,none⟩=some (.int .i64 y)) (go_keep)
        (first
         |(refine cV rfl _ _ _ rfl 3 Tryz.underlying22 aG w3.heap.size (.slice p r m) (eW (j:Int) l2) rfl (.slice (some ⟨_,0,none⟩) 1 1) [y] rfl ?_ ?_ m4.out wr ?_ zw ?_;(first|(with_reducible exact(a7.out.alloc _).drew')|(with_reducible exact a7.out.drew'.alloc _));(refine aD.one ?_ o3.out;first|(with_reducible exact uX _ _ _)|(with_reducible exact aT _ _ _ _ _ rfl));(first|(exact((aM wr _).drew).mono zw)|(exact((Below.refl wr.heap.size wr).drew.alloc (Nat.le_refl _) _).mono zw));(intro v2 w2 o2 b2 _;have t6:=(b2.cell (p:=⟨w.heap.size,4,none⟩) j9).trans p1;have k3:=(b2.cell (p:=⟨c6,po,none⟩) j0).trans ck)))
       all_goals
        obtain⟨p2,r2,m2,rfl⟩:=o2.shape3;have Bz:=Bw.trans b2;go_wp2;go_roundw
        case rel=>exact⟨j+1,p2,r2,m2,by omega,by go_num,rfl,by rw[HS.out];exact o2,Bz⟩
        case measure=>simp[intOf];omega
      ·have j8:¬(j:Int)<(N:Int):=by omega
       have p6:j=N:=by omega
       subst p6;have hX:=a7.out.ints;have k4:r=(eW (j:Int) l2).length:=hX.capLe.1;have Y:=l5.out wr _ (h1.below B4 (Nat.le_refl _)) hX (h4.below B4 (Nat.le_refl _));have l6:=Lib.hid Y;have m6:=Lib.hid k4;clear Y k4;go_wp2_with fail;refine l6.out.mono ?_;rintro e w5 ⟨rfl,b5⟩;have B5:=B4.after b5 B4.size;have K5:=K4.keep b5;have o6:=h7.keep b5;have c7:=hX.keep b5;clear G F hX;have G:=K5.cell;have F:=o6.cell
       cases bb with
       |false=>
        go_wp2;go_ret;exact⟨aE HX.out.symm,B5⟩
       |true=>
        have f6:=l7.out rfl;obtain⟨X,f4⟩:∃X,X=eW (j:Int) l2:=⟨_,rfl⟩;have I:=m9.out;have R:=m8.out;have o:=HX.out;rw[<-f4]at c7 I R o;rw[show r=X.length by rw[m6.out,f4]]at c7 ⊢;obtain⟨_,bx,r6,_,b7,_,e8,j3,s8⟩:=c7.view Tryz.prog 22 3 Tryz.underlying22 aG
        injection b7 with x1 _ x3
        subst x1 x3;have k1:=zQ X l4 (by omega) R f6.2;have m5:=Lib.hid k1;have f2:=Lib.hid (And.intro R f6);have n0:=Lib.hid o;have g9:=Lib.hid I;have m0:=Lib.hid j3;have g8:=Lib.hid e8;clear k1 R f6 o I j3 e8 c7 f4;go_wp2_with fail;go_loopw [6,8] (fun sv iv wz=>∃(i n:Nat),i<=j/\iv=.int .i64 i/\sv=.int .i64 (cH X l4 i)/\wz=w5.drewN n) (fun _ iv _=>j-(intOf iv).toNat)
        case atStart=>exact⟨0,0,Nat.zero_le _,rfl,rfl,rfl⟩
        case round=>
         obtain⟨i,n,hi,rfl,rfl,rfl⟩:=hrel;have o9:=m5.out i (by rw[g9.out];exact hi)
         by_cases j4:i<j
         ·have j5:(i:Int)<(j:Int):=by omega
          have b6:i<X.length:=by rw[g9.out];exact j4
          have b4:i<l4.length:=by rw[f2.out.2.1];exact j4
          have ck:=m0.out i b6;have ik:=fun W=>g8.out W i b6;have o7:=aK l9.out o8 B5 (Nat.le_refl _) i b4;have u0:=fun W=>g7.out W i b4;have hm:=CQ _ _ (f2.out.1 i b6) (f2.out.2.2 i b4);have hs:cH X l4 (i+1)=cH X l4 i+X[i]*l4[i]:=by rw[cH,aJ X i b6,aJ l4 i b4]
          obtain⟨x,o⟩:∃p,p=X[i]:=⟨_,rfl⟩;obtain⟨y,hy⟩:∃q,q=l4[i]:=⟨_,rfl⟩;obtain⟨S,hS⟩:∃S,S=cH X l4 i:=⟨_,rfl⟩;rw[<-o]at ck hm hs;rw[<-hy]at o7 hm hs;rw[<-hS]at o9 hs ⊢;have t1:(i:Int)<=5:=by omega
          have HS:=Lib.hid hs;clear o hy hS hs b6 b4;go_wp2_with fail;go_quiet (fail);go_wp2;go_roundw
          case rel=>exact⟨i+1,n+nq,by omega,by go_num,by rw[HS.out],by simp⟩
          case measure=>simp[intOf];omega
         ·have j5:¬(i:Int)<(j:Int):=by omega
          have p5:i=j:=by omega
          subst p5;have o:=n0.out;obtain⟨S,hS⟩:∃S,S=cH X l4 i:=⟨_,rfl⟩;rw[<-hS]at o ⊢;have hc:(S==q)=(q==S):=by rw[Bool.eq_iff_iff,beq_iff_eq,beq_iff_eq];exact eq_comm
          rw[<-hc]at o;have o1:=Lib.hid o;clear o hS hc;go_wp2;go_ret;exact⟨aE o1.out.symm,B5.drewN' _⟩
end
section
open Go.RowKit Go.G5
theorem DH{n:Int}{l:List Int}(h:dW n l=true):aN n l=true:=by
 unfold dW fT lD at h;simp only[Bool.and_eq_true]at h;exact h.1.1.2.1
theorem RO(w:World)(n1:Int)(v1:Value)(l1:List Int)(h1:aD w v1 l1)(n2:Int)(v2:Value)(l2:List Int)(h2:aD w v2 l2)(n3:Int)(v3:Value)(l3:List Int)(h3:aD w v3 l3)(q st:Int)(v4:Value)(l4:List Int)(h4:aD w v4 l4)(j4:l1.length<=1048576)(j5:l2.length<=1048576):
  Calls Tryz.prog 55 #[clV 4 n1 v1 n2 v2 n3 v3 q st v4] w fun e w'=>e=.returned (.bool (fR n1 l1 n2 l2 q st l4))/\Below w.heap.size w w':=by
 obtain⟨U,c1,rfl⟩:=h1.shape;obtain⟨a2,c2,rfl⟩:=h2.shape;obtain⟨a3,c3,rfl⟩:=h3.shape;obtain⟨a4,c4,rfl⟩:=h4.shape;have K0:=aB.new w 49 (clC 4 n1 (.slice U l1.length c1) n2 (.slice a2 l2.length c2) n3 (.slice a3 l3.length c3) q st (.slice a4 l4.length c4));obtain⟨V0,a9⟩:∃V,V=(w.alloc (.cells (clC 4 n1 (.slice U l1.length c1) n2 (.slice a2 l2.length c2) n3 (.slice a3 l3.length c3) q st (.slice a4 l4.length c4)) 49)).alloc (.cells #[.int .i64 n1,.slice U l1.length c1] 32):=⟨_,rfl⟩;have B0:Below w.heap.size w V0:=by rw[a9];exact cD _ _ _
 have h6:aB V0 w.heap.size 49 (clC 4 n1 (.slice U l1.length c1) n2 (.slice a2 l2.length c2) n3 (.slice a3 l3.length c3) q st (.slice a4 l4.length c4)):=by rw[a9];exact K0.alloc _
 have KF:aB V0 (w.heap.size+1) 32 #[.int .i64 n1,.slice U l1.length c1]:=by
  rw[a9];have:=aB.new (w.alloc (.cells (clC 4 n1 (.slice U l1.length c1) n2 (.slice a2 l2.length c2) n3 (.slice a3 l3.length c3) q st (.slice a4 l4.length c4)) 49)) 32 #[.int .i64 n1,.slice U l1.length c1];simpa using this
 have b8:=Lib.hid a9;have g1:=h1.below B0 (Nat.le_refl _);have g2:=h2.below B0 (Nat.le_refl _);have g3:=h3.below B0 (Nat.le_refl _);have g4:=h4.below B0 (Nat.le_refl _);clear a9 K0;obtain⟨V1,Y⟩:∃V,V=V0.alloc (.cells #[.int .i64 n2,.slice a2 l2.length c2] 32):=⟨_,rfl⟩;have A:Below w.heap.size w V1:=by rw[Y];exact B0.alloc B0.size _
 have a8:aB V1 w.heap.size 49 (clC 4 n1 (.slice U l1.length c1) n2 (.slice a2 l2.length c2) n3 (.slice a3 l3.length c3) q st (.slice a4 l4.length c4)):=by rw[Y];exact h6.alloc _
 have f5:aB V1 (w.heap.size+1) 32 #[.int .i64 n1,.slice U l1.length c1]:=by rw[Y];exact KF.alloc _
 have k2:V0.heap.size=w.heap.size+1+1:=by rw[b8.out];simp
 have KG:aB V1 (w.heap.size+1+1) 32 #[.int .i64 n2,.slice a2 l2.length c2]:=by rw[Y,<-k2];exact aB.new _ _ _
 clear k2;have S:=Lib.hid Y;have i7:∀V,V=V1->Calls Tryz.prog 192 #[.agg #[.int .i64 n1,.slice U l1.length c1],.agg #[.int .i64 n2,.slice a2 l2.length c2]] V fun e w'=>e=.returned (.bool (cZ n1 l1 n2 l2))/\Below V.heap.size V w':=fun V h=>by rw[h];exact pF V1 n1 _ l1 (h1.below A (Nat.le_refl _)) j4 n2 _ l2 (h2.below A (Nat.le_refl _)) j5
 have a6:=Lib.hid i7;have f2:=h6.cell;have e9:=KF.cell;clear i7 Y g1 g2 g3 g4
 cases hc:cZ n1 l1 n2 l2 with
 |false=>
  have o:fR n1 l1 n2 l2 q st l4=false:=by unfold fR;rw[hc];rfl
  rw[hc]at a6;have HX:=Lib.hid o;clear o hc;go_enter Tryz.func55,Tryz.ntmps55;go_wp2_with fail;rw[b8.out.symm];refine(a6.out _ S.out.symm).mono ?_;rintro e w1 ⟨rfl,D⟩;rw[S.out.symm]at D;have B1:=A.after D A.size;have K1:=a8.keep D;have M:=f5.keep D;have O:=KG.keep D;have G:=K1.cell;have F:=M.cell;have Gg:=O.cell;clear f2 e9;go_wp2;go_ret;exact⟨aE HX.out.symm,B1⟩
 |true=>
  rw[hc]at a6;obtain⟨rfl,N,rfl,hN,j6,e4,j7,b0,b3⟩:=kH hc;have c7:dW (N:Int) l1=true/\dW (N:Int) l2=true:=by
   have h:=hc;unfold cZ at h;simp only[Bool.and_eq_true]at h;exact h.1
  have c5:=DH c7.1;have f7:=DH c7.2;have o:fR (N:Int) l1 (N:Int) l2 q st l4=((q==(l4.length:Int)&&bO N st)&&(decide (0<=fL (N:Int) l4 0)&&yR (N:Int) l1 l2 q st (fL (N:Int) l4 0))):=by unfold fR;rw[hc,Int.toNat_natCast];rfl
  have h5:=fun W (h:aD W (.slice U l1.length c1) l1)=>sB W (N:Int) _ l1 h st;simp only[c5,Int.toNat_natCast,Bool.true_and]at h5
  cases hs:bO N st with
  |false=>
   rw[hs,Bool.and_false,Bool.false_and]at o;simp only[hs]at h5;have HX:=Lib.hid o;have H5:=Lib.hid h5;clear o hc j6 e4 j7 b0 b3 c7 c5 f7 h5 hs;go_enter Tryz.func55,Tryz.ntmps55;go_wp2_with fail;rw[b8.out.symm];refine(a6.out _ S.out.symm).mono ?_;rintro e w1 ⟨rfl,D⟩;rw[S.out.symm]at D;have B1:=A.after D A.size;have K1:=a8.keep D;have M:=f5.keep D;have O:=KG.keep D;have G:=K1.cell;have F:=M.cell;have Gg:=O.cell;clear f2 e9;go_wp2_with fail;refine(H5.out w1 (h1.below B1 (Nat.le_refl _))).mono ?_;rintro e w2 ⟨rfl,b2⟩;go_wp2;go_ret;exact⟨aE HX.out.symm,B1.after b2 B1.size⟩
  |true=>
   rw[hs,Bool.and_true]at o;simp only[hs]at h5;obtain⟨L,rfl,m8⟩:=qP hs;have c6:=tE N (by omega) l4 0 (Nat.two_pow_pos N);have hid:=fun W (h:aD W (.slice a4 l4.length c4) l4)=>GP (N:Int) ⟨by omega,by omega⟩ l4 _ W h;obtain⟨T,hT⟩:∃T,T=fL (N:Int) l4 0:=⟨_,rfl⟩;rw[<-hT]at o c6;simp only[<-hT]at hid;have K:L<l1.length:=by omega
   have j8:=Nat.two_pow_pos N;have b4:((2^N-1:Nat):Int)=(2:Int)^N-1:=by rw[Int.ofNat_sub j8];simp
   have m3:(2:Nat)^N<=2^5:=Nat.pow_le_pow_right (by decide) hN;obtain⟨Z,j3⟩:∃Z,Z=2^N-1-L:=⟨_,rfl⟩;have b5:Z<l2.length:=by omega
   have e1:((2:Int)^N-1-(L:Int))=(Z:Int):=by rw[<-b4,j3];omega
   have p5:IntKind.i64.wrap ((2:Int)^N-1-(L:Int))=(2:Int)^N-1-(L:Int):=by rw[IntKind.wrap_i64,e1];omega
   have I:∀s:Nat,T=(s:Int)->fR (N:Int) l1 (N:Int) l2 q (L:Int) l4=(((bH l1 s&&bH l2 s)&&cK (s:Int)==q)&&l1.getD L 0+l2.getD Z 0==q):=fun s h=>by
    have m5:cK (s:Int)=(l4.length:Int):=by
     rcases c6 with h'|⟨s',p1,_,m7⟩
     ·omega
     ·have e:s'=s:=by omega
      rw[e,dR]at m7;unfold cK;rw[Int.toNat_natCast];omega
    have m6:(q==(l4.length:Int))=(cK (s:Int)==q):=by rw[m5,Bool.eq_iff_iff,beq_iff_eq,beq_iff_eq];exact eq_comm
    rw[o,h,m6];unfold yR;rw[Int.toNat_natCast,Int.toNat_natCast,Int.toNat_natCast,e1,Int.toNat_natCast,decide_eq_true (show(0:Int)<=(s:Int) by omega),Bool.true_and]
    cases(cK (s:Int)==q)<;>cases(bH l1 s)<;>cases(bH l2 s)<;>rfl
   rw[aJ l1 L K,aJ l2 Z b5]at I;have e5:T=-1->fR (N:Int) l1 (N:Int) l2 q (L:Int) l4=false:=fun h=>by rw[o,h];simp
   have c9:=fun(W:World) (s:Nat) (u1:s<2^N) (u2:aD W (.slice U l1.length c1) l1) (u3:aD W (.slice a2 l2.length c2) l2)=>FI W N _ l1 u2 j4 _ l2 u3 j5 hc c5 f7 s u1;obtain⟨_,l8,k3,_,f9,_,d0,i8,o9⟩:=h1.view Tryz.prog 22 3 Tryz.underlying22 aG
   injection f9 with x1 _ x3
   subst x1 x3;obtain⟨_,h8,e6,_,f9,_,e0,j2,p0⟩:=h2.view Tryz.prog 22 3 Tryz.underlying22 aG
   injection f9 with x1 _ x3
   subst x1 x3;have d1:=i8 L K;have i1:=fun W=>d0 W L K;have d2:=j2 Z b5;have i2:∀W,(Instr.indexAt 22 (.slice a2 l2.length c2) (.int .i64 ((2:Int)^N-1-(L:Int)))).run Tryz.prog W=.ok (.pointer (some ⟨h8,e6+Z,none⟩)) W:=fun W=>by rw[e1];exact e0 W Z b5
   have g1:=b0 L K;have g2:=b3 Z b5;obtain⟨y1,k0⟩:∃y,y=l1[L]:=⟨_,rfl⟩;obtain⟨y2,k1⟩:∃y,y=l2[Z]:=⟨_,rfl⟩;rw[<-k0]at d1 g1 I;rw[<-k1]at d2 g2 I;have p6:IntKind.i64.wrap (y1+y2)=y1+y2:=by rw[IntKind.wrap_i64];omega
   have H5:=Lib.hid h5;have k7:=Lib.hid c6;have k6:=Lib.hid hid;have g9:=Lib.hid I;have h0:=Lib.hid e5;have g8:=Lib.hid c9;have l6:=Lib.hid (fun W=>cT N W (by omega));clear o hc j6 e4 j7 b0 b3 c7 c5 f7 h5 hs c6 hid I e5 c9 i8 j2 d0 e0 hT k0 k1 K b5 j8 b4 j3 m3 e1 m8;go_enter Tryz.func55,Tryz.ntmps55;go_wp2_with fail;rw[b8.out.symm];refine(a6.out _ S.out.symm).mono ?_;rintro e w1 ⟨rfl,D⟩;rw[S.out.symm]at D;have B1:=A.after D A.size;have K1:=a8.keep D;have M:=f5.keep D;have O:=KG.keep D;have G:=K1.cell;have F:=M.cell;have Gg:=O.cell;clear f2 e9;go_wp2_with fail;refine(H5.out w1 (h1.below B1 (Nat.le_refl _))).mono ?_;rintro e w2 ⟨rfl,b2⟩;have R:=B1.after b2 B1.size;have K2:=K1.keep b2;have k8:=M.keep b2;have l0:=O.keep b2;have m4:=h4.below R (Nat.le_refl _);have m1:=h1.below R (Nat.le_refl _);have m2:=h2.below R (Nat.le_refl _);have h9:=keep R d1;have i6:=keep R d2;clear G F Gg K1 M O B1 b2 d1 d2;have G:=K2.cell;have F:=k8.cell;have Gg:=l0.cell;go_wp2_with (go_at_call 193;refine(k6.out _ m4).mono ?_;rintro e w' ⟨rfl,rfl⟩);have e7:∀z:Ext w2,z.w.cell? ⟨w.heap.size,7,none⟩=some (.int .i64 q):=fun z=>z.cell (G 7);have e8:∀z:Ext w2,z.w.cell? ⟨w.heap.size,8,none⟩=some (.int .i64 (L:Int)):=fun z=>z.cell (G 8);have f0:∀z:Ext w2,z.w.cell? ⟨w.heap.size+1,0,none⟩=some (.int .i64 (N:Int)):=fun z=>z.cell (F 0);have f1:∀z:Ext w2,z.w.cell? ⟨w.heap.size+1,1,none⟩=some (.slice U l1.length c1):=fun z=>z.cell (F 1);have j0:∀z:Ext w2,z.w.cell? ⟨w.heap.size+1+1,0,none⟩=some (.int .i64 (N:Int)):=fun z=>z.cell (Gg 0);have j1:∀z:Ext w2,z.w.cell? ⟨w.heap.size+1+1,1,none⟩=some (.slice a2 l2.length c2):=fun z=>z.cell (Gg 1);have z1:∀z:Ext w2,z.w.cell? ⟨l8,k3+L,none⟩=some (.int .i64 y1):=fun z=>z.cell h9;have z2:∀z:Ext w2,z.w.cell? ⟨h8,e6+Z,none⟩=some (.int .i64 y2):=fun z=>z.cell i6;have QF:=Lib.hid (fun z:Ext w2=>l6.out z.w);clear G F Gg h9 i6
   rcases k7.out with hT|⟨s,hT,j9,_⟩
   ·have HX:=Lib.hid (h0.out hT)
    have ht:decide (0<=T)=false:=by rw[decide_eq_false_iff_not];omega
    clear hT;refine aO _ (by kernel_rfl) (by kernel_rfl) ?_
    repeat(first|go_big_quiet_skip|(go_big_quiet_want;go_big_quiet_op;first|go_big_quiet_on|(apply Exists.intro;refine⟨fun _=>?_,?_⟩;(fail);go_big_quiet_on)))
    refine wpQuiet_nil ?_;rintro w4 ⟨⟨w4,Q⟩,rfl⟩
    try dsimp only
    go_wp2;go_ret;exact⟨aE HX.out.symm,R.after Q R.size⟩
   ·subst hT
    have o:=g9.out s rfl;have ht:decide ((0:Int)<=(s:Int))=true:=by rw[decide_eq_true_eq];omega
    have h5:(2:Nat)^N<=2^5:=Nat.pow_le_pow_right (by decide) hN;have QC:=fun z:Ext w2=>g8.out z.w s j9 (z.ints m1) (z.ints m2);have QS:=Lib.hid (fun z:Ext w2=>pA (s:Int) z.w (by omega) (by omega));obtain⟨bC,f6⟩:∃b,b=(bH l1 s&&bH l2 s):=⟨_,rfl⟩;simp only[<-f6]at QC;rw[<-f6]at o;have QC:=Lib.hid QC;clear h5 j9 f6
    cases bC with
    |false=>
     have HX:=Lib.hid o;clear o;refine aO _ (by kernel_rfl) (by kernel_rfl) ?_
     repeat(first|go_big_quiet_skip|(go_big_quiet_want;go_big_quiet_op;first|go_big_quiet_on|(apply Exists.intro;refine⟨fun _=>?_,?_⟩;(first|(go_at_call 194;exact aV (QC.out _))|(go_at_call 173;exact aX (QS.out _))|(go_at_call 187;exact aX (QF.out _)));go_big_quiet_on)))
     refine wpQuiet_nil ?_;rintro w4 ⟨⟨w4,Q⟩,rfl⟩
     try dsimp only
     go_wp2;go_ret;exact⟨aE HX.out.symm,R.after Q R.size⟩
    |true=>
     cases hq:cK (s:Int)==q with
     |false=>
      rw[hq]at o;have HX:=Lib.hid o;clear o;refine aO _ (by kernel_rfl) (by kernel_rfl) ?_
      repeat(first|go_big_quiet_skip|(go_big_quiet_want;go_big_quiet_op;first|go_big_quiet_on|(apply Exists.intro;refine⟨fun _=>?_,?_⟩;(first|(go_at_call 194;exact aV (QC.out _))|(go_at_call 173;exact aX (QS.out _))|(go_at_call 187;exact aX (QF.out _)));go_big_quiet_on)))
      refine wpQuiet_nil ?_;rintro w4 ⟨⟨w4,Q⟩,rfl⟩
      try dsimp only
      go_wp2;go_ret;exact⟨aE HX.out.symm,R.after Q R.size⟩
     |true=>
      rw[hq,Bool.true_and,Bool.true_and]at o;have HX:=Lib.hid o;clear o;refine aO _ (by kernel_rfl) (by kernel_rfl) ?_
      repeat(first|go_big_quiet_skip|(go_big_quiet_want;go_big_quiet_op;first|go_big_quiet_on|(apply Exists.intro;refine⟨fun _=>?_,?_⟩;(first|(go_at_call 194;exact aV (QC.out _))|(go_at_call 173;exact aX (QS.out _))|(go_at_call 187;exact aX (QF.out _)));go_big_quiet_on)))
      refine wpQuiet_nil ?_;rintro w4 ⟨⟨w4,Q⟩,rfl⟩
      try dsimp only
      go_wp2;go_ret;exact⟨aE HX.out.symm,R.after Q R.size⟩
end
end Go.Proofs.YtipejodijbjpcaaGreatDoor
