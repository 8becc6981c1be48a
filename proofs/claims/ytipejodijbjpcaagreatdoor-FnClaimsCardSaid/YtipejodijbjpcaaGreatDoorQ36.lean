/- Lemmas for CardClaims, part 36 of 52. No condition. -/
import Derived.Test.YtipejodijbjpcaaGreatDoorQ07
import Derived.Test.YtipejodijbjpcaaGreatDoorQ21
import Derived.Test.YtipejodijbjpcaaGreatDoorQ31
import Derived.Test.YtipejodijbjpcaaGreatDoorQ32
import Derived.Test.YtipejodijbjpcaaGreatDoorQ35
set_option maxRecDepth 100000
set_option maxHeartbeats 64000000
namespace Go.Proofs.YtipejodijbjpcaaGreatDoor
section
open Go.RowKit Go.G5
theorem RJ(w:World)(n1:Int)(v1:Value)(l1:List Int)(h1:aD w v1 l1)(n2:Int)(v2:Value)(l2:List Int)(h2:aD w v2 l2)(n3:Int)(v3:Value)(l3:List Int)(h3:aD w v3 l3)(q st:Int)(v4:Value)(l4:List Int)(h4:aD w v4 l4):
  Calls Tryz.prog 55 #[clV 6 n1 v1 n2 v2 n3 v3 q st v4] w fun e w'=>e=.returned (.bool (iC n3 l3 q l4))/\Below w.heap.size w w':=by
 obtain⟨N,c1,rfl⟩:=h1.shape;obtain⟨a2,c2,rfl⟩:=h2.shape;obtain⟨a3,c3,rfl⟩:=h3.shape;obtain⟨a4,c4,rfl⟩:=h4.shape;have K0:=aB.new w 49 (clC 6 n1 (.slice N l1.length c1) n2 (.slice a2 l2.length c2) n3 (.slice a3 l3.length c3) q st (.slice a4 l4.length c4));obtain⟨Z,A⟩:∃V,V=(w.alloc (.cells (clC 6 n1 (.slice N l1.length c1) n2 (.slice a2 l2.length c2) n3 (.slice a3 l3.length c3) q st (.slice a4 l4.length c4)) 49)).alloc (.cells #[.int .i64 n1,.slice N l1.length c1] 32):=⟨_,rfl⟩;have Y:Below w.heap.size w Z:=by rw[A];exact cD _ _ _
 have e0:aB Z w.heap.size 49 (clC 6 n1 (.slice N l1.length c1) n2 (.slice a2 l2.length c2) n3 (.slice a3 l3.length c3) q st (.slice a4 l4.length c4)):=by rw[A];exact K0.alloc _
 have KF:aB Z (w.heap.size+1) 32 #[.int .i64 n1,.slice N l1.length c1]:=by
  rw[A];have:=aB.new (w.alloc (.cells (clC 6 n1 (.slice N l1.length c1) n2 (.slice a2 l2.length c2) n3 (.slice a3 l3.length c3) q st (.slice a4 l4.length c4)) 49)) 32 #[.int .i64 n1,.slice N l1.length c1];simpa using this
 have d0:=Lib.hid A;have g1:=h1.below Y (Nat.le_refl _);have g2:=h2.below Y (Nat.le_refl _);have g3:=h3.below Y (Nat.le_refl _);have g4:=h4.below Y (Nat.le_refl _);clear A K0;have I:iC n3 l3 q l4=(l4.all (iY l3)&&(((bW n3 l3&&dP l4)&&(l4.length:Int)==q)&&decide (1<=q))):=by
  unfold iC;have e7:(q==(l4.length:Int))=((l4.length:Int)==q):=by rw[Bool.eq_iff_iff,beq_iff_eq,beq_iff_eq];exact eq_comm
  rw[e7]
  cases hq:(l4.length:Int)==q with
  |false=>simp
  |true=>
   have g9:(l4.length:Int)=q:=by simpa using hq
   have hd:decide (1<=l4.length)=decide (1<=q):=by rw[Bool.eq_iff_iff,decide_eq_true_eq,decide_eq_true_eq];omega
   rw[hd]
   cases bW n3 l3<;>cases decide (1<=q)<;>cases l4.all (iY l3)<;>cases dP l4<;>rfl
 obtain⟨_,b,f3,_,e8,_,a8,hc,hb⟩:=h4.view Tryz.prog 22 3 Tryz.underlying22 aG
 injection e8 with x1 _ x3
 subst x1 x3;have HX:=Lib.hid I;have HC:=Lib.hid hc;have c7:=Lib.hid a8;clear I hc a8;go_enter Tryz.func55,Tryz.ntmps55;go_wp2_with fail;rw[d0.out.symm];go_loopw [14] (fun iv wr=>∃j:Nat,j<=l4.length/\iv=.int .i64 j/\(l4.take j).all (iY l3)=true/\Below Z.heap.size Z wr) (fun iv _=>l4.length-(intOf iv).toNat)
 case atStart=>exact⟨0,Nat.zero_le _,rfl,rfl,Below.refl _ _⟩
 case round=>
  obtain⟨j,hj,rfl,L,Bw⟩:=hrel;have K:=Lib.hid L;clear L;have M:=Y.after Bw Y.size;have K4:=e0.keep Bw;have G:=K4.cell;have g8:=h4.below M (Nat.le_refl _);have a6:=h3.below M (Nat.le_refl _)
  by_cases hlt:j<l4.length
  ·have a9:(j:Int)<(l4.length:Int):=by omega
   have ck:=aK HC.out hb M (Nat.le_refl _) j hlt;have ik:=fun W=>c7.out W j hlt;have F:=dD (iY l3) l4 j hlt;have D:=pH (iY l3) l4 j hlt;obtain⟨s,hs⟩:∃s,s=l4[j]:=⟨_,rfl⟩;rw[<-hs]at ck F D;have U:=fun z:Ext wr=>NK l3 _ s z.w (z.ints a6);obtain⟨z,hz⟩:∃z,z=iY l3 s:=⟨_,rfl⟩;simp only[<-hz]at U;rw[<-hz]at F D;have QH:=Lib.hid U;have c9:=Lib.hid F;have c5:=Lib.hid D;have e6:∀z:Ext wr,z.w.cell? ⟨w.heap.size,6,none⟩=some (.slice a3 l3.length c3):=fun z=>z.cell (G 6);have e9:∀z:Ext wr,z.w.cell? ⟨w.heap.size,9,none⟩=some (.slice a4 l4.length c4):=fun z=>z.cell (G 9);have ey:∀z:Ext wr,z.w.cell? ⟨b,f3+j,none⟩=some (.int .i64 s):=fun z=>z.cell ck;clear hs hz U F D ck
   cases z with
   |false=>
    have I:=HX.out.trans (by rw[c5.out rfl];rfl:(l4.all (iY l3)&&(((bW n3 l3&&dP l4)&&(l4.length:Int)==q)&&decide (1<=q)))=false);have o:=Lib.hid I;clear I;go_wp2_with fail;clear G;refine aO _ (by kernel_rfl) (by kernel_rfl) ?_
    repeat(first|go_big_quiet_skip|(go_big_quiet_want;go_big_quiet_op;first|go_big_quiet_on|(apply Exists.intro;refine⟨fun _=>?_,?_⟩;(go_at_call 195;exact aX (QH.out _));go_big_quiet_on)))
    refine wpQuiet_nil ?_;rintro w5 ⟨⟨w5,O⟩,rfl⟩
    try dsimp only
    go_wp2;go_ret;exact⟨aE o.out.symm,M.after O M.size⟩
   |true=>
    have a7:(l4.take (j+1)).all (iY l3)=true:=by rw[c9.out,K.out];rfl
    have b9:=Lib.hid a7;clear a7;go_wp2_with fail;clear G;refine aO _ (by kernel_rfl) (by kernel_rfl) ?_
    repeat(first|go_big_quiet_skip|(go_big_quiet_want;go_big_quiet_op;first|go_big_quiet_on|(apply Exists.intro;refine⟨fun _=>?_,?_⟩;(go_at_call 195;exact aX (QH.out _));go_big_quiet_on)))
    refine wpQuiet_nil ?_;rintro w5 ⟨⟨w5,O⟩,rfl⟩
    try dsimp only
    go_wp2;go_roundw
    case rel=>exact⟨j+1,by omega,by go_num,b9.out,Bw.after O Bw.size⟩
    case measure=>simp[intOf];omega
  ·have a9:¬(j:Int)<(l4.length:Int):=by omega
   have I:iC n3 l3 q l4=(((bW n3 l3&&dP l4)&&(l4.length:Int)==q)&&decide (1<=q)):=by rw[HX.out,<-eH _ l4 j (by omega),K.out,Bool.true_and]
   have S:=gD n3 l3 _ wr a6;obtain⟨bF,Q⟩:∃b,b=bW n3 l3:=⟨_,rfl⟩;obtain⟨bS,R⟩:∃b,b=dP l4:=⟨_,rfl⟩;have b0:∀W,aD W (.slice a4 l4.length c4) l4->Calls Tryz.prog 62 #[.slice a4 l4.length c4] W fun e w'=>e=.returned (.bool bS)/\Below W.heap.size W w':=fun W h=>by rw[R];exact AF l4 _ W h
   rw[<-Q]at S;rw[<-Q,<-R]at I;have o:=Lib.hid I;have c6:=Lib.hid S;have c8:=Lib.hid b0;clear I S b0 Q R;go_wp2_with fail;refine c6.out.mono ?_;rintro e w5 ⟨rfl,O⟩;have B5:=M.after O M.size;have G5:=(K4.keep O).cell;clear G
   cases bF with
   |false=>
    go_wp2;go_ret;exact⟨aE o.out.symm,B5⟩
   |true=>
    go_wp2_with fail;refine(c8.out w5 (h4.below B5 (Nat.le_refl _))).mono ?_;rintro e w6 ⟨rfl,b6⟩;have B6:=B5.after b6 B5.size;have G6:=((K4.keep O).keep b6).cell;clear G5
    cases bS with
    |false=>
     go_wp2;go_ret;exact⟨aE o.out.symm,B6⟩
    |true=>
     cases hq:(l4.length:Int)==q with
     |false=>
      rw[hq]at o;go_wp2;go_ret;exact⟨aE o.out.symm,B6⟩
     |true=>
      rw[hq]at o;go_wp2;go_ret;exact⟨aE o.out.symm,B6⟩
theorem RR(w:World)(n1:Int)(v1:Value)(l1:List Int)(h1:aD w v1 l1)(n2:Int)(v2:Value)(l2:List Int)(h2:aD w v2 l2)(n3:Int)(v3:Value)(l3:List Int)(h3:aD w v3 l3)(q st:Int)(v4:Value)(l4:List Int)(h4:aD w v4 l4):
  Calls Tryz.prog 55 #[clV 7 n1 v1 n2 v2 n3 v3 q st v4] w fun e w'=>e=.returned (.bool (dL n3 l3 q l4))/\Below w.heap.size w w':=by
 obtain⟨a1,c1,rfl⟩:=h1.shape;obtain⟨a2,c2,rfl⟩:=h2.shape;obtain⟨a3,c3,rfl⟩:=h3.shape;obtain⟨a4,c4,rfl⟩:=h4.shape;have K0:=aB.new w 49 (clC 7 n1 (.slice a1 l1.length c1) n2 (.slice a2 l2.length c2) n3 (.slice a3 l3.length c3) q st (.slice a4 l4.length c4));obtain⟨V0,R⟩:∃V,V=(w.alloc (.cells (clC 7 n1 (.slice a1 l1.length c1) n2 (.slice a2 l2.length c2) n3 (.slice a3 l3.length c3) q st (.slice a4 l4.length c4)) 49)).alloc (.cells #[.int .i64 n1,.slice a1 l1.length c1] 32):=⟨_,rfl⟩;have I:Below w.heap.size w V0:=by rw[R];exact cD _ _ _
 have L:aB V0 w.heap.size 49 (clC 7 n1 (.slice a1 l1.length c1) n2 (.slice a2 l2.length c2) n3 (.slice a3 l3.length c3) q st (.slice a4 l4.length c4)):=by rw[R];exact K0.alloc _
 have KF:aB V0 (w.heap.size+1) 32 #[.int .i64 n1,.slice a1 l1.length c1]:=by
  rw[R];have:=aB.new (w.alloc (.cells (clC 7 n1 (.slice a1 l1.length c1) n2 (.slice a2 l2.length c2) n3 (.slice a3 l3.length c3) q st (.slice a4 l4.length c4)) 49)) 32 #[.int .i64 n1,.slice a1 l1.length c1];simpa using this
 have o:=Lib.hid R;have g1:=h1.below I (Nat.le_refl _);have g2:=h2.below I (Nat.le_refl _);have g3:=h3.below I (Nat.le_refl _);have g4:=h4.below I (Nat.le_refl _);clear R K0;have Z:∀V,V=V0->Calls Tryz.prog 72 #[.agg #[.int .i64 n3,.slice a3 l3.length c3]] V fun e w'=>e=.returned (.bool (bW n3 l3))/\Below V.heap.size V w':=fun V h=>by rw[h];exact gD n3 l3 _ V0 g3
 have F:=Lib.hid Z;clear Z
 cases Y:bW n3 l3 with
 |false=>
  have M:dL n3 l3 q l4=false:=by unfold dL;rw[Y];rfl
  rw[Y]at F;have N:=Lib.hid M;clear M Y;go_enter Tryz.func55,Tryz.ntmps55;go_wp2_with fail;refine(F.out _ o.out.symm).mono ?_;rintro e w1 ⟨rfl,z⟩;rw[o.out.symm]at z;have D:=I.after z I.size;have O:=L.keep z;have G:=O.cell;go_wp2;go_ret;exact⟨aE N.out.symm,D⟩
 |true=>
  rw[Y]at F;have hm:=MP Y
  by_cases K:q=1
  ·have M:dL n3 l3 q l4=fC n3 l3 l4:=by unfold dL;rw[Y,if_pos K];rfl
   have t1:(q==1)=true:=by rw[K];rfl
   have b9:=fun W (u3:aD W (.slice a3 l3.length c3) l3) (u4:aD W (.slice a4 l4.length c4) l4)=>OS W n3 _ _ l3 l4 u3 u4;have N:=Lib.hid M;have c9:=Lib.hid b9;clear M Y hm K b9;go_enter Tryz.func55,Tryz.ntmps55;go_wp2_with fail;refine(F.out _ o.out.symm).mono ?_;rintro e w1 ⟨rfl,z⟩;rw[o.out.symm]at z;have D:=I.after z I.size;have O:=L.keep z;have G:=O.cell;go_wp2_with fail;refine(c9.out w1 (h3.below D (Nat.le_refl _)) (h4.below D (Nat.le_refl _))).mono ?_;rintro e w2 ⟨rfl,b2⟩;go_wp2;go_ret;exact⟨aE N.out.symm,D.after b2 D.size⟩
  ·have t1:(q==1)=false:=by simpa using K
   have M:dL n3 l3 q l4=((q==0&&decide (l3.length<=6))&&wP l3 l4):=by unfold dL;rw[Y,if_neg K];rfl
   by_cases h6:l3.length<=6
   ·have t6:¬(6:Int)<(l3.length:Int):=by omega
    rw[decide_eq_true h6,Bool.and_true]at M;have b0:=tE l3.length h6 l4 0 (Nat.two_pow_pos _);have hid:=fun W (h:aD W (.slice a4 l4.length c4) l4)=>GP (l3.length:Int) ⟨by omega,by omega⟩ l4 _ W h;obtain⟨T,hT⟩:∃T,T=fL (l3.length:Int) l4 0:=⟨_,rfl⟩;rw[<-hT]at b0;simp only[<-hT]at hid;have A:dL n3 l3 q l4=(q==0&&(decide (0<T)&&decide (cK (bD l3 T.toNat l3.length)<cK T))):=by rw[M,hT];rfl
    have a6:=Lib.hid hid;have a8:(2:Nat)^l3.length<=2^6:=Nat.pow_le_pow_right (by decide) h6;have c5:=fun(W:World) (u:Nat) (hu:u<64) (g:aD W (.slice a3 l3.length c3) l3)=>vR l3 _ W g hm h6 u hu;have e4:=Lib.hid c5;have c8:=Lib.hid b0;have HM:=Lib.hid hm;clear M Y K hid hT c5 b0 hm
    cases b8:q==0 with
    |false=>
     rw[b8]at A;have N:=Lib.hid A;clear A a8;go_enter Tryz.func55,Tryz.ntmps55;go_wp2_with fail;refine(F.out _ o.out.symm).mono ?_;rintro e w1 ⟨rfl,z⟩;rw[o.out.symm]at z;have D:=I.after z I.size;have O:=L.keep z;have G:=O.cell;have Q:=h4.below D (Nat.le_refl _);go_wp2_with (go_at_call 193;refine(a6.out _ Q).mono ?_;rintro e w' ⟨rfl,rfl⟩);go_ret;exact⟨aE N.out.symm,D⟩
    |true=>
     rw[b8,Bool.true_and]at A
     by_cases a9:0<T
     ·obtain⟨u,rfl,e7⟩:∃u:Nat,T=(u:Int)/\u<64:=by
       rcases c8.out with h|⟨s,hs,f6,_⟩
       ·omega
       ·exact⟨s,hs,by omega⟩
      have S:0<=bD l3 u l3.length/\bD l3 u l3.length<64:=kS l3 u HM.out l3.length (Nat.le_refl _);have b3:=fun W g=>e4.out W u e7 g;obtain⟨U,hU⟩:∃U,U=bD l3 u l3.length:=⟨_,rfl⟩;rw[<-hU]at S;simp only[<-hU]at b3;rw[decide_eq_true a9,Bool.true_and,Int.toNat_natCast,<-hU]at A;have N:=Lib.hid A;have e5:=Lib.hid b3;have d0:=Lib.hid (fun W=>pA U W S.1 (by omega));have e0:=Lib.hid (fun W=>pA (u:Int) W (by omega) (by omega));have f4:(0:Int)<(u:Int):=a9;have e9:0<u:=by omega
      clear A b3 hU a8 S;go_enter Tryz.func55,Tryz.ntmps55;go_wp2_with fail;refine(F.out _ o.out.symm).mono ?_;rintro e w1 ⟨rfl,z⟩;rw[o.out.symm]at z;have D:=I.after z I.size;have O:=L.keep z;have G:=O.cell;have Q:=h4.below D (Nat.le_refl _);have e6:=h3.below D (Nat.le_refl _);go_wp2_with (first|(go_at_call 193;refine(a6.out _ Q).mono ?_;rintro e w' ⟨rfl,rfl⟩)|(go_at_call 197;refine(e5.out _ e6).mono ?_;rintro e w' ⟨rfl,rfl⟩)|(go_at_call 173;first|(with_reducible refine(d0.out _).mono ?_;rintro e w' ⟨rfl,rfl⟩)|(with_reducible refine(e0.out _).mono ?_;rintro e w' ⟨rfl,rfl⟩)));go_ret;exact⟨aE N.out.symm,D⟩
     ·rw[decide_eq_false a9,Bool.false_and]at A
      have N:=Lib.hid A;clear A a8;go_enter Tryz.func55,Tryz.ntmps55;go_wp2_with fail;refine(F.out _ o.out.symm).mono ?_;rintro e w1 ⟨rfl,z⟩;rw[o.out.symm]at z;have D:=I.after z I.size;have O:=L.keep z;have G:=O.cell;have Q:=h4.below D (Nat.le_refl _);go_wp2_with (go_at_call 193;refine(a6.out _ Q).mono ?_;rintro e w' ⟨rfl,rfl⟩);go_ret;exact⟨aE N.out.symm,D⟩
   ·have t6:(6:Int)<(l3.length:Int):=by omega
    rw[decide_eq_false h6,Bool.and_false,Bool.false_and]at M;have N:=Lib.hid M;clear M Y hm K h6;go_enter Tryz.func55,Tryz.ntmps55;go_wp2_with fail;refine(F.out _ o.out.symm).mono ?_;rintro e w1 ⟨rfl,z⟩;rw[o.out.symm]at z;have D:=I.after z I.size;have O:=L.keep z;have G:=O.cell;go_wp2;go_ret;exact⟨aE N.out.symm,D⟩
end
section
open Go.RowKit Go.G5
theorem RV(w:World)(n1:Int)(v1:Value)(l1:List Int)(h1:aD w v1 l1)(n2:Int)(v2:Value)(l2:List Int)(h2:aD w v2 l2)(n3:Int)(v3:Value)(l3:List Int)(h3:aD w v3 l3)(q st:Int)(v4:Value)(l4:List Int)(h4:aD w v4 l4):
  Calls Tryz.prog 55 #[clV 2 n1 v1 n2 v2 n3 v3 q st v4] w fun e w'=>e=.returned (.bool (dU n1 l1 l4))/\Below w.heap.size w w':=by
 obtain⟨a1,c1,rfl⟩:=h1.shape;obtain⟨a2,c2,rfl⟩:=h2.shape;obtain⟨a3,c3,rfl⟩:=h3.shape;obtain⟨a4,c4,rfl⟩:=h4.shape;have K0:=aB.new w 49 (clC 2 n1 (.slice a1 l1.length c1) n2 (.slice a2 l2.length c2) n3 (.slice a3 l3.length c3) q st (.slice a4 l4.length c4));obtain⟨Q,Z⟩:∃V,V=(w.alloc (.cells (clC 2 n1 (.slice a1 l1.length c1) n2 (.slice a2 l2.length c2) n3 (.slice a3 l3.length c3) q st (.slice a4 l4.length c4)) 49)).alloc (.cells #[.int .i64 n1,.slice a1 l1.length c1] 32):=⟨_,rfl⟩;have F:Below w.heap.size w Q:=by rw[Z];exact cD _ _ _
 have e7:aB Q w.heap.size 49 (clC 2 n1 (.slice a1 l1.length c1) n2 (.slice a2 l2.length c2) n3 (.slice a3 l3.length c3) q st (.slice a4 l4.length c4)):=by rw[Z];exact K0.alloc _
 have KF:aB Q (w.heap.size+1) 32 #[.int .i64 n1,.slice a1 l1.length c1]:=by
  rw[Z];have:=aB.new (w.alloc (.cells (clC 2 n1 (.slice a1 l1.length c1) n2 (.slice a2 l2.length c2) n3 (.slice a3 l3.length c3) q st (.slice a4 l4.length c4)) 49)) 32 #[.int .i64 n1,.slice a1 l1.length c1];simpa using this
 have O:=Lib.hid Z;have g1:=h1.below F (Nat.le_refl _);have g2:=h2.below F (Nat.le_refl _);have g3:=h3.below F (Nat.le_refl _);have g4:=h4.below F (Nat.le_refl _);clear Z K0;have G0:=e7.cell;have F0:=KF.cell;have e9:∀z:Ext Q,z.w.cell? ⟨w.heap.size,9,none⟩=some (.slice a4 l4.length c4):=fun z=>z.cell (G0 9);have f0:∀z:Ext Q,z.w.cell? ⟨w.heap.size+1,0,none⟩=some (.int .i64 n1):=fun z=>z.cell (F0 0);have f1:∀z:Ext Q,z.w.cell? ⟨w.heap.size+1,1,none⟩=some (.slice a1 l1.length c1):=fun z=>z.cell (F0 1);have Y:=fun z:Ext Q=>cI n1 l1 _ z.w (z.ints g1);have QB:=Lib.hid G0;have l6:=Lib.hid F0;clear G0 F0
 cases hf:aN n1 l1 with
 |false=>
  have S:dU n1 l1 l4=false:=by unfold dU;rw[hf];rfl
  simp only[hf]at Y;have Y:=Lib.hid Y;have U:=Lib.hid S;clear S hf;go_enter Tryz.func55,Tryz.ntmps55;go_wp2_with fail;rw[O.out.symm];refine aO _ (by kernel_rfl) (by kernel_rfl) ?_
  repeat(first|go_big_quiet_skip|(go_big_quiet_want;go_big_quiet_op;first|go_big_quiet_on|(apply Exists.intro;refine⟨fun _=>?_,?_⟩;(go_at_call 129;exact aV (Y.out _));go_big_quiet_on)))
  refine wpQuiet_nil ?_;rintro K ⟨⟨K,o⟩,rfl⟩
  try dsimp only
  go_wp2;go_ret;exact⟨aE U.out.symm,F.after o F.size⟩
 |true=>
  simp only[hf]at Y;obtain⟨N,rfl,hN,c6,f7,c5⟩:=bN hf;have Y:=Lib.hid Y
  by_cases R:l4.length=3
  ·have S:dU (N:Int) l1 l4=(sL (N:Int) (l4.getD 0 0) (l4.getD 1 0) (l4.getD 2 0)&&qB l1 (l4.getD 0 0) (l4.getD 1 0) (l4.getD 2 0)):=by unfold dU;rw[hf,decide_eq_true R];rfl
   have j4:((l4.length:Int) != 3)=false:=by rw[R];rfl
   obtain⟨b,a8,d0,d1,d2,i0,i1,i2⟩:=AQ g4 22 3 Tryz.underlying22 aG R;obtain⟨s,hs⟩:∃s,s=l4.getD 0 0:=⟨_,rfl⟩;obtain⟨i,hi⟩:∃s,s=l4.getD 1 0:=⟨_,rfl⟩;obtain⟨j,hj⟩:∃s,s=l4.getD 2 0:=⟨_,rfl⟩;rw[<-hs]at S d0;rw[<-hi]at S d1;rw[<-hj]at S d2;have y0:∀z:Ext Q,z.w.cell? ⟨b,a8,none⟩=some (.int .i64 s):=fun z=>z.cell d0;have y1:∀z:Ext Q,z.w.cell? ⟨b,a8+1,none⟩=some (.int .i64 i):=fun z=>z.cell d1;have y2:∀z:Ext Q,z.w.cell? ⟨b,a8+2,none⟩=some (.int .i64 j):=fun z=>z.cell d2;have Q5:=fun z:Ext Q=>sB z.w (N:Int) _ l1 (z.ints g1) s;simp only[hf,Int.toNat_natCast,Bool.true_and]at Q5;have m4:IntKind.i64.wrap ((N:Int)-1)=(N:Int)-1:=by rw[IntKind.wrap_i64];omega
   have a7:sL (N:Int) s i j=(((bO N s&&fX (N:Int) i)&&fX (N:Int) j)&&i != j):=by unfold sL;rw[Int.toNat_natCast]
   obtain⟨bS,b3⟩:∃b,b=bO N s:=⟨_,rfl⟩;obtain⟨bI,b0⟩:∃b,b=fX (N:Int) i:=⟨_,rfl⟩;obtain⟨bK,b1⟩:∃b,b=fX (N:Int) j:=⟨_,rfl⟩;simp only[<-b3]at Q5;have Q5:=Lib.hid Q5;have QI:∀z:Ext Q,Calls Tryz.prog 188 #[.int .i64 i,.int .i64 0,.int .i64 ((N:Int)-1)] z.w fun e' w'=>e'=.returned (.bool bI)/\z.w=w':=fun z=>by
    have:=aR i 0 ((N:Int)-1) z.w;rw[uC]at this;rw[b0];exact this
   have QK:∀z:Ext Q,Calls Tryz.prog 188 #[.int .i64 j,.int .i64 0,.int .i64 ((N:Int)-1)] z.w fun e' w'=>e'=.returned (.bool bK)/\z.w=w':=fun z=>by
    have:=aR j 0 ((N:Int)-1) z.w;rw[uC]at this;rw[b1];exact this
   have QI:=Lib.hid QI;have QK:=Lib.hid QK;rw[<-b3,<-b0,<-b1]at a7;have f9:=fun(I A D:Nat) (u1:I<2^N) (u2:A<N) (u3:D<N) (W:World) (h:aD W (.slice a1 l1.length c1) l1)=>EL N hN l1 _ W h c6 c5 I A D u1 u2 u3;have h7:=Lib.hid f9;have h5:=Lib.hid b3;have g9:=Lib.hid b0;have h0:=Lib.hid b1;have HD:=Lib.hid (And.intro d0 (And.intro d1 d2));clear f9 R hs hi hj c6 f7 c5 hf b3 b0 b1 d0 d1 d2
   by_cases b7:(bS=true/\bI=true)/\bK=true
   ·obtain⟨⟨hS,hI⟩,hK⟩:=b7
    subst hS hI hK;have M:dU (N:Int) l1 l4=(i != j&&qB l1 s i j):=by rw[S,a7];rfl
    obtain⟨I,rfl,f8⟩:=qP h5.out.symm;obtain⟨A,rfl,f5⟩:=sZ g9.out.symm;obtain⟨D,rfl,f6⟩:=sZ h0.out.symm;have hv:qB l1 (I:Int) (A:Int) (D:Int)=((!aW I A&&!aW I D)&&jY l1 (I,A,D)):=by unfold qB;simp only[Int.toNat_natCast]
    have c7:=h7.out I A D f8 f5 f6;obtain⟨bad,a6⟩:∃b,b=jY l1 (I,A,D):=⟨_,rfl⟩;simp only[<-a6]at c7;rw[<-a6]at hv;have j1:(2:Nat)^N<=2^5:=Nat.pow_le_pow_right (by decide) hN;have j2:=dY (I:Int) A (by omega) (by omega);have j3:=dY (I:Int) D (by omega) (by omega);have c8:=lK I A;have c9:=lK I D;obtain⟨z1,b8⟩:∃y,y=bR (I:Int) A:=⟨_,rfl⟩;obtain⟨z2,b9⟩:∃y,y=bR (I:Int) D:=⟨_,rfl⟩;rw[<-b8]at j2 c8;rw[<-b9]at j3 c9;rw[hv,<-c8,<-c9]at M;have f4:((A:Int) != (D:Int))=(A != D):=by rw[Bool.eq_iff_iff,bne_iff_ne,bne_iff_ne];omega
    obtain⟨bE,e8⟩:∃b,b=(A != D):=⟨_,rfl⟩;obtain⟨bZ,f3⟩:∃b,b=(z1==0):=⟨_,rfl⟩;obtain⟨bY,f2⟩:∃b,b=(z2==0):=⟨_,rfl⟩;have t1:(A != D)=bE:=e8.symm;have t2:((A:Int) != (D:Int))=bE:=by rw[f4,t1]
    have t3:(z1==0)=bZ:=f3.symm;have t4:(z2==0)=bY:=f2.symm;rw[t2,t3,t4]at M;have U:=Lib.hid M;have h8:=Lib.hid c7;have m2:A<6:=by omega
    have m3:D<6:=by omega
    have k7:I<32:=by omega
    clear S M a7 hv c7 c8 c9 b8 b9 a6 f8 f5 f6 j1 f4 e8 f3 f2;go_enter Tryz.func55,Tryz.ntmps55;go_wp2_with fail;rw[O.out.symm];refine aO _ (by kernel_rfl) (by kernel_rfl) ?_
    repeat(first|go_big_quiet_skip|(go_big_quiet_want;go_big_quiet_op;first|go_big_quiet_on|(apply Exists.intro;refine⟨fun _=>?_,?_⟩;(first|(go_at_call 129;exact aV (Y.out _))|(go_at_call 185;exact aV (Q5.out _))|(go_at_call 188;first|(with_reducible exact aX (QI.out _))|(with_reducible exact aX (QK.out _))));go_big_quiet_on)))
    refine wpQuiet_nil ?_;rintro K ⟨⟨K,o⟩,rfl⟩
    try dsimp only
    have B3:=F.after o F.size;have G3:=(e7.keep o).cell;have F3:=(KF.keep o).cell;have d0:=keep o HD.out.1;have d1:=keep o HD.out.2.1;have d2:=keep o HD.out.2.2;have j0:=g1.keep o;clear e9 f0 f1 y0 y1 y2;go_wp2_with fail;have e9:∀z:Ext K,z.w.cell? ⟨w.heap.size,9,none⟩=some (.slice a4 l4.length c4):=fun z=>z.cell (G3 9);have f1:∀z:Ext K,z.w.cell? ⟨w.heap.size+1,1,none⟩=some (.slice a1 l1.length c1):=fun z=>z.cell (F3 1);have y1:∀z:Ext K,z.w.cell? ⟨b,a8+1,none⟩=some (.int .i64 (A:Int)):=fun z=>z.cell d1;have y2:∀z:Ext K,z.w.cell? ⟨b,a8+2,none⟩=some (.int .i64 (D:Int)):=fun z=>z.cell d2;have QX:=Lib.hid (fun z:Ext K=>h8.out z.w (z.ints j0));clear G3 F3 d0 d1 d2
    cases bE with
    |false=>
     refine aO _ (by kernel_rfl) (by kernel_rfl) ?_
     repeat(first|go_big_quiet_skip|(go_big_quiet_want;go_big_quiet_op;first|go_big_quiet_on|(apply Exists.intro;refine⟨fun _=>?_,?_⟩;(go_at_call 189;exact aV (QX.out _));go_big_quiet_on)))
     refine wpQuiet_nil ?_;rintro w4 ⟨⟨w4,L⟩,rfl⟩
     try dsimp only
     go_wp2;go_ret;exact⟨aE U.out.symm,B3.after L B3.size⟩
    |true=>
     cases bZ with
     |false=>
      refine aO _ (by kernel_rfl) (by kernel_rfl) ?_
      repeat(first|go_big_quiet_skip|(go_big_quiet_want;go_big_quiet_op;first|go_big_quiet_on|(apply Exists.intro;refine⟨fun _=>?_,?_⟩;(go_at_call 189;exact aV (QX.out _));go_big_quiet_on)))
      refine wpQuiet_nil ?_;rintro w4 ⟨⟨w4,L⟩,rfl⟩
      try dsimp only
      go_wp2;go_ret;exact⟨aE U.out.symm,B3.after L B3.size⟩
     |true=>
      cases bY with
      |false=>
       refine aO _ (by kernel_rfl) (by kernel_rfl) ?_
       repeat(first|go_big_quiet_skip|(go_big_quiet_want;go_big_quiet_op;first|go_big_quiet_on|(apply Exists.intro;refine⟨fun _=>?_,?_⟩;(go_at_call 189;exact aV (QX.out _));go_big_quiet_on)))
       refine wpQuiet_nil ?_;rintro w4 ⟨⟨w4,L⟩,rfl⟩
       try dsimp only
       go_wp2;go_ret;exact⟨aE U.out.symm,B3.after L B3.size⟩
      |true=>
       refine aO _ (by kernel_rfl) (by kernel_rfl) ?_
       repeat(first|go_big_quiet_skip|(go_big_quiet_want;go_big_quiet_op;first|go_big_quiet_on|(apply Exists.intro;refine⟨fun _=>?_,?_⟩;(go_at_call 189;exact aV (QX.out _));go_big_quiet_on)))
       refine wpQuiet_nil ?_;rintro w4 ⟨⟨w4,L⟩,rfl⟩
       try dsimp only
       go_wp2;go_ret;exact⟨aE U.out.symm,B3.after L B3.size⟩
   ·have M:dU (N:Int) l1 l4=false:=by
     rw[S,a7]
     cases bS<;>cases bI<;>cases bK<;>simp_all
    have U:=Lib.hid M;clear S M a7
    cases bS with
    |false=>
     go_enter Tryz.func55,Tryz.ntmps55;go_wp2_with fail;rw[O.out.symm];refine aO _ (by kernel_rfl) (by kernel_rfl) ?_
     repeat(first|go_big_quiet_skip|(go_big_quiet_want;go_big_quiet_op;first|go_big_quiet_on|(apply Exists.intro;refine⟨fun _=>?_,?_⟩;(first|(go_at_call 129;exact aV (Y.out _))|(go_at_call 185;exact aV (Q5.out _))|(go_at_call 188;first|(with_reducible exact aX (QI.out _))|(with_reducible exact aX (QK.out _))));go_big_quiet_on)))
     refine wpQuiet_nil ?_;rintro K ⟨⟨K,o⟩,rfl⟩
     try dsimp only
     go_wp2;go_ret;exact⟨aE U.out.symm,F.after o F.size⟩
    |true=>
     cases bI with
     |false=>
      go_enter Tryz.func55,Tryz.ntmps55;go_wp2_with fail;rw[O.out.symm];refine aO _ (by kernel_rfl) (by kernel_rfl) ?_
      repeat(first|go_big_quiet_skip|(go_big_quiet_want;go_big_quiet_op;first|go_big_quiet_on|(apply Exists.intro;refine⟨fun _=>?_,?_⟩;(first|(go_at_call 129;exact aV (Y.out _))|(go_at_call 185;exact aV (Q5.out _))|(go_at_call 188;first|(with_reducible exact aX (QI.out _))|(with_reducible exact aX (QK.out _))));go_big_quiet_on)))
      refine wpQuiet_nil ?_;rintro K ⟨⟨K,o⟩,rfl⟩
      try dsimp only
      go_wp2;go_ret;exact⟨aE U.out.symm,F.after o F.size⟩
     |true=>
      cases bK with
      |false=>
       go_enter Tryz.func55,Tryz.ntmps55;go_wp2_with fail;rw[O.out.symm];refine aO _ (by kernel_rfl) (by kernel_rfl) ?_
       repeat(first|go_big_quiet_skip|(go_big_quiet_want;go_big_quiet_op;first|go_big_quiet_on|(apply Exists.intro;refine⟨fun _=>?_,?_⟩;(first|(go_at_call 129;exact aV (Y.out _))|(go_at_call 185;exact aV (Q5.out _))|(go_at_call 188;first|(with_reducible exact aX (QI.out _))|(with_reducible exact aX (QK.out _))));go_big_quiet_on)))
       refine wpQuiet_nil ?_;rintro K ⟨⟨K,o⟩,rfl⟩
       try dsimp only
       go_wp2;go_ret;exact⟨aE U.out.symm,F.after o F.size⟩
      |true=>exact absurd ⟨⟨rfl,rfl⟩,rfl⟩ b7
  ·have S:dU (N:Int) l1 l4=false:=by unfold dU;rw[decide_eq_false R,Bool.and_false,Bool.false_and]
   have j4:((l4.length:Int) != 3)=true:=by simp;omega
   have U:=Lib.hid S;clear S R c6 c5 hf f7;go_enter Tryz.func55,Tryz.ntmps55;go_wp2_with fail;rw[O.out.symm];refine aO _ (by kernel_rfl) (by kernel_rfl) ?_
   repeat(first|go_big_quiet_skip|(go_big_quiet_want;go_big_quiet_op;first|go_big_quiet_on|(apply Exists.intro;refine⟨fun _=>?_,?_⟩;(go_at_call 129;exact aV (Y.out _));go_big_quiet_on)))
   refine wpQuiet_nil ?_;rintro K ⟨⟨K,o⟩,rfl⟩
   try dsimp only
   go_wp2;go_ret;exact⟨aE U.out.symm,F.after o F.size⟩
end
end Go.Proofs.YtipejodijbjpcaaGreatDoor
