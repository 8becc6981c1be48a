/- Lemmas for CardClaims, part 26 of 52. No condition. -/
import Derived.Test.YtipejodijbjpcaaGreatDoorQ19
set_option maxRecDepth 100000
set_option maxHeartbeats 64000000
namespace Go.Proofs.YtipejodijbjpcaaGreatDoor
section
open Go.RowKit Go.G5
def dF(k n1:Int)(l1:List Int)(n2:Int)(l2:List Int)(n3:Int)(l3:List Int)(q st:Int)(l4:List Int)(M F:Int)(o:List Int)(I:Int)(z:List Int)(K:Int)(A:List Int)(N L:Int)(D:List Int):Bool:=
 decide (k=M)&&((decide (n1=F)&&decide (l1=o))&&((decide (n2=I)&&decide (l2=z))&&((decide (n3=K)&&decide (l3=A))&&(decide (q=N)&&(decide (st=L)&&decide (l4=D))))))
theorem CK(w:World)(k n1:Int)(v1:Value)(l1:List Int)(h1:aD w v1 l1)(_:l1.length<=1048576)(n2:Int)(v2:Value)(l2:List Int)(h2:aD w v2 l2)(_:l2.length<=1048576)(n3:Int)(v3:Value)(l3:List Int)(h3:aD w v3 l3)(_:l3.length<=1048576)(q st:Int)(v4:Value)(l4:List Int)(h4:aD w v4 l4)(_:l4.length<=1048576)(S F:Int)(f2:Value)(A:List Int)(c7:aD w f2 A)(_:A.length<=1048576)(L:Int)(f3:Value)(D:List Int)(e0:aD w f3 D)(_:D.length<=1048576)(M:Int)(f4:Value)(K:List Int)(e7:aD w f4 K)(_:K.length<=1048576)(U z:Int)(f5:Value)(o:List Int)(c6:aD w f5 o)(_:o.length<=1048576):
  Calls Tryz.prog 68 #[clV k n1 v1 n2 v2 n3 v3 q st v4,clV S F f2 L f3 M f4 U z f5] w fun e w'=>e=.returned (.bool (dF k n1 l1 n2 l2 n3 l3 q st l4 S F A L D M K U z o))/\Below w.heap.size w w':=by
 obtain⟨a1,c1,rfl⟩:=h1.shape;obtain⟨a2,c2,rfl⟩:=h2.shape;obtain⟨a3,c3,rfl⟩:=h3.shape;obtain⟨a4,c4,rfl⟩:=h4.shape;obtain⟨a8,b3,rfl⟩:=c7.shape;obtain⟨a9,b4,rfl⟩:=e0.shape;obtain⟨b0,b5,rfl⟩:=e7.shape;obtain⟨b1,b6,rfl⟩:=c6.shape
 cases Y:decide (k=S) with
 |false=>
  have Z:dF k n1 l1 n2 l2 n3 l3 q st l4 S F A L D M K U z o=false:=by
   unfold dF;rw[Y]
   first|done|simp
  have HX:=Lib.hid Z;have tk:(k != S)=true:=by simpa using Y
  clear Z Y;go_enter Tryz.func68,Tryz.ntmps68;go_wp2;go_ret;exact⟨by rw[HX.out];rfl,cD _ _ _⟩
 |true=>
  cases eq:decide (q=U) with
  |false=>
   have Z:dF k n1 l1 n2 l2 n3 l3 q st l4 S F A L D M K U z o=false:=by
    unfold dF;rw[Y,eq]
    first|done|simp
   have HX:=Lib.hid Z;have tk:(k != S)=false:=by simpa using Y
   have tq:(q != U)=true:=by simpa using eq
   clear Z Y eq;go_enter Tryz.func68,Tryz.ntmps68;go_wp2;go_ret;exact⟨by rw[HX.out];rfl,cD _ _ _⟩
  |true=>
   cases Q:decide (st=z) with
   |false=>
    have Z:dF k n1 l1 n2 l2 n3 l3 q st l4 S F A L D M K U z o=false:=by
     unfold dF;rw[Y,eq,Q]
     first|done|simp
    have HX:=Lib.hid Z;have tk:(k != S)=false:=by simpa using Y
    have tq:(q != U)=false:=by simpa using eq
    have tst:(st != z)=true:=by simpa using Q
    clear Z Y eq Q;go_enter Tryz.func68,Tryz.ntmps68;go_wp2;go_ret;exact⟨by rw[HX.out];rfl,cD _ _ _⟩
   |true=>
    cases e4:decide (l4=o) with
    |false=>
     have Z:dF k n1 l1 n2 l2 n3 l3 q st l4 S F A L D M K U z o=false:=by
      unfold dF;rw[Y,eq,Q,e4]
      first|done|simp
     have HX:=Lib.hid Z;have tk:(k != S)=false:=by simpa using Y
     have tq:(q != U)=false:=by simpa using eq
     have tst:(st != z)=false:=by simpa using Q
     have E4:=Lib.hid e4;clear Z Y eq Q e4;go_enter Tryz.func68,Tryz.ntmps68;go_wp2_with fail;refine aH ?_;intro R I;have B:Below w.heap.size w R:=by rw[I];exact cD _ _ _
     have N:aB R w.heap.size 49 (clC k n1 (.slice a1 l1.length c1) n2 (.slice a2 l2.length c2) n3 (.slice a3 l3.length c3) q st (.slice a4 l4.length c4)):=by rw[I];exact(aB.new _ _ _).alloc _
     have O:aB R (w.heap.size+1) 49 (clC S F (.slice a8 A.length b3) L (.slice a9 D.length b4) M (.slice b0 K.length b5) U z (.slice b1 o.length b6)):=by rw[I];have:=aB.new (w.alloc (.cells (clC k n1 (.slice a1 l1.length c1) n2 (.slice a2 l2.length c2) n3 (.slice a3 l3.length c3) q st (.slice a4 l4.length c4)) 49)) 49 (clC S F (.slice a8 A.length b3) L (.slice a9 D.length b4) M (.slice b0 K.length b5) U z (.slice b1 o.length b6));simpa using this
     clear I;refine(fG _ _ l4 o _ (h4.below B (Nat.le_refl _)) (c6.below B (Nat.le_refl _))).mono ?_;rintro e W1 ⟨rfl,e5,hq⟩;have hb:Below R.heap.size R W1:=by rw[hq];exact(Below.refl _ _).drewN' _
     clear hq;rw[E4.out];have B:=B.after hb B.size;have N:=N.keep hb;have O:=O.keep hb;have G1:=N.cell;have G2:=O.cell;clear hb;go_wp2;go_ret;exact⟨by rw[HX.out];rfl,B⟩
    |true=>
     cases e1:(decide (n1=F)&&decide (l1=A)) with
     |false=>
      have Z:dF k n1 l1 n2 l2 n3 l3 q st l4 S F A L D M K U z o=false:=by
       unfold dF;rw[Y,eq,Q,e4,e1]
       first|done|simp
      have HX:=Lib.hid Z;have tk:(k != S)=false:=by simpa using Y
      have tq:(q != U)=false:=by simpa using eq
      have tst:(st != z)=false:=by simpa using Q
      have E4:=Lib.hid e4;have E1:=Lib.hid e1;clear Z Y eq Q e4 e1;go_enter Tryz.func68,Tryz.ntmps68;go_wp2_with fail;refine aH ?_;intro R I;have B:Below w.heap.size w R:=by rw[I];exact cD _ _ _
      have N:aB R w.heap.size 49 (clC k n1 (.slice a1 l1.length c1) n2 (.slice a2 l2.length c2) n3 (.slice a3 l3.length c3) q st (.slice a4 l4.length c4)):=by rw[I];exact(aB.new _ _ _).alloc _
      have O:aB R (w.heap.size+1) 49 (clC S F (.slice a8 A.length b3) L (.slice a9 D.length b4) M (.slice b0 K.length b5) U z (.slice b1 o.length b6)):=by rw[I];have:=aB.new (w.alloc (.cells (clC k n1 (.slice a1 l1.length c1) n2 (.slice a2 l2.length c2) n3 (.slice a3 l3.length c3) q st (.slice a4 l4.length c4)) 49)) 49 (clC S F (.slice a8 A.length b3) L (.slice a9 D.length b4) M (.slice b0 K.length b5) U z (.slice b1 o.length b6));simpa using this
      clear I;refine(fG _ _ l4 o _ (h4.below B (Nat.le_refl _)) (c6.below B (Nat.le_refl _))).mono ?_;rintro e W1 ⟨rfl,e5,hq⟩;have hb:Below R.heap.size R W1:=by rw[hq];exact(Below.refl _ _).drewN' _
      clear hq;rw[E4.out];have B:=B.after hb B.size;have N:=N.keep hb;have O:=O.keep hb;have G1:=N.cell;have G2:=O.cell;clear hb;go_wp2_with fail;clear G1 G2;refine(eL n1 F _ _ l1 A _ (h1.below B (Nat.le_refl _)) (c7.below B (Nat.le_refl _))).mono ?_;rintro e W2 ⟨rfl,hb⟩;rw[E1.out];have B:=B.after hb B.size;have N:=N.keep hb;have O:=O.keep hb;have G1:=N.cell;have G2:=O.cell;clear hb;go_wp2;go_ret;exact⟨by rw[HX.out];rfl,B⟩
     |true=>
      cases e2:(decide (n2=L)&&decide (l2=D)) with
      |false=>
       have Z:dF k n1 l1 n2 l2 n3 l3 q st l4 S F A L D M K U z o=false:=by
        unfold dF;rw[Y,eq,Q,e4,e1,e2]
        first|done|simp
       have HX:=Lib.hid Z;have tk:(k != S)=false:=by simpa using Y
       have tq:(q != U)=false:=by simpa using eq
       have tst:(st != z)=false:=by simpa using Q
       have E4:=Lib.hid e4;have E1:=Lib.hid e1;have E2:=Lib.hid e2;clear Z Y eq Q e4 e1 e2;go_enter Tryz.func68,Tryz.ntmps68;go_wp2_with fail;refine aH ?_;intro R I;have B:Below w.heap.size w R:=by rw[I];exact cD _ _ _
       have N:aB R w.heap.size 49 (clC k n1 (.slice a1 l1.length c1) n2 (.slice a2 l2.length c2) n3 (.slice a3 l3.length c3) q st (.slice a4 l4.length c4)):=by rw[I];exact(aB.new _ _ _).alloc _
       have O:aB R (w.heap.size+1) 49 (clC S F (.slice a8 A.length b3) L (.slice a9 D.length b4) M (.slice b0 K.length b5) U z (.slice b1 o.length b6)):=by rw[I];have:=aB.new (w.alloc (.cells (clC k n1 (.slice a1 l1.length c1) n2 (.slice a2 l2.length c2) n3 (.slice a3 l3.length c3) q st (.slice a4 l4.length c4)) 49)) 49 (clC S F (.slice a8 A.length b3) L (.slice a9 D.length b4) M (.slice b0 K.length b5) U z (.slice b1 o.length b6));simpa using this
       clear I;refine(fG _ _ l4 o _ (h4.below B (Nat.le_refl _)) (c6.below B (Nat.le_refl _))).mono ?_;rintro e W1 ⟨rfl,e5,hq⟩;have hb:Below R.heap.size R W1:=by rw[hq];exact(Below.refl _ _).drewN' _
       clear hq;rw[E4.out];have B:=B.after hb B.size;have N:=N.keep hb;have O:=O.keep hb;have G1:=N.cell;have G2:=O.cell;clear hb;go_wp2_with fail;clear G1 G2;refine(eL n1 F _ _ l1 A _ (h1.below B (Nat.le_refl _)) (c7.below B (Nat.le_refl _))).mono ?_;rintro e W2 ⟨rfl,hb⟩;rw[E1.out];have B:=B.after hb B.size;have N:=N.keep hb;have O:=O.keep hb;have G1:=N.cell;have G2:=O.cell;clear hb;go_wp2_with fail;clear G1 G2;refine(eL n2 L _ _ l2 D _ (h2.below B (Nat.le_refl _)) (e0.below B (Nat.le_refl _))).mono ?_;rintro e W3 ⟨rfl,hb⟩;rw[E2.out];have B:=B.after hb B.size;have N:=N.keep hb;have O:=O.keep hb;have G1:=N.cell;have G2:=O.cell;clear hb;go_wp2;go_ret;exact⟨by rw[HX.out];rfl,B⟩
      |true=>
       cases e3:(decide (n3=M)&&decide (l3=K)) with
       |false=>
        have Z:dF k n1 l1 n2 l2 n3 l3 q st l4 S F A L D M K U z o=false:=by
         unfold dF;rw[Y,eq,Q,e4,e1,e2,e3]
         first|done|simp
        have HX:=Lib.hid Z;have tk:(k != S)=false:=by simpa using Y
        have tq:(q != U)=false:=by simpa using eq
        have tst:(st != z)=false:=by simpa using Q
        have E4:=Lib.hid e4;have E1:=Lib.hid e1;have E2:=Lib.hid e2;have E3:=Lib.hid e3;clear Z Y eq Q e4 e1 e2 e3;go_enter Tryz.func68,Tryz.ntmps68;go_wp2_with fail;refine aH ?_;intro R I;have B:Below w.heap.size w R:=by rw[I];exact cD _ _ _
        have N:aB R w.heap.size 49 (clC k n1 (.slice a1 l1.length c1) n2 (.slice a2 l2.length c2) n3 (.slice a3 l3.length c3) q st (.slice a4 l4.length c4)):=by rw[I];exact(aB.new _ _ _).alloc _
        have O:aB R (w.heap.size+1) 49 (clC S F (.slice a8 A.length b3) L (.slice a9 D.length b4) M (.slice b0 K.length b5) U z (.slice b1 o.length b6)):=by rw[I];have:=aB.new (w.alloc (.cells (clC k n1 (.slice a1 l1.length c1) n2 (.slice a2 l2.length c2) n3 (.slice a3 l3.length c3) q st (.slice a4 l4.length c4)) 49)) 49 (clC S F (.slice a8 A.length b3) L (.slice a9 D.length b4) M (.slice b0 K.length b5) U z (.slice b1 o.length b6));simpa using this
        clear I;refine(fG _ _ l4 o _ (h4.below B (Nat.le_refl _)) (c6.below B (Nat.le_refl _))).mono ?_;rintro e W1 ⟨rfl,e5,hq⟩;have hb:Below R.heap.size R W1:=by rw[hq];exact(Below.refl _ _).drewN' _
        clear hq;rw[E4.out];have B:=B.after hb B.size;have N:=N.keep hb;have O:=O.keep hb;have G1:=N.cell;have G2:=O.cell;clear hb;go_wp2_with fail;clear G1 G2;refine(eL n1 F _ _ l1 A _ (h1.below B (Nat.le_refl _)) (c7.below B (Nat.le_refl _))).mono ?_;rintro e W2 ⟨rfl,hb⟩;rw[E1.out];have B:=B.after hb B.size;have N:=N.keep hb;have O:=O.keep hb;have G1:=N.cell;have G2:=O.cell;clear hb;go_wp2_with fail;clear G1 G2;refine(eL n2 L _ _ l2 D _ (h2.below B (Nat.le_refl _)) (e0.below B (Nat.le_refl _))).mono ?_;rintro e W3 ⟨rfl,hb⟩;rw[E2.out];have B:=B.after hb B.size;have N:=N.keep hb;have O:=O.keep hb;have G1:=N.cell;have G2:=O.cell;clear hb;go_wp2_with fail;clear G1 G2;refine(pK n3 M _ _ l3 K _ (h3.below B (Nat.le_refl _)) (e7.below B (Nat.le_refl _))).mono ?_;rintro e W4 ⟨rfl,hb⟩;rw[E3.out];have B:=B.after hb B.size;have N:=N.keep hb;have O:=O.keep hb;have G1:=N.cell;have G2:=O.cell;clear hb;go_wp2;go_ret;exact⟨by rw[HX.out];rfl,B⟩
       |true=>
        have Z:dF k n1 l1 n2 l2 n3 l3 q st l4 S F A L D M K U z o=true:=by
         unfold dF;rw[Y,eq,Q,e4,e1,e2,e3]
         first|done|simp
        have HX:=Lib.hid Z;have tk:(k != S)=false:=by simpa using Y
        have tq:(q != U)=false:=by simpa using eq
        have tst:(st != z)=false:=by simpa using Q
        have E4:=Lib.hid e4;have E1:=Lib.hid e1;have E2:=Lib.hid e2;have E3:=Lib.hid e3;clear Z Y eq Q e4 e1 e2 e3;go_enter Tryz.func68,Tryz.ntmps68;go_wp2_with fail;refine aH ?_;intro R I;have B:Below w.heap.size w R:=by rw[I];exact cD _ _ _
        have N:aB R w.heap.size 49 (clC k n1 (.slice a1 l1.length c1) n2 (.slice a2 l2.length c2) n3 (.slice a3 l3.length c3) q st (.slice a4 l4.length c4)):=by rw[I];exact(aB.new _ _ _).alloc _
        have O:aB R (w.heap.size+1) 49 (clC S F (.slice a8 A.length b3) L (.slice a9 D.length b4) M (.slice b0 K.length b5) U z (.slice b1 o.length b6)):=by rw[I];have:=aB.new (w.alloc (.cells (clC k n1 (.slice a1 l1.length c1) n2 (.slice a2 l2.length c2) n3 (.slice a3 l3.length c3) q st (.slice a4 l4.length c4)) 49)) 49 (clC S F (.slice a8 A.length b3) L (.slice a9 D.length b4) M (.slice b0 K.length b5) U z (.slice b1 o.length b6));simpa using this
        clear I;refine(fG _ _ l4 o _ (h4.below B (Nat.le_refl _)) (c6.below B (Nat.le_refl _))).mono ?_;rintro e W1 ⟨rfl,e5,hq⟩;have hb:Below R.heap.size R W1:=by rw[hq];exact(Below.refl _ _).drewN' _
        clear hq;rw[E4.out];have B:=B.after hb B.size;have N:=N.keep hb;have O:=O.keep hb;have G1:=N.cell;have G2:=O.cell;clear hb;go_wp2_with fail;clear G1 G2;refine(eL n1 F _ _ l1 A _ (h1.below B (Nat.le_refl _)) (c7.below B (Nat.le_refl _))).mono ?_;rintro e W2 ⟨rfl,hb⟩;rw[E1.out];have B:=B.after hb B.size;have N:=N.keep hb;have O:=O.keep hb;have G1:=N.cell;have G2:=O.cell;clear hb;go_wp2_with fail;clear G1 G2;refine(eL n2 L _ _ l2 D _ (h2.below B (Nat.le_refl _)) (e0.below B (Nat.le_refl _))).mono ?_;rintro e W3 ⟨rfl,hb⟩;rw[E2.out];have B:=B.after hb B.size;have N:=N.keep hb;have O:=O.keep hb;have G1:=N.cell;have G2:=O.cell;clear hb;go_wp2_with fail;clear G1 G2;refine(pK n3 M _ _ l3 K _ (h3.below B (Nat.le_refl _)) (e7.below B (Nat.le_refl _))).mono ?_;rintro e W4 ⟨rfl,hb⟩;rw[E3.out];have B:=B.after hb B.size;have N:=N.keep hb;have O:=O.keep hb;have G1:=N.cell;have G2:=O.cell;clear hb;go_wp2;go_ret;exact⟨by rw[HX.out];rfl,B⟩
theorem sS(w:World)(k n1:Int)(v1:Value)(l1:List Int)(h1:aD w v1 l1)(_:l1.length<=1048576)(n2:Int)(v2:Value)(l2:List Int)(h2:aD w v2 l2)(_:l2.length<=1048576)(n3:Int)(v3:Value)(l3:List Int)(h3:aD w v3 l3)(_:l3.length<=1048576)(q st:Int)(v4:Value)(l4:List Int)(h4:aD w v4 l4)(_:l4.length<=1048576)(Q I:Int)(f2:Value)(z:List Int)(b7:aD w f2 z)(_:z.length<=1048576)(L:Int)(f3:Value)(F:List Int)(b9:aD w f3 F)(_:F.length<=1048576)(M:Int)(f4:Value)(K:List Int)(c7:aD w f4 K)(_:K.length<=1048576)(q' O:Int)(f5:Value)(N:List Int)(e5:aD w f5 N)(_:N.length<=1048576):
  Calls Tryz.prog 42 #[clV k n1 v1 n2 v2 n3 v3 q st v4,clV Q I f2 L f3 M f4 q' O f5] w fun e w'=>e=.returned (.bool (dF k n1 l1 n2 l2 n3 l3 q st l4 Q I z L F M K q' O N))/\Below w.heap.size w w':=by
 obtain⟨a1,c1,rfl⟩:=h1.shape;obtain⟨a2,c2,rfl⟩:=h2.shape;obtain⟨a3,c3,rfl⟩:=h3.shape;obtain⟨a4,c4,rfl⟩:=h4.shape;obtain⟨U,a7,rfl⟩:=b7.shape;obtain⟨Y,a8,rfl⟩:=b9.shape;obtain⟨Z,a9,rfl⟩:=c7.shape;obtain⟨a6,b0,rfl⟩:=e5.shape
 cases ek:decide (k=Q) with
 |false=>
  have hx:dF k n1 l1 n2 l2 n3 l3 q st l4 Q I z L F M K q' O N=false:=by
   unfold dF;rw[ek]
   first|done|simp
  have HX:=Lib.hid hx;have tk:(k==Q)=false:=by simpa using ek
  clear hx ek;go_enter Tryz.func42,Tryz.ntmps42;go_wp2;go_ret;exact⟨by rw[HX.out];rfl,cD _ _ _⟩
 |true=>
  cases e1:(decide (n1=I)&&decide (l1=z)) with
  |false=>
   have hx:dF k n1 l1 n2 l2 n3 l3 q st l4 Q I z L F M K q' O N=false:=by
    unfold dF;rw[ek,e1]
    first|done|simp
   have HX:=Lib.hid hx;have tk:(k==Q)=true:=by simpa using ek
   have E1:=Lib.hid e1;clear hx ek e1;go_enter Tryz.func42,Tryz.ntmps42;go_wp2_with fail;refine aH ?_;intro W0 o;have B:Below w.heap.size w W0:=by rw[o];exact cD _ _ _
   have A:aB W0 w.heap.size 49 (clC k n1 (.slice a1 l1.length c1) n2 (.slice a2 l2.length c2) n3 (.slice a3 l3.length c3) q st (.slice a4 l4.length c4)):=by rw[o];exact(aB.new _ _ _).alloc _
   have D:aB W0 (w.heap.size+1) 49 (clC Q I (.slice U z.length a7) L (.slice Y F.length a8) M (.slice Z K.length a9) q' O (.slice a6 N.length b0)):=by rw[o];have:=aB.new (w.alloc (.cells (clC k n1 (.slice a1 l1.length c1) n2 (.slice a2 l2.length c2) n3 (.slice a3 l3.length c3) q st (.slice a4 l4.length c4)) 49)) 49 (clC Q I (.slice U z.length a7) L (.slice Y F.length a8) M (.slice Z K.length a9) q' O (.slice a6 N.length b0));simpa using this
   clear o;refine(cG n1 I _ _ l1 z _ (h1.below B (Nat.le_refl _)) (b7.below B (Nat.le_refl _))).mono ?_;rintro e W1 ⟨rfl,hb⟩;rw[E1.out];have B:=B.after hb B.size;have A:=A.keep hb;have D:=D.keep hb;have R:=A.cell;have S:=D.cell;clear hb;go_wp2;go_ret;exact⟨by rw[HX.out];rfl,B⟩
  |true=>
   cases e2:(decide (n2=L)&&decide (l2=F)) with
   |false=>
    have hx:dF k n1 l1 n2 l2 n3 l3 q st l4 Q I z L F M K q' O N=false:=by
     unfold dF;rw[ek,e1,e2]
     first|done|simp
    have HX:=Lib.hid hx;have tk:(k==Q)=true:=by simpa using ek
    have E1:=Lib.hid e1;have E2:=Lib.hid e2;clear hx ek e1 e2;go_enter Tryz.func42,Tryz.ntmps42;go_wp2_with fail;refine aH ?_;intro W0 o;have B:Below w.heap.size w W0:=by rw[o];exact cD _ _ _
    have A:aB W0 w.heap.size 49 (clC k n1 (.slice a1 l1.length c1) n2 (.slice a2 l2.length c2) n3 (.slice a3 l3.length c3) q st (.slice a4 l4.length c4)):=by rw[o];exact(aB.new _ _ _).alloc _
    have D:aB W0 (w.heap.size+1) 49 (clC Q I (.slice U z.length a7) L (.slice Y F.length a8) M (.slice Z K.length a9) q' O (.slice a6 N.length b0)):=by rw[o];have:=aB.new (w.alloc (.cells (clC k n1 (.slice a1 l1.length c1) n2 (.slice a2 l2.length c2) n3 (.slice a3 l3.length c3) q st (.slice a4 l4.length c4)) 49)) 49 (clC Q I (.slice U z.length a7) L (.slice Y F.length a8) M (.slice Z K.length a9) q' O (.slice a6 N.length b0));simpa using this
    clear o;refine(cG n1 I _ _ l1 z _ (h1.below B (Nat.le_refl _)) (b7.below B (Nat.le_refl _))).mono ?_;rintro e W1 ⟨rfl,hb⟩;rw[E1.out];have B:=B.after hb B.size;have A:=A.keep hb;have D:=D.keep hb;have R:=A.cell;have S:=D.cell;clear hb;go_wp2_with fail;clear R S;refine(cG n2 L _ _ l2 F _ (h2.below B (Nat.le_refl _)) (b9.below B (Nat.le_refl _))).mono ?_;rintro e W2 ⟨rfl,hb⟩;rw[E2.out];have B:=B.after hb B.size;have A:=A.keep hb;have D:=D.keep hb;have R:=A.cell;have S:=D.cell;clear hb;go_wp2;go_ret;exact⟨by rw[HX.out];rfl,B⟩
   |true=>
    cases e3:(decide (n3=M)&&decide (l3=K)) with
    |false=>
     have hx:dF k n1 l1 n2 l2 n3 l3 q st l4 Q I z L F M K q' O N=false:=by
      unfold dF;rw[ek,e1,e2,e3]
      first|done|simp
     have HX:=Lib.hid hx;have tk:(k==Q)=true:=by simpa using ek
     have E1:=Lib.hid e1;have E2:=Lib.hid e2;have E3:=Lib.hid e3;clear hx ek e1 e2 e3;go_enter Tryz.func42,Tryz.ntmps42;go_wp2_with fail;refine aH ?_;intro W0 o;have B:Below w.heap.size w W0:=by rw[o];exact cD _ _ _
     have A:aB W0 w.heap.size 49 (clC k n1 (.slice a1 l1.length c1) n2 (.slice a2 l2.length c2) n3 (.slice a3 l3.length c3) q st (.slice a4 l4.length c4)):=by rw[o];exact(aB.new _ _ _).alloc _
     have D:aB W0 (w.heap.size+1) 49 (clC Q I (.slice U z.length a7) L (.slice Y F.length a8) M (.slice Z K.length a9) q' O (.slice a6 N.length b0)):=by rw[o];have:=aB.new (w.alloc (.cells (clC k n1 (.slice a1 l1.length c1) n2 (.slice a2 l2.length c2) n3 (.slice a3 l3.length c3) q st (.slice a4 l4.length c4)) 49)) 49 (clC Q I (.slice U z.length a7) L (.slice Y F.length a8) M (.slice Z K.length a9) q' O (.slice a6 N.length b0));simpa using this
     clear o;refine(cG n1 I _ _ l1 z _ (h1.below B (Nat.le_refl _)) (b7.below B (Nat.le_refl _))).mono ?_;rintro e W1 ⟨rfl,hb⟩;rw[E1.out];have B:=B.after hb B.size;have A:=A.keep hb;have D:=D.keep hb;have R:=A.cell;have S:=D.cell;clear hb;go_wp2_with fail;clear R S;refine(cG n2 L _ _ l2 F _ (h2.below B (Nat.le_refl _)) (b9.below B (Nat.le_refl _))).mono ?_;rintro e W2 ⟨rfl,hb⟩;rw[E2.out];have B:=B.after hb B.size;have A:=A.keep hb;have D:=D.keep hb;have R:=A.cell;have S:=D.cell;clear hb;go_wp2_with fail;clear R S;refine(gV n3 M _ _ l3 K _ (h3.below B (Nat.le_refl _)) (c7.below B (Nat.le_refl _))).mono ?_;rintro e W3 ⟨rfl,hb⟩;rw[E3.out];have B:=B.after hb B.size;have A:=A.keep hb;have D:=D.keep hb;have R:=A.cell;have S:=D.cell;clear hb;go_wp2;go_ret;exact⟨by rw[HX.out];rfl,B⟩
    |true=>
     cases eq:decide (q=q') with
     |false=>
      have hx:dF k n1 l1 n2 l2 n3 l3 q st l4 Q I z L F M K q' O N=false:=by
       unfold dF;rw[ek,e1,e2,e3,eq]
       first|done|simp
      have HX:=Lib.hid hx;have tk:(k==Q)=true:=by simpa using ek
      have tq:(q==q')=false:=by simpa using eq
      have E1:=Lib.hid e1;have E2:=Lib.hid e2;have E3:=Lib.hid e3;clear hx ek e1 e2 e3 eq;go_enter Tryz.func42,Tryz.ntmps42;go_wp2_with fail;refine aH ?_;intro W0 o;have B:Below w.heap.size w W0:=by rw[o];exact cD _ _ _
      have A:aB W0 w.heap.size 49 (clC k n1 (.slice a1 l1.length c1) n2 (.slice a2 l2.length c2) n3 (.slice a3 l3.length c3) q st (.slice a4 l4.length c4)):=by rw[o];exact(aB.new _ _ _).alloc _
      have D:aB W0 (w.heap.size+1) 49 (clC Q I (.slice U z.length a7) L (.slice Y F.length a8) M (.slice Z K.length a9) q' O (.slice a6 N.length b0)):=by rw[o];have:=aB.new (w.alloc (.cells (clC k n1 (.slice a1 l1.length c1) n2 (.slice a2 l2.length c2) n3 (.slice a3 l3.length c3) q st (.slice a4 l4.length c4)) 49)) 49 (clC Q I (.slice U z.length a7) L (.slice Y F.length a8) M (.slice Z K.length a9) q' O (.slice a6 N.length b0));simpa using this
      clear o;refine(cG n1 I _ _ l1 z _ (h1.below B (Nat.le_refl _)) (b7.below B (Nat.le_refl _))).mono ?_;rintro e W1 ⟨rfl,hb⟩;rw[E1.out];have B:=B.after hb B.size;have A:=A.keep hb;have D:=D.keep hb;have R:=A.cell;have S:=D.cell;clear hb;go_wp2_with fail;clear R S;refine(cG n2 L _ _ l2 F _ (h2.below B (Nat.le_refl _)) (b9.below B (Nat.le_refl _))).mono ?_;rintro e W2 ⟨rfl,hb⟩;rw[E2.out];have B:=B.after hb B.size;have A:=A.keep hb;have D:=D.keep hb;have R:=A.cell;have S:=D.cell;clear hb;go_wp2_with fail;clear R S;refine(gV n3 M _ _ l3 K _ (h3.below B (Nat.le_refl _)) (c7.below B (Nat.le_refl _))).mono ?_;rintro e W3 ⟨rfl,hb⟩;rw[E3.out];have B:=B.after hb B.size;have A:=A.keep hb;have D:=D.keep hb;have R:=A.cell;have S:=D.cell;clear hb;go_wp2;go_ret;exact⟨by rw[HX.out];rfl,B⟩
     |true=>
      cases b6:decide (st=O) with
      |false=>
       have hx:dF k n1 l1 n2 l2 n3 l3 q st l4 Q I z L F M K q' O N=false:=by
        unfold dF;rw[ek,e1,e2,e3,eq,b6]
        first|done|simp
       have HX:=Lib.hid hx;have tk:(k==Q)=true:=by simpa using ek
       have tq:(q==q')=true:=by simpa using eq
       have tst:(st==O)=false:=by simpa using b6
       have E1:=Lib.hid e1;have E2:=Lib.hid e2;have E3:=Lib.hid e3;clear hx ek e1 e2 e3 eq b6;go_enter Tryz.func42,Tryz.ntmps42;go_wp2_with fail;refine aH ?_;intro W0 o;have B:Below w.heap.size w W0:=by rw[o];exact cD _ _ _
       have A:aB W0 w.heap.size 49 (clC k n1 (.slice a1 l1.length c1) n2 (.slice a2 l2.length c2) n3 (.slice a3 l3.length c3) q st (.slice a4 l4.length c4)):=by rw[o];exact(aB.new _ _ _).alloc _
       have D:aB W0 (w.heap.size+1) 49 (clC Q I (.slice U z.length a7) L (.slice Y F.length a8) M (.slice Z K.length a9) q' O (.slice a6 N.length b0)):=by rw[o];have:=aB.new (w.alloc (.cells (clC k n1 (.slice a1 l1.length c1) n2 (.slice a2 l2.length c2) n3 (.slice a3 l3.length c3) q st (.slice a4 l4.length c4)) 49)) 49 (clC Q I (.slice U z.length a7) L (.slice Y F.length a8) M (.slice Z K.length a9) q' O (.slice a6 N.length b0));simpa using this
       clear o;refine(cG n1 I _ _ l1 z _ (h1.below B (Nat.le_refl _)) (b7.below B (Nat.le_refl _))).mono ?_;rintro e W1 ⟨rfl,hb⟩;rw[E1.out];have B:=B.after hb B.size;have A:=A.keep hb;have D:=D.keep hb;have R:=A.cell;have S:=D.cell;clear hb;go_wp2_with fail;clear R S;refine(cG n2 L _ _ l2 F _ (h2.below B (Nat.le_refl _)) (b9.below B (Nat.le_refl _))).mono ?_;rintro e W2 ⟨rfl,hb⟩;rw[E2.out];have B:=B.after hb B.size;have A:=A.keep hb;have D:=D.keep hb;have R:=A.cell;have S:=D.cell;clear hb;go_wp2_with fail;clear R S;refine(gV n3 M _ _ l3 K _ (h3.below B (Nat.le_refl _)) (c7.below B (Nat.le_refl _))).mono ?_;rintro e W3 ⟨rfl,hb⟩;rw[E3.out];have B:=B.after hb B.size;have A:=A.keep hb;have D:=D.keep hb;have R:=A.cell;have S:=D.cell;clear hb;go_wp2;go_ret;exact⟨by rw[HX.out];rfl,B⟩
      |true=>
       cases e4:decide (l4=N) with
       |false=>
        have hx:dF k n1 l1 n2 l2 n3 l3 q st l4 Q I z L F M K q' O N=false:=by
         unfold dF;rw[ek,e1,e2,e3,eq,b6,e4]
         first|done|simp
        have HX:=Lib.hid hx;have tk:(k==Q)=true:=by simpa using ek
        have tq:(q==q')=true:=by simpa using eq
        have tst:(st==O)=true:=by simpa using b6
        have E1:=Lib.hid e1;have E2:=Lib.hid e2;have E3:=Lib.hid e3;have E4:=Lib.hid e4;clear hx ek e1 e2 e3 eq b6 e4;go_enter Tryz.func42,Tryz.ntmps42;go_wp2_with fail;refine aH ?_;intro W0 o;have B:Below w.heap.size w W0:=by rw[o];exact cD _ _ _
        have A:aB W0 w.heap.size 49 (clC k n1 (.slice a1 l1.length c1) n2 (.slice a2 l2.length c2) n3 (.slice a3 l3.length c3) q st (.slice a4 l4.length c4)):=by rw[o];exact(aB.new _ _ _).alloc _
        have D:aB W0 (w.heap.size+1) 49 (clC Q I (.slice U z.length a7) L (.slice Y F.length a8) M (.slice Z K.length a9) q' O (.slice a6 N.length b0)):=by rw[o];have:=aB.new (w.alloc (.cells (clC k n1 (.slice a1 l1.length c1) n2 (.slice a2 l2.length c2) n3 (.slice a3 l3.length c3) q st (.slice a4 l4.length c4)) 49)) 49 (clC Q I (.slice U z.length a7) L (.slice Y F.length a8) M (.slice Z K.length a9) q' O (.slice a6 N.length b0));simpa using this
        clear o;refine(cG n1 I _ _ l1 z _ (h1.below B (Nat.le_refl _)) (b7.below B (Nat.le_refl _))).mono ?_;rintro e W1 ⟨rfl,hb⟩;rw[E1.out];have B:=B.after hb B.size;have A:=A.keep hb;have D:=D.keep hb;have R:=A.cell;have S:=D.cell;clear hb;go_wp2_with fail;clear R S;refine(cG n2 L _ _ l2 F _ (h2.below B (Nat.le_refl _)) (b9.below B (Nat.le_refl _))).mono ?_;rintro e W2 ⟨rfl,hb⟩;rw[E2.out];have B:=B.after hb B.size;have A:=A.keep hb;have D:=D.keep hb;have R:=A.cell;have S:=D.cell;clear hb;go_wp2_with fail;clear R S;refine(gV n3 M _ _ l3 K _ (h3.below B (Nat.le_refl _)) (c7.below B (Nat.le_refl _))).mono ?_;rintro e W3 ⟨rfl,hb⟩;rw[E3.out];have B:=B.after hb B.size;have A:=A.keep hb;have D:=D.keep hb;have R:=A.cell;have S:=D.cell;clear hb;go_wp2_with fail;clear R S;refine(nY _ _ l4 N _ (h4.below B (Nat.le_refl _)) (e5.below B (Nat.le_refl _))).mono ?_;rintro e W4 ⟨rfl,f8,hq⟩;have hb:Below W3.heap.size W3 W4:=by rw[hq];exact(Below.refl _ _).drewN' _
        clear hq;rw[E4.out];have B:=B.after hb B.size;have A:=A.keep hb;have D:=D.keep hb;have R:=A.cell;have S:=D.cell;clear hb;go_wp2;go_ret;exact⟨by rw[HX.out];rfl,B⟩
       |true=>
        have hx:dF k n1 l1 n2 l2 n3 l3 q st l4 Q I z L F M K q' O N=true:=by
         unfold dF;rw[ek,e1,e2,e3,eq,b6,e4]
         first|done|simp
        have HX:=Lib.hid hx;have tk:(k==Q)=true:=by simpa using ek
        have tq:(q==q')=true:=by simpa using eq
        have tst:(st==O)=true:=by simpa using b6
        have E1:=Lib.hid e1;have E2:=Lib.hid e2;have E3:=Lib.hid e3;have E4:=Lib.hid e4;clear hx ek e1 e2 e3 eq b6 e4;go_enter Tryz.func42,Tryz.ntmps42;go_wp2_with fail;refine aH ?_;intro W0 o;have B:Below w.heap.size w W0:=by rw[o];exact cD _ _ _
        have A:aB W0 w.heap.size 49 (clC k n1 (.slice a1 l1.length c1) n2 (.slice a2 l2.length c2) n3 (.slice a3 l3.length c3) q st (.slice a4 l4.length c4)):=by rw[o];exact(aB.new _ _ _).alloc _
        have D:aB W0 (w.heap.size+1) 49 (clC Q I (.slice U z.length a7) L (.slice Y F.length a8) M (.slice Z K.length a9) q' O (.slice a6 N.length b0)):=by rw[o];have:=aB.new (w.alloc (.cells (clC k n1 (.slice a1 l1.length c1) n2 (.slice a2 l2.length c2) n3 (.slice a3 l3.length c3) q st (.slice a4 l4.length c4)) 49)) 49 (clC Q I (.slice U z.length a7) L (.slice Y F.length a8) M (.slice Z K.length a9) q' O (.slice a6 N.length b0));simpa using this
        clear o;refine(cG n1 I _ _ l1 z _ (h1.below B (Nat.le_refl _)) (b7.below B (Nat.le_refl _))).mono ?_;rintro e W1 ⟨rfl,hb⟩;rw[E1.out];have B:=B.after hb B.size;have A:=A.keep hb;have D:=D.keep hb;have R:=A.cell;have S:=D.cell;clear hb;go_wp2_with fail;clear R S;refine(cG n2 L _ _ l2 F _ (h2.below B (Nat.le_refl _)) (b9.below B (Nat.le_refl _))).mono ?_;rintro e W2 ⟨rfl,hb⟩;rw[E2.out];have B:=B.after hb B.size;have A:=A.keep hb;have D:=D.keep hb;have R:=A.cell;have S:=D.cell;clear hb;go_wp2_with fail;clear R S;refine(gV n3 M _ _ l3 K _ (h3.below B (Nat.le_refl _)) (c7.below B (Nat.le_refl _))).mono ?_;rintro e W3 ⟨rfl,hb⟩;rw[E3.out];have B:=B.after hb B.size;have A:=A.keep hb;have D:=D.keep hb;have R:=A.cell;have S:=D.cell;clear hb;go_wp2_with fail;clear R S;refine(nY _ _ l4 N _ (h4.below B (Nat.le_refl _)) (e5.below B (Nat.le_refl _))).mono ?_;rintro e W4 ⟨rfl,f8,hq⟩;have hb:Below W3.heap.size W3 W4:=by rw[hq];exact(Below.refl _ _).drewN' _
        clear hq;rw[E4.out];have B:=B.after hb B.size;have A:=A.keep hb;have D:=D.keep hb;have R:=A.cell;have S:=D.cell;clear hb;go_wp2;go_ret;exact⟨by rw[HX.out];rfl,B⟩
end
end Go.Proofs.YtipejodijbjpcaaGreatDoor
