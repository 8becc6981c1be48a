/- Lemmas for CardClaims, part 32 of 52. No condition. -/
import Derived.Test.YtipejodijbjpcaaGreatDoorQ09
import Derived.Test.YtipejodijbjpcaaGreatDoorQ31
set_option maxRecDepth 100000
set_option maxHeartbeats 64000000
namespace Go.Proofs.YtipejodijbjpcaaGreatDoor
section
open Go.RowKit Go.G5
theorem AQ{P:Program}{w:World}{a:Option Addr}{c:Nat}{l:List Int}(h:aD w (.slice a l.length c) l)(T E:TypeId)(K:P.underlying T=some (.slice E))(I:IntElem P E)(h3:l.length=3):
  ∃b o,w.cell? ⟨b,o,none⟩=some (.int .i64 (l.getD 0 0))/\w.cell? ⟨b,o+1,none⟩=some (.int .i64 (l.getD 1 0))/\w.cell? ⟨b,o+2,none⟩=some (.int .i64 (l.getD 2 0)) /\
   (∀W,(Instr.indexAt T (.slice a l.length c) (.int .i64 0)).run P W=.ok (.pointer (some ⟨b,o,none⟩)) W)/\(∀W,(Instr.indexAt T (.slice a l.length c) (.int .i64 1)).run P W=.ok (.pointer (some ⟨b,o+1,none⟩)) W) /\
   (∀W,(Instr.indexAt T (.slice a l.length c) (.int .i64 2)).run P W=.ok (.pointer (some ⟨b,o+2,none⟩)) W):=by
 obtain⟨_,b,o,_,D,_,z,A,hb⟩:=h.view P T E K I
 injection D with x1 _ x3
 subst x1 x3;have g:∀k,(F:k<l.length)->l[k]=l.getD k 0:=fun k F=>by rw[aJ l k F]
 have c0:=A 0 (by omega);have c1:=A 1 (by omega);have c2:=A 2 (by omega);rw[g]at c0 c1 c2;exact⟨b,o,c0,c1,c2,fun W=>by have:=z W 0 (by omega);simpa using this,fun W=>by have:=z W 1 (by omega);simpa using this,fun W=>by have:=z W 2 (by omega);simpa using this⟩
theorem sZ{N:Nat}{e:Int}(h:fX (N:Int) e=true):∃i:Nat,e=(i:Int)/\i<N:=by
 unfold fX at h;simp only[Bool.and_eq_true,decide_eq_true_eq]at h;obtain⟨i,rfl⟩:=Int.eq_ofNat_of_zero_le h.1;exact⟨i,rfl,by omega⟩
theorem LQ(w:World)(k n1:Int)(v1:Value)(l1:List Int)(h1:aD w v1 l1)(n2:Int)(v2:Value)(l2:List Int)(h2:aD w v2 l2)(n3:Int)(v3:Value)(l3:List Int)(h3:aD w v3 l3)(q st:Int)(v4:Value)(l4:List Int)(h4:aD w v4 l4):
  Calls Tryz.prog 137 #[clV k n1 v1 n2 v2 n3 v3 q st v4] w fun e w'=>e=.returned (.bool (dU n1 l1 l4))/\Below w.heap.size w w':=by
 obtain⟨a1,c1,rfl⟩:=h1.shape;obtain⟨a2,c2,rfl⟩:=h2.shape;obtain⟨a3,c3,rfl⟩:=h3.shape;obtain⟨a4,c4,rfl⟩:=h4.shape;have K0:=aB.new w 49 (clC k n1 (.slice a1 l1.length c1) n2 (.slice a2 l2.length c2) n3 (.slice a3 l3.length c3) q st (.slice a4 l4.length c4));obtain⟨V0,b3⟩:∃V,V=(w.alloc (.cells (clC k n1 (.slice a1 l1.length c1) n2 (.slice a2 l2.length c2) n3 (.slice a3 l3.length c3) q st (.slice a4 l4.length c4)) 49)).alloc (.cells #[.int .i64 n1,.slice a1 l1.length c1] 32):=⟨_,rfl⟩;have Z:Below w.heap.size w V0:=by rw[b3];exact cD _ _ _
 have a6:aB V0 w.heap.size 49 (clC k n1 (.slice a1 l1.length c1) n2 (.slice a2 l2.length c2) n3 (.slice a3 l3.length c3) q st (.slice a4 l4.length c4)):=by rw[b3];exact K0.alloc _
 have KF:aB V0 (w.heap.size+1) 32 #[.int .i64 n1,.slice a1 l1.length c1]:=by
  rw[b3];have:=aB.new (w.alloc (.cells (clC k n1 (.slice a1 l1.length c1) n2 (.slice a2 l2.length c2) n3 (.slice a3 l3.length c3) q st (.slice a4 l4.length c4)) 49)) 32 #[.int .i64 n1,.slice a1 l1.length c1];simpa using this
 have f2:=eZ n1 l1 _ V0 (h1.below Z (Nat.le_refl _));have D:=Lib.hid b3;have c8:∀V,V=V0->Calls Tryz.prog 111 #[.agg #[.int .i64 n1,.slice a1 l1.length c1]] V fun e w'=>e=.returned (.bool (aN n1 l1))/\Below V.heap.size V w':=fun V h=>by rw[h];exact f2
 have K:=Lib.hid c8;clear f2 c8 b3 K0
 cases hf:aN n1 l1 with
 |false=>
  have M:dU n1 l1 l4=false:=by unfold dU;rw[hf];rfl
  rw[hf]at K;have L:=Lib.hid M;clear M hf;go_enter Tryz.func137,Tryz.ntmps137;go_wp2_with fail;refine(K.out _ D.out.symm).mono ?_;rintro e w1 ⟨rfl,A⟩;have j9:w.heap.size<=(w.alloc (.cells (clC k n1 (.slice a1 l1.length c1) n2 (.slice a2 l2.length c2) n3 (.slice a3 l3.length c3) q st (.slice a4 l4.length c4)) 49)).heap.size+1:=by simp
  go_wp2;go_ret;exact⟨aE L.out.symm,(cD _ _ _).after A (cD _ _ _).size⟩
 |true=>
  rw[hf]at K;obtain⟨N,rfl,hN,e5,_,e4⟩:=bN hf
  by_cases a7:l4.length=3
  ·have M:dU (N:Int) l1 l4=(sL (N:Int) (l4.getD 0 0) (l4.getD 1 0) (l4.getD 2 0)&&qB l1 (l4.getD 0 0) (l4.getD 1 0) (l4.getD 2 0)):=by unfold dU;rw[hf,decide_eq_true a7];rfl
   have h0:((l4.length:Int) != 3)=false:=by rw[a7];rfl
   obtain⟨b,k0,d0,d1,d2,i0,i1,i2⟩:=AQ h4 22 3 Tryz.underlying22 aG a7;obtain⟨s,hs⟩:∃s,s=l4.getD 0 0:=⟨_,rfl⟩;obtain⟨i,hi⟩:∃s,s=l4.getD 1 0:=⟨_,rfl⟩;obtain⟨j,hj⟩:∃s,s=l4.getD 2 0:=⟨_,rfl⟩;rw[<-hs]at M d0;rw[<-hi]at M d1;rw[<-hj]at M d2;have a8:=fun W=>jW N s W (by omega);have b9:=fun W=>nK (N:Int) i W;have c5:=fun W=>nK (N:Int) j W;have hex:=fun(O U Y:Nat) (g1:O<2^N) (g2:U<N) (g3:Y<N) (W:World) (h:aD W (.slice a1 l1.length c1) l1)=>AR N hN l1 _ W h e5 e4 O U Y g1 g2 g3;have I:sL (N:Int) s i j=(((bO N s&&fX (N:Int) i)&&fX (N:Int) j)&&i != j):=by unfold sL;rw[Int.toNat_natCast]
   obtain⟨bI,b7⟩:∃b,b=fX (N:Int) i:=⟨_,rfl⟩;obtain⟨bK,b8⟩:∃b,b=fX (N:Int) j:=⟨_,rfl⟩;have b9:∀W,Calls Tryz.prog 248 #[.int .i64 (N:Int),.int .i64 i] W fun e' w'=>e'=.returned (.bool bI)/\W=w':=fun W=>by rw[b7];exact b9 W
   have c5:∀W,Calls Tryz.prog 248 #[.int .i64 (N:Int),.int .i64 j] W fun e' w'=>e'=.returned (.bool bK)/\W=w':=fun W=>by rw[b8];exact c5 W
   rw[<-b7,<-b8]at I;have R:=Lib.hid b9;have S:=Lib.hid c5;have g0:=Lib.hid hex;have f8:=Lib.hid b7;have f9:=Lib.hid b8;clear b9 c5 hex b7 b8 a7 hs hi hj e5 e4 hf
   cases bS:bO N s with
   |false=>
    rw[bS]at a8 I;have Q:=Lib.hid a8;have o:dU (N:Int) l1 l4=false:=by rw[M,I];rfl
    have L:=Lib.hid o;clear M o I a8 bS;go_enter Tryz.func137,Tryz.ntmps137;go_wp2_with fail;refine(K.out _ D.out.symm).mono ?_;rintro e w1 ⟨rfl,A⟩;rw[D.out.symm]at A;have z:=Z.after A Z.size;have G:=(a6.keep A).cell;have F:=(KF.keep A).cell;have d0:=keep z d0;have d1:=keep z d1;have d2:=keep z d2;go_wp2_with fail;go_quiet (fail);go_wp2_with (first|(go_at_call 229;refine(Q.out _).mono ?_;rintro e w' ⟨rfl,rfl⟩)|(go_at_call 248;first|(with_reducible refine(R.out _).mono ?_;rintro e w' ⟨rfl,rfl⟩)|(with_reducible refine(S.out _).mono ?_;rintro e w' ⟨rfl,rfl⟩)));go_ret;exact⟨aE L.out.symm,z.drewN' _⟩
   |true=>
    rw[bS]at a8 I;have Q:=Lib.hid a8;clear a8
    cases bI with
    |false=>
     have o:dU (N:Int) l1 l4=false:=by rw[M,I];rfl
     have L:=Lib.hid o;clear M o I bS;go_enter Tryz.func137,Tryz.ntmps137;go_wp2_with fail;refine(K.out _ D.out.symm).mono ?_;rintro e w1 ⟨rfl,A⟩;rw[D.out.symm]at A;have z:=Z.after A Z.size;have G:=(a6.keep A).cell;have F:=(KF.keep A).cell;have d0:=keep z d0;have d1:=keep z d1;have d2:=keep z d2;go_wp2_with fail;go_quiet (fail);go_wp2_with (first|(go_at_call 229;refine(Q.out _).mono ?_;rintro e w' ⟨rfl,rfl⟩)|(go_at_call 248;first|(with_reducible refine(R.out _).mono ?_;rintro e w' ⟨rfl,rfl⟩)|(with_reducible refine(S.out _).mono ?_;rintro e w' ⟨rfl,rfl⟩)));go_ret;exact⟨aE L.out.symm,z.drewN' _⟩
    |true=>
     cases bK with
     |false=>
      have o:dU (N:Int) l1 l4=false:=by rw[M,I];rfl
      have L:=Lib.hid o;clear M o I bS;go_enter Tryz.func137,Tryz.ntmps137;go_wp2_with fail;refine(K.out _ D.out.symm).mono ?_;rintro e w1 ⟨rfl,A⟩;rw[D.out.symm]at A;have z:=Z.after A Z.size;have G:=(a6.keep A).cell;have F:=(KF.keep A).cell;have d0:=keep z d0;have d1:=keep z d1;have d2:=keep z d2;go_wp2_with fail;go_quiet (fail);go_wp2_with (first|(go_at_call 229;refine(Q.out _).mono ?_;rintro e w' ⟨rfl,rfl⟩)|(go_at_call 248;first|(with_reducible refine(R.out _).mono ?_;rintro e w' ⟨rfl,rfl⟩)|(with_reducible refine(S.out _).mono ?_;rintro e w' ⟨rfl,rfl⟩)));go_ret;exact⟨aE L.out.symm,z.drewN' _⟩
     |true=>
      cases f4:i==j with
      |true=>
       have o:dU (N:Int) l1 l4=false:=by rw[M,I,bne,f4];rfl
       have L:=Lib.hid o;clear M o I bS;go_enter Tryz.func137,Tryz.ntmps137;go_wp2_with fail;refine(K.out _ D.out.symm).mono ?_;rintro e w1 ⟨rfl,A⟩;rw[D.out.symm]at A;have z:=Z.after A Z.size;have G:=(a6.keep A).cell;have F:=(KF.keep A).cell;have d0:=keep z d0;have d1:=keep z d1;have d2:=keep z d2;go_wp2_with fail;go_quiet (fail);go_wp2_with (first|(go_at_call 229;refine(Q.out _).mono ?_;rintro e w' ⟨rfl,rfl⟩)|(go_at_call 248;first|(with_reducible refine(R.out _).mono ?_;rintro e w' ⟨rfl,rfl⟩)|(with_reducible refine(S.out _).mono ?_;rintro e w' ⟨rfl,rfl⟩)));go_ret;exact⟨aE L.out.symm,z.drewN' _⟩
      |false=>
       have o:dU (N:Int) l1 l4=qB l1 s i j:=by rw[M,I,bne,f4];rfl
       obtain⟨O,rfl,f6⟩:=qP bS;obtain⟨U,rfl,f3⟩:=sZ f8.out.symm;obtain⟨Y,rfl,f5⟩:=sZ f9.out.symm;have e6:=g0.out O U Y f6 f3 f5;have hv:qB l1 (O:Int) (U:Int) (Y:Int)=((!aW O U&&!aW O Y)&&jY l1 (O,U,Y)):=by unfold qB;simp only[Int.toNat_natCast]
       have b4:jY l1 (O,U,Y)=decide (0<iL l1 O U Y):=rfl;obtain⟨E,hE⟩:∃E,E=iL l1 O U Y:=⟨_,rfl⟩;simp only[<-hE]at e6;rw[<-hE]at b4;have g6:(2:Nat)^N<=2^5:=Nat.pow_le_pow_right (by decide) hN;have g8:=dY (O:Int) U (by omega) (by omega);have g9:=dY (O:Int) Y (by omega) (by omega);have e7:=lK O U;have a9:=lK O Y;obtain⟨z1,c9⟩:∃y,y=bR (O:Int) U:=⟨_,rfl⟩;obtain⟨z2,e0⟩:∃y,y=bR (O:Int) Y:=⟨_,rfl⟩;rw[<-c9]at g8 e7;rw[<-e0]at g9 a9;rw[hv,b4,<-e7,<-a9]at o;have L:=Lib.hid o;have g4:=Lib.hid e6;have j7:U<6:=by omega
       have j8:Y<6:=by omega
       have i8:O<32:=by omega
       have HP:=Lib.hid h1;clear M o I bS hv b4 e6 e7 a9 c9 e0 hE f6 f3 f5 g6;go_enter Tryz.func137,Tryz.ntmps137;go_wp2_with fail;refine(K.out _ D.out.symm).mono ?_;rintro e w1 ⟨rfl,A⟩;rw[D.out.symm]at A;have z:=Z.after A Z.size;have G:=(a6.keep A).cell;have F:=(KF.keep A).cell;have d0:=keep z d0;have d1:=keep z d1;have d2:=keep z d2;go_wp2_with fail;go_quiet (fail)
       cases f7:z1==0 with
       |false=>
        rw[f7]at L;go_wp2_with (first|(go_at_call 229;refine(Q.out _).mono ?_;rintro e w' ⟨rfl,rfl⟩)|(go_at_call 248;first|(with_reducible refine(R.out _).mono ?_;rintro e w' ⟨rfl,rfl⟩)|(with_reducible refine(S.out _).mono ?_;rintro e w' ⟨rfl,rfl⟩)));go_ret;exact⟨aE L.out.symm,z.drewN' _⟩
       |true=>
        rw[f7]at L
        cases a9:z2==0 with
        |false=>
         rw[a9]at L;go_wp2_with (first|(go_at_call 229;refine(Q.out _).mono ?_;rintro e w' ⟨rfl,rfl⟩)|(go_at_call 248;first|(with_reducible refine(R.out _).mono ?_;rintro e w' ⟨rfl,rfl⟩)|(with_reducible refine(S.out _).mono ?_;rintro e w' ⟨rfl,rfl⟩)));go_ret;exact⟨aE L.out.symm,z.drewN' _⟩
        |true=>
         rw[a9]at L;go_wp2_with (first|(go_at_call 229;refine(Q.out _).mono ?_;rintro e w' ⟨rfl,rfl⟩)|(go_at_call 248;first|(with_reducible refine(R.out _).mono ?_;rintro e w' ⟨rfl,rfl⟩)|(with_reducible refine(S.out _).mono ?_;rintro e w' ⟨rfl,rfl⟩)));refine(g4.out _ ((HP.out.below z (Nat.le_refl _)).drewN _)).mono ?_;rintro e w5 ⟨rfl,b5⟩;go_wp2;go_ret;exact⟨aE L.out.symm,(z.drewN' _).after b5 (z.drewN' _).size⟩
  ·have M:dU (N:Int) l1 l4=false:=by unfold dU;rw[decide_eq_false a7,Bool.and_false,Bool.false_and]
   have h0:((l4.length:Int) != 3)=true:=by simp;omega
   have L:=Lib.hid M;clear M a7 e5 e4 hf;go_enter Tryz.func137,Tryz.ntmps137;go_wp2_with fail;refine(K.out _ D.out.symm).mono ?_;rintro e w1 ⟨rfl,A⟩;rw[D.out.symm]at A;have z:=Z.after A Z.size;have G:=(a6.keep A).cell;go_wp2;go_ret;exact⟨aE L.out.symm,z⟩
end
section
open Go.RowKit Go.G5
theorem RN{N:Nat}{l:List Int}(h:aN (N:Int) l=true):∀k,(z:k<(eW (N:Int) l).length)->-1000<=(eW (N:Int) l)[k]/\(eW (N:Int) l)[k]<=1000:=by
 obtain⟨K,D,_,_,_,o⟩:=bN h;have I:∀y∈eW (N:Int) l,-1000<=y/\y<=1000:=by
  intro y A;unfold eW at A;obtain⟨e,_,rfl⟩:=List.mem_map.1 A;rw[List.getD_eq_getElem?_getD]
  cases F:l[2^e]? with
  |none=>simp
  |some y=>
   obtain⟨hlt,rfl⟩:=List.getElem?_eq_some_iff.1 F;exact o _ hlt
 exact fun k z=>I _ (List.getElem_mem z)
theorem GI(w:World)(k n1:Int)(v1:Value)(l1:List Int)(h1:aD w v1 l1)(n2:Int)(v2:Value)(l2:List Int)(h2:aD w v2 l2)(n3:Int)(v3:Value)(l3:List Int)(h3:aD w v3 l3)(q st:Int)(v4:Value)(l4:List Int)(h4:aD w v4 l4)(f5:l1.length<=1048576)(f6:l2.length<=1048576):
  Calls Tryz.prog 138 #[clV k n1 v1 n2 v2 n3 v3 q st v4] w fun e w'=>e=.returned (.bool (dG n1 l1 n2 l2 q l4))/\Below w.heap.size w w':=by
 obtain⟨a1,c1,rfl⟩:=h1.shape;obtain⟨a2,c2,rfl⟩:=h2.shape;obtain⟨a3,c3,rfl⟩:=h3.shape;obtain⟨a4,c4,rfl⟩:=h4.shape;have K0:=aB.new w 49 (clC k n1 (.slice a1 l1.length c1) n2 (.slice a2 l2.length c2) n3 (.slice a3 l3.length c3) q st (.slice a4 l4.length c4));have o:=nC n2 l2 _ (w.alloc (.cells (clC k n1 (.slice a1 l1.length c1) n2 (.slice a2 l2.length c2) n3 (.slice a3 l3.length c3) q st (.slice a4 l4.length c4)) 49)) (h2.alloc _)
 cases O:bP n2 l2 with
 |false=>
  have F:dG n1 l1 n2 l2 q l4=false:=by unfold dG;rw[O];rfl
  rw[O]at o;have S:=Lib.hid F;have D:=Lib.hid o;clear F o O;go_enter Tryz.func138,Tryz.ntmps138;go_wp2_with fail;refine D.out.mono ?_;rintro e R ⟨rfl,L⟩;go_wp2;go_ret;exact⟨aE S.out.symm,(aM _ _).after L (by simp)⟩
 |true=>
  rw[O]at o;have I:aN n2 l2=true:=by
   have h:=O;unfold bP at h;rw[Bool.and_eq_true]at h;exact h.1
  have A:=fun W (h:aD W (.slice a2 l2.length c2) l2)=>NL n2 l2 _ W h f6
  cases U:iW n2 l2 with
  |false=>
   have F:dG n1 l1 n2 l2 q l4=false:=by unfold dG;rw[O,U];rfl
   simp only[U]at A;have S:=Lib.hid F;have D:=Lib.hid o;have M:=Lib.hid A;clear F o O A U I;go_enter Tryz.func138,Tryz.ntmps138;go_wp2_with fail;refine D.out.mono ?_;rintro e R ⟨rfl,L⟩;have K:Below w.heap.size w R:=(aM _ _).after L (by simp);have G:=(K0.keep L).cell;go_wp2_with fail;refine(M.out R (h2.below K (Nat.le_refl _))).mono ?_;rintro e w2 ⟨rfl,b2⟩;go_wp2;go_ret;exact⟨aE S.out.symm,K.after b2 K.size⟩
  |true=>
   simp only[U]at A
   cases hn:n2==n1 with
   |false=>
    have F:dG n1 l1 n2 l2 q l4=false:=by unfold dG;rw[O,U,hn];rfl
    have f7:(n2 != n1)=true:=by rw[bne,hn];rfl
    have S:=Lib.hid F;have D:=Lib.hid o;have M:=Lib.hid A;clear F o O A U I hn;go_enter Tryz.func138,Tryz.ntmps138;go_wp2_with fail;refine D.out.mono ?_;rintro e R ⟨rfl,L⟩;have K:Below w.heap.size w R:=(aM _ _).after L (by simp);have G:=(K0.keep L).cell;go_wp2_with fail;refine(M.out R (h2.below K (Nat.le_refl _))).mono ?_;rintro e w2 ⟨rfl,b2⟩;have G2:=((K0.keep L).keep b2).cell;clear G;go_wp2;go_ret;exact⟨aE S.out.symm,K.after b2 K.size⟩
   |true=>
    have b8:n2=n1:=by simpa using hn
    subst b8;have F:dG n2 l1 n2 l2 q l4=(fE n2 l1 (eW n2 l2) l4&&q==cH (eW n2 l2) l4 (eW n2 l2).length):=by unfold dG;rw[O,U,hn];rfl
    obtain⟨N,rfl,hN,f8,f9,g0⟩:=bN I;have f7:((N:Int) != (N:Int))=false:=by simp
    have a8:=fun W (h:aD W (.slice a2 l2.length c2) l2)=>KS W N _ l2 h I;have b9:=uA N l2;have a7:=RN I;obtain⟨X,hX⟩:∃X,X=eW (N:Int) l2:=⟨_,rfl⟩;rw[<-hX]at F b9 a7;simp only[<-hX]at a8;obtain⟨bb,Q⟩:∃b,b=fE (N:Int) l1 X l4:=⟨_,rfl⟩;have Z:=fun W (u:Value) (h:aD W (.slice a1 l1.length c1) l1) (hu:aD W u X) (h':aD W (.slice a4 l4.length c4) l4)=>RU W (N:Int) _ l1 h f5 u X hu _ l4 h';simp only[<-Q]at Z;rw[<-Q]at F;have a6:bb=true->∀W (u:Value),aD W u X->aD W (.slice a4 l4.length c4) l4->Calls Tryz.prog 252 #[u,.slice a4 l4.length c4] W fun e w'=>e=.returned (.int .i64 (cH X l4 X.length))/\Below W.heap.size W w':=fun hb W u hu h'=>by
     rw[Q]at hb;have f3:dZ (N:Int) l1 l4=true:=by
      unfold fE at hb;simp only[Bool.and_eq_true]at hb;exact uJ hb.1.2
     obtain⟨g8,g2⟩:=iV (jQ f3).2;exact I5 X l4 u _ W hu h' (by omega) (by omega) a7 g2
    obtain⟨P,hP⟩:∃P,P=cH X l4 X.length:=⟨_,rfl⟩;rw[<-hP]at F;simp only[<-hP]at a6;have S:=Lib.hid F;have D:=Lib.hid o;have M:=Lib.hid A;have c9:=Lib.hid a8;have c7:=Lib.hid Z;have c8:=Lib.hid a6;clear F o O A U I hn a8 Z a6 hP Q hX b9 a7 f8 f9 g0;go_enter Tryz.func138,Tryz.ntmps138;go_wp2_with fail;refine D.out.mono ?_;rintro e R ⟨rfl,L⟩;have K:Below w.heap.size w R:=(aM _ _).after L (by simp);have K1:=K0.keep L;have G:=K1.cell;go_wp2_with fail;refine(M.out R (h2.below K (Nat.le_refl _))).mono ?_;rintro e w2 ⟨rfl,b2⟩;have B2:=K.after b2 K.size;have K2:=K1.keep b2;clear G K0 L K K1 b2;have G:=K2.cell;go_wp2_with fail;refine(c9.out w2 (h2.below B2 (Nat.le_refl _))).mono ?_;rintro e w3 ⟨ps,is,qs,rfl,os,b3⟩;have f4:is=X.length:=os.ints.capLe.1;subst f4;have B3:=B2.after b3 B2.size;have K3:=K2.keep b3;clear G K2 B2 b3;have G:=K3.cell;have b7:=os.ints;have e8:=h1.below B3 (Nat.le_refl _);have b6:=h4.below B3 (Nat.le_refl _);have QB:=Lib.hid (fun z:Ext w3=>c7.out z.w _ (z.ints e8) (z.ints b7) (z.ints b6));have QP:=Lib.hid (fun(hb:bb=true) (z:Ext w3)=>c8.out hb z.w _ (z.ints b7) (z.ints b6));have e1:∀z:Ext w3,z.w.cell? ⟨w.heap.size,1,none⟩=some (.int .i64 (N:Int)):=fun z=>z.cell (G 1);have e2:∀z:Ext w3,z.w.cell? ⟨w.heap.size,2,none⟩=some (.slice a1 l1.length c1):=fun z=>z.cell (G 2);have e7:∀z:Ext w3,z.w.cell? ⟨w.heap.size,7,none⟩=some (.int .i64 q):=fun z=>z.cell (G 7);have e9:∀z:Ext w3,z.w.cell? ⟨w.heap.size,9,none⟩=some (.slice a4 l4.length c4):=fun z=>z.cell (G 9);go_wp2_with fail;clear G os
    cases bb with
    |false=>
     refine aO _ (by kernel_rfl) (by kernel_rfl) ?_
     repeat(first|go_big_quiet_skip|(go_big_quiet_want;go_big_quiet_op;first|go_big_quiet_on|(apply Exists.intro;refine⟨fun _=>?_,?_⟩;(first|(go_at_call 251;exact aV (QB.out _))|(go_at_call 252;exact aV (QP.out rfl _)));go_big_quiet_on)))
     refine wpQuiet_nil ?_;rintro w4 ⟨⟨w4,Y⟩,rfl⟩
     try dsimp only
     go_wp2;go_ret;exact⟨aE S.out.symm,B3.after Y B3.size⟩
    |true=>
     refine aO _ (by kernel_rfl) (by kernel_rfl) ?_
     repeat(first|go_big_quiet_skip|(go_big_quiet_want;go_big_quiet_op;first|go_big_quiet_on|(apply Exists.intro;refine⟨fun _=>?_,?_⟩;(first|(go_at_call 251;exact aV (QB.out _))|(go_at_call 252;exact aV (QP.out rfl _)));go_big_quiet_on)))
     refine wpQuiet_nil ?_;rintro w4 ⟨⟨w4,Y⟩,rfl⟩
     try dsimp only
     go_wp2;go_ret;exact⟨aE S.out.symm,B3.after Y B3.size⟩
end
end Go.Proofs.YtipejodijbjpcaaGreatDoor
