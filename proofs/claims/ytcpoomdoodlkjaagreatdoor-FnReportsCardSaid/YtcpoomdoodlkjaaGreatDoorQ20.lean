/- Lemmas for CardReports. No condition. -/
import Derived.Test.YtcpoomdoodlkjaaGreatDoorQ16
set_option maxRecDepth 100000
set_option maxHeartbeats 64000000
namespace Go.Proofs.YtcpoomdoodlkjaaGreatDoor
section
open Go.RowKit Go.G5 Go.Proofs.Tryz
def zN(o x:List Int)(p:Int):Nat->List Int
 |0=>o
 |k+1=>(zN o x p k).set (x.getD k 0).toNat p
def gH(g:Nat)(L:List Int):Nat->List Int×Int
 |0=>(List.replicate g 0,2^g-1)
 |j+1=>(zN (gH g L j).1 (gX (bK (L.getD j 0) (gH g L j).2)) (60/dL (bK (L.getD j 0) (gH g L j).2)) (gX (bK (L.getD j 0) (gH g L j).2)).length,cM (gH g L j).2 (L.getD j 0))
def eT(g:Int)(l:List Int):List Int:=if fG g l then (gH g.toNat (dM g l) (dM g l).length).1 else []
theorem NC(o x:List Int)(p:Int)(k:Nat):(zN o x p k).length=o.length:=by
 induction k with
 |zero=>rfl
 |succ k ih=>rw[zN,List.length_set,ih]
theorem IB(g:Nat)(L:List Int)(j:Nat):(gH g L j).1.length=g:=by
 induction j with
 |zero=>simp[gH]
 |succ j ih=>rw[gH];simp only;rw[NC,ih]
theorem OQ(g:Nat)(z:g<=6)(L:List Int)(j:Nat):0<=(gH g L j).2/\(gH g L j).2<2^g:=by
 have D:=cO g 6 z
 induction j with
 |zero=>simp only[gH];omega
 |succ j ih=>rw[gH];exact nT _ _ _ ih.1 ih.2
theorem P5(l:List Int)(hl:∀s∈l,0<=s/\s<64):∀n z L,dU l n z=some L->∀s∈L,0<=s/\s<64:=by
 intro n
 induction n with
 |zero=>
  intro z L h;simp only[dU]at h
  split at h
  ·cases h;simp
  ·cases h
 |succ n ih=>
  intro z L h;simp only[dU]at h
  split at h
  ·cases h;simp
  ·split at h
   ·cases h
   ·cases hr:dU l n (cM z (fQ l z)) with
    |none=>rw[hr]at h;cases h
    |some L'=>
     rw[hr]at h
     cases h
     intro s D;rcases List.mem_cons.1 D with rfl|D
     ·exact EH l z hl
     ·exact ih _ _ hr s D
theorem FK(g:Int)(l:List Int):∀s∈dM g l,0<=s/\s<64:=by
 unfold dM gQ
 split
 ·rename_i z
  cases hr:dU l 64 (2^g.toNat-1) with
  |none=>simp
  |some L=>exact P5 l (dY z) _ _ _ hr
 ·simp
theorem FJ{g:Int}{l:List Int}(h:fG g l=true):bJ g l=true:=by
 unfold fG gQ at h
 split at h
 ·rename_i z;exact z
 ·simp at h
theorem uR(g:Int)(l:List Int):(dM g l).length<=64:=by
 unfold dM gQ
 split
 ·cases hr:dU l 64 (2^g.toNat-1) with
  |none=>simp
  |some L=>exact ag2 l _ _ _ hr
 ·simp
theorem N9(s:Int)(h:s<64)(k:Nat)(hk:k<(gX s).length):1<=dL s/\dL s<=8:=by
 have:=WT s h;have:=ER s aK;omega
theorem OR(w:World)(g:Int)(v:Value)(l:List Int)(hv:aR w v l)(a9:l.length<=1048576):
  Calls prog 129 #[.agg #[g,v]] w fun e w'=>∃ad i cp,e=.returned (.tuple #[aI ad i cp,.bool (fG g l)])/\aP 3 w w' (aI ad i cp) (eT g l)/\Below w w w':=by
 obtain⟨a,c,rfl⟩:=hv.shape;obtain⟨I,d1,B1,z1⟩:=Box2.new w g (aI a l.length c) 31;obtain⟨W0,c8⟩:=aQ (w.alloc (.cells #[g,aI a l.length c] 31));rw[<-c8]at I d1 B1 z1;go_enter func129,ntmps129;go_wp2_with fail;rw[<-c8];clear c8;refine(CY _ g _ l (hv.below B1 aO) a9).mono ?_;rintro e w1 ⟨p1,i1,q1,rfl,J,e9⟩;have X1:=(Box2.mk I d1 B1 z1).after e9;clear e9 I d1 B1 z1;obtain⟨I,d1,B1,z1⟩:=X1
 cases M:fG g l with
 |false=>
  have hx:eT g l=[]:=by unfold eT;rw[M];rfl
  have HX:=aN hx;have HG:=aN M;clear hx M J;go_wp2;go_ret2;exact⟨none,0,0,by rw[HG.out];rfl,by rw[HX.out];exact aP.nil _ _ _,B1⟩
 |true=>
  have hf:=FJ M;obtain⟨h0,h6,_⟩:=dT hf;obtain⟨n,rfl⟩:=Int.eq_ofNat_of_zero_le h0;have hn:n<=6:=aK;have hp:=cO n 6 hn;have o8:(2:Int)^n<=64:=by simpa using hp.1
  have o9:=hp.2;have hx:eT n l=(gH n (dM n l) (dM n l).length).1:=by unfold eT;rw[M];rfl
  have c7:=FK n l;have e7:=uR n l;obtain⟨L,e8⟩:=aQ (dM n l);rw[<-e8]at hx c7 e7 J;obtain⟨p8,q0,e1⟩:=J.shape;simp only[Value.slice.injEq]at e1;obtain⟨rfl,rfl,rfl⟩:=e1;have f6:∀W,aR W (aI a l.length c) l->Calls prog 215 #[.agg #[n,aI a l.length c]] W fun e w'=>e=.returned (aM (gH n L 0).2)/\Below W W w':=fun W hW=>jA n _ l W hW aK aK;have i6:=aN f6;have HX:=aN hx;have i8:=aN c7;have j0:=aN J;have rL:=J.lt;have HG:=aN M;clear hx c7 e8 M hf hp f6 J;go_wp2_with (at_make;refine lA rfl _ _ _ rfl 3 underlying24 aS n _ _ rfl rfl rfl rfl aK ?_;intro w2 a6 M;have X2:=(Box2.mk I d1 B1 z1).grow M (by simp);have o6:=M.size;have rO:=a6.lt;have g3:=j0.out.grow M (by intro k hk;cases hk);have k6:=hv.below X2.B aO;clear M I d1;obtain⟨I,d1,B2,z2⟩:=X2);refine(i6.out _ k6).mono ?_;rintro e w3 ⟨rfl,S⟩;have X3:=(Box2.mk I d1 B2 z2).after S;have c6:=a6.keep S;have g4:=g3.keep S;have m5:w1.heap.size<w2.heap.size:=(rO _ rfl).2;have z3:=S.size;clear I d1 B2 z2 a6 g3 S rO;go_wp2_with fail;go_loopw [7,26] (fun lf i wr=>∃j:Nat,j<=L.length/\i=aM j/\lf=aM (gH n L j).2/\aP 3 w1 wr (aI (some ⟨w1,0,none⟩) n n) (gH n L j).1/\aP 3 W0 wr (aI p1 L.length q1) L/\Box2 w wr n (aI a l.length c)/\w2.heap.size<=wr.heap.size)
   (fun _ i _=>L.length-(intOf i).toNat)
  case atStart=>exact⟨0,Nat.zero_le _,rfl,rfl,c6,g4,X3,z3⟩
  case round=>
   obtain⟨j,hj,rfl,rfl,N,J,X,zr⟩:=hrel;obtain⟨wo,rfl⟩:∃wo:World,wo=wr:=⟨_,rfl⟩;clear c6 g4 X3;have D:=OQ n hn L j;have c9:=IB n L j;by_cases hlt:j<L.length
   ·have b0:=i8.out _ (List.getElem_mem hlt);have f5:L.getD j 0=L[j]:=by rw[List.getD_eq_getElem?_getD,List.getElem?_eq_getElem hlt];rfl
    have F:gH n L (j+1)=(zN (gH n L j).1 (gX (bK L[j] (gH n L j).2)) (60/dL (bK L[j] (gH n L j).2)) (gX (bK L[j] (gH n L j).2)).length,cM (gH n L j).2 L[j]):=by rw[gH,f5]
    obtain⟨aL,bL,m8,cL,eL,k1,b8,f3,o3⟩:=J.ints.view prog 24 3 underlying24 aS;simp only[Value.slice.injEq]at eL;obtain⟨rfl,_,rfl⟩:=eL;have b5:=f3 j hlt;have f7:=fun w'=>b8 w' j hlt;obtain⟨s,hs⟩:=aQ (L[j]);rw[<-hs]at b0 F b5;obtain⟨o,ho⟩:=aQ ((gH n L j).1);obtain⟨lf,f9⟩:=aQ ((gH n L j).2);rw[<-ho]at c9 N F;rw[<-f9]at D F ⊢;have d6:=b0.1;have g1:=b0.2;have a9:=D.1;have o7:=D.2;have hA:=eG d6 (show s<4611686018427387904 by omega) a9 aK;have hD:=lV a9 aK d6 g1;have a7:=lU s lf 64 d6 g1;have g2:(bK s lf).toNat<2^n:=by
     have h1:=@Nat.and_le_right s.toNat lf.toNat;have h2:((2^n:Nat):Int)=(2:Int)^n:=by push_cast;rfl
     unfold bK;omega
    have a8:=aaV (bK s lf) n hn g2;obtain⟨x,hx⟩:=aQ (bK s lf);rw[<-hx]at hA a7 a8 F;have b3:=N9 x aK;obtain⟨E,hE⟩:=aQ (gX x);obtain⟨z,hz⟩:=aQ (dL x);have b6:∀W,Calls prog 184 #[x] W fun e w'=>∃ad i cp,e=.returned (aI ad i cp)/\aP 3 W w' (aI ad i cp) E/\Below W W w':=fun W=>by rw[hE];exact rI x W a7.1 a7.2
    have b9:∀W,Calls prog 165 #[x] W fun e w'=>e=.returned z/\W=w':=fun W=>by rw[hz];exact vL x W a7.1 aK
    rw[<-hE]at a8 F b3;rw[<-hz]at b3 F;have e5:=aN F;have h8:=aN a8;have j5:=aN b3;have e0:=aN b6;have j1:=aN b9;have HW:=aN N;have i7:=aN J;obtain⟨I,d1,B3,g8⟩:=X;clear b0 f5 F hs ho f9 D a7 g2 a8 b3 b6 b9 hE hz hx f3 b8 N J;go_wp2_with fail;refine(e0.out _).mono ?_;rintro e w4 ⟨p4,i4,q4,rfl,oE,Y⟩;obtain⟨p9,q3,e4⟩:=oE.shape;simp only[Value.slice.injEq]at e4;obtain⟨rfl,rfl,rfl⟩:=e4;have X4:=(Box2.mk I d1 B3 g8).after Y;have g6:=HW.out.keep Y;have g5:=i7.out.keep Y;have z4:=Y.size;have rE:=oE.lt;clear I d1 b5 f7 Y;go_wp2_with fail;go_loopw [35] (fun i wr=>∃k:Nat,k<=E.length/\i=aM k/\aP 3 w1 wr (aI (some ⟨w1,0,none⟩) n n) (zN o E (60/z) k)/\aP 3 wo wr (aI p4 E.length q4) E/\aP 3 W0 wr (aI p1 L.length q1) L/\Box2 w wr n (aI a l.length c)/\w2.heap.size<=wr.heap.size)
     (fun i _=>E.length-(intOf i).toNat)
    case atStart=>exact⟨0,Nat.zero_le _,rfl,g6,oE,g5,X4,by omega⟩
    case round=>
     obtain⟨k,hk,rfl,N,oE,J,X,zi⟩:=hrel;obtain⟨wi,rfl⟩:∃wi:World,wi=wr:=⟨_,rfl⟩;clear g6 g5 X4;obtain⟨I,d1,B4,g9⟩:=X;have K:=NC o E (60/z) k;rw[c9]at K;by_cases a1:k<E.length
     ·obtain⟨aE,bE,m7,cE,eE,k0,b7,f0,o2⟩:=oE.ints.view prog 24 3 underlying24 aS;simp only[Value.slice.injEq]at eE;obtain⟨rfl,_,rfl⟩:=eE;have f2:=f0 k a1;have m2:=fun w'=>b7 w' k a1;have f4:=h8.out _ (List.getElem_mem a1);have d8:=j5.out k a1;obtain⟨e,he⟩:∃e:Nat,E[k]=(e:Int):=⟨E[k].toNat,by omega⟩;rw[he]at f2 f4;have g0:zN o E (60/z) (k+1)=(zN o E (60/z) k).set e (60/z):=by rw[zN,show(E.getD k 0).toNat=e by rw[List.getD_eq_getElem?_getD,List.getElem?_eq_getElem a1,Option.getD_some,he];omega]
      have j8:e<n:=aK;have p6:=d8.1;have p7:=d8.2;have p0:0<=60/z:=Int.ediv_nonneg aK aK;have p5:60/z<=60:=Int.ediv_le_self _ aK;have d7:=N.stored K.symm e (60/z) ⟨by omega,by omega⟩;have Z:∃q,wi.cell? ⟨w1.heap.size,e,none⟩=some q:=⟨_,N.cellAt K.symm e (by rw[K];exact j8)⟩;obtain⟨q,Z⟩:=Z;have o5:=N.frozenAt K.symm e;rw[<-g0]at d7;have R:=aN d7;have h7:=aN oE;have O:=aN J;have o4:(0:Int)<=(e:Int):=Int.natCast_nonneg _;have l9:(e:Int)<(n:Int):=aK;have m6:(z==0)=false:=by simp;omega
      clear K f0 b7 he g0 d7 N oE J f4 d8;go_wp2_with (go_at_call 165;refine(j1.out _).mono ?_;rintro e' w' ⟨rfl,rfl⟩);go_roundw
      case rel=>exact⟨k+1,by omega,by go_num,R.out.1,h7.out.grow R.out.2 (fun q hq d5=>by cases hq;have:=(rE _ d5).1;omega),O.out.grow R.out.2 (fun q hq d5=>by cases hq;have:=(rL _ d5).2;omega),(Box2.mk I d1 B4 g9).grow R.out.2 aV,by have:=R.out.2.size;omega⟩
      case measure=>simp[intOf];omega
     ·have f8:k=E.length:=aK;subst f8;have j3:=aN N;have O:=aN J;clear N J oE K;go_wp2;go_roundw
      case rel=>exact⟨j+1,by omega,by go_num,by rw[e5.out],by rw[e5.out];exact j3.out,O.out,⟨I,d1,B4,g9⟩,zi⟩
      case measure=>simp[intOf];omega
   ·have j9:j=L.length:=aK;subst j9;obtain⟨I,d1,B3,g8⟩:=X;have HW:=aN N;clear N J D c9;go_wp2;go_ret2;exact⟨_,_,_,by rw[HG.out];rfl,by rw[HX.out];exact HW.out.mono B1.size,B3⟩
theorem ad9{a b:Int}(z:0<=a):a-bK a b=cM a b:=by
 have:=@Nat.and_le_left a.toNat b.toNat;unfold bK cM cV;omega
theorem acN(w:World)(g:Int)(v:Value)(l:List Int)(hv:aR w v l)(O:l.length<=1048576):
  Calls prog 134 #[.agg #[g,v]] w fun e w'=>∃ad i cp,e=.returned (.tuple #[aI ad i cp,.bool (fG g l)])/\aP 3 w w' (aI ad i cp) (eT g l)/\Below w w w':=by
 obtain⟨a,c,rfl⟩:=hv.shape;obtain⟨M,d1,B1,z1⟩:=Box2.new w g (aI a l.length c) 31;obtain⟨W0,d5⟩:=aQ (w.alloc (.cells #[g,aI a l.length c] 31));rw[<-d5]at M d1 B1 z1;go_enter func134,ntmps134;go_wp2_with fail;rw[<-d5];clear d5;refine(N7 _ g _ l (hv.below B1 aO) O).mono ?_;rintro e w1 ⟨p1,i1,q1,rfl,K,f4⟩;have X1:=(Box2.mk M d1 B1 z1).after f4;clear f4 M d1 B1 z1;obtain⟨M,d1,B1,z1⟩:=X1
 cases Z:fG g l with
 |false=>
  have hx:eT g l=[]:=by unfold eT;rw[Z];rfl
  have HX:=aN hx;have HG:=aN Z;clear hx Z K;go_wp2;go_ret2;exact⟨_,_,_,by rw[HG.out];rfl,by rw[HX.out];exact aP.lit0 w1 B1.size,B1.alloc B1.size _⟩
 |true=>
  have hf:=FJ Z;obtain⟨h0,h6,_⟩:=dT hf;obtain⟨n,rfl⟩:=Int.eq_ofNat_of_zero_le h0;have hn:n<=6:=aK;have hp:=cO n 6 hn;have q2:(2:Int)^n<=64:=by simpa using hp.1
  have q3:=hp.2;have hx:eT n l=(gH n (dM n l) (dM n l).length).1:=by unfold eT;rw[Z];rfl
  have c9:=FK n l;have f2:=uR n l;obtain⟨L,f3⟩:=aQ (dM n l);rw[<-f3]at hx c9 f2 K;obtain⟨r0,r2,e1⟩:=K.shape;simp only[Value.slice.injEq]at e1;obtain⟨rfl,rfl,rfl⟩:=e1;have f9:∀W,Calls prog 187 #[n] W fun e w'=>e=.returned (aM (gH n L 0).2)/\W=w':=fun W=>fE n W aK;have i8:=aN f9;have HX:=aN hx;have j1:=aN c9;have j2:=aN K;have rL:=K.lt;have HG:=aN Z;clear hx c9 f3 Z hf hp f9 K;go_wp2_with (at_make;refine lA rfl _ _ _ rfl 3 underlying24 aS n _ _ rfl rfl rfl rfl aK ?_;intro w2 b0 Z;have X2:=(Box2.mk M d1 B1 z1).grow Z (by simp);have p9:=Z.size;have rO:=b0.lt;have g5:=j2.out.grow Z (by intro k hk;cases hk);have q7:=hv.below X2.B aO;clear Z M d1;obtain⟨M,d1,B2,z2⟩:=X2);refine(i8.out _).mono ?_;rintro e w3 ⟨rfl,rfl⟩;have X3:=Box2.mk M d1 B2 z2;have n0:w1.heap.size<w2.heap.size:=(rO _ rfl).2;clear rO;go_wp2_with fail;go_loopw [7,8] (fun lf i wr=>∃j:Nat,j<=L.length/\i=aM j/\lf=aM (gH n L j).2/\aP 3 w1 wr (aI (some ⟨w1,0,none⟩) n n) (gH n L j).1/\aP 3 W0 wr (aI p1 L.length q1) L/\Box2 w wr n (aI a l.length c)/\w2.heap.size<=wr.heap.size)
   (fun _ i _=>L.length-(intOf i).toNat)
  case atStart=>exact⟨0,Nat.zero_le _,rfl,rfl,b0,g5,X3,aO⟩
  case round=>
   obtain⟨j,hj,rfl,rfl,ow,K,X,zr⟩:=hrel;obtain⟨wo,rfl⟩:∃wo:World,wo=wr:=⟨_,rfl⟩;clear b0 g5 X3;have D:=OQ n hn L j;have d7:=IB n L j;by_cases hlt:j<L.length
   ·have b5:=j1.out _ (List.getElem_mem hlt);have f8:L.getD j 0=L[j]:=by rw[List.getD_eq_getElem?_getD,List.getElem?_eq_getElem hlt];rfl
    have J:gH n L (j+1)=(zN (gH n L j).1 (gX (bK L[j] (gH n L j).2)) (60/dL (bK L[j] (gH n L j).2)) (gX (bK L[j] (gH n L j).2)).length,cM (gH n L j).2 L[j]):=by rw[gH,f8]
    obtain⟨aL,bL,g7,cL,eL,d6,I,a8,k1⟩:=K.ints.view prog 24 3 underlying24 aS;simp only[Value.slice.injEq]at eL;obtain⟨rfl,_,rfl⟩:=eL;have Y:=a8 j hlt;have c6:=fun w'=>I w' j hlt;obtain⟨s,hs⟩:=aQ (L[j]);rw[<-hs]at b5 J Y;obtain⟨o,ho⟩:=aQ ((gH n L j).1);obtain⟨lf,g1⟩:=aQ ((gH n L j).2);rw[<-ho]at d7 ow J;rw[<-g1]at D J ⊢;have d9:=b5.1;have l0:=b5.2;have O:=D.1;have q0:=D.2;have hA:=eG d9 (show s<4611686018427387904 by omega) O aK;have o9:=eG O (show lf<4611686018427387904 by omega) d9 (show s<4611686018427387904 by omega);have hD:=ad9 (a:=lf) (b:=s) O;have p0:=lU lf s 64 O aK;have p5:=nT lf s 64 O aK;have b7:=lU s lf 64 d9 l0;have g4:(bK s lf).toNat<2^n:=by
     have h1:=@Nat.and_le_right s.toNat lf.toNat;have h2:((2^n:Nat):Int)=(2:Int)^n:=by push_cast;rfl
     unfold bK;omega
    have b4:=aaV (bK s lf) n hn g4;obtain⟨x,hx⟩:=aQ (bK s lf);rw[<-hx]at hA b7 b4 J;have b8:=N9 x aK;obtain⟨E,hE⟩:=aQ (gX x);obtain⟨z,hz⟩:=aQ (dL x);have b9:∀W,Calls prog 188 #[x] W fun e w'=>∃ad i cp,e=.returned (aI ad i cp)/\aP 3 W w' (aI ad i cp) E/\Below W W w':=fun W=>by rw[hE];exact SW x W b7.1 b7.2
    have S:((gX x).length:Int)=z:=by rw[hz];exact WT x aK
    rw[<-hE]at b4 J b8 S;rw[<-hz]at b8 J;have e7:=aN J;have j3:=aN hs;have i6:=aN b4;have j8:=aN b8;have e6:=aN b9;have j9:=aN S;have HW:=aN ow;have j0:=aN K;obtain⟨M,d1,B3,h5⟩:=X;clear b5 f8 J hs ho g1 D b7 g4 b4 b8 b9 S hE hz hx a8 I ow K;go_wp2_with fail;refine(e6.out _).mono ?_;rintro e w4 ⟨p4,i4,q4,rfl,oE,a7⟩;obtain⟨r1,r4,e4⟩:=oE.shape;simp only[Value.slice.injEq]at e4;obtain⟨rfl,rfl,rfl⟩:=e4;have X4:=(Box2.mk M d1 B3 h5).after a7;have g8:=HW.out.keep a7;have g6:=j0.out.keep a7;have z4:=a7.size;have rE:=oE.lt;clear M d1 Y c6 a7;go_wp2_with fail;go_loopw [10] (fun i wr=>∃k:Nat,k<=E.length/\i=aM k/\aP 3 w1 wr (aI (some ⟨w1,0,none⟩) n n) (zN o E (60/z) k)/\aP 3 wo wr (aI p4 E.length q4) E/\aP 3 W0 wr (aI p1 L.length q1) L/\Box2 w wr n (aI a l.length c)/\w2.heap.size<=wr.heap.size)
     (fun i _=>E.length-(intOf i).toNat)
    case atStart=>exact⟨0,Nat.zero_le _,rfl,g8,oE,g6,X4,by omega⟩
    case round=>
     obtain⟨k,hk,rfl,ow,oE,K,X,zi⟩:=hrel;obtain⟨wi,rfl⟩:∃wi:World,wi=wr:=⟨_,rfl⟩;clear g8 g6 X4;obtain⟨M,d1,B4,h7⟩:=X;have R:=NC o E (60/z) k;rw[d7]at R;by_cases N:k<E.length
     ·obtain⟨aE,bE,n2,cE,eE,k5,c5,f5,p6⟩:=oE.ints.view prog 24 3 underlying24 aS;simp only[Value.slice.injEq]at eE;obtain⟨rfl,_,rfl⟩:=eE;have f6:=f5 k N;have m8:=fun w'=>c5 w' k N;have f7:=i6.out _ (List.getElem_mem N);have e5:=j8.out k N;obtain⟨e,he⟩:∃e:Nat,E[k]=(e:Int):=⟨E[k].toNat,by omega⟩;rw[he]at f6 f7;have g2:zN o E (60/z) (k+1)=(zN o E (60/z) k).set e (60/z):=by rw[zN,show(E.getD k 0).toNat=e by rw[List.getD_eq_getElem?_getD,List.getElem?_eq_getElem N,Option.getD_some,he];omega]
      have k3:e<n:=aK;have q8:=e5.1;have q9:=e5.2;have q5:0<=60/z:=Int.ediv_nonneg aK aK;have q6:60/z<=60:=Int.ediv_le_self _ aK;have e0:=ow.stored R.symm e (60/z) ⟨by omega,by omega⟩;have a9:∃q,wi.cell? ⟨w1.heap.size,e,none⟩=some q:=⟨_,ow.cellAt R.symm e (by rw[R];exact k3)⟩;obtain⟨q,a9⟩:=a9;have p8:=ow.frozenAt R.symm e;rw[<-g2]at e0;have j4:=aN e0;have h9:=aN oE;have a6:=aN K;have p7:(0:Int)<=(e:Int):=Int.natCast_nonneg _;have m6:(e:Int)<(n:Int):=aK;have n1:(z==0)=false:=by simp;omega
      clear R f5 c5 he g2 e0 ow oE K f7 e5;have c7:=j9.out;have l3:((E.length:Int)==0)=false:=by rw[beq_eq_false_iff_ne];omega
      have g3:(60:Int)/(E.length:Int)=60/z:=by rw[c7]
      have e8:=aN g3;have m4:(1:Int)<=(E.length:Int):=aK;have m5:E≠[]:=by intro h;rw[h]at N;simp at N
      clear g3 c7;go_wp2;go_still_tail 9,aT;go_wp2;have F:=j4.out;rw[<-e8.out]at F;go_roundw
      case rel=>exact⟨k+1,by omega,by go_num,by rw[<-e8.out];exact F.1.drewN 1,(h9.out.grow F.2 (fun q hq d8=>by cases hq;have:=(rE _ d8).1;omega)).drewN 1,(a6.out.grow F.2 (fun q hq d8=>by cases hq;have:=(rL _ d8).2;omega)).drewN 1,((Box2.mk M d1 B4 h7).grow F.2 aV).drewN 1,by have:=F.2.size;simp at this ⊢;omega⟩
      case measure=>simp[intOf];omega
     ·have g0:k=E.length:=aK;subst g0;obtain⟨aL,bL,g7,cL,eL,d6,I,a8,k1⟩:=K.ints.view prog 24 3 underlying24 aS;simp only[Value.slice.injEq]at eL;obtain⟨rfl,_,rfl⟩:=eL;have Y:=a8 j hlt;have c6:=fun w'=>I w' j hlt;rw[<-j3.out]at Y;have j6:=aN ow;have a6:=aN K;clear ow K oE R a8 I;go_wp2;go_roundw
      case rel=>exact⟨j+1,by omega,by go_num,by rw[e7.out],by rw[e7.out];exact j6.out,a6.out,⟨M,d1,B4,h7⟩,zi⟩
      case measure=>simp[intOf];omega
   ·have k4:j=L.length:=aK;subst k4;obtain⟨M,d1,B3,h5⟩:=X;have HW:=aN ow;clear ow K D d7;go_wp2;go_ret2;exact⟨_,_,_,by rw[HG.out];rfl,by rw[HX.out];exact HW.out.mono B1.size,B3⟩
def eS:List Int->Nat->Int->Option (List Int)
 |[],_,left=>if left=0 then some [] else none
 |_::_,0,left=>if left=0 then some [] else none
 |s::t,k+1,left=>if left=0 then some [] else
  match eS t k (cM left s) with
  |some x=>some (s::x)
  |none=>eS t (k+1) left
def fW:List Int->Nat->Int->Option (List Int)
 |[],_,left=>if left=0 then some [] else none
 |_::_,0,left=>if left=0 then some [] else none
 |s::t,k+1,left=>if left=0 then some [] else
  if bK s left=0 then fW t (k+1) left else
  match fW t k (cM left s) with
  |some x=>some (s::x)
  |none=>fW t (k+1) left
theorem tZ(l:List Int)(k:Nat):eS l k 0=some []:=by cases l<;>cases k<;>simp[eS]
theorem uB(l:List Int)(k:Nat):fW l k 0=some []:=by cases l<;>cases k<;>simp[fW]
theorem uA(l:List Int)(left:Int)(h:left≠0):eS l 0 left=none:=by cases l<;>simp[eS,h]
theorem vW(l:List Int)(left:Int)(h:left≠0):fW l 0 left=none:=by cases l<;>simp[fW,h]
theorem GH(k:Nat)(left:Int)(h:left≠0):eS [] k left=none:=by cases k<;>simp[eS,h]
theorem AY(k:Nat)(left:Int)(h:left≠0):fW [] k left=none:=by cases k<;>simp[fW,h]
theorem N8{a b:Int}(z:0<=a)(h:bK b a=0):cM a b=a:=by
 unfold bK at h;unfold cM cV;have hc:a.toNat &&& b.toNat=b.toNat &&& a.toNat:=Nat.and_comm _ _;omega
theorem agH(a b:Int):0<=cM a b:=by unfold cM;omega
theorem adP:∀(t:List Int) (k:Nat) (left:Int),0<=left->eS t k left=none->eS t (k+1) left=fW t (k+1) left/\fW t k left=none:=by
 intro t
 induction t with
 |nil=>
  intro k left F h;by_cases z:left=0
  ·subst z;rw[tZ]at h;cases h
  ·exact⟨by rw[GH _ _ z,AY _ _ z],AY _ _ z⟩
 |cons s t ih=>
  intro k left F h;by_cases z:left=0
  ·subst z;rw[tZ]at h;cases h
  have hd:=agH left s
  cases k with
  |zero=>
   have h1:=ih 0 left F (uA t left z);refine⟨?_,vW _ _ z⟩;simp only[eS,fW,if_neg z];by_cases D:bK s left=0
   ·rw[if_pos D,N8 F D,uA t left z];exact h1.1
   ·rw[if_neg D]
    have e:eS t 0 (cM left s)=fW t 0 (cM left s):=by
     by_cases I:cM left s=0
     ·rw[I,tZ,uB]
     ·rw[uA _ _ I,vW _ _ I]
    rw[e,h1.1]
  |succ k=>
   simp only[eS,if_neg z]at h
   cases h2:eS t k (cM left s) with
   |some x=>rw[h2]at h;cases h
   |none=>
    rw[h2]at h;simp only at h;have h3:=ih k (cM left s) hd h2;have h4:=ih (k+1) left F h;constructor
    ·simp only[eS,fW,if_neg z];by_cases D:bK s left=0
     ·rw[if_pos D,N8 F D,h];exact h4.1
     ·rw[if_neg D,h3.1,h4.1]
    ·simp only[fW,if_neg z];rw[h3.2,h4.2]
     split<;>rfl
def gS(f:Nat->Option (List Int)):Nat->Nat->Option (List Int)
 |_,0=>none
 |k,n+1=>match f k with
  |some x=>some x
  |none=>gS f (k+1) n
theorem aa1(t:List Int)(left:Int)(z:0<=left):∀n k,eS t k left=fW t k left->gS (fun k=>eS t k left) k n=gS (fun k=>fW t k left) k n:=by
 intro n
 induction n with
 |zero=>intro k _;rfl
 |succ n ih=>
  intro k h;simp only[gS];rw[<-h]
  cases hk:eS t k left with
  |some x=>rfl
  |none=>exact ih (k+1) (adP t k left z hk).1
theorem RP(t:List Int)(left:Int)(D:0<=left)(n:Nat):gS (fun k=>eS t k left) 0 n=gS (fun k=>fW t k left) 0 n:=by
 refine aa1 t left D n 0 ?_;by_cases z:left=0
 ·subst z;rw[tZ,uB]
 ·rw[uA _ _ z,vW _ _ z]
def oJ(a b:Int):Prop:=a.toNat ||| b.toNat=b.toNat
theorem O0{a b u:Int}(D:0<=a/\a<64)(hb:0<=b/\b<64)(h1:oJ (cM a b) u)(h2:oJ b u):oJ a u:=by
 unfold oJ at *;have z:=TE a.toNat aK b.toNat aK;have e:(cM a b).toNat=cV a.toNat b.toNat:=by unfold cM;rw[Int.toNat_natCast]
 rw[e]at h1
 generalize u.toNat=U at *
 calc a.toNat ||| U=a.toNat ||| (b.toNat ||| U):=by rw[h2]
  _=(a.toNat ||| b.toNat) ||| U:=by rw[Nat.or_assoc]
  _=(cV a.toNat b.toNat ||| b.toNat) ||| U:=by rw[z]
  _=cV a.toNat b.toNat ||| (b.toNat ||| U):=by rw[Nat.or_assoc]
  _=U:=by rw[h2,h1]
theorem WQ:∀(t:List Int) (k:Nat) (left:Int) (u:Int) (x:List Int),(∀s∈t,(0<=s/\s<64)/\oJ s u)->0<=left->left<64->eS t k left=some x->oJ left u:=by
 intro t
 induction t with
 |nil=>
  intro k left u x _ D h1 h;by_cases z:left=0
  ·subst z;unfold oJ;simp
  ·rw[GH _ _ z]at h;cases h
 |cons s t ih=>
  intro k left u x I D h1 h;by_cases z:left=0
  ·subst z;unfold oJ;simp
  cases k with
  |zero=>rw[uA _ _ z]at h;cases h
  |succ k=>
   simp only[eS,if_neg z]at h;have J:=I s (by simp)
   cases h2:eS t k (cM left s) with
   |some y=>have hd:=nT left s 64 D h1;exact O0 ⟨D,h1⟩ J.1 (ih k _ u y (fun q F=>I q (by simp[F])) hd.1 hd.2 h2) J.2
   |none=>rw[h2]at h;exact ih (k+1) left u x (fun q F=>I q (by simp[F])) D h1 h
theorem O2(l:List Int)(h:∀s∈l,0<=s/\s<64):∀s∈l,(0<=s/\s<64)/\oJ s (dE l):=
 fun s z=>⟨h s z,(O4 l (fun s z=>(h s z).1) 0).1 s z⟩
theorem RA:∀(t:List Int) (k:Nat) (left:Int) (x:List Int),fW t k left=some x->x.length<=k:=by
 intro t
 induction t with
 |nil=>
  intro k left x h;by_cases z:left=0
  ·subst z;rw[uB]at h;cases h;simp
  ·rw[AY _ _ z]at h;cases h
 |cons s t ih=>
  intro k left x h;by_cases z:left=0
  ·subst z;rw[uB]at h;cases h;simp
  cases k with
  |zero=>rw[vW _ _ z]at h;cases h
  |succ k=>
   simp only[fW,if_neg z]at h
   split at h
   ·exact ih _ _ _ h
   ·cases h2:fW t k (cM left s) with
    |some y=>
     rw[h2]at h
     cases h
     have:=ih _ _ _ h2;simp only[List.length_cons];omega
    |none=>rw[h2]at h;exact ih _ _ _ h
def lW(g:Int)(l:List Int):Option (List Int):=if bJ g l then gS (fun k=>fW l k (2^g.toNat-1)) 0 (g.toNat+1) else none
def fK(g:Int)(l:List Int):List Int:=(lW g l).getD []
def jR(g:Int)(l:List Int):Bool:=(lW g l).isSome
theorem YV(f:Nat->Option (List Int))(h:∀k x,f k=some x->x.length<=k):∀n k x,gS f k n=some x->x.length<=k+n:=by
 intro n
 induction n with
 |zero=>intro k x z;cases z
 |succ n ih=>
  intro k x z;simp only[gS]at z
  cases hk:f k with
  |some y=>rw[hk]at z;cases z;have:=h k _ hk;omega
  |none=>rw[hk]at z;have:=ih (k+1) x z;omega
theorem BR(g:Int)(l:List Int):(fK g l).length<=1048576:=by
 unfold fK lW
 split
 ·rename_i z;obtain⟨D,F,_⟩:=dT z
  cases hr:gS (fun k=>fW l k (2^g.toNat-1)) 0 (g.toNat+1) with
  |none=>simp
  |some x=>have:=YV _ (fun k x=>RA l k _ x) _ _ x hr;simp only[Option.getD_some];omega
 ·simp
theorem U4(f:Nat->Option (List Int))(h:∀k,f k=none):∀n k,gS f k n=none:=by
 intro n
 induction n with
 |zero=>intro k;rfl
 |succ n ih=>intro k;simp only[gS,h];exact ih _
theorem Z0{g:Int}{l:List Int}(z:bJ g l=true)(K:dE l≠2^g.toNat-1):lW g l=none:=by
 unfold lW;rw[if_pos z];obtain⟨D,F,J,_⟩:=dT z;have hm:=dY z;have M:=mC D F;have I:=(cO g.toNat 6 aK).2;rw[<-RP l _ aK];refine U4 _ (fun k=>?_) _ _
 cases hr:eS l k (2^g.toNat-1) with
 |none=>rfl
 |some x=>
  exfalso
  apply K
  have h1:=WQ l k _ (dE l) x (O2 l hm) aK aK hr;unfold oJ at h1;have h2:=tX g.toNat l J 0 aK aK;have h3:=@Nat.left_le_or ((2:Int)^g.toNat-1).toNat (dE l).toNat;have h4:dE l=l.foldl fT 0:=rfl;rw[h4]at h1 h3 ⊢;omega
theorem DN(a b i:Nat)(z:a<64)(hb:b<64):(cV a b).testBit i=(a.testBit i&&!b.testBit i):=by
 by_cases D:i<6
 ·have h:∀a,a<64->∀b,b<64->∀i,i<6->(cV a b).testBit i=(a.testBit i&&!b.testBit i):=by decide +kernel
  exact h a z b hb i D
 ·have F:(64:Nat)<=2^i:=Nat.pow_le_pow_right (n:=2) aY (show 6<=i by omega);have hd:=xY a b 64 z;rw[Nat.testBit_lt_two_pow aK,Nat.testBit_lt_two_pow (i:=i) (x:=a) aK];rfl
theorem aeQ(a b c:Nat)(z:a<64)(hb:b<64)(hc:c<64):cV a (b ||| c)=cV (cV a b) c:=by
 apply Nat.eq_of_testBit_eq
 intro i;rw[DN _ _ _ z (agS b c hb hc),DN _ _ _ (xY a b 64 z) hc,DN _ _ _ z hb,Nat.testBit_or]
 cases a.testBit i<;>cases b.testBit i<;>cases c.testBit i<;>rfl
theorem agI{a b c:Int}(z:0<=a/\a<64)(hb:0<=b/\b<64)(hc:0<=c/\c<64):cM a (fT b c)=cM (cM a b) c:=by
 have h:=aeQ a.toNat b.toNat c.toNat aK aK aK;have e1:(fT b c).toNat=b.toNat ||| c.toNat:=by unfold fT;rw[Int.toNat_natCast]
 have e2:(cM a b).toNat=cV a.toNat b.toNat:=by unfold cM;rw[Int.toNat_natCast]
 unfold cM at h e2 ⊢;rw[e1,h,e2]
theorem WI(g:Nat):((2:Int)^g-1).toNat=2^g-1:=by
 have:((2:Int)^g)=((2^g:Nat):Int):=by push_cast;rfl
 rw[this];omega
theorem yW(g:Nat)(u:Int)(z:0<=u)(h1:u<2^g):cM (2^g-1) u=2^g-1-u:=by
 have e:((2:Int)^g)=((2^g:Nat):Int):=by push_cast;rfl
 have h2:u.toNat<2^g:=aK;unfold cM cV;rw[WI,Nat.and_comm,Nat.and_two_pow_sub_one_eq_mod,Nat.mod_eq_of_lt h2];omega
theorem Z6(l:List Int)(s:Int):dE (l++[s])=fT (dE l) s:=by unfold dE;rw[List.foldl_append];rfl
theorem QH(a b:Int):oJ a (fT a b):=by
 unfold oJ fT;rw[Int.toNat_natCast,<-Nat.or_assoc,Nat.or_self]
theorem NI(a b:Int):oJ b (fT a b):=by
 unfold oJ fT;rw[Int.toNat_natCast,Nat.or_comm a.toNat b.toNat,<-Nat.or_assoc,Nat.or_self]
theorem Z2{a b c:Int}(h1:oJ a b)(h2:oJ b c):oJ a c:=by
 unfold oJ at *;rw[<-h2,<-Nat.or_assoc,h1]
theorem YJ(g:Nat)(M:g<=6)(u:Int)(I:0<=u)(h1:u<2^g)(t:List Int)(ht:∀s∈t,0<=s/\s<2^g)(k:Nat)(D:fT u (dE t)≠2^g-1):eS t k (cM (2^g-1) u)=none:=by
 have J:=cO g 6 M;have N:(2:Int)^g<=64:=by simpa using J.1
 have F:=J.2
 cases hr:eS t k (cM (2^g-1) u) with
 |none=>rfl
 |some x=>
  exfalso
  apply D
  have K:=tX g t ht 0 aK F;have z:0<=dE t/\dE t<2^g:=K;have hd:=nT (2^g-1) u 64 aK aK;have h2:=WQ t k _ (dE t) x (O2 t (fun s O=>by have:=ht s O;omega)) hd.1 hd.2 hr;have h3:oJ (2^g-1) (fT u (dE t)):=O0 ⟨by omega,by omega⟩ ⟨I,by omega⟩ (Z2 h2 (NI u _)) (QH u _);have h4:=JN u (dE t) g I z.1 h1 z.2;unfold oJ at h3;have R:=@Nat.left_le_or ((2:Int)^g-1).toNat (fT u (dE t)).toNat;omega
end
section
open Go.RowKit Go.G5 Go.Proofs.Tryz
end
section
open Go.RowKit Go.G5 Go.Proofs.Tryz
end
section
open Go.RowKit Go.G5 Go.Proofs.Tryz
end
section
open Go.RowKit Go.G5 Go.Proofs.Tryz
end
section
open Go.RowKit Go.G5 Go.Proofs.Tryz
end
end Go.Proofs.YtcpoomdoodlkjaaGreatDoor
section
namespace Go.G5
open Go Go.RowKit
theorem dA.lit0{EI EO:TypeId}{B:Nat}(w:World)(hB:B<=w.heap.size):dA EI EO B (w.alloc (.cells #[] EO)) (aI (some ⟨w,0,none⟩) 0 0) []:=
 ⟨[],World.ownsRow_lit w #[] 0 hB (Nat.zero_le _) rfl,by simp⟩
theorem dA.alloc{EI EO:TypeId}{B:Nat}{w:World}{v:Value}{z:List (List Int)}(h:dA EI EO B w v z)(o:Obj):dA EI EO B (w.alloc o) v z:=h.keep (bF w o)
theorem dA.one{EI EO:TypeId}{B:Nat}{w:World}{v:Value}{l:List Int}(h:aP EI B w v l)(hB:B<=w.heap.size):dA EI EO B (w.alloc (.cells #[v] EO)) (aI (some ⟨w,0,none⟩) 1 1) [l]:=by
 refine⟨[v],World.ownsRow_lit w #[v] 1 hB aY rfl,?_⟩;intro k u z
 cases k with
 |zero=>simp only[List.getElem?_cons_zero,Option.some.injEq]at z;subst z;exact⟨l,rfl,h.alloc _⟩
 |succ k=>simp at z
theorem T4{P:Program}{w:World}{EI EO:TypeId}(T ty:TypeId)(hT:P.underlying T=some (.slice EO))(hE:SliceElem P EO)(K:EI≠EO)(B:Nat)(v:Value)(Z:List (List Int))(O:dA EI EO B w v Z)
  (B':Nat) (sv:Value) (ms:List (List Int)) (hs:dA EI EO B' w sv ms) (b0:B<=B') (b7:Z.length+ms.length<=5497558138879) (hB:B<=w.heap.size):
  ∃v' w',(Builtin.append_ #[T,T] ty #[v,sv]).run P w=.ok v' w'/\dA EI EO B w' v' (Z++ms)/\w.grownBy w' v.ownBlock/\uJ w v v':=by
 obtain⟨i,hi,hz,h1,h8⟩:=hE.get;obtain⟨vs,z,M⟩:=O;obtain⟨I,F,S⟩:=hs;have Y:=F;have e0:=F.1;rcases F.2 with⟨rfl,b4⟩|⟨g,cap,a9,rfl,c8,hg,d6,d7,d0,ht⟩
 ·have:ms=[]:=List.eq_nil_of_length_eq_zero b4;subst this;refine⟨v,w,?_,by rw[List.append_nil];exact⟨vs,z,M⟩,World.grownBy.refl w _,.inl rfl⟩;rcases z.2 with⟨rfl,hn⟩|⟨g,cap,a9,rfl,_,_,b5,_⟩
  ·simp[Builtin.append_,run_underlying hT,sizeOf,typeInfo,hi,Builtin.lenOf,Builtin.firstCells]
  ·simp[Builtin.append_,run_underlying hT,sizeOf,typeInfo,hi,Builtin.lenOf,Builtin.firstCells,b5,storeCells]
 ·have N:∀u∈I,u.oneCell'=true:=by intro u hu;obtain⟨j,J,rfl⟩:=List.getElem_of_mem hu;obtain⟨l,_,h4⟩:=S j I[j] (List.getElem?_eq_getElem J);obtain⟨a',n',c',e⟩:=h4.shape3;rw[e];rfl
  obtain⟨v',w',R,h2,h3,_,h5⟩:=run_append_own_at (P:=P) w B T ty EO i (aI none 0 0) 1 24 hT hi hz h1 h8 rfl aY v Z.length vs z ⟨g,0,none⟩ ms.length cap I aK
   (by
    intro j u J;have d5:j<I.length:=by
     rcases Nat.lt_or_ge j I.length with h|h
     ·exact h
     ·rw[List.getElem?_eq_none h]at J;cases J
    have e:(⟨g,0,none⟩:Addr).add j=⟨g,j,none⟩:=by
     unfold Addr.add;split
     ·rename_i h0;rw[h0]
     ·simp
    rw[e,Y.cellAt j aK];exact J)
   N (by unfold maxLen;omega) aK hB
  refine⟨v',w',R,⟨vs++I,by rw[List.length_append];exact h2,fun k q hq=>?_⟩,h3,h5⟩;have hl:=z.1;by_cases hk:k<vs.length
  ·rw[List.getElem?_append_left hk]at hq;obtain⟨l',D,h4⟩:=M k q hq;exact⟨l',by rw[List.getElem?_append_left aK];exact D,h4.grow h3 (AI h4.1 z K)⟩
  ·rw[List.getElem?_append_right aK]at hq;obtain⟨l',D,h4⟩:=S _ q hq;exact⟨l',by rw[List.getElem?_append_right aK,show k-Z.length=k-vs.length by omega];exact D,(h4.grow h3 (AI h4.1 z K)).mono b0⟩
theorem WM{P:Program}{w:World}{EI EO:TypeId}{o:Oper}{a:Act}{K:Act->World->Prop}{Q:Exit->Act->World->Prop}(s x:Operand)(t:TypeId)
  (ho:o.op=.call { callee:=.builtin .append,args:=#[s,x],argTypes:=#[t,t] })
  (Z:P.underlying t=some (.slice EO)) (Y:SliceElem P EO) (O:EI≠EO) (B:Nat) (v:Value) (J:List (List Int)) (hs:a.eval s=v) (D:dA EI EO B w v J)
  (B':Nat) (S:Value) (M:List (List Int)) (hx:a.eval x=S) (R:dA EI EO B' w S M) (N:B<=B') (z:J.length+M.length<=5497558138879) (hB:B<=w.heap.size)
  (h:∀I w',dA EI EO B w' I (J++M)->w.grownBy w' v.ownBlock->uJ w v I->K (a.put o.dst I) w'):o.wp P a w K Q:=by
 obtain⟨I,w',F,h2,h3,h4⟩:=T4 (P:=P) t o.type Z Y O B v J D B' S M R N z hB;unfold Oper.wp execOp;simp only[ho,resolve,invoke,builtin,Sem.run_bind,Sem.run_pure,Result.andThen_ok,List.map_toArray,List.map_cons,List.map_nil,hs,hx,F];exact h I w' h2 h3 h4
theorem LM{P:Program}{w:World}{EI EO:TypeId}{ops:Array Oper}{rest:List Oper}{o:Oper}{a:Act}{Q:Exit->Act->World->Prop}(M:o.guard=none)(s x:Operand)(t:TypeId)
  (ho:o.op=.call { callee:=.builtin .append,args:=#[s,x],argTypes:=#[t,t] })
  (Z:P.underlying t=some (.slice EO)) (S:SliceElem P EO) (N:EI≠EO) (B:Nat) (v:Value) (I:List (List Int)) (hs:a.eval s=v) (D:dA EI EO B w v I)
  (B':Nat) (R:Value) (J:List (List Int)) (hx:a.eval x=R) (O:dA EI EO B' w R J) (K:B<=B') (z:I.length+J.length<=5497558138879) (hB:B<=w.heap.size)
  (h:∀F w',dA EI EO B w' F (I++J)->w.grownBy w' v.ownBlock->uJ w v F->wpList P ops Q rest (a.put o.dst F) w'):wpList P ops Q (o::rest) a w:=
 wpList_plain M fun _ Y=>WM s x t ho Z S N B v I hs D B' R J hx O K z hB fun F w' h2 h3 h4=>Y _ _ (h F w' h2 h3 h4)
end Go.G5
namespace Go.Proofs.YtcpoomdoodlkjaaGreatDoor
open Go.RowKit Go.G5 Go.Proofs.Tryz
structure Dist (N:Nat) (o:List Int):Prop where
 bd:∀x∈o,0<=x/\x<(N:Int)
 nd:o.Nodup
end Go.Proofs.YtcpoomdoodlkjaaGreatDoor
end
namespace Go.Proofs.YtcpoomdoodlkjaaGreatDoor
section
open Go.RowKit Go.G5 Go.Proofs.Tryz
def b2(b:Bool):Int:=if b then 1 else 0
theorem EV(y e:Nat):dC y e=y.testBit e:=by
 unfold dC Nat.testBit;rw[Nat.shiftRight_eq_div_pow,Nat.one_and_eq_mod_two];rcases Nat.mod_two_eq_zero_or_one (y/2^e) with h|h<;>rw[h]<;>rfl
def EK(p:List Int)(s e:Nat):Int:=if dC s e then p.getD e 0 else 0
def wtE(p:List Int)(s:Nat):Int:=EK p s 0+EK p s 1+EK p s 2+EK p s 3+EK p s 4+EK p s 5
structure PrInv (g:Nat) (l L:List Int) (j:Nat) (p:List Int) (left:Int):Prop where
 run:dU l (64-j) left=some (L.drop j)
 bd:0<=left/\left<2^g
 len:p.length=g
 zero:∀e,e<6->dC left.toNat e=true->p.getD e 0=0
 pos:∀e,0<=p.getD e 0
 top:∀e,p.getD e 0<=60
 yF:wtE p (2^g-1)=60*j
 pay:∀s∈l,wtE p s.toNat<=SG (bR s.toNat)-SG (bR (s.toNat &&& left.toNat))
structure PriceFacts (g:Int) (l:List Int):Prop where
 same:jR g l=fG g l
 greedy:fG g l=true->SO g l (dM g l)=true
 small:fG g l=true->SO g l (fK g l)=true
 less:fG g l=true->(fK g l).length<=(dM g l).length
def ajI(l:List Int):Int:=l.foldl (· + ·) 0
structure PriceSums (g:Int) (l:List Int):Prop where
 total:ajI (eT g l)=60*(dM g l).length
 pays:∀s∈l,wtE (eT g l) s.toNat<=SG (bR s.toNat)
 bound:60*((dM g l).length:Int)<=SG (DH g l).toNat*(fK g l).length
 size:0<=DH g l/\DH g l<=6
 pos:∀e,0<=(eT g l).getD e 0
 top:∀e,(eT g l).getD e 0<=60
 len:(eT g l).length=g.toNat
end
section
open Go.RowKit Go.G5 Go.Proofs.Tryz
end
section
open Go.RowKit Go.G5 Go.Proofs.Tryz
theorem ae4(l:List Int):∀T:List jU,(∀t∈T,vD l t=false)->(gL (iW l) T none)=(none,true):=by
 intro T
 induction T with
 |nil=>intro _;rfl
 |cons t T ih=>
  intro h;have e:iW l none t=(none,true):=by unfold iW;rw[h t (by simp)];rfl
  rw[gL,e,if_pos rfl];exact ih (fun u z=>h u (by simp[z]))
theorem ag1(l:List Int):∀T:List jU,(gL (iW l) T none).1=none->∀t∈T,vD l t=false:=by
 intro T
 induction T with
 |nil=>intro _ t ht;cases ht
 |cons u T ih=>
  intro h t ht;by_cases hb:vD l u=true
  ·have e:iW l none u=(some u,false):=by unfold iW;rw[if_pos hb]
   rw[gL,e]at h;simp at h
  ·have e:iW l none u=(none,true):=by unfold iW;rw[if_neg hb];rfl
   rw[gL,e,if_pos rfl]at h;rcases List.mem_cons.1 ht with rfl|ht
   ·simpa using hb
   ·exact ih h t ht
theorem ahF(n N s i k:Nat)(D:s<N)(z:i<k)(hk:k<n)(h1:dC s i=false)(h2:dC s k=false):(s,i,k)∈jK n N:=by
 obtain⟨r,hr⟩:=D9 n N s i (k+1) D aK aK;rw[hr];refine List.mem_append_left _ (List.mem_append_right _ ?_);rw[mI,h1,h2,decide_eq_true z];simp
theorem afF(s i k:Nat):∀t∈mI s i k,dC t.1 t.2.1=false/\dC t.1 t.2.2=false:=by
 induction k with
 |zero=>intro t h;cases h
 |succ k ih=>
  intro t h;rw[mI,List.mem_append]at h;rcases h with h|h
  ·exact ih t h
  ·split at h
   ·rename_i hc;rw[List.mem_singleton]at h;simp only[Bool.and_eq_true,Bool.not_eq_true']at hc;subst h;exact⟨hc.2.1,hc.2.2⟩
   ·cases h
theorem ac1(n s i:Nat):∀t∈kZ n s i,dC t.1 t.2.1=false/\dC t.1 t.2.2=false:=by
 induction i with
 |zero=>intro t h;cases h
 |succ i ih=>
  intro t h;rw[kZ,List.mem_append]at h;rcases h with h|h
  ·exact ih t h
  ·exact afF s i n t h
theorem ac2(n s:Nat):∀t∈jK n s,dC t.1 t.2.1=false/\dC t.1 t.2.2=false:=by
 induction s with
 |zero=>intro t h;cases h
 |succ s ih=>
  intro t h;rw[jK,List.mem_append]at h;rcases h with h|h
  ·exact ih t h
  ·exact ac1 n s n t h
theorem ag8(N:Nat)(l:List Int)(z:bM N l=true):gR N l=true↔∀s i k:Nat,s<2^N->i<k->k<N->dC s i=false->dC s k=false->kM l s i k<=0:=by
 have I:nR (N:Int) l=zP N l:=by unfold nR;rw[z,if_pos rfl,Int.toNat_natCast]
 constructor
 ·intro h s i k K D hk h1 h2
  have F:zP N l=none:=by
   unfold gR nQ at h;rw[z,I,Bool.true_and,Bool.not_eq_true']at h
   cases J:zP N l with
   |none=>rfl
   |some t=>rw[J]at h;cases h
  have:=ag1 l _ F (s,i,k) (ahF N (2^N) s i k K D hk h1 h2);unfold vD at this;have:=of_decide_eq_false this;dsimp only at this;omega
 ·intro h;have F:zP N l=none:=by unfold zP;rw[ae4 l _ (fun t ht=>by obtain⟨h1,h2,h3⟩:=UI N (2^N) t ht;have hb:=ac2 N (2^N) t ht;unfold vD;exact decide_eq_false (by have:=h t.1 t.2.1 t.2.2 h1 h2 h3 hb.1 hb.2;omega))]
  unfold gR nQ;rw[z,I,F];rfl
theorem DO(l:List Int)(s:Nat):(jZ l).getD s 0=-(l.getD s 0):=by
 by_cases h:s<l.length
 ·rw[aX (jZ l) s (by rw[tT];exact h),XG l s h,aX l s h]
 ·rw[List.getD_eq_getElem?_getD,List.getElem?_eq_none (by rw[tT];omega),List.getD_eq_getElem?_getD,List.getElem?_eq_none aK];rfl
theorem agB(l:List Int)(s i k:Nat):kM (jZ l) s i k=- kM l s i k:=by
 unfold kM;simp only[DO];omega
theorem D8(s e j:Nat):(bU s e).testBit j=(s.testBit j||decide (e=j)):=by
 unfold bU;rw[Nat.testBit_or,Nat.testBit_two_pow]
theorem agC(l:List Int)(s i k:Nat):kM l s i k=eA l (bU s i) k-eA l s k:=by
 unfold kM eA;rw[oN];omega
theorem adT(l:List Int)(s i k:Nat):kM l s i k=kM l s k i:=by
 unfold kM;rw[Nat.or_comm (bU s i)];omega
theorem abC(N:Nat)(l:List Int)(h:∀s i k:Nat,s<2^N->i<k->k<N->dC s i=false->dC s k=false->0<=kM l s i k)
  (A B e:Nat) (hB:B<2^N) (he:e<N) (J:∀j,A.testBit j=true->B.testBit j=true) (D:B.testBit e=false):eA l A e<=eA l B e:=by
 have h':∀s i k:Nat,s<2^N->i≠k->i<N->k<N->s.testBit i=false->s.testBit k=false->0<=kM l s i k:=by
  intro s i k h1 h2 h3 h4 O R;rw[<-EV]at O R;rcases Nat.lt_or_gt_of_ne h2 with S|S
  ·exact h s i k h1 S h4 O R
  ·rw[adT];exact h s k i h1 S h3 R O
 have step:∀j,eA l A e<=eA l (A ||| B%2^j) e:=by
  intro j
  induction j with
  |zero=>simp[Nat.mod_one]
  |succ j ih=>
   by_cases hb:B.testBit j=true/\A.testBit j=false
   ·have z:A ||| B%2^(j+1)=bU (A ||| B%2^j) j:=by
     apply Nat.eq_of_testBit_eq
     intro i;rw[D8,Nat.testBit_or,Nat.testBit_or,Nat.testBit_mod_two_pow,Nat.testBit_mod_two_pow];by_cases F:j=i
     ·subst F;simp[hb.1]
     ·rw[decide_eq_false F,Bool.or_false]
      congr 2
      exact decide_eq_decide.2 ⟨fun q=>by omega,fun q=>by omega⟩
    have Z:j<N:=by
     rcases Nat.lt_or_ge j N with q|q
     ·exact q
     ·have:=Nat.testBit_lt_two_pow (x:=B) (i:=j) (Nat.lt_of_lt_of_le hB (Nat.pow_le_pow_right aY q));rw[this]at hb;cases hb.1
    have hlt:A ||| B%2^j<2^N:=by
     apply Nat.lt_pow_two_of_testBit
     intro i hi;have K:=Nat.testBit_lt_two_pow (x:=B) (i:=i) (Nat.lt_of_lt_of_le hB (Nat.pow_le_pow_right aY hi));rw[Nat.testBit_or,Nat.testBit_mod_two_pow,K]
     cases I:A.testBit i with
     |false=>simp
     |true=>rw[J i I]at K;cases K
    have a1:j≠e:=by intro q;rw[q,D]at hb;cases hb.1
    have h1:(A ||| B%2^j).testBit j=false:=by rw[Nat.testBit_or,Nat.testBit_mod_two_pow,hb.2];simp
    have h2:(A ||| B%2^j).testBit e=false:=by
     rw[Nat.testBit_or,Nat.testBit_mod_two_pow,D]
     cases I:A.testBit e with
     |false=>simp
     |true=>rw[J e I]at D;cases D
    have:=h' _ j e hlt a1 Z he h1 h2;rw[agC]at this;rw[z];omega
   ·have z:A ||| B%2^(j+1)=A ||| B%2^j:=by
     apply Nat.eq_of_testBit_eq
     intro i;rw[Nat.testBit_or,Nat.testBit_or,Nat.testBit_mod_two_pow,Nat.testBit_mod_two_pow];by_cases F:j=i
     ·subst F
      cases I:A.testBit j with
      |true=>simp
      |false=>
       cases Y:B.testBit j with
       |false=>simp
       |true=>exact absurd ⟨Y,I⟩ hb
     ·congr 2
      exact decide_eq_decide.2 ⟨fun q=>by omega,fun q=>by omega⟩
    rw[z];exact ih
 have M:A ||| B%2^N=B:=by
  rw[Nat.mod_eq_of_lt hB]
  apply Nat.eq_of_testBit_eq
  intro i;rw[Nat.testBit_or]
  cases I:A.testBit i with
  |false=>simp
  |true=>rw[J i I];rfl
 have:=step N;rw[M]at this;exact this
structure Perm (N:Nat) (o:List Int):Prop where
 len:o.length=N
 d:Dist N o
theorem Perm.nn{N:Nat}{o:List Int}(h:Perm N o):∀x∈o,0<=x:=fun x z=>(h.d.bd x z).1
theorem Perm.fresh{N:Nat}{o:List Int}(h:Perm N o)(k:Nat)(hk:k<o.length):o[k]∉o.take k:=by
 intro hm;have:=h.d.nd;have e:o=o.take k++(o[k]::o.drop (k+1)):=by rw[<-List.drop_eq_getElem_cons hk,List.take_append_drop]
 rw[e]at this;have h2:=(List.nodup_append.1 this).2.2;exact h2 _ hm _ List.mem_cons_self rfl
end
end Go.Proofs.YtcpoomdoodlkjaaGreatDoor
