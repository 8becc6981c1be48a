/- Lemmas for CardReports. No condition. -/
import Derived.Test.YtcpoomdoodlkjaaGreatDoorQ16
set_option maxRecDepth 100000
set_option maxHeartbeats 64000000
namespace Go.Proofs.YtcpoomdoodlkjaaGreatDoor
section
open Go.RowKit Go.G5 Go.Proofs.Tryz
def zI(o x:List Int)(p:Int):Nat->List Int
 |0=>o
 |k+1=>(zI o x p k).set (x.getD k 0).toNat p
def gD(g:Nat)(L:List Int):Nat->List Int×Int
 |0=>(List.replicate g 0,2^g-1)
 |j+1=>(zI (gD g L j).1 (gU (bG (L.getD j 0) (gD g L j).2)) (60/dI (bG (L.getD j 0) (gD g L j).2)) (gU (bG (L.getD j 0) (gD g L j).2)).length,cI (gD g L j).2 (L.getD j 0))
def eQ(g:Int)(l:List Int):List Int:=if fD g l then (gD g.toNat (dJ g l) (dJ g l).length).1 else []
theorem M8(o x:List Int)(p:Int)(k:Nat):(zI o x p k).length=o.length:=by
 induction k with
 |zero=>rfl
 |succ k ih=>rw[zI,List.length_set,ih]
theorem H8(g:Nat)(L:List Int)(j:Nat):(gD g L j).1.length=g:=by
 induction j with
 |zero=>simp[gD]
 |succ j ih=>rw[gD];simp only;rw[M8,ih]
theorem OM(g:Nat)(z:g<=6)(L:List Int)(j:Nat):0<=(gD g L j).2/\(gD g L j).2<2^g:=by
 have D:=cK g 6 z
 induction j with
 |zero=>simp only[gD];omega
 |succ j ih=>rw[gD];exact nQ _ _ _ ih.1 ih.2
theorem P1(l:List Int)(hl:∀s∈l,0<=s/\s<64):∀n z L,dR l n z=some L->∀s∈L,0<=s/\s<64:=by
 intro n
 induction n with
 |zero=>
  intro z L h;simp only[dR]at h
  split at h
  ·cases h;simp
  ·cases h
 |succ n ih=>
  intro z L h;simp only[dR]at h
  split at h
  ·cases h;simp
  ·split at h
   ·cases h
   ·cases hr:dR l n (cI z (fN l z)) with
    |none=>rw[hr]at h;cases h
    |some L'=>
     rw[hr]at h
     cases h
     intro s D;rcases List.mem_cons.1 D with rfl|D
     ·exact EE l z hl
     ·exact ih _ _ hr s D
theorem FH(g:Int)(l:List Int):∀s∈dJ g l,0<=s/\s<64:=by
 unfold dJ gN
 split
 ·rename_i z
  cases hr:dR l 64 (2^g.toNat-1) with
  |none=>simp
  |some L=>exact P1 l (dV z) _ _ _ hr
 ·simp
theorem FG{g:Int}{l:List Int}(h:fD g l=true):bF g l=true:=by
 unfold fD gN at h
 split at h
 ·rename_i z;exact z
 ·simp at h
theorem uO(g:Int)(l:List Int):(dJ g l).length<=64:=by
 unfold dJ gN
 split
 ·cases hr:dR l 64 (2^g.toNat-1) with
  |none=>simp
  |some L=>exact agY l _ _ _ hr
 ·simp
theorem N5(s:Int)(h:s<64)(k:Nat)(hk:k<(gU s).length):1<=dI s/\dI s<=8:=by
 have:=WO s h;have:=EN s aI;omega
theorem ON(w:World)(g:Int)(v:Value)(l:List Int)(hv:aO w v l)(a9:l.length<=1048576):
  Calls prog 129 #[.agg #[g,v]] w fun e w'=>∃ad i cp,e=.returned (.tuple #[ajH ad i cp,.bool (fD g l)])/\aM 3 w w' (ajH ad i cp) (eQ g l)/\Below w w w':=by
 obtain⟨a,c,rfl⟩:=hv.shape;obtain⟨I,d1,B1,z1⟩:=Box2.new w g (ajH a l.length c) 31;obtain⟨W0,c8⟩:=aN (w.alloc (.cells #[g,ajH a l.length c] 31));rw[<-c8]at I d1 B1 z1;go_enter func129,ntmps129;go_wp2_with fail;rw[<-c8];clear c8;refine(CV _ g _ l (hv.below B1 aK) a9).mono ?_;rintro e w1 ⟨p1,i1,q1,rfl,J,e9⟩;have X1:=(Box2.mk I d1 B1 z1).after e9;clear e9 I d1 B1 z1;obtain⟨I,d1,B1,z1⟩:=X1
 cases M:fD g l with
 |false=>
  have hx:eQ g l=[]:=by unfold eQ;rw[M];rfl
  have HX:=aJ hx;have HG:=aJ M;clear hx M J;go_wp2;go_ret2;exact⟨none,0,0,by rw[HG.out];rfl,by rw[HX.out];exact aM.nil _ _ _,B1⟩
 |true=>
  have hf:=FG M;obtain⟨h0,h6,_⟩:=dQ hf;obtain⟨n,rfl⟩:=Int.eq_ofNat_of_zero_le h0;have hn:n<=6:=aI;have hp:=cK n 6 hn;have o8:(2:Int)^n<=64:=by simpa using hp.1
  have o9:=hp.2;have hx:eQ n l=(gD n (dJ n l) (dJ n l).length).1:=by unfold eQ;rw[M];rfl
  have c7:=FH n l;have e7:=uO n l;obtain⟨L,e8⟩:=aN (dJ n l);rw[<-e8]at hx c7 e7 J;obtain⟨p8,q0,e1⟩:=J.shape;simp only[Value.slice.injEq]at e1;obtain⟨rfl,rfl,rfl⟩:=e1;have f6:∀W,aO W (ajH a l.length c) l->Calls prog 215 #[.agg #[n,ajH a l.length c]] W fun e w'=>e=.returned (ajJ (gD n L 0).2)/\Below W W w':=fun W hW=>iW n _ l W hW aI aI;have i6:=aJ f6;have HX:=aJ hx;have i8:=aJ c7;have j0:=aJ J;have rL:=J.lt;have HG:=aJ M;clear hx c7 e8 M hf hp f6 J;go_wp2_with (at_make;refine kX rfl _ _ _ rfl 3 underlying24 aP n _ _ rfl rfl rfl rfl aI ?_;intro w2 a6 M;have X2:=(Box2.mk I d1 B1 z1).grow M (by simp);have o6:=M.size;have rO:=a6.lt;have g3:=j0.out.grow M (by intro k hk;cases hk);have k6:=hv.below X2.B aK;clear M I d1;obtain⟨I,d1,B2,z2⟩:=X2);refine(i6.out _ k6).mono ?_;rintro e w3 ⟨rfl,S⟩;have X3:=(Box2.mk I d1 B2 z2).after S;have c6:=a6.keep S;have g4:=g3.keep S;have m5:w1.heap.size<w2.heap.size:=(rO _ rfl).2;have z3:=S.size;clear I d1 B2 z2 a6 g3 S rO;go_wp2_with fail;go_loopw [7,26] (fun lf i wr=>∃j:Nat,j<=L.length/\i=ajJ j/\lf=ajJ (gD n L j).2/\aM 3 w1 wr (ajH (some ⟨w1,0,none⟩) n n) (gD n L j).1/\aM 3 W0 wr (ajH p1 L.length q1) L/\Box2 w wr n (ajH a l.length c)/\w2.heap.size<=wr.heap.size)
   (fun _ i _=>L.length-(intOf i).toNat)
  case atStart=>exact⟨0,Nat.zero_le _,rfl,rfl,c6,g4,X3,z3⟩
  case round=>
   obtain⟨j,hj,rfl,rfl,N,J,X,zr⟩:=hrel;obtain⟨wo,rfl⟩:∃wo:World,wo=wr:=⟨_,rfl⟩;clear c6 g4 X3;have D:=OM n hn L j;have c9:=H8 n L j;by_cases hlt:j<L.length
   ·have b0:=i8.out _ (List.getElem_mem hlt);have f5:L.getD j 0=L[j]:=by rw[List.getD_eq_getElem?_getD,List.getElem?_eq_getElem hlt];rfl
    have F:gD n L (j+1)=(zI (gD n L j).1 (gU (bG L[j] (gD n L j).2)) (60/dI (bG L[j] (gD n L j).2)) (gU (bG L[j] (gD n L j).2)).length,cI (gD n L j).2 L[j]):=by rw[gD,f5]
    obtain⟨aL,bL,m8,cL,eL,k1,b8,f3,o3⟩:=J.ints.view prog 24 3 underlying24 aP;simp only[Value.slice.injEq]at eL;obtain⟨rfl,_,rfl⟩:=eL;have b5:=f3 j hlt;have f7:=fun w'=>b8 w' j hlt;obtain⟨s,hs⟩:=aN (L[j]);rw[<-hs]at b0 F b5;obtain⟨o,ho⟩:=aN ((gD n L j).1);obtain⟨lf,f9⟩:=aN ((gD n L j).2);rw[<-ho]at c9 N F;rw[<-f9]at D F ⊢;have d6:=b0.1;have g1:=b0.2;have a9:=D.1;have o7:=D.2;have hA:=eB d6 (show s<4611686018427387904 by omega) a9 aI;have hD:=lS a9 aI d6 g1;have a7:=lR s lf 64 d6 g1;have g2:(bG s lf).toNat<2^n:=by
     have h1:=@Nat.and_le_right s.toNat lf.toNat;have h2:((2^n:Nat):Int)=(2:Int)^n:=by push_cast;rfl
     unfold bG;omega
    have a8:=aaR (bG s lf) n hn g2;obtain⟨x,hx⟩:=aN (bG s lf);rw[<-hx]at hA a7 a8 F;have b3:=N5 x aI;obtain⟨E,hE⟩:=aN (gU x);obtain⟨z,hz⟩:=aN (dI x);have b6:∀W,Calls prog 184 #[x] W fun e w'=>∃ad i cp,e=.returned (ajH ad i cp)/\aM 3 W w' (ajH ad i cp) E/\Below W W w':=fun W=>by rw[hE];exact rF x W a7.1 a7.2
    have b9:∀W,Calls prog 165 #[x] W fun e w'=>e=.returned z/\W=w':=fun W=>by rw[hz];exact vI x W a7.1 aI
    rw[<-hE]at a8 F b3;rw[<-hz]at b3 F;have e5:=aJ F;have h8:=aJ a8;have j5:=aJ b3;have e0:=aJ b6;have j1:=aJ b9;have HW:=aJ N;have i7:=aJ J;obtain⟨I,d1,B3,g8⟩:=X;clear b0 f5 F hs ho f9 D a7 g2 a8 b3 b6 b9 hE hz hx f3 b8 N J;go_wp2_with fail;refine(e0.out _).mono ?_;rintro e w4 ⟨p4,i4,q4,rfl,oE,Y⟩;obtain⟨p9,q3,e4⟩:=oE.shape;simp only[Value.slice.injEq]at e4;obtain⟨rfl,rfl,rfl⟩:=e4;have X4:=(Box2.mk I d1 B3 g8).after Y;have g6:=HW.out.keep Y;have g5:=i7.out.keep Y;have z4:=Y.size;have rE:=oE.lt;clear I d1 b5 f7 Y;go_wp2_with fail;go_loopw [35] (fun i wr=>∃k:Nat,k<=E.length/\i=ajJ k/\aM 3 w1 wr (ajH (some ⟨w1,0,none⟩) n n) (zI o E (60/z) k)/\aM 3 wo wr (ajH p4 E.length q4) E/\aM 3 W0 wr (ajH p1 L.length q1) L/\Box2 w wr n (ajH a l.length c)/\w2.heap.size<=wr.heap.size)
     (fun i _=>E.length-(intOf i).toNat)
    case atStart=>exact⟨0,Nat.zero_le _,rfl,g6,oE,g5,X4,by omega⟩
    case round=>
     obtain⟨k,hk,rfl,N,oE,J,X,zi⟩:=hrel;obtain⟨wi,rfl⟩:∃wi:World,wi=wr:=⟨_,rfl⟩;clear g6 g5 X4;obtain⟨I,d1,B4,g9⟩:=X;have K:=M8 o E (60/z) k;rw[c9]at K;by_cases a1:k<E.length
     ·obtain⟨aE,bE,m7,cE,eE,k0,b7,f0,o2⟩:=oE.ints.view prog 24 3 underlying24 aP;simp only[Value.slice.injEq]at eE;obtain⟨rfl,_,rfl⟩:=eE;have f2:=f0 k a1;have m2:=fun w'=>b7 w' k a1;have f4:=h8.out _ (List.getElem_mem a1);have d8:=j5.out k a1;obtain⟨e,he⟩:∃e:Nat,E[k]=(e:Int):=⟨E[k].toNat,by omega⟩;rw[he]at f2 f4;have g0:zI o E (60/z) (k+1)=(zI o E (60/z) k).set e (60/z):=by rw[zI,show(E.getD k 0).toNat=e by rw[List.getD_eq_getElem?_getD,List.getElem?_eq_getElem a1,Option.getD_some,he];omega]
      have j8:e<n:=aI;have p6:=d8.1;have p7:=d8.2;have p0:0<=60/z:=Int.ediv_nonneg aI aI;have p5:60/z<=60:=Int.ediv_le_self _ aI;have d7:=N.stored K.symm e (60/z) ⟨by omega,by omega⟩;have Z:∃q,wi.cell? ⟨w1.heap.size,e,none⟩=some q:=⟨_,N.cellAt K.symm e (by rw[K];exact j8)⟩;obtain⟨q,Z⟩:=Z;have o5:=N.frozenAt K.symm e;rw[<-g0]at d7;have R:=aJ d7;have h7:=aJ oE;have O:=aJ J;have o4:(0:Int)<=(e:Int):=Int.natCast_nonneg _;have l9:(e:Int)<(n:Int):=aI;have m6:(z==0)=false:=by simp;omega
      clear K f0 b7 he g0 d7 N oE J f4 d8;go_wp2_with (go_at_call 165;refine(j1.out _).mono ?_;rintro e' w' ⟨rfl,rfl⟩);go_roundw
      case rel=>exact⟨k+1,by omega,by go_num,R.out.1,h7.out.grow R.out.2 (fun q hq d5=>by cases hq;have:=(rE _ d5).1;omega),O.out.grow R.out.2 (fun q hq d5=>by cases hq;have:=(rL _ d5).2;omega),(Box2.mk I d1 B4 g9).grow R.out.2 aS,by have:=R.out.2.size;omega⟩
      case measure=>simp[intOf];omega
     ·have f8:k=E.length:=aI;subst f8;have j3:=aJ N;have O:=aJ J;clear N J oE K;go_wp2;go_roundw
      case rel=>exact⟨j+1,by omega,by go_num,by rw[e5.out],by rw[e5.out];exact j3.out,O.out,⟨I,d1,B4,g9⟩,zi⟩
      case measure=>simp[intOf];omega
   ·have j9:j=L.length:=aI;subst j9;obtain⟨I,d1,B3,g8⟩:=X;have HW:=aJ N;clear N J D c9;go_wp2;go_ret2;exact⟨_,_,_,by rw[HG.out];rfl,by rw[HX.out];exact HW.out.mono B1.size,B3⟩
theorem ad5{a b:Int}(z:0<=a):a-bG a b=cI a b:=by
 have:=@Nat.and_le_left a.toNat b.toNat;unfold bG cI cS;omega
theorem acJ(w:World)(g:Int)(v:Value)(l:List Int)(hv:aO w v l)(O:l.length<=1048576):
  Calls prog 134 #[.agg #[g,v]] w fun e w'=>∃ad i cp,e=.returned (.tuple #[ajH ad i cp,.bool (fD g l)])/\aM 3 w w' (ajH ad i cp) (eQ g l)/\Below w w w':=by
 obtain⟨a,c,rfl⟩:=hv.shape;obtain⟨M,d1,B1,z1⟩:=Box2.new w g (ajH a l.length c) 31;obtain⟨W0,d5⟩:=aN (w.alloc (.cells #[g,ajH a l.length c] 31));rw[<-d5]at M d1 B1 z1;go_enter func134,ntmps134;go_wp2_with fail;rw[<-d5];clear d5;refine(NY _ g _ l (hv.below B1 aK) O).mono ?_;rintro e w1 ⟨p1,i1,q1,rfl,K,f4⟩;have X1:=(Box2.mk M d1 B1 z1).after f4;clear f4 M d1 B1 z1;obtain⟨M,d1,B1,z1⟩:=X1
 cases Z:fD g l with
 |false=>
  have hx:eQ g l=[]:=by unfold eQ;rw[Z];rfl
  have HX:=aJ hx;have HG:=aJ Z;clear hx Z K;go_wp2;go_ret2;exact⟨_,_,_,by rw[HG.out];rfl,by rw[HX.out];exact aM.lit0 w1 B1.size,B1.alloc B1.size _⟩
 |true=>
  have hf:=FG Z;obtain⟨h0,h6,_⟩:=dQ hf;obtain⟨n,rfl⟩:=Int.eq_ofNat_of_zero_le h0;have hn:n<=6:=aI;have hp:=cK n 6 hn;have q2:(2:Int)^n<=64:=by simpa using hp.1
  have q3:=hp.2;have hx:eQ n l=(gD n (dJ n l) (dJ n l).length).1:=by unfold eQ;rw[Z];rfl
  have c9:=FH n l;have f2:=uO n l;obtain⟨L,f3⟩:=aN (dJ n l);rw[<-f3]at hx c9 f2 K;obtain⟨r0,r2,e1⟩:=K.shape;simp only[Value.slice.injEq]at e1;obtain⟨rfl,rfl,rfl⟩:=e1;have f9:∀W,Calls prog 187 #[n] W fun e w'=>e=.returned (ajJ (gD n L 0).2)/\W=w':=fun W=>fB n W aI;have i8:=aJ f9;have HX:=aJ hx;have j1:=aJ c9;have j2:=aJ K;have rL:=K.lt;have HG:=aJ Z;clear hx c9 f3 Z hf hp f9 K;go_wp2_with (at_make;refine kX rfl _ _ _ rfl 3 underlying24 aP n _ _ rfl rfl rfl rfl aI ?_;intro w2 b0 Z;have X2:=(Box2.mk M d1 B1 z1).grow Z (by simp);have p9:=Z.size;have rO:=b0.lt;have g5:=j2.out.grow Z (by intro k hk;cases hk);have q7:=hv.below X2.B aK;clear Z M d1;obtain⟨M,d1,B2,z2⟩:=X2);refine(i8.out _).mono ?_;rintro e w3 ⟨rfl,rfl⟩;have X3:=Box2.mk M d1 B2 z2;have n0:w1.heap.size<w2.heap.size:=(rO _ rfl).2;clear rO;go_wp2_with fail;go_loopw [7,8] (fun lf i wr=>∃j:Nat,j<=L.length/\i=ajJ j/\lf=ajJ (gD n L j).2/\aM 3 w1 wr (ajH (some ⟨w1,0,none⟩) n n) (gD n L j).1/\aM 3 W0 wr (ajH p1 L.length q1) L/\Box2 w wr n (ajH a l.length c)/\w2.heap.size<=wr.heap.size)
   (fun _ i _=>L.length-(intOf i).toNat)
  case atStart=>exact⟨0,Nat.zero_le _,rfl,rfl,b0,g5,X3,aK⟩
  case round=>
   obtain⟨j,hj,rfl,rfl,ow,K,X,zr⟩:=hrel;obtain⟨wo,rfl⟩:∃wo:World,wo=wr:=⟨_,rfl⟩;clear b0 g5 X3;have D:=OM n hn L j;have d7:=H8 n L j;by_cases hlt:j<L.length
   ·have b5:=j1.out _ (List.getElem_mem hlt);have f8:L.getD j 0=L[j]:=by rw[List.getD_eq_getElem?_getD,List.getElem?_eq_getElem hlt];rfl
    have J:gD n L (j+1)=(zI (gD n L j).1 (gU (bG L[j] (gD n L j).2)) (60/dI (bG L[j] (gD n L j).2)) (gU (bG L[j] (gD n L j).2)).length,cI (gD n L j).2 L[j]):=by rw[gD,f8]
    obtain⟨aL,bL,g7,cL,eL,d6,I,a8,k1⟩:=K.ints.view prog 24 3 underlying24 aP;simp only[Value.slice.injEq]at eL;obtain⟨rfl,_,rfl⟩:=eL;have Y:=a8 j hlt;have c6:=fun w'=>I w' j hlt;obtain⟨s,hs⟩:=aN (L[j]);rw[<-hs]at b5 J Y;obtain⟨o,ho⟩:=aN ((gD n L j).1);obtain⟨lf,g1⟩:=aN ((gD n L j).2);rw[<-ho]at d7 ow J;rw[<-g1]at D J ⊢;have d9:=b5.1;have l0:=b5.2;have O:=D.1;have q0:=D.2;have hA:=eB d9 (show s<4611686018427387904 by omega) O aI;have o9:=eB O (show lf<4611686018427387904 by omega) d9 (show s<4611686018427387904 by omega);have hD:=ad5 (a:=lf) (b:=s) O;have p0:=lR lf s 64 O aI;have p5:=nQ lf s 64 O aI;have b7:=lR s lf 64 d9 l0;have g4:(bG s lf).toNat<2^n:=by
     have h1:=@Nat.and_le_right s.toNat lf.toNat;have h2:((2^n:Nat):Int)=(2:Int)^n:=by push_cast;rfl
     unfold bG;omega
    have b4:=aaR (bG s lf) n hn g4;obtain⟨x,hx⟩:=aN (bG s lf);rw[<-hx]at hA b7 b4 J;have b8:=N5 x aI;obtain⟨E,hE⟩:=aN (gU x);obtain⟨z,hz⟩:=aN (dI x);have b9:∀W,Calls prog 188 #[x] W fun e w'=>∃ad i cp,e=.returned (ajH ad i cp)/\aM 3 W w' (ajH ad i cp) E/\Below W W w':=fun W=>by rw[hE];exact SS x W b7.1 b7.2
    have S:((gU x).length:Int)=z:=by rw[hz];exact WO x aI
    rw[<-hE]at b4 J b8 S;rw[<-hz]at b8 J;have e7:=aJ J;have j3:=aJ hs;have i6:=aJ b4;have j8:=aJ b8;have e6:=aJ b9;have j9:=aJ S;have HW:=aJ ow;have j0:=aJ K;obtain⟨M,d1,B3,h5⟩:=X;clear b5 f8 J hs ho g1 D b7 g4 b4 b8 b9 S hE hz hx a8 I ow K;go_wp2_with fail;refine(e6.out _).mono ?_;rintro e w4 ⟨p4,i4,q4,rfl,oE,a7⟩;obtain⟨r1,r4,e4⟩:=oE.shape;simp only[Value.slice.injEq]at e4;obtain⟨rfl,rfl,rfl⟩:=e4;have X4:=(Box2.mk M d1 B3 h5).after a7;have g8:=HW.out.keep a7;have g6:=j0.out.keep a7;have z4:=a7.size;have rE:=oE.lt;clear M d1 Y c6 a7;go_wp2_with fail;go_loopw [10] (fun i wr=>∃k:Nat,k<=E.length/\i=ajJ k/\aM 3 w1 wr (ajH (some ⟨w1,0,none⟩) n n) (zI o E (60/z) k)/\aM 3 wo wr (ajH p4 E.length q4) E/\aM 3 W0 wr (ajH p1 L.length q1) L/\Box2 w wr n (ajH a l.length c)/\w2.heap.size<=wr.heap.size)
     (fun i _=>E.length-(intOf i).toNat)
    case atStart=>exact⟨0,Nat.zero_le _,rfl,g8,oE,g6,X4,by omega⟩
    case round=>
     obtain⟨k,hk,rfl,ow,oE,K,X,zi⟩:=hrel;obtain⟨wi,rfl⟩:∃wi:World,wi=wr:=⟨_,rfl⟩;clear g8 g6 X4;obtain⟨M,d1,B4,h7⟩:=X;have R:=M8 o E (60/z) k;rw[d7]at R;by_cases N:k<E.length
     ·obtain⟨aE,bE,n2,cE,eE,k5,c5,f5,p6⟩:=oE.ints.view prog 24 3 underlying24 aP;simp only[Value.slice.injEq]at eE;obtain⟨rfl,_,rfl⟩:=eE;have f6:=f5 k N;have m8:=fun w'=>c5 w' k N;have f7:=i6.out _ (List.getElem_mem N);have e5:=j8.out k N;obtain⟨e,he⟩:∃e:Nat,E[k]=(e:Int):=⟨E[k].toNat,by omega⟩;rw[he]at f6 f7;have g2:zI o E (60/z) (k+1)=(zI o E (60/z) k).set e (60/z):=by rw[zI,show(E.getD k 0).toNat=e by rw[List.getD_eq_getElem?_getD,List.getElem?_eq_getElem N,Option.getD_some,he];omega]
      have k3:e<n:=aI;have q8:=e5.1;have q9:=e5.2;have q5:0<=60/z:=Int.ediv_nonneg aI aI;have q6:60/z<=60:=Int.ediv_le_self _ aI;have e0:=ow.stored R.symm e (60/z) ⟨by omega,by omega⟩;have a9:∃q,wi.cell? ⟨w1.heap.size,e,none⟩=some q:=⟨_,ow.cellAt R.symm e (by rw[R];exact k3)⟩;obtain⟨q,a9⟩:=a9;have p8:=ow.frozenAt R.symm e;rw[<-g2]at e0;have j4:=aJ e0;have h9:=aJ oE;have a6:=aJ K;have p7:(0:Int)<=(e:Int):=Int.natCast_nonneg _;have m6:(e:Int)<(n:Int):=aI;have n1:(z==0)=false:=by simp;omega
      clear R f5 c5 he g2 e0 ow oE K f7 e5;have c7:=j9.out;have l3:((E.length:Int)==0)=false:=by rw[beq_eq_false_iff_ne];omega
      have g3:(60:Int)/(E.length:Int)=60/z:=by rw[c7]
      have e8:=aJ g3;have m4:(1:Int)<=(E.length:Int):=aI;have m5:E≠[]:=by intro h;rw[h]at N;simp at N
      clear g3 c7;go_wp2;go_still_tail 9,aQ;go_wp2;have F:=j4.out;rw[<-e8.out]at F;go_roundw
      case rel=>exact⟨k+1,by omega,by go_num,by rw[<-e8.out];exact F.1.drewN 1,(h9.out.grow F.2 (fun q hq d8=>by cases hq;have:=(rE _ d8).1;omega)).drewN 1,(a6.out.grow F.2 (fun q hq d8=>by cases hq;have:=(rL _ d8).2;omega)).drewN 1,((Box2.mk M d1 B4 h7).grow F.2 aS).drewN 1,by have:=F.2.size;simp at this ⊢;omega⟩
      case measure=>simp[intOf];omega
     ·have g0:k=E.length:=aI;subst g0;obtain⟨aL,bL,g7,cL,eL,d6,I,a8,k1⟩:=K.ints.view prog 24 3 underlying24 aP;simp only[Value.slice.injEq]at eL;obtain⟨rfl,_,rfl⟩:=eL;have Y:=a8 j hlt;have c6:=fun w'=>I w' j hlt;rw[<-j3.out]at Y;have j6:=aJ ow;have a6:=aJ K;clear ow K oE R a8 I;go_wp2;go_roundw
      case rel=>exact⟨j+1,by omega,by go_num,by rw[e7.out],by rw[e7.out];exact j6.out,a6.out,⟨M,d1,B4,h7⟩,zi⟩
      case measure=>simp[intOf];omega
   ·have k4:j=L.length:=aI;subst k4;obtain⟨M,d1,B3,h5⟩:=X;have HW:=aJ ow;clear ow K D d7;go_wp2;go_ret2;exact⟨_,_,_,by rw[HG.out];rfl,by rw[HX.out];exact HW.out.mono B1.size,B3⟩
def eP:List Int->Nat->Int->Option (List Int)
 |[],_,left=>if left=0 then some [] else none
 |_::_,0,left=>if left=0 then some [] else none
 |s::t,k+1,left=>if left=0 then some [] else
  match eP t k (cI left s) with
  |some x=>some (s::x)
  |none=>eP t (k+1) left
def fT:List Int->Nat->Int->Option (List Int)
 |[],_,left=>if left=0 then some [] else none
 |_::_,0,left=>if left=0 then some [] else none
 |s::t,k+1,left=>if left=0 then some [] else
  if bG s left=0 then fT t (k+1) left else
  match fT t k (cI left s) with
  |some x=>some (s::x)
  |none=>fT t (k+1) left
theorem tW(l:List Int)(k:Nat):eP l k 0=some []:=by cases l<;>cases k<;>simp[eP]
theorem tY(l:List Int)(k:Nat):fT l k 0=some []:=by cases l<;>cases k<;>simp[fT]
theorem tX(l:List Int)(left:Int)(h:left≠0):eP l 0 left=none:=by cases l<;>simp[eP,h]
theorem vT(l:List Int)(left:Int)(h:left≠0):fT l 0 left=none:=by cases l<;>simp[fT,h]
theorem F9(k:Nat)(left:Int)(h:left≠0):eP [] k left=none:=by cases k<;>simp[eP,h]
theorem AV(k:Nat)(left:Int)(h:left≠0):fT [] k left=none:=by cases k<;>simp[fT,h]
theorem NZ{a b:Int}(z:0<=a)(h:bG b a=0):cI a b=a:=by
 unfold bG at h;unfold cI cS;have hc:a.toNat &&& b.toNat=b.toNat &&& a.toNat:=Nat.and_comm _ _;omega
theorem agD(a b:Int):0<=cI a b:=by unfold cI;omega
theorem adL:∀(t:List Int) (k:Nat) (left:Int),0<=left->eP t k left=none->eP t (k+1) left=fT t (k+1) left/\fT t k left=none:=by
 intro t
 induction t with
 |nil=>
  intro k left F h;by_cases z:left=0
  ·subst z;rw[tW]at h;cases h
  ·exact⟨by rw[F9 _ _ z,AV _ _ z],AV _ _ z⟩
 |cons s t ih=>
  intro k left F h;by_cases z:left=0
  ·subst z;rw[tW]at h;cases h
  have hd:=agD left s
  cases k with
  |zero=>
   have h1:=ih 0 left F (tX t left z);refine⟨?_,vT _ _ z⟩;simp only[eP,fT,if_neg z];by_cases D:bG s left=0
   ·rw[if_pos D,NZ F D,tX t left z];exact h1.1
   ·rw[if_neg D]
    have e:eP t 0 (cI left s)=fT t 0 (cI left s):=by
     by_cases I:cI left s=0
     ·rw[I,tW,tY]
     ·rw[tX _ _ I,vT _ _ I]
    rw[e,h1.1]
  |succ k=>
   simp only[eP,if_neg z]at h
   cases h2:eP t k (cI left s) with
   |some x=>rw[h2]at h;cases h
   |none=>
    rw[h2]at h;simp only at h;have h3:=ih k (cI left s) hd h2;have h4:=ih (k+1) left F h;constructor
    ·simp only[eP,fT,if_neg z];by_cases D:bG s left=0
     ·rw[if_pos D,NZ F D,h];exact h4.1
     ·rw[if_neg D,h3.1,h4.1]
    ·simp only[fT,if_neg z];rw[h3.2,h4.2]
     split<;>rfl
def gP(f:Nat->Option (List Int)):Nat->Nat->Option (List Int)
 |_,0=>none
 |k,n+1=>match f k with
  |some x=>some x
  |none=>gP f (k+1) n
theorem aaX(t:List Int)(left:Int)(z:0<=left):∀n k,eP t k left=fT t k left->gP (fun k=>eP t k left) k n=gP (fun k=>fT t k left) k n:=by
 intro n
 induction n with
 |zero=>intro k _;rfl
 |succ n ih=>
  intro k h;simp only[gP];rw[<-h]
  cases hk:eP t k left with
  |some x=>rfl
  |none=>exact ih (k+1) (adL t k left z hk).1
theorem RL(t:List Int)(left:Int)(D:0<=left)(n:Nat):gP (fun k=>eP t k left) 0 n=gP (fun k=>fT t k left) 0 n:=by
 refine aaX t left D n 0 ?_;by_cases z:left=0
 ·subst z;rw[tW,tY]
 ·rw[tX _ _ z,vT _ _ z]
def nX(a b:Int):Prop:=a.toNat ||| b.toNat=b.toNat
theorem OW{a b u:Int}(D:0<=a/\a<64)(hb:0<=b/\b<64)(h1:nX (cI a b) u)(h2:nX b u):nX a u:=by
 unfold nX at *;have z:=TA a.toNat aI b.toNat aI;have e:(cI a b).toNat=cS a.toNat b.toNat:=by unfold cI;rw[Int.toNat_natCast]
 rw[e]at h1
 generalize u.toNat=U at *
 calc a.toNat ||| U=a.toNat ||| (b.toNat ||| U):=by rw[h2]
  _=(a.toNat ||| b.toNat) ||| U:=by rw[Nat.or_assoc]
  _=(cS a.toNat b.toNat ||| b.toNat) ||| U:=by rw[z]
  _=cS a.toNat b.toNat ||| (b.toNat ||| U):=by rw[Nat.or_assoc]
  _=U:=by rw[h2,h1]
theorem WM:∀(t:List Int) (k:Nat) (left:Int) (u:Int) (x:List Int),(∀s∈t,(0<=s/\s<64)/\nX s u)->0<=left->left<64->eP t k left=some x->nX left u:=by
 intro t
 induction t with
 |nil=>
  intro k left u x _ D h1 h;by_cases z:left=0
  ·subst z;unfold nX;simp
  ·rw[F9 _ _ z]at h;cases h
 |cons s t ih=>
  intro k left u x I D h1 h;by_cases z:left=0
  ·subst z;unfold nX;simp
  cases k with
  |zero=>rw[tX _ _ z]at h;cases h
  |succ k=>
   simp only[eP,if_neg z]at h;have J:=I s (by simp)
   cases h2:eP t k (cI left s) with
   |some y=>have hd:=nQ left s 64 D h1;exact OW ⟨D,h1⟩ J.1 (ih k _ u y (fun q F=>I q (by simp[F])) hd.1 hd.2 h2) J.2
   |none=>rw[h2]at h;exact ih (k+1) left u x (fun q F=>I q (by simp[F])) D h1 h
theorem OX(l:List Int)(h:∀s∈l,0<=s/\s<64):∀s∈l,(0<=s/\s<64)/\nX s (dB l):=
 fun s z=>⟨h s z,(OZ l (fun s z=>(h s z).1) 0).1 s z⟩
theorem QZ:∀(t:List Int) (k:Nat) (left:Int) (x:List Int),fT t k left=some x->x.length<=k:=by
 intro t
 induction t with
 |nil=>
  intro k left x h;by_cases z:left=0
  ·subst z;rw[tY]at h;cases h;simp
  ·rw[AV _ _ z]at h;cases h
 |cons s t ih=>
  intro k left x h;by_cases z:left=0
  ·subst z;rw[tY]at h;cases h;simp
  cases k with
  |zero=>rw[vT _ _ z]at h;cases h
  |succ k=>
   simp only[fT,if_neg z]at h
   split at h
   ·exact ih _ _ _ h
   ·cases h2:fT t k (cI left s) with
    |some y=>
     rw[h2]at h
     cases h
     have:=ih _ _ _ h2;simp only[List.length_cons];omega
    |none=>rw[h2]at h;exact ih _ _ _ h
def lT(g:Int)(l:List Int):Option (List Int):=if bF g l then gP (fun k=>fT l k (2^g.toNat-1)) 0 (g.toNat+1) else none
def fH(g:Int)(l:List Int):List Int:=(lT g l).getD []
def jO(g:Int)(l:List Int):Bool:=(lT g l).isSome
theorem YR(f:Nat->Option (List Int))(h:∀k x,f k=some x->x.length<=k):∀n k x,gP f k n=some x->x.length<=k+n:=by
 intro n
 induction n with
 |zero=>intro k x z;cases z
 |succ n ih=>
  intro k x z;simp only[gP]at z
  cases hk:f k with
  |some y=>rw[hk]at z;cases z;have:=h k _ hk;omega
  |none=>rw[hk]at z;have:=ih (k+1) x z;omega
theorem BO(g:Int)(l:List Int):(fH g l).length<=1048576:=by
 unfold fH lT
 split
 ·rename_i z;obtain⟨D,F,_⟩:=dQ z
  cases hr:gP (fun k=>fT l k (2^g.toNat-1)) 0 (g.toNat+1) with
  |none=>simp
  |some x=>have:=YR _ (fun k x=>QZ l k _ x) _ _ x hr;simp only[Option.getD_some];omega
 ·simp
theorem U0(f:Nat->Option (List Int))(h:∀k,f k=none):∀n k,gP f k n=none:=by
 intro n
 induction n with
 |zero=>intro k;rfl
 |succ n ih=>intro k;simp only[gP,h];exact ih _
theorem ZW{g:Int}{l:List Int}(z:bF g l=true)(K:dB l≠2^g.toNat-1):lT g l=none:=by
 unfold lT;rw[if_pos z];obtain⟨D,F,J,_⟩:=dQ z;have hm:=dV z;have M:=lZ D F;have I:=(cK g.toNat 6 aI).2;rw[<-RL l _ aI];refine U0 _ (fun k=>?_) _ _
 cases hr:eP l k (2^g.toNat-1) with
 |none=>rfl
 |some x=>
  exfalso
  apply K
  have h1:=WM l k _ (dB l) x (OX l hm) aI aI hr;unfold nX at h1;have h2:=tU g.toNat l J 0 aI aI;have h3:=@Nat.left_le_or ((2:Int)^g.toNat-1).toNat (dB l).toNat;have h4:dB l=l.foldl fQ 0:=rfl;rw[h4]at h1 h3 ⊢;omega
theorem DK(a b i:Nat)(z:a<64)(hb:b<64):(cS a b).testBit i=(a.testBit i&&!b.testBit i):=by
 by_cases D:i<6
 ·have h:∀a,a<64->∀b,b<64->∀i,i<6->(cS a b).testBit i=(a.testBit i&&!b.testBit i):=by decide +kernel
  exact h a z b hb i D
 ·have F:(64:Nat)<=2^i:=Nat.pow_le_pow_right (n:=2) aV (show 6<=i by omega);have hd:=xV a b 64 z;rw[Nat.testBit_lt_two_pow aI,Nat.testBit_lt_two_pow (i:=i) (x:=a) aI];rfl
theorem aeM(a b c:Nat)(z:a<64)(hb:b<64)(hc:c<64):cS a (b ||| c)=cS (cS a b) c:=by
 apply Nat.eq_of_testBit_eq
 intro i;rw[DK _ _ _ z (agO b c hb hc),DK _ _ _ (xV a b 64 z) hc,DK _ _ _ z hb,Nat.testBit_or]
 cases a.testBit i<;>cases b.testBit i<;>cases c.testBit i<;>rfl
theorem agE{a b c:Int}(z:0<=a/\a<64)(hb:0<=b/\b<64)(hc:0<=c/\c<64):cI a (fQ b c)=cI (cI a b) c:=by
 have h:=aeM a.toNat b.toNat c.toNat aI aI aI;have e1:(fQ b c).toNat=b.toNat ||| c.toNat:=by unfold fQ;rw[Int.toNat_natCast]
 have e2:(cI a b).toNat=cS a.toNat b.toNat:=by unfold cI;rw[Int.toNat_natCast]
 unfold cI at h e2 ⊢;rw[e1,h,e2]
theorem WE(g:Nat):((2:Int)^g-1).toNat=2^g-1:=by
 have:((2:Int)^g)=((2^g:Nat):Int):=by push_cast;rfl
 rw[this];omega
theorem yS(g:Nat)(u:Int)(z:0<=u)(h1:u<2^g):cI (2^g-1) u=2^g-1-u:=by
 have e:((2:Int)^g)=((2^g:Nat):Int):=by push_cast;rfl
 have h2:u.toNat<2^g:=aI;unfold cI cS;rw[WE,Nat.and_comm,Nat.and_two_pow_sub_one_eq_mod,Nat.mod_eq_of_lt h2];omega
theorem Z2(l:List Int)(s:Int):dB (l++[s])=fQ (dB l) s:=by unfold dB;rw[List.foldl_append];rfl
theorem QC(a b:Int):nX a (fQ a b):=by
 unfold nX fQ;rw[Int.toNat_natCast,<-Nat.or_assoc,Nat.or_self]
theorem NE(a b:Int):nX b (fQ a b):=by
 unfold nX fQ;rw[Int.toNat_natCast,Nat.or_comm a.toNat b.toNat,<-Nat.or_assoc,Nat.or_self]
theorem ZY{a b c:Int}(h1:nX a b)(h2:nX b c):nX a c:=by
 unfold nX at *;rw[<-h2,<-Nat.or_assoc,h1]
theorem YF(g:Nat)(M:g<=6)(u:Int)(I:0<=u)(h1:u<2^g)(t:List Int)(ht:∀s∈t,0<=s/\s<2^g)(k:Nat)(D:fQ u (dB t)≠2^g-1):eP t k (cI (2^g-1) u)=none:=by
 have J:=cK g 6 M;have N:(2:Int)^g<=64:=by simpa using J.1
 have F:=J.2
 cases hr:eP t k (cI (2^g-1) u) with
 |none=>rfl
 |some x=>
  exfalso
  apply D
  have K:=tU g t ht 0 aI F;have z:0<=dB t/\dB t<2^g:=K;have hd:=nQ (2^g-1) u 64 aI aI;have h2:=WM t k _ (dB t) x (OX t (fun s O=>by have:=ht s O;omega)) hd.1 hd.2 hr;have h3:nX (2^g-1) (fQ u (dB t)):=OW ⟨by omega,by omega⟩ ⟨I,by omega⟩ (ZY h2 (NE u _)) (QC u _);have h4:=JJ u (dB t) g I z.1 h1 z.2;unfold nX at h3;have R:=@Nat.left_le_or ((2:Int)^g-1).toNat (fQ u (dB t)).toNat;omega
end
section
open Go.RowKit Go.G5 Go.Proofs.Tryz
end
section
open Go.RowKit Go.G5 Go.Proofs.Tryz
end
section
open Go.RowKit Go.G5 Go.Proofs.Tryz
end
section
open Go.RowKit Go.G5 Go.Proofs.Tryz
end
section
open Go.RowKit Go.G5 Go.Proofs.Tryz
end
end Go.Proofs.YtcpoomdoodlkjaaGreatDoor
section
namespace Go.G5
open Go Go.RowKit
theorem cX.lit0{EI EO:TypeId}{B:Nat}(w:World)(hB:B<=w.heap.size):cX EI EO B (w.alloc (.cells #[] EO)) (ajH (some ⟨w,0,none⟩) 0 0) []:=
 ⟨[],World.ownsRow_lit w #[] 0 hB (Nat.zero_le _) rfl,by simp⟩
theorem cX.alloc{EI EO:TypeId}{B:Nat}{w:World}{v:Value}{z:List (List Int)}(h:cX EI EO B w v z)(o:Obj):cX EI EO B (w.alloc o) v z:=h.keep (aY w o)
theorem cX.one{EI EO:TypeId}{B:Nat}{w:World}{v:Value}{l:List Int}(h:aM EI B w v l)(hB:B<=w.heap.size):cX EI EO B (w.alloc (.cells #[v] EO)) (ajH (some ⟨w,0,none⟩) 1 1) [l]:=by
 refine⟨[v],World.ownsRow_lit w #[v] 1 hB aV rfl,?_⟩;intro k u z
 cases k with
 |zero=>simp only[List.getElem?_cons_zero,Option.some.injEq]at z;subst z;exact⟨l,rfl,h.alloc _⟩
 |succ k=>simp at z
theorem TX{P:Program}{w:World}{EI EO:TypeId}(T ty:TypeId)(hT:P.underlying T=some (.slice EO))(hE:SliceElem P EO)(K:EI≠EO)(B:Nat)(v:Value)(Z:List (List Int))(O:cX EI EO B w v Z)
  (B':Nat) (sv:Value) (ms:List (List Int)) (hs:cX EI EO B' w sv ms) (b0:B<=B') (b7:Z.length+ms.length<=5497558138879) (hB:B<=w.heap.size):
  ∃v' w',(Builtin.append_ #[T,T] ty #[v,sv]).run P w=.ok v' w'/\cX EI EO B w' v' (Z++ms)/\w.grownBy w' v.ownBlock/\uG w v v':=by
 obtain⟨i,hi,hz,h1,h8⟩:=hE.get;obtain⟨vs,z,M⟩:=O;obtain⟨I,F,S⟩:=hs;have Y:=F;have e0:=F.1;rcases F.2 with⟨rfl,b4⟩|⟨g,cap,a9,rfl,c8,hg,d6,d7,d0,ht⟩
 ·have:ms=[]:=List.eq_nil_of_length_eq_zero b4;subst this;refine⟨v,w,?_,by rw[List.append_nil];exact⟨vs,z,M⟩,World.grownBy.refl w _,.inl rfl⟩;rcases z.2 with⟨rfl,hn⟩|⟨g,cap,a9,rfl,_,_,b5,_⟩
  ·simp[Builtin.append_,run_underlying hT,sizeOf,typeInfo,hi,Builtin.lenOf,Builtin.firstCells]
  ·simp[Builtin.append_,run_underlying hT,sizeOf,typeInfo,hi,Builtin.lenOf,Builtin.firstCells,b5,storeCells]
 ·have N:∀u∈I,u.oneCell'=true:=by intro u hu;obtain⟨j,J,rfl⟩:=List.getElem_of_mem hu;obtain⟨l,_,h4⟩:=S j I[j] (List.getElem?_eq_getElem J);obtain⟨a',n',c',e⟩:=h4.shape3;rw[e];rfl
  obtain⟨v',w',R,h2,h3,_,h5⟩:=run_append_own_at (P:=P) w B T ty EO i (ajH none 0 0) 1 24 hT hi hz h1 h8 rfl aV v Z.length vs z ⟨g,0,none⟩ ms.length cap I aI
   (by
    intro j u J;have d5:j<I.length:=by
     rcases Nat.lt_or_ge j I.length with h|h
     ·exact h
     ·rw[List.getElem?_eq_none h]at J;cases J
    have e:(⟨g,0,none⟩:Addr).add j=⟨g,j,none⟩:=by
     unfold Addr.add;split
     ·rename_i h0;rw[h0]
     ·simp
    rw[e,Y.cellAt j aI];exact J)
   N (by unfold maxLen;omega) aI hB
  refine⟨v',w',R,⟨vs++I,by rw[List.length_append];exact h2,fun k q hq=>?_⟩,h3,h5⟩;have hl:=z.1;by_cases hk:k<vs.length
  ·rw[List.getElem?_append_left hk]at hq;obtain⟨l',D,h4⟩:=M k q hq;exact⟨l',by rw[List.getElem?_append_left aI];exact D,h4.grow h3 (AF h4.1 z K)⟩
  ·rw[List.getElem?_append_right aI]at hq;obtain⟨l',D,h4⟩:=S _ q hq;exact⟨l',by rw[List.getElem?_append_right aI,show k-Z.length=k-vs.length by omega];exact D,(h4.grow h3 (AF h4.1 z K)).mono b0⟩
theorem WI{P:Program}{w:World}{EI EO:TypeId}{o:Oper}{a:Act}{K:Act->World->Prop}{Q:Exit->Act->World->Prop}(s x:Operand)(t:TypeId)
  (ho:o.op=.call { callee:=.builtin .append,args:=#[s,x],argTypes:=#[t,t] })
  (Z:P.underlying t=some (.slice EO)) (Y:SliceElem P EO) (O:EI≠EO) (B:Nat) (v:Value) (J:List (List Int)) (hs:a.eval s=v) (D:cX EI EO B w v J)
  (B':Nat) (S:Value) (M:List (List Int)) (hx:a.eval x=S) (R:cX EI EO B' w S M) (N:B<=B') (z:J.length+M.length<=5497558138879) (hB:B<=w.heap.size)
  (h:∀I w',cX EI EO B w' I (J++M)->w.grownBy w' v.ownBlock->uG w v I->K (a.put o.dst I) w'):o.wp P a w K Q:=by
 obtain⟨I,w',F,h2,h3,h4⟩:=TX (P:=P) t o.type Z Y O B v J D B' S M R N z hB;unfold Oper.wp execOp;simp only[ho,resolve,invoke,builtin,Sem.run_bind,Sem.run_pure,Result.andThen_ok,List.map_toArray,List.map_cons,List.map_nil,hs,hx,F];exact h I w' h2 h3 h4
theorem KY{P:Program}{w:World}{EI EO:TypeId}{ops:Array Oper}{rest:List Oper}{o:Oper}{a:Act}{Q:Exit->Act->World->Prop}(M:o.guard=none)(s x:Operand)(t:TypeId)
  (ho:o.op=.call { callee:=.builtin .append,args:=#[s,x],argTypes:=#[t,t] })
  (Z:P.underlying t=some (.slice EO)) (S:SliceElem P EO) (N:EI≠EO) (B:Nat) (v:Value) (I:List (List Int)) (hs:a.eval s=v) (D:cX EI EO B w v I)
  (B':Nat) (R:Value) (J:List (List Int)) (hx:a.eval x=R) (O:cX EI EO B' w R J) (K:B<=B') (z:I.length+J.length<=5497558138879) (hB:B<=w.heap.size)
  (h:∀F w',cX EI EO B w' F (I++J)->w.grownBy w' v.ownBlock->uG w v F->wpList P ops Q rest (a.put o.dst F) w'):wpList P ops Q (o::rest) a w:=
 wpList_plain M fun _ Y=>WI s x t ho Z S N B v I hs D B' R J hx O K z hB fun F w' h2 h3 h4=>Y _ _ (h F w' h2 h3 h4)
end Go.G5
namespace Go.Proofs.YtcpoomdoodlkjaaGreatDoor
open Go.RowKit Go.G5 Go.Proofs.Tryz
structure Dist (N:Nat) (o:List Int):Prop where
 bd:∀x∈o,0<=x/\x<(N:Int)
 nd:o.Nodup
end Go.Proofs.YtcpoomdoodlkjaaGreatDoor
end
namespace Go.Proofs.YtcpoomdoodlkjaaGreatDoor
section
open Go.RowKit Go.G5 Go.Proofs.Tryz
def b2(b:Bool):Int:=if b then 1 else 0
theorem ES(y e:Nat):cZ y e=y.testBit e:=by
 unfold cZ Nat.testBit;rw[Nat.shiftRight_eq_div_pow,Nat.one_and_eq_mod_two];rcases Nat.mod_two_eq_zero_or_one (y/2^e) with h|h<;>rw[h]<;>rfl
def EG(p:List Int)(s e:Nat):Int:=if cZ s e then p.getD e 0 else 0
def wtE(p:List Int)(s:Nat):Int:=EG p s 0+EG p s 1+EG p s 2+EG p s 3+EG p s 4+EG p s 5
structure PrInv (g:Nat) (l L:List Int) (j:Nat) (p:List Int) (left:Int):Prop where
 run:dR l (64-j) left=some (L.drop j)
 bd:0<=left/\left<2^g
 len:p.length=g
 zero:∀e,e<6->cZ left.toNat e=true->p.getD e 0=0
 pos:∀e,0<=p.getD e 0
 top:∀e,p.getD e 0<=60
 yA:wtE p (2^g-1)=60*j
 pay:∀s∈l,wtE p s.toNat<=SC (bN s.toNat)-SC (bN (s.toNat &&& left.toNat))
structure PriceFacts (g:Int) (l:List Int):Prop where
 same:jO g l=fD g l
 greedy:fD g l=true->SK g l (dJ g l)=true
 small:fD g l=true->SK g l (fH g l)=true
 less:fD g l=true->(fH g l).length<=(dJ g l).length
def ajE(l:List Int):Int:=l.foldl (· + ·) 0
structure PriceSums (g:Int) (l:List Int):Prop where
 total:ajE (eQ g l)=60*(dJ g l).length
 pays:∀s∈l,wtE (eQ g l) s.toNat<=SC (bN s.toNat)
 bound:60*((dJ g l).length:Int)<=SC (DD g l).toNat*(fH g l).length
 size:0<=DD g l/\DD g l<=6
 pos:∀e,0<=(eQ g l).getD e 0
 top:∀e,(eQ g l).getD e 0<=60
 len:(eQ g l).length=g.toNat
end
section
open Go.RowKit Go.G5 Go.Proofs.Tryz
end
section
open Go.RowKit Go.G5 Go.Proofs.Tryz
theorem ae0(l:List Int):∀T:List jR,(∀t∈T,vA l t=false)->(gI (iT l) T none)=(none,true):=by
 intro T
 induction T with
 |nil=>intro _;rfl
 |cons t T ih=>
  intro h;have e:iT l none t=(none,true):=by unfold iT;rw[h t (by simp)];rfl
  rw[gI,e,if_pos rfl];exact ih (fun u z=>h u (by simp[z]))
theorem agX(l:List Int):∀T:List jR,(gI (iT l) T none).1=none->∀t∈T,vA l t=false:=by
 intro T
 induction T with
 |nil=>intro _ t ht;cases ht
 |cons u T ih=>
  intro h t ht;by_cases hb:vA l u=true
  ·have e:iT l none u=(some u,false):=by unfold iT;rw[if_pos hb]
   rw[gI,e]at h;simp at h
  ·have e:iT l none u=(none,true):=by unfold iT;rw[if_neg hb];rfl
   rw[gI,e,if_pos rfl]at h;rcases List.mem_cons.1 ht with rfl|ht
   ·simpa using hb
   ·exact ih h t ht
theorem ahB(n N s i k:Nat)(D:s<N)(z:i<k)(hk:k<n)(h1:cZ s i=false)(h2:cZ s k=false):(s,i,k)∈jH n N:=by
 obtain⟨r,hr⟩:=DY n N s i (k+1) D aI aI;rw[hr];refine List.mem_append_left _ (List.mem_append_right _ ?_);rw[mF,h1,h2,decide_eq_true z];simp
theorem afB(s i k:Nat):∀t∈mF s i k,cZ t.1 t.2.1=false/\cZ t.1 t.2.2=false:=by
 induction k with
 |zero=>intro t h;cases h
 |succ k ih=>
  intro t h;rw[mF,List.mem_append]at h;rcases h with h|h
  ·exact ih t h
  ·split at h
   ·rename_i hc;rw[List.mem_singleton]at h;simp only[Bool.and_eq_true,Bool.not_eq_true']at hc;subst h;exact⟨hc.2.1,hc.2.2⟩
   ·cases h
theorem acX(n s i:Nat):∀t∈kW n s i,cZ t.1 t.2.1=false/\cZ t.1 t.2.2=false:=by
 induction i with
 |zero=>intro t h;cases h
 |succ i ih=>
  intro t h;rw[kW,List.mem_append]at h;rcases h with h|h
  ·exact ih t h
  ·exact afB s i n t h
theorem acY(n s:Nat):∀t∈jH n s,cZ t.1 t.2.1=false/\cZ t.1 t.2.2=false:=by
 induction s with
 |zero=>intro t h;cases h
 |succ s ih=>
  intro t h;rw[jH,List.mem_append]at h;rcases h with h|h
  ·exact ih t h
  ·exact acX n s n t h
theorem ag4(N:Nat)(l:List Int)(z:bH N l=true):gO N l=true↔∀s i k:Nat,s<2^N->i<k->k<N->cZ s i=false->cZ s k=false->kJ l s i k<=0:=by
 have I:nO (N:Int) l=zM N l:=by unfold nO;rw[z,if_pos rfl,Int.toNat_natCast]
 constructor
 ·intro h s i k K D hk h1 h2
  have F:zM N l=none:=by
   unfold gO nN at h;rw[z,I,Bool.true_and,Bool.not_eq_true']at h
   cases J:zM N l with
   |none=>rfl
   |some t=>rw[J]at h;cases h
  have:=agX l _ F (s,i,k) (ahB N (2^N) s i k K D hk h1 h2);unfold vA at this;have:=of_decide_eq_false this;dsimp only at this;omega
 ·intro h;have F:zM N l=none:=by unfold zM;rw[ae0 l _ (fun t ht=>by obtain⟨h1,h2,h3⟩:=UE N (2^N) t ht;have hb:=acY N (2^N) t ht;unfold vA;exact decide_eq_false (by have:=h t.1 t.2.1 t.2.2 h1 h2 h3 hb.1 hb.2;omega))]
  unfold gO nN;rw[z,I,F];rfl
theorem DL(l:List Int)(s:Nat):(jW l).getD s 0=-(l.getD s 0):=by
 by_cases h:s<l.length
 ·rw[aU (jW l) s (by rw[tP];exact h),XC l s h,aU l s h]
 ·rw[List.getD_eq_getElem?_getD,List.getElem?_eq_none (by rw[tP];omega),List.getD_eq_getElem?_getD,List.getElem?_eq_none aI];rfl
theorem af7(l:List Int)(s i k:Nat):kJ (jW l) s i k=- kJ l s i k:=by
 unfold kJ;simp only[DL];omega
theorem DX(s e j:Nat):(bO s e).testBit j=(s.testBit j||decide (e=j)):=by
 unfold bO;rw[Nat.testBit_or,Nat.testBit_two_pow]
theorem af8(l:List Int)(s i k:Nat):kJ l s i k=dX l (bO s i) k-dX l s k:=by
 unfold kJ dX;rw[nZ];omega
theorem adP(l:List Int)(s i k:Nat):kJ l s i k=kJ l s k i:=by
 unfold kJ;rw[Nat.or_comm (bO s i)];omega
theorem aa8(N:Nat)(l:List Int)(h:∀s i k:Nat,s<2^N->i<k->k<N->cZ s i=false->cZ s k=false->0<=kJ l s i k)
  (A B e:Nat) (hB:B<2^N) (he:e<N) (J:∀j,A.testBit j=true->B.testBit j=true) (D:B.testBit e=false):dX l A e<=dX l B e:=by
 have h':∀s i k:Nat,s<2^N->i≠k->i<N->k<N->s.testBit i=false->s.testBit k=false->0<=kJ l s i k:=by
  intro s i k h1 h2 h3 h4 O R;rw[<-ES]at O R;rcases Nat.lt_or_gt_of_ne h2 with S|S
  ·exact h s i k h1 S h4 O R
  ·rw[adP];exact h s k i h1 S h3 R O
 have step:∀j,dX l A e<=dX l (A ||| B%2^j) e:=by
  intro j
  induction j with
  |zero=>simp[Nat.mod_one]
  |succ j ih=>
   by_cases hb:B.testBit j=true/\A.testBit j=false
   ·have z:A ||| B%2^(j+1)=bO (A ||| B%2^j) j:=by
     apply Nat.eq_of_testBit_eq
     intro i;rw[DX,Nat.testBit_or,Nat.testBit_or,Nat.testBit_mod_two_pow,Nat.testBit_mod_two_pow];by_cases F:j=i
     ·subst F;simp[hb.1]
     ·rw[decide_eq_false F,Bool.or_false]
      congr 2
      exact decide_eq_decide.2 ⟨fun q=>by omega,fun q=>by omega⟩
    have Z:j<N:=by
     rcases Nat.lt_or_ge j N with q|q
     ·exact q
     ·have:=Nat.testBit_lt_two_pow (x:=B) (i:=j) (Nat.lt_of_lt_of_le hB (Nat.pow_le_pow_right aV q));rw[this]at hb;cases hb.1
    have hlt:A ||| B%2^j<2^N:=by
     apply Nat.lt_pow_two_of_testBit
     intro i hi;have K:=Nat.testBit_lt_two_pow (x:=B) (i:=i) (Nat.lt_of_lt_of_le hB (Nat.pow_le_pow_right aV hi));rw[Nat.testBit_or,Nat.testBit_mod_two_pow,K]
     cases I:A.testBit i with
     |false=>simp
     |true=>rw[J i I]at K;cases K
    have a1:j≠e:=by intro q;rw[q,D]at hb;cases hb.1
    have h1:(A ||| B%2^j).testBit j=false:=by rw[Nat.testBit_or,Nat.testBit_mod_two_pow,hb.2];simp
    have h2:(A ||| B%2^j).testBit e=false:=by
     rw[Nat.testBit_or,Nat.testBit_mod_two_pow,D]
     cases I:A.testBit e with
     |false=>simp
     |true=>rw[J e I]at D;cases D
    have:=h' _ j e hlt a1 Z he h1 h2;rw[af8]at this;rw[z];omega
   ·have z:A ||| B%2^(j+1)=A ||| B%2^j:=by
     apply Nat.eq_of_testBit_eq
     intro i;rw[Nat.testBit_or,Nat.testBit_or,Nat.testBit_mod_two_pow,Nat.testBit_mod_two_pow];by_cases F:j=i
     ·subst F
      cases I:A.testBit j with
      |true=>simp
      |false=>
       cases Y:B.testBit j with
       |false=>simp
       |true=>exact absurd ⟨Y,I⟩ hb
     ·congr 2
      exact decide_eq_decide.2 ⟨fun q=>by omega,fun q=>by omega⟩
    rw[z];exact ih
 have M:A ||| B%2^N=B:=by
  rw[Nat.mod_eq_of_lt hB]
  apply Nat.eq_of_testBit_eq
  intro i;rw[Nat.testBit_or]
  cases I:A.testBit i with
  |false=>simp
  |true=>rw[J i I];rfl
 have:=step N;rw[M]at this;exact this
structure Perm (N:Nat) (o:List Int):Prop where
 len:o.length=N
 d:Dist N o
theorem Perm.nn{N:Nat}{o:List Int}(h:Perm N o):∀x∈o,0<=x:=fun x z=>(h.d.bd x z).1
theorem Perm.fresh{N:Nat}{o:List Int}(h:Perm N o)(k:Nat)(hk:k<o.length):o[k]∉o.take k:=by
 intro hm;have:=h.d.nd;have e:o=o.take k++(o[k]::o.drop (k+1)):=by rw[<-List.drop_eq_getElem_cons hk,List.take_append_drop]
 rw[e]at this;have h2:=(List.nodup_append.1 this).2.2;exact h2 _ hm _ List.mem_cons_self rfl
end
end Go.Proofs.YtcpoomdoodlkjaaGreatDoor
