/- Lemmas for CardReports. No condition. -/
import Derived.Test.YtcpoomdoodlkjaaGreatDoorQ36
set_option maxRecDepth 100000
set_option maxHeartbeats 64000000
namespace Go.Proofs.YtcpoomdoodlkjaaGreatDoor
section
open Go.RowKit Go.G5 Go.Proofs.Tryz
def mlA(F G H:ByteArray):List ByteArray:=[(⟨#[109,97,116,114,111,105,100]⟩:ByteArray),(⟨#[98,97,115,101,115]⟩:ByteArray),F,(⟨#[99,105,114,99,117,105,116,115]⟩:ByteArray),G,(⟨#[102,108,97,116,115]⟩:ByteArray),H]
def MX(F G H:ByteArray):ByteArray:=(⟨#[109,97,116,114,111,105,100,32,98,97,115,101,115,32]⟩:ByteArray)++F++(⟨#[32,99,105,114,99,117,105,116,115,32]⟩:ByteArray)++G++(⟨#[32,102,108,97,116,115,32]⟩:ByteArray)++H
theorem ahV(F G H:ByteArray):bZ dP (mlA F G H)=MX F G H:=by
 unfold mlA MX;simp only[mV,nY];refine eS ?_;simp[dP]
def mlB(b:Bool)(N:ByteArray):List ByteArray:=if b then [(⟨#[99,111,118,101,114,115]⟩:ByteArray),N] else []
def MY(b:Bool)(X N:ByteArray):ByteArray:=if b then X++(⟨#[32,99,111,118,101,114,115,32]⟩:ByteArray)++N else X
theorem ahX(b:Bool)(X N:ByteArray):X++mD (mlB b N)=MY b X N:=by
 cases b with
 |false=>exact eS (by rw[kB];show X.data.toList++[]=X.data.toList;simp)
 |true=>refine eS ?_;simp[mlB,MY,mD,dP]
theorem OF(b:Bool)(X N:ByteArray)(k:Nat)(D:X.size<=k)(z:N.size<=21):(MY b X N).size<=k+40:=by
 cases b with
 |false=>show X.size<=_;omega
 |true=>unfold MY;rw[if_pos rfl];simp only[ByteArray.size_append];have e1:(⟨#[32,99,111,118,101,114,115,32]⟩:ByteArray).size=8:=rfl;omega
def mlC(b:Bool)(N:ByteArray):List ByteArray:=if b then [(⟨#[112,97,99,107,115]⟩:ByteArray),N] else []
def MZ(b:Bool)(X N:ByteArray):ByteArray:=if b then X++(⟨#[32,112,97,99,107,115,32]⟩:ByteArray)++N else X
theorem ahZ(b:Bool)(X N:ByteArray):X++mD (mlC b N)=MZ b X N:=by
 cases b with
 |false=>exact eS (by rw[kB];show X.data.toList++[]=X.data.toList;simp)
 |true=>refine eS ?_;simp[mlC,MZ,mD,dP]
theorem abY(b:Bool)(X N:ByteArray)(k:Nat)(D:X.size<=k)(z:N.size<=21):(MZ b X N).size<=k+40:=by
 cases b with
 |false=>show X.size<=_;omega
 |true=>unfold MZ;rw[if_pos rfl];simp only[ByteArray.size_append];have e1:(⟨#[32,112,97,99,107,115,32]⟩:ByteArray).size=7:=rfl;omega
def mlL(n:Int)(l:List Int):List ByteArray:=(mlA (cY (iX n l) (fI n l)) (cY (iX n l) (gH n l)) (cY n (mJ n l))++mlB (uW n l) (bM (qQ n l)))++mlC (uC n l) (bM (nJ n l))
def XB(n:Int)(l:List Int):ByteArray:=MZ (uC n l) (MY (uW n l) (MX (cY (iX n l) (fI n l)) (cY (iX n l) (gH n l)) (cY n (mJ n l))) (bM (qQ n l))) (bM (nJ n l))
theorem aiY(n:Int)(l:List Int):bZ dP (mlL n l)=XB n l:=by
 unfold mlL XB;rw[oK _ _ (by simp[mlA]),oK _ _ (by simp[mlA]),ahV,ahX,ahZ]
def A9(n:Int)(l:List Int):ByteArray:=if dE n l then XB n l else ByteArray.empty
theorem GZ{n:Int}{l:List Int}(h:dE n l=true):A9 n l=XB n l:=by unfold A9;rw[if_pos h]
theorem XA{n:Int}{l:List Int}(h:dE n l=false):A9 n l=ByteArray.empty:=by unfold A9;rw[h];rfl
theorem OE(F G H:ByteArray)(z:F.size<=10000)(D:G.size<=10000)(I:H.size<=10000):(MX F G H).size<=30100:=by
 unfold MX;simp only[ByteArray.size_append];have e1:(⟨#[109,97,116,114,111,105,100,32,98,97,115,101,115,32]⟩:ByteArray).size=14:=rfl;have e2:(⟨#[32,99,105,114,99,117,105,116,115,32]⟩:ByteArray).size=10:=rfl;have e3:(⟨#[32,102,108,97,116,115,32]⟩:ByteArray).size=7:=rfl;omega
theorem aeI(n:Int)(l:List Int):(XB n l).size<=30180:=by
 have h1:=RB n l;have h2:=TQ n l;exact abY _ _ _ 30140 (OF _ _ _ 30100 (OE _ _ _ (eZ _ _) (eZ _ _) (eZ _ _)) (cT _ ⟨by omega,by omega⟩)) (cT _ ⟨by omega,by omega⟩)
theorem af0(w:World)(n:Int)(v:Value)(l:List Int)(hv:aO w v l)(hl:l.length<=1048576):
  Calls prog 86 #[.agg #[n,v]] w fun e w'=>e=.returned (.tuple #[(qQ n l),.bool (uW n l)])/\Below w w w':=by
 have Z:=hv;obtain⟨a,c,rfl⟩:=hv.shape;have K0:=aR.new w 26 #[n,ajH a l.length c]
 cases O:dE n l with
 |false=>
  have F:xK n l=none:=by unfold xK;rw[O];rfl
  have M:qQ n l=0:=by unfold qQ;rw[F];rfl
  have hB:uW n l=false:=by unfold uW;rw[F];rfl
  have H:=aJ (And.intro M hB);have HF:=aJ O;clear F M hB O;go_enter func86,ntmps86;go_wp2_with fail;refine(lN n l _ _ (Z.alloc _) hl).mono ?_;rintro e w1 ⟨rfl,I⟩;rw[HF.out];go_wp2;go_ret2;exact⟨by rw[H.out.1,H.out.2];rfl,(aY _ _).after I (by simp)⟩
 |true=>
  obtain⟨N,rfl,h5,c6,a8,S⟩:=cU (kH O);have p0:=Nat.two_pow_pos N;have F:xK N l=rB l (l.length-1):=by unfold xK;rw[O];rfl
  have R:=EX (uD O);have a6:=EF l a8 (fun s hs=>⟨R s aI,by rw[aU l s hs];exact(S s hs).2⟩);have a9:0<l.length:=aI;have D:∀s,(h:s<l.length)->0<=l[s]/\l[s]<=1000:=fun s h=>⟨by rw[<-aU l s h];exact R s aI,(S s h).2⟩;have HO:=aJ F;have HF:=aJ O;have b3:=aJ a6;have b8:=aJ D;clear F O R a6 S c6 p0 D;go_enter func86,ntmps86;go_wp2_with fail;refine(lN N l _ _ (Z.alloc _) hl).mono ?_;rintro e w1 ⟨rfl,I⟩;rw[HF.out];have B1:Below w w w1:=(aY _ _).after I (by simp);have K1:=K0.keep I;have c8:=Z.below B1 aK;obtain⟨av,b,f6,cv,c9,_,a7,hc,hb⟩:=c8.view prog 24 3 underlying24 aP;injection c9 with e1 _ e3;subst e1 e3;have HC:=aJ hc;have b5:=aJ a7;have G:=K1.cell;clear I K0 hc a7;go_wp2_with fail;go_loopw [4,5] (fun mv sv wr=>∃(k:Nat) (m:Int),k<l.length/\sv=ajJ ((k:Int)+1)/\mv=ajJ m/\rB l k=some m/\wr=w1) (fun _ sv _=>l.length+1-(intOf sv).toNat)
  case atStart=>exact⟨0,0,a9,rfl,rfl,rfl,rfl⟩
  case round=>
   obtain⟨k,m,hk,rfl,rfl,J,rfl⟩:=hrel;have Y:=b3.out k m hk J;have f0:=Y.1;have f2:=Y.2;by_cases hlt:k+1<l.length
   ·have b0:(k:Int)+1<(l.length:Int):=aI;have b9:=HC.out (k+1) hlt;have c5:=fun W=>b5.out W (k+1) hlt;rw[show(((k+1:Nat):Int))=(k:Int)+1 by simp]at c5;have D:=b8.out (k+1) hlt;have hg:=aU l (k+1) hlt;have z:rB l (k+1)=if l.getD (k+1) 0=0 then none else some (max m (Int.tdiv ((bN (k+1):Int)+l.getD (k+1) 0-1) (l.getD (k+1) 0))):=by rw[rB,J]
    rw[hg]at z;obtain⟨x,hx⟩:=aN (l[k+1]);rw[<-hx]at b9 D z;have f4:=D.1;have f5:=D.2;clear hx hg D J Y;by_cases hz:x=0
    ·rw[if_pos hz]at z;have d5:(x==0)=true:=by simp[hz]
     have F:xK N l=none:=by rw[HO.out];exact CG l (k+1) z _ aI
     have M:qQ N l=0:=by unfold qQ;rw[F];rfl
     have hB:uW N l=false:=by unfold uW;rw[F];rfl
     have H:=aJ (And.intro M hB);clear z F M hB hz;go_wp2;go_ret2;exact⟨by rw[H.out.1,H.out.2];rfl,B1⟩
    ·rw[if_neg hz]at z;have d5:(x==0)=false:=by simp[hz]
     have d0:0<x:=aI;have c7:=rK (k+1) aI;have hq:=xZ ((bN (k+1):Int)+x-1) x aI d0;have K:=KM ((k:Int)+1) wr aI aI;rw[show((k:Int)+1).toNat=k+1 by omega]at K;obtain⟨p,hp⟩:∃p:Nat,p=bN (k+1):=⟨_,rfl⟩;rw[<-hp]at K z c7 hq;obtain⟨r,hr⟩:=aN (Int.tdiv ((p:Int)+x-1) x);rw[<-hr]at z hq;have wa:IntKind.i64.wrap ((p:Int)+x)=(p:Int)+x:=by rw[IntKind.wrap_i64];omega
     have wb:IntKind.i64.wrap ((p:Int)+x-1)=(p:Int)+x-1:=by rw[IntKind.wrap_i64];omega
     have f8:IntKind.i64.wrap r=r:=by rw[IntKind.wrap_i64];omega
     have f3:Int.tdiv ((p:Int)+x-1) x=r:=hr.symm;have b6:=aJ z;have b7:=aJ K;clear z K hp hr hz;go_wp2_with (go_at_call 165;refine b7.out.mono ?_;rintro e w2 ⟨rfl,rfl⟩);go_roundw
     case rel=>exact⟨k+1,max m r,hlt,by go_num,rfl,b6.out,trivial⟩
     case measure=>simp[intOf];omega
   ·have b0:¬(k:Int)+1<(l.length:Int):=aI;have F:xK N l=some m:=by rw[HO.out,show l.length-1=k by omega];exact J
    have M:qQ N l=m:=by unfold qQ;rw[F];rfl
    have hB:uW N l=true:=by unfold uW;rw[F];rfl
    have H:=aJ (And.intro M hB);clear F M hB J;go_wp2;go_ret2;exact⟨by rw[H.out.1,H.out.2];rfl,B1⟩
theorem af1(w:World)(n:Int)(v:Value)(l:List Int)(hv:aO w v l)(hl:l.length<=1048576):
  Calls prog 91 #[.agg #[n,v]] w fun e w'=>e=.returned (.tuple #[(qQ n l),.bool (uW n l)])/\Below w w w':=by
 have Z:=hv;obtain⟨a,c,rfl⟩:=hv.shape;have K0:=aR.new w 26 #[n,ajH a l.length c]
 cases O:dE n l with
 |false=>
  have F:xK n l=none:=by unfold xK;rw[O];rfl
  have M:qQ n l=0:=by unfold qQ;rw[F];rfl
  have hB:uW n l=false:=by unfold uW;rw[F];rfl
  have H:=aJ (And.intro M hB);have HF:=aJ O;clear F M hB O;go_enter func91,ntmps91;go_wp2_with fail;refine(lO n l _ _ (Z.alloc _) hl).mono ?_;rintro e w1 ⟨rfl,I⟩;rw[HF.out];go_wp2;go_ret2;exact⟨by rw[H.out.1,H.out.2];rfl,(aY _ _).after I (by simp)⟩
 |true=>
  obtain⟨N,rfl,h5,c6,a8,S⟩:=cU (kH O);have p0:=Nat.two_pow_pos N;have F:xK N l=rB l (l.length-1):=by unfold xK;rw[O];rfl
  have R:=EX (uD O);have a6:=EF l a8 (fun s hs=>⟨R s aI,by rw[aU l s hs];exact(S s hs).2⟩);have a9:0<l.length:=aI;have D:∀s,(h:s<l.length)->0<=l[s]/\l[s]<=1000:=fun s h=>⟨by rw[<-aU l s h];exact R s aI,(S s h).2⟩;have HO:=aJ F;have HF:=aJ O;have b3:=aJ a6;have b8:=aJ D;clear F O R a6 S c6 p0 D;go_enter func91,ntmps91;go_wp2_with fail;refine(lO N l _ _ (Z.alloc _) hl).mono ?_;rintro e w1 ⟨rfl,I⟩;rw[HF.out];have B1:Below w w w1:=(aY _ _).after I (by simp);have K1:=K0.keep I;have c8:=Z.below B1 aK;obtain⟨av,b,f6,cv,c9,_,a7,hc,hb⟩:=c8.view prog 24 3 underlying24 aP;injection c9 with e1 _ e3;subst e1 e3;have HC:=aJ hc;have b5:=aJ a7;have G:=K1.cell;clear I K0 hc a7;go_wp2_with fail;go_loopw [4,5] (fun mv sv wr=>∃(k:Nat) (m:Int),k<l.length/\sv=ajJ ((k:Int)+1)/\mv=ajJ m/\rB l k=some m/\wr=w1) (fun _ sv _=>l.length+1-(intOf sv).toNat)
  case atStart=>exact⟨0,0,a9,rfl,rfl,rfl,rfl⟩
  case round=>
   obtain⟨k,m,hk,rfl,rfl,J,rfl⟩:=hrel;have Y:=b3.out k m hk J;have f0:=Y.1;have f2:=Y.2;by_cases hlt:k+1<l.length
   ·have b0:(k:Int)+1<(l.length:Int):=aI;have b9:=HC.out (k+1) hlt;have c5:=fun W=>b5.out W (k+1) hlt;rw[show(((k+1:Nat):Int))=(k:Int)+1 by simp]at c5;have D:=b8.out (k+1) hlt;have hg:=aU l (k+1) hlt;have z:rB l (k+1)=if l.getD (k+1) 0=0 then none else some (max m (Int.tdiv ((bN (k+1):Int)+l.getD (k+1) 0-1) (l.getD (k+1) 0))):=by rw[rB,J]
    rw[hg]at z;obtain⟨x,hx⟩:=aN (l[k+1]);rw[<-hx]at b9 D z;have f4:=D.1;have f5:=D.2;clear hx hg D J Y;by_cases hz:x=0
    ·rw[if_pos hz]at z;have d5:(x==0)=true:=by simp[hz]
     have F:xK N l=none:=by rw[HO.out];exact CG l (k+1) z _ aI
     have M:qQ N l=0:=by unfold qQ;rw[F];rfl
     have hB:uW N l=false:=by unfold uW;rw[F];rfl
     have H:=aJ (And.intro M hB);clear z F M hB hz;go_wp2;go_ret2;exact⟨by rw[H.out.1,H.out.2];rfl,B1⟩
    ·rw[if_neg hz]at z;have d5:(x==0)=false:=by simp[hz]
     have d0:0<x:=aI;have c7:=rK (k+1) aI;have hq:=xZ ((bN (k+1):Int)+x-1) x aI d0;have K:=KP ((k:Int)+1) wr aI aI;rw[show((k:Int)+1).toNat=k+1 by omega]at K;obtain⟨p,hp⟩:∃p:Nat,p=bN (k+1):=⟨_,rfl⟩;rw[<-hp]at K z c7 hq;obtain⟨r,hr⟩:=aN (Int.tdiv ((p:Int)+x-1) x);rw[<-hr]at z hq;have wa:IntKind.i64.wrap ((p:Int)+x)=(p:Int)+x:=by rw[IntKind.wrap_i64];omega
     have wb:IntKind.i64.wrap ((p:Int)+x-1)=(p:Int)+x-1:=by rw[IntKind.wrap_i64];omega
     have f8:IntKind.i64.wrap r=r:=by rw[IntKind.wrap_i64];omega
     have f3:Int.tdiv ((p:Int)+x-1) x=r:=hr.symm;have b6:=aJ z;have b7:=aJ K;clear z K hp hr hz;go_wp2_with (go_at_call 154;refine b7.out.mono ?_;rintro e w2 ⟨rfl,rfl⟩);go_roundw
     case rel=>exact⟨k+1,max m r,hlt,by go_num,rfl,b6.out,trivial⟩
     case measure=>simp[intOf];omega
   ·have b0:¬(k:Int)+1<(l.length:Int):=aI;have F:xK N l=some m:=by rw[HO.out,show l.length-1=k by omega];exact J
    have M:qQ N l=m:=by unfold qQ;rw[F];rfl
    have hB:uW N l=true:=by unfold uW;rw[F];rfl
    have H:=aJ (And.intro M hB);clear F M hB J;go_wp2;go_ret2;exact⟨by rw[H.out.1,H.out.2];rfl,B1⟩
theorem agR(w:World)(n:Int)(v:Value)(l:List Int)(hv:aO w v l)(hl:l.length<=1048576):
  Calls prog 87 #[.agg #[n,v]] w fun e w'=>e=.returned (.tuple #[(nJ n l),.bool (uC n l)])/\Below w w w':=by
 have e6:=hv;obtain⟨a,b,h7,c,rfl,b1,Y,hc,hb⟩:=hv.view prog 24 3 underlying24 aP;have K0:=aR.new w 26 #[n,ajH a l.length c];obtain⟨V,hV⟩:=aN (w.alloc (.cells #[n,ajH a l.length c] 26));have B:Below w w V:=fR hV;have K1:aR V w 26 #[n,ajH a l.length c]:=eG hV;have e7:=e6.below B aK;have e0:∀y:Ext V,y.w.cell? ⟨w.heap.size,0,none⟩=some (ajJ n):=fun y=>y.cell (K1.cell 0);have e1:∀y:Ext V,y.w.cell? ⟨w.heap.size,1,none⟩=some (ajH a l.length c):=fun y=>y.cell (K1.cell 1);have J:∀y:Ext V,Calls prog 49 #[.agg #[n,ajH a l.length c]] y.w fun e w'=>e=.returned (.bool (dE n l))/\Below y.w.heap.size y.w w':=fun y=>lN n l _ y.w (y.ints e7) hl
 cases O:dE n l with
 |false=>
  simp only[O]at J;have R:=aJ J;clear J;have hB:uC n l=false:=by unfold uC;rw[O];rfl
  have hN:nJ n l=0:=by unfold nJ;rw[hB];rfl
  have H:=aJ (And.intro hN hB);have HF:=aJ O;clear hB hN O hc Y b1;go_enter func87,ntmps87;go_wp2_with fail;rw[<-hV];clear hV K0;refine bJ _ aQ aQ ?_
  repeat(first|go_big_quiet_skip|(go_big_quiet_want;go_big_quiet_op;first|go_big_quiet_on|(apply Exists.intro;refine⟨fun _=>?_,?_⟩;(go_at_call 49;exact bK (R.out _));go_big_quiet_on)))
  refine wpQuiet_nil ?_;rintro w3 ⟨⟨w3,I⟩,rfl⟩
  try dsimp only
  go_wp2;go_ret2;exact⟨by rw[H.out.1,H.out.2];rfl,B.after I B.size⟩
 |true=>
  simp only[O]at J;have R:=aJ J;clear J;obtain⟨N,rfl,h5,b7,i6,b8⟩:=cU (kH O);have g7:=Nat.two_pow_pos N;have z:l.length-1<l.length:=aI;have c8:=hc (l.length-1) z;have h0:=fun W=>Y W (l.length-1) z;have b6:lK l=l[l.length-1]:=aU l _ z;have b9:=b8 _ z;have e5:=(BI O).1;have d7:=(BI O).2;obtain⟨t,ht⟩:=aN (lK l);rw[<-b6,<-ht]at c8;rw[<-b6,<-ht]at b9;rw[<-ht]at e5;have i8:0<l.length:=aI;have j1:=b9.2;clear b6 b9;have c5:((l.length-1:Nat):Int)=2^N-1:=by
   have:((2^N:Nat):Int)=(2:Int)^N:=by simp
   omega
  have S:∀W,aO W (ajH a l.length c) l->Calls prog 182 #[.agg #[(N:Int),ajH a l.length c]] W fun e w'=>e=.returned (ajJ (2^N-1))/\Below W W w':=fun W hW=>by have:=tV (N:Int) (ajH a l.length c) l W hW aI aI;rw[Int.toNat_natCast]at this;exact this
  obtain⟨A,hA⟩:∃A:Int,A=2^N-1:=⟨_,rfl⟩;rw[c5,<-hA]at h0;simp only[<-hA]at S;have j0:l.length<=64:=aI;have a9:∀k:Nat,k<l.length->bits .andNot .i64 A (k:Int)=((cS (2^N-1) k:Nat):Int)/\cS (2^N-1) k<64/\bN (cS (2^N-1) k)=N-bN k/\bN k<=N:=fun k hk=>by
   refine⟨?_,?_,aeU N aI k aI,M7 N aI k aI⟩
   ·rw[hA,<-c5,b7];exact vP (2^N-1) k aI aI
   ·exact Nat.lt_of_lt_of_le (xV (2^N-1) k (2^N) aI) aI
  have f6:=aJ S;have a1:=aJ (fun y:Ext V=>S y.w (y.ints e7));have a6:=aT hc hb B aK (l.length-1) z;have F:l[l.length-1]=t:=by rw[ht];exact(aU l _ z).symm
  rw[F]at a6;have e2:∀y:Ext V,y.w.cell? ⟨b,h7+(l.length-1),none⟩=some (ajJ t):=fun y=>y.cell a6;have c6:=aJ a9;have g2:=aJ b8;have g1:=aJ b7;have HC:=aJ hc;have g0:=aJ Y;have HT:=aJ ht;have HH:=aJ (And.intro O (And.intro e5 d7));clear O S c5 hA a9 b8 b7 hc Y c8 g7 b1 F ht d7;by_cases hz:t=0
  ·have e9:(t==0)=true:=by simp[hz]
   have hB:uC N l=false:=by unfold uC;rw[HH.out.1,<-HT.out,hz];rfl
   have hN:nJ N l=0:=by unfold nJ;rw[hB];rfl
   have H:=aJ (And.intro hN hB);clear hB hN hz;go_enter func87,ntmps87;go_wp2_with fail;rw[<-hV];clear hV K0;refine bJ _ aQ aQ ?_
   repeat(first|go_big_quiet_skip|(go_big_quiet_want;go_big_quiet_op;first|go_big_quiet_on|(apply Exists.intro;refine⟨fun _=>?_,?_⟩;(first|(go_at_call 49;exact bK (R.out _))|(go_at_call 182;exact bK (a1.out _)));go_big_quiet_on)))
   refine wpQuiet_nil ?_;rintro w3 ⟨⟨w3,I⟩,rfl⟩
   try dsimp only
   go_wp2;go_ret2;exact⟨by rw[H.out.1,H.out.2];rfl,B.after I B.size⟩
  ·have e9:(t==0)=false:=by simp[hz]
   have g9:0<t:=aI;have hB:uC N l=true:=by unfold uC;rw[HH.out.1,<-HT.out,e9];rfl
   have hN:nJ N l=nS l N N l.length:=by unfold nJ;rw[hB,if_pos rfl,Int.toNat_natCast];have:=TG l N h5 HH.out.2.2 (by rw[<-HT.out];exact g9) (l.length-1);rw[show l.length-1+1=l.length by omega]at this;exact this.symm
   have d0:=EW l N h5 (N:Int) aI;have f7:=aJ d0;have H:=aJ (And.intro hN hB);clear hB hN hz d0;go_enter func87,ntmps87;go_wp2_with fail;rw[<-hV];clear hV K0;refine bJ _ aQ aQ ?_
   repeat(first|go_big_quiet_skip|(go_big_quiet_want;go_big_quiet_op;first|go_big_quiet_on|(apply Exists.intro;refine⟨fun _=>?_,?_⟩;(first|(go_at_call 49;exact bK (R.out _))|(go_at_call 182;exact bK (a1.out _)));go_big_quiet_on)))
   refine wpQuiet_nil ?_;rintro w3 ⟨⟨w3,I⟩,rfl⟩
   try dsimp only
   have B3:=B.after I B.size;have K3:=K1.keep I;have G:=K3.cell;clear e0 e1 e2 K1;go_wp2_with fail;refine(f6.out _ (e6.below B3 aK)).mono ?_;rintro e w4 ⟨rfl,c9⟩;have B4:=B3.after c9 B3.size;have K4:=K3.keep c9;clear G;have G:=K4.cell;have ct:=aT HC.out hb B4 aK (l.length-1) z;have F:l[l.length-1]=t:=by rw[HT.out];exact(aU l _ z).symm
   rw[F]at ct;clear F;go_wp2_with fail;go_loopw [5,28] (fun mv iv wr=>∃(k:Nat) (m:Int),k<=l.length/\iv=ajJ k/\mv=ajJ m/\m=nS l N N k/\wr=w4) (fun _ iv _=>l.length-(intOf iv).toNat)
   case atStart=>exact⟨0,N,Nat.zero_le _,rfl,rfl,rfl,rfl⟩
   case round=>
    obtain⟨k,m,hk,rfl,rfl,hm,rfl⟩:=hrel;by_cases K:k<l.length
    ·have d6:(k:Int)<(l.length:Int):=aI;have g5:=aT HC.out hb B4 aK k K;have k4:=fun W=>g0.out W k K;have Z:=g2.out k K;have d5:=aU l k K;have D:nS l N N (k+1)=if l.getD k 0<lK l then min (nS l N N k) (Int.tdiv ((N:Int)-(bN k:Int)) (lK l-l.getD k 0)) else nS l N N k:=rfl;rw[d5,<-HT.out,<-hm]at D;obtain⟨b5,d8,d9,g8⟩:=c6.out k K;have g6:=f7.out k (by have:=g1.out;omega);rw[<-hm]at g6;obtain⟨x,hx⟩:=aN (l[k]);rw[<-hx]at g5 Z D;have M:=gE (cS (2^N-1) k) wr aI;rw[d9]at M;obtain⟨d,hd⟩:∃d:Nat,d=cS (2^N-1) k:=⟨_,rfl⟩;rw[<-hd]at b5 M;obtain⟨p,hp⟩:∃p:Nat,p=N-bN k:=⟨_,rfl⟩;have e4:(N:Int)-(bN k:Int)=(p:Int):=aI;rw[<-hp]at M;rw[e4]at D;have k1:=Z.1;have k2:=Z.2;have wa:IntKind.i64.wrap (t-x)=t-x:=by rw[IntKind.wrap_i64];omega
     have g3:=aJ M;have j8:p<=5:=aI;clear hx d5 hd hp e4 M d9 g8 d8 Z hm;by_cases hlt:x<t
     ·rw[if_pos hlt]at D;have b3:0<t-x:=aI;have hq:=xZ (p:Int) (t-x) aI b3;have k3:(t-x==0)=false:=by rw[beq_eq_false_iff_ne];omega
      obtain⟨r,hr⟩:=aN (Int.tdiv (p:Int) (t-x));rw[<-hr]at D hq;have k6:IntKind.i64.wrap r=r:=by rw[IntKind.wrap_i64];omega
      have k0:Int.tdiv (p:Int) (t-x)=r:=hr.symm;have b4:=aJ D;clear D hr;go_wp2_with (go_at_call 165;refine g3.out.mono ?_;rintro e w5 ⟨rfl,rfl⟩);go_roundw
      case rel=>exact⟨k+1,min m r,by omega,by go_num,rfl,b4.out.symm,trivial⟩
      case measure=>simp[intOf];omega
     ·rw[if_neg hlt]at D;have b3:¬0<t-x:=aI;have b4:=aJ D;clear D;go_wp2;go_roundw
      case rel=>exact⟨k+1,m,by omega,by go_num,rfl,b4.out.symm,trivial⟩
      case measure=>simp[intOf];omega
    ·have d6:¬(k:Int)<(l.length:Int):=aI;have b0:m=nJ N l:=by rw[H.out.1,hm,show k=l.length by omega]
     have f8:=aJ b0;clear b0 hm;go_wp2;go_ret2;exact⟨by rw[H.out.2,f8.out];rfl,B4⟩
theorem agS(w:World)(n:Int)(v:Value)(l:List Int)(hv:aO w v l)(hl:l.length<=1048576):
  Calls prog 92 #[.agg #[n,v]] w fun e w'=>e=.returned (.tuple #[(nJ n l),.bool (uC n l)])/\Below w w w':=by
 have b1:=hv;obtain⟨a,b,g0,c,rfl,a1,M,hc,hb⟩:=hv.view prog 24 3 underlying24 aP;have K0:=aR.new w 26 #[n,ajH a l.length c]
 cases S:dE n l with
 |false=>
  have hB:uC n l=false:=by unfold uC;rw[S];rfl
  have R:nJ n l=0:=by unfold nJ;rw[hB];rfl
  have H:=aJ (And.intro R hB);have HF:=aJ S;clear hB R S hc M a1;go_enter func92,ntmps92;go_wp2_with fail;refine(lO n l _ _ (b1.alloc _) hl).mono ?_;rintro e w1 ⟨rfl,I⟩;rw[HF.out];go_wp2;go_ret2;exact⟨by rw[H.out.1,H.out.2];rfl,(aY _ _).after I (by simp)⟩
 |true=>
  obtain⟨N,rfl,h5,c9,g3,a8⟩:=cU (kH S);have f6:=Nat.two_pow_pos N;have D:l.length-1<l.length:=aI;have b8:=hc (l.length-1) D;have f8:=fun W=>M W (l.length-1) D;have a7:lK l=l[l.length-1]:=aU l _ D;have b0:=a8 _ D;have d6:=(BI S).1;have c8:=(BI S).2;obtain⟨t,ht⟩:=aN (lK l);rw[<-a7,<-ht]at b8;rw[<-a7,<-ht]at b0;rw[<-ht]at d6;have g4:0<l.length:=aI;have g5:=b0.2;clear a7 b0;have d7:((l.length-1:Nat):Int)=(l.length:Int)-1:=aI;rw[d7]at f8;have wl:IntKind.i64.wrap ((l.length:Int)-1)=(l.length:Int)-1:=by rw[IntKind.wrap_i64];omega
  have d5:∀k:Nat,k<l.length->bN k<=N:=fun k hk=>M7 N aI k aI;have f0:=aJ d5;have e9:=aJ a8;have g9:=aJ c9;have HC:=aJ hc;have e8:=aJ M;have HT:=aJ ht;have HF:=aJ S;have HH:=aJ (And.intro d6 c8);have Z:l[l.length-1]=t:=by rw[ht];exact(aU l _ D).symm
  have b7:=aJ Z;clear S d7 a8 c9 hc M b8 f6 a1 ht c8 d5 Z;by_cases hz:t=0
  ·have d9:(t==0)=true:=by simp[hz]
   have hB:uC N l=false:=by unfold uC;rw[HF.out,<-HT.out,hz];rfl
   have R:nJ N l=0:=by unfold nJ;rw[hB];rfl
   have H:=aJ (And.intro R hB);clear hB R hz;go_enter func92,ntmps92;go_wp2_with fail;refine(lO N l _ _ (b1.alloc _) hl).mono ?_;rintro e w1 ⟨rfl,I⟩;rw[HF.out];have B1:Below w w w1:=(aY _ _).after I (by simp);have K1:=K0.keep I;have G:=K1.cell;have ct:=aT HC.out hb B1 aK (l.length-1) D;rw[b7.out]at ct;go_wp2;go_ret2;exact⟨by rw[H.out.1,H.out.2];rfl,B1⟩
  ·have d9:(t==0)=false:=by simp[hz]
   have h9:0<t:=aI;have hB:uC N l=true:=by unfold uC;rw[HF.out,<-HT.out,d9];rfl
   have R:nJ N l=nS l N 100 l.length:=by unfold nJ;rw[hB,if_pos rfl,Int.toNat_natCast]
   have c5:=EW l N h5 100 aI;have g8:=aJ c5;have H:=aJ (And.intro R hB);clear hB R hz c5;go_enter func92,ntmps92;go_wp2_with fail;refine(lO N l _ _ (b1.alloc _) hl).mono ?_;rintro e w1 ⟨rfl,I⟩;rw[HF.out];have B1:Below w w w1:=(aY _ _).after I (by simp);have K1:=K0.keep I;have G:=K1.cell;have ct:=aT HC.out hb B1 aK (l.length-1) D;rw[b7.out]at ct;clear K0 I;go_wp2_with fail;go_loopw [4,6] (fun mv iv wr=>∃(k:Nat) (m:Int),k<=l.length/\iv=ajJ k/\mv=ajJ m/\m=nS l N 100 k/\Below w1 w1 wr) (fun _ iv _=>l.length-(intOf iv).toNat)
   case atStart=>exact⟨0,100,Nat.zero_le _,rfl,rfl,rfl,Below.refl _ _⟩
   case round=>
    obtain⟨k,m,hk,rfl,rfl,hm,Br⟩:=hrel;obtain⟨wo,rfl⟩:∃z:World,z=wr:=⟨_,rfl⟩;have Bw:=B1.after Br B1.size;have K:=K1.keep Br;clear G ct;have G:=K.cell;by_cases J:k<l.length
    ·have c7:(k:Int)<(l.length:Int):=aI;have b9:=aT HC.out hb Bw aK k J;have i8:=fun W=>e8.out W k J;have O:=e9.out k J;have c6:=aU l k J;have F:nS l N 100 (k+1)=if l.getD k 0<lK l then min (nS l N 100 k) (Int.tdiv ((N:Int)-(bN k:Int)) (lK l-l.getD k 0)) else nS l N 100 k:=rfl;rw[c6,<-HT.out,<-hm]at F;have f7:=f0.out k J;obtain⟨x,hx⟩:=aN (l[k]);rw[<-hx]at b9 O F;have a9:=fun W=>eK k W aI;obtain⟨p,hp⟩:∃p:Nat,p=bN k:=⟨_,rfl⟩;rw[<-hp]at F f7;simp only[<-hp]at a9;have i1:=O.1;have i6:=O.2;have wa:IntKind.i64.wrap (t-x)=t-x:=by rw[IntKind.wrap_i64];omega
     have wb:IntKind.i64.wrap ((N:Int)-(p:Int))=(N:Int)-(p:Int):=by rw[IntKind.wrap_i64];omega
     have f2:=aJ a9;clear hx c6 hp a9 O hm;by_cases hlt:x<t
     ·rw[if_pos hlt]at F;have d0:0<t-x:=aI;have hq:=xZ ((N:Int)-(p:Int)) (t-x) aI d0;have i7:(t-x==0)=false:=by rw[beq_eq_false_iff_ne];omega
      obtain⟨r,hr⟩:=aN (Int.tdiv ((N:Int)-(p:Int)) (t-x));rw[<-hr]at F hq;have j1:IntKind.i64.wrap r=r:=by rw[IntKind.wrap_i64];omega
      have h8:Int.tdiv ((N:Int)-(p:Int)) (t-x)=r:=hr.symm;have a6:=aJ F;have e0:∀y:Ext wo,y.w.cell? ⟨w.heap.size,0,none⟩=some (ajJ N):=fun y=>y.cell (K.cell 0);have e1:∀y:Ext wo,y.w.cell? ⟨w.heap.size,1,none⟩=some (ajH a l.length c):=fun y=>y.cell (K.cell 1);have e2:∀y:Ext wo,y.w.cell? ⟨b,g0+k,none⟩=some (ajJ x):=fun y=>y.cell b9;clear F hr;go_wp2_with fail;refine bJ _ aQ aQ ?_
      repeat(first|go_big_quiet_skip|(go_big_quiet_want;go_big_quiet_op;first|go_big_quiet_on|(apply Exists.intro;refine⟨fun _=>?_,?_⟩;(go_at_call 154;exact cO (f2.out _));go_big_quiet_on)))
      refine wpQuiet_nil ?_;rintro w5 ⟨⟨w5,b5⟩,rfl⟩
      try dsimp only
      go_wp2;go_roundw
      case rel=>exact⟨k+1,min m r,by omega,by go_num,rfl,a6.out.symm,Br.after b5 Br.size⟩
      case measure=>simp[intOf];omega
     ·rw[if_neg hlt]at F;have a6:=aJ F;clear F;go_wp2;go_roundw
      case rel=>exact⟨k+1,m,by omega,by go_num,rfl,a6.out.symm,Br⟩
      case measure=>simp[intOf];omega
    ·have c7:¬(k:Int)<(l.length:Int):=aI;have Y:m=nJ N l:=by rw[H.out.1,hm,show k=l.length by omega]
     have e7:=aJ Y;clear Y hm;go_wp2;go_ret2;exact⟨by rw[H.out.2,e7.out];rfl,Bw⟩
end
end Go.Proofs.YtcpoomdoodlkjaaGreatDoor
