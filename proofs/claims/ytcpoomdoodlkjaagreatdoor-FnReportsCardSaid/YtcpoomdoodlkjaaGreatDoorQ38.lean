/- Lemmas for CardReports. No condition. -/
import Derived.Test.YtcpoomdoodlkjaaGreatDoorQ36
set_option maxRecDepth 100000
set_option maxHeartbeats 64000000
namespace Go.Proofs.YtcpoomdoodlkjaaGreatDoor
section
open Go.RowKit Go.G5 Go.Proofs.Tryz
def mlA(F G H:ByteArray):List ByteArray:=[(⟨#[109,97,116,114,111,105,100]⟩:ByteArray),(⟨#[98,97,115,101,115]⟩:ByteArray),F,(⟨#[99,105,114,99,117,105,116,115]⟩:ByteArray),G,(⟨#[102,108,97,116,115]⟩:ByteArray),H]
def M4(F G H:ByteArray):ByteArray:=(⟨#[109,97,116,114,111,105,100,32,98,97,115,101,115,32]⟩:ByteArray)++F++(⟨#[32,99,105,114,99,117,105,116,115,32]⟩:ByteArray)++G++(⟨#[32,102,108,97,116,115,32]⟩:ByteArray)++H
theorem ahZ(F G H:ByteArray):cK dS (mlA F G H)=M4 F G H:=by
 unfold mlA M4;simp only[mY,oK];refine eV ?_;simp[dS]
def mlB(b:Bool)(N:ByteArray):List ByteArray:=if b then [(⟨#[99,111,118,101,114,115]⟩:ByteArray),N] else []
def M5(b:Bool)(X N:ByteArray):ByteArray:=if b then X++(⟨#[32,99,111,118,101,114,115,32]⟩:ByteArray)++N else X
theorem ah1(b:Bool)(X N:ByteArray):X++mG (mlB b N)=M5 b X N:=by
 cases b with
 |false=>exact eV (by rw[kE];show X.data.toList++[]=X.data.toList;simp)
 |true=>refine eV ?_;simp[mlB,M5,mG,dS]
theorem OJ(b:Bool)(X N:ByteArray)(k:Nat)(D:X.size<=k)(z:N.size<=21):(M5 b X N).size<=k+40:=by
 cases b with
 |false=>show X.size<=_;omega
 |true=>unfold M5;rw[if_pos rfl];simp only[ByteArray.size_append];have e1:(⟨#[32,99,111,118,101,114,115,32]⟩:ByteArray).size=8:=rfl;omega
def mlC(b:Bool)(N:ByteArray):List ByteArray:=if b then [(⟨#[112,97,99,107,115]⟩:ByteArray),N] else []
def M6(b:Bool)(X N:ByteArray):ByteArray:=if b then X++(⟨#[32,112,97,99,107,115,32]⟩:ByteArray)++N else X
theorem ah3(b:Bool)(X N:ByteArray):X++mG (mlC b N)=M6 b X N:=by
 cases b with
 |false=>exact eV (by rw[kE];show X.data.toList++[]=X.data.toList;simp)
 |true=>refine eV ?_;simp[mlC,M6,mG,dS]
theorem ab2(b:Bool)(X N:ByteArray)(k:Nat)(D:X.size<=k)(z:N.size<=21):(M6 b X N).size<=k+40:=by
 cases b with
 |false=>show X.size<=_;omega
 |true=>unfold M6;rw[if_pos rfl];simp only[ByteArray.size_append];have e1:(⟨#[32,112,97,99,107,115,32]⟩:ByteArray).size=7:=rfl;omega
def mlL(n:Int)(l:List Int):List ByteArray:=(mlA (dB (jB n l) (fL n l)) (dB (jB n l) (gK n l)) (dB n (mM n l))++mlB (uZ n l) (bQ (qV n l)))++mlC (uF n l) (bQ (nM n l))
def XF(n:Int)(l:List Int):ByteArray:=M6 (uF n l) (M5 (uZ n l) (M4 (dB (jB n l) (fL n l)) (dB (jB n l) (gK n l)) (dB n (mM n l))) (bQ (qV n l))) (bQ (nM n l))
theorem ai2(n:Int)(l:List Int):cK dS (mlL n l)=XF n l:=by
 unfold mlL XF;rw[oT _ _ (by simp[mlA]),oT _ _ (by simp[mlA]),ahZ,ah1,ah3]
def BE(n:Int)(l:List Int):ByteArray:=if dH n l then XF n l else ByteArray.empty
theorem G9{n:Int}{l:List Int}(h:dH n l=true):BE n l=XF n l:=by unfold BE;rw[if_pos h]
theorem XE{n:Int}{l:List Int}(h:dH n l=false):BE n l=ByteArray.empty:=by unfold BE;rw[h];rfl
theorem OI(F G H:ByteArray)(z:F.size<=10000)(D:G.size<=10000)(I:H.size<=10000):(M4 F G H).size<=30100:=by
 unfold M4;simp only[ByteArray.size_append];have e1:(⟨#[109,97,116,114,111,105,100,32,98,97,115,101,115,32]⟩:ByteArray).size=14:=rfl;have e2:(⟨#[32,99,105,114,99,117,105,116,115,32]⟩:ByteArray).size=10:=rfl;have e3:(⟨#[32,102,108,97,116,115,32]⟩:ByteArray).size=7:=rfl;omega
theorem aeM(n:Int)(l:List Int):(XF n l).size<=30180:=by
 have h1:=RF n l;have h2:=TV n l;exact ab2 _ _ _ 30140 (OJ _ _ _ 30100 (OI _ _ _ (fC _ _) (fC _ _) (fC _ _)) (cW _ ⟨by omega,by omega⟩)) (cW _ ⟨by omega,by omega⟩)
theorem af4(w:World)(n:Int)(v:Value)(l:List Int)(hv:aR w v l)(hl:l.length<=1048576):
  Calls prog 86 #[.agg #[n,v]] w fun e w'=>e=.returned (.tuple #[(qV n l),.bool (uZ n l)])/\Below w w w':=by
 have Z:=hv;obtain⟨a,c,rfl⟩:=hv.shape;have K0:=aU.new w 26 #[n,aI a l.length c]
 cases O:dH n l with
 |false=>
  have F:xN n l=none:=by unfold xN;rw[O];rfl
  have M:qV n l=0:=by unfold qV;rw[F];rfl
  have hB:uZ n l=false:=by unfold uZ;rw[F];rfl
  have H:=aN (And.intro M hB);have HF:=aN O;clear F M hB O;go_enter func86,ntmps86;go_wp2_with fail;refine(lQ n l _ _ (Z.alloc _) hl).mono ?_;rintro e w1 ⟨rfl,I⟩;rw[HF.out];go_wp2;go_ret2;exact⟨by rw[H.out.1,H.out.2];rfl,(bF _ _).after I (by simp)⟩
 |true=>
  obtain⟨N,rfl,h5,c6,a8,S⟩:=cX (kK O);have p0:=Nat.two_pow_pos N;have F:xN N l=rG l (l.length-1):=by unfold xN;rw[O];rfl
  have R:=E0 (uG O);have a6:=EJ l a8 (fun s hs=>⟨R s aK,by rw[aX l s hs];exact(S s hs).2⟩);have a9:0<l.length:=aK;have D:∀s,(h:s<l.length)->0<=l[s]/\l[s]<=1000:=fun s h=>⟨by rw[<-aX l s h];exact R s aK,(S s h).2⟩;have HO:=aN F;have HF:=aN O;have b3:=aN a6;have b8:=aN D;clear F O R a6 S c6 p0 D;go_enter func86,ntmps86;go_wp2_with fail;refine(lQ N l _ _ (Z.alloc _) hl).mono ?_;rintro e w1 ⟨rfl,I⟩;rw[HF.out];have B1:Below w w w1:=(bF _ _).after I (by simp);have K1:=K0.keep I;have c8:=Z.below B1 aO;obtain⟨av,b,f6,cv,c9,_,a7,hc,hb⟩:=c8.view prog 24 3 underlying24 aS;injection c9 with e1 _ e3;subst e1 e3;have HC:=aN hc;have b5:=aN a7;have G:=K1.cell;clear I K0 hc a7;go_wp2_with fail;go_loopw [4,5] (fun mv sv wr=>∃(k:Nat) (m:Int),k<l.length/\sv=aM ((k:Int)+1)/\mv=aM m/\rG l k=some m/\wr=w1) (fun _ sv _=>l.length+1-(intOf sv).toNat)
  case atStart=>exact⟨0,0,a9,rfl,rfl,rfl,rfl⟩
  case round=>
   obtain⟨k,m,hk,rfl,rfl,J,rfl⟩:=hrel;have Y:=b3.out k m hk J;have f0:=Y.1;have f2:=Y.2;by_cases hlt:k+1<l.length
   ·have b0:(k:Int)+1<(l.length:Int):=aK;have b9:=HC.out (k+1) hlt;have c5:=fun W=>b5.out W (k+1) hlt;rw[show(((k+1:Nat):Int))=(k:Int)+1 by simp]at c5;have D:=b8.out (k+1) hlt;have hg:=aX l (k+1) hlt;have z:rG l (k+1)=if l.getD (k+1) 0=0 then none else some (max m (Int.tdiv ((bR (k+1):Int)+l.getD (k+1) 0-1) (l.getD (k+1) 0))):=by rw[rG,J]
    rw[hg]at z;obtain⟨x,hx⟩:=aQ (l[k+1]);rw[<-hx]at b9 D z;have f4:=D.1;have f5:=D.2;clear hx hg D J Y;by_cases hz:x=0
    ·rw[if_pos hz]at z;have d5:(x==0)=true:=by simp[hz]
     have F:xN N l=none:=by rw[HO.out];exact CJ l (k+1) z _ aK
     have M:qV N l=0:=by unfold qV;rw[F];rfl
     have hB:uZ N l=false:=by unfold uZ;rw[F];rfl
     have H:=aN (And.intro M hB);clear z F M hB hz;go_wp2;go_ret2;exact⟨by rw[H.out.1,H.out.2];rfl,B1⟩
    ·rw[if_neg hz]at z;have d5:(x==0)=false:=by simp[hz]
     have d0:0<x:=aK;have c7:=rR (k+1) aK;have hq:=yE ((bR (k+1):Int)+x-1) x aK d0;have K:=KS ((k:Int)+1) wr aK aK;rw[show((k:Int)+1).toNat=k+1 by omega]at K;obtain⟨p,hp⟩:∃p:Nat,p=bR (k+1):=⟨_,rfl⟩;rw[<-hp]at K z c7 hq;obtain⟨r,hr⟩:=aQ (Int.tdiv ((p:Int)+x-1) x);rw[<-hr]at z hq;have wa:IntKind.i64.wrap ((p:Int)+x)=(p:Int)+x:=by rw[IntKind.wrap_i64];omega
     have wb:IntKind.i64.wrap ((p:Int)+x-1)=(p:Int)+x-1:=by rw[IntKind.wrap_i64];omega
     have f8:IntKind.i64.wrap r=r:=by rw[IntKind.wrap_i64];omega
     have f3:Int.tdiv ((p:Int)+x-1) x=r:=hr.symm;have b6:=aN z;have b7:=aN K;clear z K hp hr hz;go_wp2_with (go_at_call 165;refine b7.out.mono ?_;rintro e w2 ⟨rfl,rfl⟩);go_roundw
     case rel=>exact⟨k+1,max m r,hlt,by go_num,rfl,b6.out,trivial⟩
     case measure=>simp[intOf];omega
   ·have b0:¬(k:Int)+1<(l.length:Int):=aK;have F:xN N l=some m:=by rw[HO.out,show l.length-1=k by omega];exact J
    have M:qV N l=m:=by unfold qV;rw[F];rfl
    have hB:uZ N l=true:=by unfold uZ;rw[F];rfl
    have H:=aN (And.intro M hB);clear F M hB J;go_wp2;go_ret2;exact⟨by rw[H.out.1,H.out.2];rfl,B1⟩
theorem af5(w:World)(n:Int)(v:Value)(l:List Int)(hv:aR w v l)(hl:l.length<=1048576):
  Calls prog 91 #[.agg #[n,v]] w fun e w'=>e=.returned (.tuple #[(qV n l),.bool (uZ n l)])/\Below w w w':=by
 have Z:=hv;obtain⟨a,c,rfl⟩:=hv.shape;have K0:=aU.new w 26 #[n,aI a l.length c]
 cases O:dH n l with
 |false=>
  have F:xN n l=none:=by unfold xN;rw[O];rfl
  have M:qV n l=0:=by unfold qV;rw[F];rfl
  have hB:uZ n l=false:=by unfold uZ;rw[F];rfl
  have H:=aN (And.intro M hB);have HF:=aN O;clear F M hB O;go_enter func91,ntmps91;go_wp2_with fail;refine(lR n l _ _ (Z.alloc _) hl).mono ?_;rintro e w1 ⟨rfl,I⟩;rw[HF.out];go_wp2;go_ret2;exact⟨by rw[H.out.1,H.out.2];rfl,(bF _ _).after I (by simp)⟩
 |true=>
  obtain⟨N,rfl,h5,c6,a8,S⟩:=cX (kK O);have p0:=Nat.two_pow_pos N;have F:xN N l=rG l (l.length-1):=by unfold xN;rw[O];rfl
  have R:=E0 (uG O);have a6:=EJ l a8 (fun s hs=>⟨R s aK,by rw[aX l s hs];exact(S s hs).2⟩);have a9:0<l.length:=aK;have D:∀s,(h:s<l.length)->0<=l[s]/\l[s]<=1000:=fun s h=>⟨by rw[<-aX l s h];exact R s aK,(S s h).2⟩;have HO:=aN F;have HF:=aN O;have b3:=aN a6;have b8:=aN D;clear F O R a6 S c6 p0 D;go_enter func91,ntmps91;go_wp2_with fail;refine(lR N l _ _ (Z.alloc _) hl).mono ?_;rintro e w1 ⟨rfl,I⟩;rw[HF.out];have B1:Below w w w1:=(bF _ _).after I (by simp);have K1:=K0.keep I;have c8:=Z.below B1 aO;obtain⟨av,b,f6,cv,c9,_,a7,hc,hb⟩:=c8.view prog 24 3 underlying24 aS;injection c9 with e1 _ e3;subst e1 e3;have HC:=aN hc;have b5:=aN a7;have G:=K1.cell;clear I K0 hc a7;go_wp2_with fail;go_loopw [4,5] (fun mv sv wr=>∃(k:Nat) (m:Int),k<l.length/\sv=aM ((k:Int)+1)/\mv=aM m/\rG l k=some m/\wr=w1) (fun _ sv _=>l.length+1-(intOf sv).toNat)
  case atStart=>exact⟨0,0,a9,rfl,rfl,rfl,rfl⟩
  case round=>
   obtain⟨k,m,hk,rfl,rfl,J,rfl⟩:=hrel;have Y:=b3.out k m hk J;have f0:=Y.1;have f2:=Y.2;by_cases hlt:k+1<l.length
   ·have b0:(k:Int)+1<(l.length:Int):=aK;have b9:=HC.out (k+1) hlt;have c5:=fun W=>b5.out W (k+1) hlt;rw[show(((k+1:Nat):Int))=(k:Int)+1 by simp]at c5;have D:=b8.out (k+1) hlt;have hg:=aX l (k+1) hlt;have z:rG l (k+1)=if l.getD (k+1) 0=0 then none else some (max m (Int.tdiv ((bR (k+1):Int)+l.getD (k+1) 0-1) (l.getD (k+1) 0))):=by rw[rG,J]
    rw[hg]at z;obtain⟨x,hx⟩:=aQ (l[k+1]);rw[<-hx]at b9 D z;have f4:=D.1;have f5:=D.2;clear hx hg D J Y;by_cases hz:x=0
    ·rw[if_pos hz]at z;have d5:(x==0)=true:=by simp[hz]
     have F:xN N l=none:=by rw[HO.out];exact CJ l (k+1) z _ aK
     have M:qV N l=0:=by unfold qV;rw[F];rfl
     have hB:uZ N l=false:=by unfold uZ;rw[F];rfl
     have H:=aN (And.intro M hB);clear z F M hB hz;go_wp2;go_ret2;exact⟨by rw[H.out.1,H.out.2];rfl,B1⟩
    ·rw[if_neg hz]at z;have d5:(x==0)=false:=by simp[hz]
     have d0:0<x:=aK;have c7:=rR (k+1) aK;have hq:=yE ((bR (k+1):Int)+x-1) x aK d0;have K:=KT ((k:Int)+1) wr aK aK;rw[show((k:Int)+1).toNat=k+1 by omega]at K;obtain⟨p,hp⟩:∃p:Nat,p=bR (k+1):=⟨_,rfl⟩;rw[<-hp]at K z c7 hq;obtain⟨r,hr⟩:=aQ (Int.tdiv ((p:Int)+x-1) x);rw[<-hr]at z hq;have wa:IntKind.i64.wrap ((p:Int)+x)=(p:Int)+x:=by rw[IntKind.wrap_i64];omega
     have wb:IntKind.i64.wrap ((p:Int)+x-1)=(p:Int)+x-1:=by rw[IntKind.wrap_i64];omega
     have f8:IntKind.i64.wrap r=r:=by rw[IntKind.wrap_i64];omega
     have f3:Int.tdiv ((p:Int)+x-1) x=r:=hr.symm;have b6:=aN z;have b7:=aN K;clear z K hp hr hz;go_wp2_with (go_at_call 154;refine b7.out.mono ?_;rintro e w2 ⟨rfl,rfl⟩);go_roundw
     case rel=>exact⟨k+1,max m r,hlt,by go_num,rfl,b6.out,trivial⟩
     case measure=>simp[intOf];omega
   ·have b0:¬(k:Int)+1<(l.length:Int):=aK;have F:xN N l=some m:=by rw[HO.out,show l.length-1=k by omega];exact J
    have M:qV N l=m:=by unfold qV;rw[F];rfl
    have hB:uZ N l=true:=by unfold uZ;rw[F];rfl
    have H:=aN (And.intro M hB);clear F M hB J;go_wp2;go_ret2;exact⟨by rw[H.out.1,H.out.2];rfl,B1⟩
theorem agV(w:World)(n:Int)(v:Value)(l:List Int)(hv:aR w v l)(hl:l.length<=1048576):
  Calls prog 87 #[.agg #[n,v]] w fun e w'=>e=.returned (.tuple #[(nM n l),.bool (uF n l)])/\Below w w w':=by
 have e6:=hv;obtain⟨a,b,h7,c,rfl,b1,Y,hc,hb⟩:=hv.view prog 24 3 underlying24 aS;have K0:=aU.new w 26 #[n,aI a l.length c];obtain⟨V,hV⟩:=aQ (w.alloc (.cells #[n,aI a l.length c] 26));have B:Below w w V:=fU hV;have K1:aU V w 26 #[n,aI a l.length c]:=eJ hV;have e7:=e6.below B aO;have e0:∀y:Ext V,y.w.cell? ⟨w.heap.size,0,none⟩=some (aM n):=fun y=>y.cell (K1.cell 0);have e1:∀y:Ext V,y.w.cell? ⟨w.heap.size,1,none⟩=some (aI a l.length c):=fun y=>y.cell (K1.cell 1);have J:∀y:Ext V,Calls prog 49 #[.agg #[n,aI a l.length c]] y.w fun e w'=>e=.returned (.bool (dH n l))/\Below y.w.heap.size y.w w':=fun y=>lQ n l _ y.w (y.ints e7) hl
 cases O:dH n l with
 |false=>
  simp only[O]at J;have R:=aN J;clear J;have hB:uF n l=false:=by unfold uF;rw[O];rfl
  have hN:nM n l=0:=by unfold nM;rw[hB];rfl
  have H:=aN (And.intro hN hB);have HF:=aN O;clear hB hN O hc Y b1;go_enter func87,ntmps87;go_wp2_with fail;rw[<-hV];clear hV K0;refine bN _ aT aT ?_
  repeat(first|go_big_quiet_skip|(go_big_quiet_want;go_big_quiet_op;first|go_big_quiet_on|(apply Exists.intro;refine⟨fun _=>?_,?_⟩;(go_at_call 49;exact bO (R.out _));go_big_quiet_on)))
  refine wpQuiet_nil ?_;rintro w3 ⟨⟨w3,I⟩,rfl⟩
  try dsimp only
  go_wp2;go_ret2;exact⟨by rw[H.out.1,H.out.2];rfl,B.after I B.size⟩
 |true=>
  simp only[O]at J;have R:=aN J;clear J;obtain⟨N,rfl,h5,b7,i6,b8⟩:=cX (kK O);have g7:=Nat.two_pow_pos N;have z:l.length-1<l.length:=aK;have c8:=hc (l.length-1) z;have h0:=fun W=>Y W (l.length-1) z;have b6:lN l=l[l.length-1]:=aX l _ z;have b9:=b8 _ z;have e5:=(BL O).1;have d7:=(BL O).2;obtain⟨t,ht⟩:=aQ (lN l);rw[<-b6,<-ht]at c8;rw[<-b6,<-ht]at b9;rw[<-ht]at e5;have i8:0<l.length:=aK;have j1:=b9.2;clear b6 b9;have c5:((l.length-1:Nat):Int)=2^N-1:=by
   have:((2^N:Nat):Int)=(2:Int)^N:=by simp
   omega
  have S:∀W,aR W (aI a l.length c) l->Calls prog 182 #[.agg #[(N:Int),aI a l.length c]] W fun e w'=>e=.returned (aM (2^N-1))/\Below W W w':=fun W hW=>by have:=tY (N:Int) (aI a l.length c) l W hW aK aK;rw[Int.toNat_natCast]at this;exact this
  obtain⟨A,hA⟩:∃A:Int,A=2^N-1:=⟨_,rfl⟩;rw[c5,<-hA]at h0;simp only[<-hA]at S;have j0:l.length<=64:=aK;have a9:∀k:Nat,k<l.length->bits .andNot .i64 A (k:Int)=((cV (2^N-1) k:Nat):Int)/\cV (2^N-1) k<64/\bR (cV (2^N-1) k)=N-bR k/\bR k<=N:=fun k hk=>by
   refine⟨?_,?_,aeY N aK k aK,NB N aK k aK⟩
   ·rw[hA,<-c5,b7];exact vS (2^N-1) k aK aK
   ·exact Nat.lt_of_lt_of_le (xY (2^N-1) k (2^N) aK) aK
  have f6:=aN S;have a1:=aN (fun y:Ext V=>S y.w (y.ints e7));have a6:=aW hc hb B aO (l.length-1) z;have F:l[l.length-1]=t:=by rw[ht];exact(aX l _ z).symm
  rw[F]at a6;have e2:∀y:Ext V,y.w.cell? ⟨b,h7+(l.length-1),none⟩=some (aM t):=fun y=>y.cell a6;have c6:=aN a9;have g2:=aN b8;have g1:=aN b7;have HC:=aN hc;have g0:=aN Y;have HT:=aN ht;have HH:=aN (And.intro O (And.intro e5 d7));clear O S c5 hA a9 b8 b7 hc Y c8 g7 b1 F ht d7;by_cases hz:t=0
  ·have e9:(t==0)=true:=by simp[hz]
   have hB:uF N l=false:=by unfold uF;rw[HH.out.1,<-HT.out,hz];rfl
   have hN:nM N l=0:=by unfold nM;rw[hB];rfl
   have H:=aN (And.intro hN hB);clear hB hN hz;go_enter func87,ntmps87;go_wp2_with fail;rw[<-hV];clear hV K0;refine bN _ aT aT ?_
   repeat(first|go_big_quiet_skip|(go_big_quiet_want;go_big_quiet_op;first|go_big_quiet_on|(apply Exists.intro;refine⟨fun _=>?_,?_⟩;(first|(go_at_call 49;exact bO (R.out _))|(go_at_call 182;exact bO (a1.out _)));go_big_quiet_on)))
   refine wpQuiet_nil ?_;rintro w3 ⟨⟨w3,I⟩,rfl⟩
   try dsimp only
   go_wp2;go_ret2;exact⟨by rw[H.out.1,H.out.2];rfl,B.after I B.size⟩
  ·have e9:(t==0)=false:=by simp[hz]
   have g9:0<t:=aK;have hB:uF N l=true:=by unfold uF;rw[HH.out.1,<-HT.out,e9];rfl
   have hN:nM N l=nV l N N l.length:=by unfold nM;rw[hB,if_pos rfl,Int.toNat_natCast];have:=TK l N h5 HH.out.2.2 (by rw[<-HT.out];exact g9) (l.length-1);rw[show l.length-1+1=l.length by omega]at this;exact this.symm
   have d0:=EZ l N h5 (N:Int) aK;have f7:=aN d0;have H:=aN (And.intro hN hB);clear hB hN hz d0;go_enter func87,ntmps87;go_wp2_with fail;rw[<-hV];clear hV K0;refine bN _ aT aT ?_
   repeat(first|go_big_quiet_skip|(go_big_quiet_want;go_big_quiet_op;first|go_big_quiet_on|(apply Exists.intro;refine⟨fun _=>?_,?_⟩;(first|(go_at_call 49;exact bO (R.out _))|(go_at_call 182;exact bO (a1.out _)));go_big_quiet_on)))
   refine wpQuiet_nil ?_;rintro w3 ⟨⟨w3,I⟩,rfl⟩
   try dsimp only
   have B3:=B.after I B.size;have K3:=K1.keep I;have G:=K3.cell;clear e0 e1 e2 K1;go_wp2_with fail;refine(f6.out _ (e6.below B3 aO)).mono ?_;rintro e w4 ⟨rfl,c9⟩;have B4:=B3.after c9 B3.size;have K4:=K3.keep c9;clear G;have G:=K4.cell;have ct:=aW HC.out hb B4 aO (l.length-1) z;have F:l[l.length-1]=t:=by rw[HT.out];exact(aX l _ z).symm
   rw[F]at ct;clear F;go_wp2_with fail;go_loopw [5,28] (fun mv iv wr=>∃(k:Nat) (m:Int),k<=l.length/\iv=aM k/\mv=aM m/\m=nV l N N k/\wr=w4) (fun _ iv _=>l.length-(intOf iv).toNat)
   case atStart=>exact⟨0,N,Nat.zero_le _,rfl,rfl,rfl,rfl⟩
   case round=>
    obtain⟨k,m,hk,rfl,rfl,hm,rfl⟩:=hrel;by_cases K:k<l.length
    ·have d6:(k:Int)<(l.length:Int):=aK;have g5:=aW HC.out hb B4 aO k K;have k4:=fun W=>g0.out W k K;have Z:=g2.out k K;have d5:=aX l k K;have D:nV l N N (k+1)=if l.getD k 0<lN l then min (nV l N N k) (Int.tdiv ((N:Int)-(bR k:Int)) (lN l-l.getD k 0)) else nV l N N k:=rfl;rw[d5,<-HT.out,<-hm]at D;obtain⟨b5,d8,d9,g8⟩:=c6.out k K;have g6:=f7.out k (by have:=g1.out;omega);rw[<-hm]at g6;obtain⟨x,hx⟩:=aQ (l[k]);rw[<-hx]at g5 Z D;have M:=gI (cV (2^N-1) k) wr aK;rw[d9]at M;obtain⟨d,hd⟩:∃d:Nat,d=cV (2^N-1) k:=⟨_,rfl⟩;rw[<-hd]at b5 M;obtain⟨p,hp⟩:∃p:Nat,p=N-bR k:=⟨_,rfl⟩;have e4:(N:Int)-(bR k:Int)=(p:Int):=aK;rw[<-hp]at M;rw[e4]at D;have k1:=Z.1;have k2:=Z.2;have wa:IntKind.i64.wrap (t-x)=t-x:=by rw[IntKind.wrap_i64];omega
     have g3:=aN M;have j8:p<=5:=aK;clear hx d5 hd hp e4 M d9 g8 d8 Z hm;by_cases hlt:x<t
     ·rw[if_pos hlt]at D;have b3:0<t-x:=aK;have hq:=yE (p:Int) (t-x) aK b3;have k3:(t-x==0)=false:=by rw[beq_eq_false_iff_ne];omega
      obtain⟨r,hr⟩:=aQ (Int.tdiv (p:Int) (t-x));rw[<-hr]at D hq;have k6:IntKind.i64.wrap r=r:=by rw[IntKind.wrap_i64];omega
      have k0:Int.tdiv (p:Int) (t-x)=r:=hr.symm;have b4:=aN D;clear D hr;go_wp2_with (go_at_call 165;refine g3.out.mono ?_;rintro e w5 ⟨rfl,rfl⟩);go_roundw
      case rel=>exact⟨k+1,min m r,by omega,by go_num,rfl,b4.out.symm,trivial⟩
      case measure=>simp[intOf];omega
     ·rw[if_neg hlt]at D;have b3:¬0<t-x:=aK;have b4:=aN D;clear D;go_wp2;go_roundw
      case rel=>exact⟨k+1,m,by omega,by go_num,rfl,b4.out.symm,trivial⟩
      case measure=>simp[intOf];omega
    ·have d6:¬(k:Int)<(l.length:Int):=aK;have b0:m=nM N l:=by rw[H.out.1,hm,show k=l.length by omega]
     have f8:=aN b0;clear b0 hm;go_wp2;go_ret2;exact⟨by rw[H.out.2,f8.out];rfl,B4⟩
theorem agW(w:World)(n:Int)(v:Value)(l:List Int)(hv:aR w v l)(hl:l.length<=1048576):
  Calls prog 92 #[.agg #[n,v]] w fun e w'=>e=.returned (.tuple #[(nM n l),.bool (uF n l)])/\Below w w w':=by
 have b1:=hv;obtain⟨a,b,g0,c,rfl,a1,M,hc,hb⟩:=hv.view prog 24 3 underlying24 aS;have K0:=aU.new w 26 #[n,aI a l.length c]
 cases S:dH n l with
 |false=>
  have hB:uF n l=false:=by unfold uF;rw[S];rfl
  have R:nM n l=0:=by unfold nM;rw[hB];rfl
  have H:=aN (And.intro R hB);have HF:=aN S;clear hB R S hc M a1;go_enter func92,ntmps92;go_wp2_with fail;refine(lR n l _ _ (b1.alloc _) hl).mono ?_;rintro e w1 ⟨rfl,I⟩;rw[HF.out];go_wp2;go_ret2;exact⟨by rw[H.out.1,H.out.2];rfl,(bF _ _).after I (by simp)⟩
 |true=>
  obtain⟨N,rfl,h5,c9,g3,a8⟩:=cX (kK S);have f6:=Nat.two_pow_pos N;have D:l.length-1<l.length:=aK;have b8:=hc (l.length-1) D;have f8:=fun W=>M W (l.length-1) D;have a7:lN l=l[l.length-1]:=aX l _ D;have b0:=a8 _ D;have d6:=(BL S).1;have c8:=(BL S).2;obtain⟨t,ht⟩:=aQ (lN l);rw[<-a7,<-ht]at b8;rw[<-a7,<-ht]at b0;rw[<-ht]at d6;have g4:0<l.length:=aK;have g5:=b0.2;clear a7 b0;have d7:((l.length-1:Nat):Int)=(l.length:Int)-1:=aK;rw[d7]at f8;have wl:IntKind.i64.wrap ((l.length:Int)-1)=(l.length:Int)-1:=by rw[IntKind.wrap_i64];omega
  have d5:∀k:Nat,k<l.length->bR k<=N:=fun k hk=>NB N aK k aK;have f0:=aN d5;have e9:=aN a8;have g9:=aN c9;have HC:=aN hc;have e8:=aN M;have HT:=aN ht;have HF:=aN S;have HH:=aN (And.intro d6 c8);have Z:l[l.length-1]=t:=by rw[ht];exact(aX l _ D).symm
  have b7:=aN Z;clear S d7 a8 c9 hc M b8 f6 a1 ht c8 d5 Z;by_cases hz:t=0
  ·have d9:(t==0)=true:=by simp[hz]
   have hB:uF N l=false:=by unfold uF;rw[HF.out,<-HT.out,hz];rfl
   have R:nM N l=0:=by unfold nM;rw[hB];rfl
   have H:=aN (And.intro R hB);clear hB R hz;go_enter func92,ntmps92;go_wp2_with fail;refine(lR N l _ _ (b1.alloc _) hl).mono ?_;rintro e w1 ⟨rfl,I⟩;rw[HF.out];have B1:Below w w w1:=(bF _ _).after I (by simp);have K1:=K0.keep I;have G:=K1.cell;have ct:=aW HC.out hb B1 aO (l.length-1) D;rw[b7.out]at ct;go_wp2;go_ret2;exact⟨by rw[H.out.1,H.out.2];rfl,B1⟩
  ·have d9:(t==0)=false:=by simp[hz]
   have h9:0<t:=aK;have hB:uF N l=true:=by unfold uF;rw[HF.out,<-HT.out,d9];rfl
   have R:nM N l=nV l N 100 l.length:=by unfold nM;rw[hB,if_pos rfl,Int.toNat_natCast]
   have c5:=EZ l N h5 100 aK;have g8:=aN c5;have H:=aN (And.intro R hB);clear hB R hz c5;go_enter func92,ntmps92;go_wp2_with fail;refine(lR N l _ _ (b1.alloc _) hl).mono ?_;rintro e w1 ⟨rfl,I⟩;rw[HF.out];have B1:Below w w w1:=(bF _ _).after I (by simp);have K1:=K0.keep I;have G:=K1.cell;have ct:=aW HC.out hb B1 aO (l.length-1) D;rw[b7.out]at ct;clear K0 I;go_wp2_with fail;go_loopw [4,6] (fun mv iv wr=>∃(k:Nat) (m:Int),k<=l.length/\iv=aM k/\mv=aM m/\m=nV l N 100 k/\Below w1 w1 wr) (fun _ iv _=>l.length-(intOf iv).toNat)
   case atStart=>exact⟨0,100,Nat.zero_le _,rfl,rfl,rfl,Below.refl _ _⟩
   case round=>
    obtain⟨k,m,hk,rfl,rfl,hm,Br⟩:=hrel;obtain⟨wo,rfl⟩:∃z:World,z=wr:=⟨_,rfl⟩;have Bw:=B1.after Br B1.size;have K:=K1.keep Br;clear G ct;have G:=K.cell;by_cases J:k<l.length
    ·have c7:(k:Int)<(l.length:Int):=aK;have b9:=aW HC.out hb Bw aO k J;have i8:=fun W=>e8.out W k J;have O:=e9.out k J;have c6:=aX l k J;have F:nV l N 100 (k+1)=if l.getD k 0<lN l then min (nV l N 100 k) (Int.tdiv ((N:Int)-(bR k:Int)) (lN l-l.getD k 0)) else nV l N 100 k:=rfl;rw[c6,<-HT.out,<-hm]at F;have f7:=f0.out k J;obtain⟨x,hx⟩:=aQ (l[k]);rw[<-hx]at b9 O F;have a9:=fun W=>eP k W aK;obtain⟨p,hp⟩:∃p:Nat,p=bR k:=⟨_,rfl⟩;rw[<-hp]at F f7;simp only[<-hp]at a9;have i1:=O.1;have i6:=O.2;have wa:IntKind.i64.wrap (t-x)=t-x:=by rw[IntKind.wrap_i64];omega
     have wb:IntKind.i64.wrap ((N:Int)-(p:Int))=(N:Int)-(p:Int):=by rw[IntKind.wrap_i64];omega
     have f2:=aN a9;clear hx c6 hp a9 O hm;by_cases hlt:x<t
     ·rw[if_pos hlt]at F;have d0:0<t-x:=aK;have hq:=yE ((N:Int)-(p:Int)) (t-x) aK d0;have i7:(t-x==0)=false:=by rw[beq_eq_false_iff_ne];omega
      obtain⟨r,hr⟩:=aQ (Int.tdiv ((N:Int)-(p:Int)) (t-x));rw[<-hr]at F hq;have j1:IntKind.i64.wrap r=r:=by rw[IntKind.wrap_i64];omega
      have h8:Int.tdiv ((N:Int)-(p:Int)) (t-x)=r:=hr.symm;have a6:=aN F;have e0:∀y:Ext wo,y.w.cell? ⟨w.heap.size,0,none⟩=some (aM N):=fun y=>y.cell (K.cell 0);have e1:∀y:Ext wo,y.w.cell? ⟨w.heap.size,1,none⟩=some (aI a l.length c):=fun y=>y.cell (K.cell 1);have e2:∀y:Ext wo,y.w.cell? ⟨b,g0+k,none⟩=some (aM x):=fun y=>y.cell b9;clear F hr;go_wp2_with fail;refine bN _ aT aT ?_
      repeat(first|go_big_quiet_skip|(go_big_quiet_want;go_big_quiet_op;first|go_big_quiet_on|(apply Exists.intro;refine⟨fun _=>?_,?_⟩;(go_at_call 154;exact cR (f2.out _));go_big_quiet_on)))
      refine wpQuiet_nil ?_;rintro w5 ⟨⟨w5,b5⟩,rfl⟩
      try dsimp only
      go_wp2;go_roundw
      case rel=>exact⟨k+1,min m r,by omega,by go_num,rfl,a6.out.symm,Br.after b5 Br.size⟩
      case measure=>simp[intOf];omega
     ·rw[if_neg hlt]at F;have a6:=aN F;clear F;go_wp2;go_roundw
      case rel=>exact⟨k+1,m,by omega,by go_num,rfl,a6.out.symm,Br⟩
      case measure=>simp[intOf];omega
    ·have c7:¬(k:Int)<(l.length:Int):=aK;have Y:m=nM N l:=by rw[H.out.1,hm,show k=l.length by omega]
     have e7:=aN Y;clear Y hm;go_wp2;go_ret2;exact⟨by rw[H.out.2,e7.out];rfl,Bw⟩
end
end Go.Proofs.YtcpoomdoodlkjaaGreatDoor
