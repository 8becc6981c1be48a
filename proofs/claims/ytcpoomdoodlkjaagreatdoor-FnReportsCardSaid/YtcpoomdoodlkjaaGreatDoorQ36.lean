/- Lemmas for CardReports. No condition. -/
import Derived.Test.YtcpoomdoodlkjaaGreatDoorQ21
import Derived.Test.YtcpoomdoodlkjaaGreatDoorQ34
set_option maxRecDepth 100000
set_option maxHeartbeats 64000000
namespace Go.Proofs.YtcpoomdoodlkjaaGreatDoor
section
open Go.RowKit Go.G5 Go.Proofs.Tryz
def mG:List ByteArray->ByteArray
 |[]=>ByteArray.empty
 |y::r=>dS++y++mG r
theorem LI:∀r:List ByteArray,(mG r).data.toList=Lib.joinTail [32] (r.map (·.data.toList))
 |[]=>rfl
 |y::r=>by rw[mG,kE,kE,LI r];simp[Lib.joinTail,d1]
theorem oT(z D:List ByteArray)(h:z≠[]):cK dS (z++D)=cK dS z++mG D:=by
 cases z with
 |nil=>exact absurd rfl h
 |cons x r=>refine eV ?_;rw[kE,LI];show Lib.join ((x::(r++D)).map (·.data.toList)) dS.data.toList=Lib.join ((x::r).map (·.data.toList)) dS.data.toList++_;rw[List.map_cons,List.map_cons,Lib.join_cons,Lib.join_cons,List.map_append,DE,d1];simp[List.append_assoc]
def Q8(N A:ByteArray):List ByteArray:=[(⟨#[99,111,118,101,114]⟩:ByteArray),(⟨#[112,97,99,107,105,110,103]⟩:ByteArray),N,(⟨#[111,102]⟩:ByteArray),A]
def EL(N A:ByteArray):ByteArray:=(⟨#[99,111,118,101,114,32,112,97,99,107,105,110,103,32]⟩:ByteArray)++N++(⟨#[32,111,102,32]⟩:ByteArray)++A
theorem af1(N A:ByteArray):cK dS (Q8 N A)=EL N A:=by
 unfold Q8 EL;simp only[mY,oK];refine eV ?_;simp[dS]
def adN(b:Bool)(N S:ByteArray):List ByteArray:=if b then [(⟨#[116,114,97,110,115,118,101,114,115,97,108]⟩:ByteArray),N,(⟨#[98,121]⟩:ByteArray),S] else []
def EM(b:Bool)(X N S:ByteArray):ByteArray:=if b then X++(⟨#[32,116,114,97,110,115,118,101,114,115,97,108,32]⟩:ByteArray)++N++(⟨#[32,98,121,32]⟩:ByteArray)++S else X
theorem af2(b:Bool)(X N S:ByteArray):X++mG (adN b N S)=EM b X N S:=by
 cases b with
 |false=>exact eV (by rw[kE];show X.data.toList++[]=X.data.toList;simp)
 |true=>refine eV ?_;simp[adN,EM,mG,dS]
def adO(b:Bool)(N M P:ByteArray):List ByteArray:=if b then [(⟨#[115,109,97,108,108,101,115,116]⟩:ByteArray),N,(⟨#[103,114,101,101,100,121]⟩:ByteArray),M,(⟨#[112,114,105,99,101,115]⟩:ByteArray),P] else []
def EN(b:Bool)(X N M P:ByteArray):ByteArray:=if b then X++(⟨#[32,115,109,97,108,108,101,115,116,32]⟩:ByteArray)++N++(⟨#[32,103,114,101,101,100,121,32]⟩:ByteArray)++M++(⟨#[32,112,114,105,99,101,115,32]⟩:ByteArray)++P else X
theorem af3(b:Bool)(X N M P:ByteArray):X++mG (adO b N M P)=EN b X N M P:=by
 cases b with
 |false=>exact eV (by rw[kE];show X.data.toList++[]=X.data.toList;simp)
 |true=>refine eV ?_;simp[adO,EN,mG,dS]
def YK(g:Int)(l:List Int):List ByteArray:=(Q8 (bQ ((lI g l).length:Int)) (dB g (lI g l))++adN (kY g l) (bQ (tC g l)) (bZ g (mH g l)))++adO (jR g l) (bQ ((fK g l).length:Int)) (bQ ((dM g l).length:Int)) (eX (eT g l))
def CM(g:Int)(l:List Int):ByteArray:=EN (jR g l) (EM (kY g l) (EL (bQ ((lI g l).length:Int)) (dB g (lI g l))) (bQ (tC g l)) (bZ g (mH g l))) (bQ ((fK g l).length:Int)) (bQ ((dM g l).length:Int)) (eX (eT g l))
theorem ahR(g:Int)(l:List Int):cK dS (YK g l)=CM g l:=by
 unfold YK CM;rw[oT _ _ (by simp[Q8]),oT _ _ (by simp[Q8]),af1,af2,af3]
def wU(g:Int)(l:List Int):ByteArray:=if bJ g l then CM g l else ByteArray.empty
theorem CL{g:Int}{l:List Int}(h:bJ g l=true):wU g l=CM g l:=by unfold wU;rw[if_pos h]
theorem Q9{g:Int}{l:List Int}(h:bJ g l=false):wU g l=ByteArray.empty:=by unfold wU;rw[h];rfl
theorem DT(g:Int)(l:List Int):(eT g l).length<=6:=by
 unfold eT
 split
 ·rename_i h;rw[IB];unfold fG gQ at h
  split at h
  ·rename_i z;obtain⟨D,F,_⟩:=dT z;omega
  ·simp at h
 ·simp
theorem I2(N A:ByteArray)(D:N.size<=21)(z:A.size<=10000):(EL N A).size<=10100:=by
 unfold EL;simp only[ByteArray.size_append];have e1:(⟨#[99,111,118,101,114,32,112,97,99,107,105,110,103,32]⟩:ByteArray).size=14:=rfl;have e2:(⟨#[32,111,102,32]⟩:ByteArray).size=4:=rfl;omega
theorem I3(b:Bool)(X N S:ByteArray)(F:X.size<=10100)(z:N.size<=21)(D:S.size<=132):(EM b X N S).size<=10300:=by
 cases b with
 |false=>show X.size<=_;omega
 |true=>unfold EM;rw[if_pos rfl];simp only[ByteArray.size_append];have e1:(⟨#[32,116,114,97,110,115,118,101,114,115,97,108,32]⟩:ByteArray).size=13:=rfl;have e2:(⟨#[32,98,121,32]⟩:ByteArray).size=4:=rfl;omega
theorem YI(b:Bool)(X N M P:ByteArray)(I:X.size<=10300)(D:N.size<=21)(z:M.size<=21)(F:P.size<=200):(EN b X N M P).size<=11000:=by
 cases b with
 |false=>show X.size<=_;omega
 |true=>unfold EN;rw[if_pos rfl];simp only[ByteArray.size_append];have e1:(⟨#[32,115,109,97,108,108,101,115,116,32]⟩:ByteArray).size=10:=rfl;have e2:(⟨#[32,103,114,101,101,100,121,32]⟩:ByteArray).size=8:=rfl;have e3:(⟨#[32,112,114,105,99,101,115,32]⟩:ByteArray).size=8:=rfl;omega
theorem TJ(g:Int)(l:List Int):(lI g l).length<=64:=by
 unfold lI
 split
 ·rename_i z;exact uD 64 l 0 [] [] (by simpa using jT z) (by simp)
 ·simp
theorem aaQ(g:Int)(l:List Int)(h:jR g l=true->∀x∈eT g l,dD x):(CM g l).size<=11000:=by
 have h1:=TJ g l;have h2:=cW ((lI g l).length:Int) ⟨by omega,by omega⟩;have h3:=fC g (lI g l);have h4:=UG g l;have D:=cW (tC g l) ⟨by omega,by omega⟩;have F:=fF g (mH g l);have I:=I2 _ _ h2 h3;have z:=I3 (kY g l) _ _ _ I D F;unfold CM
 cases hb:jR g l with
 |false=>exact Nat.le_trans z aY
 |true=>have J:=BR g l;have K:=uR g l;have hc:=lP _ (h hb);have hd:=DT g l;exact YI _ _ _ _ _ z (cW _ ⟨by omega,by omega⟩) (cW _ ⟨by omega,by omega⟩) aK
theorem MH(n:Int)(l:List Int):(rH n l).length<=5:=by
 unfold rH qX
 split
 ·rename_i h;unfold xO at h;rw[Bool.and_eq_true]at h;obtain⟨N,rfl,z,_⟩:=cX (MS h.1)
  split
  ·rw[BN];unfold wI;simp;omega
  ·simp
 ·simp
def I4(n:Int)(l:List Int):Int:=l.getD (iY l n.toNat n.toNat) 0
theorem RE(n:Int)(l:List Int):-1000<=qK n l/\qK n l<=1000:=by
 cases h:jP n l with
 |false=>unfold qK;rw[h,if_neg (by simp)];omega
 |true=>unfold qK;rw[h,if_pos rfl];unfold jP gR at h;simp only[Bool.and_eq_true]at h;obtain⟨N,_,_,_,_,hb⟩:=cX h.1.1.1;exact vR hb _
def XS(M F X S D:ByteArray):List ByteArray:=[(⟨#[101,120,116,114,101,109,101]⟩:ByteArray),(⟨#[109,105,110,105,109,117,109]⟩:ByteArray),M,(⟨#[115,101,116,115]⟩:ByteArray),F,(⟨#[109,97,120,105,109,117,109]⟩:ByteArray),X,(⟨#[115,101,116]⟩:ByteArray),S,(⟨#[100,111,117,98,108,101]⟩:ByteArray),D]
def NM(M F X S D:ByteArray):ByteArray:=(⟨#[101,120,116,114,101,109,101,32,109,105,110,105,109,117,109,32]⟩:ByteArray)++M++(⟨#[32,115,101,116,115,32]⟩:ByteArray)++F++(⟨#[32,109,97,120,105,109,117,109,32]⟩:ByteArray)++X++(⟨#[32,115,101,116,32]⟩:ByteArray)++S++(⟨#[32,100,111,117,98,108,101,32]⟩:ByteArray)++D
theorem aiJ(M F X S D:ByteArray):cK dS (XS M F X S D)=NM M F X S D:=by
 unfold XS NM;simp only[mY,oK];refine eV ?_;simp[dS]
theorem O8(M F X S D:ByteArray)(h1:M.size<=21)(h2:F.size<=10000)(h3:X.size<=21)(h4:S.size<=132)(J:D.size<=21):(NM M F X S D).size<=10300:=by
 unfold NM;simp only[ByteArray.size_append];have z:(⟨#[101,120,116,114,101,109,101,32,109,105,110,105,109,117,109,32]⟩:ByteArray).size=16:=rfl;have e1:(⟨#[32,115,101,116,115,32]⟩:ByteArray).size=6:=rfl;have e2:(⟨#[32,109,97,120,105,109,117,109,32]⟩:ByteArray).size=9:=rfl;have e3:(⟨#[32,115,101,116,32]⟩:ByteArray).size=5:=rfl;have I:(⟨#[32,100,111,117,98,108,101,32]⟩:ByteArray).size=8:=rfl;omega
def xlB(b:Bool)(N:ByteArray):List ByteArray:=if b then [(⟨#[100,117,97,108]⟩:ByteArray),N] else []
def IM(b:Bool)(X N:ByteArray):ByteArray:=if b then X++(⟨#[32,100,117,97,108,32]⟩:ByteArray)++N else X
def xlC(b:Bool)(N S:ByteArray):List ByteArray:=if b then [(⟨#[99,117,116]⟩:ByteArray),N,(⟨#[111,102]⟩:ByteArray),S] else []
def UQ(b:Bool)(X N S:ByteArray):ByteArray:=if b then X++(⟨#[32,99,117,116,32]⟩:ByteArray)++N++(⟨#[32,111,102,32]⟩:ByteArray)++S else X
theorem aiL(b:Bool)(X N:ByteArray):X++mG (xlB b N)=IM b X N:=by
 cases b with
 |false=>exact eV (by rw[kE];show X.data.toList++[]=X.data.toList;simp)
 |true=>refine eV ?_;simp[xlB,IM,mG,dS]
theorem aiN(b:Bool)(X N S:ByteArray):X++mG (xlC b N S)=UQ b X N S:=by
 cases b with
 |false=>exact eV (by rw[kE];show X.data.toList++[]=X.data.toList;simp)
 |true=>refine eV ?_;simp[xlC,UQ,mG,dS]
theorem ac6(b:Bool)(X N:ByteArray)(k:Nat)(D:X.size<=k)(z:N.size<=200):(IM b X N).size<=k+220:=by
 cases b with
 |false=>show X.size<=_;omega
 |true=>unfold IM;rw[if_pos rfl];simp only[ByteArray.size_append];have e1:(⟨#[32,100,117,97,108,32]⟩:ByteArray).size=6:=rfl;omega
theorem ac7(b:Bool)(X N S:ByteArray)(k:Nat)(F:X.size<=k)(z:N.size<=21)(D:S.size<=132):(UQ b X N S).size<=k+180:=by
 cases b with
 |false=>show X.size<=_;omega
 |true=>unfold UQ;rw[if_pos rfl];simp only[ByteArray.size_append];have e1:(⟨#[32,99,117,116,32]⟩:ByteArray).size=5:=rfl;have e2:(⟨#[32,111,102,32]⟩:ByteArray).size=4:=rfl;omega
def xlL(n:Int)(l:List Int):List ByteArray:=(XS (bQ (iP l)) (dB n (zF n l)) (bQ (wB n l)) (bZ n (zE n l)) (bQ (I4 n l))++xlB (vA n l) (eX (rH n l)))++xlC (jP n l) (bQ (qK n l)) (bZ n (uN n l))
def UR(n:Int)(l:List Int):ByteArray:=UQ (jP n l) (IM (vA n l) (NM (bQ (iP l)) (dB n (zF n l)) (bQ (wB n l)) (bZ n (zE n l)) (bQ (I4 n l))) (eX (rH n l))) (bQ (qK n l)) (bZ n (uN n l))
theorem ai8(n:Int)(l:List Int):cK dS (xlL n l)=UR n l:=by
 unfold xlL UR;rw[oT _ _ (by simp[XS]),oT _ _ (by simp[XS]),aiJ,aiL,aiN]
def EE(n:Int)(l:List Int):ByteArray:=if bM n l then UR n l else ByteArray.empty
theorem BZ{n:Int}{l:List Int}(h:bM n l=true):EE n l=UR n l:=by unfold EE;rw[if_pos h]
theorem XT{n:Int}{l:List Int}(h:bM n l=false):EE n l=ByteArray.empty:=by unfold EE;rw[h];rfl
theorem S6{n:Int}{l:List Int}(h:bM n l=true):-1000<=iP l/\iP l<=1000:=by
 obtain⟨N,_,_,h2,_,hb⟩:=cX h;have D:=Nat.two_pow_pos N;obtain⟨i,_,z⟩:=ahY l aK l.length aO;unfold iP;rw[<-z];exact vR hb _
theorem TB{n:Int}{l:List Int}(h:bM n l=true):-1000<=wB n l/\wB n l<=1000:=by
 obtain⟨N,_,_,_,_,hb⟩:=cX h;unfold wB;rw[if_pos h];exact vR hb _
theorem RJ{n:Int}{l:List Int}(h:bM n l=true):-1000<=I4 n l/\I4 n l<=1000:=by
 obtain⟨N,_,_,_,_,hb⟩:=cX h;exact vR hb _
theorem US{n:Int}{l:List Int}(h:bM n l=true)(hd:∀x∈rH n l,dD x):(UR n l).size<=10700:=by
 have h1:=S6 h;have h2:=TB h;have h3:=RJ h;have h4:=RE n l;have z:=MH n l;have D:=lP _ hd;exact ac7 _ _ _ _ 10520 (ac6 _ _ _ 10300 (O8 _ _ _ _ _ (cW _ ⟨by omega,by omega⟩) (fC _ _) (cW _ ⟨by omega,by omega⟩) (fF _ _) (cW _ ⟨by omega,by omega⟩)) aK) (cW _ ⟨by omega,by omega⟩) (fF _ _)
theorem aaF(w:World)(N:Nat)(v:Value)(l:List Int)(hv:aR w v l)(hf:bM N l=true):
  Calls prog 181 #[.agg #[(N:Int),v],(N:Int)] w fun e w'=>e=.returned (.tuple #[(l.getD (lF l l.length) 0),aM (lF l l.length:Int),.bool true])/\Below w w w':=by
 have d0:=hv;obtain⟨a,b,f2,c,rfl,d9,b1,hc,hb⟩:=hv.view prog 24 3 underlying24 aS;have J:∀s,s<l.length->bR s<=N/\l.length<=32/\0<l.length:=by intro s hs;obtain⟨N',hN,h5,c6,F,_⟩:=cX hf;have hN:=Int.ofNat.inj hN;subst hN;exact⟨agX N aK s aK aK,F,by omega⟩
 have F:l.length<=32/\0<l.length:=by obtain⟨N',hN,h5,c6,F,_⟩:=cX hf;have:=Nat.two_pow_pos N';exact⟨F,by omega⟩
 have b7:=aN J;have b0:eZ (N:Int) 0 (N:Int)=true:=by unfold eZ;simp
 have K0:=aU.new w 26 #[(N:Int),aI a l.length c];have b6:=aN b0;have M:=aN (dV (N:Int) l _ (w.alloc (.cells #[(N:Int),aI a l.length c] 26)) (d0.alloc _));rw[hf]at M;have HC:=aN hc;have R:=aN b1;clear hf b0 J hc b1;go_enter func181,ntmps181;go_wp2_with fail;refine M.out.mono ?_;rintro e w1 ⟨rfl,a7⟩;have B1:Below w w w1:=(bF _ _).after a7 (by simp);have K1:=K0.keep a7;have G:=K1.cell;have z1:=K1.lt;have a8:=aW HC.out hb B1 aO;have O:=aN a8;clear a8 M;go_wp2_with (go_at_call 158;refine(jF _ _ _ _).mono ?_;rintro e w3 ⟨rfl,rfl⟩;rw[b6.out]);go_loop [7,23] (fun b8 i=>∃t:Nat,t<=l.length/\i=aM t/\b8=aM (lF l t:Int)) (fun _ i=>l.length-(intOf i).toNat)
 case atStart=>exact⟨0,Nat.zero_le _,rfl,rfl⟩
 case round=>
  obtain⟨t,ht,rfl,rfl⟩:=hrel;by_cases hlt:t<l.length
  ·have b3:(t:Int)<(l.length:Int):=aK
   have D:lF l t<l.length:=by
    rcases Nat.eq_zero_or_pos t with rfl|h
    ·exact hlt
    ·have:=EU l t h;omega
   have z:=OK l t;have Y:=fun W:World=>gI t W aK;have c8:(bR t:Int)<=(N:Int):=by have:=(b7.out t hlt).1;omega
   have b9:=O.out t hlt;have f0:=fun W=>R.out W t hlt;have I:=O.out _ D;have a1:=fun W=>R.out W _ D;rw[aX l t hlt,aX l _ D]at z;obtain⟨q,K⟩:=aQ (lF l t);simp only[<-K]at z I a1 D;rw[<-K];obtain⟨x,hx⟩:=aQ (l[t]);obtain⟨y,Z⟩:=aQ (l[q]);rw[<-hx,<-Z]at z;rw[<-hx]at b9;rw[<-Z]at I;obtain⟨p,hp⟩:∃p:Nat,p=bR t:=⟨_,rfl⟩;rw[<-hp]at c8;simp only[<-hp]at Y;have a6:=aN Y;clear Y K hx Z hp;by_cases a9:y<x
   ·rw[if_pos a9]at z;have S:=aN z;clear z;go_wp2_with (go_at_call 165;refine(a6.out _).mono ?_;rintro e w3 ⟨rfl,rfl⟩);go_round
    case rel=>exact⟨t+1,by omega,by go_num,by rw[S.out]⟩
    case measure=>simp[intOf];omega
   ·rw[if_neg a9]at z;have S:=aN z;clear z;go_wp2_with (go_at_call 165;refine(a6.out _).mono ?_;rintro e w3 ⟨rfl,rfl⟩);go_round
    case rel=>exact⟨t+1,by omega,by go_num,by rw[S.out]⟩
    case measure=>simp[intOf];omega
  ·have b3:¬(t:Int)<(l.length:Int):=aK;have c9:t=l.length:=aK;subst c9;have D:=EU l l.length aK;have I:=O.out _ D;have a1:=fun W=>R.out W _ D;have hg:=aX l _ D;obtain⟨q,K⟩:=aQ (lF l l.length);simp only[<-K]at I a1 D hg;rw[<-K];rw[<-hg]at I;obtain⟨y,Z⟩:=aQ (l.getD q 0);rw[<-Z]at I;have HY:=aN Z;have HQ:=aN K;clear hg Z K;go_wp2;go_ret3;exact⟨by have h1:=HQ.out;have h2:=HY.out;subst h1;rw[aX l _ D]at h2;subst h2;rfl,B1⟩
theorem ai3(w:World)(n:Int)(v:Value)(l:List Int)(M:aR w v l):
  Calls prog 68 #[.agg #[n,v]] w fun e w'=>e=.returned (.tuple #[(wB n l),(zE n l),.bool (bM n l)])/\Below w w w':=by
 have O:=M;obtain⟨a,c,rfl⟩:=M.shape;go_enter func68,ntmps68;go_wp2_with fail;refine bH ?_;intro V J;have B:Below w w V:=fU J;have K:aU V w 26 #[n,aI a l.length c]:=eJ J;clear J;refine(dV n l _ V (M.below B aO)).mono ?_;rintro e w1 ⟨rfl,R⟩;have K:=K.keep R;have B:=B.after R B.size;have G:=K.cell;have z:=K.lt
 cases D:bM n l with
 |false=>
  have I:wB n l=0/\zE n l=0:=by unfold wB zE;rw[D];exact⟨rfl,rfl⟩
  have F:=aN (And.intro I D);clear I D;go_wp2;go_ret3;exact⟨by rw[F.out.1.1,F.out.1.2,F.out.2];rfl,B⟩
 |true=>
  have I:wB n l=l.getD (lF l l.length) 0/\zE n l=(lF l l.length:Int):=by unfold wB zE;rw[D];exact⟨rfl,rfl⟩
  obtain⟨N,rfl,-⟩:=cX D;have S:=aN (aaF w1 N _ l (O.below B aO) D);have F:=aN (And.intro I D);clear I D;go_wp2_with fail;refine S.out.mono ?_;rintro e w2 ⟨rfl,b2⟩;go_wp2;go_ret3;exact⟨by rw[F.out.1.1,F.out.1.2,F.out.2];rfl,B.after b2 B.size⟩
theorem Z7(w:World)(N:Nat)(v:Value)(l:List Int)(hv:aR w v l)(O:bM N l=true)(s:Nat)(R:s<l.length):
  Calls prog 72 #[.agg #[(N:Int),v],(s:Int)] w fun e w'=>e=.returned (l.getD s 0)/\Below w w w':=by
 have S:=hv;obtain⟨a,b,b5,c,rfl,a8,J,hc,hb⟩:=hv.view prog 24 3 underlying24 aS;have z:fD N (s:Int)=true/\N<=5:=by
  obtain⟨N',M,h5,b4,a7,_⟩:=cX O;have M:=Int.ofNat.inj M;subst M;refine⟨?_,h5⟩;have:((2^N:Nat):Int)=(2:Int)^N:=by simp
  unfold fD;simp only[Bool.and_eq_true,decide_eq_true_eq];omega
 have K:=aN z.1;have h5:=z.2;have D:=aN (dV (N:Int) l _ (w.alloc (.cells #[(N:Int),aI a l.length c] 26)) (S.alloc _));rw[O]at D;have K0:=aU.new w 26 #[(N:Int),aI a l.length c];have HC:=aN hc;have I:=aX l s R;have ik:=fun W=>J W s R;obtain⟨x,Y⟩:=aQ (l.getD s 0);rw[<-Y];clear O z hc J;go_enter func72,ntmps72;go_wp2_with fail;refine D.out.mono ?_;rintro e w1 ⟨rfl,F⟩;have Z:Below w w w1:=(bF _ _).after F (by simp);have K1:=K0.keep F;have G:=K1.cell;have z1:=K1.lt;have ck:=aW HC.out hb Z aO s R;rw[<-I,<-Y]at ck;clear D I Y;go_wp2_with (go_at_call 183;refine(qH N _ _ aK).mono ?_;rintro e w3 ⟨rfl,rfl⟩;rw[K.out]);go_ret;exact⟨rfl,Z⟩
theorem aiS(w:World)(n:Int)(v:Value)(l:List Int)(hv:aR w v l):
  Calls prog 69 #[.agg #[n,v]] w fun e w'=>e=.returned (.tuple #[(yO n l),.bool (bM n l)])/\Below w w w':=by
 have d5:=hv;obtain⟨a,b,d6,c,rfl,h7,c5,hc,hb⟩:=hv.view prog 24 3 underlying24 aS;have HC:=aN hc;have b7:=aN c5;clear hc c5;go_enter func69,ntmps69;go_wp2_with fail;refine bH ?_;intro V hV;have B:Below w w V:=fU hV;have K:aU V w 26 #[n,aI a l.length c]:=eJ hV;clear hV;refine(dV n l _ V (hv.below B aO)).mono ?_;rintro e w1 ⟨rfl,b1⟩;have K:=K.keep b1;have B:=B.after b1 B.size;have G:=K.cell;have z:=K.lt
 cases hf:bM n l with
 |false=>
  have Y:yO n l=0:=by unfold yO;rw[hf];rfl
  have HX:=aN (And.intro Y hf);clear Y hf;go_wp2;go_ret2;exact⟨by rw[HX.out.1,HX.out.2];rfl,B⟩
 |true=>
  obtain⟨N,rfl,h5,c6,h6,c7⟩:=cX hf;have Y:yO N l=(iY l N N:Int):=by unfold yO;rw[hf,if_pos rfl,Int.toNat_natCast]
  have a6:=tY (N:Int) (aI a l.length c) l w1 (d5.below B aO) aK aK;rw[Int.toNat_natCast,show((2:Int)^N-1)=((jH N 0 0:Nat):Int) by rw[RI];have:((2^N:Nat):Int)=(2:Int)^N:=(by simp);have:=Nat.two_pow_pos N;omega]at a6;have e5:=aN a6;have HX:=aN (And.intro Y hf);have S:=aN c6;have a1:=aN c7;clear Y hf a6 c6 c7;go_wp2_with fail;refine e5.out.mono ?_;rintro e w2 ⟨rfl,b2⟩;have K:=K.keep b2;have B:=B.after b2 B.size;clear G z;have G:=K.cell;have z:=K.lt;go_wp2_with fail;go_loopw [4,5,15] (fun av bv i wr=>∃e:Nat,e<=N/\i=aM e/\av=aM (iY l N e:Int)/\bv=aM (jH N (iY l N e) e:Int)/\Below w2 w2 wr) (fun _ _ i _=>N-(intOf i).toNat)
  case atStart=>exact⟨0,Nat.zero_le _,rfl,rfl,rfl,Below.refl _ _⟩
  case round=>
   obtain⟨e,he,rfl,rfl,rfl,Z⟩:=hrel;obtain⟨wo,rfl⟩:∃z:World,z=wr:=⟨_,rfl⟩;by_cases hlt:e<N
   ·have c8:(e:Int)<(N:Int):=aK;have Bw:=B.after Z B.size;have Kw:=K.keep Z;have b4:=EP l N h5 e he;have f9:(2:Nat)^e<=32:=Nat.pow_le_pow_right (n:=2) (j:=5) aY aK;have f0:(2:Nat)^N<=32:=Nat.pow_le_pow_right (n:=2) (j:=5) aY aK;have D:=NS l N e;obtain⟨x,Y⟩:=aQ (iY l N e);rw[<-Y]at b4 D ⊢;obtain⟨⟨f1,f2⟩,⟨f3,f4⟩,⟨f5,f6⟩,f7,f8⟩:=GI N aK e hlt x aK b4;have d0:=fZ x e aK aK;have c9:=afY (jH N x e) e aK aK;rw[f2]at c9 D;rw[f1]at d0 D;have b0:=fun(W:World) (h:aR W (aI a l.length c) l)=>AZ (N:Int) l _ x e W h aK (by have:=S.out;omega) aK (by rw[f1];have:=S.out;omega) a1.out;have a7:=vR a1.out (jH N x (e+1));have a8:=vR a1.out (jH N x e);have F:jH N x (e+1)<l.length:=by have:=S.out;omega
    have I:jH N x e<l.length:=by have:=S.out;omega
    have M:=aW HC.out hb Bw aO _ F;have O:=aW HC.out hb Bw aO _ I;have g2:=fun W=>b7.out W _ F;have g3:=fun W=>b7.out W _ I;rw[<-aX l _ F]at M;rw[<-aX l _ I]at O;have H3:=aN f3;obtain⟨y,hy⟩:=aQ (jH N x e);obtain⟨z',b6⟩:∃z',z'=jH N x (e+1):=⟨_,rfl⟩;obtain⟨x',b3⟩:∃x',x'=x+2^e:=⟨_,rfl⟩;simp only[<-hy,<-b6]at c9 a7 a8 M O g2 g3 D;rw[<-b3]at d0 D;rw[<-hy];have HY:=aN hy;have HZ:=aN b6;have e6:=aN b3;obtain⟨p,hp⟩:=aQ (l.getD z' 0);obtain⟨q,hq⟩:=aQ (l.getD y 0);obtain⟨g,hg⟩:=aQ (eA l x e);rw[<-hp]at a7 M D;rw[<-hq]at a8 O D;rw[<-hg]at D;simp only[<-hg]at b0;have k3:IntKind.i64.wrap (p-q)=p-q:=by rw[IntKind.wrap_i64];omega
    have R:=cO e 6 aK;have k1:(2:Int)^e<=64:=by simpa using R.1
    have k2:=R.2;have k0:(0:Int)<=(e:Int):=Int.natCast_nonneg _;have e0:∀y:Ext wo,y.w.cell? ⟨w.heap.size,0,none⟩=some (aM (N:Int)):=fun y=>y.cell (Kw.cell 0);have e1:∀y:Ext wo,y.w.cell? ⟨w.heap.size,1,none⟩=some (aI a l.length c):=fun y=>y.cell (Kw.cell 1);have e2:∀y:Ext wo,y.w.cell? ⟨b,d6+z',none⟩=some (aM p):=fun y=>y.cell M;have e3:∀z:Ext wo,z.w.cell? ⟨b,d6+y,none⟩=some (aM q):=fun z=>z.cell O;have g1:=d5.below Bw aO;have HG:=aN (fun y:Ext wo=>b0 y.w (y.ints g1));clear Y f1 f2 f3 f4 f5 f6 f7 f8 b4 f9 f0 hy b6 b3 hp hq hg b0 F I R M O a7 a8 G z;by_cases b9:p-q<=g
    ·rw[if_pos b9]at D;have J:=aN D;clear D;go_wp2_with fail;refine bN _ aT aT ?_
     repeat(first|go_big_quiet_skip|(go_big_quiet_want;go_big_quiet_op;first|go_big_quiet_on|(apply Exists.intro;refine⟨fun _=>?_,?_⟩;(go_at_call 170;exact bO (HG.out _));go_big_quiet_on)))
     refine wpQuiet_nil ?_;rintro w5 ⟨⟨w5,b5⟩,rfl⟩
     try dsimp only
     go_wp2;go_roundw
     case rel=>exact⟨e+1,by omega,by go_num,by rw[J.out],by rw[J.out,e6.out,H3.out,HY.out],Z.after b5 Z.size⟩
     case measure=>simp[intOf];omega
    ·rw[if_neg b9]at D;have J:=aN D;clear D;go_wp2_with fail;refine bN _ aT aT ?_
     repeat(first|go_big_quiet_skip|(go_big_quiet_want;go_big_quiet_op;first|go_big_quiet_on|(apply Exists.intro;refine⟨fun _=>?_,?_⟩;(go_at_call 170;exact bO (HG.out _));go_big_quiet_on)))
     refine wpQuiet_nil ?_;rintro w5 ⟨⟨w5,b5⟩,rfl⟩
     try dsimp only
     go_wp2;go_roundw
     case rel=>exact⟨e+1,by omega,by go_num,by rw[J.out],by rw[J.out,HZ.out],Z.after b5 Z.size⟩
     case measure=>simp[intOf];omega
   ·have c8:¬(e:Int)<(N:Int):=aK;have hE:e=N:=aK;subst hE;go_wp2;go_ret2;exact⟨by rw[HX.out.1,HX.out.2];rfl,B.after Z B.size⟩
end
end Go.Proofs.YtcpoomdoodlkjaaGreatDoor
