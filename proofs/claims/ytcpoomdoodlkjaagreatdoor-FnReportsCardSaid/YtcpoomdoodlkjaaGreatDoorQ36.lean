/- Lemmas for CardReports. No condition. -/
import Derived.Test.YtcpoomdoodlkjaaGreatDoorQ21
import Derived.Test.YtcpoomdoodlkjaaGreatDoorQ34
set_option maxRecDepth 100000
set_option maxHeartbeats 64000000
namespace Go.Proofs.YtcpoomdoodlkjaaGreatDoor
section
open Go.RowKit Go.G5 Go.Proofs.Tryz
def mD:List ByteArray->ByteArray
 |[]=>ByteArray.empty
 |y::r=>dP++y++mD r
theorem KT:∀r:List ByteArray,(mD r).data.toList=Lib.joinTail [32] (r.map (·.data.toList))
 |[]=>rfl
 |y::r=>by rw[mD,kB,kB,KT r];simp[Lib.joinTail,d1]
theorem oK(z D:List ByteArray)(h:z≠[]):bZ dP (z++D)=bZ dP z++mD D:=by
 cases z with
 |nil=>exact absurd rfl h
 |cons x r=>refine eS ?_;rw[kB,KT];show Lib.join ((x::(r++D)).map (·.data.toList)) dP.data.toList=Lib.join ((x::r).map (·.data.toList)) dP.data.toList++_;rw[List.map_cons,List.map_cons,Lib.join_cons,Lib.join_cons,List.map_append,DB,d1];simp[List.append_assoc]
def QX(N A:ByteArray):List ByteArray:=[(⟨#[99,111,118,101,114]⟩:ByteArray),(⟨#[112,97,99,107,105,110,103]⟩:ByteArray),N,(⟨#[111,102]⟩:ByteArray),A]
def EH(N A:ByteArray):ByteArray:=(⟨#[99,111,118,101,114,32,112,97,99,107,105,110,103,32]⟩:ByteArray)++N++(⟨#[32,111,102,32]⟩:ByteArray)++A
theorem afX(N A:ByteArray):bZ dP (QX N A)=EH N A:=by
 unfold QX EH;simp only[mV,nY];refine eS ?_;simp[dP]
def adJ(b:Bool)(N S:ByteArray):List ByteArray:=if b then [(⟨#[116,114,97,110,115,118,101,114,115,97,108]⟩:ByteArray),N,(⟨#[98,121]⟩:ByteArray),S] else []
def EJ(b:Bool)(X N S:ByteArray):ByteArray:=if b then X++(⟨#[32,116,114,97,110,115,118,101,114,115,97,108,32]⟩:ByteArray)++N++(⟨#[32,98,121,32]⟩:ByteArray)++S else X
theorem afY(b:Bool)(X N S:ByteArray):X++mD (adJ b N S)=EJ b X N S:=by
 cases b with
 |false=>exact eS (by rw[kB];show X.data.toList++[]=X.data.toList;simp)
 |true=>refine eS ?_;simp[adJ,EJ,mD,dP]
def adK(b:Bool)(N M P:ByteArray):List ByteArray:=if b then [(⟨#[115,109,97,108,108,101,115,116]⟩:ByteArray),N,(⟨#[103,114,101,101,100,121]⟩:ByteArray),M,(⟨#[112,114,105,99,101,115]⟩:ByteArray),P] else []
def EK(b:Bool)(X N M P:ByteArray):ByteArray:=if b then X++(⟨#[32,115,109,97,108,108,101,115,116,32]⟩:ByteArray)++N++(⟨#[32,103,114,101,101,100,121,32]⟩:ByteArray)++M++(⟨#[32,112,114,105,99,101,115,32]⟩:ByteArray)++P else X
theorem afZ(b:Bool)(X N M P:ByteArray):X++mD (adK b N M P)=EK b X N M P:=by
 cases b with
 |false=>exact eS (by rw[kB];show X.data.toList++[]=X.data.toList;simp)
 |true=>refine eS ?_;simp[adK,EK,mD,dP]
def YG(g:Int)(l:List Int):List ByteArray:=(QX (bM ((lF g l).length:Int)) (cY g (lF g l))++adJ (kV g l) (bM (sZ g l)) (bW g (mE g l)))++adK (jO g l) (bM ((fH g l).length:Int)) (bM ((dJ g l).length:Int)) (eU (eQ g l))
def CJ(g:Int)(l:List Int):ByteArray:=EK (jO g l) (EJ (kV g l) (EH (bM ((lF g l).length:Int)) (cY g (lF g l))) (bM (sZ g l)) (bW g (mE g l))) (bM ((fH g l).length:Int)) (bM ((dJ g l).length:Int)) (eU (eQ g l))
theorem ahN(g:Int)(l:List Int):bZ dP (YG g l)=CJ g l:=by
 unfold YG CJ;rw[oK _ _ (by simp[QX]),oK _ _ (by simp[QX]),afX,afY,afZ]
def wQ(g:Int)(l:List Int):ByteArray:=if bF g l then CJ g l else ByteArray.empty
theorem CI{g:Int}{l:List Int}(h:bF g l=true):wQ g l=CJ g l:=by unfold wQ;rw[if_pos h]
theorem QY{g:Int}{l:List Int}(h:bF g l=false):wQ g l=ByteArray.empty:=by unfold wQ;rw[h];rfl
theorem DQ(g:Int)(l:List Int):(eQ g l).length<=6:=by
 unfold eQ
 split
 ·rename_i h;rw[H8];unfold fD gN at h
  split at h
  ·rename_i z;obtain⟨D,F,_⟩:=dQ z;omega
  ·simp at h
 ·simp
theorem IY(N A:ByteArray)(D:N.size<=21)(z:A.size<=10000):(EH N A).size<=10100:=by
 unfold EH;simp only[ByteArray.size_append];have e1:(⟨#[99,111,118,101,114,32,112,97,99,107,105,110,103,32]⟩:ByteArray).size=14:=rfl;have e2:(⟨#[32,111,102,32]⟩:ByteArray).size=4:=rfl;omega
theorem IZ(b:Bool)(X N S:ByteArray)(F:X.size<=10100)(z:N.size<=21)(D:S.size<=132):(EJ b X N S).size<=10300:=by
 cases b with
 |false=>show X.size<=_;omega
 |true=>unfold EJ;rw[if_pos rfl];simp only[ByteArray.size_append];have e1:(⟨#[32,116,114,97,110,115,118,101,114,115,97,108,32]⟩:ByteArray).size=13:=rfl;have e2:(⟨#[32,98,121,32]⟩:ByteArray).size=4:=rfl;omega
theorem YE(b:Bool)(X N M P:ByteArray)(I:X.size<=10300)(D:N.size<=21)(z:M.size<=21)(F:P.size<=200):(EK b X N M P).size<=11000:=by
 cases b with
 |false=>show X.size<=_;omega
 |true=>unfold EK;rw[if_pos rfl];simp only[ByteArray.size_append];have e1:(⟨#[32,115,109,97,108,108,101,115,116,32]⟩:ByteArray).size=10:=rfl;have e2:(⟨#[32,103,114,101,101,100,121,32]⟩:ByteArray).size=8:=rfl;have e3:(⟨#[32,112,114,105,99,101,115,32]⟩:ByteArray).size=8:=rfl;omega
theorem TF(g:Int)(l:List Int):(lF g l).length<=64:=by
 unfold lF
 split
 ·rename_i z;exact uA 64 l 0 [] [] (by simpa using jQ z) (by simp)
 ·simp
theorem aaM(g:Int)(l:List Int)(h:jO g l=true->∀x∈eQ g l,dA x):(CJ g l).size<=11000:=by
 have h1:=TF g l;have h2:=cT ((lF g l).length:Int) ⟨by omega,by omega⟩;have h3:=eZ g (lF g l);have h4:=UC g l;have D:=cT (sZ g l) ⟨by omega,by omega⟩;have F:=fC g (mE g l);have I:=IY _ _ h2 h3;have z:=IZ (kV g l) _ _ _ I D F;unfold CJ
 cases hb:jO g l with
 |false=>exact Nat.le_trans z aV
 |true=>have J:=BO g l;have K:=uO g l;have hc:=lM _ (h hb);have hd:=DQ g l;exact YE _ _ _ _ _ z (cT _ ⟨by omega,by omega⟩) (cT _ ⟨by omega,by omega⟩) aI
theorem MD(n:Int)(l:List Int):(rD n l).length<=5:=by
 unfold rD qU
 split
 ·rename_i h;unfold xL at h;rw[Bool.and_eq_true]at h;obtain⟨N,rfl,z,_⟩:=cU (MO h.1)
  split
  ·rw[BK];unfold wF;simp;omega
  ·simp
 ·simp
def I0(n:Int)(l:List Int):Int:=l.getD (iV l n.toNat n.toNat) 0
theorem RA(n:Int)(l:List Int):-1000<=qE n l/\qE n l<=1000:=by
 cases h:jM n l with
 |false=>unfold qE;rw[h,if_neg (by simp)];omega
 |true=>unfold qE;rw[h,if_pos rfl];unfold jM gO at h;simp only[Bool.and_eq_true]at h;obtain⟨N,_,_,_,_,hb⟩:=cU h.1.1.1;exact vO hb _
def XO(M F X S D:ByteArray):List ByteArray:=[(⟨#[101,120,116,114,101,109,101]⟩:ByteArray),(⟨#[109,105,110,105,109,117,109]⟩:ByteArray),M,(⟨#[115,101,116,115]⟩:ByteArray),F,(⟨#[109,97,120,105,109,117,109]⟩:ByteArray),X,(⟨#[115,101,116]⟩:ByteArray),S,(⟨#[100,111,117,98,108,101]⟩:ByteArray),D]
def NI(M F X S D:ByteArray):ByteArray:=(⟨#[101,120,116,114,101,109,101,32,109,105,110,105,109,117,109,32]⟩:ByteArray)++M++(⟨#[32,115,101,116,115,32]⟩:ByteArray)++F++(⟨#[32,109,97,120,105,109,117,109,32]⟩:ByteArray)++X++(⟨#[32,115,101,116,32]⟩:ByteArray)++S++(⟨#[32,100,111,117,98,108,101,32]⟩:ByteArray)++D
theorem aiF(M F X S D:ByteArray):bZ dP (XO M F X S D)=NI M F X S D:=by
 unfold XO NI;simp only[mV,nY];refine eS ?_;simp[dP]
theorem O3(M F X S D:ByteArray)(h1:M.size<=21)(h2:F.size<=10000)(h3:X.size<=21)(h4:S.size<=132)(J:D.size<=21):(NI M F X S D).size<=10300:=by
 unfold NI;simp only[ByteArray.size_append];have z:(⟨#[101,120,116,114,101,109,101,32,109,105,110,105,109,117,109,32]⟩:ByteArray).size=16:=rfl;have e1:(⟨#[32,115,101,116,115,32]⟩:ByteArray).size=6:=rfl;have e2:(⟨#[32,109,97,120,105,109,117,109,32]⟩:ByteArray).size=9:=rfl;have e3:(⟨#[32,115,101,116,32]⟩:ByteArray).size=5:=rfl;have I:(⟨#[32,100,111,117,98,108,101,32]⟩:ByteArray).size=8:=rfl;omega
def xlB(b:Bool)(N:ByteArray):List ByteArray:=if b then [(⟨#[100,117,97,108]⟩:ByteArray),N] else []
def IJ(b:Bool)(X N:ByteArray):ByteArray:=if b then X++(⟨#[32,100,117,97,108,32]⟩:ByteArray)++N else X
def xlC(b:Bool)(N S:ByteArray):List ByteArray:=if b then [(⟨#[99,117,116]⟩:ByteArray),N,(⟨#[111,102]⟩:ByteArray),S] else []
def UM(b:Bool)(X N S:ByteArray):ByteArray:=if b then X++(⟨#[32,99,117,116,32]⟩:ByteArray)++N++(⟨#[32,111,102,32]⟩:ByteArray)++S else X
theorem aiH(b:Bool)(X N:ByteArray):X++mD (xlB b N)=IJ b X N:=by
 cases b with
 |false=>exact eS (by rw[kB];show X.data.toList++[]=X.data.toList;simp)
 |true=>refine eS ?_;simp[xlB,IJ,mD,dP]
theorem aiJ(b:Bool)(X N S:ByteArray):X++mD (xlC b N S)=UM b X N S:=by
 cases b with
 |false=>exact eS (by rw[kB];show X.data.toList++[]=X.data.toList;simp)
 |true=>refine eS ?_;simp[xlC,UM,mD,dP]
theorem ac2(b:Bool)(X N:ByteArray)(k:Nat)(D:X.size<=k)(z:N.size<=200):(IJ b X N).size<=k+220:=by
 cases b with
 |false=>show X.size<=_;omega
 |true=>unfold IJ;rw[if_pos rfl];simp only[ByteArray.size_append];have e1:(⟨#[32,100,117,97,108,32]⟩:ByteArray).size=6:=rfl;omega
theorem ac3(b:Bool)(X N S:ByteArray)(k:Nat)(F:X.size<=k)(z:N.size<=21)(D:S.size<=132):(UM b X N S).size<=k+180:=by
 cases b with
 |false=>show X.size<=_;omega
 |true=>unfold UM;rw[if_pos rfl];simp only[ByteArray.size_append];have e1:(⟨#[32,99,117,116,32]⟩:ByteArray).size=5:=rfl;have e2:(⟨#[32,111,102,32]⟩:ByteArray).size=4:=rfl;omega
def xlL(n:Int)(l:List Int):List ByteArray:=(XO (bM (iK l)) (cY n (zA n l)) (bM (vY n l)) (bW n (yZ n l)) (bM (I0 n l))++xlB (uX n l) (eU (rD n l)))++xlC (jM n l) (bM (qE n l)) (bW n (uK n l))
def UN(n:Int)(l:List Int):ByteArray:=UM (jM n l) (IJ (uX n l) (NI (bM (iK l)) (cY n (zA n l)) (bM (vY n l)) (bW n (yZ n l)) (bM (I0 n l))) (eU (rD n l))) (bM (qE n l)) (bW n (uK n l))
theorem ai4(n:Int)(l:List Int):bZ dP (xlL n l)=UN n l:=by
 unfold xlL UN;rw[oK _ _ (by simp[XO]),oK _ _ (by simp[XO]),aiF,aiH,aiJ]
def EB(n:Int)(l:List Int):ByteArray:=if bH n l then UN n l else ByteArray.empty
theorem BR{n:Int}{l:List Int}(h:bH n l=true):EB n l=UN n l:=by unfold EB;rw[if_pos h]
theorem XP{n:Int}{l:List Int}(h:bH n l=false):EB n l=ByteArray.empty:=by unfold EB;rw[h];rfl
theorem SY{n:Int}{l:List Int}(h:bH n l=true):-1000<=iK l/\iK l<=1000:=by
 obtain⟨N,_,_,h2,_,hb⟩:=cU h;have D:=Nat.two_pow_pos N;obtain⟨i,_,z⟩:=ahU l aI l.length aK;unfold iK;rw[<-z];exact vO hb _
theorem S7{n:Int}{l:List Int}(h:bH n l=true):-1000<=vY n l/\vY n l<=1000:=by
 obtain⟨N,_,_,_,_,hb⟩:=cU h;unfold vY;rw[if_pos h];exact vO hb _
theorem RF{n:Int}{l:List Int}(h:bH n l=true):-1000<=I0 n l/\I0 n l<=1000:=by
 obtain⟨N,_,_,_,_,hb⟩:=cU h;exact vO hb _
theorem UO{n:Int}{l:List Int}(h:bH n l=true)(hd:∀x∈rD n l,dA x):(UN n l).size<=10700:=by
 have h1:=SY h;have h2:=S7 h;have h3:=RF h;have h4:=RA n l;have z:=MD n l;have D:=lM _ hd;exact ac3 _ _ _ _ 10520 (ac2 _ _ _ 10300 (O3 _ _ _ _ _ (cT _ ⟨by omega,by omega⟩) (eZ _ _) (cT _ ⟨by omega,by omega⟩) (fC _ _) (cT _ ⟨by omega,by omega⟩)) aI) (cT _ ⟨by omega,by omega⟩) (fC _ _)
theorem aaB(w:World)(N:Nat)(v:Value)(l:List Int)(hv:aO w v l)(hf:bH N l=true):
  Calls prog 181 #[.agg #[(N:Int),v],(N:Int)] w fun e w'=>e=.returned (.tuple #[(l.getD (lC l l.length) 0),ajJ (lC l l.length:Int),.bool true])/\Below w w w':=by
 have d0:=hv;obtain⟨a,b,f2,c,rfl,d9,b1,hc,hb⟩:=hv.view prog 24 3 underlying24 aP;have J:∀s,s<l.length->bN s<=N/\l.length<=32/\0<l.length:=by intro s hs;obtain⟨N',hN,h5,c6,F,_⟩:=cU hf;have hN:=Int.ofNat.inj hN;subst hN;exact⟨agT N aI s aI aI,F,by omega⟩
 have F:l.length<=32/\0<l.length:=by obtain⟨N',hN,h5,c6,F,_⟩:=cU hf;have:=Nat.two_pow_pos N';exact⟨F,by omega⟩
 have b7:=aJ J;have b0:eW (N:Int) 0 (N:Int)=true:=by unfold eW;simp
 have K0:=aR.new w 26 #[(N:Int),ajH a l.length c];have b6:=aJ b0;have M:=aJ (dS (N:Int) l _ (w.alloc (.cells #[(N:Int),ajH a l.length c] 26)) (d0.alloc _));rw[hf]at M;have HC:=aJ hc;have R:=aJ b1;clear hf b0 J hc b1;go_enter func181,ntmps181;go_wp2_with fail;refine M.out.mono ?_;rintro e w1 ⟨rfl,a7⟩;have B1:Below w w w1:=(aY _ _).after a7 (by simp);have K1:=K0.keep a7;have G:=K1.cell;have z1:=K1.lt;have a8:=aT HC.out hb B1 aK;have O:=aJ a8;clear a8 M;go_wp2_with (go_at_call 158;refine(jC _ _ _ _).mono ?_;rintro e w3 ⟨rfl,rfl⟩;rw[b6.out]);go_loop [7,23] (fun b8 i=>∃t:Nat,t<=l.length/\i=ajJ t/\b8=ajJ (lC l t:Int)) (fun _ i=>l.length-(intOf i).toNat)
 case atStart=>exact⟨0,Nat.zero_le _,rfl,rfl⟩
 case round=>
  obtain⟨t,ht,rfl,rfl⟩:=hrel;by_cases hlt:t<l.length
  ·have b3:(t:Int)<(l.length:Int):=aI
   have D:lC l t<l.length:=by
    rcases Nat.eq_zero_or_pos t with rfl|h
    ·exact hlt
    ·have:=ER l t h;omega
   have z:=OG l t;have Y:=fun W:World=>gE t W aI;have c8:(bN t:Int)<=(N:Int):=by have:=(b7.out t hlt).1;omega
   have b9:=O.out t hlt;have f0:=fun W=>R.out W t hlt;have I:=O.out _ D;have a1:=fun W=>R.out W _ D;rw[aU l t hlt,aU l _ D]at z;obtain⟨q,K⟩:=aN (lC l t);simp only[<-K]at z I a1 D;rw[<-K];obtain⟨x,hx⟩:=aN (l[t]);obtain⟨y,Z⟩:=aN (l[q]);rw[<-hx,<-Z]at z;rw[<-hx]at b9;rw[<-Z]at I;obtain⟨p,hp⟩:∃p:Nat,p=bN t:=⟨_,rfl⟩;rw[<-hp]at c8;simp only[<-hp]at Y;have a6:=aJ Y;clear Y K hx Z hp;by_cases a9:y<x
   ·rw[if_pos a9]at z;have S:=aJ z;clear z;go_wp2_with (go_at_call 165;refine(a6.out _).mono ?_;rintro e w3 ⟨rfl,rfl⟩);go_round
    case rel=>exact⟨t+1,by omega,by go_num,by rw[S.out]⟩
    case measure=>simp[intOf];omega
   ·rw[if_neg a9]at z;have S:=aJ z;clear z;go_wp2_with (go_at_call 165;refine(a6.out _).mono ?_;rintro e w3 ⟨rfl,rfl⟩);go_round
    case rel=>exact⟨t+1,by omega,by go_num,by rw[S.out]⟩
    case measure=>simp[intOf];omega
  ·have b3:¬(t:Int)<(l.length:Int):=aI;have c9:t=l.length:=aI;subst c9;have D:=ER l l.length aI;have I:=O.out _ D;have a1:=fun W=>R.out W _ D;have hg:=aU l _ D;obtain⟨q,K⟩:=aN (lC l l.length);simp only[<-K]at I a1 D hg;rw[<-K];rw[<-hg]at I;obtain⟨y,Z⟩:=aN (l.getD q 0);rw[<-Z]at I;have HY:=aJ Z;have HQ:=aJ K;clear hg Z K;go_wp2;go_ret3;exact⟨by have h1:=HQ.out;have h2:=HY.out;subst h1;rw[aU l _ D]at h2;subst h2;rfl,B1⟩
theorem aiZ(w:World)(n:Int)(v:Value)(l:List Int)(M:aO w v l):
  Calls prog 68 #[.agg #[n,v]] w fun e w'=>e=.returned (.tuple #[(vY n l),(yZ n l),.bool (bH n l)])/\Below w w w':=by
 have O:=M;obtain⟨a,c,rfl⟩:=M.shape;go_enter func68,ntmps68;go_wp2_with fail;refine bB ?_;intro V J;have B:Below w w V:=fR J;have K:aR V w 26 #[n,ajH a l.length c]:=eG J;clear J;refine(dS n l _ V (M.below B aK)).mono ?_;rintro e w1 ⟨rfl,R⟩;have K:=K.keep R;have B:=B.after R B.size;have G:=K.cell;have z:=K.lt
 cases D:bH n l with
 |false=>
  have I:vY n l=0/\yZ n l=0:=by unfold vY yZ;rw[D];exact⟨rfl,rfl⟩
  have F:=aJ (And.intro I D);clear I D;go_wp2;go_ret3;exact⟨by rw[F.out.1.1,F.out.1.2,F.out.2];rfl,B⟩
 |true=>
  have I:vY n l=l.getD (lC l l.length) 0/\yZ n l=(lC l l.length:Int):=by unfold vY yZ;rw[D];exact⟨rfl,rfl⟩
  obtain⟨N,rfl,-⟩:=cU D;have S:=aJ (aaB w1 N _ l (O.below B aK) D);have F:=aJ (And.intro I D);clear I D;go_wp2_with fail;refine S.out.mono ?_;rintro e w2 ⟨rfl,b2⟩;go_wp2;go_ret3;exact⟨by rw[F.out.1.1,F.out.1.2,F.out.2];rfl,B.after b2 B.size⟩
theorem Z3(w:World)(N:Nat)(v:Value)(l:List Int)(hv:aO w v l)(O:bH N l=true)(s:Nat)(R:s<l.length):
  Calls prog 72 #[.agg #[(N:Int),v],(s:Int)] w fun e w'=>e=.returned (l.getD s 0)/\Below w w w':=by
 have S:=hv;obtain⟨a,b,b5,c,rfl,a8,J,hc,hb⟩:=hv.view prog 24 3 underlying24 aP;have z:fA N (s:Int)=true/\N<=5:=by
  obtain⟨N',M,h5,b4,a7,_⟩:=cU O;have M:=Int.ofNat.inj M;subst M;refine⟨?_,h5⟩;have:((2^N:Nat):Int)=(2:Int)^N:=by simp
  unfold fA;simp only[Bool.and_eq_true,decide_eq_true_eq];omega
 have K:=aJ z.1;have h5:=z.2;have D:=aJ (dS (N:Int) l _ (w.alloc (.cells #[(N:Int),ajH a l.length c] 26)) (S.alloc _));rw[O]at D;have K0:=aR.new w 26 #[(N:Int),ajH a l.length c];have HC:=aJ hc;have I:=aU l s R;have ik:=fun W=>J W s R;obtain⟨x,Y⟩:=aN (l.getD s 0);rw[<-Y];clear O z hc J;go_enter func72,ntmps72;go_wp2_with fail;refine D.out.mono ?_;rintro e w1 ⟨rfl,F⟩;have Z:Below w w w1:=(aY _ _).after F (by simp);have K1:=K0.keep F;have G:=K1.cell;have z1:=K1.lt;have ck:=aT HC.out hb Z aK s R;rw[<-I,<-Y]at ck;clear D I Y;go_wp2_with (go_at_call 183;refine(pX N _ _ aI).mono ?_;rintro e w3 ⟨rfl,rfl⟩;rw[K.out]);go_ret;exact⟨rfl,Z⟩
theorem aiO(w:World)(n:Int)(v:Value)(l:List Int)(hv:aO w v l):
  Calls prog 69 #[.agg #[n,v]] w fun e w'=>e=.returned (.tuple #[(yL n l),.bool (bH n l)])/\Below w w w':=by
 have d5:=hv;obtain⟨a,b,d6,c,rfl,h7,c5,hc,hb⟩:=hv.view prog 24 3 underlying24 aP;have HC:=aJ hc;have b7:=aJ c5;clear hc c5;go_enter func69,ntmps69;go_wp2_with fail;refine bB ?_;intro V hV;have B:Below w w V:=fR hV;have K:aR V w 26 #[n,ajH a l.length c]:=eG hV;clear hV;refine(dS n l _ V (hv.below B aK)).mono ?_;rintro e w1 ⟨rfl,b1⟩;have K:=K.keep b1;have B:=B.after b1 B.size;have G:=K.cell;have z:=K.lt
 cases hf:bH n l with
 |false=>
  have Y:yL n l=0:=by unfold yL;rw[hf];rfl
  have HX:=aJ (And.intro Y hf);clear Y hf;go_wp2;go_ret2;exact⟨by rw[HX.out.1,HX.out.2];rfl,B⟩
 |true=>
  obtain⟨N,rfl,h5,c6,h6,c7⟩:=cU hf;have Y:yL N l=(iV l N N:Int):=by unfold yL;rw[hf,if_pos rfl,Int.toNat_natCast]
  have a6:=tV (N:Int) (ajH a l.length c) l w1 (d5.below B aK) aI aI;rw[Int.toNat_natCast,show((2:Int)^N-1)=((jE N 0 0:Nat):Int) by rw[RE];have:((2^N:Nat):Int)=(2:Int)^N:=(by simp);have:=Nat.two_pow_pos N;omega]at a6;have e5:=aJ a6;have HX:=aJ (And.intro Y hf);have S:=aJ c6;have a1:=aJ c7;clear Y hf a6 c6 c7;go_wp2_with fail;refine e5.out.mono ?_;rintro e w2 ⟨rfl,b2⟩;have K:=K.keep b2;have B:=B.after b2 B.size;clear G z;have G:=K.cell;have z:=K.lt;go_wp2_with fail;go_loopw [4,5,15] (fun av bv i wr=>∃e:Nat,e<=N/\i=ajJ e/\av=ajJ (iV l N e:Int)/\bv=ajJ (jE N (iV l N e) e:Int)/\Below w2 w2 wr) (fun _ _ i _=>N-(intOf i).toNat)
  case atStart=>exact⟨0,Nat.zero_le _,rfl,rfl,rfl,Below.refl _ _⟩
  case round=>
   obtain⟨e,he,rfl,rfl,rfl,Z⟩:=hrel;obtain⟨wo,rfl⟩:∃z:World,z=wr:=⟨_,rfl⟩;by_cases hlt:e<N
   ·have c8:(e:Int)<(N:Int):=aI;have Bw:=B.after Z B.size;have Kw:=K.keep Z;have b4:=EL l N h5 e he;have f9:(2:Nat)^e<=32:=Nat.pow_le_pow_right (n:=2) (j:=5) aV aI;have f0:(2:Nat)^N<=32:=Nat.pow_le_pow_right (n:=2) (j:=5) aV aI;have D:=NO l N e;obtain⟨x,Y⟩:=aN (iV l N e);rw[<-Y]at b4 D ⊢;obtain⟨⟨f1,f2⟩,⟨f3,f4⟩,⟨f5,f6⟩,f7,f8⟩:=GA N aI e hlt x aI b4;have d0:=fW x e aI aI;have c9:=afU (jE N x e) e aI aI;rw[f2]at c9 D;rw[f1]at d0 D;have b0:=fun(W:World) (h:aO W (ajH a l.length c) l)=>AW (N:Int) l _ x e W h aI (by have:=S.out;omega) aI (by rw[f1];have:=S.out;omega) a1.out;have a7:=vO a1.out (jE N x (e+1));have a8:=vO a1.out (jE N x e);have F:jE N x (e+1)<l.length:=by have:=S.out;omega
    have I:jE N x e<l.length:=by have:=S.out;omega
    have M:=aT HC.out hb Bw aK _ F;have O:=aT HC.out hb Bw aK _ I;have g2:=fun W=>b7.out W _ F;have g3:=fun W=>b7.out W _ I;rw[<-aU l _ F]at M;rw[<-aU l _ I]at O;have H3:=aJ f3;obtain⟨y,hy⟩:=aN (jE N x e);obtain⟨z',b6⟩:∃z',z'=jE N x (e+1):=⟨_,rfl⟩;obtain⟨x',b3⟩:∃x',x'=x+2^e:=⟨_,rfl⟩;simp only[<-hy,<-b6]at c9 a7 a8 M O g2 g3 D;rw[<-b3]at d0 D;rw[<-hy];have HY:=aJ hy;have HZ:=aJ b6;have e6:=aJ b3;obtain⟨p,hp⟩:=aN (l.getD z' 0);obtain⟨q,hq⟩:=aN (l.getD y 0);obtain⟨g,hg⟩:=aN (dX l x e);rw[<-hp]at a7 M D;rw[<-hq]at a8 O D;rw[<-hg]at D;simp only[<-hg]at b0;have k3:IntKind.i64.wrap (p-q)=p-q:=by rw[IntKind.wrap_i64];omega
    have R:=cK e 6 aI;have k1:(2:Int)^e<=64:=by simpa using R.1
    have k2:=R.2;have k0:(0:Int)<=(e:Int):=Int.natCast_nonneg _;have e0:∀y:Ext wo,y.w.cell? ⟨w.heap.size,0,none⟩=some (ajJ (N:Int)):=fun y=>y.cell (Kw.cell 0);have e1:∀y:Ext wo,y.w.cell? ⟨w.heap.size,1,none⟩=some (ajH a l.length c):=fun y=>y.cell (Kw.cell 1);have e2:∀y:Ext wo,y.w.cell? ⟨b,d6+z',none⟩=some (ajJ p):=fun y=>y.cell M;have e3:∀z:Ext wo,z.w.cell? ⟨b,d6+y,none⟩=some (ajJ q):=fun z=>z.cell O;have g1:=d5.below Bw aK;have HG:=aJ (fun y:Ext wo=>b0 y.w (y.ints g1));clear Y f1 f2 f3 f4 f5 f6 f7 f8 b4 f9 f0 hy b6 b3 hp hq hg b0 F I R M O a7 a8 G z;by_cases b9:p-q<=g
    ·rw[if_pos b9]at D;have J:=aJ D;clear D;go_wp2_with fail;refine bJ _ aQ aQ ?_
     repeat(first|go_big_quiet_skip|(go_big_quiet_want;go_big_quiet_op;first|go_big_quiet_on|(apply Exists.intro;refine⟨fun _=>?_,?_⟩;(go_at_call 170;exact bK (HG.out _));go_big_quiet_on)))
     refine wpQuiet_nil ?_;rintro w5 ⟨⟨w5,b5⟩,rfl⟩
     try dsimp only
     go_wp2;go_roundw
     case rel=>exact⟨e+1,by omega,by go_num,by rw[J.out],by rw[J.out,e6.out,H3.out,HY.out],Z.after b5 Z.size⟩
     case measure=>simp[intOf];omega
    ·rw[if_neg b9]at D;have J:=aJ D;clear D;go_wp2_with fail;refine bJ _ aQ aQ ?_
     repeat(first|go_big_quiet_skip|(go_big_quiet_want;go_big_quiet_op;first|go_big_quiet_on|(apply Exists.intro;refine⟨fun _=>?_,?_⟩;(go_at_call 170;exact bK (HG.out _));go_big_quiet_on)))
     refine wpQuiet_nil ?_;rintro w5 ⟨⟨w5,b5⟩,rfl⟩
     try dsimp only
     go_wp2;go_roundw
     case rel=>exact⟨e+1,by omega,by go_num,by rw[J.out],by rw[J.out,HZ.out],Z.after b5 Z.size⟩
     case measure=>simp[intOf];omega
   ·have c8:¬(e:Int)<(N:Int):=aI;have hE:e=N:=aI;subst hE;go_wp2;go_ret2;exact⟨by rw[HX.out.1,HX.out.2];rfl,B.after Z B.size⟩
end
end Go.Proofs.YtcpoomdoodlkjaaGreatDoor
