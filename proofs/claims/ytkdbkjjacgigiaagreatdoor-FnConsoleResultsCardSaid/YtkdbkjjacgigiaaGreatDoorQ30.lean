/- Lemmas for CardConsoleResults. No condition. -/
import Derived.Test.YtkdbkjjacgigiaaGreatDoorQ15
import Derived.Test.YtkdbkjjacgigiaaGreatDoorQ18
import Derived.Test.YtkdbkjjacgigiaaGreatDoorQ29
set_option maxRecDepth 100000
set_option maxHeartbeats 64000000
namespace Go.Proofs.YtkdbkjjacgigiaaGreatDoor
section
open Go.RowKit Go.G5 Go.Proofs.Tryz
def XM(N M:ByteArray):List ByteArray:=[(⟨#[111,114,100,101,114]⟩:ByteArray),(⟨#[99,104,97,105,110]⟩:ByteArray),N,(⟨#[108,101,118,101,108,115]⟩:ByteArray),M]
def MN(N M:ByteArray):ByteArray:=(⟨#[111,114,100,101,114,32,99,104,97,105,110,32]⟩:ByteArray)++N++(⟨#[32,108,101,118,101,108,115,32]⟩:ByteArray)++M
theorem aqZ(N M:ByteArray):bR cU (XM N M)=MN N M:=by
 unfold XM MN;simp only[iU,jD];refine dO ?_;simp[cU]
theorem aiY(N M:ByteArray)(h1:N.size<=21)(h2:M.size<=21):(MN N M).size<=100:=by
 unfold MN;simp only[ByteArray.size_append];have e1:(⟨#[111,114,100,101,114,32,99,104,97,105,110,32]⟩:ByteArray).size=12:=rfl;have e2:(⟨#[32,108,101,118,101,108,115,32]⟩:ByteArray).size=8:=rfl;omega
def olB(W:ByteArray)(b:Bool)(N:ByteArray):List ByteArray:=if b then [W,N] else []
def CT(W:ByteArray)(b:Bool)(X N:ByteArray):ByteArray:=if b then X++(cU++W++cU)++N else X
theorem XN(W:ByteArray)(b:Bool)(X N:ByteArray):X++mO (olB W b N)=CT W b X N:=by
 cases b with
 |false=>exact dO (by rw[jL];show X.data.toList++[]=X.data.toList;simp)
 |true=>refine dO ?_;simp[olB,CT,mO,cU]
theorem IV(W:ByteArray)(b:Bool)(X N:ByteArray)(k m:Nat)(D:W.size<=20)(F:X.size<=k)(z:N.size<=m):(CT W b X N).size<=k+m+22:=by
 cases b with
 |false=>show X.size<=_;omega
 |true=>unfold CT;rw[if_pos rfl];simp only[ByteArray.size_append];have e1:cU.size=1:=rfl;omega
theorem YL:cU++(⟨#[97,110,116,105,99,104,97,105,110]⟩:ByteArray)++cU=(⟨#[32,97,110,116,105,99,104,97,105,110,32]⟩:ByteArray):=rfl
theorem YM:cU++(⟨#[105,110,116,101,114,118,97,108,115]⟩:ByteArray)++cU=(⟨#[32,105,110,116,101,114,118,97,108,115,32]⟩:ByteArray):=rfl
theorem YN:cU++(⟨#[115,117,110,102,108,111,119,101,114]⟩:ByteArray)++cU=(⟨#[32,115,117,110,102,108,111,119,101,114,32]⟩:ByteArray):=rfl
def olL(g:Int)(l:List Int):List ByteArray:=((XM (aX ((yQ g l).length:Int)) (aX ((eA g l).length:Int))++olB (⟨#[97,110,116,105,99,104,97,105,110]⟩:ByteArray) (vT g l) (bZ g (tQ g l)))++olB (⟨#[105,110,116,101,114,118,97,108,115]⟩:ByteArray) (AK g l) (eR (oK g l)))++olB (⟨#[115,117,110,102,108,111,119,101,114]⟩:ByteArray) (iE g l 3) (bG g (mV (iH g l 3)))
def QE(g:Int)(l:List Int):ByteArray:=MN (aX ((yQ g l).length:Int)) (aX ((eA g l).length:Int))
def QF(g:Int)(l:List Int):ByteArray:=CT (⟨#[97,110,116,105,99,104,97,105,110]⟩:ByteArray) (vT g l) (QE g l) (bZ g (tQ g l))
def QH(g:Int)(l:List Int):ByteArray:=CT (⟨#[105,110,116,101,114,118,97,108,115]⟩:ByteArray) (AK g l) (QF g l) (eR (oK g l))
def olT(g:Int)(l:List Int):ByteArray:=CT (⟨#[115,117,110,102,108,111,119,101,114]⟩:ByteArray) (iE g l 3) (QH g l) (bG g (mV (iH g l 3)))
theorem ar6(g:Int)(l:List Int):bR cU (olL g l)=olT g l:=by
 unfold olL olT QH QF QE;rw[qE _ _ (by simp[XM]),qE _ _ (by simp[XM]),qE _ _ (by simp[XM]),aqZ,XN,XN,XN]
def tV(g:Int)(l:List Int):ByteArray:=if aU g l then olT g l else ByteArray.empty
theorem E1{g:Int}{l:List Int}(h:aU g l=true):tV g l=olT g l:=by unfold tV;rw[if_pos h]
theorem QD{g:Int}{l:List Int}(h:aU g l=false):tV g l=ByteArray.empty:=by unfold tV;rw[h];rfl
theorem SO(g:Int)(l:List Int):(QE g l).size<=100:=by
 have h1:=PK g l;have h2:=tH g l;exact aiY _ _ (cM _ ⟨by omega,by omega⟩) (cM _ ⟨by omega,by omega⟩)
theorem SP(g:Int)(l:List Int):(QF g l).size<=10130:=Nat.le_trans (IV (⟨#[97,110,116,105,99,104,97,105,110]⟩:ByteArray) _ _ _ 100 10000 aQ (SO g l) (fG _ _)) aQ
theorem N9(g:Int)(l:List Int):(eR (oK g l)).size<=200:=by
 have h:=IM g l;have h2:=lW (oK g l) (fun x z=>by have:=h.2 x z;exact⟨by omega,by omega⟩);omega
theorem SQ(g:Int)(l:List Int):(QH g l).size<=10400:=Nat.le_trans (IV (⟨#[105,110,116,101,114,118,97,108,115]⟩:ByteArray) _ _ _ 10130 200 aQ (SP g l) (N9 g l)) aQ
theorem XO(g:Int)(l:List Int):(olT g l).size<=10700:=Nat.le_trans (IV (⟨#[115,117,110,102,108,111,119,101,114]⟩:ByteArray) _ _ _ 10400 132 aQ (SQ g l) (fA _ _)) aQ
theorem apJ{n m:Int}{l k:List Int}(h:fE n l m k=true)(t:Nat):-2000<=rQ l k t/\rQ l k t<=2000:=by
 obtain⟨_,N,_,_,_,_,_,hl,hk⟩:=zQ h;have g:∀(L:List Int),(∀i,(z:i<L.length)->-1000<=L[i]/\L[i]<=1000)->∀i:Nat,-1000<=L.getD i 0/\L.getD i 0<=1000:=by
  intro L D i;by_cases z:i<L.length
  ·rw[aS L i z];exact D i z
  ·have e:L.getD i 0=0:=by unfold List.getD;rw[List.getElem?_eq_none aD];rfl
   rw[e];omega
 have h1:=g l hl t;have h2:=g k hk (l.length-1-t);unfold rQ;omega
theorem ae6(n:Int)(l:List Int)(m:Int)(k:List Int):-2000<=FO n l m k/\FO n l m k<=2000:=by
 cases h:fE n l m k with
 |false=>unfold FO;rw[h,if_neg (by simp)];omega
 |true=>unfold FO;rw[h,if_pos rfl];exact apJ h _
theorem UQ(w:World)(D:List ByteArray)(t:TypeId):∀(j:Nat) z,D[j]?=some z->(w.alloc (.cells (D.map Value.string).toArray t)).cell? ⟨w.heap.size,0+j,none⟩=some (.string z):=by
 intro j z F;refine aZ w _ t (0+j) _ ?_;simp[F]
def plP(C N A U F:ByteArray):List ByteArray:=[(⟨#[112,97,105,114]⟩:ByteArray),(⟨#[99,111,109,109,111,110]⟩:ByteArray),C,(⟨#[98,111,117,110,100]⟩:ByteArray),N,(⟨#[97,116]⟩:ByteArray),A,(⟨#[117,110,105,111,110]⟩:ByteArray),U,(⟨#[98,97,115,101,115]⟩:ByteArray),F]
def plQ(C N A U F:ByteArray):ByteArray:=(⟨#[112,97,105,114,32,99,111,109,109,111,110,32]⟩:ByteArray)++C++(⟨#[32,98,111,117,110,100,32]⟩:ByteArray)++N++(⟨#[32,97,116,32]⟩:ByteArray)++A++(⟨#[32,117,110,105,111,110,32]⟩:ByteArray)++U++(⟨#[32,98,97,115,101,115,32]⟩:ByteArray)++F
theorem aq5(C N A U F:ByteArray):bR cU (plP C N A U F)=plQ C N A U F:=by
 unfold plP plQ;simp only[iU,jD];refine dO ?_;simp[cU]
def plL(n:Int)(l:List Int)(m:Int)(k:List Int):List ByteArray:=plP (bG n (yU n l m k)) (aX (FO n l m k)) (bG n (BH n l m k)) (bG n (SH n l m k)) (bZ (GU n l m k) (GT n l m k))
def plT(n:Int)(l:List Int)(m:Int)(k:List Int):ByteArray:=plQ (bG n (yU n l m k)) (aX (FO n l m k)) (bG n (BH n l m k)) (bG n (SH n l m k)) (bZ (GU n l m k) (GT n l m k))
theorem ar7(n:Int)(l:List Int)(m:Int)(k:List Int):bR cU (plL n l m k)=plT n l m k:=aq5 _ _ _ _ _
def E6(n:Int)(l:List Int)(m:Int)(k:List Int):ByteArray:=if fE n l m k then plT n l m k else ByteArray.empty
theorem MP{n m:Int}{l k:List Int}(h:fE n l m k=true):E6 n l m k=plT n l m k:=by unfold E6;rw[if_pos h]
theorem abN{n m:Int}{l k:List Int}(h:fE n l m k=false):E6 n l m k=ByteArray.empty:=by unfold E6;rw[h];rfl
theorem al6(C N A U F:ByteArray)(h1:C.size<=132)(h2:N.size<=21)(h3:A.size<=132)(h4:U.size<=132)(I:F.size<=10000):(plQ C N A U F).size<=10600:=by
 unfold plQ;simp only[ByteArray.size_append];have z:(⟨#[112,97,105,114,32,99,111,109,109,111,110,32]⟩:ByteArray).size=12:=rfl;have e1:(⟨#[32,98,111,117,110,100,32]⟩:ByteArray).size=7:=rfl;have e2:(⟨#[32,97,116,32]⟩:ByteArray).size=4:=rfl;have e3:(⟨#[32,117,110,105,111,110,32]⟩:ByteArray).size=7:=rfl;have D:(⟨#[32,98,97,115,101,115,32]⟩:ByteArray).size=7:=rfl;omega
theorem XW(n:Int)(l:List Int)(m:Int)(k:List Int):(plT n l m k).size<=10600:=by
 have h:=ae6 n l m k;exact al6 _ _ _ _ _ (fA _ _) (cM _ ⟨by omega,by omega⟩) (fA _ _) (fA _ _) (fG _ _)
def mlA(F G H:ByteArray):List ByteArray:=[(⟨#[109,97,116,114,111,105,100]⟩:ByteArray),(⟨#[98,97,115,101,115]⟩:ByteArray),F,(⟨#[99,105,114,99,117,105,116,115]⟩:ByteArray),G,(⟨#[102,108,97,116,115]⟩:ByteArray),H]
def XG(F G H:ByteArray):ByteArray:=(⟨#[109,97,116,114,111,105,100,32,98,97,115,101,115,32]⟩:ByteArray)++F++(⟨#[32,99,105,114,99,117,105,116,115,32]⟩:ByteArray)++G++(⟨#[32,102,108,97,116,115,32]⟩:ByteArray)++H
theorem aqP(F G H:ByteArray):bR cU (mlA F G H)=XG F G H:=by
 unfold mlA XG;simp only[iU,jD];refine dO ?_;simp[cU]
def mlB(b:Bool)(N:ByteArray):List ByteArray:=if b then [(⟨#[99,111,118,101,114,115]⟩:ByteArray),N] else []
def XH(b:Bool)(X N:ByteArray):ByteArray:=if b then X++(⟨#[32,99,111,118,101,114,115,32]⟩:ByteArray)++N else X
theorem aqR(b:Bool)(X N:ByteArray):X++mO (mlB b N)=XH b X N:=by
 cases b with
 |false=>exact dO (by rw[jL];show X.data.toList++[]=X.data.toList;simp)
 |true=>refine dO ?_;simp[mlB,XH,mO,cU]
theorem aiQ(b:Bool)(X N:ByteArray)(k:Nat)(D:X.size<=k)(z:N.size<=21):(XH b X N).size<=k+40:=by
 cases b with
 |false=>show X.size<=_;omega
 |true=>unfold XH;rw[if_pos rfl];simp only[ByteArray.size_append];have e1:(⟨#[32,99,111,118,101,114,115,32]⟩:ByteArray).size=8:=rfl;omega
def mlC(b:Bool)(N:ByteArray):List ByteArray:=if b then [(⟨#[112,97,99,107,115]⟩:ByteArray),N] else []
def XI(b:Bool)(X N:ByteArray):ByteArray:=if b then X++(⟨#[32,112,97,99,107,115,32]⟩:ByteArray)++N else X
theorem aqT(b:Bool)(X N:ByteArray):X++mO (mlC b N)=XI b X N:=by
 cases b with
 |false=>exact dO (by rw[jL];show X.data.toList++[]=X.data.toList;simp)
 |true=>refine dO ?_;simp[mlC,XI,mO,cU]
theorem aiR(b:Bool)(X N:ByteArray)(k:Nat)(D:X.size<=k)(z:N.size<=21):(XI b X N).size<=k+40:=by
 cases b with
 |false=>show X.size<=_;omega
 |true=>unfold XI;rw[if_pos rfl];simp only[ByteArray.size_append];have e1:(⟨#[32,112,97,99,107,115,32]⟩:ByteArray).size=7:=rfl;omega
def mlL(n:Int)(l:List Int):List ByteArray:=(mlA (bZ (qP n l) (mR n l)) (bZ (qP n l) (nX n l)) (bZ n (AH n l))++mlB (KR n l) (aX (BM n l)))++mlC (FW n l) (aX (yF n l))
def mlT(n:Int)(l:List Int):ByteArray:=XI (FW n l) (XH (KR n l) (XG (bZ (qP n l) (mR n l)) (bZ (qP n l) (nX n l)) (bZ n (AH n l))) (aX (BM n l))) (aX (yF n l))
theorem ar2(n:Int)(l:List Int):bR cU (mlL n l)=mlT n l:=by
 unfold mlL mlT;rw[qE _ _ (by simp[mlA]),qE _ _ (by simp[mlA]),aqP,aqR,aqT]
def EX(n:Int)(l:List Int):ByteArray:=if dQ n l then mlT n l else ByteArray.empty
theorem ML{n:Int}{l:List Int}(h:dQ n l=true):EX n l=mlT n l:=by unfold EX;rw[if_pos h]
theorem abH{n:Int}{l:List Int}(h:dQ n l=false):EX n l=ByteArray.empty:=by unfold EX;rw[h];rfl
theorem aiP(F G H:ByteArray)(z:F.size<=10000)(D:G.size<=10000)(I:H.size<=10000):(XG F G H).size<=30100:=by
 unfold XG;simp only[ByteArray.size_append];have e1:(⟨#[109,97,116,114,111,105,100,32,98,97,115,101,115,32]⟩:ByteArray).size=14:=rfl;have e2:(⟨#[32,99,105,114,99,117,105,116,115,32]⟩:ByteArray).size=10:=rfl;have e3:(⟨#[32,102,108,97,116,115,32]⟩:ByteArray).size=7:=rfl;omega
theorem XJ(n:Int)(l:List Int):(mlT n l).size<=30180:=by
 have h1:=afI n l;have h2:=ajI n l;exact aiR _ _ _ 30140 (aiQ _ _ _ 30100 (aiP _ _ _ (fG _ _) (fG _ _) (fG _ _)) (cM _ ⟨by omega,by omega⟩)) (cM _ ⟨by omega,by omega⟩)
theorem PU(n:Int)(l:List Int):(nM n l).length<=5:=by
 unfold nM sB
 split
 ·rename_i h;unfold AF at h;rw[Bool.and_eq_true]at h;obtain⟨N,rfl,z,_⟩:=cS (IE h.1)
  split
  ·rw[FA];unfold yL;simp;omega
  ·simp
 ·simp
def NL(n:Int)(l:List Int):Int:=l.getD (iQ l n.toNat n.toNat) 0
theorem VG(n:Int)(l:List Int):-1000<=lO n l/\lO n l<=1000:=by
 cases h:gK n l with
 |false=>unfold lO;rw[h,if_neg (by simp)];omega
 |true=>unfold lO;rw[h,if_pos rfl];unfold gK fO at h;simp only[Bool.and_eq_true]at h;obtain⟨N,_,_,_,_,hb⟩:=cS h.1.1.1;exact xJ hb _
def xlA(M F X S D:ByteArray):List ByteArray:=[(⟨#[101,120,116,114,101,109,101]⟩:ByteArray),(⟨#[109,105,110,105,109,117,109]⟩:ByteArray),M,(⟨#[115,101,116,115]⟩:ByteArray),F,(⟨#[109,97,120,105,109,117,109]⟩:ByteArray),X,(⟨#[115,101,116]⟩:ByteArray),S,(⟨#[100,111,117,98,108,101]⟩:ByteArray),D]
def RE(M F X S D:ByteArray):ByteArray:=(⟨#[101,120,116,114,101,109,101,32,109,105,110,105,109,117,109,32]⟩:ByteArray)++M++(⟨#[32,115,101,116,115,32]⟩:ByteArray)++F++(⟨#[32,109,97,120,105,109,117,109,32]⟩:ByteArray)++X++(⟨#[32,115,101,116,32]⟩:ByteArray)++S++(⟨#[32,100,111,117,98,108,101,32]⟩:ByteArray)++D
theorem arJ(M F X S D:ByteArray):bR cU (xlA M F X S D)=RE M F X S D:=by
 unfold xlA RE;simp only[iU,jD];refine dO ?_;simp[cU]
theorem TE(M F X S D:ByteArray)(h1:M.size<=21)(h2:F.size<=10000)(h3:X.size<=21)(h4:S.size<=132)(J:D.size<=21):(RE M F X S D).size<=10300:=by
 unfold RE;simp only[ByteArray.size_append];have z:(⟨#[101,120,116,114,101,109,101,32,109,105,110,105,109,117,109,32]⟩:ByteArray).size=16:=rfl;have e1:(⟨#[32,115,101,116,115,32]⟩:ByteArray).size=6:=rfl;have e2:(⟨#[32,109,97,120,105,109,117,109,32]⟩:ByteArray).size=9:=rfl;have e3:(⟨#[32,115,101,116,32]⟩:ByteArray).size=5:=rfl;have I:(⟨#[32,100,111,117,98,108,101,32]⟩:ByteArray).size=8:=rfl;omega
def xlB(b:Bool)(N:ByteArray):List ByteArray:=if b then [(⟨#[100,117,97,108]⟩:ByteArray),N] else []
def M5(b:Bool)(X N:ByteArray):ByteArray:=if b then X++(⟨#[32,100,117,97,108,32]⟩:ByteArray)++N else X
def xlC(b:Bool)(N S:ByteArray):List ByteArray:=if b then [(⟨#[99,117,116]⟩:ByteArray),N,(⟨#[111,102]⟩:ByteArray),S] else []
def ZB(b:Bool)(X N S:ByteArray):ByteArray:=if b then X++(⟨#[32,99,117,116,32]⟩:ByteArray)++N++(⟨#[32,111,102,32]⟩:ByteArray)++S else X
theorem arL(b:Bool)(X N:ByteArray):X++mO (xlB b N)=M5 b X N:=by
 cases b with
 |false=>exact dO (by rw[jL];show X.data.toList++[]=X.data.toList;simp)
 |true=>refine dO ?_;simp[xlB,M5,mO,cU]
theorem arN(b:Bool)(X N S:ByteArray):X++mO (xlC b N S)=ZB b X N S:=by
 cases b with
 |false=>exact dO (by rw[jL];show X.data.toList++[]=X.data.toList;simp)
 |true=>refine dO ?_;simp[xlC,ZB,mO,cU]
theorem aj4(b:Bool)(X N:ByteArray)(k:Nat)(D:X.size<=k)(z:N.size<=200):(M5 b X N).size<=k+220:=by
 cases b with
 |false=>show X.size<=_;omega
 |true=>unfold M5;rw[if_pos rfl];simp only[ByteArray.size_append];have e1:(⟨#[32,100,117,97,108,32]⟩:ByteArray).size=6:=rfl;omega
theorem aj5(b:Bool)(X N S:ByteArray)(k:Nat)(F:X.size<=k)(z:N.size<=21)(D:S.size<=132):(ZB b X N S).size<=k+180:=by
 cases b with
 |false=>show X.size<=_;omega
 |true=>unfold ZB;rw[if_pos rfl];simp only[ByteArray.size_append];have e1:(⟨#[32,99,117,116,32]⟩:ByteArray).size=5:=rfl;have e2:(⟨#[32,111,102,32]⟩:ByteArray).size=4:=rfl;omega
def xlL(n:Int)(l:List Int):List ByteArray:=(xlA (aX (eM l)) (bZ n (nP n l)) (aX (yC n l)) (bG n (CB n l)) (aX (NL n l))++xlB (wJ n l) (eR (nM n l)))++xlC (gK n l) (aX (lO n l)) (bG n (nZ n l))
def ZC(n:Int)(l:List Int):ByteArray:=ZB (gK n l) (M5 (wJ n l) (RE (aX (eM l)) (bZ n (nP n l)) (aX (yC n l)) (bG n (CB n l)) (aX (NL n l))) (eR (nM n l))) (aX (lO n l)) (bG n (nZ n l))
theorem ar9(n:Int)(l:List Int):bR cU (xlL n l)=ZC n l:=by
 unfold xlL ZC;rw[qE _ _ (by simp[xlA]),qE _ _ (by simp[xlA]),arJ,arL,arN]
def wH(n:Int)(l:List Int):ByteArray:=if aY n l then ZC n l else ByteArray.empty
theorem AY{n:Int}{l:List Int}(h:aY n l=true):wH n l=ZC n l:=by unfold wH;rw[if_pos h]
theorem RF{n:Int}{l:List Int}(h:aY n l=false):wH n l=ByteArray.empty:=by unfold wH;rw[h];rfl
theorem WV{n:Int}{l:List Int}(h:aY n l=true):-1000<=eM l/\eM l<=1000:=by
 obtain⟨N,_,_,h2,_,hb⟩:=cS h;have D:=Nat.two_pow_pos N;obtain⟨i,_,z⟩:=agN l aD l.length aI;unfold eM;rw[<-z];exact xJ hb _
theorem XK{n:Int}{l:List Int}(h:aY n l=true):-1000<=yC n l/\yC n l<=1000:=by
 obtain⟨N,_,_,_,_,hb⟩:=cS h;unfold yC;rw[if_pos h];exact xJ hb _
theorem VK{n:Int}{l:List Int}(h:aY n l=true):-1000<=NL n l/\NL n l<=1000:=by
 obtain⟨N,_,_,_,_,hb⟩:=cS h;exact xJ hb _
theorem M6{n:Int}{l:List Int}(h:aY n l=true)(hd:∀x∈nM n l,dL x):(ZC n l).size<=10700:=by
 have h1:=WV h;have h2:=XK h;have h3:=VK h;have h4:=VG n l;have z:=PU n l;have D:=lW _ hd;exact aj5 _ _ _ _ 10520 (aj4 _ _ _ 10300 (TE _ _ _ _ _ (cM _ ⟨by omega,by omega⟩) (fG _ _) (cM _ ⟨by omega,by omega⟩) (fA _ _) (cM _ ⟨by omega,by omega⟩)) aD) (cM _ ⟨by omega,by omega⟩) (fA _ _)
def mG(g:Int)(l:List Int):Bool:=aU g l&&decide (l.length<=6)
def xV(g:Int)(l:List Int):Int:=if mG g l then 7 else 0
def xU(g:Int)(l:List Int):Int:=if mG g l then g else 0
def yS(g:Int)(l:List Int):List Int:=if mG g l then l else []
def tP(g:Int)(l:List Int):Int:=if mG g l&&mI g l then 1 else 0
def rG(g:Int)(l:List Int):List Int:=if mG g l then (if mI g l then vZ g l else sX g l) else []
theorem am8{p:Prop}(h:p:=by
  clear hf;have Z:xV g l=0:=by unfold xV;rw[z];rfl
  have Y:xU g l=0:=by unfold xU;rw[z];rfl
  have S:yS g l=[]:=by unfold yS;rw[z];rfl
  have hN:tP g l=0:=by unfold tP;rw[z];rfl
  have hL:rG g l=[]:=by unfold rG;rw[z];rfl
  have H:=aH (And.intro Z (And.intro Y (And.intro S (And.intro hN hL))));have HB:=aH z;clear Z Y S hN hL z;have G1:=M.cell;have G2:=I.cell;have F2:=I.frozen;go_wp2;refine bN ?_;intro Wf D;have R:aP Wf (w.heap.size+1) 34 #[aB,aB,(),aB,(),aB,(),aB,aB,()]:=by rw[D];have:=(((((((((I.set 0 (aG 0)).set 1 (aG 0)).set 2 (aA none 0 0)).set 3 (aG 0)).set 4 (aA none 0 0)).set 5 (aG 0)).set 6 (aA none 0 0)).set 7 (aG 0)).set 8 (aG 0)).set 9 (aA none 0 0);simpa using this
  have hg:w1.grownBy Wf (some (w.heap.size+1)):=by rw[D];exact(bQ (bQ (bQ (bQ (bQ (bQ (bQ (bQ (bQ (bQ (World.grownBy.refl _ _) 0 _) 1 _) 2 _) 3 _) 4 _) 5 _) 6 _) 7 _) 8 _) 9 _)
  have Bf:Below w w Wf:=B1.grown hg B1.size jI;have Gf:=R.cell;clear D G2 F2 G1;obtain⟨Z,Y,S,hN,hL⟩:=H.out;exact bodyPost_ret (v:=.tuple #[.agg #[aB,aB,(),aB,(),aB,(),aB,aB,()],.bool false]) (by simp[results,results150,go_sem,Gf]) rfl
   ⟨none,0,0,none,0,0,none,0,0,none,0,0,by rw[Z,Y,hN,HB.out],bK.nil _ _ _,bK.nil _ _ _,by rw[S];exact bK.nil _ _ _,by rw[hL];exact bK.nil _ _ _,
    ⟨aV.nil _ _ _,aV.nil _ _ _,aV.nil _ _ _,aV.nil _ _ _,aV.nil _ _ _,aV.nil _ _ _⟩,Bf⟩):p:=h
theorem ahL{p:Prop}(h:p:=by
  rw[D];have:=(((((((((KX.set 0 (aG 7)).set 1 (aG 0)).set 2 (aA none 0 0)).set 3 (aG 0)).set 4 (aA none 0 0)).set 5 (aG g)).set 6 (aA p7 i7 q7)).set 7 (aG 0)).set 8 (aG 0)).set 9 (aA p9 i9 q9);simpa using this):p:=h
theorem ahM{p:Prop}(h:p:=by
  rw[D];have:=(((((((((KX.set 0 (aG 7)).set 1 (aG 0)).set 2 (aA none 0 0)).set 3 (aG 0)).set 4 (aA none 0 0)).set 5 (aG g)).set 6 (aA p7 i7 q7)).set 7 (aG 1)).set 8 (aG 0)).set 9 (aA p9 i9 q9);simpa using this):p:=h
theorem OH{p:Prop}(h:p:=by
  exact(bQ (bQ (bQ (bQ (bQ (bQ (bQ (bQ (bQ (bQ (World.grownBy.refl _ _) 0 _) 1 _) 2 _) 3 _) 4 _) 5 _) 6 _) 7 _) 8 _) 9 _)):p:=h
theorem UV(w:World)(g:Int)(v:Value)(l:List Int)(hv:aK w v l)(hl:l.length<=1048576):
  Calls prog 150 #[.agg #[g,v]] w fun e w'=>∃p0 i0 q0 p1 i1 q1 p2 i2 q2 p3 i3 q3,e=.returned (.tuple #[.agg #[(xV g l),aB,aA p0 i0 q0,aB,aA p1 i1 q1,(xU g l),aA p2 i2 q2,(tP g l),aB,aA p3 i3 q3],.bool (mG g l)])/\bK 3 w.heap.size w' (aA p0 i0 q0) []/\bK 3 w.heap.size w' (aA p1 i1 q1) []/\bK 3 w.heap.size w' (aA p2 i2 q2) (yS g l)/\bK 3 w.heap.size w' (aA p3 i3 q3) (rG g l)/\(aV (aA p0 i0 q0) (aA p1 i1 q1)/\aV (aA p0 i0 q0) (aA p2 i2 q2)/\aV (aA p0 i0 q0) (aA p3 i3 q3)/\aV (aA p1 i1 q1) (aA p2 i2 q2)/\aV (aA p1 i1 q1) (aA p3 i3 q3)/\aV (aA p2 i2 q2) (aA p3 i3 q3))/\Below w w w':=by
 obtain⟨a,c,rfl⟩:=hv.shape;go_enter func150,ntmps150;go_wp2_with fail;refine bU ?_;intro V hV;have B:Below w w V:=gO hV;have M:aP V w 29 #[g,aA a l.length c]:=gR hV;have I:aP V (w.heap.size+1) 34 #[aB,aB,(),aB,(),aB,(),aB,aB,()]:=iP hV;clear hV;have l1:w.heap.size+2<=V.heap.size:=by have:=I.lt;omega
 refine(cQ g l _ _ (hv.below B aI)).mono ?_;rintro e w1 ⟨rfl,b7⟩;have M:=M.keep b7;have I:=I.keep b7;have B1:=B.after b7 B.size;have e7:=hv.below B1 aI;have z1:=M.lt;have z2:=I.lt;clear b7 B
 cases hf:aU g l with
 |false=>
  have z:mG g l=false:=by unfold mG;rw[hf];rfl
  exact am8
 |true=>
  by_cases g0:l.length<=6
  rotate_left
  ·have z:mG g l=false:=by unfold mG;rw[decide_eq_false g0];simp
   have j4:(6:Int)<l.length:=aD;exact am8
  have j4:¬(6:Int)<l.length:=aD;have z:mG g l=true:=by unfold mG;rw[hf,decide_eq_true g0];rfl
  have Z:xV g l=7:=by unfold xV;rw[z];rfl
  have Y:xU g l=g:=by unfold xU;rw[z];rfl
  have S:yS g l=l:=by unfold yS;rw[z];rfl
  have hN:tP g l=if mI g l then 1 else 0:=by unfold tP;rw[z];rfl
  have hL:rG g l=if mI g l then vZ g l else sX g l:=by unfold rG;rw[z];rfl
  have c7:=(dB hf).2.2.2;have f8:=EN l c7;have f6:dL g:=by have:=dB hf;exact⟨by omega,by omega⟩
  have H:=aH (And.intro Z (And.intro Y (And.intro S (And.intro hN hL))));have HB:=aH z;have k0:=aH f8;have HF:=aH hf;have f0:=aH f6;clear Z Y S hN hL z c7 f8 hf f6;have G1:=M.cell;go_wp2_with fail;refine(zJ g _ l _ e7 hl).mono ?_;rintro e w7 ⟨p7,i7,q7,rfl,o7,h9⟩;rw[k0.out]at o7;have M:=M.keep h9;have I:=I.keep h9;have B7:=B1.after h9 B1.size;have o7:=o7.mono (B':=w.heap.size+2) aD;have l7:∀k,(Value.slice p7 i7 q7).ownBlock=some k->k<w7.heap.size:=fun k hk=>(o7.lt k hk).2;have y7:=B7.size;clear h9 G1 B1 e7;have G1:=M.cell;have z1:=M.lt;have z2:=I.lt;go_wp2_with fail;refine bU ?_;intro V3 e6;have B8:Below w w V3:=by rw[e6];exact B7.alloc B7.size _
  have M:aP V3 w 29 #[g,aA a l.length c]:=by rw[e6];exact M.alloc _
  have I:aP V3 (w.heap.size+1) 34 #[aB,aB,(),aB,(),aB,(),aB,aB,()]:=by rw[e6];exact I.alloc _
  have K4:aP V3 w7 34 #[aG 7,aB,(),aB,(),g,aA p7 i7 q7,aB,aB,()]:=gJ e6;have o7:bK 3 (w.heap.size+2) V3 (aA p7 i7 q7) l:=by rw[e6];exact o7.alloc _
  have r7:∀k,(Value.slice p7 i7 q7).ownBlock=some k->k<w7.heap.size:=l7;have yy:w.heap.size+2<=w7.heap.size:=aD;clear e6 B7 G1 z1 z2;have z4:=K4.lt;have m2:¬w7.heap.size=w.heap.size+1:=aD;have m3:¬w.heap.size+1=w7.heap.size:=aD;refine(aq9 _ g f0.out _ l (hv.below B8 aI) hl).mono ?_;rintro e w9 ⟨p9,i9,q9,rfl,o9,K⟩;have M:=M.keep K;have I:=I.keep K;have K4:=K4.keep K;have B9:=B8.after K B8.size;have f4:aV (aA p7 i7 q7) (aA p9 i9 q9):=aV.of_lt o7 o9 aI;have o7:=o7.keep K;have y9:=K.size;have z2:=I.lt
  cases c5:mI g l with
  |true=>
   have O:=aH c5;clear K c5;have c9:=f4;have G2:=I.cell;have F2:=I.frozen;have G4:=K4.cell;have F4:=K4.frozen;have z4:=K4.lt;obtain⟨WX,f5⟩:=aJ ((w9.setCell ⟨w7.heap.size,7,none⟩ (aG 1)).setCell ⟨w7.heap.size,9,none⟩ (aA p9 i9 q9));have b9:w9.grownBy WX (some w7.heap.size):=by rw[f5];exact bQ (bQ (World.grownBy.refl _ _) 7 _) 9 _
   have KX:=I.grow b9 (by intro N;have:=Option.some.inj N;omega);have BX:Below w w WX:=B9.grown b9 B9.size jI;have a9:=o7.grow b9 (fun q N F=>by have:=Option.some.inj N;have:=r7 q F;omega);have b0:=(o9.mono (B':=w.heap.size+2) aD).grow b9 (fun q N F=>by have:=Option.some.inj N;have:=(o9.lt q F).1;omega);go_wp2;refine bN ?_;intro Wf D;rw[<-f5]at D;have R:aP Wf (w.heap.size+1) 34 #[aG 7,aB,(),aB,(),g,aA p7 i7 q7,aG 1,aB,aA p9 i9 q9]:=by exact ahM
   have hg:WX.grownBy Wf (some (w.heap.size+1)):=by rw[D];exact OH
   have yX:=BX.size;have Bf:Below w w Wf:=BX.grown hg BX.size jI;have f7:=(a9.grow hg (fun q N F=>by have:=Option.some.inj N;have:=(a9.lt q F).1;omega)).mono (B':=w.heap.size) aD;have f9:=(b0.grow hg (fun q N F=>by have:=Option.some.inj N;have:=(b0.lt q F).1;omega)).mono (B':=w.heap.size) aD;have Gf:=R.cell;clear D;obtain⟨Z,Y,S,hN,hL⟩:=H.out;exact bodyPost_ret (v:=.tuple #[.agg #[aG 7,aB,(),aB,(),g,aA p7 i7 q7,aG 1,aB,aA p9 i9 q9],.bool true]) (by simp[results,results150,go_sem,Gf]) rfl
    ⟨none,0,0,none,0,0,p7,i7,q7,p9,i9,q9,by rw[Z,Y,hN,O.out,HB.out];rfl,bK.nil _ _ _,bK.nil _ _ _,by rw[S];exact f7,by rw[hL,O.out];exact f9,
     ⟨aV.nil _ _ _,aV.nil _ _ _,aV.nil _ _ _,aV.nil _ _ _,aV.nil _ _ _,c9⟩,Bf⟩
  |false=>
   have O:=aH c5;clear K c5 o9 f4;have G1:=M.cell;go_wp2_with fail;refine(arF _ g f0.out _ l (hv.below B9 aI) hl).mono ?_;rintro e k4 ⟨p9,i9,q9,rfl,o9,J⟩;have I:=I.keep J;have K4:=K4.keep J;have j8:=B9.after J B9.size;have c9:aV (aA p7 i7 q7) (aA p9 i9 q9):=aV.of_lt o7 o9 aI;have o7:=o7.keep J;have l8:=J.size;have z2:=I.lt;clear J G1;have G2:=I.cell;have F2:=I.frozen;have G4:=K4.cell;have F4:=K4.frozen;have z4:=K4.lt;obtain⟨WX,f5⟩:=aJ (k4.setCell ⟨w7.heap.size,9,none⟩ (aA p9 i9 q9));have b9:k4.grownBy WX (some w7.heap.size):=by rw[f5];exact bQ (World.grownBy.refl _ _) 9 _
   have KX:=I.grow b9 (by intro N;have:=Option.some.inj N;omega);have BX:Below w w WX:=j8.grown b9 j8.size jI;have a9:=o7.grow b9 (fun q N F=>by have:=Option.some.inj N;have:=r7 q F;omega);have b0:=(o9.mono (B':=w.heap.size+2) aD).grow b9 (fun q N F=>by have:=Option.some.inj N;have:=(o9.lt q F).1;omega);go_wp2;refine bN ?_;intro Wf D;rw[<-f5]at D;have R:aP Wf (w.heap.size+1) 34 #[aG 7,aB,(),aB,(),g,aA p7 i7 q7,aB,aB,aA p9 i9 q9]:=by exact ahL
   have hg:WX.grownBy Wf (some (w.heap.size+1)):=by rw[D];exact OH
   have yX:=BX.size;have Bf:Below w w Wf:=BX.grown hg BX.size jI;have f7:=(a9.grow hg (fun q N F=>by have:=Option.some.inj N;have:=(a9.lt q F).1;omega)).mono (B':=w.heap.size) aD;have f9:=(b0.grow hg (fun q N F=>by have:=Option.some.inj N;have:=(b0.lt q F).1;omega)).mono (B':=w.heap.size) aD;have Gf:=R.cell;clear D;obtain⟨Z,Y,S,hN,hL⟩:=H.out;exact bodyPost_ret (v:=.tuple #[.agg #[aG 7,aB,(),aB,(),g,aA p7 i7 q7,aB,aB,aA p9 i9 q9],.bool true]) (by simp[results,results150,go_sem,Gf]) rfl
    ⟨none,0,0,none,0,0,p7,i7,q7,p9,i9,q9,by rw[Z,Y,hN,O.out,HB.out];rfl,bK.nil _ _ _,bK.nil _ _ _,by rw[S];exact f7,by rw[hL,O.out];exact f9,
     ⟨aV.nil _ _ _,aV.nil _ _ _,aV.nil _ _ _,aV.nil _ _ _,aV.nil _ _ _,c9⟩,Bf⟩
theorem am9{p:Prop}(h:p:=by
  clear hf;have Z:xV g l=0:=by unfold xV;rw[z];rfl
  have Y:xU g l=0:=by unfold xU;rw[z];rfl
  have S:yS g l=[]:=by unfold yS;rw[z];rfl
  have hN:tP g l=0:=by unfold tP;rw[z];rfl
  have hL:rG g l=[]:=by unfold rG;rw[z];rfl
  have H:=aH (And.intro Z (And.intro Y (And.intro S (And.intro hN hL))));have HB:=aH z;clear Z Y S hN hL z;have G1:=M.cell;have G2:=I.cell;have F2:=I.frozen;go_wp2;refine bN ?_;intro Wf D;have R:aP Wf (w.heap.size+1) 34 #[aB,aB,(),aB,(),aB,(),aB,aB,()]:=by rw[D];have:=(((((((((I.set 0 (aG 0)).set 1 (aG 0)).set 2 (aA none 0 0)).set 3 (aG 0)).set 4 (aA none 0 0)).set 5 (aG 0)).set 6 (aA none 0 0)).set 7 (aG 0)).set 8 (aG 0)).set 9 (aA none 0 0);simpa using this
  have hg:w1.grownBy Wf (some (w.heap.size+1)):=by rw[D];exact(bQ (bQ (bQ (bQ (bQ (bQ (bQ (bQ (bQ (bQ (World.grownBy.refl _ _) 0 _) 1 _) 2 _) 3 _) 4 _) 5 _) 6 _) 7 _) 8 _) 9 _)
  have Bf:Below w w Wf:=B1.grown hg B1.size jI;have Gf:=R.cell;clear D G2 F2 G1;obtain⟨Z,Y,S,hN,hL⟩:=H.out;exact bodyPost_ret (v:=.tuple #[.agg #[aB,aB,(),aB,(),aB,(),aB,aB,()],.bool false]) (by simp[results,results11,go_sem,Gf]) rfl
   ⟨none,0,0,none,0,0,none,0,0,none,0,0,by rw[Z,Y,hN,HB.out],bK.nil _ _ _,bK.nil _ _ _,by rw[S];exact bK.nil _ _ _,by rw[hL];exact bK.nil _ _ _,
    ⟨aV.nil _ _ _,aV.nil _ _ _,aV.nil _ _ _,aV.nil _ _ _,aV.nil _ _ _,aV.nil _ _ _⟩,Bf⟩):p:=h
theorem UW(w:World)(g:Int)(v:Value)(l:List Int)(hv:aK w v l)(hl:l.length<=1048576):
  Calls prog 11 #[.agg #[g,v]] w fun e w'=>∃p0 i0 q0 p1 i1 q1 p2 i2 q2 p3 i3 q3,e=.returned (.tuple #[.agg #[(xV g l),aB,aA p0 i0 q0,aB,aA p1 i1 q1,(xU g l),aA p2 i2 q2,(tP g l),aB,aA p3 i3 q3],.bool (mG g l)])/\bK 3 w.heap.size w' (aA p0 i0 q0) []/\bK 3 w.heap.size w' (aA p1 i1 q1) []/\bK 3 w.heap.size w' (aA p2 i2 q2) (yS g l)/\bK 3 w.heap.size w' (aA p3 i3 q3) (rG g l)/\(aV (aA p0 i0 q0) (aA p1 i1 q1)/\aV (aA p0 i0 q0) (aA p2 i2 q2)/\aV (aA p0 i0 q0) (aA p3 i3 q3)/\aV (aA p1 i1 q1) (aA p2 i2 q2)/\aV (aA p1 i1 q1) (aA p3 i3 q3)/\aV (aA p2 i2 q2) (aA p3 i3 q3))/\Below w w w':=by
 obtain⟨a,c,rfl⟩:=hv.shape;go_enter func11,ntmps11;go_wp2_with fail;refine bU ?_;intro V hV;have B:Below w w V:=gO hV;have M:aP V w 29 #[g,aA a l.length c]:=gR hV;have I:aP V (w.heap.size+1) 34 #[aB,aB,(),aB,(),aB,(),aB,aB,()]:=iP hV;clear hV;have l1:w.heap.size+2<=V.heap.size:=by have:=I.lt;omega
 refine(cK g l _ _ (hv.below B aI)).mono ?_;rintro e w1 ⟨rfl,b7⟩;have M:=M.keep b7;have I:=I.keep b7;have B1:=B.after b7 B.size;have e7:=hv.below B1 aI;have z1:=M.lt;have z2:=I.lt;clear b7 B
 cases hf:aU g l with
 |false=>
  have z:mG g l=false:=by unfold mG;rw[hf];rfl
  exact am9
 |true=>
  by_cases g0:l.length<=6
  rotate_left
  ·have z:mG g l=false:=by unfold mG;rw[decide_eq_false g0];simp
   have j4:(6:Int)<l.length:=aD;exact am9
  have j4:¬(6:Int)<l.length:=aD;have z:mG g l=true:=by unfold mG;rw[hf,decide_eq_true g0];rfl
  have Z:xV g l=7:=by unfold xV;rw[z];rfl
  have Y:xU g l=g:=by unfold xU;rw[z];rfl
  have S:yS g l=l:=by unfold yS;rw[z];rfl
  have hN:tP g l=if mI g l then 1 else 0:=by unfold tP;rw[z];rfl
  have hL:rG g l=if mI g l then vZ g l else sX g l:=by unfold rG;rw[z];rfl
  have c7:=(dB hf).2.2.2;have f8:=EN l c7;have f6:dL g:=by have:=dB hf;exact⟨by omega,by omega⟩
  have H:=aH (And.intro Z (And.intro Y (And.intro S (And.intro hN hL))));have HB:=aH z;have k0:=aH f8;have HF:=aH hf;have f0:=aH f6;clear Z Y S hN hL z c7 f8 hf f6;have k3:([]:List Int).length+l.length<=17592186044416:=by simp;omega
  have l0:=aH k3;have e1:w1.cell? ⟨w.heap.size,0,none⟩=some (aG g):=M.cell 0;have e2:w1.cell? ⟨w.heap.size,1,none⟩=some (aA a l.length c):=M.cell 1;have l2:¬w1.heap.size=w.heap.size:=aD;have l3:¬w1.heap.size+1=w.heap.size:=aD;have y1:=B1.size;clear k3;go_wp2_with fail;go_cut [4] from 9 (fun fp wc=>∃(gb:Nat) (p:Option Addr) (i q:Nat),fp=.pointer (some ⟨gb,0,none⟩)/\w1.heap.size<=gb/\aP wc gb 29 #[g,aA p i q]/\aM 3 w1 wc (aA p i q) l/\Below w1 w1 wc)
  case first=>
   go_region_held3 (fun w'=>w'.cell? ⟨w.heap.size,0,none⟩=some (aG g)/\w'.cell? ⟨w.heap.size,1,none⟩=some (aA a l.length c)) (go_keep)
    (first
     |(refine ajX rfl _ _ _ rfl 3 underlying25 aN w1.heap.size (aA (some ⟨_,0,none⟩) 0 0) [] rfl (aA a l.length c) l rfl ?_ ?_ l0.out w1 ?_ aI ?_;(first|(with_reducible exact(aM.lit0 w1 aI).drew')|(with_reducible exact((aM.lit0 w1 aI).alloc _).drew')|(with_reducible exact(aM.lit0' w1 _).drew'));(first|(with_reducible exact(e7.alloc _).drew')|(with_reducible exact((e7.alloc _).alloc _).drew'));(first|(with_reducible exact(bF w1 _).drew)|(with_reducible exact(wI w1 _ _).drew));(intro v5 w5 o5 b5 pc;obtain⟨p5,i5,q5,rfl⟩:=o5.shape3;have o0:=apF b5 z1;obtain⟨n1,n2⟩:=gN b5 w1.heap.size aI;first|(have j3:=pc _ _ _ (aP.second w1 _ 29 #[aB,()]) (wW _ _ _);obtain⟨KF,j5⟩:=j3;have GF:=KF.cell;have FF:=KF.frozen;have zF:=KF.lt)|(have j3:=pc _ _ _ (aP.first w1 _ 29 #[aB,()]) (wX _ _ _);obtain⟨KF,j5⟩:=j3;have GF:=KF.cell;have FF:=KF.frozen;have zF:=KF.lt)|skip))
    )
   ·go_wp2;go_meet
    case rel=>refine⟨_,p5,i5,q5,rfl,b5.size,aP.new _ _ _,o5.alloc _,b5.alloc b5.size _⟩
   all_goals
    go_wp2;go_meet
    case rel=>have k1:=(KF.set 0 (aG g)).set 1 (aA p5 i5 q5);simp at k1;have o3:=b5.size;refine⟨_,p5,i5,q5,rfl,(by first|exact aI|omega),k1,(o5.setFar ⟨_,0,none⟩ j5 _).setFar ⟨_,1,none⟩ j5 _,(by repeat(first|exact Below.refl _ _|(with_reducible refine Below.setCell ?_ (by first|omega|(simp;done)|(simp;omega)) _)|(with_reducible refine Below.alloc ?_ (by first|omega|(simp;done)|(simp;omega)) _)|(with_reducible refine Below.drewN' ?_ _)|(with_reducible refine Below.drew ?_)|(with_reducible assumption)|refine Below.trans ?_ (Below.mono (by assumption) (by first|omega|(simp;done)|(simp;omega)))))⟩
  case rest=>
   obtain⟨gb,p7,i7,q7,rfl,n3,KF,o7,Bc⟩:=hcut;have M:=M.keep Bc;have I:=I.keep Bc;have B7:=B1.after Bc B1.size;have o7:=o7.toW.mono (B':=w.heap.size+2) aD;have y7:=B7.size;have yc:=Bc.size;have yy:w.heap.size+2<=wc.heap.size:=aD;clear e1 e2 l2 l3 Bc B1 e7 z1 z2;have G1:=M.cell;have z2:=I.lt;have zF:=KF.lt;go_wp2_with fail;refine(arA _ g f0.out _ l (hv.below B7 aI) hl).mono ?_;rintro e w9 ⟨p9,i9,q9,rfl,o9,K⟩;have M:=M.keep K;have I:=I.keep K;have KF:=KF.keep K;have B9:=B7.after K B7.size;have f4:aV (aA p7 i7 q7) (aA p9 i9 q9):=aV.of_lt o7 o9 aI;have o7:=o7.keep K;have y9:=K.size;clear z2 zF G1
   cases c5:mI g l with
   |true=>
    have O:=aH c5;clear K c5;have c9:=f4;have z2:=I.lt;have zF:=KF.lt;have G2:=I.cell;have F2:=I.frozen;have GF:=KF.cell;obtain⟨WX,rfl⟩:∃W:World,W=w9:=⟨_,rfl⟩;have KX:=I;have BX:=B9;have a9:=o7;have b0:=o9.mono (B':=w.heap.size+2) aD;go_wp2;refine bN ?_;intro Wf D;have R:aP Wf (w.heap.size+1) 34 #[aG 7,aB,(),aB,(),g,aA p7 i7 q7,aG 1,aB,aA p9 i9 q9]:=by exact ahM
    have hg:WX.grownBy Wf (some (w.heap.size+1)):=by rw[D];exact OH
    have yX:=BX.size;have Bf:Below w w Wf:=BX.grown hg BX.size jI;have f7:=(a9.grow hg (fun q N F=>by have:=Option.some.inj N;have:=(a9.lt q F).1;omega)).mono (B':=w.heap.size) aD;have f9:=(b0.grow hg (fun q N F=>by have:=Option.some.inj N;have:=(b0.lt q F).1;omega)).mono (B':=w.heap.size) aD;have Gf:=R.cell;clear D;obtain⟨Z,Y,S,hN,hL⟩:=H.out;exact bodyPost_ret (v:=.tuple #[.agg #[aG 7,aB,(),aB,(),g,aA p7 i7 q7,aG 1,aB,aA p9 i9 q9],.bool true]) (by simp[results,results11,go_sem,Gf]) rfl
     ⟨none,0,0,none,0,0,p7,i7,q7,p9,i9,q9,by rw[Z,Y,hN,O.out,HB.out];rfl,bK.nil _ _ _,bK.nil _ _ _,by rw[S];exact f7,by rw[hL,O.out];exact f9,
      ⟨aV.nil _ _ _,aV.nil _ _ _,aV.nil _ _ _,aV.nil _ _ _,aV.nil _ _ _,c9⟩,Bf⟩
   |false=>
    have O:=aH c5;clear K c5 o9 f4;have G1:=M.cell;have z1:=M.lt;go_wp2_with fail;refine(arG _ g f0.out _ l (hv.below B9 aI) hl).mono ?_;rintro e WX ⟨p9,i9,q9,rfl,o9,J⟩;have KX:=I.keep J;have KF:=KF.keep J;have BX:=B9.after J B9.size;have c9:aV (aA p7 i7 q7) (aA p9 i9 q9):=aV.of_lt o7 o9 aI;have a9:=o7.keep J;have l8:=J.size;have b0:=o9.mono (B':=w.heap.size+2) aD;clear J G1;have z2:=KX.lt;have zF:=KF.lt;have G2:=KX.cell;have F2:=KX.frozen;have GF:=KF.cell;go_wp2;refine bN ?_;intro Wf D;have R:aP Wf (w.heap.size+1) 34 #[aG 7,aB,(),aB,(),g,aA p7 i7 q7,aB,aB,aA p9 i9 q9]:=by exact ahL
    have hg:WX.grownBy Wf (some (w.heap.size+1)):=by rw[D];exact OH
    have yX:=BX.size;have Bf:Below w w Wf:=BX.grown hg BX.size jI;have f7:=(a9.grow hg (fun q N F=>by have:=Option.some.inj N;have:=(a9.lt q F).1;omega)).mono (B':=w.heap.size) aD;have f9:=(b0.grow hg (fun q N F=>by have:=Option.some.inj N;have:=(b0.lt q F).1;omega)).mono (B':=w.heap.size) aD;have Gf:=R.cell;clear D;obtain⟨Z,Y,S,hN,hL⟩:=H.out;exact bodyPost_ret (v:=.tuple #[.agg #[aG 7,aB,(),aB,(),g,aA p7 i7 q7,aB,aB,aA p9 i9 q9],.bool true]) (by simp[results,results11,go_sem,Gf]) rfl
     ⟨none,0,0,none,0,0,p7,i7,q7,p9,i9,q9,by rw[Z,Y,hN,O.out,HB.out];rfl,bK.nil _ _ _,bK.nil _ _ _,by rw[S];exact f7,by rw[hL,O.out];exact f9,
      ⟨aV.nil _ _ _,aV.nil _ _ _,aV.nil _ _ _,aV.nil _ _ _,aV.nil _ _ _,c9⟩,Bf⟩
end
end Go.Proofs.YtkdbkjjacgigiaaGreatDoor
