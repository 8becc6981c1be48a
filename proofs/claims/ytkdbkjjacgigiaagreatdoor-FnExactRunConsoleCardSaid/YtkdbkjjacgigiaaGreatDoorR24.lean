/- Lemmas for CardRunConsole. No condition. -/
import Derived.Test.YtkdbkjjacgigiaaGreatDoorR16
import Derived.Test.YtkdbkjjacgigiaaGreatDoorR23
set_option maxRecDepth 100000
set_option maxHeartbeats 64000000
namespace Go.Proofs.YtkdbkjjacgigiaaGreatDoor
section
open Go.RowKit Go.G5 Go.Proofs.Tryz
def noW:ByteArray:=(⟨#[110,111]⟩:ByteArray)
def mT:ByteArray:=(⟨#[119,104,97,116]⟩:ByteArray)
def yR(t:ByteArray):ByteArray:=if t=ByteArray.empty then noW else t
def JG(ok:Bool)(t:ByteArray):ByteArray:=if ok then t else noW
def cfT(n:Int)(l:List Int):ByteArray:=JG (gP n l) (kY (AS n l) (AQ n l) (AT n l) 0 [] 0 [] (AU n l) (AV n l) (AR n l))
def ccT(n:Int)(l:List Int):ByteArray:=JG (jQ n l) (kY (E6 n l) (E8 n l) (E7 n l) 0 [] 0 [] (mA n l) (nU n l) [])
def cmT(n:Int)(l:List Int)(m:Int)(k:List Int):ByteArray:=JG (fP n l m k) (kY (FE n l m k) (FA n l m k) (FG n l m k) (FB n l m k) (FH n l m k) 0 [] (FI n l m k) (uU n l m k) (FD n l m k))
def chT(g:Int)(l:List Int):ByteArray:=JG (rF g l) (kY (GV g l) 0 [] 0 [] (GU g l) (GT g l) (vI g l) 0 (wJ g l))
def csT(g:Int)(l:List Int):ByteArray:=JG (kG g l 3) (kY (FP g l 3) 0 [] 0 [] (FO g l 3) (FN g l 3) (FQ g l 3) 0 (kK g l 3))
def nZ(c:ByteArray)(n:Int)(l:List Int):Option ByteArray:=
 if c=(⟨#[102,117,110,99,116,105,111,110]⟩:ByteArray) then some (sL n l) else if c=(⟨#[101,120,116,114,101,109,101]⟩:ByteArray) then some (BS n l) else if c=(⟨#[109,97,116,114,111,105,100]⟩:ByteArray) then some (yR (zR n l)) else if c=(⟨#[99,108,97,105,109]⟩:ByteArray) then some (cfT n l) else if c=(⟨#[99,117,116]⟩:ByteArray) then some (ccT n l) else none
def vB(c:ByteArray)(n:Int)(l:List Int)(m:Int)(k:List Int):Option ByteArray:=
 if c=(⟨#[112,97,105,114]⟩:ByteArray) then some (yR (BR n l m k)) else if c=(⟨#[99,111,109,109,111,110]⟩:ByteArray) then some (cmT n l m k) else none
def nQ(c:ByteArray)(g:Int)(l:List Int):Option ByteArray:=
 if c=(⟨#[102,97,109,105,108,121]⟩:ByteArray) then some (BN g l) else if c=(⟨#[99,111,118,101,114]⟩:ByteArray) then some (vV g l) else if c=(⟨#[111,114,100,101,114]⟩:ByteArray) then some (yQ g l) else if c=(⟨#[104,97,108,108]⟩:ByteArray) then some (chT g l) else if c=(⟨#[115,117,110,102,108,111,119,101,114]⟩:ByteArray) then some (csT g l) else none
def SC(z:List ByteArray):Option ByteArray:=
 if mC (z.getD 1 ByteArray.empty)&&mC (z.getD 2 ByteArray.empty) then vB (z.getD 0 ByteArray.empty) (sI (z.getD 1 ByteArray.empty)) (rW (z.getD 1 ByteArray.empty)) (sI (z.getD 2 ByteArray.empty)) (rW (z.getD 2 ByteArray.empty)) else none
def XE(z:List ByteArray):Option ByteArray:=
 if pB (z.getD 1 ByteArray.empty)&&qX (pV (z.getD 1 ByteArray.empty)) (z.getD 2 ByteArray.empty) then nQ (z.getD 0 ByteArray.empty) (BH (pV (z.getD 1 ByteArray.empty)) (z.getD 2 ByteArray.empty)) (zI (pV (z.getD 1 ByteArray.empty)) (z.getD 2 ByteArray.empty)) else none
def zE(s:ByteArray):Option ByteArray:=
 if (dK 32 s).length=2 then (if mC ((dK 32 s).getD 1 ByteArray.empty) then nZ ((dK 32 s).getD 0 ByteArray.empty) (sI ((dK 32 s).getD 1 ByteArray.empty)) (rW ((dK 32 s).getD 1 ByteArray.empty)) else none)
 else if (dK 32 s).length=3 then (SC (dK 32 s)).or (XE (dK 32 s))
 else none
def sU(s:ByteArray):ByteArray:=(zE s).getD mT
def RE:ByteArray:=⟨#[10]⟩
def iK(z:List ByteArray):Nat->ByteArray
 |0=>ByteArray.empty
 |k+1=>if z.getD k ByteArray.empty=ByteArray.empty then iK z k else iK z k++(sU (z.getD k ByteArray.empty)++RE)
def BD(t:ByteArray):List ByteArray:=if (dK 10 t).getLastD ByteArray.empty=ByteArray.empty then (dK 10 t).dropLast else dK 10 t
def uD(t:ByteArray):ByteArray:=if t.size<=2000/\(BD t).length<=20 then iK (BD t) (BD t).length else ByteArray.empty
theorem am6(c:UInt8):∀(l part:List UInt8),jM c part (l++[c])=jM c part l++[[]]:=by
 intro l
 induction l with
 |nil=>intro part;simp[jM]
 |cons b l ih=>
  intro part;rw[List.cons_append,jM,jM]
  split
  .rw[ih];rfl
  .exact ih _
theorem ahN(c:UInt8):∀(l part:List UInt8),(part++l)≠[]->(l=[]\/l.getLastD 0≠c)->(jM c part l).getLastD []≠[]:=by
 intro l
 induction l with
 |nil=>intro part h _;rw[jM];simpa using h
 |cons b l ih=>
  intro part h hl;have z:(b::l).getLastD 0≠c:=by
   rcases hl with h|h
   .cases h
   .exact h
  rw[jM];by_cases hb:b=c
  .rw[if_pos hb]
   cases l with
   |nil=>exact absurd hb (by simpa using z)
   |cons x r=>
    have h2:=ih [] bF (.inr (by simpa using z));obtain⟨y,t,D⟩:∃y t,jM c [] (x::r)=y::t:=by
     cases hc:jM c [] (x::r) with
     |nil=>exact absurd hc (CQ _ _ _)
     |cons y t=>exact⟨y,t,rfl⟩
    rw[D]at h2 |-;simpa using h2
  .rw[if_neg hb];refine ih (part++[b]) bF ?_
   cases l with
   |nil=>exact .inl rfl
   |cons x r=>exact .inr (by simpa using z)
def xI(t:ByteArray):ByteArray:=J6 (Lib.trimSuffix t.data.toList [10])
theorem asV(l:List UInt8):J6 l=aN↔l=[]:=by
 constructor
 .intro h;have:=congrArg (fun b:aB=>b.data.toList) h;simpa[J6]using this
 .intro h;rw[h];rfl
theorem an8(z:List (List UInt8))(h:z≠[]):(z.map J6).getLastD aN=J6 (z.getLastD []):=by
 cases z with
 |nil=>exact absurd rfl h
 |cons x r=>
  rw[List.map_cons,List.getLastD_cons,List.getLastD_cons]
  induction r generalizing x with
  |nil=>rfl
  |cons y t ih=>rw[List.map_cons,List.getLastD_cons,List.getLastD_cons];exact ih y bF
theorem as3{α:Type}{p q:Prop}[Decidable p][Decidable q](h:p↔q){a b:α}:(if p then a else b)=if q then a else b:=by
 by_cases z:p
 .rw[if_pos z,if_pos (h.1 z)]
 .rw[if_neg z,if_neg fun x=>z (h.2 x)]
theorem afS(t : aB)(h : t ≠ aN) : BD t = dK 10 (xI t) := by
  have hne : t.data.toList ≠ [] := fun e => h (fQ (by rw [e]; rfl))
  obtain ⟨l, hl⟩ := aW t.data.toList
  have hcB : dK 10 t = (jM 10 [] l).map J6 := by unfold dK; rw [hl]
  have hcT : dK 10 (xI t) = (jM 10 [] (Lib.trimSuffix l [10])).map J6 := by unfold dK xI; rw [tY, hl]
  rw [<- hl] at hne
  unfold BD
  rw [hcB, hcT, an8 _ (CQ _ _ _), as3 (asV _)]
  by_cases he : l.getLastD 0 = 10
  . obtain ⟨r, hr⟩ : ∃ r, l = r ++ [10] := by
      have h1 := List.dropLast_concat_getLast hne
      have h2 : l.getLastD 0 = l.getLast hne := by conv => lhs; rw [<- h1]
                                                   simp
      rw [<- h2, he] at h1
      exact ⟨_, h1.symm⟩
    subst hr
    have ht : Lib.trimSuffix (r ++ [10]) [10] = r := by
      unfold Lib.trimSuffix Lib.hasSuffix
      simp
    rw [am6, ht, if_pos bF, List.map_append]
    simp
  . have h2 := ahN 10 l [] (by simpa using hne) (.inr he)
    have ht : Lib.trimSuffix l [10] = l := by
      unfold Lib.trimSuffix Lib.hasSuffix
      rw [if_neg]
      intro hs
      have hs2 := List.isSuffixOf_iff_suffix.1 hs
      obtain ⟨r, hr⟩ := hs2
      rw [<- hr] at he
      exact he bF
    rw [if_neg h2, ht]
theorem ao0:uD aN=aN:=by
 have:BD aN=[]:=dS;unfold uD;rw[this];simp[iK]
theorem agP(t:aB):(xI t).size<=t.size:=by
 unfold xI Lib.trimSuffix
 split
 .show(List.take _ _).toArray.size<=t.data.size;simp
 .exact aU
theorem ahB(a b:aB):Lib.byteCells a.data.toList++Lib.strCells b=Lib.byteCells (a++b).data.toList:=by
 unfold Lib.byteCells Lib.strCells;rw[ByteArray.data_append,Array.toList_append,List.map_append]
theorem RH(z:List aB)(h:∀x∈z,(sU x).size<=200000):∀k,k<=z.length->(iK z k).size<=200001*k:=by
 intro k
 induction k with
 |zero=>intro _;exact aU
 |succ k ih=>
  intro hk;have h1:=ih aA;unfold iK
  split
  .omega
  .have h2:=h _ (aX (show k<z.length from aA));have e:z.getD k aN=z[k]:=vG z k aA;rw[e,gW,gW];have:RE.size=1:=rfl;omega
theorem ajU{p:Prop}(h:p:=by
  rintro w3 ⟨I3,b3⟩;have K3:bK w3 w 9 (D.map Value.string).toArray:=(b3.block w.heap.size aA).trans K2;have B3:=B2.after b3 aA;have z3:=b3.size;rw[ahB]at I3;go_wp2;go_roundw
  .exact⟨k+1,aA,cD,by rw[HN.out];exact .inr I3,K3,B3,aA⟩
  exact aY):p:=h
theorem arQ(t:aB)(w:World)(hp:lA w)(hm:uP w)
  (Z:∀(W:World) (s:aB),s.size<=2000->lA W->uP W->Calls prog 35 #[aR s] W fun e W'=>e=aQ (aS #[aR ((zE s).getD aN),aG (zE s).isSome])/\Below W W W')
  (Y:∀s:aB,s.size<=2000->(sU s).size<=200000):
  aH 13 #[aR t] w (aR (uD t)):=by
 by_cases he:t=aN
 .subst he;go_enter func13,ntmps13;go_wp2;go_ret;exact⟨dA ao0.symm,bJ _ _⟩
 have b1:(t.toList==([]:List UInt8))=false:=by rw[show([]:List UInt8)=ByteArray.empty.toList from dS,dR,bG he]
 by_cases h2:(2000:Int)<(t.size:Int)
 .have hr:uD t=aN:=by unfold uD;rw[if_neg aA]
  go_enter func13,ntmps13;go_wp2;go_ret;exact⟨dA hr.symm,bJ _ _⟩
 have c9:=afS t he;have f3:=agP t;have e5:=H7 t ⟨#[10]⟩ w aA;have a9:=H9 10 (xI t) w hm aA;have F:=pJ 10 (xI t);have S:uD t=if (dK 10 (xI t)).length<=20 then iK (dK 10 (xI t)) (dK 10 (xI t)).length else aN:=by
  unfold uD;rw[c9];by_cases h:(dK 10 (xI t)).length<=20
  .rw[if_pos ⟨aA,h⟩,if_pos h]
  .rw[if_neg (fun x=>h x.2),if_neg h]
 obtain⟨D,e4⟩:=aW (dK 10 (xI t));rw[<-e4]at a9 F S;have F:∀x∈D,x.size<=2000:=fun x hx=>by have:=F x hx;omega
 have O:∀x∈D,(sU x).size<=200000:=fun x hx=>Y x (by have:=F x hx;omega);have R:=RH D O;have f0:=aT R;have a1:=aT F;have N:=aT S;have c5:=aT a9;have c7:=aT e5;have b7:=aT Z;have b6:=aT O;clear a9 F S e5 Z O R e4 c9 Y;go_enter func13,ntmps13;go_wp2_with fail;refine aV c7.out ?_;intro w1 J;rw[J];clear J;go_wp2_with fail;refine aV c5.out ?_;intro w1 J;have K0:bK w1 w 9 (D.map Value.string).toArray:=jV J;have B0:Below w w w1:=jP J;have z0:w1.heap.size=w.heap.size+1:=by rw[J];simp
 clear J;by_cases h6:(20:Int)<(D.length:Int)
 .have hr:uD t=aN:=by rw[N.out,if_neg aA]
  go_wp2;go_ret;exact⟨dA hr.symm,B0⟩
 have hr:uD t=iK D D.length:=by rw[N.out,if_pos aA]
 have HR:=aT hr;clear hr N c5 c7 b1 he f3;obtain⟨V,hV⟩:=aW (w1.alloc (.cells #[aP none,()] 57));have K1:bK V w 9 (D.map Value.string).toArray:=by rw[hV];exact K0.alloc _
 have B1:Below w w V:=by rw[hV];exact B0.alloc aA _
 have zV:V.heap.size=w.heap.size+2:=by rw[hV];simp;omega
 have I0:Lib.IsBuilder 57 5 (w.heap.size+1) (w.heap.size+1) (Lib.byteCells (iK D 0).data.toList) V:=by rw[hV,<-z0];exact .inl ⟨aU,aD none 0 0,by show(w1.heap.push _)[w1.heap.size]?=_;exact Array.getElem?_push_size,World.ownsRow_nil _ _ _ _,by simp[Value.ownBlock]⟩
 go_upto_region 7 with fail;rw[<-hV];clear hV;have z1:=z0;go_wp2_with fail;go_loopw [24] (fun iv wr=>∃k:Nat,k<=D/\iv=aO k/\Lib.IsBuilder 57 5 (w.heap.size+1) (w.heap.size+1) (Lib.byteCells (iK D k).data.toList) wr/\bK wr w 9 (D.map Value.string).toArray/\Below w w wr/\w.heap.size+2<=wr.heap.size) (fun iv _=>D.length-(intOf iv).toNat)
 .exact⟨0,aZ _,rfl,I0,K1,B1,aA⟩
 obtain⟨k,hk,rfl,I,K,B,z⟩:=hrel;clear I0 K1 B1 K0 B0;by_cases hlt:k<D
 .have d0:(k:Int)<(D.length:Int):=aA;have a8:=IG K k hlt;have h7:=fun W=>mE w.heap.size D.length D.length k hlt W;have f4:=a1.out _ (aX hlt);have Y:=b6.out _ (aX hlt);have R:=f0.out k hk;have b0:iK D (k+1)=if D[k]=aN then iK D k else iK D k++(sU D[k]++RE):=by rw[iK,vG D k hlt]
  obtain⟨x,hx⟩:=aW (D[k]);rw[<-hx]at a8 f4 Y b0;have c6:=aT b0;have HI:=aT I;clear b0 hx I;by_cases M:x=aN
  .have b1:(x.toList==([]:List UInt8))=true:=by rw[show([]:List UInt8)=ByteArray.empty.toList from dS,dR,bH M]
   have hn:iK D (k+1)=iK D k:=by rw[c6.out,if_pos M]
   have HN:=aT hn;clear hn M;go_wp2;go_roundw
   .exact⟨k+1,aA,cD,by rw[HN.out];exact HI.out,K,B,z⟩
   exact aY
  .have b1:(x.toList==([]:List UInt8))=false:=by rw[show([]:List UInt8)=ByteArray.empty.toList from dS,dR,bG M]
   have hn:iK D (k+1)=iK D k++(sU x++RE):=by rw[c6.out,if_neg M]
   have HN:=aT hn;have a6:=b7.out wr x aA (hp.keep B) (hm.keep B);obtain⟨ao,a7⟩:=aW (zE x);have c8:sU x=ao.getD mT:=by rw[a7];rfl
   rw[<-a7]at a6;have e9:=aT a6;clear hn M a6 a7;go_wp2_with fail;refine aV e9.out ?_;intro w2 b2;have I2:=SB HI.out b2;have K2:=K.keep b2;have B2:=B.after b2 B.size;have z2:=b2.size
   cases ao with
   |none=>
    have e1:sU x++RE=⟨#[119,104,97,116,10]⟩:=by rw[c8];decide +kernel
    rw[e1]at HN;go_wp2_with fail;refine aV (UM (w.heap.size+1) (w.heap.size+1) _ ⟨#[119,104,97,116,10]⟩ w2 I2 (by rw[Lib.byteCells_length];have:=R;show(iK D k).data.size+_<=_;have e2:(iK D k).data.size=(iK D k).size:=rfl;show(iK D k).data.size+5<=_;omega) aA) ?_;exact ajU
   |some y=>have e1:sU x=y:=c8;rw[e1]at HN Y;go_wp2_with fail;refine aV (UM (w.heap.size+1) (w.heap.size+1) _ (y++RE) w2 I2 (by rw[Lib.byteCells_length];have:=R;show(iK D k).data.size+_<=_;have e2:(iK D k).data.size=(iK D k).size:=rfl;rw[gW];have:RE.size=1:=rfl;omega) aA) ?_;exact ajU
 .have d0:¬(k:Int)<(D.length:Int):=aA;obtain rfl:k=D.length:=aA;have I3:=I;go_wp2_with fail;refine aV (GZ (w.heap.size+1) (w.heap.size+1) (iK D D.length).data.toList wr I3 aA) ?_;intro w9 b9;go_wp2;go_ret;exact⟨dA HR.out.symm,B.after b9 aA⟩
theorem YB(s:aB)(c:UInt8)(w:World)(hs:s.size<=900000):
  Calls prog 75 #[aR s,.int .u8 c.toNat] w fun e w'=>∃ad i K,e=aQ (aD ad i K)/\fI 9 w w' (aD ad i K) (dK c s)/\Below w w w':=by
 have R:=MY c s;have a7:=xP c s;obtain⟨D,a9⟩:=aW (dK c s);rw[<-a9]at R a7 |-;have Y:=aT R;clear a9 R;obtain⟨V,hV⟩:=aW (w.alloc (.cells #[] 9));have o0:fI 9 w V (aD (some ⟨w,0,none⟩) 0 0) (D.take 0):=by rw[hV];exact World.ownsRow_lit w #[] 0 aU (aZ _) rfl
 have B0:Below w w V:=jP hV;have z0:w.heap.size+1<=V.heap.size:=by rw[hV];simp
 go_enter func75,ntmps75;go_upto_region 2 with fail;rw[<-hV];clear hV;go_wp2_with fail;go_loopw [5,6,7] (fun uv pv iv wr=>∃(j k:Nat) (P:aB) (ad:Option Addr) (i K:Nat),iv=aO k/\pv=aR P/\uv=aD ad i K/\rR c s D j P k/\fI 9 w wr (aD ad i K) (D.take j)/\Below w w wr) (fun _ _ iv _=>s.size-(intOf iv).toNat)
 .exact⟨0,0,aN,_,_,_,rfl,rfl,rfl,Y.out,o0,B0⟩
 obtain⟨j,k,P,ad,i,K,rfl,rfl,rfl,z,o,B⟩:=hrel;clear Y o0 B0 z0;have c9:=z.2.2;have zB:=B.size;by_cases hlt:k<s.size
 .have a8:(k:Int)<(s.size:Int):=aA;by_cases hc:s[k]=c
  .have b4:((s[k].toNat:Int)==(c.toNat:Int))=true:=by rw[hc];simp
   obtain⟨hj,Z,J⟩:=AX z hlt hc;have F:D.take (j+1)=D.take j++[P]:=by rw[cH hj,<-Z,vG D j hj]
   have I:(D.take j).length=j:=bO;have O:=aT F;have N:=aT J;have M:=aT I;clear Z J F I z hc;go_wp2_with (at_builtin;refine tJ rfl _ _ _ rfl 9 underlying52 yG w.heap.size (aD ad i K) (D.take j) [P] wr.heap.size 1 1 rfl rfl rfl (fun j y S=>by match j,S with|0,S=>(cases S;exact cR _ _ _ _ _ rfl)) (o.alloc _) (by rw[M.out];simp;omega) bO ?_;intro v7 w7 o7 g7;obtain⟨p7,i7,q7,rfl⟩:=o7.shape3);have rr:=o.lt;have B7:=(B.alloc zB (.cells #[aR P] 9)).grown g7 bO (fun q hq=>(rr _ hq).1);go_roundw
   .exact⟨j+1,k+1,_,p7,i7,q7,cD,rfl,rfl,N.out,by rw[O.out];exact o7,B7⟩
   exact aY
  .have b4:((s[k].toNat:Int)==(c.toNat:Int))=false:=by rw[dZ];intro h;exact hc (UInt8.toNat_inj.1 (by exact_mod_cast h))
   have J:=CF z hlt hc;have hz:=DM P s k hlt;have N:=aT J;have e4:P.size+1<=s.size:=aA;clear z hc J hz;go_wp2;go_roundw
   .exact⟨j,k+1,_,ad,i,K,cD,rfl,rfl,N.out,o,B⟩
   exact aY
 .have a8:¬(k:Int)<(s.size:Int):=aA
  obtain⟨hj,Z,d0⟩:=AY z hlt;have F:D=D.take j++[P]:=by
   have h1:D.take (j+1)=D.take j++[P]:=by rw[cH hj,<-Z,vG D j hj]
   rw[<-h1,List.take_of_length_le aA]
  have I:(D.take j).length=j:=bO;have O:=aT F;have M:=aT I;clear Z F I z;go_wp2_with (at_builtin;refine tJ rfl _ _ _ rfl 9 underlying52 yG w.heap.size (aD ad i K) (D.take j) [P] wr.heap.size 1 1 rfl rfl rfl (fun j y S=>by match j,S with|0,S=>(cases S;exact cR _ _ _ _ _ rfl)) (o.alloc _) (by rw[M.out];simp;omega) bO ?_;intro v7 w7 o7 g7;obtain⟨p7,i7,q7,rfl⟩:=o7.shape3);have rr:=o.lt;have B7:=(B.alloc zB (.cells #[aR P] 9)).grown g7 bO (fun q hq=>(rr _ hq).1);go_ret;exact⟨p7,i7,q7,rfl,by rw[O.out];exact o7,B7⟩
theorem afR(t:aB)(h:0<(dK 10 t).length):∃m,m<=(dK 10 t).length/\BD t=(dK 10 t).take m/\((m=(dK 10 t).length-1/\(dK 10 t).getD ((dK 10 t).length-1) aN=aN)\/(m=(dK 10 t).length/\(dK 10 t).getD ((dK 10 t).length-1) aN≠ByteArray.empty)):=by
 obtain⟨z,D⟩:=aW (dK 10 t);rw[<-D]at h |-;have hl:z.getLastD aN=z.getD (z.length-1) aN:=by rw[List.getLastD_eq_getLast?,List.getLast?_eq_getElem?,bR]
 unfold BD;rw[<-D,hl];by_cases F:z.getD (z.length-1) aN=aN
 .exact⟨z.length-1,aA,by rw[if_pos F,List.dropLast_eq_take],.inl ⟨rfl,F⟩⟩
 .exact⟨z.length,aU,by rw[if_neg F,List.take_length],.inr ⟨rfl,F⟩⟩
theorem arR(t:aB)(w:World)
  (b0:∀(W:World) (s:aB),s.size<=2000->Calls prog 76 #[aR s] W fun e W'=>e=aQ (aR (sU s))/\Below W W W')
  (Z:∀s:aB,s.size<=2000->(sU s).size<=200000):
  aH 19 #[aR t] w (aR (uD t)):=by
 by_cases h2:(2000:Int)<(t.size:Int)
 .have hr:uD t=aN:=by unfold uD;rw[if_neg aA]
  go_enter func19,ntmps19;go_wp2;go_ret;exact⟨dA hr.symm,bJ _ _⟩
 have b6:Calls prog 75 #[aR t,.int .u8 10] w fun e w'=>∃ad i cp,e=aQ (aD ad i cp)/\fI 9 w w' (aD ad i cp) (dK 10 t)/\Below w w w':=YB t 10 w aA;have K:=pJ 10 t;have a6:0<(dK 10 t).length:=List.length_pos_iff.2 (by unfold dK;simpa using CQ _ _ _);have e0:=xP 10 t;obtain⟨m,hm,e4,N⟩:=afR t a6;have Y:uD t=if m<=20 then iK ((dK 10 t).take m) m else aN:=by
  unfold uD;rw[e4,List.length_take,Nat.min_eq_left hm];by_cases h:m<=20
  .rw[if_pos ⟨aA,h⟩,if_pos h]
  .rw[if_neg (fun x=>h x.2),if_neg h]
 obtain⟨z,e8⟩:=aW (dK 10 t);rw[<-e8]at b6 K Y a6 hm N e0;have S:∀x∈z,(sU x).size<=200000:=fun x hx=>Z x (by have:=K x hx;omega);have a7:=RH (z.take m) (fun x hx=>S x (List.mem_of_mem_take hx));have f4:=aT a7;have c5:=aT S;have b1:=aT K;have R:=aT Y;have c7:=aT N;clear a7 S K Y N Z e4 e8;go_enter func19,ntmps19;go_wp2_with fail;refine b6.mono ?_;rintro e w1 ⟨ad,i,cp,rfl,o,B⟩;rcases o.at with⟨_,_,_,e7⟩|⟨g,c,hv,hc,hg,J⟩
 .rw[e7]at a6;simp at a6
 injection hv with v1 v2 v3;subst v1 v2 v3;obtain⟨c,c9⟩:=aW cp;rw[<-c9]at hc |-;clear c9;clear b6 o;have d0:=fun W=>mE g z.length c (z.length-1) aA W;rw[show((z.length-1:Nat):Int)=(z.length:Int)-1 from aA]at d0;have M:=J (z.length-1) (z.getD (z.length-1) aN) (by rw[vG z _ aA];exact cG _);rw[Nat.zero_add]at M;obtain⟨x,hx⟩:=aW (z.getD (z.length-1) aN);have N:=c7.out;rw[<-hx]at M N;have J:=aT J;clear hx c7;go_upto_if 17 with fail;go_cut [3] (fun v wx=>v=aD (some ⟨g,0,none⟩) m c/\Below w1 w1 wx)
 case first=>
  rcases N with⟨b8,D⟩|⟨b8,D⟩
  .have F:(x.toList==([]:List UInt8))=true:=by rw[show([]:List UInt8)=ByteArray.empty.toList from dS,dR,bH D]
   have I:x.toList.isEmpty=true:=by
    cases h:x.toList with
    |nil=>rfl
    |cons a b=>rw[h]at F;cases F
   clear D;have q1:0<=(z.length:Int)-1:=aA;have q2:(z.length:Int)-1<=(c:Int):=aA;go_wp2
   all_goals first|(rename_i hh;rw[I]at hh;exact absurd hh bZ)|(go_meet;exact⟨by rw[b8],bJ _ _⟩)
  .have F:(x.toList==([]:List UInt8))=false:=by rw[show([]:List UInt8)=ByteArray.empty.toList from dS,dR,bG D]
   have I:x.toList.isEmpty=false:=by
    cases h:x.toList with
    |nil=>rw[h]at F;cases F
    |cons a b=>rfl
   clear D;go_wp2
   all_goals first|(rename_i hh;rw[I]at hh;exact absurd hh bZ)|(go_meet;exact⟨by rw[b8],bJ _ _⟩)
 case rest=>
  obtain⟨rfl,b2⟩:=hcut;have B2:=B.after b2 B.size;clear N M d0;by_cases g6:(20:Int)<(m:Int)
  .have hr:uD t=aN:=by rw[R.out,if_neg aA]
   go_wp2;go_ret;exact⟨dA hr.symm,B2⟩
  have hr:uD t=iK (z.take m) m:=by rw[R.out,if_pos aA]
  have HR:=aT hr;have c6:=aT b0;clear hr R b0;go_wp2_with fail;go_loopw [4,5] (fun ov iv wr=>∃k:Nat,k<=m/\iv=aO k/\ov=aR (iK (z.take m) k)/\Below wc wc wr) (fun _ iv _=>m-(intOf iv).toNat)
  .exact⟨0,aZ _,rfl,rfl,bJ _ _⟩
  obtain⟨k,hk,rfl,rfl,Bw⟩:=hrel;have B3:=B2.after Bw B2.size;by_cases hlt:k<m
  .have e5:(k:Int)<(m:Int):=aA;have b7:k<z:=aA;have b4:=J.out k z[k] (cG b7);rw[Nat.zero_add]at b4;have f5:=keep Bw (keep b2 b4);have g0:=fun W=>mE g m c k hlt W;have f6:=b1.out _ (aX b7);have Z:=c5.out _ (aX b7);have a7:=f4.out k (by rw[List.length_take];omega);have a8:iK (z.take m) (k+1)=if z[k]=aN then iK (z.take m) k else iK (z.take m) k++(sU z[k]++RE):=by rw[iK,vG (z.take m) k (by rw[List.length_take];omega),List.getElem_take]
   obtain⟨x,hx⟩:=aW (z[k]);rw[<-hx]at f5 f6 Z a8;obtain⟨O,hO⟩:=aW (iK (z.take m) k);rw[<-hO]at a7 a8 |-;have c8:=aT a8;clear a8 hx hO b4;by_cases D:x=aN
   .have F:(x.toList != ([]:List UInt8))=false:=by rw[bne,show([]:List UInt8)=ByteArray.empty.toList from dS,dR,bH D];rfl
    have hn:iK (z.take m) (k+1)=O:=by rw[c8.out,if_pos D]
    have HN:=aT hn;have I:x.toList.isEmpty=true:=by
     cases h:x.toList with
     |nil=>rfl
     |cons a b=>rw[h]at F;cases F
    clear hn D;go_wp2_with fail
    all_goals first|(rename_i hh;simp[I]at hh;done)|skip
    go_roundw
    .exact⟨k+1,aA,cD,by rw[HN.out],Bw⟩
    exact aY
   .have F:(x.toList != ([]:List UInt8))=true:=by rw[bne,show([]:List UInt8)=ByteArray.empty.toList from dS,dR,bG D];rfl
    have hn:iK (z.take m) (k+1)=O++(sU x++RE):=by rw[c8.out,if_neg D]
    have HN:=aT hn;have b3:=c6.out wr x aA;obtain⟨A,hA⟩:=aW (sU x);rw[<-hA]at b3 HN Z;have f3:=aT b3;have s1:(O++A).size<=4200021:=by rw[gW];omega
    have I:x.toList.isEmpty=false:=by
     cases h:x.toList with
     |nil=>rw[h]at F;cases F
     |cons a b=>rfl
    clear hn D b3 hA;go_wp2_with fail
    all_goals first|(rename_i hh;simp[I]at hh;done)|skip
    refine aV f3.out ?_;intro w5 b5;go_wp2;go_roundw
    .exact⟨k+1,aA,cD,by rw[HN.out,<-ByteArray.append_assoc];rfl,Bw.after b5 Bw.size⟩
    exact aY
  .have e5:¬(k:Int)<(m:Int):=aA;obtain rfl:k=m:=aA;go_wp2;go_ret;exact⟨dA HR.out.symm,B3⟩
theorem ai7{p:Prop}(h:p:=by
  rw[an4,<-HX.out]at hc
  cases z:decide (F=aN) with
  |true=>rw[z]at R;rw[if_pos ((Lib.containsS_iff _ _).2 (by rw[eD z];simp))]at hc;have J:=aT hc;clear hc z;go_wp2;go_ret;exact⟨dA J.out.symm,B5⟩
  |false=>
   rw[z]at R;have D:¬ByteArray.empty=F:=fun e=>eZ z e.symm;clear z
   cases I:decide (S=aN) with
   |true=>rw[I]at c8;rw[if_pos ((Lib.containsS_iff _ _).2 (by rw[eD I];simp))]at hc;have J:=aT hc;clear hc I D;go_wp2;go_ret;exact⟨dA J.out.symm,B5⟩
   |false=>
    rw[I]at c8;have c5:¬ByteArray.empty=S:=fun e=>eZ I e.symm;clear I;rw[if_neg (fun h=>by have:=(Lib.containsS_iff _ _).1 h;simp[RG,al5,D,c5]at this)]at hc;have J:=aT hc;clear hc D c5;go_wp2;go_ret;exact⟨dA J.out.symm,B5⟩):p:=h
theorem ajE{p:Prop}(h:p:=by
  have f2:=wG A;go_wp2_with fail;refine aV (HA.out w5 b5) ?_;intro w6 b6;have B6:=B5.after b6 B5.size
  cases a8:decide (A=aN) with
  |true=>rw[a8]at f2;rw[if_pos ((Lib.containsS_iff _ _).2 (by rw[eD a8];simp))]at hc;have J:=aT hc;clear hc a8;go_wp2;go_ret;exact⟨dA J.out.symm,B6⟩
  |false=>
   rw[a8]at f2;have f7:¬ByteArray.empty=A:=fun e=>eZ a8 e.symm;rw[if_neg (fun h=>by have:=(Lib.containsS_iff _ _).1 h;simp[RG,f7]at this)]at hc;have J:=aT hc;clear hc a8 f7;go_wp2;go_ret;exact⟨dA J.out.symm,B6⟩):p:=h
theorem ak6{p:Prop}(h:p:=by
  rw[M]at e4;rw[if_pos ((Lib.containsS_iff _ _).2 (by rw[eD M];simp))]at hc;have J:=aT hc;clear hc M D;go_wp2;go_ret;exact⟨dA J.out.symm,B5⟩):p:=h
theorem WM(k O:Int)(v1:Value)(l1:aI)(Y:Int)(v2:Value)(l2:aI)(Z:Int)(v3:Value)(l3:aI)(q st:Int)(v4:Value)(l4:aI)(w:World)
  (h1:Ints w v1 l1) (h2:Ints w v2 l2) (h3:Ints w v3 l3) (h4:Ints w v4 l4):
  aH 12 #[clV k O v1 Y v2 Z v3 q st v4] w (aR (kY k O l1 Y l2 Z l3 q st l4)):=by
 have K0:=bK.new w 34 (clC k O v1 Y v2 Z v3 q st v4);have a9:=SL k (w.alloc (.cells (clC k O v1 Y v2 Z v3 q st v4) 34));by_cases hk:1<=k/\k<=7
 .have e5:=aeE k hk;have f8:=E9 k;obtain⟨W,hW⟩:=aW (jO k);rw[<-hW]at a9 e5 f8;have e0:=wG W;rw[bG e5]at e0;have c6:=aT a9;have HW:=aT hW;have f6:max (-99999) (min 99999 q)=J4 q:=rfl;clear a9 hW e5;go_enter func12,ntmps12;go_wp2_with fail;refine aV c6.out ?_;intro w1 b1;have B1:Below w w w1:=(cQ _ _).after b1 bF;have K1:=K0.keep b1;clear K0 b1 c6;have G1:=K1.cell;have f3:=eB (J4 q) (M6 q);have f4:=OC l4;go_upto_region 3 with fail;go_cut [4] (fun v wx=>∃X,v=aR X/\X=yO k q l4/\X.size<=1000/\Below w1 w1 wx)
  case rest=>
   obtain⟨X,rfl,hX,m9,b2⟩:=hcut;have B2:=B1.after b2 B1.size;have K2:=K1.keep b2;have HX:=aT hX;clear hX G1 b2 K1 f3 f4 f8 e0 f6 h4;have j1:=vY O l1;have j2:=vY Y l2;have j3:=gN O st;have j0:=gK Z l3;have hf:=EW O l1 v1 wc (h1.below B2 aU);have hg:=fun(W':World) (hb:Below wc wc W')=>EW Y l2 v2 W' ((h2.below B2 aU).keep hb);have hs:=fun(W':World)=>kL O st W';have ha:=fun(W':World) (hb:Below wc wc W')=>lV Z l3 v3 W' ((h3.below B2 aU).keep hb);obtain⟨F,hF⟩:=aW (jA O l1);obtain⟨G,hG⟩:=aW (jA Y l2);obtain⟨S,hS⟩:=aW (dH O st);obtain⟨A,hA⟩:=aW (eG Z l3);rw[<-hF]at hf j1;rw[<-hG]at hg j2;rw[<-hS]at hs j3;rw[<-hA]at ha j0;have HF:=aT hf;have HG:=aT hg;have HS:=aT hs;have HA:=aT ha;have K:=aT (And.intro hF (And.intro hG (And.intro hS hA)));clear hf hg hs ha hF hG hS hA h1 h2 h3;have G2:=K2.cell;go_wp2_with fail;refine aV HF.out ?_;intro w3 b3;have K3:=K2.keep b3;clear G2;have G3:=K3.cell;go_wp2_with fail;refine aV (HG.out w3 b3) ?_;intro w4 b4;have b4:=b3.after b4 b3.size;have K4:=K2.keep b4;clear G3 K3;have G4:=K4.cell;go_wp2_with fail;refine aV (HS.out w4) ?_;intro w5 b5;have b5:=b4.after b5 b4.size;have K5:=K2.keep b5;have B5:=B2.after b5 B2.size;clear G4 K4 K2;have G5:=K5.cell;have R:=wG F;have e4:=wG G;have c8:=wG S;by_cases k2:k=2
   .subst k2;have hc:=tN 2 O l1 Y l2 Z l3 q st l4 hk [tL,F] (by rw[K.out.1];rfl);rw[S0,<-HX.out]at hc
    cases hb:decide (F=aN) with
    |true=>rw[hb]at R;rw[if_pos ((Lib.containsS_iff _ _).2 (by rw[eD hb];simp))]at hc;have J:=aT hc;clear hc hb;go_wp2;go_ret;exact⟨dA J.out.symm,B5.after (bJ _ _) aU⟩
    |false=>rw[hb]at R;have D:¬ByteArray.empty=F:=fun e=>eZ hb e.symm;rw[if_neg (fun h=>by have:=(Lib.containsS_iff _ _).1 h;simp[RG,D]at this)]at hc;have J:=aT hc;clear hc hb D;go_wp2;go_ret;exact⟨dA J.out.symm,B5.after (bJ _ _) aU⟩
   .by_cases k3:k=3
    .subst k3;have hc:=tN 3 O l1 Y l2 Z l3 q st l4 hk [tL,F,OV,G] (by rw[K.out.1,K.out.2.1];rfl);rw[an3,<-HX.out]at hc
     cases z:decide (F=aN) with
     |true=>rw[z]at R;rw[if_pos ((Lib.containsS_iff _ _).2 (by rw[eD z];simp))]at hc;have J:=aT hc;clear hc z;go_wp2;go_ret;exact⟨dA J.out.symm,B5⟩
     |false=>
      rw[z]at R;have D:¬ByteArray.empty=F:=fun e=>eZ z e.symm;clear z
      cases M:decide (G=aN) with
      |true=>exact ak6
      |false=>rw[M]at e4;have b0:¬ByteArray.empty=G:=fun e=>eZ M e.symm;clear M;rw[if_neg (fun h=>by have:=(Lib.containsS_iff _ _).1 h;simp[RG,as2,D,b0]at this)]at hc;have J:=aT hc;clear hc D b0;go_wp2;go_ret;exact⟨dA J.out.symm,B5⟩
    .by_cases k4:k=4
     .subst k4;have hc:=tN 4 O l1 Y l2 Z l3 q st l4 hk [zZ,S,tL,F,OK,G] (by rw[K.out.1,K.out.2.1,K.out.2.2.1];rfl);rw[an2,<-HX.out]at hc
      cases z:decide (F=aN) with
      |true=>rw[z]at R;rw[if_pos ((Lib.containsS_iff _ _).2 (by rw[eD z];simp))]at hc;have J:=aT hc;clear hc z;go_wp2;go_ret;exact⟨dA J.out.symm,B5⟩
      |false=>
       rw[z]at R;have D:¬ByteArray.empty=F:=fun e=>eZ z e.symm;clear z
       cases M:decide (G=aN) with
       |true=>exact ak6
       |false=>
        rw[M]at e4;have b0:¬ByteArray.empty=G:=fun e=>eZ M e.symm;clear M
        cases I:decide (S=aN) with
        |true=>rw[I]at c8;rw[if_pos ((Lib.containsS_iff _ _).2 (by rw[eD I];simp))]at hc;have J:=aT hc;clear hc I D b0;go_wp2;go_ret;exact⟨dA J.out.symm,B5⟩
        |false=>rw[I]at c8;have c5:¬ByteArray.empty=S:=fun e=>eZ I e.symm;clear I;rw[if_neg (fun h=>by have:=(Lib.containsS_iff _ _).1 h;simp[RG,asG,al5,D,b0,c5]at this)]at hc;have J:=aT hc;clear hc D b0 c5;go_wp2;go_ret;exact⟨dA J.out.symm,B5⟩
     .by_cases k1:k=1
      .subst k1;have hc:=tN 1 O l1 Y l2 Z l3 q st l4 hk [zZ,S,tL,F] (by rw[K.out.1,K.out.2.2.1];rfl);exact ai7
      .by_cases k5:k=5
       .subst k5;have hc:=tN 5 O l1 Y l2 Z l3 q st l4 hk [zZ,S,tL,F] (by rw[K.out.1,K.out.2.2.1];rfl);exact ai7
       .have f5:k=6\/k=7:=aA;clear k1 k2 k3 k4 k5;rcases f5 with rfl|rfl
        .have hc:=tN 6 O l1 Y l2 Z l3 q st l4 hk [tL,A] (by rw[K.out.2.2.2];rfl);rw[S0,<-HX.out]at hc;exact ajE
        .have hc:=tN 7 O l1 Y l2 Z l3 q st l4 hk [tL,A] (by rw[K.out.2.2.2];rfl);rw[S0,<-HX.out]at hc;exact ajE
  case first=>
  have c7:=G1 7;have c9:=G1 9;simp only[clC,List.getElem?_toArray,List.getElem?_cons_zero,List.getElem?_cons_succ]at c7 c9;have q7:∀y:Ext w1,y.w.cell? ⟨w,7,none⟩=some (aO q):=fun y=>y.cell c7;have q9:∀y:Ext w1,y.w.cell? ⟨w,9,none⟩=some v4:=fun y=>y.cell c9;have QN:=fun y:Ext w1=>iL (J4 q) (M6 q) y.w;have QT:=fun y:Ext w1=>aq0 l4 v4 y.w ((h4.below B1 aU).keep y.b);obtain⟨N,hN⟩:=aW (dB (J4 q));obtain⟨T,hT⟩:=aW (kJ l4);rw[<-hN]at QN f3;rw[<-hT]at QT f4;have QN:=aT QN;have QT:=aT QT;have HN:=aT hN;have HT:=aT hT;clear c7 c9 hN hT;refine cW _ bM bM ?_
  repeat(first|go_big_quiet_skip|(go_big_quiet_want;go_big_quiet_op;first|go_big_quiet_on|(apply Exists.intro;refine⟨fun _=>?_,?_⟩;(first|(go_at_call 8;with_reducible exact dI (QN.out _))|(go_at_call 32;with_reducible exact dI (QT.out _)));go_big_quiet_on)))
  refine wpQuiet_nil ?_;rintro w2 ⟨⟨w2,b2⟩,rfl⟩
  try dsimp only
  have j4:(W++{ data:=#[32] }++N++{ data:=#[32,108,105,115,116,32] }++T).size<=1000:=by simp only[ByteArray.size_append];have s1:(ByteArray.mk #[32]).size=1:=rfl;have s2:(ByteArray.mk #[32,108,105,115,116,32]).size=6:=rfl;omega
  go_wp2_with fail;go_meet;exact⟨_,rfl,by rw[HW.out,HN.out,HT.out];rfl,j4,b2⟩
 .have hx:kY k O l1 Y l2 Z l3 q st l4=aN:=by unfold kY;rw[if_pos];rw[Lib.containsS_iff];unfold pX;rw[O2];exact .inl (abF k hk).symm
  rw[abF k hk]at a9;have c6:=aT a9;have HX:=aT hx;clear a9 hx hk;go_enter func12,ntmps12;go_wp2_with fail;refine aV c6.out ?_;intro w1 b1;go_wp2;go_ret;exact⟨dA HX.out.symm,(cQ _ _).after b1 bF⟩
end
section
open Go.RowKit Go.G5 Go.Proofs.Tryz
end
section
open Go.RowKit Go.G5 Go.Proofs.Tryz
variable(w:World)(n:Int)(v:Value)(l:aI)
theorem sW(k J:Int)(v1:Value)(z:aI)(h1:Ints w v1 z)(K:Int)(v2:Value)(D:aI)(h2:Ints w v2 D)(M:Int)(v3:Value)(F:aI)(h3:Ints w v3 F)(q N:Int)(v4:Value)(I:aI)(h4:Ints w v4 I)(ok:Bool)(hp:lA w):
  aH 137 #[clV k J v1 K v2 M v3 q N v4,aG ok] w (aR (JG ok (kY k J z K D M F q N I))):=by
 obtain⟨R,c1,rfl⟩:=h1.shape;obtain⟨a2,c2,rfl⟩:=h2.shape;obtain⟨a3,c3,rfl⟩:=h3.shape;obtain⟨a4,c4,rfl⟩:=h4.shape;have O:=bK.new w 34 (clC k J (aD R z c1) K (aD a2 D c2) M (aD a3 F c3) q N (aD a4 I c4))
 cases ok with
 |false=>clear O;go_enter func137,ntmps137;go_wp2;go_ret;exact⟨rfl,cQ _ _⟩
 |true=>have S:=WL k J _ z K _ D M _ F q N _ I (w.alloc (.cells (clC k J (aD R z c1) K (aD a2 D c2) M (aD a3 F c3) q N (aD a4 I c4)) 34)) (h1.alloc _) (h2.alloc _) (h3.alloc _) (h4.alloc _) (hp.keep (cQ _ _));have Y:=aT S;have G:=O.cell;clear S;go_enter func137,ntmps137;go_wp2_with fail;refine aV Y.out ?_;intro w1 Z;go_wp2;go_ret;exact⟨rfl,(cQ _ _).after Z bF⟩
theorem sX(k J:Int)(v1:Value)(z:aI)(h1:Ints w v1 z)(K:Int)(v2:Value)(D:aI)(h2:Ints w v2 D)(M:Int)(v3:Value)(F:aI)(h3:Ints w v3 F)(q N:Int)(v4:Value)(I:aI)(h4:Ints w v4 I)(ok:Bool) :
  aH 162 #[clV k J v1 K v2 M v3 q N v4,aG ok] w (aR (JG ok (kY k J z K D M F q N I))):=by
 obtain⟨R,c1,rfl⟩:=h1.shape;obtain⟨a2,c2,rfl⟩:=h2.shape;obtain⟨a3,c3,rfl⟩:=h3.shape;obtain⟨a4,c4,rfl⟩:=h4.shape;have O:=bK.new w 34 (clC k J (aD R z c1) K (aD a2 D c2) M (aD a3 F c3) q N (aD a4 I c4))
 cases ok with
 |false=>clear O;go_enter func162,ntmps162;go_wp2;go_ret;exact⟨rfl,cQ _ _⟩
 |true=>have S:=WM k J _ z K _ D M _ F q N _ I (w.alloc (.cells (clC k J (aD R z c1) K (aD a2 D c2) M (aD a3 F c3) q N (aD a4 I c4)) 34)) (h1.alloc _) (h2.alloc _) (h3.alloc _) (h4.alloc _);have Y:=aT S;have G:=O.cell;clear S;go_enter func162,ntmps162;go_wp2_with fail;refine aV Y.out ?_;intro w1 Z;go_wp2;go_ret;exact⟨rfl,(cQ _ _).after Z bF⟩
theorem VN(t:aB)(w:World):Calls prog 135 #[aR t] w fun e w'=>e=aQ (aR (yR t))/\w=w':=by
 by_cases z:t=aN
 .subst z;go_enter func135,ntmps135;go_wp2;go_ret;exact⟨rfl,rfl⟩
 .have F:(t.toList==([]:List UInt8))=false:=by rw[show([]:List UInt8)=ByteArray.empty.toList from dS,dR,bG z]
  have D:yR t=t:=by unfold yR;rw[if_neg z]
  clear z;go_enter func135,ntmps135;go_wp2;go_ret;exact⟨dA D.symm,rfl⟩
theorem VO(t:aB)(w:World):Calls prog 160 #[aR t] w fun e w'=>e=aQ (aR (yR t))/\w=w':=by
 by_cases z:t=aN
 .subst z;go_enter func160,ntmps160;go_wp2;go_ret;exact⟨rfl,rfl⟩
 .have F:(t.toList==([]:List UInt8))=false:=by rw[show([]:List UInt8)=ByteArray.empty.toList from dS,dR,bG z]
  have D:yR t=t:=by unfold yR;rw[if_neg z]
  clear z;go_enter func160,ntmps160;go_wp2;go_ret;exact⟨dA D.symm,rfl⟩
def A6(w:World)(z:Nat)(n:Nat)(v:Value)(a:Int)(W:World):Prop:=
 Below w w W/\bK W w 27 #[n,v]/\bK W z 3 #[a]
theorem ab4(z:Nat)(n:Nat)(v:Value)(a:Int)(W W':World)(h:A6 w z n v a W)(hb:Below W W W'):A6 w z n v a W':=by
 obtain⟨h1,h2,h3⟩:=h;exact⟨h1.after hb h1.size,h2.keep hb,h3.keep hb⟩
theorem ae9(z:Nat)(e4:w.heap.size<z)(n:Nat)(hn:n<=5)(l:aI)(v:Value)(hv:Ints w v l)(hl:l.length=2^n)(K:∀k,(hk:k<l.length)->-1000<=l[k]/\l[k]<=1000)(a:Int)(s i k:Nat)(W:World)(hs:s<2^n)(e0:i<k)(hk:k<n)(hR:A6 w z n v a W):
  Calls prog 260 #[s,i,k,aP (some ⟨z,0,none⟩),aP (some ⟨w,0,none⟩)] W fun e w'=>
   e=aQ (aG (IZ l a (s,i,k)).2)/\A6 w z n v (IZ l a (s,i,k)).1 w'/\GrownIn W w' (fun b=>b=z):=by
 obtain⟨B,S,M⟩:=hR;have e5:(2:Nat)^n<=32:=bQ (n:=2) bZ hn;have hex:∀V,Ints V v l->Calls prog 261 #[aM #[n,v],s,i,k] V fun e w'=>e=aQ (nB l s i k)/\Below V V w':=fun V hV=>P6 n hn l v V hV hl K s i k hs aA hk;have J:IZ l a (s,i,k)=(max a (nB l s i k),true):=rfl;obtain⟨av,cv,rfl⟩:=hv.shape;obtain⟨x,hx⟩:=aW (nB l s i k);simp only[<-hx]at hex J;rw[J];have G1:=S.cell;have yB:=B.size;have zf:=S.lt;have zo:=M.lt;have R:=aT hex;clear hl K hx hex hs J;have Go:=M.cell;have Fo:=M.frozen;go_enter func260,ntmps260;go_wp2_with fail;have a8:Ints W.drew (aD av l cv) l:=(hv.below B aU).drew';have a1:bK W.drew z 3 #[a]:=M;have Z:bK W.drew w.heap.size 27 #[n,aD av l cv]:=S;have Bd:Below w w W.drew:=B.drew;go_region_law
  (first
   |(go_simp;go_at_call 261;refine aV (R.out _ a8) ?_;intro w1 I;have D:=a1.keep I;have O:=D.cell;have N:=D.frozen))
 all_goals
  have Y:=Z.keep I;have b1:Below W W w1:=((bJ W.heap.size W).drewN' 1).after I bF;have B1:=B.after b1 B.size;clear Go G1 Fo;go_wp2;refine cT ?_;intro Wf F;have KO:bK Wf z 3 #[aO (max a x)]:=by rw[F];have:=D.set 0 (aO (max a x));simpa using this
  have gF:w1.grownBy Wf (some z):=by rw[F];exact cX (dO _ _) 0 _
  have KF:=Y.grow gF (by intro h;have:=cI h;omega);have BF:=B1.grown gF B1.size kF;have a7:=(GrownIn.of_below (P:=fun b=>b=z) b1).trans (GrownIn.of_row gF (fun q hq=>(cI hq).symm));clear F O N;go_ret;exact⟨rfl,⟨BF,KF,KO⟩,a7⟩
theorem NN:∀args w,(callFunc 260 args).run prog w=.ok (.enter 260 args) w:=enters_of func260 bM rfl
theorem anU(hv:Ints w v l):
  aH 176 #[aM #[n,v]] w (aS #[(qP n l),aG (cS n l)]):=by
 have K:=hv;obtain⟨a,c,rfl⟩:=hv.shape;have c8:∀(fn:Fn) (first cap:Array Value) (w:World),(Instr.makeFunc fn first cap).run prog w=.ok (.func fn first cap) w:=fun _ _ _ _=>rfl;have K0:=bK.new w 27 #[n,aD a l c]
 cases I:cS n l with
 |false=>
  have hg:qP n l=0:=by unfold qP;rw[I];rfl
  have HG:=aT hg;have S:=aT I;clear hg I;go_enter func176,ntmps176;go_wp2_with (go_at_call 132;refine aV (fO n l _ _ (K.alloc _)) ?_;intro w1 z;rw[S.out]);go_ret2;exact⟨by rw[HG.out];rfl,(cQ _ _).after z bF⟩
 |true=>
  obtain⟨N,rfl,O,J,b4,R⟩:=eJ I;have hr:qP (N:Int) l=(jX (IZ l) (lR N (2^N)) 0).1:=by unfold qP YV;rw[I,if_pos rfl,cA]
  have F:∀D V,w.heap.size<D->A6 w D N (aD a l c) 0 V->Calls prog 259 #[aM #[N,aD a l c],.func (.func 260) #[] #[aP (some ⟨D,0,none⟩),aP (some ⟨w,0,none⟩)]] V fun e w'=>
    e=aQ (aS #[])/\A6 w D N (aD a l c) (qP N l) w'/\GrownIn V w' (fun b=>b=D):=fun D V a1 hV=>by
   rw[hr];refine IB N O l _ J 260 NN _ _ (IZ l) (A6 w D N (aD a l c)) _ (ab4 w D N _) V ⟨a,c,rfl⟩ (fun b hb=>by have:=hV.2.2.lt;omega) ?_ 0 hV;intro a' s i k W hs Z hk _ _ hR _;exact ae9 w D a1 N O l _ K J R a' s i k W hs Z hk hR
  have HV:=aT F;have S:=aT I;clear F hr I J R;obtain⟨M,hM⟩:=aW (qP (N:Int) l);rw[<-hM]at HV |-;clear hM;go_enter func176,ntmps176;go_wp2_with fail;refine aV (fO N l _ _ (K.alloc _)) ?_;intro w1 z;rw[S.out];have Y:=K0.keep z;have B1:Below w w w1:=(cQ _ _).after z bF;have G1:=Y.cell;have z1:=Y.lt;clear z K0;go_wp2_with fail;have R0:A6 w w1.heap.size N (aD a l c) 0 (w1.alloc (.cells #[aK] 3)):=⟨B1.alloc B1.size _,Y.alloc _,bK.new _ _ _⟩;refine(HV.out w1.heap.size _ z1 R0).mono ?_;rintro e w2 ⟨rfl,⟨B2,K2,Ko⟩,c7⟩;clear G1 R0;have Go:=Ko.cell;go_wp2;go_ret2;exact⟨rfl,B2⟩
theorem ah7(hv:Ints w v l)(hl:l.length<=1048576)(hp:lA w):
  aH 133 #[aM #[n,v]] w (aR (sL n l)):=by
 have z:=hv;obtain⟨a,c,rfl⟩:=hv.shape;have K0:=bK.new w 27 #[n,aD a l c]
 cases hf:cS n l with
 |false=>
  have hx:sL n l=aN:=by unfold sL;rw[hf];rfl
  have HX:=aT hx;have HF:=aT hf;clear hx hf;go_enter func133,ntmps133;go_wp2_with fail;refine aV (fO n l _ _ (z.alloc _)) ?_;intro w1 b1;rw[HF.out];go_wp2;go_ret;exact⟨dA HX.out.symm,(cQ _ _).after b1 bF⟩
 |true=>
  have hx:=QG hf;have HX:=aT hx;have s6:=DJ hf;have s7:=JU hf;have s5:=SX n l;have HF:=aT hf;clear hx hf;go_enter func133,ntmps133;go_wp2_with fail;refine aV (fO n l _ _ (z.alloc _)) ?_;intro w1 b1;rw[HF.out];have B:Below w w w1:=(cQ _ _).after b1 bF;have K:=K0.keep b1;clear K0 b1;have G:=K.cell;go_wp2_with fail;refine aV (anU _ n _ l (z.below B aU)) ?_;intro w2 b2;have B1:=B.after b2 B.size;have K1:=K.keep b2;clear B K G b2;obtain⟨D,e5⟩:=aW w2.heap.size;have zb:w.heap.size<D:=by rw[e5];exact K1.lt
  have L1:kE D (w2.alloc (.cells #[()] 143)) []:=by rw[e5];exact kE.new w2
  have K2:=K1.alloc (.cells #[()] 143);have B2:=B1.alloc B1.size (.cells #[()] 143);have G1:=K2.cell;go_wp2_with fail;rw[<-e5];clear e5;clear G1;refine aV (EV n l _ _ (z.below B2 aU) (hp.keep B2)) ?_;intro w3 b3;have B3:=B2.after b3 B2.size;have K3:=K2.keep b3;have L3:=L1.keep b3;clear B2 K2 L1;clear b3;go_wp2_with fail;refine aV (fH D [] [(⟨#[102,117,110,99,116,105,111,110]⟩:aB),jA n l] w3.heap.size 2 2 _ (L3.keep (cQ _ _)) rfl (jC (cR _ _ _ _ _ rfl) (cR _ _ _ _ _ rfl)) bF) ?_;rintro w4 ⟨L4,b4⟩;have B4:=(B3.alloc B3.size _).after b4 aA;have K4:=dN (K3.alloc _) b4 aA;clear B3 K3 L3 b4;obtain⟨X4,c9⟩:=aW ([]++[(⟨#[102,117,110,99,116,105,111,110]⟩:aB),jA n l]);rw[<-c9]at L4;have s1:X4.length<=2:=by rw[c9];simp only[List.length_append,List.length_cons,List.length_nil];omega
  go_wp2_with fail;refine aV (gX D X4 (⟨#[103,97,112]⟩:aB) (qP n l) ⟨aA,aA⟩ _ L4 (hp.keep B4) aA) ?_;rintro w5 ⟨L5,b5⟩;have B5:=B4.after b5 aA;have K5:=dN K4 b5 aA;clear B4 K4 L4 b5;obtain⟨X5,d0⟩:=aW (X4++[(⟨#[103,97,112]⟩:aB),dB (qP n l)]);rw[<-d0]at L5;have s2:X5.length<=4:=by rw[d0];simp only[List.length_append,List.length_cons,List.length_nil];omega
  have G:=K5.cell;go_wp2_with fail;clear G;refine(VD _ n _ l (z.below B5 aU) hl).mono ?_;rintro e w6 ⟨pM,iM,qM,rfl,oM,b6⟩;have B6:=B5.after b6 B5.size;have K6:=K5.keep b6;have L6:=L5.keep b6;clear B5 K5 L5;clear b6;have rM:=oM.ints.inR;go_wp2_with fail;refine aV (nK D X5 (⟨#[109,97,115,115,101,115]⟩:aB) _ (iN n l) _ oM.ints aA L6 (hp.keep B6) aA) ?_;rintro w7 ⟨L7,b7⟩;have B7:=B6.after b7 aA;have K7:=dN K6 b7 aA;clear B6 K6 L6 b7;clear oM;obtain⟨X7,e0⟩:=aW (X5++[(⟨#[109,97,115,115,101,115]⟩:aB),gY (iN n l)]);rw[<-e0]at L7;have s3:X7.length<=6:=by rw[e0];simp only[List.length_append,List.length_cons,List.length_nil];omega
  have G:=K7.cell;go_wp2_with fail;clear G;refine(ad8 _ n _ l (z.below B7 aU) hl).mono ?_;rintro e w8 ⟨pS,iS,qS,rfl,oS,b8⟩;have B8:=B7.after b8 B7.size;have K8:=K7.keep b8;have L8:=L7.keep b8;clear B7 K7 L7;clear b8;have rS:=oS.ints.inR;go_wp2_with fail;refine aV (nK D X7 (⟨#[115,104,97,112,108,101,121]⟩:aB) _ (kR n l) _ oS.ints aA L8 (hp.keep B8) aA) ?_;rintro w9 ⟨L9,b9⟩;have B9:=B8.after b9 aA;have K9:=dN K8 b9 aA;clear B8 K8 L8 b9;clear oS;obtain⟨X9,e4⟩:=aW (X7++[(⟨#[115,104,97,112,108,101,121]⟩:aB),gY (kR n l)]);rw[<-e4]at L9;have s4:X9.length<=8:=by rw[e4];simp only[List.length_append,List.length_cons,List.length_nil];omega
  have G:=K9.cell;go_wp2_with fail;clear G;refine aV (tP n l _ _ (z.below B9 aU) hl) ?_;intro t8 a8;have i1:=B9.after a8 B9.size;have j5:=K9.keep a8;have k2:=L9.keep a8;clear B9 K9 L9;clear a8;go_wp2_with fail;refine aV (jJ D X9 (⟨#[115,117,98,109,111,100,117,108,97,114]⟩:aB) (iW n l) _ k2 aA) ?_;rintro t9 ⟨f4,g9⟩;have S:=i1.after g9 aA;have e7:=dN j5 g9 aA;clear i1 j5 k2 g9;obtain⟨g0,F⟩:=aW (X9++fX (iW n l) (⟨#[115,117,98,109,111,100,117,108,97,114]⟩:aB));rw[<-F]at f4;have q9:g0.length<=9:=by rw[F];rw[bN];have:=eK (iW n l) (⟨#[115,117,98,109,111,100,117,108,97,114]⟩:aB);omega
  have G:=e7.cell;go_wp2_with fail;clear G;refine aV (ao9 n l _ _ (z.below S aU) hl) ?_;intro u0 a9;have i6:=S.after a9 S.size;have j6:=e7.keep a9;have k3:=f4.keep a9;clear S e7 f4;clear a9;go_wp2_with fail;refine aV (jJ D g0 (⟨#[115,117,112,101,114,109,111,100,117,108,97,114]⟩:aB) (wP n l) _ k3 aA) ?_;rintro u1 ⟨f5,h0⟩;have Y:=i6.after h0 aA;have e8:=dN j6 h0 aA;clear i6 j6 k3 h0;obtain⟨g2,I⟩:=aW (g0++fX (wP n l) (⟨#[115,117,112,101,114,109,111,100,117,108,97,114]⟩:aB));rw[<-I]at f5;have r0:g2.length<=10:=by rw[I];rw[bN];have:=eK (wP n l) (⟨#[115,117,112,101,114,109,111,100,117,108,97,114]⟩:aB);omega
  have G:=e8.cell;go_wp2_with fail;clear G;refine aV (ZA n l _ _ (z.below Y aU)) ?_;intro u2 b0;have i7:=Y.after b0 Y.size;have j7:=e8.keep b0;have k4:=f5.keep b0;clear Y e8 f5;clear b0;go_wp2_with fail;refine aV (jJ D g2 (⟨#[105,110,99,114,101,97,115,105,110,103]⟩:aB) (rG n l) _ k4 aA) ?_;rintro u3 ⟨f6,h5⟩;have Z:=i7.after h5 aA;have e9:=dN j7 h5 aA;clear i7 j7 k4 h5;obtain⟨g4,J⟩:=aW (g2++fX (rG n l) (⟨#[105,110,99,114,101,97,115,105,110,103]⟩:aB));rw[<-J]at f6;have r1:g4.length<=11:=by rw[J];rw[bN];have:=eK (rG n l) (⟨#[105,110,99,114,101,97,115,105,110,103]⟩:aB);omega
  have G:=e9.cell;go_wp2_with fail;clear G;refine aV (A8 n l _ _ (z.below Z aU)) ?_;intro u4 c5;have i8:=Z.after c5 Z.size;have j8:=e9.keep c5;have k5:=f6.keep c5;clear Z e9 f6;clear c5;go_wp2_with fail;refine aV (jJ D g4 (⟨#[103,114,111,117,110,100,101,100]⟩:aB) (gP n l) _ k5 aA) ?_;rintro u5 ⟨f7,h6⟩;have a1:=i8.after h6 aA;have f0:=dN j8 h6 aA;clear i8 j8 k5 h6;obtain⟨g5,M⟩:=aW (g4++fX (gP n l) (⟨#[103,114,111,117,110,100,101,100]⟩:aB));rw[<-M]at f7;have r2:g5.length<=12:=by rw[M];rw[bN];have:=eK (gP n l) (⟨#[103,114,111,117,110,100,101,100]⟩:aB);omega
  have G:=f0.cell;go_wp2_with fail;clear G;refine aV (aa7 n l _ _ (z.below a1 aU) hl) ?_;intro u6 c6;have j0:=a1.after c6 a1.size;have j9:=f0.keep c6;have k6:=f7.keep c6;clear a1 f0 f7;clear c6;go_wp2_with fail;refine aV (jJ D g5 (⟨#[115,121,109,109,101,116,114,105,99]⟩:aB) (uG n l) _ k6 aA) ?_;rintro u7 ⟨f8,h7⟩;have a6:=j0.after h7 aA;have f2:=dN j9 h7 aA;clear j0 j9 k6 h7;obtain⟨g6,N⟩:=aW (g5++fX (uG n l) (⟨#[115,121,109,109,101,116,114,105,99]⟩:aB));rw[<-N]at f8;have r3:g6.length<=13:=by rw[N];rw[bN];have:=eK (uG n l) (⟨#[115,121,109,109,101,116,114,105,99]⟩:aB);omega
  have G:=f2.cell;go_wp2_with fail;clear G;refine aV (yD n l _ _ (z.below a6 aU) hl) ?_;intro u8 c7;have j2:=a6.after c7 a6.size;have k0:=f2.keep c7;have k7:=f8.keep c7;clear a6 f2 f8;clear c7;go_wp2_with fail;refine aV (jJ D g6 (⟨#[112,111,108,121,109,97,116,114,111,105,100]⟩:aB) (gU n l) _ k7 aA) ?_;rintro u9 ⟨f9,h8⟩;have a7:=j2.after h8 aA;have f3:=dN k0 h8 aA;clear j2 k0 k7 h8;obtain⟨g7,O⟩:=aW (g6++fX (gU n l) (⟨#[112,111,108,121,109,97,116,114,111,105,100]⟩:aB));rw[<-O]at f9;have r4:g7.length<=14:=by rw[O];rw[bN];have:=eK (gU n l) (⟨#[112,111,108,121,109,97,116,114,111,105,100]⟩:aB);omega
  have G:=f3.cell;go_wp2_with fail;clear G;refine aV (pQ n l _ _ (z.below a7 aU) hl) ?_;intro v6 c8;have j3:=a7.after c8 a7.size;have k1:=f3.keep c8;have k8:=f9.keep c8;clear a7 f3 f9;clear c8;go_wp2_with fail;refine aV (jJ D g7 (⟨#[109,97,116,114,111,105,100]⟩:aB) (eX n l) _ k8 aA) ?_;rintro v7 ⟨k9,h9⟩;have j4:=j3.after h9 aA;have r9:=dN k1 h9 aA;clear j3 k1 k8 h9;obtain⟨g8,R⟩:=aW (g7++fX (eX n l) (⟨#[109,97,116,114,111,105,100]⟩:aB));rw[<-R]at k9;have r5:g8.length<=15:=by rw[R];rw[bN];have:=eK (eX n l) (⟨#[109,97,116,114,111,105,100]⟩:aB);omega
  have hT:dL fY g8=sL n l:=by rw[HX.out,R,O,N,M,J,I,F,e4,e0,d0,c9];rfl
  have hz:=QH n l rM rS;rw[<-hT]at hz;have HT:=aT hT;clear hT c9 d0 e0 e4 F I J M N O R;obtain⟨lv,KL,oL⟩:=k9;have G:=KL.cell;have zL:=KL.lt;go_wp2_with fail;clear G;refine aV (fG (D+1) lv g8 _ oL aA aA) ?_;intro wz bz;go_wp2;go_ret;exact⟨dA HT.out,j4.after bz j4.size⟩
theorem ak5{p:Prop}(h:p:=by
  clear z;go_wp2_with (go_at_call 214;refine aV (b7.out _) ?_;rintro w3 rfl);go_round
  .exact⟨t+1,aA,cD,by rw[a1.out]⟩
  exact aY):p:=h
theorem ag9(N:Nat)(v:Value)(l:aI)(hv:Ints w v l)(hf:cS N l=true):
  aH 271 #[aM #[(N:Int),v],(N:Int)] w (aS #[(l.getD (nW l l.length) 0),aO (nW l l.length:Int),aG true]):=by
 have d0:=hv;obtain⟨a,b,f6,c,rfl,e7,b0,hc,hb⟩:=hv.vw;have J:∀s,s<l.length->dG s<=N/\l.length<=32/\0<l.length:=by intro s hs;obtain⟨N',hN,h5,c6,F,_⟩:=eJ hf;have hN:=Int.ofNat.inj hN;subst hN;exact⟨arL N aA s aA aA,F,aA⟩
 have F:l.length<=32/\0<l.length:=by obtain⟨N',hN,h5,c6,F,_⟩:=eJ hf;have:=dJ N';exact⟨F,aA⟩
 have b6:=aT J;have a9:fN (N:Int) 0 (N:Int)=true:=by unfold fN;simp
 have K0:=bK.new w 27 #[(N:Int),aD a l c];have b5:=aT a9;have M:=aT (fO (N:Int) l _ (w.alloc (.cells #[(N:Int),aD a l c] 27)) (d0.alloc _));rw[hf]at M;have HC:=aT hc;have R:=aT b0;clear hf a9 J hc b0;go_enter func271,ntmps271;go_wp2_with fail;refine aV M.out ?_;intro w1 a6;have B1:Below w w w1:=(cQ _ _).after a6 bF;have K1:=K0.keep a6;have G:=K1.cell;have z1:=K1.lt;have a7:=bY HC.out hb B1 aU;have O:=aT a7;clear a7 M;go_wp2_with (go_at_call 144;refine aV (kD _ _ _ _) ?_;rintro w3 rfl;rw[b5.out]);go_loop [7,23] (fun b8 i=>∃t:Nat,t<=l/\i=aO t/\b8=aO (nW l t:Int)) (fun _ i=>l.length-(intOf i).toNat)
 .exact⟨0,aZ _,rfl,rfl⟩
 obtain⟨t,ht,rfl,rfl⟩:=hrel;by_cases hlt:t<l
 .have b1:(t:Int)<(l.length:Int):=aA
  have D:nW l t<l.length:=by
   rcases Nat.eq_zero_or_pos t with rfl|h
   .exact hlt
   .have:=M8 l t h;omega
  have z:=VI l t;have S:=fun W:World=>jF t W aA;have c8:(dG t:Int)<=(N:Int):=by have:=(b6.out t hlt).1;omega
  have b9:=O.out t hlt;have f5:=fun W=>R.out W t hlt;have I:=O.out _ D;have Z:=fun W=>R.out W _ D;rw[cJ l t hlt,cJ l _ D]at z;obtain⟨q,K⟩:=aW (nW l t);simp only[<-K]at z I Z D;rw[<-K];obtain⟨x,hx⟩:=aW (l[t]);obtain⟨y,Y⟩:=aW (l[q]);rw[<-hx,<-Y]at z;rw[<-hx]at b9;rw[<-Y]at I;obtain⟨p,hp⟩:∃p:Nat,p=dG t:=⟨_,rfl⟩;rw[<-hp]at c8;simp only[<-hp]at S;have b7:=aT S;clear S K hx Y hp;by_cases a8:y<x
  .rw[if_pos a8]at z;have a1:=aT z;exact ak5
  .rw[if_neg a8]at z;have a1:=aT z;exact ak5
 .have b1:¬(t:Int)<(l.length:Int):=aA;have c9:t=l.length:=aA;subst c9;have D:=M8 l l.length aA;have I:=O.out _ D;have Z:=fun W=>R.out W _ D;have hg:=cJ l _ D;obtain⟨q,K⟩:=aW (nW l l.length);simp only[<-K]at I Z D hg;rw[<-K];rw[<-hg]at I;obtain⟨y,Y⟩:=aW (l.getD q 0);rw[<-Y]at I;have HY:=aT Y;have HQ:=aT K;clear hg Y K;go_wp2;go_ret3;exact⟨by have h1:=HQ.out;have h2:=HY.out;subst h1;rw[cJ l _ D]at h2;subst h2;rfl,B1⟩
theorem auN(M:Ints w v l):
  aH 194 #[aM #[n,v]] w (aS #[(BE n l),(EJ n l),aG (cS n l)]):=by
 have O:=M;obtain⟨a,c,rfl⟩:=M.shape;go_enter func194,ntmps194;go_wp2_with fail;refine cZ ?_;intro V J;have B:Below w w V:=jP J;have K:bK V w 27 #[n,aD a l c]:=jV J;clear J;refine aV (fO n l _ V (M.below B aU)) ?_;intro w1 R;have K:=K.keep R;have B:=B.after R B.size;have G:=K.cell;have z:=K.lt
 cases D:cS n l with
 |false=>
  have I:BE n l=0/\EJ n l=0:=by unfold BE EJ;rw[D];exact⟨rfl,rfl⟩
  have F:=aT (And.intro I D);clear I D;go_wp2;go_ret3;exact⟨by rw[F.out.1.1,F.out.1.2,F.out.2];rfl,B⟩
 |true=>
  have I:BE n l=l.getD (nW l l.length) 0/\EJ n l=(nW l l.length:Int):=by unfold BE EJ;rw[D];exact⟨rfl,rfl⟩
  obtain⟨N,rfl,-⟩:=eJ D;have S:=aT (ag9 w1 N _ l (O.below B aU) D);have F:=aT (And.intro I D);clear I D;go_wp2_with fail;refine aV S.out ?_;intro Y b2;go_wp2;go_ret3;exact⟨by rw[F.out.1.1,F.out.1.2,F.out.2];rfl,B.after b2 B.size⟩
theorem agT(N:Nat)(v:Value)(l:aI)(hv:Ints w v l)(O:cS N l=true)(s:Nat)(R:s<l):
  aH 198 #[aM #[(N:Int),v],(s:Int)] w (l.getD s 0):=by
 have S:=hv;obtain⟨a,b,b5,c,rfl,a8,J,hc,hb⟩:=hv.vw;have z:gL N (s:Int)=true/\N<=5:=by obtain⟨N',M,h5,b4,a7,_⟩:=eJ O;have M:=Int.ofNat.inj M;subst M;refine⟨?_,h5⟩;have:((2^N:Nat):Int)=(2:Int)^N:=bF;unfold gL;simp only[Bool.and_eq_true,decide_eq_true_eq];omega
 have K:=aT z.1;have h5:=z.2;have D:=aT (fO (N:Int) l _ (w.alloc (.cells #[(N:Int),aD a l c] 27)) (S.alloc _));rw[O]at D;have K0:=bK.new w 27 #[(N:Int),aD a l c];have HC:=aT hc;have I:=cJ l s R;have ik:=fun W=>J W s R;obtain⟨x,Y⟩:=aW (l.getD s 0);rw[<-Y];clear O z hc J;go_enter func198,ntmps198;go_wp2_with fail;refine aV D.out ?_;intro w1 F;have Z:Below w w w1:=(cQ _ _).after F bF;have K1:=K0.keep F;have G:=K1.cell;have z1:=K1.lt;have ck:=bY HC.out hb Z aU s R;rw[<-I,<-Y]at ck;clear D I Y;go_wp2_with (go_at_call 273;refine aV (uO N _ _ aA) ?_;rintro w3 rfl;rw[K.out]);go_ret;exact⟨rfl,Z⟩
theorem auD(hv:Ints w v l):
  aH 195 #[aM #[n,v]] w (aS #[(D7 n l),aG (cS n l)]):=by
 have e4:=hv;obtain⟨a,b,e5,c,rfl,j0,c5,hc,hb⟩:=hv.vw;have HC:=aT hc;have b7:=aT c5;clear hc c5;go_enter func195,ntmps195;go_wp2_with fail;refine cZ ?_;intro V hV;have B:Below w w V:=jP hV;have K:bK V w 27 #[n,aD a l c]:=jV hV;clear hV;refine aV (fO n l _ V (hv.below B aU)) ?_;intro w1 b1;have K:=K.keep b1;have B:=B.after b1 B.size;have G:=K.cell;have z:=K.lt
 cases hf:cS n l with
 |false=>
  have Y:D7 n l=0:=by unfold D7;rw[hf];rfl
  have HX:=aT (And.intro Y hf);clear Y hf;go_wp2;go_ret2;exact⟨by rw[HX.out.1,HX.out.2];rfl,B⟩
 |true=>
  obtain⟨N,rfl,h5,c6,i8,c7⟩:=eJ hf;have Y:D7 N l=(lB l N N:Int):=by unfold D7;rw[hf,if_pos rfl,cA]
  have a6:=vA (N:Int) (aD a l c) l w1 (e4.below B aU) aA aA;rw[cA,show((2:Int)^N-1)=((lM N 0 0:Nat):Int) by rw[YF];have:((2^N:Nat):Int)=(2:Int)^N:=bF;have:=dJ N;omega]at a6;have f0:=aT a6;have HX:=aT (And.intro Y hf);have S:=aT c6;have a1:=aT c7;clear Y hf a6 c6 c7;go_wp2_with fail;refine aV f0.out ?_;intro w2 b2;have K:=K.keep b2;have B:=B.after b2 B.size;clear G z;have G:=K.cell;have z:=K.lt;go_wp2_with fail;go_loopw [4,5,15] (fun av bv i wr=>∃e:Nat,e<=N/\i=aO e/\av=aO (lB l N e:Int)/\bv=aO (lM N (lB l N e) e:Int)/\Below w2 w2 wr) (fun _ _ i _=>N-(intOf i).toNat)
  .exact⟨0,aZ _,rfl,rfl,rfl,bJ _ _⟩
  obtain⟨e,he,rfl,rfl,rfl,Z⟩:=hrel;obtain⟨wo,rfl⟩:∃z:World,z=wr:=⟨_,rfl⟩;by_cases hlt:e<N
  .have c8:(e:Int)<(N:Int):=aA;have Bw:=B.after Z B.size;have Kw:=K.keep Z;have b4:=MZ l N h5 e he;have g6:(2:Nat)^e<=32:=bQ (n:=2) (j:=5) bZ aA;have g5:(2:Nat)^N<=32:=bQ (n:=2) (j:=5) bZ aA;have D:=UQ l N e;obtain⟨x,Y⟩:=aW (lB l N e);rw[<-Y]at b4 D |-;obtain⟨⟨f1,f2⟩,⟨f3,f4⟩,⟨f5,f6⟩,f7,f8⟩:=OS N aA e hlt x aA b4;have d0:=iU x e aA aA;have c9:=aqA (lM N x e) e aA aA;rw[f2]at c9 D;rw[f1]at d0 D;have b0:=fun(W:World) (h:Ints W (aD a l c) l)=>IX (N:Int) l _ x e W h aA (by have:=S.out;omega) aA (by rw[f1];have:=S.out;omega) a1.out;have a7:=AJ a1.out (lM N x (e+1));have a8:=AJ a1.out (lM N x e);have F:lM N x (e+1)<l.length:=by have:=S.out;omega
   have I:lM N x e<l.length:=by have:=S.out;omega
   have M:=bY HC.out hb Bw aU _ F;have O:=bY HC.out hb Bw aU _ I;have g9:=fun W=>b7.out W _ F;have h0:=fun W=>b7.out W _ I;rw[<-cJ l _ F]at M;rw[<-cJ l _ I]at O;have H3:=aT f3;obtain⟨y,hy⟩:=aW (lM N x e);obtain⟨z',b6⟩:∃z',z'=lM N x (e+1):=⟨_,rfl⟩;obtain⟨x',b3⟩:∃x',x'=x+2^e:=⟨_,rfl⟩;simp only[<-hy,<-b6]at c9 a7 a8 M O g9 h0 D;rw[<-b3]at d0 D;rw[<-hy];have HY:=aT hy;have HZ:=aT b6;have f9:=aT b3;obtain⟨p,hp⟩:=aW (l.getD z' 0);obtain⟨q,hq⟩:=aW (l.getD y 0);obtain⟨g,hg⟩:=aW (fW l x e);rw[<-hp]at a7 M D;rw[<-hq]at a8 O D;rw[<-hg]at D;simp only[<-hg]at b0;have l1:IntKind.i64.wrap (p-q)=p-q:=dV;have R:=dW e 6 aA;have k9:(2:Int)^e<=64:=by simpa using R.1
   have l0:=R.2;have k8:(0:Int)<=(e:Int):=Int.natCast_nonneg _;have e0:∀y:Ext wo,y.w.cell? ⟨w,0,none⟩=some (aO (N:Int)):=fun y=>y.cell (Kw.cell 0);have e1:∀y:Ext wo,y.w.cell? ⟨w,1,none⟩=some (aD a l c):=fun y=>y.cell (Kw.cell 1);have e2:∀y:Ext wo,y.w.cell? ⟨b,e5+z',none⟩=some (aO p):=fun y=>y.cell M;have e3:∀z:Ext wo,z.w.cell? ⟨b,e5+y,none⟩=some (aO q):=fun z=>z.cell O;have g8:=e4.below Bw aU;have HG:=aT (fun y:Ext wo=>b0 y.w (y.ints g8));clear Y f1 f2 f3 f4 f5 f6 f7 f8 b4 g6 g5 hy b6 b3 hp hq hg b0 F I R M O a7 a8 G z;by_cases b9:p-q<=g
   .rw[if_pos b9]at D;have J:=aT D;clear D;go_wp2_with fail;refine cW _ bM bM ?_
    repeat(first|go_big_quiet_skip|(go_big_quiet_want;go_big_quiet_op;first|go_big_quiet_on|(apply Exists.intro;refine⟨fun _=>?_,?_⟩;(go_at_call 266;exact dI (HG.out _));go_big_quiet_on)))
    refine wpQuiet_nil ?_;rintro w5 ⟨⟨w5,b5⟩,rfl⟩
    try dsimp only
    go_wp2;go_roundw
    .exact⟨e+1,aA,cD,by rw[J.out],by rw[J.out,f9.out,H3.out,HY.out],Z.after b5 Z.size⟩
    exact aY
   .rw[if_neg b9]at D;have J:=aT D;clear D;go_wp2_with fail;refine cW _ bM bM ?_
    repeat(first|go_big_quiet_skip|(go_big_quiet_want;go_big_quiet_op;first|go_big_quiet_on|(apply Exists.intro;refine⟨fun _=>?_,?_⟩;(go_at_call 266;exact dI (HG.out _));go_big_quiet_on)))
    refine wpQuiet_nil ?_;rintro w5 ⟨⟨w5,b5⟩,rfl⟩
    try dsimp only
    go_wp2;go_roundw
    .exact⟨e+1,aA,cD,by rw[J.out],by rw[J.out,HZ.out],Z.after b5 Z.size⟩
    exact aY
  .have c8:¬(e:Int)<(N:Int):=aA;have hE:e=N:=aA;subst hE;go_wp2;go_ret2;exact⟨by rw[HX.out.1,HX.out.2];rfl,B.after Z B.size⟩
theorem ahE{w:World}{cs:Array Value}{T:TypeId}{n i:Nat}{u:Value}(z:w.heap.size=n)(h:cs[i]?=some u):(w.alloc (.cells cs T)).cell? ⟨n,i,none⟩=some u:=by
 subst z;exact cR w cs T i u h
theorem amL(hv:Ints w v l)(hl:l.length<=1048576)(hp:lA w):
  aH 134 #[aM #[n,v]] w (aR (BS n l)):=by
 have a8:=hv;obtain⟨a,c,rfl⟩:=hv.shape;have K0:=bK.new w 27 #[n,aD a l c]
 cases hf:cS n l with
 |false=>have HX:=aT (UH hf);have HF:=aT hf;clear hf;go_enter func134,ntmps134;go_wp2_with fail;refine aV (fO n l _ _ (a8.alloc _)) ?_;intro w1 b1;rw[HF.out];go_wp2;go_ret;exact⟨dA HX.out.symm,(cQ _ _).after b1 bF⟩
 |true=>
  obtain⟨TT,j3⟩:=aW (BS n l);have o5:(∀x∈sG n l,fM x)->TT.size<=10700:=by rw[j3,DT hf];exact PQ hf
  have hx:dL fY (xlL n l)=TT:=by rw[j3,DT hf];exact auU n l
  unfold xlL xlA at hx;have x9:=ZS hf;have y0:=Z4 hf;have x4:=YG hf;have x0:=YC n l;have x5:=SQ n l;have s1:0<l.length:=by obtain⟨N,_,_,h2,_⟩:=eJ hf;have:=dJ N;omega
  have s0:zQ n l=gR l:=by unfold zQ;rw[hf];rfl
  have r9:D7 n l=(lB l n.toNat n.toNat:Int):=by unfold D7;rw[hf];rfl
  have k7:lB l n.toNat n.toNat<l.length:=by obtain⟨N,rfl,h5,h2,_⟩:=eJ hf;rw[cA,h2];exact MZ l N h5 N aU
  have x6:P5 n l=l.getD (lB l n.toNat n.toNat) 0:=rfl;have e7:∀(W:World),Ints W (aD a l c) l->Calls prog 198 #[aM #[n,aD a l c],aO (lB l n.toNat n.toNat:Int)] W fun e w'=>e=aQ (P5 n l)/\Below W W w':=by intro W hW;obtain⟨N,hn,-⟩:=eJ hf;subst hn;exact agT W N _ l hW hf _ k7
  have j7:=fun(W:World) (h:Ints W (aD a l c) l)=>DK W n _ l h;have j9:=fun(W:World) (h:Ints W (aD a l c) l)=>EG W n _ l h;have j8:=fun(W:World) (h:Ints W (aD a l c) l)=>auN W n _ l h;have j5:=fun(W:World) (h:Ints W (aD a l c) l)=>auD W n _ l h;have j6:=fun(W:World) (h:Ints W (aD a l c) l)=>KQ W n _ l h hl;have j4:=fun(W:World) (h:Ints W (aD a l c) l)=>VE W n _ l h hl;simp only[hf,s0]at j7;simp only[hf]at j9 j8;simp only[hf,r9]at j5;obtain⟨bD,o4⟩:=aW (zG n l);obtain⟨bC,o3⟩:=aW (jQ n l);rw[<-o4,<-o3]at hx;simp only[<-o4]at j6;simp only[<-o3]at j4;obtain⟨d,hd⟩:=aW (lB l n.toNat n.toNat);simp only[<-hd]at j5 e7;obtain⟨N1,i8⟩:=aW (gR l);obtain⟨N2,j0⟩:=aW (BE n l);obtain⟨N3,j1⟩:=aW (P5 n l);obtain⟨N4,j2⟩:=aW (mA n l);obtain⟨S2,o1⟩:=aW (EJ n l);obtain⟨S4,o2⟩:=aW (nU n l);obtain⟨Z,hZ⟩:=aW (sJ n l);obtain⟨D,hD⟩:=aW (sG n l);rw[<-i8,<-j0,<-j1,<-j2,<-o1,<-o2,<-hZ,<-hD]at hx;simp only[<-i8]at j7;simp only[<-hZ]at j9;simp only[<-j0,<-o1]at j8;simp only[<-j1]at e7;simp only[<-hD]at j6;simp only[<-j2,<-o2]at j4;rw[<-i8]at x9;rw[<-j0]at y0;rw[<-j1]at x4;rw[<-j2]at x0;rw[<-hD]at x5 o5;have g8:=aT j3;have HX:=aT hx;have v7:=aT o5;have HF:=aT hf;have q7:=aT e7;have u8:=aT j7;have v6:=aT j9;have u9:=aT j8;have u4:=aT j5;have u5:=aT j6;have q6:=aT j4;clear hx hf j3 o5 e7 j7 j9 j8 j5 j6 j4 o4 o3 hd i8 j0 j1 j2 o1 o2 hZ hD s0 r9 x6 k7 s1;go_enter func134,ntmps134;go_wp2_with fail;refine aV (fO n l _ _ (a8.alloc _)) ?_;intro w1 b1;rw[HF.out];have B1:Below w w w1:=(cQ _ _).after b1 bF;have K1:=K0.keep b1;clear K0 b1;have G:=K1.cell;have z:=K1.lt;go_wp2_with fail;refine aV (u8.out _ (a8.below B1 aU)) ?_;intro w2 b2;have B2:=B1.after b2 B1.size;have K2:=K1.keep b2;clear B1 K1 G z b2;have G:=K2.cell;have z:=K2.lt;go_wp2_with fail;refine(v6.out _ (a8.below B2 aU)).mono ?_;rintro e w3 ⟨pZ,iZ,qZ,rfl,oZ,b3⟩;have x8:iZ=Z.length:=oZ.ints.capLe.1;subst x8;have r7:=oZ.ints;have B3:=B2.after b3 B2.size;have K3:=K2.keep b3;clear B2 K2 G z b3 oZ;have G:=K3.cell;have z:=K3.lt;go_wp2_with fail;refine aV (u9.out _ (a8.below B3 aU)) ?_;intro w4 b4;have r8:=r7.keep b4;have B4:=B3.after b4 B3.size;have K4:=K3.keep b4;clear B3 K3 G z b4 r7;have G:=K4.cell;have z:=K4.lt;go_wp2_with fail;refine aV (u4.out _ (a8.below B4 aU)) ?_;intro w5 b5;have hZ:=r8.keep b5;have B5:=B4.after b5 B4.size;have K2:=K4.keep b5;clear B4 K4 G z b5 r8;obtain⟨bo,e9⟩:=aW w5.heap.size;have zb:w.heap.size<bo:=by rw[e9];exact K2.lt
  have zc:w5.heap.size<=bo:=aA;have L3:kE bo (w5.alloc (.cells #[()] 143)) []:=by rw[e9];exact kE.new w5
  have B3:=B5.alloc B5.size (.cells #[()] 143);have C3:Below bo w5 (w5.alloc (.cells #[()] 143)):=by rw[e9];exact cQ w5 _
  have u6:=aT (show(w5.alloc (.cells #[()] 143)).heap.size=bo+1 by rw[e9];simp);go_wp2_with fail;rw[<-e9];clear e9 B5;have s3:=L3.lt;refine aV (fH bo [] [(⟨#[101,120,116,114,101,109,101]⟩:aB)] (bo+1) 1 1 _ (L3.keep (cQ _ _)) rfl (D2 (ahE u6.out rfl)) (by simp only[List.length_cons,List.length_nil];omega)) ?_;rintro w11 ⟨m3,r0⟩;have l1:=(B3.alloc B3.size _).after r0 aA;have p9:=(C3.alloc (cM s3) _).after r0 aU;clear B3 C3 L3;obtain⟨m8,F⟩:=aW ([]++[(⟨#[101,120,116,114,101,109,101]⟩:aB)]);rw[<-F]at m3;have z8:m8.length<=1:=by rw[F,bN];exact xB
  go_wp2_with fail;refine aV (gX bo m8 (⟨#[109,105,110,105,109,117,109]⟩:aB) (N1) ⟨aA,aA⟩ _ m3 (hp.keep l1) aA) ?_;rintro w12 ⟨g9,r1⟩;have g4:=l1.after r1 aA;have l6:=p9.after r1 aU;clear l1 p9 m3;obtain⟨m9,I⟩:=aW (m8++[(⟨#[109,105,110,105,109,117,109]⟩:aB),dB (N1)]);rw[<-I]at g9;have z9:m9.length<=3:=by rw[I,bN];exact xB
  go_wp2_with fail;refine aV (lU n Z _ _ (hZ.below l6 zc) (hp.keep g4)) ?_;intro y2 h8;have l2:=g4.after h8 g4.size;have q0:=l6.after h8 (cM g9.lt);have m4:=g9.keep h8;clear g4 l6 g9 h8;go_wp2_with fail;have s4:=m4.lt;refine aV (fH bo m9 [(⟨#[115,101,116,115]⟩:aB),eG n Z] y2.heap.size 2 2 _ (m4.keep (cQ _ _)) rfl (jC (cR _ _ _ _ _ rfl) (cR _ _ _ _ _ rfl)) (by simp only[List.length_cons,List.length_nil];omega)) ?_;rintro w14 ⟨m5,r2⟩;have l3:=(l2.alloc l2.size _).after r2 aA;have q1:=(q0.alloc (cM s4) _).after r2 aU;clear l2 q0 m4;obtain⟨n0,J⟩:=aW (m9++[(⟨#[115,101,116,115]⟩:aB),eG n Z]);rw[<-J]at m5;have hN14:n0.length<=5:=by rw[J,bN];exact xB
  go_wp2_with fail;refine aV (gX bo n0 (⟨#[109,97,120,105,109,117,109]⟩:aB) (N2) ⟨aA,aA⟩ _ m5 (hp.keep l3) aA) ?_;rintro w15 ⟨h0,r3⟩;have g5:=l3.after r3 aA;have q2:=q1.after r3 aU;clear l3 q1 m5;obtain⟨n1,K⟩:=aW (n0++[(⟨#[109,97,120,105,109,117,109]⟩:aB),dB (N2)]);rw[<-K]at h0;have hN15:n1.length<=7:=by rw[K,bN];exact xB
  go_wp2_with fail;refine aV (iY n S2 _ (hp.keep g5)) ?_;intro y3 h9;have l4:=g5.after h9 g5.size;have q3:=q2.after h9 (cM h0.lt);have m6:=h0.keep h9;clear g5 q2 h0 h9;go_wp2_with fail;have s5:=m6.lt;refine aV (fH bo n1 [(⟨#[115,101,116]⟩:aB),dH n S2] y3.heap.size 2 2 _ (m6.keep (cQ _ _)) rfl (jC (cR _ _ _ _ _ rfl) (cR _ _ _ _ _ rfl)) (by simp only[List.length_cons,List.length_nil];omega)) ?_;rintro w17 ⟨h6,r4⟩;have g6:=(l4.alloc l4.size _).after r4 aA;have l7:=(q3.alloc (cM s5) _).after r4 aU;clear l4 q3 m6;obtain⟨n2,M⟩:=aW (n1++[(⟨#[115,101,116]⟩:aB),dH n S2]);rw[<-M]at h6;have hN17:n2.length<=9:=by rw[M,bN];exact xB
  have G:=(dN K2 l7 zb).cell;go_wp2_with fail;clear G;refine aV (q7.out _ (a8.below g6 aU)) ?_;intro w18 i1;have l5:=g6.after i1 g6.size;have q4:=l7.after i1 (cM h6.lt);have q8:=h6.keep i1;clear g6 l7 h6 i1;go_wp2_with fail;refine aV (gX bo n2 (⟨#[100,111,117,98,108,101]⟩:aB) (N3) ⟨aA,aA⟩ _ q8 (hp.keep l5) aA) ?_;rintro w19 ⟨h7,r5⟩;have g7:=l5.after r5 aA;have l8:=q4.after r5 aU;clear l5 q4 q8;obtain⟨d0,O⟩:=aW (n2++[(⟨#[100,111,117,98,108,101]⟩:aB),dB (N3)]);rw[<-O]at h7;have hN19:d0.length<=11:=by rw[O,bN];exact xB
  have G:=(dN K2 l8 zb).cell;go_wp2_with fail;clear G;refine(u5.out _ (a8.below g7 aU)).mono ?_;rintro e w20 ⟨pD,iD,qD,rfl,oD,i6⟩;have c9:=g7.after i6 g7.size;have f3:=l8.after i6 (cM h7.lt);have f4:=h7.keep i6;clear g7 l8 h7 i6;have x7:iD=D.length:=oD.ints.capLe.1;subst x7;have k0:=v7.out oD.ints.inR;have o0:=oD.ints;clear oD
  cases bD with
  |false=>
   clear o0;have G:=(dN K2 f3 zb).cell;go_wp2_with fail;clear G;refine aV (q6.out _ (a8.below c9 aU)) ?_;intro y4 e0;have a6:=c9.after e0 c9.size;have e8:=f3.after e0 (cM f4.lt);have c8:=f4.keep e0;clear c9 f3 f4 e0
   cases bC with
   |false=>
    have hT:dL fY d0=TT:=by rw[O,M,K,J,I,F];exact HX.out
    have hz:=k0;rw[<-hT]at hz;have HT:=aT hT;clear hT F I J K M O;obtain⟨lv,KL,oL⟩:=c8;have G:=KL.cell;go_wp2_with fail;clear G;refine aV (fG (bo+1) lv d0 _ oL aA aA) ?_;intro wz bz;go_wp2;go_ret;exact⟨dA (HT.out.trans g8.out),a6.after bz a6.size⟩
   |true=>
    go_wp2_with fail;refine aV (gX bo d0 (⟨#[99,117,116]⟩:aB) (N4) ⟨aA,aA⟩ _ c8 (hp.keep a6) aA) ?_;rintro w102 ⟨e6,k5⟩;have e5:=a6.after k5 aA;have k3:=e8.after k5 aU;clear a6 e8 c8;obtain⟨f5,b8⟩:=aW (d0++[(⟨#[99,117,116]⟩:aB),dB (N4)]);rw[<-b8]at e6;have w6:f5.length<=13:=by rw[b8,bN];exact xB
    go_wp2_with fail;refine aV (iY n S4 _ (hp.keep e5)) ?_;intro k8 Y;have R:=e5.after Y e5.size;have c7:=k3.after Y (cM e6.lt);have S:=e6.keep Y;clear e5 k3 e6 Y;go_wp2_with fail;have o9:=S.lt;refine aV (fH bo f5 [(⟨#[111,102]⟩:aB),dH n S4] k8.heap.size 2 2 _ (S.keep (cQ _ _)) rfl (jC (cR _ _ _ _ _ rfl) (cR _ _ _ _ _ rfl)) (by simp only[List.length_cons,List.length_nil];omega)) ?_;rintro k9 ⟨b0,a1⟩;have a9:=(R.alloc R.size _).after a1 aA;have f2:=(c7.alloc (cM o9) _).after a1 aU;clear R c7 S;obtain⟨f7,c5⟩:=aW (f5++[(⟨#[111,102]⟩:aB),dH n S4]);rw[<-c5]at b0;have w8:f7.length<=15:=by rw[c5,bN];exact xB
    have hT:dL fY f7=TT:=by rw[c5,b8,O,M,K,J,I,F];exact HX.out
    have hz:=k0;rw[<-hT]at hz;have HT:=aT hT;clear hT F I J K M O b8 c5;obtain⟨lv,KL,oL⟩:=b0;have G:=KL.cell;go_wp2_with fail;clear G;refine aV (fG (bo+1) lv f7 _ oL aA aA) ?_;intro wz bz;go_wp2;go_ret;exact⟨dA (HT.out.trans g8.out),a9.after bz a9.size⟩
  |true=>
   go_wp2_with fail;refine aV (nK bo d0 (⟨#[100,117,97,108]⟩:aB) _ (D) _ o0 aA f4 (hp.keep c9) aA) ?_;rintro y4 ⟨c8,e0⟩;have a6:=c9.after e0 aA;have e8:=f3.after e0 aU;clear c9 f3 f4;obtain⟨f9,b6⟩:=aW (d0++[(⟨#[100,117,97,108]⟩:aB),gY (D)]);rw[<-b6]at c8;have hN61:f9.length<=13:=by rw[b6,bN];exact xB
   clear o0;have G:=(dN K2 e8 zb).cell;go_wp2_with fail;clear G;refine aV (q6.out _ (a8.below a6 aU)) ?_;intro w62 i7;have f0:=a6.after i7 a6.size;have q5:=e8.after i7 (cM c8.lt);have m7:=c8.keep i7;clear a6 e8 c8 i7
   cases bC with
   |false=>
    have hT:dL fY f9=TT:=by rw[b6,O,M,K,J,I,F];exact HX.out
    have hz:=k0;rw[<-hT]at hz;have HT:=aT hT;clear hT F I J K M O b6;obtain⟨lv,KL,oL⟩:=m7;have G:=KL.cell;go_wp2_with fail;clear G;refine aV (fG (bo+1) lv f9 _ oL aA aA) ?_;intro wz bz;go_wp2;go_ret;exact⟨dA (HT.out.trans g8.out),f0.after bz f0.size⟩
   |true=>
    go_wp2_with fail;refine aV (gX bo f9 (⟨#[99,117,116]⟩:aB) (N4) ⟨aA,aA⟩ _ m7 (hp.keep f0) aA) ?_;rintro k8 ⟨S,Y⟩;have R:=f0.after Y aA;have c7:=q5.after Y aU;clear f0 q5 m7;obtain⟨f6,b9⟩:=aW (f9++[(⟨#[99,117,116]⟩:aB),dB (N4)]);rw[<-b9]at S;have w7:f6.length<=15:=by rw[b9,bN];exact xB
    go_wp2_with fail;refine aV (iY n S4 _ (hp.keep R)) ?_;intro k9 a1;have a9:=R.after a1 R.size;have f2:=c7.after a1 (cM S.lt);have b0:=S.keep a1;clear R c7 S a1;go_wp2_with fail;have p5:=b0.lt;refine aV (fH bo f6 [(⟨#[111,102]⟩:aB),dH n S4] k9.heap.size 2 2 _ (b0.keep (cQ _ _)) rfl (jC (cR _ _ _ _ _ rfl) (cR _ _ _ _ _ rfl)) (by simp only[List.length_cons,List.length_nil];omega)) ?_;rintro w105 ⟨k4,k6⟩;have k1:=(a9.alloc a9.size _).after k6 aA;have y6:=(f2.alloc (cM p5) _).after k6 aU;clear a9 f2 b0;obtain⟨f8,c6⟩:=aW (f6++[(⟨#[111,102]⟩:aB),dH n S4]);rw[<-c6]at k4;have w9:f8.length<=17:=by rw[c6,bN];exact xB
    have hT:dL fY f8=TT:=by rw[c6,b9,b6,O,M,K,J,I,F];exact HX.out
    have hz:=k0;rw[<-hT]at hz;have HT:=aT hT;clear hT F I J K M O b6 b9 c6;obtain⟨lv,KL,oL⟩:=k4;have G:=KL.cell;go_wp2_with fail;clear G;refine aV (fG (bo+1) lv f8 _ oL aA aA) ?_;intro wz bz;go_wp2;go_ret;exact⟨dA (HT.out.trans g8.out),k1.after bz k1.size⟩
