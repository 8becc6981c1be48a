/- Lemmas for CardConsoleResults. No condition. -/
import Derived.Test.YtkdbkjjacgigiaaGreatDoorQ31
set_option maxRecDepth 100000
set_option maxHeartbeats 64000000
namespace Go.Proofs.YtkdbkjjacgigiaaGreatDoor
section
open Go.RowKit Go.G5 Go.Proofs.Tryz
theorem SW:∀s:Nat,s<8->(bG 3 s).size<=5/\(bG 2 s).size<=5:=by decide +kernel
theorem RV{n:Int}{q:List Int}(D:n=2∨n=3)(z:aU n q=true)(hl:q.length<=8):(bZ n q).size<=60:=by
 obtain⟨_,_,F,_⟩:=dB z;unfold bZ;rw[if_pos z]
 split
 ·show 4<=60;omega
 ·have h:=vS bar 5 (q.map (bG n)) (fun x I=>by
   obtain⟨y,J,rfl⟩:=List.mem_map.1 I;have h1:=F y J;obtain⟨k,rfl⟩:=Int.eq_ofNat_of_zero_le h1.1;rcases D with rfl|rfl
   ·have h2:((k:Nat):Int)<2^2:=h1.2;exact(SW k aD).2
   ·have h2:((k:Nat):Int)<2^3:=h1.2
    exact(SW k aD).1)
  have e:bar.size=1:=rfl;rw[e,List.length_map]at h;omega
theorem RZ{n:Int}{l:List Int}(z:aY n l=true)(hl:l.length<=8):(dC n l).size<=176:=by
 have h:=nF l (EL z).1;unfold dC;rw[if_pos z];omega
theorem YX(a b:ByteArray):bR ⟨#[32]⟩ [a,b]=a++(⟨#[32]⟩++b):=by
 have:=zM ⟨#[32]⟩ [a] b (by simp);rw[jD]at this;rw[<-ByteArray.append_assoc];exact this
theorem aeM(a b c:ByteArray):bR ⟨#[32]⟩ [a,b,c]=a++(⟨#[32]⟩++(b++(⟨#[32]⟩++c))):=by
 have:=zM ⟨#[32]⟩ [a,b] c (by simp);rw[YX]at this;refine this.trans ?_;simp only[ByteArray.append_assoc]
theorem ap0(a:ByteArray)(n:Int)(l:List Int)(D:iN 32 a)(F:aY n l=true)(I:(dC n l).size<=200):rB (a++(⟨#[32]⟩++dC n l))=(rR a n l).getD nU:=by
 obtain⟨h1,h2,h3⟩:=alA F I;have hc:cI 32 (a++(⟨#[32]⟩++dC n l))=[a,dC n l]:=by
  rw[<-YX];refine xQ 32 _ (by simp) (fun x z=>?_);rcases List.mem_cons.1 z with rfl|z
  ·exact D
  ·rw[List.mem_singleton]at z;subst z;exact am1.fun n l
 have h:=anV (s:=a++(⟨#[32]⟩++dC n l)) (by rw[hc];rfl);rw[h,hc];show(if nO (dC n l)=true then (rR a (vG (dC n l)) (uC (dC n l))).getD nU else nU)=_;rw[if_pos h1,h2,h3]
theorem apZ(a:ByteArray)(N:Nat)(q:List Int)(I:iN 32 a)(h1:a≠(⟨#[112,97,105,114]⟩:ByteArray))(h2:a≠(⟨#[99,111,109,109,111,110]⟩:ByteArray))(D:aU (N:Int) q=true):rB (a++(⟨#[32]⟩++(aX (N:Int)++(⟨#[32]⟩++bZ (N:Int) q))))=(rA a (N:Int) q).getD nU:=by
 obtain⟨K,M,O⟩:=ak4 D;obtain⟨R,S,_⟩:=dB D;have z:=QJ (N:Int) ⟨by omega,by omega⟩;have J:pV (aX (N:Int))=(N:Int):=by rw[OU z,zY]
 have hc:cI 32 (a++(⟨#[32]⟩++(aX (N:Int)++(⟨#[32]⟩++bZ (N:Int) q))))=[a,aX (N:Int),bZ (N:Int) q]:=by
  rw[<-aeM];refine xQ 32 _ (by simp) (fun x F=>?_);simp only[List.mem_cons,List.not_mem_nil,or_false]at F;rcases F with rfl|rfl|rfl
  ·exact I
  ·exact am1.itoa _
  ·exact am1.fam _ _
 have h:=anU (s:=a++(⟨#[32]⟩++(aX (N:Int)++(⟨#[32]⟩++bZ (N:Int) q)))) (by rw[hc];rfl) (by rw[hc];exact h1) (by rw[hc];exact h2);rw[h,hc];show(if (pB (aX (N:Int))&&pK (pV (aX (N:Int))) (bZ (N:Int) q))=true then (rA a (AW (pV (aX (N:Int))) (bZ (N:Int) q)) (yV (pV (aX (N:Int))) (bZ (N:Int) q))).getD nU else nU)=_;rw[J,z,K,M,O]
 rfl
def jH(S T:ByteArray):List ByteArray:=[(⟨#[102,117,110,99,116,105,111,110]⟩:ByteArray)++(⟨#[32]⟩++S),(⟨#[101,120,116,114,101,109,101]⟩:ByteArray)++(⟨#[32]⟩++S),(⟨#[99,108,97,105,109]⟩:ByteArray)++(⟨#[32]⟩++S),(⟨#[102,97,109,105,108,121]⟩:ByteArray)++(⟨#[32]⟩++T),(⟨#[99,111,118,101,114]⟩:ByteArray)++(⟨#[32]⟩++T),(⟨#[111,114,100,101,114]⟩:ByteArray)++(⟨#[32]⟩++T),(⟨#[104,97,108,108]⟩:ByteArray)++(⟨#[32]⟩++T)]
def E8(S T:ByteArray):ByteArray:=(⟨#[102,117,110,99,116,105,111,110,32]⟩:ByteArray)++S++⟨#[10,101,120,116,114,101,109,101,32]⟩++S++⟨#[10,99,108,97,105,109,32]⟩++S++⟨#[10,102,97,109,105,108,121,32]⟩++T++⟨#[10,99,111,118,101,114,32]⟩++T++⟨#[10,111,114,100,101,114,32]⟩++T++⟨#[10,104,97,108,108,32]⟩++T++⟨#[10]⟩
theorem ajL(S T:ByteArray):(E8 S T).data.toList=PW 10 ((jH S T).map (·.data.toList)):=by
 unfold E8 jH PW;simp[ByteArray.data_append]
theorem ad7(S T:ByteArray)(I:iN 10 S)(J:iN 10 T):yA (E8 S T)=jH S T:=by
 have D:∀x∈jH S T,iN 10 x:=by
  intro x z;unfold jH at z;simp only[List.mem_cons,List.not_mem_nil,or_false]at z;rcases z with rfl|rfl|rfl|rfl|rfl|rfl|rfl
  all_goals exact iN.app aQ (iN.app aQ (by assumption))
 have hc:cI 10 (E8 S T)=jH S T++[ByteArray.empty]:=by
  have h:=afE 10 ((jH S T).map (·.data.toList)) [] (fun x z=>by
   obtain⟨y,F,rfl⟩:=List.mem_map.1 z;exact D y F)
  rw[List.append_nil,<-ajL]at h;unfold cI;rw[h,List.map_append,List.map_map];have e:List.map (FU∘fun x=>x.data.toList) (jH S T)=jH S T:=(List.map_congr_left fun x _=>LS x).trans (List.map_id _);rw[e]
  rfl
 unfold yA;rw[hc];simp
theorem ajM(S T:ByteArray):(E8 S T).size=3*S.size+4*T.size+54:=by
 unfold E8;simp only[ByteArray.size_append];have z:((⟨#[102,117,110,99,116,105,111,110,32]⟩:ByteArray):ByteArray).size=9:=rfl;have e1:(⟨#[10,101,120,116,114,101,109,101,32]⟩:ByteArray).size=9:=rfl;have e2:(⟨#[10,99,108,97,105,109,32]⟩:ByteArray).size=7:=rfl;have e3:(⟨#[10,102,97,109,105,108,121,32]⟩:ByteArray).size=8:=rfl;have D:(⟨#[10,99,111,118,101,114,32]⟩:ByteArray).size=7:=rfl;have F:(⟨#[10,111,114,100,101,114,32]⟩:ByteArray).size=7:=rfl;have I:(⟨#[10,104,97,108,108,32]⟩:ByteArray).size=6:=rfl;have J:(⟨#[10]⟩:ByteArray).size=1:=rfl;omega
theorem qU(D:List ByteArray)(k:Nat)(x:ByteArray)(h:D.getD k ByteArray.empty=x)(z:0<x.size):fY D (k+1)=fY D k++(rB x++OO):=by
 rw[fY,h,if_neg (fun e=>by rw[e]at z;exact Nat.lt_irrefl _ z)]
def amE(F X C M V O H:ByteArray):ByteArray:=F++⟨#[10]⟩++X++⟨#[10]⟩++C++⟨#[10]⟩++M++⟨#[10]⟩++V++⟨#[10]⟩++O++⟨#[10]⟩++H++⟨#[10]⟩
theorem ao9(N:Nat)(l q:List Int)(hN:N=2∨N=3)(Y:aY (N:Int) l=true)(hg:eD (N:Int) l=true)(hl:l.length<=8)(Z:aU (N:Int) q=true)(R:q.length<=8):
  wA (E8 (dC (N:Int) l) (aX (N:Int)++⟨#[32]⟩++bZ (N:Int) q)) =
   amE (mL (N:Int) l) (wH (N:Int) l) (fR (rV (N:Int) l) (rU (N:Int) l) (tO (N:Int) l) 0 [] 0 [] (rW (N:Int) l) (rX (N:Int) l) (tN (N:Int) l)) (vO (N:Int) q) (pU (N:Int) q) (tV (N:Int) q) (UR (N:Int) q):=by
 have h1:=RZ Y hl;have h2:=RV (n:=(N:Int)) aD Z R;have h3:=cM (N:Int) ⟨by omega,by omega⟩;obtain⟨S,J⟩:=aJ (dC (N:Int) l);have hT:aX (N:Int)++⟨#[32]⟩++bZ (N:Int) q=aX (N:Int)++(⟨#[32]⟩++bZ (N:Int) q):=by rw[ByteArray.append_assoc]
 rw[hT];obtain⟨T,D⟩:=aJ (aX (N:Int)++(⟨#[32]⟩++bZ (N:Int) q));have b6:T.size<=82:=by rw[D];simp only[ByteArray.size_append];have e:(⟨#[32]⟩:ByteArray).size=1:=rfl;omega
 have M:iN 10 S:=by rw[J];exact am0.fun _ _
 have O:iN 10 T:=by rw[D];exact iN.app (am0.itoa _) (iN.app aQ (am0.fam _ _))
 have F:=fun(a:ByteArray) (K:iN 32 a)=>ap0 a (N:Int) l K Y aD;have z:=fun(a:ByteArray) (K:iN 32 a) (x:a≠(⟨#[112,97,105,114]⟩:ByteArray)) (y:a≠(⟨#[99,111,109,109,111,110]⟩:ByteArray))=>apZ a N q K x y Z;rw[<-J]at F h1;rw[<-D]at z;rw[<-J,<-D];have hL:=ad7 S T M O;have b8:=ajM S T;have a0:rB ((⟨#[102,117,110,99,116,105,111,110]⟩:ByteArray)++(⟨#[32]⟩++S))=mL (N:Int) l:=by rw[F _ aQ];unfold rR;rw[if_pos rfl];rfl
 have a1:rB ((⟨#[101,120,116,114,101,109,101]⟩:ByteArray)++(⟨#[32]⟩++S))=wH (N:Int) l:=by rw[F _ aQ];unfold rR;rw[if_neg aQ,if_pos rfl];rfl
 have a2:rB ((⟨#[99,108,97,105,109]⟩:ByteArray)++(⟨#[32]⟩++S))=fR (rV (N:Int) l) (rU (N:Int) l) (tO (N:Int) l) 0 [] 0 [] (rW (N:Int) l) (rX (N:Int) l) (tN (N:Int) l):=by rw[F _ aQ];unfold rR;rw[if_neg aQ,if_neg aQ,if_neg aQ,if_pos rfl];show cfT (N:Int) l=_;unfold cfT CU;rw[if_pos hg]
 have a3:rB ((⟨#[102,97,109,105,108,121]⟩:ByteArray)++(⟨#[32]⟩++T))=vO (N:Int) q:=by rw[z _ aQ aQ aQ];unfold rA;rw[if_pos rfl];rfl
 have a4:rB ((⟨#[99,111,118,101,114]⟩:ByteArray)++(⟨#[32]⟩++T))=pU (N:Int) q:=by rw[z _ aQ aQ aQ];unfold rA;rw[if_neg aQ,if_pos rfl];rfl
 have a5:rB ((⟨#[111,114,100,101,114]⟩:ByteArray)++(⟨#[32]⟩++T))=tV (N:Int) q:=by rw[z _ aQ aQ aQ];unfold rA;rw[if_neg aQ,if_neg aQ,if_pos rfl];rfl
 have a6:rB ((⟨#[104,97,108,108]⟩:ByteArray)++(⟨#[32]⟩++T))=UR (N:Int) q:=by rw[z _ aQ aQ aQ];unfold rA;rw[if_neg aQ,if_neg aQ,if_neg aQ,if_pos rfl];rfl
 have pos:∀(a x:ByteArray),0<a.size->0<(a++x).size:=fun a x h=>by rw[ByteArray.size_append];omega
 have I:wA (E8 S T)=fY (jH S T) 7:=by
  unfold wA;rw[hL,if_pos ⟨by omega,(by show 7<=20;omega)⟩]
  rfl
 have g0:(jH S T).getD 0 ByteArray.empty=(⟨#[102,117,110,99,116,105,111,110]⟩:ByteArray)++(⟨#[32]⟩++S):=rfl;have g1:(jH S T).getD 1 ByteArray.empty=(⟨#[101,120,116,114,101,109,101]⟩:ByteArray)++(⟨#[32]⟩++S):=rfl;have g2:(jH S T).getD 2 ByteArray.empty=(⟨#[99,108,97,105,109]⟩:ByteArray)++(⟨#[32]⟩++S):=rfl;have g3:(jH S T).getD 3 ByteArray.empty=(⟨#[102,97,109,105,108,121]⟩:ByteArray)++(⟨#[32]⟩++T):=rfl;have g4:(jH S T).getD 4 ByteArray.empty=(⟨#[99,111,118,101,114]⟩:ByteArray)++(⟨#[32]⟩++T):=rfl;have g5:(jH S T).getD 5 ByteArray.empty=(⟨#[111,114,100,101,114]⟩:ByteArray)++(⟨#[32]⟩++T):=rfl;have g6:(jH S T).getD 6 ByteArray.empty=(⟨#[104,97,108,108]⟩:ByteArray)++(⟨#[32]⟩++T):=rfl;rw[I,
  qU (jH S T) 6 _ g6 (pos _ _ aQ),qU (jH S T) 5 _ g5 (pos _ _ aQ),qU (jH S T) 4 _ g4 (pos _ _ aQ),
  qU (jH S T) 3 _ g3 (pos _ _ aQ),qU (jH S T) 2 _ g2 (pos _ _ aQ),qU (jH S T) 1 _ g1 (pos _ _ aQ),
  qU (jH S T) 0 _ g0 (pos _ _ aQ),a0,a1,a2,a3,a4,a5,a6]
 show ByteArray.empty++_++_++_++_++_++_++_=_;unfold amE OO;simp only[ByteArray.append_assoc,ByteArray.empty_append]
theorem RK(B b:Nat)(D:List Value)(s:ByteArray)(w:World)(h:Lib.IsBuilder 57 5 B b D w)(z:D.length+s.size<=140737488355328)(F:B<=w.heap.size):
  Calls prog 36 #[.pointer (some ⟨b,0,none⟩),.string s] w fun e w'=>e=.returned (.tuple #[s.size,.nilIface])/\(Lib.BuilderAt 57 5 B b (.pointer (some ⟨b,0,none⟩)) (D++Lib.strCells s) w'/\Below B w w'):=
 Any.Builder_WriteString (ρ:=xA) { FE with } qX B b D s w h z F
theorem CV{T e:TypeId}{B b:Nat}{p:Value}{I:List Value}{w w':World}(h:Lib.BuilderAt T e B b p I w)(hb:Below w w w'):Lib.BuilderAt T e B b p I w':=by
 obtain⟨hB,v,h2,h3,h4⟩:=h;have hlt:b<w.heap.size:=by
  by_cases K:b<w.heap.size
  ·exact K
  ·rw[Array.getElem?_eq_none aD]at h2;cases h2
 refine⟨hB,v,?_,?_,h4⟩
 ·rw[hb.block b hlt];exact h2
 ·obtain⟨z,h1⟩:=h3;refine⟨z,?_⟩;exact W3
theorem PF{T e:TypeId}{B b:Nat}{z:List Value}{w w':World}(h:Lib.IsBuilder T e B b z w)(hb:Below w w w'):Lib.IsBuilder T e B b z w':=
 h.elim (fun x=>.inl (CV x hb)) (fun x=>.inr (CV x hb))
theorem aeN(t:ByteArray):(uO t).size<=t.size:=by
 unfold uO Lib.trimSuffix
 split
 ·show(List.take _ _).toArray.size<=t.data.size;simp
 ·exact aI
theorem ae3(a b:ByteArray):Lib.byteCells a.data.toList++Lib.strCells b=Lib.byteCells (a++b).data.toList:=by
 unfold Lib.byteCells Lib.strCells;rw[ByteArray.data_append,Array.toList_append,List.map_append]
theorem adX(z:List ByteArray)(h:∀x∈z,(rB x).size<=200000):∀k,k<=z.length->(fY z k).size<=200001*k:=by
 intro k
 induction k with
 |zero=>intro _;exact aI
 |succ k ih=>
  intro hk;have h1:=ih aD;unfold fY
  split
  ·omega
  ·have h2:=h _ (List.getElem_mem (show k<z.length by omega));have e:z.getD k ByteArray.empty=z[k]:=IC z k aD;rw[e,ByteArray.size_append,ByteArray.size_append];have:OO.size=1:=rfl;omega
theorem ahC{p:Prop}(h:p:=by
  rintro e w3 ⟨rfl,I3,b3⟩;have K3:aP w3 w 9 (D.map Value.string).toArray:=(b3.block w.heap.size aD).trans K2;have B3:=B2.after b3 aD;have z3:=b3.size;rw[ae3]at I3;go_wp2;go_roundw
  case rel=>exact⟨k+1,by omega,by go_num,by rw[HN.out];exact .inr I3,K3,B3,by omega⟩
  case measure=>simp[intOf];omega):p:=h
theorem apA(t:ByteArray)(w:World)(hp:iY w)(hm:sE w)
  (Z:∀(W:World) (s:ByteArray),s.size<=2000->iY W->sE W->Calls prog 35 #[.string s] W fun e W'=>e=.returned (.tuple #[.string ((yN s).getD ByteArray.empty),.bool (yN s).isSome])/\Below W W W')
  (Y:∀s:ByteArray,s.size<=2000->(rB s).size<=200000):
  Calls prog 13 #[.string t] w fun e w'=>e=.returned (.string (wA t))/\Below w w w':=by
 by_cases he:t=ByteArray.empty
 ·subst he;go_enter func13,ntmps13;go_wp2;go_ret;exact⟨bJ amG.symm,Below.refl _ _⟩
 have b1:(t.toList==([]:List UInt8))=false:=by rw[show([]:List UInt8)=ByteArray.empty.toList by decide +kernel,dX,decide_eq_false he]
 by_cases h2:(2000:Int)<(t.size:Int)
 ·have hr:wA t=ByteArray.empty:=by unfold wA;rw[if_neg aD]
  go_enter func13,ntmps13;go_wp2;go_ret;exact⟨bJ hr.symm,Below.refl _ _⟩
 have c9:=adK t he;have f3:=aeN t;have e5:=DK t ⟨#[10]⟩ w aD;have a9:=DM 10 (uO t) w hm aD;have F:=xR 10 (uO t);have S:wA t=if (cI 10 (uO t)).length<=20 then fY (cI 10 (uO t)) (cI 10 (uO t)).length else ByteArray.empty:=by
  unfold wA;rw[c9];by_cases h:(cI 10 (uO t)).length<=20
  ·rw[if_pos ⟨by omega,h⟩,if_pos h]
  ·rw[if_neg (fun x=>h x.2),if_neg h]
 obtain⟨D,e4⟩:=aJ (cI 10 (uO t));rw[<-e4]at a9 F S;have F:∀x∈D,x.size<=2000:=fun x hx=>by have:=F x hx;omega
 have O:∀x∈D,(rB x).size<=200000:=fun x hx=>Y x (by have:=F x hx;omega);have R:=adX D O;have f0:=aH R;have a1:=aH F;have N:=aH S;have c5:=aH a9;have c7:=aH e5;have b7:=aH Z;have b6:=aH O;clear a9 F S e5 Z O R e4 c9 Y;go_enter func13,ntmps13;go_wp2_with fail;refine c7.out.mono ?_;rintro e w1 ⟨rfl,J⟩;rw[J];clear J;go_wp2_with fail;refine c5.out.mono ?_;rintro e w1 ⟨rfl,J⟩;have K0:aP w1 w 9 (D.map Value.string).toArray:=gJ J;have B0:Below w w w1:=gY J;have z0:w1.heap.size=w.heap.size+1:=by rw[J];simp
 clear J;by_cases h7:(20:Int)<(D.length:Int)
 ·have hr:wA t=ByteArray.empty:=by rw[N.out,if_neg aD]
  go_wp2;go_ret;exact⟨bJ hr.symm,B0⟩
 have hr:wA t=fY D D.length:=by rw[N.out,if_pos aD]
 have HR:=aH hr;clear hr N c5 c7 b1 he f3;obtain⟨V,hV⟩:=aJ (w1.alloc (.cells #[.pointer none,()] 57));have K1:aP V w 9 (D.map Value.string).toArray:=by rw[hV];exact K0.alloc _
 have B1:Below w w V:=by rw[hV];exact B0.alloc aD _
 have zV:V.heap.size=w.heap.size+2:=by rw[hV];simp;omega
 have I0:Lib.IsBuilder 57 5 (w.heap.size+1) (w.heap.size+1) (Lib.byteCells (fY D 0).data.toList) V:=by rw[hV,<-z0];exact .inl ⟨aI,aA none 0 0,by show(w1.heap.push _)[w1.heap.size]?=_;exact Array.getElem?_push_size,World.ownsRow_nil _ _ _ _,by simp[Value.ownBlock]⟩
 go_upto_region 7 with fail;rw[<-hV];clear hV;have z1:=z0;go_wp2_with fail;go_loopw [24] (fun iv wr=>∃k:Nat,k<=D.length/\iv=aG k/\Lib.IsBuilder 57 5 (w.heap.size+1) (w.heap.size+1) (Lib.byteCells (fY D k).data.toList) wr/\aP wr w 9 (D.map Value.string).toArray/\Below w w wr/\w.heap.size+2<=wr.heap.size) (fun iv _=>D.length-(intOf iv).toNat)
 case atStart=>exact⟨0,Nat.zero_le _,rfl,I0,K1,B1,by omega⟩
 case round=>
  obtain⟨k,hk,rfl,I,K,B,z⟩:=hrel;clear I0 K1 B1 K0 B0;by_cases hlt:k<D.length
  ·have d0:(k:Int)<(D.length:Int):=aD;have a8:=DU K k hlt;have h8:=fun W=>vR w.heap.size D.length D.length k hlt W;have f4:=a1.out _ (List.getElem_mem hlt);have Y:=b6.out _ (List.getElem_mem hlt);have R:=f0.out k hk;have b0:fY D (k+1)=if D[k]=ByteArray.empty then fY D k else fY D k++(rB D[k]++OO):=by rw[fY,IC D k hlt]
   obtain⟨x,hx⟩:=aJ (D[k]);rw[<-hx]at a8 f4 Y b0;have c6:=aH b0;have HI:=aH I;clear b0 hx I;by_cases M:x=ByteArray.empty
   ·have b1:(x.toList==([]:List UInt8))=true:=by rw[show([]:List UInt8)=ByteArray.empty.toList by decide +kernel,dX,decide_eq_true M]
    have hn:fY D (k+1)=fY D k:=by rw[c6.out,if_pos M]
    have HN:=aH hn;clear hn M;go_wp2;go_roundw
    case rel=>exact⟨k+1,by omega,by go_num,by rw[HN.out];exact HI.out,K,B,z⟩
    case measure=>simp[intOf];omega
   ·have b1:(x.toList==([]:List UInt8))=false:=by rw[show([]:List UInt8)=ByteArray.empty.toList by decide +kernel,dX,decide_eq_false M]
    have hn:fY D (k+1)=fY D k++(rB x++OO):=by rw[c6.out,if_neg M]
    have HN:=aH hn;have a6:=b7.out wr x aD (hp.keep B) (hm.keep B);obtain⟨ao,a7⟩:=aJ (yN x);have c8:rB x=ao.getD nU:=by rw[a7];rfl
    rw[<-a7]at a6;have e9:=aH a6;clear hn M a6 a7;go_wp2_with fail;refine e9.out.mono ?_;rintro e w2 ⟨rfl,b2⟩;have I2:=PF HI.out b2;have K2:=K.keep b2;have B2:=B.after b2 B.size;have z2:=b2.size
    cases ao with
    |none=>
     have e1:rB x++OO=⟨#[119,104,97,116,10]⟩:=by rw[c8];decide +kernel
     rw[e1]at HN;go_wp2_with fail;refine(RK (w.heap.size+1) (w.heap.size+1) _ ⟨#[119,104,97,116,10]⟩ w2 I2 (by rw[Lib.byteCells_length];have:=R;show(fY D k).data.size+_<=_;have e2:(fY D k).data.size=(fY D k).size:=rfl;show(fY D k).data.size+5<=_;omega) aD).mono ?_;exact ahC
    |some y=>have e1:rB x=y:=c8;rw[e1]at HN Y;go_wp2_with fail;refine(RK (w.heap.size+1) (w.heap.size+1) _ (y++OO) w2 I2 (by rw[Lib.byteCells_length];have:=R;show(fY D k).data.size+_<=_;have e2:(fY D k).data.size=(fY D k).size:=rfl;rw[ByteArray.size_append];have:OO.size=1:=rfl;omega) aD).mono ?_;exact ahC
  ·have d0:¬(k:Int)<(D.length:Int):=aD;obtain rfl:k=D.length:=aD;have I3:=I;go_wp2_with fail;refine(DF (w.heap.size+1) (w.heap.size+1) (fY D D.length).data.toList wr I3 aD).mono ?_;rintro e w9 ⟨rfl,b9⟩;go_wp2;go_ret;exact⟨bJ HR.out.symm,B.after b9 aD⟩
end
section
open Go.RowKit Go.G5 Go.Proofs.Tryz
end
section
open Go.RowKit Go.G5 Go.Proofs.Tryz
end
section
open Go.RowKit Go.G5 Go.Proofs.Tryz
theorem agT{p:Prop}(h:p:=by
  rw[alL,<-HX.out]at hc
  cases z:decide (F=ByteArray.empty) with
  |true=>rw[z]at R;rw[if_pos ((Lib.containsS_iff _ _).2 (by rw[of_decide_eq_true z];simp))]at hc;have J:=aH hc;clear hc z;go_wp2;go_ret;exact⟨bJ J.out.symm,B5⟩
  |false=>
   rw[z]at R;have D:¬ByteArray.empty=F:=fun e=>of_decide_eq_false z e.symm;clear z
   cases I:decide (S=ByteArray.empty) with
   |true=>rw[I]at c8;rw[if_pos ((Lib.containsS_iff _ _).2 (by rw[of_decide_eq_true I];simp))]at hc;have J:=aH hc;clear hc I D;go_wp2;go_ret;exact⟨bJ J.out.symm,B5⟩
   |false=>
    rw[I]at c8;have c5:¬ByteArray.empty=S:=fun e=>of_decide_eq_false I e.symm;clear I;rw[if_neg (fun h=>by have:=(Lib.containsS_iff _ _).1 h;simp[OR,ajO,D,c5]at this)]at hc;have J:=aH hc;clear hc D c5;go_wp2;go_ret;exact⟨bJ J.out.symm,B5⟩):p:=h
theorem agY{p:Prop}(h:p:=by
  have f2:=tK A;go_wp2_with fail;refine(HA.out w5 b5).mono ?_;rintro e w6 ⟨rfl,b6⟩;have B6:=B5.after b6 B5.size
  cases a8:decide (A=ByteArray.empty) with
  |true=>rw[a8]at f2;rw[if_pos ((Lib.containsS_iff _ _).2 (by rw[of_decide_eq_true a8];simp))]at hc;have J:=aH hc;clear hc a8;go_wp2;go_ret;exact⟨bJ J.out.symm,B6⟩
  |false=>
   rw[a8]at f2;have f7:¬ByteArray.empty=A:=fun e=>of_decide_eq_false a8 e.symm;rw[if_neg (fun h=>by have:=(Lib.containsS_iff _ _).1 h;simp[OR,f7]at this)]at hc;have J:=aH hc;clear hc a8 f7;go_wp2;go_ret;exact⟨bJ J.out.symm,B6⟩):p:=h
theorem aiF{p:Prop}(h:p:=by
  rw[M]at e4;rw[if_pos ((Lib.containsS_iff _ _).2 (by rw[of_decide_eq_true M];simp))]at hc;have J:=aH hc;clear hc M D;go_wp2;go_ret;exact⟨bJ J.out.symm,B5⟩):p:=h
theorem FQ(k O:Int)(v1:Value)(l1:List Int)(Y:Int)(v2:Value)(l2:List Int)(Z:Int)(v3:Value)(l3:List Int)(q st:Int)(v4:Value)(l4:List Int)(w:World)
  (h1:aK w v1 l1) (h2:aK w v2 l2) (h3:aK w v3 l3) (h4:aK w v4 l4):
  Calls prog 12 #[clV k O v1 Y v2 Z v3 q st v4] w fun e w'=>e=.returned (.string (fR k O l1 Y l2 Z l3 q st l4))/\Below w w w':=by
 have K0:=aP.new w 34 (clC k O v1 Y v2 Z v3 q st v4);have a9:=PO k (w.alloc (.cells (clC k O v1 Y v2 Z v3 q st v4) 34));by_cases hk:1<=k/\k<=7
 ·have e5:=ab2 k hk;have f8:=CX k;obtain⟨W,hW⟩:=aJ (fP k);rw[<-hW]at a9 e5 f8;have e0:=tK W;rw[decide_eq_false e5]at e0;have c6:=aH a9;have HW:=aH hW;have f6:max (-99999) (min 99999 q)=FS q:=rfl;clear a9 hW e5;go_enter func12,ntmps12;go_wp2_with fail;refine c6.out.mono ?_;rintro e w1 ⟨rfl,b1⟩;have B1:Below w w w1:=(bF _ _).after b1 (by simp);have K1:=K0.keep b1;clear K0 b1 c6;have G1:=K1.cell;have f3:=cM (FS q) (JT q);have f4:=LD l4;go_upto_region 3 with fail;go_cut [4] (fun v wx=>∃X,v=.string X/\X=vQ k q l4/\X.size<=1000/\Below w1 w1 wx)
  case rest=>
   obtain⟨X,rfl,hX,o0,b2⟩:=hcut;have B2:=B1.after b2 B1.size;have K2:=K1.keep b2;have HX:=aH hX;clear hX G1 b2 K1 f3 f4 f8 e0 f6 h4;have j3:=tD O l1;have j4:=tD Y l2;have j5:=fA O st;have j2:=fG Z l3;have hf:=xM O l1 v1 wc (h1.below B2 aI);have hg:=fun(W':World) (hb:Below wc wc W')=>xM Y l2 v2 W' ((h2.below B2 aI).keep hb);have hs:=fun(W':World)=>nH O st W';have ha:=fun(W':World) (hb:Below wc wc W')=>nG Z l3 v3 W' ((h3.below B2 aI).keep hb);obtain⟨F,hF⟩:=aJ (dC O l1);obtain⟨G,hG⟩:=aJ (dC Y l2);obtain⟨S,hS⟩:=aJ (bG O st);obtain⟨A,hA⟩:=aJ (bZ Z l3);rw[<-hF]at hf j3;rw[<-hG]at hg j4;rw[<-hS]at hs j5;rw[<-hA]at ha j2;have HF:=aH hf;have HG:=aH hg;have HS:=aH hs;have HA:=aH ha;have K:=aH (And.intro hF (And.intro hG (And.intro hS hA)));clear hf hg hs ha hF hG hS hA h1 h2 h3;have G2:=K2.cell;go_wp2_with fail;refine HF.out.mono ?_;rintro e w3 ⟨rfl,b3⟩;have K3:=K2.keep b3;clear G2;have G3:=K3.cell;go_wp2_with fail;refine(HG.out w3 b3).mono ?_;rintro e w4 ⟨rfl,b4⟩;have b4:=b3.after b4 b3.size;have K4:=K2.keep b4;clear G3 K3;have G4:=K4.cell;go_wp2_with fail;refine(HS.out w4).mono ?_;rintro e w5 ⟨rfl,b5⟩;have b5:=b4.after b5 b4.size;have K5:=K2.keep b5;have B5:=B2.after b5 B2.size;clear G4 K4 K2;have G5:=K5.cell;have R:=tK F;have e4:=tK G;have c8:=tK S;by_cases k2:k=2
   ·subst k2;have hc:=pT 2 O l1 Y l2 Z l3 q st l4 hk [pJ,F] (by rw[K.out.1];rfl);rw[P5,<-HX.out]at hc
    cases hb:decide (F=ByteArray.empty) with
    |true=>rw[hb]at R;rw[if_pos ((Lib.containsS_iff _ _).2 (by rw[of_decide_eq_true hb];simp))]at hc;have J:=aH hc;clear hc hb;go_wp2;go_ret;exact⟨bJ J.out.symm,B5.after (Below.refl _ _) aI⟩
    |false=>rw[hb]at R;have D:¬ByteArray.empty=F:=fun e=>of_decide_eq_false hb e.symm;rw[if_neg (fun h=>by have:=(Lib.containsS_iff _ _).1 h;simp[OR,D]at this)]at hc;have J:=aH hc;clear hc hb D;go_wp2;go_ret;exact⟨bJ J.out.symm,B5.after (Below.refl _ _) aI⟩
   ·by_cases k3:k=3
    ·subst k3;have hc:=pT 3 O l1 Y l2 Z l3 q st l4 hk [pJ,F,LZ,G] (by rw[K.out.1,K.out.2.1];rfl);rw[alK,<-HX.out]at hc
     cases z:decide (F=ByteArray.empty) with
     |true=>rw[z]at R;rw[if_pos ((Lib.containsS_iff _ _).2 (by rw[of_decide_eq_true z];simp))]at hc;have J:=aH hc;clear hc z;go_wp2;go_ret;exact⟨bJ J.out.symm,B5⟩
     |false=>
      rw[z]at R;have D:¬ByteArray.empty=F:=fun e=>of_decide_eq_false z e.symm;clear z
      cases M:decide (G=ByteArray.empty) with
      |true=>exact aiF
      |false=>rw[M]at e4;have b0:¬ByteArray.empty=G:=fun e=>of_decide_eq_false M e.symm;clear M;rw[if_neg (fun h=>by have:=(Lib.containsS_iff _ _).1 h;simp[OR,aqJ,D,b0]at this)]at hc;have J:=aH hc;clear hc D b0;go_wp2;go_ret;exact⟨bJ J.out.symm,B5⟩
    ·by_cases k4:k=4
     ·subst k4;have hc:=pT 4 O l1 Y l2 Z l3 q st l4 hk [wZ,S,pJ,F,LK,G] (by rw[K.out.1,K.out.2.1,K.out.2.2.1];rfl);rw[alJ,<-HX.out]at hc
      cases z:decide (F=ByteArray.empty) with
      |true=>rw[z]at R;rw[if_pos ((Lib.containsS_iff _ _).2 (by rw[of_decide_eq_true z];simp))]at hc;have J:=aH hc;clear hc z;go_wp2;go_ret;exact⟨bJ J.out.symm,B5⟩
      |false=>
       rw[z]at R;have D:¬ByteArray.empty=F:=fun e=>of_decide_eq_false z e.symm;clear z
       cases M:decide (G=ByteArray.empty) with
       |true=>exact aiF
       |false=>
        rw[M]at e4;have b0:¬ByteArray.empty=G:=fun e=>of_decide_eq_false M e.symm;clear M
        cases I:decide (S=ByteArray.empty) with
        |true=>rw[I]at c8;rw[if_pos ((Lib.containsS_iff _ _).2 (by rw[of_decide_eq_true I];simp))]at hc;have J:=aH hc;clear hc I D b0;go_wp2;go_ret;exact⟨bJ J.out.symm,B5⟩
        |false=>rw[I]at c8;have c5:¬ByteArray.empty=S:=fun e=>of_decide_eq_false I e.symm;clear I;rw[if_neg (fun h=>by have:=(Lib.containsS_iff _ _).1 h;simp[OR,ap2,ajO,D,b0,c5]at this)]at hc;have J:=aH hc;clear hc D b0 c5;go_wp2;go_ret;exact⟨bJ J.out.symm,B5⟩
     ·by_cases k1:k=1
      ·subst k1;have hc:=pT 1 O l1 Y l2 Z l3 q st l4 hk [wZ,S,pJ,F] (by rw[K.out.1,K.out.2.2.1];rfl);exact agT
      ·by_cases k5:k=5
       ·subst k5;have hc:=pT 5 O l1 Y l2 Z l3 q st l4 hk [wZ,S,pJ,F] (by rw[K.out.1,K.out.2.2.1];rfl);exact agT
       ·have f5:k=6∨k=7:=aD;clear k1 k2 k3 k4 k5;rcases f5 with rfl|rfl
        ·have hc:=pT 6 O l1 Y l2 Z l3 q st l4 hk [pJ,A] (by rw[K.out.2.2.2];rfl);rw[P5,<-HX.out]at hc;exact agY
        ·have hc:=pT 7 O l1 Y l2 Z l3 q st l4 hk [pJ,A] (by rw[K.out.2.2.2];rfl);rw[P5,<-HX.out]at hc;exact agY
  case first=>
  have c7:=G1 7;have c9:=G1 9;simp only[clC,List.getElem?_toArray,List.getElem?_cons_zero,List.getElem?_cons_succ]at c7 c9;have q7:∀y:Ext w1,y.w.cell? ⟨w.heap.size,7,none⟩=some (aG q):=fun y=>y.cell c7;have q9:∀y:Ext w1,y.w.cell? ⟨w.heap.size,9,none⟩=some v4:=fun y=>y.cell c9;have QN:=fun y:Ext w1=>fS (FS q) (JT q) y.w;have QT:=fun y:Ext w1=>aoJ l4 v4 y.w ((h4.below B1 aI).keep y.b);obtain⟨N,hN⟩:=aJ (aX (FS q));obtain⟨T,hT⟩:=aJ (fW l4);rw[<-hN]at QN f3;rw[<-hT]at QT f4;have QN:=aH QN;have QT:=aH QT;have HN:=aH hN;have HT:=aH hT;clear c7 c9 hN hT;refine bH _ aO aO ?_
  repeat(first|go_big_quiet_skip|(go_big_quiet_want;go_big_quiet_op;first|go_big_quiet_on|(apply Exists.intro;refine⟨fun _=>?_,?_⟩;(first|(go_at_call 8;with_reducible exact bW (QN.out _))|(go_at_call 32;with_reducible exact bW (QT.out _)));go_big_quiet_on)))
  refine wpQuiet_nil ?_;rintro w2 ⟨⟨w2,b2⟩,rfl⟩
  try dsimp only
  have j6:(W++{ data:=#[32] }++N++{ data:=#[32,108,105,115,116,32] }++T).size<=1000:=by simp only[ByteArray.size_append];have s1:(ByteArray.mk #[32]).size=1:=rfl;have s2:(ByteArray.mk #[32,108,105,115,116,32]).size=6:=rfl;omega
  go_wp2_with fail;go_meet;exact⟨_,rfl,by rw[HW.out,HN.out,HT.out];rfl,j6,b2⟩
 ·have hx:fR k O l1 Y l2 Z l3 q st l4=ByteArray.empty:=by unfold fR;rw[if_pos];rw[Lib.containsS_iff];unfold mA;rw[MD];exact .inl (Y8 k hk).symm
  rw[Y8 k hk]at a9;have c6:=aH a9;have HX:=aH hx;clear a9 hx hk;go_enter func12,ntmps12;go_wp2_with fail;refine c6.out.mono ?_;rintro e w1 ⟨rfl,b1⟩;go_wp2;go_ret;exact⟨bJ HX.out.symm,(bF _ _).after b1 (by simp)⟩
end
section
open Go.RowKit Go.G5 Go.Proofs.Tryz
end
section
open Go.RowKit Go.G5 Go.Proofs.Tryz
theorem nY(w:World)(k J:Int)(Y:Value)(z:List Int)(h1:aK w Y z)(K:Int)(v2:Value)(D:List Int)(h2:aK w v2 D)(M:Int)(v3:Value)(F:List Int)(h3:aK w v3 F)(q N:Int)(v4:Value)(I:List Int)(h4:aK w v4 I)(ok:Bool)(hp:iY w):
  Calls prog 137 #[clV k J Y K v2 M v3 q N v4,.bool ok] w fun e w'=>e=.returned (.string (CU ok (fR k J z K D M F q N I)))/\Below w w w':=by
 obtain⟨R,c1,rfl⟩:=h1.shape;obtain⟨a2,c2,rfl⟩:=h2.shape;obtain⟨a3,c3,rfl⟩:=h3.shape;obtain⟨a4,c4,rfl⟩:=h4.shape;have O:=aP.new w 34 (clC k J (aA R z.length c1) K (aA a2 D.length c2) M (aA a3 F.length c3) q N (aA a4 I.length c4))
 cases ok with
 |false=>clear O;go_enter func137,ntmps137;go_wp2;go_ret;exact⟨rfl,bF _ _⟩
 |true=>have S:=TN k J _ z K _ D M _ F q N _ I (w.alloc (.cells (clC k J (aA R z.length c1) K (aA a2 D.length c2) M (aA a3 F.length c3) q N (aA a4 I.length c4)) 34)) (h1.alloc _) (h2.alloc _) (h3.alloc _) (h4.alloc _) (hp.keep (bF _ _));have Z:=aH S;have G:=O.cell;clear S;go_enter func137,ntmps137;go_wp2_with fail;refine Z.out.mono ?_;rintro e w1 ⟨rfl,b1⟩;go_wp2;go_ret;exact⟨rfl,(bF _ _).after b1 (by simp)⟩
theorem ai3(t:ByteArray)(w:World):Calls prog 135 #[.string t] w fun e w'=>e=.returned (.string (E2 t))/\w=w':=by
 by_cases z:t=ByteArray.empty
 ·subst z;go_enter func135,ntmps135;go_wp2;go_ret;exact⟨rfl,rfl⟩
 ·have F:(t.toList==([]:List UInt8))=false:=by rw[show([]:List UInt8)=ByteArray.empty.toList by decide +kernel,dX,decide_eq_false z]
  have D:E2 t=t:=by unfold E2;rw[if_neg z]
  clear z;go_enter func135,ntmps135;go_wp2;go_ret;exact⟨bJ D.symm,rfl⟩
def xT(w:World)(z:Nat)(n:Nat)(v:Value)(a:Int)(W:World):Prop:=
 Below w w W/\aP W w 27 #[n,v]/\aP W z 3 #[a]
theorem ZU(w:World)(z:Nat)(n:Nat)(v:Value)(a:Int)(W W':World)(h:xT w z n v a W)(hb:Below W W W'):xT w z n v a W':=by
 obtain⟨h1,h2,h3⟩:=h;exact⟨h1.after hb h1.size,h2.keep hb,h3.keep hb⟩
theorem ac2(w:World)(z:Nat)(e4:w.heap.size<z)(n:Nat)(hn:n<=5)(l:List Int)(v:Value)(hv:aK w v l)(hl:l.length=2^n)(K:∀k,(hk:k<l.length)->-1000<=l[k]/\l[k]<=1000)(a:Int)(s i k:Nat)(W:World)(hs:s<2^n)(e0:i<k)(hk:k<n)(hR:xT w z n v a W):
  Calls prog 260 #[s,i,k,.pointer (some ⟨z,0,none⟩),.pointer (some ⟨w,0,none⟩)] W fun e w'=>
   e=.returned (.bool (EQ l a (s,i,k)).2)/\xT w z n v (EQ l a (s,i,k)).1 w'/\GrownIn W w' (fun b=>b=z):=by
 obtain⟨B,S,M⟩:=hR;have e5:(2:Nat)^n<=32:=Nat.pow_le_pow_right (n:=2) aQ hn;have hex:∀V,aK V v l->Calls prog 261 #[.agg #[n,v],s,i,k] V fun e w'=>e=.returned (rZ l s i k)/\Below V V w':=fun V hV=>NM n hn l v V hV hl K s i k hs aD hk;have J:EQ l a (s,i,k)=(max a (rZ l s i k),true):=rfl;obtain⟨av,cv,rfl⟩:=hv.shape;obtain⟨x,hx⟩:=aJ (rZ l s i k);simp only[<-hx]at hex J;rw[J];have G1:=S.cell;have yB:=B.size;have zf:=S.lt;have zo:=M.lt;have R:=aH hex;clear hl K hx hex hs J;have Go:=M.cell;have Fo:=M.frozen;go_enter func260,ntmps260;go_wp2_with fail;have a8:aK W.drew (aA av l.length cv) l:=(hv.below B aI).drew';have a1:aP W.drew z 3 #[a]:=M;have Z:aP W.drew w.heap.size 27 #[n,aA av l.length cv]:=S;have Bd:Below w w W.drew:=B.drew;go_region_law
  (first
   |(go_simp;go_at_call 261;refine(R.out _ a8).mono ?_;rintro e w1 ⟨rfl,I⟩;have D:=a1.keep I;have O:=D.cell;have N:=D.frozen))
 all_goals
  have Y:=Z.keep I;have b1:Below W W w1:=((Below.refl W.heap.size W).drewN' 1).after I (by simp);have B1:=B.after b1 B.size;clear Go G1 Fo;go_wp2;refine bN ?_;intro Wf F;have KO:aP Wf z 3 #[aG (max a x)]:=by rw[F];have:=D.set 0 (aG (max a x));simpa using this
  have gF:w1.grownBy Wf (some z):=by rw[F];exact bQ (World.grownBy.refl _ _) 0 _
  have KF:=Y.grow gF (by intro h;have:=Option.some.inj h;omega);have BF:=B1.grown gF B1.size jI;have a7:=(GrownIn.of_below (P:=fun b=>b=z) b1).trans (GrownIn.of_row gF (fun q hq=>(Option.some.inj hq).symm));clear F O N;go_ret;exact⟨rfl,⟨BF,KF,KO⟩,a7⟩
theorem J7:∀args w,(callFunc 260 args).run prog w=.ok (.enter 260 args) w:=enters_of func260 aO rfl
theorem alB(w:World)(n:Int)(v:Value)(l:List Int)(hv:aK w v l):
  Calls prog 176 #[.agg #[n,v]] w fun e w'=>e=.returned (.tuple #[(mF n l),.bool (aY n l)])/\Below w w w':=by
 have K:=hv;obtain⟨a,c,rfl⟩:=hv.shape;have c8:∀(fn:Fn) (first cap:Array Value) (w:World),(Instr.makeFunc fn first cap).run prog w=.ok (.func fn first cap) w:=fun _ _ _ _=>rfl;have K0:=aP.new w 27 #[n,aA a l.length c]
 cases I:aY n l with
 |false=>
  have hg:mF n l=0:=by unfold mF;rw[I];rfl
  have HG:=aH hg;have S:=aH I;clear hg I;go_enter func176,ntmps176;go_wp2_with (go_at_call 132;refine(dM n l _ _ (K.alloc _)).mono ?_;rintro e w1 ⟨rfl,z⟩;rw[S.out]);go_ret2;exact⟨by rw[HG.out];rfl,(bF _ _).after z (by simp)⟩
 |true=>
  obtain⟨N,rfl,O,J,b4,R⟩:=cS I;have hr:mF (N:Int) l=(hH (EQ l) (kK N (2^N)) 0).1:=by unfold mF V0;rw[I,if_pos rfl,Int.toNat_natCast]
  have F:∀D V,w.heap.size<D->xT w D N (aA a l.length c) 0 V->Calls prog 259 #[.agg #[N,aA a l.length c],.func (.func 260) #[] #[.pointer (some ⟨D,0,none⟩),.pointer (some ⟨w,0,none⟩)]] V fun e w'=>
    e=.returned (.tuple #[])/\xT w D N (aA a l.length c) (mF N l) w'/\GrownIn V w' (fun b=>b=D):=fun D V a1 hV=>by
   rw[hr];refine DO N O l _ J 260 J7 _ _ (EQ l) (xT w D N (aA a l.length c)) _ (ZU w D N _) V ⟨a,c,rfl⟩ (fun b hb=>by have:=hV.2.2.lt;omega) ?_ 0 hV;intro a' s i k W hs Z hk _ _ hR _;exact ac2 w D a1 N O l _ K J R a' s i k W hs Z hk hR
  have HV:=aH F;have S:=aH I;clear F hr I J R;obtain⟨M,hM⟩:=aJ (mF (N:Int) l);rw[<-hM]at HV ⊢;clear hM;go_enter func176,ntmps176;go_wp2_with fail;refine(dM N l _ _ (K.alloc _)).mono ?_;rintro e w1 ⟨rfl,z⟩;rw[S.out];have Y:=K0.keep z;have B1:Below w w w1:=(bF _ _).after z (by simp);have G1:=Y.cell;have z1:=Y.lt;clear z K0;go_wp2_with fail;have R0:xT w w1.heap.size N (aA a l.length c) 0 (w1.alloc (.cells #[aB] 3)):=⟨B1.alloc B1.size _,Y.alloc _,aP.new _ _ _⟩;refine(HV.out w1.heap.size _ z1 R0).mono ?_;rintro e w2 ⟨rfl,⟨B2,K2,Ko⟩,c7⟩;clear G1 R0;have Go:=Ko.cell;go_wp2;go_ret2;exact⟨rfl,B2⟩
end
end Go.Proofs.YtkdbkjjacgigiaaGreatDoor
