/- Lemmas for CardConsoleResults. No condition. -/
import Derived.Test.YtkdbkjjacgigiaaGreatDoorQ20
import Derived.Test.YtkdbkjjacgigiaaGreatDoorQ30
set_option maxRecDepth 100000
set_option maxHeartbeats 64000000
namespace Go.Proofs.YtkdbkjjacgigiaaGreatDoor
section
open Go.RowKit Go.G5 Go.Proofs.Tryz
def VD(g:Int)(l:List Int)(k:Int):Int:=if iE g l k then 6 else 0
def VC(g:Int)(l:List Int)(k:Int):Int:=if iE g l k then g else 0
def VB(g:Int)(l:List Int)(k:Int):List Int:=if iE g l k then l else []
def VE(g:Int)(l:List Int)(k:Int):Int:=if iE g l k then k else 0
theorem amR{g:Int}{l:List Int}{k:Int}(h:iE g l k=true):aU g l=true:=by
 unfold iE sU nT at h
 cases z:aU g l with
 |true=>rfl
 |false=>rw[z]at h;simp at h
theorem ajZ{g:Int}{l:List Int}{k:Int}(h:iE g l k=false):iH g l k=[]:=by
 unfold iE at h;unfold iH
 cases hr:sU g l k with
 |none=>rfl
 |some x=>rw[hr]at h;simp at h
theorem ZM(w:World)(g:Int)(v:Value)(l:List Int)(hv:aK w v l)(hl:l.length<=1048576)(k:Int)(hk:dL k):
  Calls prog 151 #[.agg #[g,v],k] w fun e w'=>∃p0 i0 q0 p1 D F p2 i2 q2 p3 i3 q3,e=.returned (.tuple #[.agg #[(VD g l k),aB,aA p0 i0 q0,aB,aA p1 D F,(VC g l k),aA p2 i2 q2,(VE g l k),aB,aA p3 i3 q3],.bool (iE g l k)])/\bK 3 w.heap.size w' (aA p0 i0 q0) []/\bK 3 w.heap.size w' (aA p1 D F) []/\bK 3 w.heap.size w' (aA p2 i2 q2) (VB g l k)/\bK 3 w.heap.size w' (aA p3 i3 q3) (iH g l k)/\(aV (aA p0 i0 q0) (aA p1 D F)/\aV (aA p0 i0 q0) (aA p2 i2 q2)/\aV (aA p0 i0 q0) (aA p3 i3 q3)/\aV (aA p1 D F) (aA p2 i2 q2)/\aV (aA p1 D F) (aA p3 i3 q3)/\aV (aA p2 i2 q2) (aA p3 i3 q3))/\Below w w w':=by
 obtain⟨a,c,rfl⟩:=hv.shape;go_enter func151,ntmps151;go_wp2_with fail;refine bU ?_;intro V hV;have B:Below w w V:=gO hV;have K1:aP V w 29 #[g,aA a l.length c]:=gR hV;have R:aP V (w.heap.size+1) 34 #[aB,aB,(),aB,(),aB,(),aB,aB,()]:=iP hV;clear hV;have e6:w.heap.size+2<=V.heap.size:=by have:=R.lt;omega
 refine(NQ _ g _ l (hv.below B aI) hl k hk).mono ?_;rintro e w1 ⟨p1,D,F,rfl,o1,N⟩;have K1:=K1.keep N;have R:=R.keep N;have z0:=B.size;have B1:=B.after N B.size;have e9:=hv.below B1 aI;have z1:=K1.lt;have z2:=R.lt;have o1:=o1.mono (B':=w.heap.size+2) (by have:=e6;omega);clear N B
 cases hb:iE g l k with
 |false=>
  have K:VD g l k=0:=by unfold VD;rw[hb];rfl
  have J:VC g l k=0:=by unfold VC;rw[hb];rfl
  have I:VB g l k=[]:=by unfold VB;rw[hb];rfl
  have M:VE g l k=0:=by unfold VE;rw[hb];rfl
  have hL:=ajZ hb;have H:=aH (And.intro K (And.intro J (And.intro I (And.intro M hL))));have HB:=aH hb;clear K J I M hL hb;have G2:=R.cell;have F2:=R.frozen;go_wp2;refine bN ?_;intro Wf z;have Y:aP Wf (w.heap.size+1) 34 #[aB,aB,(),aB,(),aB,(),aB,aB,()]:=by rw[z];have:=(((((((((R.set 0 (aG 0)).set 1 (aG 0)).set 2 (aA none 0 0)).set 3 (aG 0)).set 4 (aA none 0 0)).set 5 (aG 0)).set 6 (aA none 0 0)).set 7 (aG 0)).set 8 (aG 0)).set 9 (aA none 0 0);simpa using this
  have hg:w1.grownBy Wf (some (w.heap.size+1)):=by rw[z];exact(bQ (bQ (bQ (bQ (bQ (bQ (bQ (bQ (bQ (bQ (World.grownBy.refl _ _) 0 _) 1 _) 2 _) 3 _) 4 _) 5 _) 6 _) 7 _) 8 _) 9 _)
  have Bf:Below w w Wf:=B1.grown hg B1.size jI;have Gf:=Y.cell;clear z G2 F2;obtain⟨K,J,I,M,hL⟩:=H.out;exact bodyPost_ret (v:=.tuple #[.agg #[aB,aB,(),aB,(),aB,(),aB,aB,()],.bool false]) (by simp[results,results151,go_sem,Gf]) rfl
   ⟨none,0,0,none,0,0,none,0,0,none,0,0,by rw[K,J,M,HB.out],bK.nil _ _ _,bK.nil _ _ _,by rw[I];exact bK.nil _ _ _,by rw[hL];exact bK.nil _ _ _,
    ⟨aV.nil _ _ _,aV.nil _ _ _,aV.nil _ _ _,aV.nil _ _ _,aV.nil _ _ _,aV.nil _ _ _⟩,Bf⟩
 |true=>
  have K:VD g l k=6:=by unfold VD;rw[hb];rfl
  have J:VC g l k=g:=by unfold VC;rw[hb];rfl
  have I:VB g l k=l:=by unfold VB;rw[hb];rfl
  have M:VE g l k=k:=by unfold VE;rw[hb];rfl
  have S:=(dB (amR hb)).2.2.2;have a7:=EN l S;have H:=aH (And.intro K (And.intro J (And.intro I M)));have HB:=aH hb;have e4:=aH a7;clear K J I M S a7 hb;have G1:=K1.cell;go_wp2_with fail;refine(zJ g _ l _ e9 hl).mono ?_;rintro e w7 ⟨p7,i7,q7,rfl,o7,O⟩;rw[e4.out]at o7;have K7:=R.keep O;have B7:=B1.after O B1.size;have e5:aV (aA p7 i7 q7) (aA p1 D F):=(aV.of_lt o1 o7 aI).symm;have a9:=o1.keep O;have b0:=o7.mono (B':=w.heap.size+2) aD;have G2:=K7.cell;have F2:=K7.frozen;have z7:=K7.lt;clear O G1 o7;go_wp2;refine bN ?_;intro Wf z;have Y:aP Wf (w.heap.size+1) 34 #[aG 6,aB,(),aB,(),g,aA p7 i7 q7,k,aB,aA p1 D F]:=by rw[z];have:=(((((((((K7.set 0 (aG 6)).set 1 (aG 0)).set 2 (aA none 0 0)).set 3 (aG 0)).set 4 (aA none 0 0)).set 5 (aG g)).set 6 (aA p7 i7 q7)).set 7 (aG k)).set 8 (aG 0)).set 9 (aA p1 D F);simpa using this
  have hg:w7.grownBy Wf (some (w.heap.size+1)):=by rw[z];exact(bQ (bQ (bQ (bQ (bQ (bQ (bQ (bQ (bQ (bQ (World.grownBy.refl _ _) 0 _) 1 _) 2 _) 3 _) 4 _) 5 _) 6 _) 7 _) 8 _) 9 _)
  have y7:=B7.size;have Bf:Below w w Wf:=B7.grown hg B7.size jI;have f1:=(a9.grow hg (fun q hq Z=>by have:=Option.some.inj hq;have:=(a9.lt q Z).1;omega)).mono (B':=w.heap.size) aD;have f7:=(b0.grow hg (fun q hq Z=>by have:=Option.some.inj hq;have:=(b0.lt q Z).1;omega)).mono (B':=w.heap.size) aD;have Gf:=Y.cell;clear z;obtain⟨K,J,I,M⟩:=H.out;exact bodyPost_ret (v:=.tuple #[.agg #[aG 6,aB,(),aB,(),g,aA p7 i7 q7,k,aB,aA p1 D F],.bool true]) (by simp[results,results151,go_sem,Gf]) rfl
   ⟨none,0,0,none,0,0,p7,i7,q7,p1,D,F,by rw[K,J,M,HB.out],bK.nil _ _ _,bK.nil _ _ _,by rw[I];exact f7,f1,
    ⟨aV.nil _ _ _,aV.nil _ _ _,aV.nil _ _ _,aV.nil _ _ _,aV.nil _ _ _,e5⟩,Bf⟩
def noW:ByteArray:=(⟨#[110,111]⟩:ByteArray)
def nU:ByteArray:=(⟨#[119,104,97,116]⟩:ByteArray)
def E2(t:ByteArray):ByteArray:=if t=ByteArray.empty then noW else t
def CU(ok:Bool)(t:ByteArray):ByteArray:=if ok then t else noW
def cfT(n:Int)(l:List Int):ByteArray:=CU (eD n l) (fR (rV n l) (rU n l) (tO n l) 0 [] 0 [] (rW n l) (rX n l) (tN n l))
def ccT(n:Int)(l:List Int):ByteArray:=CU (gK n l) (fR (UN n l) (UP n l) (UO n l) 0 [] 0 [] (lO n l) (nZ n l) [])
def cmT(n:Int)(l:List Int)(m:Int)(k:List Int):ByteArray:=CU (fE n l m k) (fR (U0 n l m k) (UX n l m k) (U1 n l m k) (UY n l m k) (U2 n l m k) 0 [] (U3 n l m k) (BH n l m k) (UZ n l m k))
def UR(g:Int)(l:List Int):ByteArray:=CU (mG g l) (fR (xV g l) 0 [] 0 [] (xU g l) (yS g l) (tP g l) 0 (rG g l))
def csT(g:Int)(l:List Int):ByteArray:=CU (iE g l 3) (fR (VD g l 3) 0 [] 0 [] (VC g l 3) (VB g l 3) (VE g l 3) 0 (iH g l 3))
def rR(c:ByteArray)(n:Int)(l:List Int):Option ByteArray:=
 if c=(⟨#[102,117,110,99,116,105,111,110]⟩:ByteArray) then some (mL n l) else if c=(⟨#[101,120,116,114,101,109,101]⟩:ByteArray) then some (wH n l) else if c=(⟨#[109,97,116,114,111,105,100]⟩:ByteArray) then some (E2 (EX n l)) else if c=(⟨#[99,108,97,105,109]⟩:ByteArray) then some (cfT n l) else if c=(⟨#[99,117,116]⟩:ByteArray) then some (ccT n l) else none
def BD(c:ByteArray)(n:Int)(l:List Int)(m:Int)(k:List Int):Option ByteArray:=
 if c=(⟨#[112,97,105,114]⟩:ByteArray) then some (E2 (E6 n l m k)) else if c=(⟨#[99,111,109,109,111,110]⟩:ByteArray) then some (cmT n l m k) else none
def rA(c:ByteArray)(g:Int)(l:List Int):Option ByteArray:=
 if c=(⟨#[102,97,109,105,108,121]⟩:ByteArray) then some (vO g l) else if c=(⟨#[99,111,118,101,114]⟩:ByteArray) then some (pU g l) else if c=(⟨#[111,114,100,101,114]⟩:ByteArray) then some (tV g l) else if c=(⟨#[104,97,108,108]⟩:ByteArray) then some (UR g l) else if c=(⟨#[115,117,110,102,108,111,119,101,114]⟩:ByteArray) then some (csT g l) else none
def UD(z:List ByteArray):Option ByteArray:=
 if nO (z.getD 1 ByteArray.empty)&&nO (z.getD 2 ByteArray.empty) then BD (z.getD 0 ByteArray.empty) (vG (z.getD 1 ByteArray.empty)) (uC (z.getD 1 ByteArray.empty)) (vG (z.getD 2 ByteArray.empty)) (uC (z.getD 2 ByteArray.empty)) else none
def akB(z:List ByteArray):Option ByteArray:=
 if pB (z.getD 1 ByteArray.empty)&&pK (pV (z.getD 1 ByteArray.empty)) (z.getD 2 ByteArray.empty) then rA (z.getD 0 ByteArray.empty) (AW (pV (z.getD 1 ByteArray.empty)) (z.getD 2 ByteArray.empty)) (yV (pV (z.getD 1 ByteArray.empty)) (z.getD 2 ByteArray.empty)) else none
def yN(s:ByteArray):Option ByteArray:=
 if (cI 32 s).length=2 then (if nO ((cI 32 s).getD 1 ByteArray.empty) then rR ((cI 32 s).getD 0 ByteArray.empty) (vG ((cI 32 s).getD 1 ByteArray.empty)) (uC ((cI 32 s).getD 1 ByteArray.empty)) else none)
 else if (cI 32 s).length=3 then (UD (cI 32 s)).or (akB (cI 32 s))
 else none
def rB(s:ByteArray):ByteArray:=(yN s).getD nU
def OO:ByteArray:=⟨#[10]⟩
def fY(z:List ByteArray):Nat->ByteArray
 |0=>ByteArray.empty
 |k+1=>if z.getD k ByteArray.empty=ByteArray.empty then fY z k else fY z k++(rB (z.getD k ByteArray.empty)++OO)
def yA(t:ByteArray):List ByteArray:=if (cI 10 t).getLastD ByteArray.empty=ByteArray.empty then (cI 10 t).dropLast else cI 10 t
def wA(t:ByteArray):ByteArray:=if t.size<=2000/\(yA t).length<=20 then fY (yA t) (yA t).length else ByteArray.empty
theorem akR(c:UInt8):∀(l part:List UInt8),eW c part (l++[c])=eW c part l++[[]]:=by
 intro l
 induction l with
 |nil=>intro part;simp[eW]
 |cons b l ih=>
  intro part;rw[List.cons_append,eW,eW]
  split
  ·rw[ih];rfl
  ·exact ih _
theorem afG(c:UInt8):∀(l part:List UInt8),(part++l)≠[]->(l=[]∨l.getLastD 0≠c)->(eW c part l).getLastD []≠[]:=by
 intro l
 induction l with
 |nil=>intro part h _;rw[eW];simpa using h
 |cons b l ih=>
  intro part h hl;have z:(b::l).getLastD 0≠c:=by
   rcases hl with h|h
   ·cases h
   ·exact h
  rw[eW];by_cases hb:b=c
  ·rw[if_pos hb]
   cases l with
   |nil=>exact absurd hb (by simpa using z)
   |cons x r=>
    have h2:=ih [] (by simp) (.inr (by simpa using z));obtain⟨y,t,D⟩:∃y t,eW c [] (x::r)=y::t:=by
     cases hc:eW c [] (x::r) with
     |nil=>exact absurd hc (aa2 _ _ _)
     |cons y t=>exact⟨y,t,rfl⟩
    rw[D]at h2 ⊢;simpa using h2
  ·rw[if_neg hb];refine ih (part++[b]) (by simp) ?_
   cases l with
   |nil=>exact .inl rfl
   |cons x r=>exact .inr (by simpa using z)
def uO(t:ByteArray):ByteArray:=FU (Lib.trimSuffix t.data.toList [10])
theorem aqC(l:List UInt8):FU l=ByteArray.empty↔l=[]:=by
 constructor
 ·intro h;have:=congrArg (fun b:ByteArray=>b.data.toList) h;simpa[FU]using this
 ·intro h;rw[h];rfl
theorem alN(z:List (List UInt8))(h:z≠[]):(z.map FU).getLastD ByteArray.empty=FU (z.getLastD []):=by
 cases z with
 |nil=>exact absurd rfl h
 |cons x r=>
  rw[List.map_cons,List.getLastD_cons,List.getLastD_cons]
  induction r generalizing x with
  |nil=>rfl
  |cons y t ih=>rw[List.map_cons,List.getLastD_cons,List.getLastD_cons];exact ih y (by simp)
theorem aqK{α:Type}{p q:Prop}[Decidable p][Decidable q](h:p↔q){a b:α}:(if p then a else b)=if q then a else b:=by
 by_cases z:p
 ·rw[if_pos z,if_pos (h.1 z)]
 ·rw[if_neg z,if_neg fun x=>z (h.2 x)]
theorem adK(t : ByteArray)(h : t ≠ ByteArray.empty) : yA t = cI 10 (uO t) := by
  have hne : t.data.toList ≠ [] := fun e => h (dO (by rw [e]; rfl))
  obtain ⟨l, hl⟩ := aJ t.data.toList
  have hcB : cI 10 t = (eW 10 [] l).map FU := by unfold cI; rw [hl]
  have hcT : cI 10 (uO t) = (eW 10 [] (Lib.trimSuffix l [10])).map FU := by unfold cI uO; rw [uV, hl]
  rw [<- hl] at hne
  unfold yA
  rw [hcB, hcT, alN _ (aa2 _ _ _), aqK (aqC _)]
  by_cases he : l.getLastD 0 = 10
  · obtain ⟨r, hr⟩ : ∃ r, l = r ++ [10] := by
      have h1 := List.dropLast_concat_getLast hne
      have h2 : l.getLastD 0 = l.getLast hne := by conv => lhs; rw [<- h1]
                                                   simp
      rw [<- h2, he] at h1
      exact ⟨_, h1.symm⟩
    subst hr
    have ht : Lib.trimSuffix (r ++ [10]) [10] = r := by
      unfold Lib.trimSuffix Lib.hasSuffix
      simp
    rw [akR, ht, if_pos (by simp), List.map_append]
    simp
  · have h2 := afG 10 l [] (by simpa using hne) (.inr he)
    have ht : Lib.trimSuffix l [10] = l := by
      unfold Lib.trimSuffix Lib.hasSuffix
      rw [if_neg]
      intro hs
      have hs2 := List.isSuffixOf_iff_suffix.1 hs
      obtain ⟨r, hr⟩ := hs2
      rw [<- hr] at he
      exact he (by simp)
    rw [if_neg h2, ht]
theorem amG:wA ByteArray.empty=ByteArray.empty:=by
 have:yA ByteArray.empty=[]:=by decide +kernel
 unfold wA;rw[this];simp[fY]
theorem VF(c:UInt8):∀(x:List UInt8),c∉x->∀part l,eW c part (x++l)=eW c (part++x) l:=by
 intro x
 induction x with
 |nil=>intro _ part l;simp
 |cons b x ih=>intro h part l;have hb:b≠c:=fun e=>h (by rw[e];simp);have z:c∉x:=fun e=>h (List.mem_cons_of_mem _ e);rw[List.cons_append,eW,if_neg hb,ih z];simp
theorem akT(c:UInt8):∀(D:List (List UInt8)),D≠[]->(∀x∈D,c∉x)->eW c [] (Lib.join D [c])=D:=by
 intro D
 induction D with
 |nil=>intro h;exact absurd rfl h
 |cons x r ih=>
  intro _ h;have F:=h x (by simp);rw[Lib.join_cons,VF c x F]
  cases r with
  |nil=>simp[Lib.joinTail,eW]
  |cons y t=>
   have ih:=ih (by simp) (fun z I=>h z (List.mem_cons_of_mem _ I));rw[Lib.join_cons]at ih;simp only[Lib.joinTail,List.map_cons,List.flatten_cons,List.cons_append,List.nil_append]at ih ⊢;rw[eW,if_pos rfl];have e:y++(List.map (fun x=>c::x) t).flatten=y++(List.map (fun x=>[c]++x) t).flatten:=by simp
   first|rw[ih]|(rw[<-e,ih])|(rw[e,ih])
theorem xQ(c:UInt8)(z:List ByteArray)(D:z≠[])(h:∀x∈z,c∉x.data.toList):cI c (bR ⟨#[c]⟩ z)=z:=by
 unfold cI;have e:(bR ⟨#[c]⟩ z).data.toList=Lib.join (z.map (·.data.toList)) [c]:=rfl;rw[e,akT c _ (by simpa using D) (fun x F=>by
  obtain⟨y,I,rfl⟩:=List.mem_map.1 F;exact h y I),List.map_map]
 exact(List.map_congr_left fun x _=>LS x).trans (List.map_id _)
theorem adD(n:Int):∀b∈(aX n).data.toList,b=45∨mM b=true:=by
 intro b hb;rw[IL]at hb
 split at hb
 ·rcases List.mem_cons.1 hb with h|h
  ·exact .inl h
  ·exact .inr ((zS _).1 b h)
 ·exact .inr ((zS _).1 b hb)
theorem DB(n:Int)(c:UInt8)(h1:c≠45)(h2:mM c=false):c∉(aX n).data.toList:=by
 intro h;rcases adD n c h with e|e
 ·exact h1 e
 ·rw[h2]at e;cases e
theorem alA{n:Int}{l:List Int}(J:aY n l=true)(R:(dC n l).size<=200):nO (dC n l)=true/\vG (dC n l)=n/\uC (dC n l)=l:=by
 obtain⟨N,rfl,Y,hl,O,K⟩:=cS J;have Z:=Nat.two_pow_pos N;have hb:∀x∈l,-1000<=x/\x<=1000:=fun x I=>by obtain⟨k,hk,rfl⟩:=List.getElem_of_mem I;exact K k hk
 have M:l.map aX≠[]:=by intro e;have:=congrArg List.length e;simp at this;rw[this]at hl;simp at hl;omega
 have ht:dC (N:Int) l=bR eS (l.map aX):=by unfold dC;rw[if_pos J]
 have hc:cI 44 (dC (N:Int) l)=l.map aX:=by rw[ht];refine xQ 44 _ M fun x I=>?_;obtain⟨y,_,rfl⟩:=List.mem_map.1 I;exact DB y 44 aQ aQ
 have F:(cI 44 (dC (N:Int) l)).all pB=true:=by rw[hc,List.all_eq_true];intro x I;obtain⟨y,S,rfl⟩:=List.mem_map.1 I;have:=hb y S;exact QJ y ⟨by omega,by omega⟩
 have hm:(cI 44 (dC (N:Int) l)).map pN=l:=by rw[hc,List.map_map];exact(List.map_congr_left fun x _=>zY x).trans (List.map_id _)
 have z:(cI 44 (dC (N:Int) l)).length=2^N:=by rw[hc,List.length_map,hl]
 have D:nO (dC (N:Int) l)=true:=by rw[afN R F,hm,z,abF N aD];exact J
 obtain⟨e1,e2⟩:=VQ D;exact⟨D,by rw[e1,z,abF N aD],by rw[e2,hm]⟩
theorem akZ:∀x:Nat,x<64->(eK (x:Int)).foldl (fun u e=>bX u e.toNat) 0=x:=by decide +kernel
theorem ak0:∀x:Nat,x<64->x≠0->eK (x:Int)≠[]:=by decide +kernel
theorem ajF(es:List Int):∀k,k<=es.length->uY (es.map aX) k=(es.take k).foldl (fun u e=>bX u e.toNat) 0:=by
 intro k
 induction k with
 |zero=>intro _;rfl
 |succ k ih=>
  intro hk;have h1:(es.map aX).getD k ByteArray.empty=aX es[k]:=by rw[IC _ k (by rw[List.length_map];omega)];simp
  rw[uY,ih aD,h1,zY,List.take_succ_eq_append_getElem hk,List.foldl_append];rfl
theorem amJ{N:Nat}(hN:N<=6)(x:Nat)(hx:x<2^N):lM (N:Int) (bG (N:Int) (x:Int))=true/\nC (N:Int) (bG (N:Int) (x:Int))=(x:Int):=by
 have a7:(2:Nat)^N<=2^6:=Nat.pow_le_pow_right aQ hN;have S:dV (N:Int) 0 6=true:=cR.2 ⟨by omega,by omega⟩;have K:nD (N:Int) (x:Int)=true:=by unfold nD;rw[S];show eB (N:Int).toNat (x:Int)=true;rw[Int.toNat_natCast];exact jQ.2 ⟨Int.natCast_nonneg _,by exact_mod_cast hx⟩
 by_cases Z:x=0
 ·subst Z;have ht:bG (N:Int) ((0:Nat):Int)=iX:=by unfold bG;rw[if_pos K];rfl
  rw[ht];exact YB S
 ·have ht:bG (N:Int) (x:Int)=bR eS ((eK (x:Int)).map aX):=by unfold bG;rw[if_pos K,if_neg aD]
  have F:(eK (x:Int)).map aX≠[]:=fun e=>ak0 x aD Z (List.map_eq_nil_iff.1 e);have hc:cI 44 (bG (N:Int) (x:Int))=(eK (x:Int)).map aX:=by rw[ht];refine xQ 44 _ F fun z Y=>?_;obtain⟨y,_,rfl⟩:=List.mem_map.1 Y;exact DB y 44 aQ aQ
  have J:bG (N:Int) (x:Int)≠iX:=by
   intro e;rw[e]at hc;have hd:cI 44 iX=[iX]:=by decide +kernel
   rw[hd]at hc;obtain⟨y,O⟩:∃y,iX=aX y:=by
    cases hl:eK (x:Int) with
    |nil=>rw[hl]at F;exact absurd rfl F
    |cons y r=>rw[hl]at hc;simp at hc;exact⟨y,hc.1⟩
   have h1:=zY y;rw[<-O]at h1;have h2:pN iX=0:=by decide +kernel
   rw[h2]at h1;rw[<-h1]at O
   revert O
   rw[N8]
   decide +kernel
  have R:=VM (x:Int) N hN (by rw[Int.toNat_natCast];exact hx);have I:(cI 44 (bG (N:Int) (x:Int))).all (pH (N:Int))=true:=by rw[hc,List.all_eq_true];intro z Y;obtain⟨y,O,rfl⟩:=List.mem_map.1 Y;have:=R y O;unfold pH;rw[QJ y ⟨by omega,by omega⟩,zY];simp;omega
  have M:OV (cI 44 (bG (N:Int) (x:Int)))=x:=by unfold OV;rw[hc,ajF _ _ (by simp),List.length_map,List.take_length];exact akZ x aD
  have D:lM (N:Int) (bG (N:Int) (x:Int))=true:=by rw[abR S J I,M];simp
  exact⟨D,by rw[QS J D,M]⟩
theorem ajP(n s:Int):(124:UInt8)∉(bG n s).data.toList:=by
 unfold bG
 split
 ·split
  ·decide +kernel
  ·intro h
   have e:(bR eS ((eK s).map aX)).data.toList=Lib.join (((eK s).map aX).map (·.data.toList)) [44]:=rfl;rw[e]at h;have key:∀F:List (List UInt8),(∀x∈F,(124:UInt8)∉x)->(124:UInt8)∉Lib.join F [44]:=by
    intro F
    cases F with
    |nil=>intro _;simp[Lib.join_nil]
    |cons x r=>
     intro D hm;rw[Lib.join_cons,List.mem_append]at hm;rcases hm with hm|hm
     ·exact D x (by simp) hm
     ·unfold Lib.joinTail at hm;obtain⟨y,I,hm⟩:=List.mem_flatten.1 hm;obtain⟨z,J,rfl⟩:=List.mem_map.1 I;rcases List.mem_append.1 hm with q|q
      ·revert q;decide
      ·exact D z (List.mem_cons_of_mem _ J) q
   refine key _ (fun x D=>?_) h;obtain⟨y,I,rfl⟩:=List.mem_map.1 D;obtain⟨z,_,rfl⟩:=List.mem_map.1 I;exact DB z 124 aQ aQ
 ·decide +kernel
theorem ak4{N:Nat}{l:List Int}(O:aU (N:Int) l=true):pK (N:Int) (bZ (N:Int) l)=true/\AW (N:Int) (bZ (N:Int) l)=(N:Int)/\yV (N:Int) (bZ (N:Int) l)=l:=by
 obtain⟨Y,J,hq,_⟩:=dB O;have hN:N<=6:=aD;have S:dV (N:Int) 0 6=true:=cR.2 ⟨Y,J⟩;by_cases hl:l=[]
 ·subst hl;have ht:bZ (N:Int) []=eF:=by unfold bZ;rw[if_pos O,if_pos rfl]
  rw[ht];exact QL S
 ·have ht:bZ (N:Int) l=bR bar (l.map (bG (N:Int))):=by unfold bZ;rw[if_pos O,if_neg hl]
  have hc:cI 124 (bZ (N:Int) l)=l.map (bG (N:Int)):=by rw[ht];refine xQ 124 _ (by simpa using hl) fun x M=>?_;obtain⟨y,_,rfl⟩:=List.mem_map.1 M;exact ajP _ y
  have F:∀y∈l,lM (N:Int) (bG (N:Int) y)=true/\nC (N:Int) (bG (N:Int) y)=y:=by intro y R;have h1:=hq y R;rw[Int.toNat_natCast]at h1;obtain⟨x,rfl⟩:=Int.eq_ofNat_of_zero_le h1.1;exact amJ hN x (by exact_mod_cast h1.2)
  have D:(cI 124 (bZ (N:Int) l)).all (lM (N:Int))=true:=by rw[hc,List.all_eq_true];intro z hz;obtain⟨y,R,rfl⟩:=List.mem_map.1 hz;exact(F y R).1
  have hm:(cI 124 (bZ (N:Int) l)).map (nC (N:Int))=l:=by rw[hc,List.map_map];exact(List.map_congr_left fun x M=>(F x M).2).trans (List.map_id _)
  have K:bZ (N:Int) l≠eF:=by
   intro e;rw[e]at D;have h1:(cI 124 eF)=[eF]:=by decide +kernel
   rw[h1]at D;have h2:lM (N:Int) eF=true:=by simpa using D
   have h3:(cI 44 eF).all (pH (N:Int))=true:=by
    cases M:(cI 44 eF).all (pH (N:Int)) with
    |true=>rfl
    |false=>rw[QQ (by decide +kernel) M]at h2;cases h2
   have h4:cI 44 eF=[eF]:=by decide +kernel
   rw[h4]at h3;have Z:pB eF=false:=by
    cases hp:pB eF with
    |false=>rfl
    |true=>
     have:=(OS hp).2.2 110 (by decide +kernel)
     revert this;decide
   have J:pH (N:Int) eF=true:=by simpa using h3
   unfold pH at J;rw[Z]at J;cases J
  have I:pK (N:Int) (bZ (N:Int) l)=true:=by rw[XX S K D,hm];exact O
  obtain⟨e1,e2⟩:=XY K I;exact⟨I,e1,by rw[e2,hm]⟩
def iN(c:UInt8)(t:ByteArray):Prop:=c∉t.data.toList
instance (c:UInt8) (t:ByteArray):Decidable (iN c t):=inferInstanceAs (Decidable (c∉t.data.toList))
theorem iN.app{c:UInt8}{a b:ByteArray}(z:iN c a)(hb:iN c b):iN c (a++b):=by
 unfold iN at *;rw[jL,List.mem_append];exact fun h=>h.elim z hb
theorem iN.yes{c:UInt8}{x:ByteArray}(b:Bool)(h:iN c x):iN c (iV b x):=by
 unfold iV
 cases b
 ·show c∉[];simp
 ·exact h
theorem iN.emp(c:UInt8):iN c ByteArray.empty:=by show c∉[];simp
theorem iN.join{c:UInt8}{D:ByteArray}(I:iN c D){F:List ByteArray}(h:∀x∈F,iN c x):iN c (bR D F):=by
 show c∉Lib.join (F.map (·.data.toList)) D.data.toList
 cases F with
 |nil=>simp[Lib.join_nil]
 |cons x r=>
  intro hm;rw[List.map_cons,Lib.join_cons,List.mem_append]at hm;rcases hm with hm|hm
  ·exact h x (by simp) hm
  ·unfold Lib.joinTail at hm;obtain⟨y,K,hm⟩:=List.mem_flatten.1 hm;obtain⟨z,M,rfl⟩:=List.mem_map.1 K;obtain⟨u,J,rfl⟩:=List.mem_map.1 M;rcases List.mem_append.1 hm with q|q
   ·exact I q
   ·exact h u (List.mem_cons_of_mem _ J) q
def Wh(c:UInt8):Prop:=c=10∨c=32
theorem Wh.itoa{c:UInt8}(h:Wh c)(n:Int):iN c (aX n):=by
 rcases h with rfl|rfl
 ·exact DB n 10 aQ aQ
 ·exact DB n 32 aQ aQ
theorem Wh.cm{c:UInt8}(h:Wh c):iN c eS:=by rcases h with rfl|rfl<;>decide
theorem Wh.bar{c:UInt8}(h:Wh c):iN c bar:=by rcases h with rfl|rfl<;>decide
theorem Wh.none{c:UInt8}(h:Wh c):iN c eF:=by rcases h with rfl|rfl<;>decide
theorem Wh.dash{c:UInt8}(h:Wh c):iN c iX:=by rcases h with rfl|rfl<;>decide
theorem Wh.itoas{c:UInt8}(h:Wh c)(l:List Int):iN c (bR eS (l.map aX)):=iN.join h.cm (fun x z=>by
 obtain⟨y,_,rfl⟩:=List.mem_map.1 z;exact h.itoa y)
theorem Wh.set{c:UInt8}(h:Wh c)(n s:Int):iN c (bG n s):=by
 unfold bG
 split
 ·split
  ·exact h.dash
  ·exact h.itoas _
 ·exact iN.emp c
theorem Wh.fam{c:UInt8}(h:Wh c)(g:Int)(l:List Int):iN c (bZ g l):=by
 unfold bZ
 split
 ·split
  ·exact h.none
  ·exact iN.join h.bar (fun x z=>by
    obtain⟨y,_,rfl⟩:=List.mem_map.1 z;exact h.set g y)
 ·exact iN.emp c
theorem Wh.fun{c:UInt8}(h:Wh c)(n:Int)(l:List Int):iN c (dC n l):=by
 unfold dC
 split
 ·exact h.itoas _
 ·exact iN.emp c
theorem Wh.list{c:UInt8}(h:Wh c)(l:List Int):iN c (fW l):=by
 unfold fW
 split
 ·exact h.none
 ·exact h.itoas _
theorem am0:Wh 10:=.inl rfl
theorem am1:Wh 32:=.inr rfl
def PW(c:UInt8)(z:List (List UInt8)):List UInt8:=(z.map (·++[c])).flatten
theorem afE(c:UInt8):∀(z:List (List UInt8)) (rest:List UInt8),(∀x∈z,c∉x)->eW c [] (PW c z++rest)=z++eW c [] rest:=by
 intro z rest
 induction z with
 |nil=>intro _;rfl
 |cons x r ih=>
  intro h;have e:PW c (x::r)++rest=x++(c::(PW c r++rest)):=by simp[PW]
  rw[e,VF c x (h x (by simp)),eW,if_pos rfl,ih (fun y D=>h y (List.mem_cons_of_mem _ D))]
  rfl
theorem yZ{P:Program}{f:FuncId}{args:Array Value}{w:World}{R:Ending->World->Prop}(h:Calls P f args w R):∃e w',R e w':=by
 obtain⟨e,w',_,z,_⟩:=h [];exact⟨e,w',z⟩
theorem ER(w:World)(l:List Int)(h:∀x∈l,dL x)(hl:l.length<=1000):aK (w.alloc (.cells (l.map (Value.int .i64)).toArray 3)) (aA (some ⟨w,0,none⟩) l.length l.length) l:=by
 have K:=aP.new w 3 (l.map (Value.int .i64)).toArray;refine⟨_,_,rfl,aI,by unfold maxLen;omega,h,.inr ⟨w.heap.size,0,rfl,K.lt,fun k hk=>?_⟩⟩;rw[K.cell];simp[hk]
theorem EL{n:Int}{l:List Int}(h:aY n l=true):(∀x∈l,dL x)/\l.length<=1000:=by
 obtain⟨N,_,_,_,z,hb⟩:=cS h;refine⟨fun x D=>?_,by omega⟩;obtain⟨k,hk,rfl⟩:=List.mem_iff_getElem.1 D;have:=hb k hk;exact⟨by omega,by omega⟩
theorem ak3{g:Int}{l:List Int}(h:aU g l=true):(∀x∈l,dL x)/\l.length<=1000:=by
 have h1:=iL h;obtain⟨_,_,hb⟩:=oH h;refine⟨fun x z=>?_,by omega⟩;obtain⟨k,hk,rfl⟩:=List.mem_iff_getElem.1 z;have:=hb k hk;exact⟨by omega,by omega⟩
theorem adN(w:World){n:Int}{l:List Int}(h:aY n l=true):∀x∈eX n l,dL x:=by
 obtain⟨h1,h2⟩:=EL h;obtain⟨e,w',ad,i,c,_,o,_⟩:=yZ (SJ _ n _ l (ER w l h1 h2) aD);exact o.ints.inR
theorem amM(w:World){n:Int}{l:List Int}(h:aY n l=true):∀x∈gX n l,dL x:=by
 obtain⟨h1,h2⟩:=EL h;obtain⟨e,w',ad,i,c,_,o,_⟩:=yZ (abX _ n _ l (ER w l h1 h2) aD);exact o.ints.inR
theorem aqB(w:World){n:Int}{l:List Int}(h:aY n l=true):∀x∈nM n l,dL x:=by
 obtain⟨h1,h2⟩:=EL h;obtain⟨e,w',ad,i,c,_,o,_⟩:=yZ (GZ _ n _ l (ER w l h1 h2) aD);exact o.ints.inR
theorem ad2(w:World){g:Int}{l:List Int}(h:aU g l=true):∀x∈eG g l,dL x:=by
 obtain⟨h1,h2⟩:=ak3 h;obtain⟨e,w',ad,i,c,_,o,_⟩:=yZ (IY _ g _ l (ER w l h1 h2) aD);exact o.ints.inR
theorem sH:ByteArray.empty.size=0:=rfl
theorem VZ(w:World)(n:Int)(l:List Int):(mL n l).size<=200000:=by
 by_cases h:aY n l=true
 ·have:=NW n l (adN w h) (amM w h);omega
 ·unfold mL;rw[if_neg h,sH];omega
theorem ab5(w:World)(n:Int)(l:List Int):(wH n l).size<=200000:=by
 by_cases h:aY n l=true
 ·have:=M6 h (aqB w h);rw[AY h];omega
 ·rw[RF (by simpa using h),sH];omega
theorem aoR(n:Int)(l:List Int):(EX n l).size<=200000:=by
 by_cases h:dQ n l=true
 ·have:=XJ n l;rw[ML h];omega
 ·rw[abH (by simpa using h),sH];omega
theorem ao1(n:Int)(l:List Int)(m:Int)(k:List Int):(E6 n l m k).size<=200000:=by
 by_cases h:fE n l m k=true
 ·have:=XW n l m k;rw[MP h];omega
 ·rw[abN (by simpa using h),sH];omega
theorem aa7(g:Int)(l:List Int):(vO g l).size<=200000:=by
 by_cases h:aU g l=true
 ·have:=VW g l;rw[DW h];omega
 ·rw[P1 (by simpa using h),sH];omega
theorem abK(g:Int)(l:List Int):(tV g l).size<=200000:=by
 by_cases h:aU g l=true
 ·have:=XO g l;rw[E1 h];omega
 ·rw[QD (by simpa using h),sH];omega
theorem U7(w:World)(g:Int)(l:List Int):(pU g l).size<=200000:=by
 by_cases h:aU g l=true
 ·have:=RN g l (fun _=>ad2 w h);rw[BL h];omega
 ·rw[LQ (by simpa using h),sH];omega
theorem abL(t:ByteArray)(h:t.size<=200000):(E2 t).size<=200000:=by
 unfold E2
 split
 ·show 2<=200000;omega
 ·exact h
theorem pQ(ok:Bool)(k J:Int)(z:List Int)(K:Int)(D:List Int)(M:Int)(F:List Int)(q N:Int)(I:List Int):(CU ok (fR k J z K D M F q N I)).size<=200000:=by
 unfold CU
 split
 ·have O:=GV k J z K D M F q N I;have h:=vS cU 10000 _ O.1;have e:cU.size=1:=rfl;unfold fR
  split
  ·rw[sH];omega
  ·have h2:=O.2;rw[e]at h
   generalize (mA k J z K D M F q N I).length=m at h h2
   omega
 ·show 2<=200000;omega
theorem apV(w:World)(c:ByteArray)(n:Int)(l:List Int):((rR c n l).getD nU).size<=200000:=by
 unfold rR
 split
 ·exact VZ w n l
 split
 ·exact ab5 w n l
 split
 ·exact abL _ (aoR n l)
 split
 ·exact pQ _ _ _ _ _ _ _ _ _ _ _
 split
 ·exact pQ _ _ _ _ _ _ _ _ _ _ _
 ·show 4<=200000;omega
theorem apX(c:ByteArray)(n:Int)(l:List Int)(m:Int)(k:List Int):((BD c n l m k).getD nU).size<=200000:=by
 unfold BD
 split
 ·exact abL _ (ao1 n l m k)
 split
 ·exact pQ _ _ _ _ _ _ _ _ _ _ _
 ·show 4<=200000;omega
theorem apW(w:World)(c:ByteArray)(g:Int)(l:List Int):((rA c g l).getD nU).size<=200000:=by
 unfold rA
 split
 ·exact aa7 g l
 split
 ·exact U7 w g l
 split
 ·exact abK g l
 split
 ·exact pQ _ _ _ _ _ _ _ _ _ _ _
 split
 ·exact pQ _ _ _ _ _ _ _ _ _ _ _
 ·show 4<=200000;omega
theorem RC:nU.size<=200000:=by decide
theorem apY(w:World)(s:ByteArray):(rB s).size<=200000:=by
 unfold rB yN
 split
 ·split
  ·exact apV w _ _ _
  ·exact RC
 split
 ·cases h:UD (cI 32 s) with
  |none=>
   rw[Option.none_or];unfold akB
   split
   ·exact apW w _ _ _
   ·exact RC
  |some x=>
   rw[Option.some_or];unfold UD at h
   split at h
   ·have:=apX ((cI 32 s).getD 0 ByteArray.empty) (vG ((cI 32 s).getD 1 ByteArray.empty)) (uC ((cI 32 s).getD 1 ByteArray.empty)) (vG ((cI 32 s).getD 2 ByteArray.empty)) (uC ((cI 32 s).getD 2 ByteArray.empty));rw[h]at this;exact this
   ·cases h
 ·exact RC
theorem anV{s:ByteArray}(h:(cI 32 s).length=2):rB s=if nO ((cI 32 s).getD 1 ByteArray.empty) then (rR ((cI 32 s).getD 0 ByteArray.empty) (vG ((cI 32 s).getD 1 ByteArray.empty)) (uC ((cI 32 s).getD 1 ByteArray.empty))).getD nU else nU:=by
 unfold rB yN;rw[if_pos h]
 split<;>rfl
theorem anU{s:ByteArray}(h:(cI 32 s).length=3)(hc:(cI 32 s).getD 0 ByteArray.empty≠(⟨#[112,97,105,114]⟩:ByteArray))(hd:(cI 32 s).getD 0 ByteArray.empty≠(⟨#[99,111,109,109,111,110]⟩:ByteArray)):
  rB s=if pB ((cI 32 s).getD 1 ByteArray.empty)&&pK (pV ((cI 32 s).getD 1 ByteArray.empty)) ((cI 32 s).getD 2 ByteArray.empty) then (rA ((cI 32 s).getD 0 ByteArray.empty) (AW (pV ((cI 32 s).getD 1 ByteArray.empty)) ((cI 32 s).getD 2 ByteArray.empty)) (yV (pV ((cI 32 s).getD 1 ByteArray.empty)) ((cI 32 s).getD 2 ByteArray.empty))).getD nU else nU:=by
 have hm:UD (cI 32 s)=none:=by
  unfold UD
  split
  ·unfold BD;rw[if_neg hc,if_neg hd]
  ·rfl
 unfold rB yN;rw[if_neg aD,if_pos h,hm,Option.none_or];unfold akB
 split<;>rfl
end
end Go.Proofs.YtkdbkjjacgigiaaGreatDoor
