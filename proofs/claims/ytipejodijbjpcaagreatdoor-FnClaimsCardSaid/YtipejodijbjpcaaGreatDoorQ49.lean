/- Lemmas for CardClaims, part 49 of 52. No condition. -/
import Derived.Test.YtipejodijbjpcaaGreatDoorQ48
import Derived.Deep.DeepCutAuto
set_option maxRecDepth 100000
set_option maxHeartbeats 64000000
namespace Go.Proofs.YtipejodijbjpcaaGreatDoor
section
open Go.RowKit Go.G5
def FO:ByteArray:=⟨#[108,105,115,116]⟩
def lY:ByteArray:=⟨#[32]⟩
def uV(q:Int):Int:=max (-99999) (min 99999 q)
theorem wO(q:Int):bA (uV q):=by unfold uV;exact⟨by omega,by omega⟩
def iG(k q:Int)(l:List Int):List ByteArray:=[eD k,cE (uV q),FO,eY l]
def jH(k n1:Int)(l1:List Int)(n2:Int)(l2:List Int)(n3:Int)(l3:List Int)(q st:Int)(l4:List Int):List ByteArray:=
 iG k q l4++gU k (bT n1 st) (eM n1 l1) (eM n2 l2) (fV n3 l3)
def lW(k n1:Int)(l1:List Int)(n2:Int)(l2:List Int)(n3:Int)(l3:List Int)(q st:Int)(l4:List Int):ByteArray:=
 if Lib.containsS (jH k n1 l1 n2 l2 n3 l3 q st l4) ByteArray.empty=true then ByteArray.empty else cF lY (jH k n1 l1 n2 l2 n3 l3 q st l4)
theorem sR(k:Int):(eD k).size<=9:=by
 unfold eD
 repeat(split;(show _<=9;decide))
 decide
theorem LY(k:Int)(S F G A:ByteArray)(I:S.size<=10000)(z:F.size<=10000)(D:G.size<=10000)(o:A.size<=10000):(∀x∈gU k S F G A,x.size<=10000)/\(gU k S F G A).length<=6:=by
 have K:oR.size<=10000:=by decide
 have w2:kK.size<=10000:=by decide
 have L:yS.size<=10000:=by decide
 have M:yU.size<=10000:=by decide
 unfold gU
 split
 ·simp_all
 ·split
  ·simp_all
  ·split
   ·simp_all
   ·split<;>simp_all
theorem GA(k n1:Int)(l1:List Int)(n2:Int)(l2:List Int)(n3:Int)(l3:List Int)(q st:Int)(l4:List Int):(∀x∈jH k n1 l1 n2 l2 n3 l3 q st l4,x.size<=10000)/\(jH k n1 l1 n2 l2 n3 l3 q st l4).length<=10:=by
 have o:=LY k (bT n1 st) (eM n1 l1) (eM n2 l2) (fV n3 l3) (by have:=qI n1 st;omega) (by have:=qK n1 l1;omega) (by have:=qK n2 l2;omega) (AW n3 l3);have A:=sR k;have a2:=mC (uV q) (wO q);have a3:FO.size<=10000:=by decide
 have a4:=xZ l4;unfold jH;refine⟨fun x z=>?_,?_⟩
 ·rcases List.mem_append.1 z with h|h
  ·unfold iG at h
   simp only[List.mem_cons,List.not_mem_nil,or_false]at h
   rcases h with rfl|rfl|rfl|rfl
   ·omega
   ·omega
   ·omega
   ·omega
  ·exact o.1 x h
 ·rw[List.length_append]
  have:=o.2;show 4+_<=10;omega
theorem OU(k:Int)(S F G A:ByteArray):0<(gU k S F G A).length:=by
 unfold gU
 split
 ·simp
 ·split
  ·simp
  ·split
   ·simp
   ·split<;>simp
theorem cW.head{E:TypeId}{B:Nat}{w:World}{v:Value}{z:List ByteArray}(h:cW E B w v z)(o:0<z.length):∃g n c,v=.slice (some ⟨g,0,none⟩) n c:=by
 rcases h.at with⟨a,c,_,rfl⟩|⟨g,c,rfl,_⟩
 ·simp at o
 ·exact⟨g,_,c,rfl⟩
theorem GO(B:Nat)(w:World)(g n c:Nat)(z:List ByteArray)(x:ByteArray)(h:cW 9 B w (.slice (some ⟨g,0,none⟩) n c) z)(L:z.length<=1000000):
  Calls Tryz.prog 209 #[.slice (some ⟨g,0,none⟩) n c,.string x] w fun e w'=>e=.returned (.bool (Lib.containsS z x))/\w'=w:=by
 rcases h.at with⟨a,D,e,rfl⟩|⟨F,D,e,I,K,o⟩
 ·injection e with e1 e2 e3
  subst e2;exact lH g 0 0 c [] x w (Nat.le_refl _) (by omega) (fun j A=>by simp at A)
 ·injection e with e1 e2 e3
  injection e1 with e1
  injection e1 with e1
  subst e1 e2 e3;have:=lH g 0 z.length c z x w (Nat.le_refl _) (by omega) (fun j A=>by
   rw[o j z[j] (List.getElem?_eq_getElem A)];simp[List.getD_eq_getElem?_getD,List.getElem?_eq_getElem A])
  rw[List.take_length]at this;exact this
theorem EO(k n1:Int)(S:Value)(l1:List Int)(n2:Int)(v2:Value)(l2:List Int)(n3:Int)(v3:Value)(l3:List Int)(q st:Int)(v4:Value)(l4:List Int)(w:World)
  (h1:aD w S l1) (h2:aD w v2 l2) (h3:aD w v3 l3) (h4:aD w v4 l4) (hp:sE w):
  Calls Tryz.prog 66 #[clV k n1 S n2 v2 n3 v3 q st v4] w fun e w'=>e=.returned (.string (lW k n1 l1 n2 l2 n3 l3 q st l4))/\Below w.heap.size w w':=by
 have K0:=aB.new w 49 (clC k n1 S n2 v2 n3 v3 q st v4);have b0:=hp.keep (aM w (.cells (clC k n1 S n2 v2 n3 v3 q st v4) 49));have hs:=IZ (uV q) (wO q) _ b0;have a9:max (-99999) (min 99999 q)=uV q:=rfl;have HS:=Lib.hid hs;clear hs;go_enter Tryz.func66,Tryz.ntmps66;go_wp2_with fail;refine HS.out.mono ?_;rintro e D ⟨rfl,b1⟩;have U:Below w.heap.size w D:=(aM _ _).after b1 (by simp);have K1:=K0.keep b1;clear K0 b1 HS b0;have G1:=K1.cell;go_upto_region 2 with fail;go_cut [4] (fun v wx=>∃g,v=.slice (some ⟨g,0,none⟩) 4 4/\cW 9 D.heap.size wx (.slice (some ⟨g,0,none⟩) 4 4) (iG k q l4)/\Below D.heap.size D wx)
 case first=>
  have a6:aB D.drew w.heap.size 49 (clC k n1 S n2 v2 n3 v3 q st v4):=K1;have O:Below D.heap.size D D.drew:=(Below.refl _ _).drew;have g3:=a6.cell;have e7:=(h4.below U (Nat.le_refl _)).keep O;have e9:=(hp.keep U).keep O;have HT:=Lib.hid (fun(W:World) (h:Below D.drew.heap.size D.drew W)=>EU l4 v4 W (e7.keep h) (e9.keep h));obtain⟨T,hT⟩:∃T,T=eY l4:=⟨_,rfl⟩;rw[<-hT]at HT;go_region_law
   (first
    |(go_simp;go_at_call 69;with_reducible refine(tI k _).mono ?_;rintro e w5 ⟨rfl,L⟩;have K5:=a6.keep L;have G5:=K5.cell)
    |(go_simp;go_at_call 207;with_reducible refine(HT.out w5 L).mono ?_;rintro e w6 ⟨rfl,b6⟩))
  all_goals
   have B6:=(O.after L O.size).after b6 (O.after L O.size).size;have ol:=(cW.lit (E:=9) w6 (iG k q l4) 4 rfl (by unfold maxLen;omega) (Nat.le_refl _)).mono B6.size;have Y:=B6.alloc B6.size (.cells ((iG k q l4).map Value.string).toArray 9);go_wp2_with fail;go_meet;exact⟨w6.heap.size,rfl,ol,Y⟩
 case rest=>
  obtain⟨g,rfl,o4,b4⟩:=hcut;have N:=U.after b4 U.size;have K4:=K1.keep b4;have Z:=Lib.hid (BK k n1 S l1 n2 v2 l2 n3 v3 l3 q st v4 wc (h1.below N (Nat.le_refl _)) (h2.below N (Nat.le_refl _)) (h3.below N (Nat.le_refl _)) (hp.keep N));have K:=GA k n1 l1 n2 l2 n3 l3 q st l4;have M:lW k n1 l1 n2 l2 n3 l3 q st l4=if Lib.containsS (jH k n1 l1 n2 l2 n3 l3 q st l4) ByteArray.empty=true then ByteArray.empty else cF lY (jH k n1 l1 n2 l2 n3 l3 q st l4):=rfl;have F:jH k n1 l1 n2 l2 n3 l3 q st l4=iG k q l4++gU k (bT n1 st) (eM n1 l1) (eM n2 l2) (fV n3 l3):=rfl;obtain⟨P,hP⟩:∃P,P=jH k n1 l1 n2 l2 n3 l3 q st l4:=⟨_,rfl⟩;obtain⟨Q,hQ⟩:∃Q,Q=gU k (bT n1 st) (eM n1 l1) (eM n2 l2) (fV n3 l3):=⟨_,rfl⟩;obtain⟨R,hR⟩:∃R,R=iG k q l4:=⟨_,rfl⟩;rw[<-hP]at K M F;rw[<-hQ]at Z;rw[<-hQ,<-hR]at F;rw[<-hR]at o4;have a8:R.length=4:=by rw[hR];rfl
  have h9:Q.length<=6:=by
   have:=K.2;rw[F,List.length_append]at this;omega
  have a1:=Lib.hid M;have d0:=Lib.hid F;have I:=Lib.hid K;have e4:=Lib.hid a8;have a7:0<Q.length:=by rw[hQ];exact OU ..
  clear M F K hP hQ hR a8 K1 G1 h1 h2 h3 h4 a9;have G4:=K4.cell;go_wp2_with fail;refine Z.out.mono ?_;rintro e w5 ⟨p5,i5,c5,rfl,o5,L⟩;have B5:=N.after L N.size;have o4:=o4.keep L;have z5:D.heap.size<=w5.heap.size:=Nat.le_trans b4.size L.size;have zw:w.heap.size<=D.heap.size:=U.size
  rcases o5.at with⟨a,c',e,hq⟩|⟨g5,c',e,i6,i8,A⟩
  ·rw[hq]at a7;simp at a7
  ·injection e with e1 e2 e3
   subst e1 e2 e3;have c9:=Lib.hid A;clear A G4;go_wp2_with (at_builtin;refine oY rfl _ _ _ rfl 9 Tryz.underlying94 wN D.heap.size (.slice (some ⟨g,0,none⟩) 4 4) R Q g5 Q.length _ rfl rfl rfl c9.out o4 (by rw[e4.out];omega) z5 ?_;intro v7 w7 o7 g7;obtain⟨p7,i7,q7,rfl⟩:=cW.head o7 (by rw[List.length_append];omega));rw[<-d0.out]at o7;have rr:=o4.lt;have Y:=B5.grown g7 B5.size (fun q hq=>by have:=(rr q hq).1;omega);have z:=GO _ w7 _ _ _ P ByteArray.empty o7 (by have:=I.out.2;omega)
   cases o:Lib.containsS P ByteArray.empty with
   |true=>
    have hr:lW k n1 l1 n2 l2 n3 l3 q st l4=ByteArray.empty:=by rw[a1.out,if_pos o]
    rw[o]at z;have z:=Lib.hid z;have HR:=Lib.hid hr;clear hr o;go_wp2_with fail;refine z.out.mono ?_;rintro e w8 ⟨rfl,rfl⟩;go_wp2;go_ret;exact⟨bG HR.out.symm,Y⟩
   |false=>
    have hr:lW k n1 l1 n2 l2 n3 l3 q st l4=cF lY P:=by rw[a1.out,if_neg (by rw[o];simp)]
    rw[o]at z;have z:=Lib.hid z;have HR:=Lib.hid hr;have HJ:=Lib.hid (yY _ w7 _ P lY o7 (by
     have h1:=uI lY 10000 P I.out.1;have h2:=I.out.2;have h3:lY.size=1:=rfl;rw[h3]at h1;omega) (by have:=I.out.2;omega))
    clear hr o;go_wp2_with fail;refine z.out.mono ?_;rintro e w8 ⟨rfl,rfl⟩;go_wp2_with fail;refine HJ.out.mono ?_;rintro e w9 ⟨rfl,b9⟩;go_wp2;go_ret;exact⟨bG HR.out.symm,Y.after b9 Y.size⟩
end
section
open Go.RowKit Go.G5
theorem pG(o x y:ByteArray)(r:List ByteArray):cF o (x::y::r)=x++o++cF o (y::r):=by
 refine kI ?_;rw[sV,sV];show Lib.join ((x::y::r).map (·.data.toList)) o.data.toList=x.data.toList++o.data.toList++Lib.join ((y::r).map (·.data.toList)) o.data.toList;rw[List.map_cons,List.map_cons,Lib.join_cons,Lib.join_cons];simp[Lib.joinTail,List.append_assoc]
def TX:ByteArray:=⟨#[32,108,105,115,116,32]⟩
def Q0:ByteArray:=⟨#[32,111,102,32]⟩
def XE:ByteArray:=⟨#[32,102,111,114,32]⟩
def WS:ByteArray:=⟨#[32,97,110,100,32]⟩
def SU:ByteArray:=⟨#[32,115,101,116,32]⟩
def nQ(k q:Int)(l:List Int):ByteArray:=eD k++lY++cE (uV q)++TX++eY l
theorem d1:lY.data.toList=[32]:=rfl
theorem d2:kK.data.toList=[111,102]:=rfl
theorem d3:yS.data.toList=[102,111,114]:=rfl
theorem d4:yU.data.toList=[97,110,100]:=rfl
theorem d5:oR.data.toList=[115,101,116]:=rfl
theorem d6:FO.data.toList=[108,105,115,116]:=rfl
theorem d7:TX.data.toList=[32,108,105,115,116,32]:=rfl
theorem d8:Q0.data.toList=[32,111,102,32]:=rfl
theorem d9:XE.data.toList=[32,102,111,114,32]:=rfl
theorem YE:WS.data.toList=[32,97,110,100,32]:=rfl
theorem XW:SU.data.toList=[32,115,101,116,32]:=rfl
theorem BD(k q:Int)(l:List Int)(F:ByteArray):cF lY (iG k q l++[kK,F])=nQ k q l++Q0++F:=by
 unfold iG nQ;simp only[List.cons_append,List.nil_append,pG,pR];refine kI ?_;simp[d1,d2,d6,d7,d8]
theorem SX(k q:Int)(l:List Int)(F G:ByteArray):cF lY (iG k q l++[kK,F,yS,G])=nQ k q l++Q0++F++XE++G:=by
 unfold iG nQ;simp only[List.cons_append,List.nil_append,pG,pR];refine kI ?_;simp[d1,d2,d3,d6,d7,d8,d9]
theorem GV(k q:Int)(l:List Int)(S F:ByteArray):cF lY (iG k q l++[oR,S,kK,F])=nQ k q l++SU++S++Q0++F:=by
 unfold iG nQ;simp only[List.cons_append,List.nil_append,pG,pR];refine kI ?_;simp[d1,d2,d5,d6,d7,d8,XW]
theorem TA(k q:Int)(l:List Int)(S F G:ByteArray):cF lY (iG k q l++[oR,S,kK,F,yU,G])=nQ k q l++SU++S++Q0++F++WS++G:=by
 unfold iG nQ;simp only[List.cons_append,List.nil_append,pG,pR];refine kI ?_;simp[d1,d2,d4,d5,d6,d7,d8,YE,XW]
theorem MS(k:Int)(h:1<=k/\k<=7):eD k≠ByteArray.empty:=by
 have:(eD k).size≠0:=by
  rcases(show k=1∨k=2∨k=3∨k=4∨k=5∨k=6∨k=7 by omega) with rfl|rfl|rfl|rfl|rfl|rfl|rfl<;>decide
 intro e;exact this (V9.2 e)
theorem JE(k:Int)(h:¬(1<=k/\k<=7)):eD k=ByteArray.empty:=by
 unfold eD;rw[if_neg (by omega),if_neg (by omega),if_neg (by omega),if_neg (by omega),if_neg (by omega),if_neg (by omega),if_neg (by omega)];rfl
theorem vJ(b:ByteArray)(h:b.size≠0):¬ByteArray.empty=b:=fun e=>h (by rw[<-e];rfl)
theorem zG(k q:Int)(l:List Int)(r:List ByteArray):ByteArray.empty∈iG k q l++r↔(ByteArray.empty=eD k∨ByteArray.empty∈r):=by
 have a2:¬ByteArray.empty=cE (uV q):=fun e=>I6 _ e.symm;have a3:¬ByteArray.empty=FO:=vJ _ (by decide);have a4:¬ByteArray.empty=eY l:=fun e=>P6 _ e.symm;simp[iG,a2,a3,a4]
theorem kM(k n1:Int)(l1:List Int)(n2:Int)(l2:List Int)(n3:Int)(l3:List Int)(q st:Int)(l4:List Int)(A:1<=k/\k<=7)(r:List ByteArray)(hr:gU k (bT n1 st) (eM n1 l1) (eM n2 l2) (fV n3 l3)=r):
  lW k n1 l1 n2 l2 n3 l3 q st l4=if Lib.containsS r ByteArray.empty=true then ByteArray.empty else cF lY (iG k q l4++r):=by
 have z:jH k n1 l1 n2 l2 n3 l3 q st l4=iG k q l4++r:=by unfold jH;rw[hr]
 unfold lW;rw[z];have D:¬ByteArray.empty=eD k:=fun e=>MS k A e.symm
 by_cases o:Lib.containsS r ByteArray.empty=true
 ·rw[if_pos o,if_pos ((Lib.containsS_iff _ _).2 ((zG k q l4 r).2 (.inr ((Lib.containsS_iff _ _).1 o))))]
 ·rw[if_neg o,if_neg (fun h=>((zG k q l4 r).1 ((Lib.containsS_iff _ _).1 h)).elim D (fun h=>o ((Lib.containsS_iff _ _).2 h)))]
theorem uO:¬ByteArray.empty=kK:=vJ _ (by decide)
theorem WL:¬ByteArray.empty=yS:=vJ _ (by decide)
theorem VS:¬ByteArray.empty=yU:=vJ _ (by decide)
theorem J5:¬ByteArray.empty=oR:=vJ _ (by decide)
end
section
open Go.RowKit Go.G5
theorem FE(k n1:Int)(v1:Value)(l1:List Int)(n2:Int)(v2:Value)(l2:List Int)(n3:Int)(v3:Value)(l3:List Int)(q st:Int)(v4:Value)(l4:List Int)(w:World)
  (h1:aD w v1 l1) (h2:aD w v2 l2) (h3:aD w v3 l3) (h4:aD w v4 l4):
  Calls Tryz.prog 67 #[clV k n1 v1 n2 v2 n3 v3 q st v4] w fun e w'=>e=.returned (.string (lW k n1 l1 n2 l2 n3 l3 q st l4))/\Below w.heap.size w w':=by
 have K0:=aB.new w 49 (clC k n1 v1 n2 v2 n3 v3 q st v4);have Z:=tD k (w.alloc (.cells (clC k n1 v1 n2 v2 n3 v3 q st v4) 49))
 by_cases hk:1<=k/\k<=7
 ·have c5:=MS k hk
  have f0:=sR k;obtain⟨W,hW⟩:∃W,W=eD k:=⟨_,rfl⟩;rw[<-hW]at Z c5 f0;have b8:=mA W;rw[decide_eq_false c5]at b8;have a9:=Lib.hid Z;have HW:=Lib.hid hW;have e9:max (-99999) (min 99999 q)=uV q:=rfl;clear Z hW c5;go_enter Tryz.func67,Tryz.ntmps67;go_wp2_with fail;refine a9.out.mono ?_;rintro e w1 ⟨rfl,b1⟩;have B1:Below w.heap.size w w1:=(aM _ _).after b1 (by simp);have K1:=K0.keep b1;clear K0 b1 a9;have G1:=K1.cell;have e6:=mC (uV q) (wO q);have e7:=xZ l4;go_upto_region 3 with fail;go_cut [4] (fun v wx=>∃X,v=.string X/\X=nQ k q l4/\X.size<=1000/\Below w1.heap.size w1 wx)
  case rest=>
   obtain⟨X,rfl,hX,l9,b2⟩:=hcut;have B2:=B1.after b2 B1.size;have K2:=K1.keep b2;have HX:=Lib.hid hX;clear hX G1 b2 K1 e6 e7 f0 b8 e9 h4;have h8:=qK n1 l1;have h9:=qK n2 l2;have i1:=qI n1 st;have h7:=AW n3 l3;have hf:=yA n1 l1 v1 wc (h1.below B2 (Nat.le_refl _));have hg:=fun(W':World) (hb:Below wc.heap.size wc W')=>yA n2 l2 v2 W' ((h2.below B2 (Nat.le_refl _)).keep hb);have hs:=fun(W':World)=>xQ n1 st W';have ha:=fun(W':World) (hb:Below wc.heap.size wc W')=>LT n3 l3 v3 W' ((h3.below B2 (Nat.le_refl _)).keep hb);obtain⟨F,hF⟩:∃F,F=eM n1 l1:=⟨_,rfl⟩;obtain⟨G,hG⟩:∃G,G=eM n2 l2:=⟨_,rfl⟩;obtain⟨S,hS⟩:∃S,S=bT n1 st:=⟨_,rfl⟩;obtain⟨A,hA⟩:∃A,A=fV n3 l3:=⟨_,rfl⟩;rw[<-hF]at hf h8;rw[<-hG]at hg h9;rw[<-hS]at hs i1;rw[<-hA]at ha h7;have HF:=Lib.hid hf;have HG:=Lib.hid hg;have HS:=Lib.hid hs;have HA:=Lib.hid ha;have O:=Lib.hid (And.intro hF (And.intro hG (And.intro hS hA)));clear hf hg hs ha hF hG hS hA h1 h2 h3;have G2:=K2.cell;go_wp2_with fail;refine HF.out.mono ?_;rintro e w3 ⟨rfl,b3⟩;have K3:=K2.keep b3;clear G2;have G3:=K3.cell;go_wp2_with fail;refine(HG.out w3 b3).mono ?_;rintro e w4 ⟨rfl,b4⟩;have b4:=b3.after b4 b3.size;have K4:=K2.keep b4;clear G3 K3;have G4:=K4.cell;go_wp2_with fail;refine(HS.out w4).mono ?_;rintro e w5 ⟨rfl,b5⟩;have b5:=b4.after b5 b4.size;have K5:=K2.keep b5;have R:=B2.after b5 B2.size;clear G4 K4 K2;have G5:=K5.cell;have Q:=mA F;have b7:=mA G;have Y:=mA S
   by_cases k2:k=2
   ·subst k2
    have o:=kM 2 n1 l1 n2 l2 n3 l3 q st l4 hk [kK,F] (by rw[O.out.1];rfl);rw[BD,<-HX.out]at o
    cases hb:decide (F=ByteArray.empty) with
    |true=>
     rw[hb]at Q;rw[if_pos ((Lib.containsS_iff _ _).2 (by rw[of_decide_eq_true hb];simp))]at o;have K:=Lib.hid o;clear o hb;go_wp2;go_ret;exact⟨bG K.out.symm,R.after (Below.refl _ _) (Nat.le_refl _)⟩
    |false=>
     rw[hb]at Q;have I:¬ByteArray.empty=F:=fun e=>of_decide_eq_false hb e.symm;rw[if_neg (fun h=>by have:=(Lib.containsS_iff _ _).1 h;simp[uO,I]at this)]at o;have K:=Lib.hid o;clear o hb I;go_wp2;go_ret;exact⟨bG K.out.symm,R.after (Below.refl _ _) (Nat.le_refl _)⟩
   ·by_cases k3:k=3
    ·subst k3
     have o:=kM 3 n1 l1 n2 l2 n3 l3 q st l4 hk [kK,F,yS,G] (by rw[O.out.1,O.out.2.1];rfl);rw[SX,<-HX.out]at o
     cases z:decide (F=ByteArray.empty) with
     |true=>
      rw[z]at Q;rw[if_pos ((Lib.containsS_iff _ _).2 (by rw[of_decide_eq_true z];simp))]at o;have K:=Lib.hid o;clear o z;go_wp2;go_ret;exact⟨bG K.out.symm,R⟩
     |false=>
      rw[z]at Q;have I:¬ByteArray.empty=F:=fun e=>of_decide_eq_false z e.symm;clear z
      cases M:decide (G=ByteArray.empty) with
      |true=>
       rw[M]at b7;rw[if_pos ((Lib.containsS_iff _ _).2 (by rw[of_decide_eq_true M];simp))]at o;have K:=Lib.hid o;clear o M I;go_wp2;go_ret;exact⟨bG K.out.symm,R⟩
      |false=>
       rw[M]at b7;have a1:¬ByteArray.empty=G:=fun e=>of_decide_eq_false M e.symm;clear M;rw[if_neg (fun h=>by have:=(Lib.containsS_iff _ _).1 h;simp[uO,WL,I,a1]at this)]at o;have K:=Lib.hid o;clear o I a1;go_wp2;go_ret;exact⟨bG K.out.symm,R⟩
    ·by_cases k4:k=4
     ·subst k4
      have o:=kM 4 n1 l1 n2 l2 n3 l3 q st l4 hk [oR,S,kK,F,yU,G] (by rw[O.out.1,O.out.2.1,O.out.2.2.1];rfl);rw[TA,<-HX.out]at o
      cases z:decide (F=ByteArray.empty) with
      |true=>
       rw[z]at Q;rw[if_pos ((Lib.containsS_iff _ _).2 (by rw[of_decide_eq_true z];simp))]at o;have K:=Lib.hid o;clear o z;go_wp2;go_ret;exact⟨bG K.out.symm,R⟩
      |false=>
       rw[z]at Q;have I:¬ByteArray.empty=F:=fun e=>of_decide_eq_false z e.symm;clear z
       cases M:decide (G=ByteArray.empty) with
       |true=>
        rw[M]at b7;rw[if_pos ((Lib.containsS_iff _ _).2 (by rw[of_decide_eq_true M];simp))]at o;have K:=Lib.hid o;clear o M I;go_wp2;go_ret;exact⟨bG K.out.symm,R⟩
       |false=>
        rw[M]at b7;have a1:¬ByteArray.empty=G:=fun e=>of_decide_eq_false M e.symm;clear M
        cases D:decide (S=ByteArray.empty) with
        |true=>
         rw[D]at Y;rw[if_pos ((Lib.containsS_iff _ _).2 (by rw[of_decide_eq_true D];simp))]at o;have K:=Lib.hid o;clear o D I a1;go_wp2;go_ret;exact⟨bG K.out.symm,R⟩
        |false=>
         rw[D]at Y;have U:¬ByteArray.empty=S:=fun e=>of_decide_eq_false D e.symm;clear D;rw[if_neg (fun h=>by have:=(Lib.containsS_iff _ _).1 h;simp[uO,VS,J5,I,a1,U]at this)]at o;have K:=Lib.hid o;clear o I a1 U;go_wp2;go_ret;exact⟨bG K.out.symm,R⟩
     ·by_cases k1:k=1
      ·subst k1
       have o:=kM 1 n1 l1 n2 l2 n3 l3 q st l4 hk [oR,S,kK,F] (by rw[O.out.1,O.out.2.2.1];rfl);rw[GV,<-HX.out]at o
       cases z:decide (F=ByteArray.empty) with
       |true=>
        rw[z]at Q;rw[if_pos ((Lib.containsS_iff _ _).2 (by rw[of_decide_eq_true z];simp))]at o;have K:=Lib.hid o;clear o z;go_wp2;go_ret;exact⟨bG K.out.symm,R⟩
       |false=>
        rw[z]at Q;have I:¬ByteArray.empty=F:=fun e=>of_decide_eq_false z e.symm;clear z
        cases D:decide (S=ByteArray.empty) with
        |true=>
         rw[D]at Y;rw[if_pos ((Lib.containsS_iff _ _).2 (by rw[of_decide_eq_true D];simp))]at o;have K:=Lib.hid o;clear o D I;go_wp2;go_ret;exact⟨bG K.out.symm,R⟩
        |false=>
         rw[D]at Y;have U:¬ByteArray.empty=S:=fun e=>of_decide_eq_false D e.symm;clear D;rw[if_neg (fun h=>by have:=(Lib.containsS_iff _ _).1 h;simp[uO,J5,I,U]at this)]at o;have K:=Lib.hid o;clear o I U;go_wp2;go_ret;exact⟨bG K.out.symm,R⟩
      ·by_cases k5:k=5
       ·subst k5
        have o:=kM 5 n1 l1 n2 l2 n3 l3 q st l4 hk [oR,S,kK,F] (by rw[O.out.1,O.out.2.2.1];rfl);rw[GV,<-HX.out]at o
        cases z:decide (F=ByteArray.empty) with
        |true=>
         rw[z]at Q;rw[if_pos ((Lib.containsS_iff _ _).2 (by rw[of_decide_eq_true z];simp))]at o;have K:=Lib.hid o;clear o z;go_wp2;go_ret;exact⟨bG K.out.symm,R⟩
        |false=>
         rw[z]at Q;have I:¬ByteArray.empty=F:=fun e=>of_decide_eq_false z e.symm;clear z
         cases D:decide (S=ByteArray.empty) with
         |true=>
          rw[D]at Y;rw[if_pos ((Lib.containsS_iff _ _).2 (by rw[of_decide_eq_true D];simp))]at o;have K:=Lib.hid o;clear o D I;go_wp2;go_ret;exact⟨bG K.out.symm,R⟩
         |false=>
          rw[D]at Y;have U:¬ByteArray.empty=S:=fun e=>of_decide_eq_false D e.symm;clear D;rw[if_neg (fun h=>by have:=(Lib.containsS_iff _ _).1 h;simp[uO,J5,I,U]at this)]at o;have K:=Lib.hid o;clear o I U;go_wp2;go_ret;exact⟨bG K.out.symm,R⟩
       ·have e8:k=6∨k=7:=by omega
        clear k1 k2 k3 k4 k5
        rcases e8 with rfl|rfl
        ·have o:=kM 6 n1 l1 n2 l2 n3 l3 q st l4 hk [kK,A] (by rw[O.out.2.2.2];rfl)
         rw[BD,<-HX.out]at o;have a6:=mA A;go_wp2_with fail;refine(HA.out w5 b5).mono ?_;rintro e w6 ⟨rfl,b6⟩;have B6:=R.after b6 R.size
         cases L:decide (A=ByteArray.empty) with
         |true=>
          rw[L]at a6;rw[if_pos ((Lib.containsS_iff _ _).2 (by rw[of_decide_eq_true L];simp))]at o;have K:=Lib.hid o;clear o L;go_wp2;go_ret;exact⟨bG K.out.symm,B6⟩
         |false=>
          rw[L]at a6;have a8:¬ByteArray.empty=A:=fun e=>of_decide_eq_false L e.symm;rw[if_neg (fun h=>by have:=(Lib.containsS_iff _ _).1 h;simp[uO,a8]at this)]at o;have K:=Lib.hid o;clear o L a8;go_wp2;go_ret;exact⟨bG K.out.symm,B6⟩
        ·have o:=kM 7 n1 l1 n2 l2 n3 l3 q st l4 hk [kK,A] (by rw[O.out.2.2.2];rfl)
         rw[BD,<-HX.out]at o;have a6:=mA A;go_wp2_with fail;refine(HA.out w5 b5).mono ?_;rintro e w6 ⟨rfl,b6⟩;have B6:=R.after b6 R.size
         cases L:decide (A=ByteArray.empty) with
         |true=>
          rw[L]at a6;rw[if_pos ((Lib.containsS_iff _ _).2 (by rw[of_decide_eq_true L];simp))]at o;have K:=Lib.hid o;clear o L;go_wp2;go_ret;exact⟨bG K.out.symm,B6⟩
         |false=>
          rw[L]at a6;have a8:¬ByteArray.empty=A:=fun e=>of_decide_eq_false L e.symm;rw[if_neg (fun h=>by have:=(Lib.containsS_iff _ _).1 h;simp[uO,a8]at this)]at o;have K:=Lib.hid o;clear o L a8;go_wp2;go_ret;exact⟨bG K.out.symm,B6⟩
  case first=>
  have c7:=G1 7;have c9:=G1 9;simp only[clC,List.getElem?_toArray,List.getElem?_cons_zero,List.getElem?_cons_succ]at c7 c9;have q7:∀y:Ext w1,y.w.cell? ⟨w.heap.size,7,none⟩=some (.int .i64 q):=fun y=>y.cell c7;have q9:∀y:Ext w1,y.w.cell? ⟨w.heap.size,9,none⟩=some v4:=fun y=>y.cell c9;have QN:=fun y:Ext w1=>uE (uV q) (wO q) y.w;have QT:=fun y:Ext w1=>VN l4 v4 y.w ((h4.below B1 (Nat.le_refl _)).keep y.b);obtain⟨N,hN⟩:∃N,N=cE (uV q):=⟨_,rfl⟩;obtain⟨T,hT⟩:∃T,T=eY l4:=⟨_,rfl⟩;rw[<-hN]at QN e6;rw[<-hT]at QT e7;have QN:=Lib.hid QN;have QT:=Lib.hid QT;have HN:=Lib.hid hN;have HT:=Lib.hid hT;clear c7 c9 hN hT;refine aO _ (by kernel_rfl) (by kernel_rfl) ?_
  repeat(first|go_big_quiet_skip|(go_big_quiet_want;go_big_quiet_op;first|go_big_quiet_on|(apply Exists.intro;refine⟨fun _=>?_,?_⟩;(first|(go_at_call 75;with_reducible exact aV (QN.out _))|(go_at_call 210;with_reducible exact aV (QT.out _)));go_big_quiet_on)))
  refine wpQuiet_nil ?_;rintro w2 ⟨⟨w2,b2⟩,rfl⟩
  try dsimp only
  have i6:(W++{ data:=#[32] }++N++{ data:=#[32,108,105,115,116,32] }++T).size<=1000:=by
   simp only[ByteArray.size_append];have s1:(ByteArray.mk #[32]).size=1:=rfl;have s2:(ByteArray.mk #[32,108,105,115,116,32]).size=6:=rfl;omega
  go_wp2_with fail;go_meet;exact⟨_,rfl,by rw[HW.out,HN.out,HT.out];rfl,i6,b2⟩
 ·have hx:lW k n1 l1 n2 l2 n3 l3 q st l4=ByteArray.empty:=by
   unfold lW;rw[if_pos];rw[Lib.containsS_iff];unfold jH;rw[zG];exact .inl (JE k hk).symm
  rw[JE k hk]at Z;have a9:=Lib.hid Z;have HX:=Lib.hid hx;clear Z hx hk;go_enter Tryz.func67,Tryz.ntmps67;go_wp2_with fail;refine a9.out.mono ?_;rintro e w1 ⟨rfl,b1⟩;go_wp2;go_ret;exact⟨bG HX.out.symm,(aM _ _).after b1 (by simp)⟩
end
end Go.Proofs.YtipejodijbjpcaaGreatDoor
