/- Lemmas for CardConsoleResults. No condition. -/
import Derived.Test.YtkdbkjjacgigiaaGreatDoorQ11
set_option maxRecDepth 100000
set_option maxHeartbeats 64000000
namespace Go.Proofs.YtkdbkjjacgigiaaGreatDoor
section
open Go.RowKit Go.G5 Go.Proofs.Tryz
def tG:List Int->Int->Int
 |[],b=>b
 |s::r,b=>tG r (if bY s.toNat<bY b.toNat then s else b)
def kY(g:Int)(l:List Int):Bool:=aU g l&&!((lD g l).length==0)
def mQ(g:Int)(l:List Int):Int:=if kY g l then tG (lD g l) ((lD g l).getD 0 0) else 0
def uJ(g:Int)(l:List Int):Int:=if kY g l then ((bY (mQ g l).toNat:Nat):Int) else 0
theorem SD(S:List Int):∀(r:List Int) (b:Int),(∀x∈r,x∈S)->b∈S->tG r b∈S
 |[],_,_,h=>h
 |s::r,b,h1,h2=>by
  rw[tG];refine SD S r _ (fun x z=>h1 x (List.mem_cons_of_mem _ z)) ?_
  split
  ·exact h1 s (by simp)
  ·exact h2
theorem MI(l:List Int)(j:Nat)(h:j<l.length)(b:Int):tG (l.drop j) b=tG (l.drop (j+1)) (if bY (l[j]).toNat<bY b.toNat then l[j] else b):=by
 rw[List.drop_eq_getElem_cons h,tG]
theorem Z8(l:List Int)(h:0<l.length):tG (l.drop 1) l[0]=tG l l[0]:=by
 have:=MI l 0 h l[0];rw[List.drop_zero]at this;rw[this];simp
theorem arC(g:Int)(l:List Int):0<=mQ g l/\mQ g l<64:=by
 unfold mQ
 split
 ·rename_i h;unfold kY at h;simp only[Bool.and_eq_true,Bool.not_eq_true',beq_eq_false_iff_ne]at h;have hl:0<(lD g l).length:=by have:=h.2;omega
  refine PH g l _ (SD (lD g l) _ _ (fun x z=>z) ?_);rw[List.getD_eq_getElem?_getD,List.getElem?_eq_getElem hl];simp
 ·omega
theorem YU(g:Int)(l:List Int):0<=uJ g l/\uJ g l<=8:=by
 unfold uJ;have h:=arC g l
 split
 ·have:=vY (mQ g l).toNat aD;omega
 ·omega
theorem O3(x:Int)(w:World)(z:0<=x)(h1:x<64):Calls prog 214 #[x] w fun e w'=>e=.returned (aG ((bY x.toNat:Nat):Int))/\w=w':=by
 obtain⟨n,rfl⟩:=Int.eq_ofNat_of_zero_le z;exact fH n w aD
theorem YJ(x:Int)(w:World)(z:0<=x)(h1:x<64):Calls prog 84 #[x] w fun e w'=>e=.returned (aG ((bY x.toNat:Nat):Int))/\w=w':=by
 obtain⟨n,rfl⟩:=Int.eq_ofNat_of_zero_le z;exact lQ n w aD
theorem aiB{p:Prop}(h:p:=by
  rw[HF.out];go_wp2;exact bodyPost_ret (v:=.tuple #[aB,aB,.bool false]) (by simp[results,results232,go_sem]) rfl ⟨by rw[H.out.1,H.out.2.1,H.out.2.2],B2⟩):p:=h
theorem apK(w:World)(g:Int)(v:Value)(l:List Int)(hv:aK w v l)(hl:l.length<=1048576):
  Calls prog 232 #[.agg #[g,v]] w fun e w'=>e=.returned (.tuple #[(uJ g l),(mQ g l),.bool (kY g l)])/\Below w w w':=by
 have b5:=hv;obtain⟨a,c,rfl⟩:=hv.shape;have K0:=aP.new w 29 #[g,aA a l.length c];have f0:=UM g l;have b0:=PH g l;obtain⟨L,M⟩:=aJ (lD g l);have J:kY g l=(aU g l&&!(L.length==0)):=by unfold kY;rw[M]
 have hS:kY g l=true->mQ g l=tG L (L.getD 0 0):=fun h=>by unfold mQ;rw[if_pos h,M]
 have hN:kY g l=true->uJ g l=((bY (mQ g l).toNat:Nat):Int):=fun h=>by unfold uJ;rw[if_pos h]
 have N:kY g l=false->mQ g l=0/\uJ g l=0:=fun h=>by unfold uJ mQ;rw[h];exact⟨rfl,rfl⟩
 rw[<-M]at f0 b0;have b3:=fun(W:World) (h:aK W (aA a l.length c) l)=>M9 W g _ l h hl;simp only[<-M]at b3;have a8:=aH b3;clear b3 M
 cases S:aU g l with
 |false=>
  have h0:kY g l=false:=by rw[J,S];rfl
  have D:=N h0;have H:=aH (And.intro D.1 (And.intro D.2 h0));have HF:=aH S;clear J hS hN N h0 D S;go_enter func232,ntmps232;go_wp2_with fail;refine(a8.out _ (b5.alloc _)).mono ?_;rintro e w1 ⟨p1,i1,K,rfl,o1,b1⟩;have R:i1=L.length:=o1.ints.capLe.1;subst R;have Z:Below w w w1:=(bF _ _).after b1 (by simp);have K1:=aP.new w1 29 #[(gS g l),aA p1 L.length K];have B2:=Z.alloc Z.size (.cells #[(gS g l),aA p1 L.length K] 29);have hI:=o1.ints.alloc (.cells #[(gS g l),aA p1 L.length K] 29);exact aiB
 |true=>
  by_cases hz:L.length=0
  ·have h0:kY g l=false:=by rw[J,S,hz];rfl
   have D:=N h0;have H:=aH (And.intro D.1 (And.intro D.2 h0));have HF:=aH S;have g2:((L.length:Int)==0)=true:=by simp[hz]
   clear J hS hN N h0 D S hz;go_enter func232,ntmps232;go_wp2_with fail;refine(a8.out _ (b5.alloc _)).mono ?_;rintro e w1 ⟨p1,i1,K,rfl,o1,b1⟩;have R:i1=L.length:=o1.ints.capLe.1;subst R;have Z:Below w w w1:=(bF _ _).after b1 (by simp);have K1:=aP.new w1 29 #[(gS g l),aA p1 L.length K];have B2:=Z.alloc Z.size (.cells #[(gS g l),aA p1 L.length K] 29);have hI:=o1.ints.alloc (.cells #[(gS g l),aA p1 L.length K] 29);have G:=K1.cell;exact aiB
  ·have h1:kY g l=true:=by rw[J,S];simp[hz]
   have I:0<L.length:=aD;have hs:=hS h1;have hn:=hN h1;rw[List.getD_eq_getElem?_getD,List.getElem?_eq_getElem I,Option.getD_some]at hs;have H:=aH (And.intro hs (And.intro hn h1));have HF:=aH S;have g2:((L.length:Int)==0)=false:=by rw[beq_eq_false_iff_ne];omega
   have b7:=aH b0;clear J hS hN N h1 hs hn S hz b0;go_enter func232,ntmps232;go_wp2_with fail;refine(a8.out _ (b5.alloc _)).mono ?_;rintro e w1 ⟨p1,i1,K,rfl,o1,b1⟩;have R:i1=L.length:=o1.ints.capLe.1;subst R;have Z:Below w w w1:=(bF _ _).after b1 (by simp);have K1:=aP.new w1 29 #[(gS g l),aA p1 L.length K];have B2:=Z.alloc Z.size (.cells #[(gS g l),aA p1 L.length K] 29);have hI:=o1.ints.alloc (.cells #[(gS g l),aA p1 L.length K] 29);have G:=K1.cell;rw[HF.out];obtain⟨pv,b,g6,cv,f6,c6,b4,hc,hb⟩:=hI.view prog 25 3 underlying25 aN;injection f6 with e1 _ e3;subst e1 e3;have f2:=hc 0 I;have g7:∀W:World,(Instr.indexAt 25 (aA p1 L.length K) (aG 0)).run prog W=.ok (.pointer (some ⟨b,g6,none⟩)) W:=fun W=>b4 W 0 I;rw[Nat.add_zero]at f2;have HC:=aH hc;have e8:=aH b4;clear hc b4 c6;have O:=b7.out _ (List.getElem_mem I);have b9:=O.1;have c5:=O.2;clear O;go_wp2_with fail;go_loopw [7,30] (fun bv iv wr=>∃(j:Nat) (x:Int),j<=L.length/\iv=aG j/\bv=aG x/\0<=x/\x<64/\tG (L.drop j) x=mQ g l/\wr=w1.alloc (.cells #[(gS g l),aA p1 L.length K] 29)) (fun _ iv _=>L.length-(intOf iv).toNat)
   case atStart=>exact⟨0,L[0],Nat.zero_le _,rfl,rfl,b9,c5,by rw[List.drop_zero,H.out.1],rfl⟩
   case round=>
    obtain⟨j,x,hj,rfl,rfl,f7,f8,F,rfl⟩:=hrel;by_cases hlt:j<L.length
    ·have c7:(j:Int)<(L.length:Int):=aD;have f3:=HC.out j hlt;have h9:=fun W=>e8.out W j hlt;have Y:=b7.out _ (List.getElem_mem hlt);have z:=MI L j hlt x;rw[F]at z;obtain⟨y,hy⟩:=aJ (L[j]);rw[<-hy]at f3 Y z;have f9:=Y.1;have g0:=Y.2;clear hy Y F;by_cases hp:bY y.toNat<bY x.toNat
     ·have f4:((bY y.toNat:Nat):Int)<((bY x.toNat:Nat):Int):=by exact_mod_cast hp
      rw[if_pos hp]at z;have a7:=aH z;clear z hp;go_wp2_with (go_at_call 214;refine(O3 _ _ ?_ ?_).mono ?_;assumption;assumption;rintro e w2 ⟨rfl,rfl⟩);go_roundw
      case rel=>exact⟨j+1,y,by omega,by go_num,rfl,f9,g0,a7.out.symm,trivial⟩
      case measure=>simp[intOf];omega
     ·have f4:¬((bY y.toNat:Nat):Int)<((bY x.toNat:Nat):Int):=by exact_mod_cast hp
      rw[if_neg hp]at z;have a7:=aH z;clear z hp;go_wp2_with (go_at_call 214;refine(O3 _ _ ?_ ?_).mono ?_;assumption;assumption;rintro e w2 ⟨rfl,rfl⟩);go_roundw
      case rel=>exact⟨j+1,x,by omega,by go_num,rfl,f7,f8,a7.out.symm,trivial⟩
      case measure=>simp[intOf];omega
    ·have c7:¬(j:Int)<(L.length:Int):=aD;have a1:x=mQ g l:=by rw[<-F,show j=L.length by omega,List.drop_length];rfl
     have e7:=aH a1;clear F a1;go_wp2_with (go_at_call 214;refine(O3 _ _ ?_ ?_).mono ?_;assumption;assumption;rintro e w2 ⟨rfl,rfl⟩);exact bodyPost_ret (v:=.tuple #[aG ((bY x.toNat:Nat):Int),x,.bool true]) (by simp[results,results232,go_sem]) rfl ⟨by rw[H.out.2.1,H.out.2.2,e7.out],B2⟩
theorem aiC{p:Prop}(h:p:=by
  rw[HF.out];go_wp2;exact bodyPost_ret (v:=.tuple #[aB,aB,.bool false]) (by simp[results,results65,go_sem]) rfl ⟨by rw[H.out.1,H.out.2.1,H.out.2.2],B2⟩):p:=h
theorem apL(w:World)(g:Int)(v:Value)(l:List Int)(hv:aK w v l)(hl:l.length<=1048576):
  Calls prog 65 #[.agg #[g,v]] w fun e w'=>e=.returned (.tuple #[(uJ g l),(mQ g l),.bool (kY g l)])/\Below w w w':=by
 have b5:=hv;obtain⟨a,c,rfl⟩:=hv.shape;have K0:=aP.new w 29 #[g,aA a l.length c];have f0:=UM g l;have b0:=PH g l;obtain⟨L,M⟩:=aJ (lD g l);have J:kY g l=(aU g l&&!(L.length==0)):=by unfold kY;rw[M]
 have hS:kY g l=true->mQ g l=tG L (L.getD 0 0):=fun h=>by unfold mQ;rw[if_pos h,M]
 have hN:kY g l=true->uJ g l=((bY (mQ g l).toNat:Nat):Int):=fun h=>by unfold uJ;rw[if_pos h]
 have N:kY g l=false->mQ g l=0/\uJ g l=0:=fun h=>by unfold uJ mQ;rw[h];exact⟨rfl,rfl⟩
 rw[<-M]at f0 b0;have b3:=fun(W:World) (h:aK W (aA a l.length c) l)=>NA W g _ l h hl;simp only[<-M]at b3;have a8:=aH b3;clear b3 M
 cases S:aU g l with
 |false=>
  have h0:kY g l=false:=by rw[J,S];rfl
  have F:=N h0;have H:=aH (And.intro F.1 (And.intro F.2 h0));have HF:=aH S;clear J hS hN N h0 F S;go_enter func65,ntmps65;go_wp2_with fail;refine(a8.out _ (b5.alloc _)).mono ?_;rintro e w1 ⟨p1,i1,K,rfl,o1,b1⟩;have R:i1=L.length:=o1.ints.capLe.1;subst R;have Z:Below w w w1:=(bF _ _).after b1 (by simp);have K1:=aP.new w1 29 #[(gS g l),aA p1 L.length K];have B2:=Z.alloc Z.size (.cells #[(gS g l),aA p1 L.length K] 29);have hI:=o1.ints.alloc (.cells #[(gS g l),aA p1 L.length K] 29);exact aiC
 |true=>
  by_cases hz:L.length=0
  ·have h0:kY g l=false:=by rw[J,S,hz];rfl
   have F:=N h0;have H:=aH (And.intro F.1 (And.intro F.2 h0));have HF:=aH S;have g2:((L.length:Int)==0)=true:=by simp[hz]
   clear J hS hN N h0 F S hz;go_enter func65,ntmps65;go_wp2_with fail;refine(a8.out _ (b5.alloc _)).mono ?_;rintro e w1 ⟨p1,i1,K,rfl,o1,b1⟩;have R:i1=L.length:=o1.ints.capLe.1;subst R;have Z:Below w w w1:=(bF _ _).after b1 (by simp);have K1:=aP.new w1 29 #[(gS g l),aA p1 L.length K];have B2:=Z.alloc Z.size (.cells #[(gS g l),aA p1 L.length K] 29);have hI:=o1.ints.alloc (.cells #[(gS g l),aA p1 L.length K] 29);have G:=K1.cell;exact aiC
  ·have h1:kY g l=true:=by rw[J,S];simp[hz]
   have z:0<L.length:=aD;have hs:=hS h1;have hn:=hN h1;rw[List.getD_eq_getElem?_getD,List.getElem?_eq_getElem z,Option.getD_some]at hs;have H:=aH (And.intro hs (And.intro hn h1));have HF:=aH S;have g2:((L.length:Int)==0)=false:=by rw[beq_eq_false_iff_ne];omega
   have b7:=aH b0;clear J hS hN N h1 hs hn S hz b0;go_enter func65,ntmps65;go_wp2_with fail;refine(a8.out _ (b5.alloc _)).mono ?_;rintro e w1 ⟨p1,i1,K,rfl,o1,b1⟩;have R:i1=L.length:=o1.ints.capLe.1;subst R;have Z:Below w w w1:=(bF _ _).after b1 (by simp);have K1:=aP.new w1 29 #[(gS g l),aA p1 L.length K];have B2:=Z.alloc Z.size (.cells #[(gS g l),aA p1 L.length K] 29);have hI:=o1.ints.alloc (.cells #[(gS g l),aA p1 L.length K] 29);have G:=K1.cell;rw[HF.out];obtain⟨pv,b,g6,cv,f6,c6,b4,hc,hb⟩:=hI.view prog 25 3 underlying25 aN;injection f6 with e1 _ e3;subst e1 e3;have f2:=hc 0 z;have g7:∀W:World,(Instr.indexAt 25 (aA p1 L.length K) (aG 0)).run prog W=.ok (.pointer (some ⟨b,g6,none⟩)) W:=fun W=>b4 W 0 z;rw[Nat.add_zero]at f2;have HC:=aH hc;have e8:=aH b4;clear hc b4 c6;have O:=b7.out _ (List.getElem_mem z);have b9:=O.1;have c5:=O.2;clear O;go_wp2_with fail;go_loopw [7,8] (fun bv iv wr=>∃(j:Nat) (x:Int),1<=j/\j<=L.length/\iv=aG j/\bv=aG x/\0<=x/\x<64/\tG (L.drop j) x=mQ g l/\wr=w1.alloc (.cells #[(gS g l),aA p1 L.length K] 29)) (fun _ iv _=>L.length-(intOf iv).toNat)
   case atStart=>exact⟨1,L[0],aI,z,rfl,rfl,b9,c5,by rw[Z8 L z,H.out.1],rfl⟩
   case round=>
    obtain⟨j,x,h9,hj,rfl,rfl,f7,f8,I,rfl⟩:=hrel;by_cases hlt:j<L.length
    ·have c7:(j:Int)<(L.length:Int):=aD;have f3:=HC.out j hlt;have i6:=fun W=>e8.out W j hlt;have Y:=b7.out _ (List.getElem_mem hlt);have D:=MI L j hlt x;rw[I]at D;obtain⟨y,hy⟩:=aJ (L[j]);rw[<-hy]at f3 Y D;have f9:=Y.1;have g0:=Y.2;clear hy Y I;by_cases hp:bY y.toNat<bY x.toNat
     ·have f4:((bY y.toNat:Nat):Int)<((bY x.toNat:Nat):Int):=by exact_mod_cast hp
      rw[if_pos hp]at D;have a7:=aH D;clear D hp;go_wp2_with (go_at_call 84;refine(YJ _ _ ?_ ?_).mono ?_;assumption;assumption;rintro e w2 ⟨rfl,rfl⟩);go_roundw
      case rel=>exact⟨j+1,y,by omega,by omega,by go_num,rfl,f9,g0,a7.out.symm,trivial⟩
      case measure=>simp[intOf];omega
     ·have f4:¬((bY y.toNat:Nat):Int)<((bY x.toNat:Nat):Int):=by exact_mod_cast hp
      rw[if_neg hp]at D;have a7:=aH D;clear D hp;go_wp2_with (go_at_call 84;refine(YJ _ _ ?_ ?_).mono ?_;assumption;assumption;rintro e w2 ⟨rfl,rfl⟩);go_roundw
      case rel=>exact⟨j+1,x,by omega,by omega,by go_num,rfl,f7,f8,a7.out.symm,trivial⟩
      case measure=>simp[intOf];omega
    ·have c7:¬(j:Int)<(L.length:Int):=aD;have a1:x=mQ g l:=by rw[<-I,show j=L.length by omega,List.drop_length];rfl
     have e7:=aH a1;clear I a1;go_wp2_with (go_at_call 84;refine(YJ _ _ ?_ ?_).mono ?_;assumption;assumption;rintro e w2 ⟨rfl,rfl⟩);exact bodyPost_ret (v:=.tuple #[aG ((bY x.toNat:Nat):Int),x,.bool true]) (by simp[results,results65,go_sem]) rfl ⟨by rw[H.out.2.1,H.out.2.2,e7.out],B2⟩
def CG(o x:List Int)(p:Int):Nat->List Int
 |0=>o
 |k+1=>(CG o x p k).set (x.getD k 0).toNat p
def fU(g:Nat)(L:List Int):Nat->List Int×Int
 |0=>(List.replicate g 0,2^g-1)
 |j+1=>(CG (fU g L j).1 (eK (bB (L.getD j 0) (fU g L j).2)) (60/cT (bB (L.getD j 0) (fU g L j).2)) (eK (bB (L.getD j 0) (fU g L j).2)).length,cG (fU g L j).2 (L.getD j 0))
def eG(g:Int)(l:List Int):List Int:=if eV g l then (fU g.toNat (dD g l) (dD g l).length).1 else []
theorem QP(o x:List Int)(p:Int)(k:Nat):(CG o x p k).length=o.length:=by
 induction k with
 |zero=>rfl
 |succ k ih=>rw[CG,List.length_set,ih]
theorem MS(g:Nat)(L:List Int)(j:Nat):(fU g L j).1.length=g:=by
 induction j with
 |zero=>simp[fU]
 |succ j ih=>rw[fU];simp only;rw[QP,ih]
theorem SS(g:Nat)(z:g<=6)(L:List Int)(j:Nat):0<=(fU g L j).2/\(fU g L j).2<2^g:=by
 have D:=cJ g 6 z
 induction j with
 |zero=>simp only[fU];omega
 |succ j ih=>rw[fU];exact mY _ _ _ ih.1 ih.2
theorem TO(l:List Int)(hl:∀s∈l,0<=s/\s<64):∀n z L,dJ l n z=some L->∀s∈L,0<=s/\s<64:=by
 intro n
 induction n with
 |zero=>
  intro z L h;simp only[dJ]at h
  split at h
  ·cases h;simp
  ·cases h
 |succ n ih=>
  intro z L h;simp only[dJ]at h
  split at h
  ·cases h;simp
  ·split at h
   ·cases h
   ·cases hr:dJ l n (cG z (fD l z)) with
    |none=>rw[hr]at h;cases h
    |some L'=>
     rw[hr]at h
     cases h
     intro s D;rcases List.mem_cons.1 D with rfl|D
     ·exact JL l z hl
     ·exact ih _ _ hr s D
theorem KU(g:Int)(l:List Int):∀s∈dD g l,0<=s/\s<64:=by
 unfold dD gD
 split
 ·rename_i z
  cases hr:dJ l 64 (2^g.toNat-1) with
  |none=>simp
  |some L=>exact TO l (dR z) _ _ _ hr
 ·simp
theorem KT{g:Int}{l:List Int}(h:eV g l=true):aU g l=true:=by
 unfold eV gD at h
 split at h
 ·rename_i z;exact z
 ·simp at h
theorem vP(g:Int)(l:List Int):(dD g l).length<=64:=by
 unfold dD gD
 split
 ·cases hr:dJ l 64 (2^g.toNat-1) with
  |none=>simp
  |some L=>exact apB l _ _ _ hr
 ·simp
theorem SB(s:Int)(h:s<64)(k:Nat)(hk:k<(eK s).length):1<=cT s/\cT s<=8:=by
 have:=aa3 s h;have:=wQ s aD;omega
theorem aiE{p:Prop}(h:p:=by
  go_wp2;go_roundw
  case rel=>exact⟨j+1,by omega,by go_num,by rw[k1.out],by rw[k1.out];exact m3.out,a8.out,⟨J,d1,B4,i7⟩,zi⟩
  case measure=>simp[intOf];omega):p:=h
theorem IY(w:World)(g:Int)(v:Value)(l:List Int)(hv:aK w v l)(R:l.length<=1048576):
  Calls prog 235 #[.agg #[g,v]] w fun e w'=>∃ad i cp,e=.returned (.tuple #[aA ad i cp,.bool (eV g l)])/\aM 3 w w' (aA ad i cp) (eG g l)/\Below w w w':=by
 obtain⟨a,c,rfl⟩:=hv.shape;obtain⟨J,d1,B1,z1⟩:=Box2.new w g (aA a l.length c) 29;obtain⟨W0,c7⟩:=aJ (w.alloc (.cells #[g,aA a l.length c] 29));rw[<-c7]at J d1 B1 z1;go_enter func235,ntmps235;go_wp2_with fail;rw[<-c7];clear c7;refine(IF _ g _ l (hv.below B1 aI) R).mono ?_;rintro e w1 ⟨p1,i1,q1,rfl,I,f4⟩;have X1:=(Box2.mk J d1 B1 z1).after f4;clear f4 J d1 B1 z1;obtain⟨J,d1,B1,z1⟩:=X1
 cases O:eV g l with
 |false=>
  have hx:eG g l=[]:=by unfold eG;rw[O];rfl
  have HX:=aH hx;have HG:=aH O;clear hx O I;go_wp2;go_ret2;exact⟨none,0,0,by rw[HG.out];rfl,by rw[HX.out];exact aM.nil _ _ _,B1⟩
 |true=>
  have hf:=KT O;obtain⟨h0,h6,_⟩:=dB hf;obtain⟨n,rfl⟩:=Int.eq_ofNat_of_zero_le h0;have hn:n<=6:=aD;have hp:=cJ n 6 hn;have q9:(2:Int)^n<=64:=by simpa using hp.1
  have r0:=hp.2;have hx:eG n l=(fU n (dD n l) (dD n l).length).1:=by unfold eG;rw[O];rfl
  have c6:=KU n l;have f2:=vP n l;obtain⟨L,f3⟩:=aJ (dD n l);rw[<-f3]at hx c6 f2 I;obtain⟨r6,r8,e1⟩:=I.shape;simp only[Value.slice.injEq]at e1;obtain⟨rfl,rfl,rfl⟩:=e1;have g0:∀W,aK W (aA a l.length c) l->Calls prog 302 #[.agg #[n,aA a l.length c]] W fun e w'=>e=.returned (aG (fU n L 0).2)/\Below W W w':=fun W hW=>iT n _ l W hW aD aD;have j8:=aH g0;have HX:=aH hx;have k0:=aH c6;have k2:=aH I;have rL:=I.lt;have HG:=aH O;clear hx c6 f3 O hf hp g0 I;go_wp2_with (at_make;refine kZ rfl _ _ _ rfl 3 underlying25 aN n _ _ rfl rfl rfl rfl aD ?_;intro w2 a6 O;have X2:=(Box2.mk J d1 B1 z1).grow O (by simp);have q7:=O.size;have rO:=a6.lt;have g9:=k2.out.grow O (by intro k hk;cases hk);have o2:=hv.below X2.B aI;clear O J d1;obtain⟨J,d1,B2,z2⟩:=X2);refine(j8.out _ o2).mono ?_;rintro e w3 ⟨rfl,f5⟩;have X3:=(Box2.mk J d1 B2 z2).after f5;have j3:=a6.keep f5;have o5:=g9.keep f5;have o3:w1.heap.size<w2.heap.size:=(rO _ rfl).2;have z3:=f5.size;clear J d1 B2 z2 a6 g9 f5 rO;go_wp2_with fail;go_loopw [7,26] (fun lf i wr=>∃j:Nat,j<=L.length/\i=aG j/\lf=aG (fU n L j).2/\aM 3 w1 wr (aA (some ⟨w1,0,none⟩) n n) (fU n L j).1/\aM 3 W0 wr (aA p1 L.length q1) L/\Box2 w wr n (aA a l.length c)/\w2.heap.size<=wr.heap.size)
   (fun _ i _=>L.length-(intOf i).toNat)
  case atStart=>exact⟨0,Nat.zero_le _,rfl,rfl,j3,o5,X3,z3⟩
  case round=>
   obtain⟨j,hj,rfl,rfl,S,I,X,zr⟩:=hrel;obtain⟨wo,rfl⟩:∃wo:World,wo=wr:=⟨_,rfl⟩;clear j3 o5 X3;have D:=SS n hn L j;have c8:=MS n L j;by_cases hlt:j<L.length
   ·have b3:=k0.out _ (List.getElem_mem hlt);have f9:L.getD j 0=L[j]:=by rw[List.getD_eq_getElem?_getD,List.getElem?_eq_getElem hlt];rfl
    have F:fU n L (j+1)=(CG (fU n L j).1 (eK (bB L[j] (fU n L j).2)) (60/cT (bB L[j] (fU n L j).2)) (eK (bB L[j] (fU n L j).2)).length,cG (fU n L j).2 L[j]):=by rw[fU,f9]
    obtain⟨aL,bL,j2,cL,eL,g5,N,rG,n0⟩:=I.ints.view prog 25 3 underlying25 aN;simp only[Value.slice.injEq]at eL;obtain⟨rfl,_,rfl⟩:=eL;have Z:=rG j hlt;have e8:=fun w'=>N w' j hlt;obtain⟨s,hs⟩:=aJ (L[j]);rw[<-hs]at b3 F Z;obtain⟨o,ho⟩:=aJ ((fU n L j).1);obtain⟨lf,g6⟩:=aJ ((fU n L j).2);rw[<-ho]at c8 S F;rw[<-g6]at D F ⊢;have e0:=b3.1;have i6:=b3.2;have R:=D.1;have q8:=D.2;have hA:=dU e0 (show s<4611686018427387904 by omega) R aD;have hD:=lA R aD e0 i6;have a7:=kE s lf 64 e0 i6;have g8:(bB s lf).toNat<2^n:=by
     have h1:=@Nat.and_le_right s.toNat lf.toNat;have h2:((2^n:Nat):Int)=(2:Int)^n:=by push_cast;rfl
     unfold bB;omega
    have b1:=VM (bB s lf) n hn g8;obtain⟨x,hx⟩:=aJ (bB s lf);rw[<-hx]at hA a7 b1 F;have b5:=SB x aD;obtain⟨E,hE⟩:=aJ (eK x);obtain⟨z,hz⟩:=aJ (cT x);have b7:∀W,Calls prog 215 #[x] W fun e w'=>∃ad i cp,e=.returned (aA ad i cp)/\aM 3 W w' (aA ad i cp) E/\Below W W w':=fun W=>by rw[hE];exact kS x W a7.1 a7.2
    have j0:∀W,Calls prog 214 #[x] W fun e w'=>e=.returned z/\W=w':=fun W=>by rw[hz];exact sR x W a7.1 aD
    rw[<-hE]at b1 F b5;rw[<-hz]at b5 F;have k1:=aH F;have j6:=aH b1;have k5:=aH b5;have e9:=aH b7;have p7:=aH j0;have HW:=aH S;have j9:=aH I;obtain⟨J,d1,B3,h9⟩:=X;clear b3 f9 F hs ho g6 D a7 g8 b1 b5 b7 j0 hE hz hx rG N S I;go_wp2_with fail;refine(e9.out _).mono ?_;rintro e w4 ⟨p4,i4,q4,rfl,oE,Y⟩;obtain⟨r7,s0,e4⟩:=oE.shape;simp only[Value.slice.injEq]at e4;obtain⟨rfl,rfl,rfl⟩:=e4;have X4:=(Box2.mk J d1 B3 h9).after Y;have h7:=HW.out.keep Y;have h5:=j9.out.keep Y;have z4:=Y.size;have rE:=oE.lt;clear J d1 Z e8 Y;go_wp2_with fail;go_loopw [35] (fun i wr=>∃k:Nat,k<=E.length/\i=aG k/\aM 3 w1 wr (aA (some ⟨w1,0,none⟩) n n) (CG o E (60/z) k)/\aM 3 wo wr (aA p4 E.length q4) E/\aM 3 W0 wr (aA p1 L.length q1) L/\Box2 w wr n (aA a l.length c)/\w2.heap.size<=wr.heap.size)
     (fun i _=>E.length-(intOf i).toNat)
    case atStart=>exact⟨0,Nat.zero_le _,rfl,h7,oE,h5,X4,by omega⟩
    case round=>
     obtain⟨k,hk,rfl,S,oE,I,X,zi⟩:=hrel;obtain⟨wi,rfl⟩:∃wi:World,wi=wr:=⟨_,rfl⟩;clear h7 h5 X4;obtain⟨J,d1,B4,i7⟩:=X;have K:=QP o E (60/z) k;rw[c8]at K;by_cases M:k<E.length
     ·obtain⟨aE,bE,o6,cE,eE,l0,b8,f6,q3⟩:=oE.ints.view prog 25 3 underlying25 aN;simp only[Value.slice.injEq]at eE;obtain⟨rfl,_,rfl⟩:=eE;have f7:=f6 k M;have n3:=fun w'=>b8 w' k M;have f8:=j6.out _ (List.getElem_mem M);have e7:=k5.out k M;obtain⟨e,he⟩:∃e:Nat,E[k]=(e:Int):=⟨E[k].toNat,by omega⟩;rw[he]at f7 f8;have g7:CG o E (60/z) (k+1)=(CG o E (60/z) k).set e (60/z):=by rw[CG,show(E.getD k 0).toNat=e by rw[List.getD_eq_getElem?_getD,List.getElem?_eq_getElem M,Option.getD_some,he];omega]
      have k8:e<n:=aD;have r3:=e7.1;have r4:=e7.2;have r1:0<=60/z:=Int.ediv_nonneg aD aD;have r2:60/z<=60:=Int.ediv_le_self _ aD;have e5:=S.stored K.symm e (60/z) ⟨by omega,by omega⟩;have a1:∃q,wi.cell? ⟨w1.heap.size,e,none⟩=some q:=⟨_,S.cellAt K.symm e (by rw[K];exact k8)⟩;obtain⟨q,a1⟩:=a1;have q6:=S.frozenAt K.symm e;rw[<-g7]at e5;have c5:=aH e5;have j5:=aH oE;have a8:=aH I;have q5:(0:Int)<=(e:Int):=Int.natCast_nonneg _;have n1:(e:Int)<(n:Int):=aD;have o4:(z==0)=false:=by simp;omega
      clear K f6 b8 he g7 e5 S oE I f8 e7;go_wp2_with (go_at_call 214;refine(p7.out _).mono ?_;rintro e' w' ⟨rfl,rfl⟩);go_roundw
      case rel=>exact⟨k+1,by omega,by go_num,c5.out.1,j5.out.grow c5.out.2 (fun q hq c9=>by cases hq;have:=(rE _ c9).1;omega),a8.out.grow c5.out.2 (fun q hq c9=>by cases hq;have:=(rL _ c9).2;omega),(Box2.mk J d1 B4 i7).grow c5.out.2 aT,by have:=c5.out.2.size;omega⟩
      case measure=>simp[intOf];omega
     ·have g2:k=E.length:=aD;subst g2;have m3:=aH S;have a8:=aH I;clear S I oE K;exact aiE
   ·have k9:j=L.length:=aD;subst k9;obtain⟨J,d1,B3,h9⟩:=X;have HW:=aH S;clear S I D c8;go_wp2;go_ret2;exact⟨_,_,_,by rw[HG.out];rfl,by rw[HX.out];exact HW.out.mono B1.size,B3⟩
theorem alI{a b:Int}(z:0<=a):a-bB a b=cG a b:=by
 have:=@Nat.and_le_left a.toNat b.toNat;unfold bB cG cO;omega
theorem ajE(w:World)(g:Int)(v:Value)(l:List Int)(hv:aK w v l)(R:l.length<=1048576):
  Calls prog 68 #[.agg #[g,v]] w fun e w'=>∃ad i cp,e=.returned (.tuple #[aA ad i cp,.bool (eV g l)])/\aM 3 w w' (aA ad i cp) (eG g l)/\Below w w w':=by
 obtain⟨a,c,rfl⟩:=hv.shape;obtain⟨J,d1,B1,z1⟩:=Box2.new w g (aA a l.length c) 29;obtain⟨W0,c7⟩:=aJ (w.alloc (.cells #[g,aA a l.length c] 29));rw[<-c7]at J d1 B1 z1;go_enter func68,ntmps68;go_wp2_with fail;rw[<-c7];clear c7;refine(R9 _ g _ l (hv.below B1 aI) R).mono ?_;rintro e w1 ⟨p1,i1,q1,rfl,I,f4⟩;have X1:=(Box2.mk J d1 B1 z1).after f4;clear f4 J d1 B1 z1;obtain⟨J,d1,B1,z1⟩:=X1
 cases O:eV g l with
 |false=>
  have hx:eG g l=[]:=by unfold eG;rw[O];rfl
  have HX:=aH hx;have HG:=aH O;clear hx O I;go_wp2;go_ret2;exact⟨_,_,_,by rw[HG.out];rfl,by rw[HX.out];exact aM.lit0 w1 B1.size,B1.alloc B1.size _⟩
 |true=>
  have hf:=KT O;obtain⟨h0,h6,_⟩:=dB hf;obtain⟨n,rfl⟩:=Int.eq_ofNat_of_zero_le h0;have hn:n<=6:=aD;have hp:=cJ n 6 hn;have q9:(2:Int)^n<=64:=by simpa using hp.1
  have r0:=hp.2;have hx:eG n l=(fU n (dD n l) (dD n l).length).1:=by unfold eG;rw[O];rfl
  have c6:=KU n l;have f2:=vP n l;obtain⟨L,f3⟩:=aJ (dD n l);rw[<-f3]at hx c6 f2 I;obtain⟨r6,r8,e1⟩:=I.shape;simp only[Value.slice.injEq]at e1;obtain⟨rfl,rfl,rfl⟩:=e1;have g0:∀W,Calls prog 78 #[n] W fun e w'=>e=.returned (aG (fU n L 0).2)/\W=w':=fun W=>eO n W aD;have j8:=aH g0;have HX:=aH hx;have k0:=aH c6;have k2:=aH I;have rL:=I.lt;have HG:=aH O;clear hx c6 f3 O hf hp g0 I;go_wp2_with (at_make;refine kZ rfl _ _ _ rfl 3 underlying25 aN n _ _ rfl rfl rfl rfl aD ?_;intro w2 a6 O;have X2:=(Box2.mk J d1 B1 z1).grow O (by simp);have q7:=O.size;have rO:=a6.lt;have g9:=k2.out.grow O (by intro k hk;cases hk);have o2:=hv.below X2.B aI;clear O J d1;obtain⟨J,d1,B2,z2⟩:=X2);refine(j8.out _).mono ?_;rintro e w3 ⟨rfl,rfl⟩;have X3:=Box2.mk J d1 B2 z2;have o3:w1.heap.size<w2.heap.size:=(rO _ rfl).2;clear rO;go_wp2_with fail;go_loopw [7,8] (fun lf i wr=>∃j:Nat,j<=L.length/\i=aG j/\lf=aG (fU n L j).2/\aM 3 w1 wr (aA (some ⟨w1,0,none⟩) n n) (fU n L j).1/\aM 3 W0 wr (aA p1 L.length q1) L/\Box2 w wr n (aA a l.length c)/\w2.heap.size<=wr.heap.size)
   (fun _ i _=>L.length-(intOf i).toNat)
  case atStart=>exact⟨0,Nat.zero_le _,rfl,rfl,a6,g9,X3,aI⟩
  case round=>
   obtain⟨j,hj,rfl,rfl,S,I,X,zr⟩:=hrel;obtain⟨wo,rfl⟩:∃wo:World,wo=wr:=⟨_,rfl⟩;clear a6 g9 X3;have D:=SS n hn L j;have c8:=MS n L j;by_cases hlt:j<L.length
   ·have b3:=k0.out _ (List.getElem_mem hlt);have f9:L.getD j 0=L[j]:=by rw[List.getD_eq_getElem?_getD,List.getElem?_eq_getElem hlt];rfl
    have F:fU n L (j+1)=(CG (fU n L j).1 (eK (bB L[j] (fU n L j).2)) (60/cT (bB L[j] (fU n L j).2)) (eK (bB L[j] (fU n L j).2)).length,cG (fU n L j).2 L[j]):=by rw[fU,f9]
    obtain⟨aL,bL,j2,cL,eL,g5,N,rG,n0⟩:=I.ints.view prog 25 3 underlying25 aN;simp only[Value.slice.injEq]at eL;obtain⟨rfl,_,rfl⟩:=eL;have Z:=rG j hlt;have e8:=fun w'=>N w' j hlt;obtain⟨s,hs⟩:=aJ (L[j]);rw[<-hs]at b3 F Z;obtain⟨o,ho⟩:=aJ ((fU n L j).1);obtain⟨lf,g6⟩:=aJ ((fU n L j).2);rw[<-ho]at c8 S F;rw[<-g6]at D F ⊢;have e0:=b3.1;have i6:=b3.2;have R:=D.1;have q8:=D.2;have hA:=dU e0 (show s<4611686018427387904 by omega) R aD;have t8:=dU R (show lf<4611686018427387904 by omega) e0 (show s<4611686018427387904 by omega);have hD:=alI (a:=lf) (b:=s) R;have u0:=kE lf s 64 R aD;have u1:=mY lf s 64 R aD;have a7:=kE s lf 64 e0 i6;have g8:(bB s lf).toNat<2^n:=by
     have h1:=@Nat.and_le_right s.toNat lf.toNat;have h2:((2^n:Nat):Int)=(2:Int)^n:=by push_cast;rfl
     unfold bB;omega
    have b1:=VM (bB s lf) n hn g8;obtain⟨x,hx⟩:=aJ (bB s lf);rw[<-hx]at hA a7 b1 F;have b5:=SB x aD;obtain⟨E,hE⟩:=aJ (eK x);obtain⟨z,hz⟩:=aJ (cT x);have b7:∀W,Calls prog 79 #[x] W fun e w'=>∃ad i cp,e=.returned (aA ad i cp)/\aM 3 W w' (aA ad i cp) E/\Below W W w':=fun W=>by rw[hE];exact MF x W a7.1 a7.2
    have e6:((eK x).length:Int)=z:=by rw[hz];exact aa3 x aD
    rw[<-hE]at b1 F b5 e6;rw[<-hz]at b5 F;have k1:=aH F;have p6:=aH hs;have j6:=aH b1;have k5:=aH b5;have e9:=aH b7;have p8:=aH e6;have HW:=aH S;have j9:=aH I;obtain⟨J,d1,B3,h9⟩:=X;clear b3 f9 F hs ho g6 D a7 g8 b1 b5 b7 e6 hE hz hx rG N S I;go_wp2_with fail;refine(e9.out _).mono ?_;rintro e w4 ⟨p4,i4,q4,rfl,oE,Y⟩;obtain⟨r7,s0,e4⟩:=oE.shape;simp only[Value.slice.injEq]at e4;obtain⟨rfl,rfl,rfl⟩:=e4;have X4:=(Box2.mk J d1 B3 h9).after Y;have h7:=HW.out.keep Y;have h5:=j9.out.keep Y;have z4:=Y.size;have rE:=oE.lt;clear J d1 Z e8 Y;go_wp2_with fail;go_loopw [10] (fun i wr=>∃k:Nat,k<=E.length/\i=aG k/\aM 3 w1 wr (aA (some ⟨w1,0,none⟩) n n) (CG o E (60/z) k)/\aM 3 wo wr (aA p4 E.length q4) E/\aM 3 W0 wr (aA p1 L.length q1) L/\Box2 w wr n (aA a l.length c)/\w2.heap.size<=wr.heap.size)
     (fun i _=>E.length-(intOf i).toNat)
    case atStart=>exact⟨0,Nat.zero_le _,rfl,h7,oE,h5,X4,by omega⟩
    case round=>
     obtain⟨k,hk,rfl,S,oE,I,X,zi⟩:=hrel;obtain⟨wi,rfl⟩:∃wi:World,wi=wr:=⟨_,rfl⟩;clear h7 h5 X4;obtain⟨J,d1,B4,i7⟩:=X;have K:=QP o E (60/z) k;rw[c8]at K;by_cases M:k<E.length
     ·obtain⟨aE,bE,o6,cE,eE,l0,b8,f6,q3⟩:=oE.ints.view prog 25 3 underlying25 aN;simp only[Value.slice.injEq]at eE;obtain⟨rfl,_,rfl⟩:=eE;have f7:=f6 k M;have n3:=fun w'=>b8 w' k M;have f8:=j6.out _ (List.getElem_mem M);have e7:=k5.out k M;obtain⟨e,he⟩:∃e:Nat,E[k]=(e:Int):=⟨E[k].toNat,by omega⟩;rw[he]at f7 f8;have g7:CG o E (60/z) (k+1)=(CG o E (60/z) k).set e (60/z):=by rw[CG,show(E.getD k 0).toNat=e by rw[List.getD_eq_getElem?_getD,List.getElem?_eq_getElem M,Option.getD_some,he];omega]
      have k8:e<n:=aD;have r3:=e7.1;have r4:=e7.2;have r1:0<=60/z:=Int.ediv_nonneg aD aD;have r2:60/z<=60:=Int.ediv_le_self _ aD;have e5:=S.stored K.symm e (60/z) ⟨by omega,by omega⟩;have a1:∃q,wi.cell? ⟨w1.heap.size,e,none⟩=some q:=⟨_,S.cellAt K.symm e (by rw[K];exact k8)⟩;obtain⟨q,a1⟩:=a1;have q6:=S.frozenAt K.symm e;rw[<-g7]at e5;have c5:=aH e5;have j5:=aH oE;have a8:=aH I;have q5:(0:Int)<=(e:Int):=Int.natCast_nonneg _;have n1:(e:Int)<(n:Int):=aD;have o4:(z==0)=false:=by simp;omega
      clear K f6 b8 he g7 e5 S oE I f8 e7;have j1:=p8.out;have r5:((E.length:Int)==0)=false:=by rw[beq_eq_false_iff_ne];omega
      have o1:(60:Int)/(E.length:Int)=60/z:=by rw[j1]
      have m2:=aH o1;have s6:(1:Int)<=(E.length:Int):=aD;have s7:E≠[]:=by intro h;rw[h]at M;simp at M
      clear o1 j1;go_wp2;go_still_tail 9,aO;go_wp2;have a9:=c5.out;rw[<-m2.out]at a9;go_roundw
      case rel=>exact⟨k+1,by omega,by go_num,by rw[<-m2.out];exact a9.1.drewN 1,(j5.out.grow a9.2 (fun q hq c9=>by cases hq;have:=(rE _ c9).1;omega)).drewN 1,(a8.out.grow a9.2 (fun q hq c9=>by cases hq;have:=(rL _ c9).2;omega)).drewN 1,((Box2.mk J d1 B4 i7).grow a9.2 aT).drewN 1,by have:=a9.2.size;simp at this ⊢;omega⟩
      case measure=>simp[intOf];omega
     ·have g2:k=E.length:=aD;subst g2;obtain⟨aL,bL,j2,cL,eL,g5,N,rG,n0⟩:=I.ints.view prog 25 3 underlying25 aN;simp only[Value.slice.injEq]at eL;obtain⟨rfl,_,rfl⟩:=eL;have Z:=rG j hlt;have e8:=fun w'=>N w' j hlt;rw[<-p6.out]at Z;have m3:=aH S;have a8:=aH I;clear S I oE K rG N;exact aiE
   ·have k9:j=L.length:=aD;subst k9;obtain⟨J,d1,B3,h9⟩:=X;have HW:=aH S;clear S I D c8;go_wp2;go_ret2;exact⟨_,_,_,by rw[HG.out];rfl,by rw[HX.out];exact HW.out.mono B1.size,B3⟩
end
end Go.Proofs.YtkdbkjjacgigiaaGreatDoor
