/- Lemmas for CardClaims, part 41 of 52. No condition. -/
import Derived.Test.YtipejodijbjpcaaGreatDoorQ02
import Derived.Test.YtipejodijbjpcaaGreatDoorQ03
import Derived.Test.YtipejodijbjpcaaGreatDoorQ05
import Derived.Test.YtipejodijbjpcaaGreatDoorQ08
import Derived.Test.YtipejodijbjpcaaGreatDoorQ12
import Derived.Test.YtipejodijbjpcaaGreatDoorQ40
set_option maxRecDepth 100000
set_option maxHeartbeats 64000000
namespace Go.Proofs.YtipejodijbjpcaaGreatDoor
section
open Go.RowKit Go.G5
def FP:ByteArray:=⟨#[45]⟩
def kT(n s:Int):Bool:=cM n 0 6&&bO n.toNat s
def bT(n s:Int):ByteArray:=if kT n s=true then (if s=0 then FP else cF eO ((fA s).map cE)) else ByteArray.empty
theorem uQ{n s:Int}(h:kT n s=true):0<=n/\n<=6/\0<=s/\s<64:=by
 unfold kT at h;rw[Bool.and_eq_true]at h;have h1:=bL.1 h.1;have h2:=eN.1 h.2;have:=lL h1.1 h1.2;exact⟨h1.1,h1.2,h2.1,by omega⟩
theorem U7:∀s:Nat,s<64->(dT s 6=[]↔s=0):=by decide +kernel
theorem yL(s:Int)(o:0<=s)(h:s<64):fA s=[]↔s=0:=by
 unfold fA;rw[U7 s.toNat (by omega)];omega
theorem VE(s:Int):∀x∈fA s,bA x:=fun x o=>by
 have:=MU s x o;exact⟨by omega,by omega⟩
theorem qI(n s:Int):(bT n s).size<=132:=by
 unfold bT
 split
 ·split
  ·show 1<=132;omega
  ·have h1:=mI (fA s) (VE s)
   have h2:=rM s;omega
 ·simp
theorem SM(n s:Int)(h:kT n s=true):bT n s≠ByteArray.empty:=by
 unfold bT;rw[if_pos h];have o:=uQ h
 split
 ·intro e
  have:=congrArg ByteArray.size e;exact absurd this (by decide)
 ·rename_i z
  rw[Ne,qH,yL s o.2.2.1 o.2.2.2];exact z
theorem xP(n s:Int)(w:World)(Y:sE w):
  Calls Tryz.prog 98 #[.int .i64 n,.int .i64 s] w fun e w'=>e=.returned (.string (bT n s))/\Below w.heap.size w w':=by
 have o:=fN n 0 6 w
 cases h1:cM n 0 6 with
 |false=>
  have D:bT n s=ByteArray.empty:=by unfold bT kT;rw[h1];rfl
  have I:=Lib.hid D;rw[h1]at o;have L:=Lib.hid o;clear o D h1;go_enter Tryz.func98,Tryz.ntmps98;go_wp2_with fail;refine L.out.mono ?_;rintro e F ⟨rfl,rfl⟩;go_wp2;go_ret;exact⟨bG I.out.symm,Below.refl _ _⟩
 |true=>
  have hb:=bL.1 h1;have z:=PZ n s w hb.1 (by omega);rw[h1]at o;have L:=Lib.hid o
  cases h2:bO n.toNat s with
  |false=>
   have D:bT n s=ByteArray.empty:=by unfold bT kT;rw[h1,h2];rfl
   rw[h2]at z;have I:=Lib.hid D;have N:=Lib.hid z;clear o D h1 h2 z;go_enter Tryz.func98,Tryz.ntmps98;go_wp2_with fail;refine L.out.mono ?_;rintro e F ⟨rfl,rfl⟩;go_wp2_with fail;refine N.out.mono ?_;rintro e F ⟨rfl,rfl⟩;go_wp2;go_ret;exact⟨bG I.out.symm,Below.refl _ _⟩
  |true=>
   have A:kT n s=true:=by unfold kT;rw[h1,h2];rfl
   obtain⟨_,_,Q,M⟩:=uQ A;rw[h2]at z;have N:=Lib.hid z
   by_cases K:s=0
   ·have D:bT n s=FP:=by unfold bT;rw[if_pos A,if_pos K]
    have I:=Lib.hid D;have R:(s==0)=true:=by simpa using K
    clear o D h1 h2 z A K;go_enter Tryz.func98,Tryz.ntmps98;go_wp2_with fail;refine L.out.mono ?_;rintro e F ⟨rfl,rfl⟩;go_wp2_with fail;refine N.out.mono ?_;rintro e F ⟨rfl,rfl⟩;go_wp2;go_ret;exact⟨bG I.out.symm,Below.refl _ _⟩
   ·have D:bT n s=cF eO ((fA s).map cE):=by unfold bT;rw[if_pos A,if_neg K]
    have I:=Lib.hid D;have R:(s==0)=false:=by simpa using K
    have S:=Lib.hid (nX s w Q M);clear o D h1 h2 z A K;go_enter Tryz.func98,Tryz.ntmps98;go_wp2_with fail;refine L.out.mono ?_;rintro e F ⟨rfl,rfl⟩;go_wp2_with fail;refine N.out.mono ?_;rintro e F ⟨rfl,rfl⟩;go_wp2_with fail;refine S.out.mono ?_;rintro e F ⟨ad,i,cp,rfl,Z,O⟩;have U:=Lib.hid (qA (fA s) _ F Z.ints (by have:=rM s;omega) (Y.keep O));go_wp2_with fail;refine U.out.mono ?_;rintro e w2 ⟨rfl,b2⟩;go_wp2;go_ret;exact⟨bG I.out.symm,O.after b2 O.size⟩
theorem xQ(n s:Int)(w:World):
  Calls Tryz.prog 81 #[.int .i64 n,.int .i64 s] w fun e w'=>e=.returned (.string (bT n s))/\Below w.heap.size w w':=by
 have z:=aR n 0 6 w
 cases h1:cM n 0 6 with
 |false=>
  have N:bT n s=ByteArray.empty:=by unfold bT kT;rw[h1];rfl
  have HX:=Lib.hid N;rw[h1]at z;have HW:=Lib.hid z;clear z N h1;go_enter Tryz.func81,Tryz.ntmps81;go_wp2_with fail;refine HW.out.mono ?_;rintro e M ⟨rfl,rfl⟩;go_wp2;go_ret;exact⟨bG HX.out.symm,Below.refl _ _⟩
 |true=>
  have hb:=bL.1 h1;have Z:=yQ n w hb.1 (by omega);have o:=aR s 0 (2^n.toNat-1) w;rw[pQ]at o;obtain⟨f,hf⟩:∃f:Int,f=2^n.toNat-1:=⟨_,rfl⟩;rw[<-hf]at Z o;rw[h1]at z;have HW:=Lib.hid z;have a9:=Lib.hid Z;clear hf Z
  cases h2:bO n.toNat s with
  |false=>
   have N:bT n s=ByteArray.empty:=by unfold bT kT;rw[h1,h2];rfl
   rw[h2]at o;have HX:=Lib.hid N;have HI:=Lib.hid o;clear z N h1 h2 o;go_enter Tryz.func81,Tryz.ntmps81;go_wp2_with fail;refine HW.out.mono ?_;rintro e M ⟨rfl,rfl⟩;go_wp2_with fail;refine a9.out.mono ?_;rintro e M ⟨rfl,rfl⟩;go_wp2_with fail;refine HI.out.mono ?_;rintro e M ⟨rfl,rfl⟩;go_wp2;go_ret;exact⟨bG HX.out.symm,Below.refl _ _⟩
  |true=>
   have L:kT n s=true:=by unfold kT;rw[h1,h2];rfl
   obtain⟨_,_,a1,F⟩:=uQ L;rw[h2]at o;have HI:=Lib.hid o;have g5:=Lib.hid L;have HE:=Lib.hid (tU s w a1 F);obtain⟨l,hl⟩:∃l,l=fA s:=⟨_,rfl⟩;have f3:l.length<=1000:=by rw[hl];have:=rM s;omega
   have f4:(l=[])=(s=0):=by rw[hl];exact propext (yL s a1 F)
   have c8:bT n s=if l=[] then FP else cF eO (l.map cE):=by
    unfold bT;rw[if_pos L,hl];simp only[yL s a1 F]
   have b4:=Lib.hid c8;rw[<-hl]at HE;clear z h1 h2 o L f4 c8 hl;go_enter Tryz.func81,Tryz.ntmps81;go_wp2_with fail;refine HW.out.mono ?_;rintro e M ⟨rfl,rfl⟩;go_wp2_with fail;refine a9.out.mono ?_;rintro e M ⟨rfl,rfl⟩;go_wp2_with fail;refine HI.out.mono ?_;rintro e M ⟨rfl,rfl⟩;go_wp2_with fail;refine HE.out.mono ?_;rintro e M ⟨ad,i,cp,rfl,o1,b1⟩;have hv:=o1.ints;have b8:=hv.inR;have hi:i=l.length:=hv.capLe.1;subst hi;obtain⟨a,b,h7,c,f5,c6,b9,hc,hb⟩:=hv.view Tryz.prog 22 3 Tryz.underlying22 aG
   injection f5 with e1 _ e3
   subst e1 e3;have HC:=Lib.hid hc;have b0:=Lib.hid b8;have e4:=Lib.hid b9;have a8:=Lib.hid b1;clear hc b8 b9 c6 hv o1 b1;go_wp2_with fail;go_loopw [5,7] (fun sv iv wr=>∃(k:Nat) (S:ByteArray),k<=l.length/\iv=.int .i64 k/\sv=.string S/\S=cF eO ((l.take k).map cE)/\Below M.heap.size M wr) (fun _ iv _=>l.length-(intOf iv).toNat)
   case atStart=>exact⟨0,_,Nat.zero_le _,rfl,rfl,rfl,Below.refl _ _⟩
   case round=>
    obtain⟨k,S,hk,rfl,rfl,Q,B⟩:=hrel;obtain⟨wz,rfl⟩:∃q:World,q=wr:=⟨_,rfl⟩;have g7:S.size<=22000:=by rw[Q];exact sI l k b0.out f3 hk
    by_cases hlt:k<l.length
    ·have c7:(k:Int)<(l.length:Int):=by omega
     have f0:=aK HC.out hb B (Nat.le_refl _) k hlt;have h5:=fun W=>e4.out W k hlt;have D:=sO l k hlt;have a6:=b0.out l[k] (List.getElem_mem hlt);rw[<-Q]at D;have R:k=0->S=ByteArray.empty:=fun h=>by rw[Q,h];rfl
     obtain⟨x,N⟩:∃x,x=l[k]:=⟨_,rfl⟩;rw[<-N]at f0 D a6;have hT:=mC x a6;have hF:=uE x a6 wz;obtain⟨T,b6⟩:∃T,T=cE x:=⟨_,rfl⟩;rw[<-b6]at D hT hF;have HF:=Lib.hid hF;have b5:=Lib.hid D;clear hF D N b6 Q
     by_cases K:k=0
     ·have e9:=R K
      subst e9;have e5:=Lib.hid K;have f2:¬0<(k:Int):=by omega
      have b7:¬0<k:=by omega
      clear R K;go_wp2_with fail;refine HF.out.mono ?_;rintro e w3 ⟨rfl,b3⟩;have B:=B.after b3 B.size;go_wp2;go_roundw
      case rel=>exact⟨k+1,_,by omega,by go_num,rfl,by rw[b5.out,if_pos e5.out],B⟩
      case measure=>simp[intOf];omega
     ·have f2:0<(k:Int):=by omega
      have b7:0<k:=by omega
      have g6:(S++eO).size<=22001:=by rw[ByteArray.size_append];show S.size+1<=22001;omega
      clear R;go_wp2_with fail;refine HF.out.mono ?_;rintro e w3 ⟨rfl,b3⟩;have B:=B.after b3 B.size;go_wp2;go_roundw
      case rel=>exact⟨k+1,_,by omega,by go_num,rfl,by rw[b5.out,if_neg K];rfl,B⟩
      case measure=>simp[intOf];omega
    ·have c7:¬(k:Int)<(l.length:Int):=by omega
     have I:S=cF eO (l.map cE):=by rw[Q,show k=l.length by omega,List.take_length]
     have Y:=mA S;have U:decide (S=ByteArray.empty)=decide (l=[]):=by rw[I];simp only[qH]
     rw[U]at Y;have BB:=a8.out.after B a8.out.size
     cases h0:decide (l=[]) with
     |true=>
      have A:bT n s=FP:=by rw[b4.out,if_pos (of_decide_eq_true h0)]
      rw[h0]at Y;have O:=Lib.hid A;clear h0 U I A Q;go_wp2;go_ret;exact⟨bG O.out.symm,BB⟩
     |false=>
      have A:bT n s=S:=by rw[b4.out,if_neg (of_decide_eq_false h0)];exact I.symm
      rw[h0]at Y;have O:=Lib.hid A;clear h0 U I A Q;go_wp2;go_ret;exact⟨bG O.out.symm,BB⟩
end
section
open Go.RowKit Go.G5
def pS:ByteArray:=⟨#[124]⟩
def fV(g:Int)(l:List Int):ByteArray:=if bW g l=true then (if l=[] then pE else cF pS (l.map (bT g))) else ByteArray.empty
theorem WZ(l:List Int)(z:l.Pairwise (· < ·))(o:∀x∈l,0<=x):∀k,(h:k<l.length)->(k:Int)<=l[k]:=by
 intro k
 induction k with
 |zero=>intro h;have:=o _ (List.getElem_mem h);omega
 |succ k ih=>
  intro h;have h1:=ih (by omega);have h2:=List.pairwise_iff_getElem.1 z k (k+1) (by omega) h (by omega);omega
theorem BT{g:Int}{l:List Int}(h:bW g l=true):l.length<=64:=by
 obtain⟨o,z,hb,D⟩:=jZ h;have A:=lL o z
 by_cases I:l.length=0
 ·omega
 ·have h1:=WZ l D (fun x F=>(hb x F).1) (l.length-1) (by omega)
  have h2:=(hb _ (List.getElem_mem (show l.length-1<l.length by omega))).2;omega
theorem WP{g:Int}{l:List Int}(h:bW g l=true):∀s∈l,kT g s=true:=by
 obtain⟨o,z,hb,D⟩:=jZ h;intro s A;unfold kT;rw[bL.2 ⟨o,z⟩,eN.2 (hb s A)];rfl
theorem wG(g:Int)(l:List Int):(cF pS (l.map (bT g))).size<=l.length*133:=by
 have:=uI pS 132 (l.map (bT g)) (fun x o=>by
  obtain⟨y,z,rfl⟩:=List.mem_map.1 o;exact qI g y)
 rw[List.length_map]at this;exact this
theorem Q4(g:Int)(l:List Int)(k:Nat)(z:l.length<=64)(o:k<=l.length):(cF pS ((l.take k).map (bT g))).size<=22000:=by
 have h1:=wG g (l.take k);rw[List.length_take]at h1;have:min k l.length=k:=by omega
 rw[this]at h1;omega
theorem PN(g:Int)(l:List Int)(k:Nat)(o:k<l.length):cF pS ((l.take (k+1)).map (bT g))=if k=0 then bT g l[k] else cF pS ((l.take k).map (bT g))++pS++bT g l[k]:=by
 have h:=AE pS (l.map (bT g)) k (by rw[List.length_map];exact o);rw[List.getElem_map,<-List.map_take,<-List.map_take]at h;exact h
theorem AW(g:Int)(l:List Int):(fV g l).size<=10000:=by
 unfold fV
 split
 ·rename_i h
  split
  ·show 4<=10000;omega
  ·have h1:=wG g l
   have h2:=BT h;omega
 ·simp
theorem S6(g:Int)(l:List Int)(h:∀s∈l,kT g s=true):(cF pS (l.map (bT g))=ByteArray.empty)=(l=[]):=by
 refine propext ⟨fun h2=>?_,fun h2=>by subst h2;rfl⟩
 cases l with
 |nil=>rfl
 |cons x l=>exact absurd h2 (H9 pS (bT g x) (l.map (bT g)) (SM g x (h x (by simp))))
theorem LR(g:Int)(l:List Int)(v:Value)(w:World)(hv:aD w v l)(hp:sE w):
  Calls Tryz.prog 31 #[.agg #[.int .i64 g,v]] w fun e w'=>e=.returned (.string (fV g l))/\Below w.heap.size w w':=by
 have b0:=hv;obtain⟨a,b,f7,c,rfl,S,R,hc,hb⟩:=hv.view Tryz.prog 22 3 Tryz.underlying22 aG;have K0:=aB.new w 27 #[.int .i64 g,.slice a l.length c];have HC:=Lib.hid hc;have a1:=Lib.hid R;clear hc R S;go_enter Tryz.func31,Tryz.ntmps31;go_wp2_with fail;refine(kR g l _ _ (b0.alloc _)).mono ?_;rintro e M ⟨rfl,F⟩;have K1:=K0.keep F;have D:Below w.heap.size w M:=(aM _ _).after F (by simp);have G1:=K1.cell;clear K0 F
 cases I:bW g l with
 |false=>
  have A:fV g l=ByteArray.empty:=by unfold fV;rw[I];rfl
  have N:=Lib.hid A;clear A I;go_wp2;go_ret;exact⟨bG N.out.symm,D⟩
 |true=>
  have f0:=BT I
  by_cases o:l.length=0
  ·have A:fV g l=pE:=by unfold fV;rw[if_pos I,if_pos (List.eq_nil_of_length_eq_zero o)]
   have N:=Lib.hid A;have hz:((l.length:Int)==0)=true:=by simp[o]
   have f5:(l.length==0)=true:=by simp[o]
   clear A I o hz;go_wp2;go_ret;exact⟨bG N.out.symm,D⟩
  ·have A:fV g l=cF pS (l.map (bT g)):=by unfold fV;rw[if_pos I,if_neg (fun h=>o (by rw[h];rfl))]
   have N:=Lib.hid A;have hz:(l.length==0)=false:=by simpa using o
   have b5:((l.length:Int)==0)=false:=by simp;intro h;exact o (by rw[h];rfl)
   clear A I o;go_wp2_with fail;go_loopw [3,16] (fun ov iv wr=>∃(k:Nat) (p:Option Addr) (n Q:Nat),k<=l.length/\iv=.int .i64 k/\ov=.slice p n Q/\cW 9 M.heap.size wr (.slice p n Q) ((l.take k).map (bT g))/\Below M.heap.size M wr) (fun _ iv _=>l.length-(intOf iv).toNat)
   case atStart=>exact⟨0,_,_,_,Nat.zero_le _,rfl,rfl,cW.nil _ _ _,Below.refl _ _⟩
   case round=>
    obtain⟨k,p,n,Q,hk,rfl,rfl,K,B⟩:=hrel;obtain⟨wz,rfl⟩:∃q:World,q=wr:=⟨_,rfl⟩;have Z:=hp.keep (D.after B D.size);have Kz:=K1.keep B;have Gz:=Kz.cell;clear G1 hz b5
    by_cases hlt:k<l.length
    ·have U:(k:Int)<(l.length:Int):=by omega
     have a9:=aK HC.out hb (D.after B D.size) (Nat.le_refl _) k hlt;have f2:=fun W=>a1.out W k hlt;have L:(l.take (k+1)).map (bT g)=(l.take k).map (bT g)++[bT g l[k]]:=by
      rw[List.take_succ_eq_append_getElem hlt,List.map_append];rfl
     have z:((l.take k).map (bT g)).length=k:=by simp;omega
     obtain⟨x,A⟩:∃x,x=l[k]:=⟨_,rfl⟩;rw[<-A]at a9 L;have a7:=Lib.hid L;have a6:=Lib.hid z;clear A L z;have hF:=Lib.hid (xP g x wz Z);go_wp2_with fail;refine hF.out.mono ?_;rintro e w3 ⟨rfl,O⟩;have K:=K.keep O;have B:=B.after O B.size;have zB:=B.size;clear O hF Gz;go_wp2_with (at_builtin;refine oY rfl _ _ _ rfl 9 Tryz.underlying94 wN M.heap.size (.slice p n Q) ((l.take k).map (bT g)) [bT g x] w3.heap.size 1 1 rfl rfl rfl (fun j y hy=>by match j,hy with|0,hy=>(cases hy;exact aT _ _ _ _ _ rfl)) (K.alloc _) (by rw[a6.out];simp;omega) (by simp;omega) ?_;intro v7 w7 o7 g7;obtain⟨p7,i7,q7,rfl⟩:=o7.shape3);have rr:=K.lt;have B7:=(B.alloc zB (.cells #[.string (bT g x)] 9)).grown g7 (by simp;omega) (fun q hq=>(rr _ hq).1);go_roundw
     case rel=>exact⟨k+1,p7,i7,q7,by omega,by go_num,rfl,by rw[a7.out];exact o7,B7⟩
     case measure=>simp[intOf];omega
    ·have z:k=l.length:=by omega
     have Y:cW 9 M.heap.size wz (.slice p n Q) (l.map (bT g)):=by
      rw[z,List.take_length]at K;exact K
     have U:¬(k:Int)<(l.length:Int):=by omega
     have a8:=wG g l;have HJ:=Lib.hid (yY M.heap.size wz _ (l.map (bT g)) pS Y (by omega) (by rw[List.length_map];omega));have BB:=D.after B D.size;clear z K Y Z a8;go_wp2_with fail;refine HJ.out.mono ?_;rintro e w3 ⟨rfl,O⟩;go_wp2;go_ret;exact⟨bG N.out.symm,BB.after O BB.size⟩
end
section
open Go.RowKit Go.G5
def S5(w:World):Prop:=∃m,w.cell? ⟨0,0,none⟩=some (.int .i64 m)
theorem S5.keep{w w':World}(h:S5 w)(hb:Below w.heap.size w w'):S5 w':=by
 obtain⟨m,o⟩:=h;exact⟨m,Go.G5.keep hb o⟩
end
section
open Go.RowKit Go.G5
end
section
open Go.RowKit Go.G5
end
section
open Go.RowKit Go.G5
theorem eA{w W Wf:World}{r:Nat}{E:TypeId}{n m:Int}{a b:Value}{A:Option Addr}{i D:Nat}{l:List Int}{B:Nat}
  (K:aB W r E #[.int .i64 n,a]) (o:aC 3 B W (.slice A i D) l) (hr:w.heap.size<=r) (F:r<B) (hb:Below w.heap.size w W)
  (z:Wf=(W.setCell ⟨r,0,none⟩ (.int .i64 m)).setCell ⟨r,1,none⟩ b):aB Wf r E #[.int .i64 m,b]/\aC 3 w.heap.size Wf (.slice A i D) l/\Below w.heap.size w Wf:=by
 refine⟨?_,?_,?_⟩
 ·rw[z]
  have:=(K.set 0 (.int .i64 m)).set 1 b;simpa using this
 ·rw[z]
  exact((o.setBelow (by show r<B;exact F) _).setBelow (by show r<B;exact F) _).mono (by omega)
 ·rw[z]
  exact Below.setCell (Below.setCell hb hr _) hr _
end
section
open Go.RowKit Go.G5
def II(n:Int)(l:List Int)(m:Int)(k:List Int):Bool:=aN n l&&(aN m k&&n==m)
theorem RM(w:World)(n:Int)(v:Value)(l:List Int)(Z:aD w v l)(m:Int)(u:Value)(k:List Int)(Y:aD w u k):
  Calls Tryz.prog 370 #[.agg #[.int .i64 n,v],.agg #[.int .i64 m,u]] w fun e w'=>e=.returned (.bool (II n l m k))/\Below w.heap.size w w':=by
 obtain⟨a,c,rfl⟩:=Z.shape;obtain⟨b,d,rfl⟩:=Y.shape;obtain⟨V,K⟩:∃V,V=(w.alloc (.cells #[.int .i64 n,.slice a l.length c] 32)).alloc (.cells #[.int .i64 m,.slice b k.length d] 32):=⟨_,rfl⟩;have B:Below w.heap.size w V:=by rw[K];exact cD _ _ _
 have I:aB V w.heap.size 32 #[.int .i64 n,.slice a l.length c]:=by rw[K];exact(aB.new _ _ _).alloc _
 have F:aB V (w.heap.size+1) 32 #[.int .i64 m,.slice b k.length d]:=by rw[K];have:=aB.new (w.alloc (.cells #[.int .i64 n,.slice a l.length c] 32)) 32 #[.int .i64 m,.slice b k.length d];simpa using this
 have A:=cI n l _ V (Z.below B (Nat.le_refl _));have R:=Y.below B (Nat.le_refl _);have o:II n l m k=(aN n l&&(aN m k&&n==m)):=rfl;obtain⟨f1,e1⟩:∃f,aN n l=f:=⟨_,rfl⟩;obtain⟨f2,e2⟩:∃f,aN m k=f:=⟨_,rfl⟩;have D:=fun W h=>cI m k (.slice b k.length d) W h;rw[e1]at A o;rw[e2]at o;simp only[e2]at D;have O:=Lib.hid A;have Q:=Lib.hid D;have z:=Lib.hid o;clear A D o e1 e2;go_enter Tryz.func370,Tryz.ntmps370;go_wp2_with fail;refine aH ?_;intro V' L;obtain rfl:V'=V:=by rw[L,K]
 clear K L;refine O.out.mono ?_;rintro e w1 ⟨rfl,M⟩;have I:=I.keep M;have F:=F.keep M;have N:=B.after M B.size
 cases f1 with
 |false=>
  go_wp2;go_ret;exact⟨aE z.out.symm,N⟩
 |true=>
  have U:=F.cell;go_wp2_with fail;clear U;refine(Q.out w1 (R.keep M)).mono ?_;rintro e w2 ⟨rfl,b2⟩;have I:=I.keep b2;have F:=F.keep b2;have S:=N.after b2 N.size;have o:=z.out
  cases f2 with
  |false=>
   go_wp2;go_ret;exact⟨aE z.out.symm,S⟩
  |true=>
   have G1:=I.cell;have U:=F.cell;go_wp2;go_ret;exact⟨aE (by rw[z.out];rfl),S⟩
theorem IE(w:World)(N:Nat)(hN:N<=5)(n m:Int)(v u:Value)(l k:List Int)(hv:aD w v l)(hu:aD w u k)(hl:l.length=2^N)(a1:k.length=2^N)(a6:∀i,(hi:i<l.length)->-1000<=l[i]/\l[i]<=1000)(Z:∀i,(hi:i<k.length)->-1000<=k[i]/\k[i]<=1000)(s:Nat)(hs:s<2^N):
  Calls Tryz.prog 285 #[.agg #[.int .i64 n,v],.agg #[.int .i64 m,u],.int .i64 (s:Int)] w fun e w'=>∃p:Nat,p<=s/\e=.returned (.int .i64 (p:Int))/\Below w.heap.size w w':=by
 have c5:(2:Nat)^N<=32:=Nat.pow_le_pow_right (n:=2) (by decide) hN;obtain⟨a,bb,h5,c,rfl,e6,Y,hc,hb⟩:=hv.view Tryz.prog 22 3 Tryz.underlying22 aG;obtain⟨a',f8,f3,c',rfl,b9,z,R,Q⟩:=hu.view Tryz.prog 22 3 Tryz.underlying22 aG;obtain⟨V,O⟩:∃V,V=(w.alloc (.cells #[.int .i64 n,.slice a l.length c] 32)).alloc (.cells #[.int .i64 m,.slice a' k.length c'] 32):=⟨_,rfl⟩;have B:Below w.heap.size w V:=by rw[O];exact cD _ _ _
 have K1:aB V w.heap.size 32 #[.int .i64 n,.slice a l.length c]:=by rw[O];exact(aB.new _ _ _).alloc _
 have K2:aB V (w.heap.size+1) 32 #[.int .i64 m,.slice a' k.length c']:=by rw[O];have:=aB.new (w.alloc (.cells #[.int .i64 n,.slice a l.length c] 32)) 32 #[.int .i64 m,.slice a' k.length c'];simpa using this
 have S:=aK hc hb B (Nat.le_refl _);have U:=aK R Q B (Nat.le_refl _);have G1:=K1.cell;have G2:=K2.cell;have HB:=Lib.hid (And.intro a6 Z);have D:=Lib.hid S;have F:=Lib.hid U;have I:=Lib.hid Y;have K:=Lib.hid z;have o:=Lib.hid (And.intro hl a1);have e9:s<32:=by omega
 have a8:=hs;have HS:=Lib.hid a8;clear hc R S U Y z a1 a6 Z hl hb Q c5 hs a8;go_enter Tryz.func285,Tryz.ntmps285;go_wp2_with fail;rw[<-O];clear O;go_loopw [7,8] (fun b7 i wr=>∃(t p:Nat),1<=t/\t<=s+1/\p<=s/\i=.int .i64 (t:Int)/\b7=.int .i64 (p:Int)/\∃q,wr=V.drewN q) (fun _ i _=>s+1-(intOf i).toNat)
 case atStart=>exact⟨1,0,Nat.le_refl _,by omega,Nat.zero_le _,rfl,rfl,0,rfl⟩
 case round=>
  obtain⟨t,p,g4,ht,c6,rfl,rfl,q,rfl⟩:=hrel
  by_cases hlt:t<s+1
  ·have a7:(t:Int)<=(s:Int):=by omega
   have c7:=HS.out;have ck:=D.out t (by rw[o.out.1];omega);have ik:=fun W=>I.out W t (by rw[o.out.1];omega);have dk:=F.out (s-t) (by rw[o.out.2];omega);have jk:=fun W=>K.out W (s-t) (by rw[o.out.2];omega);have lb:=HB.out.1 t (by rw[o.out.1];omega);have kb:=HB.out.2 (s-t) (by rw[o.out.2];omega);have cp:=D.out p (by rw[o.out.1];omega);have ip:=fun W=>I.out W p (by rw[o.out.1];omega);have dp:=F.out (s-p) (by rw[o.out.2];omega);have jp:=fun W=>K.out W (s-p) (by rw[o.out.2];omega);have c9:=HB.out.1 p (by rw[o.out.1];omega);have c8:=HB.out.2 (s-p) (by rw[o.out.2];omega);obtain⟨x,hx⟩:∃x,x=l[t]'(by rw[o.out.1];omega):=⟨_,rfl⟩;obtain⟨y,hy⟩:∃y,y=k[s-t]'(by rw[o.out.2];omega):=⟨_,rfl⟩;obtain⟨xp,b1⟩:∃x,x=l[p]'(by rw[o.out.1];omega):=⟨_,rfl⟩;obtain⟨yp,b3⟩:∃y,y=k[s-p]'(by rw[o.out.2];omega):=⟨_,rfl⟩;rw[<-hx]at ck lb;rw[<-hy]at dk kb;rw[<-b1]at cp c9;rw[<-b3]at dp c8;have a9:(s:Int)-(t:Int)=((s-t:Nat):Int):=by omega
   have A:(s:Int)-(p:Int)=((s-p:Nat):Int):=by omega
   obtain⟨Ft,M⟩:∃Ft,Ft=s-t:=⟨_,rfl⟩;obtain⟨Fp,L⟩:∃Ft,Ft=s-p:=⟨_,rfl⟩;simp only[<-M]at dk jk a9;simp only[<-L]at dp jp A;obtain⟨b0,g2⟩:∃b,(bits .and .i64 (t:Int) (s:Int)==(t:Int))=b:=⟨_,rfl⟩;clear hx hy b1 b3 M L c7
   cases b0 with
   |false=>
    go_wp2_with fail;go_quiet (fail);go_wp2;go_roundw
    case rel=>exact⟨t+1,p,by omega,by omega,by omega,by go_num,rfl,_,by first|rfl|simp⟩
    case measure=>simp[intOf];omega
   |true=>
    by_cases e7:x+y<xp+yp
    ·go_wp2_with fail
     go_quiet (fail);go_wp2;go_roundw
     case rel=>exact⟨t+1,t,by omega,by omega,by omega,by go_num,rfl,_,by first|rfl|simp⟩
     case measure=>simp[intOf];omega
    ·go_wp2_with fail
     go_quiet (fail);go_wp2;go_roundw
     case rel=>exact⟨t+1,p,by omega,by omega,by omega,by go_num,rfl,_,by first|rfl|simp⟩
     case measure=>simp[intOf];omega
  ·have a7:¬(t:Int)<=(s:Int):=by omega
   go_wp2;go_ret;exact⟨p,c6,rfl,B.drewN' _⟩
theorem P3{n:Int}{l:List Int}{m:Int}{k:List Int}(h:II n l m k=true):∃N:Nat,n=(N:Int)/\m=(N:Int)/\N<=5/\l.length=2^N/\k.length=2^N/\(∀i,(F:i<l.length)->-1000<=l[i]/\l[i]<=1000)/\(∀i,(F:i<k.length)->-1000<=k[i]/\k[i]<=1000):=by
 unfold II at h;simp only[Bool.and_eq_true,beq_iff_eq]at h;obtain⟨h1,h2,h3⟩:=h;obtain⟨N,rfl,A,K,_,z⟩:=bN h1;obtain⟨M,D,_,I,_,o⟩:=bN h2;have:N=M:=by omega
 subst this;exact⟨N,rfl,D,A,K,I,z,o⟩
theorem LO(w:World)(n:Int)(v:Value)(l:List Int)(hv:aD w v l)(m:Int)(u:Value)(k:List Int)(hu:aD w u k):
  Calls Tryz.prog 336 #[.agg #[.int .i64 n,v],.agg #[.int .i64 m,u]] w fun e w'=>∃(ad:Option Addr) (i cp:Nat) (q:Int) (L:List Int) (b:Bool),e=.returned (.tuple #[.agg #[.int .i64 q,.slice ad i cp],.bool b])/\bA q/\aC 3 w.heap.size w' (.slice ad i cp) L/\L.length<=64/\Below w.heap.size w w':=by
 have c7:=hv;have c6:=hu;obtain⟨a,bb,k9,c,rfl,m7,f9,hc,hb⟩:=hv.view Tryz.prog 22 3 Tryz.underlying22 aG;obtain⟨a',k0,h6,c',rfl,k4,b0,f6,f5⟩:=hu.view Tryz.prog 22 3 Tryz.underlying22 aG;obtain⟨V,hV⟩:∃V,V=((w.alloc (.cells #[.int .i64 n,.slice a l.length c] 32)).alloc (.cells #[.int .i64 m,.slice a' k.length c'] 32)).alloc (.cells #[.int .i64 0,.slice none 0 0] 32):=⟨_,rfl⟩;have BV:Below w.heap.size w V:=by rw[hV];exact(cD _ _ _).alloc (by simp) _
 have I:aB V w.heap.size 32 #[.int .i64 n,.slice a l.length c]:=by rw[hV];exact((aB.new _ _ _).alloc _).alloc _
 have K:aB V (w.heap.size+1) 32 #[.int .i64 m,.slice a' k.length c']:=by rw[hV];have:=(aB.new (w.alloc (.cells #[.int .i64 n,.slice a l.length c] 32)) 32 #[.int .i64 m,.slice a' k.length c']).alloc (.cells #[.int .i64 0,.slice none 0 0] 32);simpa using this
 have O:aB V (w.heap.size+2) 32 #[.int .i64 0,.slice none 0 0]:=by rw[hV];have:=aB.new ((w.alloc (.cells #[.int .i64 n,.slice a l.length c] 32)).alloc (.cells #[.int .i64 m,.slice a' k.length c'] 32)) 32 #[.int .i64 0,.slice none 0 0];simpa using this
 have S:=RM V n _ l (c7.below BV (Nat.le_refl _)) m _ k (c6.below BV (Nat.le_refl _));have b9:=fun h=>P3 (n:=n) (l:=l) (m:=m) (k:=k) h;obtain⟨ft,f7⟩:∃f,II n l m k=f:=⟨_,rfl⟩;rw[f7]at S b9;have HF:=Lib.hid S;have HT:=Lib.hid b9;have HC:=Lib.hid (And.intro hc hb);have e4:=Lib.hid (And.intro f6 f5);have HI:=Lib.hid (And.intro f9 b0);have HV:=Lib.hid (And.intro c7 c6);clear S b9 f7 hc hb f6 f5 f9 b0 c7 c6;have G1:=I.cell;have G2:=K.cell;go_enter Tryz.func336,Tryz.ntmps336;go_wp2_with fail;refine aH ?_;intro V' f4;obtain rfl:V'=V:=by rw[f4,hV]
 clear hV f4 G1 G2;refine HF.out.mono ?_;rintro e D ⟨rfl,b1⟩;have I:=I.keep b1;have K:=K.keep b1;have O:=O.keep b1;have B1:=BV.after b1 BV.size;have z3:=O.lt
 cases ft with
 |false=>
  have G:=O.cell;have F:=O.frozen;go_wp2;refine aI ?_;intro Wf b8;have t:=eA (w:=w) (E:=32) (m:=0) (b:=.slice none 0 0) O (aC.nil 3 (D.heap.size) D) (by omega) O.lt B1 b8;have GF:=t.1.cell;exact bodyPost_ret (v:=.tuple #[.agg #[.int .i64 0,.slice none 0 0],.bool false]) (by simp[results,Tryz.results336,go_sem,GF]) rfl ⟨none,0,0,0,[],false,rfl,⟨by omega,by omega⟩,t.2.1,by simp,t.2.2⟩
 |true=>
  obtain⟨N,rfl,rfl,f3,hl,hk,g3,g0⟩:=HT.out rfl;have k5:(2:Nat)^N<=32:=Nat.pow_le_pow_right (n:=2) (by decide) f3;have a1:=Lib.hid (And.intro g3 g0);have HL:=Lib.hid (And.intro hl hk);have k3:(l.length:Int)=((2^N:Nat):Int):=by rw[hl]
  obtain⟨M,hM⟩:∃M,M=2^N:=⟨_,rfl⟩;have g2:l.length=M:=by rw[hl,hM]
  have m2:M<=32:=by omega
  have Q:=Lib.hid hM;have A:=Lib.hid g2;clear g3 g0 hl hk hM k5 k3 g2;have HK:=Lib.hid (And.intro I (And.intro K O));have o0:=aC.lit0 (E:=3) (B:=D.heap.size) D (Nat.le_refl _);have k6:w.heap.size+2<D.heap.size:=z3;clear I K O;go_wp2_with fail;go_loopw [6,7] (fun v i wr=>∃(s:Nat) (ad:Option Addr) (nn cp:Nat) (L:List Int),s<=M/\v=.slice ad nn cp/\i=.int .i64 (s:Int)/\L.length=s/\aC 3 D.heap.size wr (.slice ad nn cp) L/\Below D.heap.size D wr) (fun _ i _=>M-(intOf i).toNat)
  case atStart=>exact⟨0,_,_,_,[],Nat.zero_le _,rfl,rfl,rfl,o0,aM _ _⟩
  case round=>
   obtain⟨s,ad,nn,cp,L,hs,rfl,rfl,f2,ho,Bw⟩:=hrel;clear o0;have HO:=Lib.hid ho;have j6:=Lib.hid f2;have m1:L.length<=32:=by omega
   have zB:=Bw.size;have I:=HK.out.1.keep Bw;have K:=HK.out.2.1.keep Bw;have O:=HK.out.2.2.keep Bw;have Bx:=B1.after Bw B1.size;clear ho f2;have G1:=I.cell
   by_cases hlt:s<M
   ·have g4:(s:Int)<(l.length:Int):=by have:=A.out;omega
    have g7:=IE wr N f3 (N:Int) (N:Int) _ _ l k (HV.out.1.below Bx (Nat.le_refl _)) (HV.out.2.below Bx (Nat.le_refl _)) HL.out.1 HL.out.2 a1.out.1 a1.out.2 s (by rw[<-Q.out];exact hlt);have j8:=Lib.hid g7;have G2:=K.cell;clear g7;go_wp2_with fail;refine j8.out.mono ?_;rintro e Z ⟨p,hp,rfl,Y⟩;have B5:=Bx.after Y Bx.size;have I:=I.keep Y;have K:=K.keep Y;have b7:=aK HC.out.1 HC.out.2 B5 (Nat.le_refl _) p (by have:=A.out;omega);have a6:=aK e4.out.1 e4.out.2 B5 (Nat.le_refl _) (s-p) (by rw[HL.out.2,<-Q.out];omega);have q3:=fun W=>HI.out.1 W p (by have:=A.out;omega);have k8:=fun W=>HI.out.2 W (s-p) (by rw[HL.out.2,<-Q.out];omega);have lb:=a1.out.1 p (by have:=A.out;omega);have kb:=a1.out.2 (s-p) (by rw[HL.out.2,<-Q.out];omega);obtain⟨x,hx⟩:∃x,x=l[p]'(by have:=A.out;omega):=⟨_,rfl⟩;obtain⟨y,hy⟩:∃y,y=k[s-p]'(by rw[HL.out.2,<-Q.out];omega):=⟨_,rfl⟩;rw[<-hx]at b7 lb;rw[<-hy]at a6 kb;clear hx hy;have b4:(s:Int)-(p:Int)=((s-p:Nat):Int):=by omega
    have f0:s-p<=32:=by omega
    have g9:IntKind.i64.wrap ((s-p:Nat):Int)=((s-p:Nat):Int):=by rw[IntKind.wrap_i64];omega
    obtain⟨Ft,a7⟩:∃F,F=s-p:=⟨_,rfl⟩;rw[<-a7]at f0 a6;have k7:IntKind.i64.wrap ((s-p:Nat):Int)=(Ft:Int):=by rw[g9,a7]
    have q2:IntKind.i64.wrap ((s:Int)-(p:Int))=(Ft:Int):=by rw[b4,k7]
    clear g9 b4;simp only[<-a7]at k8;have d1:Z.drew.cell? ⟨bb,k9+p,none⟩=some (.int .i64 x):=b7;have d2:Z.drew.cell? ⟨k0,h6+Ft,none⟩=some (.int .i64 y):=a6;have q6:=lb.1;have q7:=lb.2;have q4:=kb.1;have q5:=kb.2;have o5:=HO.out.keep Y;have e5:=Lib.hid o5;have e6:aB Z.drew w.heap.size 32 #[.int .i64 (N:Int),.slice a l.length c]:=I;have e7:aB Z.drew (w.heap.size+1) 32 #[.int .i64 (N:Int),.slice a' k.length c']:=K;have o7:=e6.cell;have o8:=e7.cell;have z5:=Y.size;clear lb kb a7 G1 G2 b7 a6 o5 I K e6 e7;go_wp2;have hZ:bA (IntKind.i64.wrap (x+y)):=by rw[IntKind.wrap_i64];exact⟨by omega,by omega⟩
    have HZ:=Lib.hid hZ;clear hZ;go_region_law
     (refine lM rfl _ _ _ rfl 3 Tryz.underlying22 aG D.heap.size (.slice ad nn cp) L (IntKind.i64.wrap (x+y)) Z.heap.size rfl rfl (aT Z #[.int .i64 (IntKind.i64.wrap (x+y))] 3 0 _ rfl) ((e5.out.alloc (.cells #[.int .i64 (IntKind.i64.wrap (x+y))] 3)).keep (Below.refl _ _).drew) HZ.out (by omega) (by simp;omega) ?_;intro v' w6 b3 k2;obtain⟨av,nv,cv,rfl⟩:=b3.shape3)
    all_goals
     have B7:=Bw.after Y Bw.size;have B6:Below D.heap.size D w6:=(B7.alloc B7.size (.cells #[.int .i64 (IntKind.i64.wrap (x+y))] 3)).drew.grown k2 (by simp;omega) (fun q hq=>(e5.out.lt q hq).1);go_wp2;go_roundw
     case rel=>exact⟨s+1,av,nv,cv,L++[IntKind.i64.wrap (x+y)],by omega,rfl,by go_num,by simp;exact j6.out,b3,B6⟩
     case measure=>simp[intOf];omega
   ·have g4:¬(s:Int)<(l.length:Int):=by have:=A.out;omega
    obtain⟨R,f8⟩:∃b,aN (N:Int) L=b:=⟨_,rfl⟩;have g6:=fun W hv=>nR W (N:Int) ad nn cp L hv R f8;clear f8;go_wp2_with fail;refine(g6 wr HO.out.ints).mono ?_;rintro e Z ⟨o,i',z,rfl,g8,Y⟩;have B6:=Bx.after Y Bx.size;have K5:=O.keep Y;have o6:aC 3 D.heap.size Z (.slice o i' z) (if R then L else []):=by
     rw[g8]
     cases R
     ·exact aC.nil _ _ _
     ·exact HO.out.keep Y
    have c5:bA (if R then (N:Int) else 0):=by cases R<;>exact⟨by simp;try omega,by simp;try omega⟩
    have g1:(if R then L else []).length<=64:=by cases R<;>simp;omega
    obtain⟨m6,g5⟩:∃m,m=(if R then (N:Int) else 0):=⟨_,rfl⟩;rw[<-g5]at c5 ⊢;have H6:=Lib.hid (And.intro c5 g1);clear g8 g5 g6 c5 g1;obtain⟨U,hU⟩:∃U,U=Z.alloc (.cells #[.int .i64 m6,.slice o i' z] 32):=⟨_,rfl⟩;have KU:aB U (w.heap.size+2) 32 #[.int .i64 0,.slice none 0 0]:=by rw[hU];exact K5.alloc _
    have oU:aC 3 D.heap.size U (.slice o i' z) (if R then L else []):=by rw[hU];exact o6.alloc _
    have BU:Below w.heap.size w U:=by rw[hU];exact B6.alloc B6.size _
    have KN:aB U Z.heap.size 32 #[.int .i64 m6,.slice o i' z]:=by rw[hU];exact aB.new _ _ _
    have G3:=KU.cell;have F3:=KU.frozen;have G4:=KN.cell;clear G1 I K O K5;go_upto_region 10 with fail;rw[<-hU];clear hU;go_wp2;refine aI ?_;intro Wf b8;have t:=eA (w:=w) (E:=32) (m:=m6) (b:=.slice o i' z) KU oU (by omega) k6 BU b8;have GF:=t.1.cell;exact bodyPost_ret (v:=.tuple #[.agg #[.int .i64 m6,.slice o i' z],.bool R]) (by simp[results,Tryz.results336,go_sem,GF]) rfl ⟨o,i',z,m6,_,R,rfl,H6.out.1,t.2.1,H6.out.2,t.2.2⟩
end
end Go.Proofs.YtipejodijbjpcaaGreatDoor
