/- Lemmas for CardClaims, part 48 of 52. No condition. -/
import Derived.Test.YtipejodijbjpcaaGreatDoorQ02
import Derived.Test.YtipejodijbjpcaaGreatDoorQ08
import Derived.Test.YtipejodijbjpcaaGreatDoorQ19
import Derived.Test.YtipejodijbjpcaaGreatDoorQ40
import Derived.Test.YtipejodijbjpcaaGreatDoorQ41
import Derived.Lib.MinMax
set_option maxRecDepth 100000
set_option maxHeartbeats 64000000
namespace Go.Proofs.YtipejodijbjpcaaGreatDoor
section
open Go.RowKit Go.G5
theorem MI{n:Int}{l:List Int}(h:aN n l=true):l.length<=32:=by
 obtain⟨_,_,_,_,o,_⟩:=bN h;exact o
def eM(n:Int)(l:List Int):ByteArray:=if aN n l=true then cF eO (l.map cE) else ByteArray.empty
theorem qK(n:Int)(l:List Int):(eM n l).size<=704:=by
 unfold eM
 split
 ·rename_i h
  obtain⟨N,_,_,_,z,o⟩:=bN h;have:=mI l (fun x D=>by
   obtain⟨k,A,rfl⟩:=List.mem_iff_getElem.1 D;have:=o k A;exact⟨by omega,by omega⟩)
  omega
 ·simp
theorem xU(n:Int)(l:List Int)(v:Value)(w:World)(M:aD w v l)(S:sE w):
  Calls Tryz.prog 14 #[.agg #[.int .i64 n,v]] w fun e w'=>e=.returned (.string (eM n l))/\Below w.heap.size w w':=by
 have D:=M;obtain⟨a,c,rfl⟩:=M.shape;have Q:=aB.new w 32 #[.int .i64 n,.slice a l.length c];go_enter Tryz.func14,Tryz.ntmps14;go_wp2_with fail;refine(eZ n l _ _ (D.alloc _)).mono ?_;rintro e N ⟨rfl,z⟩;have R:=Q.keep z;have o:Below w.heap.size w N:=(aM _ _).after z (by simp);have U:=R.cell
 cases A:aN n l with
 |false=>
  have F:eM n l=ByteArray.empty:=by unfold eM;rw[A];rfl
  have I:=Lib.hid F;clear F A;go_wp2;go_ret;exact⟨bG I.out.symm,o⟩
 |true=>
  have F:eM n l=cF eO (l.map cE):=by unfold eM;rw[if_pos A]
  have K:=MI A;have O:=Lib.hid (qA l _ N (D.below o (Nat.le_refl _)) (by omega) (S.keep o));have I:=Lib.hid F;clear F A K;go_wp2_with fail;refine O.out.mono ?_;rintro e w2 ⟨rfl,L⟩;go_wp2;go_ret;exact⟨bG I.out.symm,o.after L o.size⟩
theorem yA(n:Int)(l:List Int)(v:Value)(w:World)(hv:aD w v l):
  Calls Tryz.prog 211 #[.agg #[.int .i64 n,v]] w fun e w'=>e=.returned (.string (eM n l))/\Below w.heap.size w w':=by
 have a9:=hv;have a1:=hv.inR;obtain⟨a,b,f5,c,rfl,a7,a6,hc,hb⟩:=hv.view Tryz.prog 22 3 Tryz.underlying22 aG;have K0:=aB.new w 32 #[.int .i64 n,.slice a l.length c];have HC:=Lib.hid hc;have O:=Lib.hid a1;have b5:=Lib.hid a6;clear hc a1 a6 a7
 cases L:aN n l with
 |false=>
  have F:eM n l=ByteArray.empty:=by unfold eM;rw[L];rfl
  have HX:=Lib.hid F;have HF:=Lib.hid L;clear F L;go_enter Tryz.func211,Tryz.ntmps211;go_wp2_with fail;go_loopw [3,4] (fun sv iv wr=>iv=.int .i64 0/\sv=.string ⟨#[]⟩/\Below w.heap.size w wr/\aB wr w.heap.size 32 #[.int .i64 n,.slice a l.length c]) (fun _ _ _=>0)
  case atStart=>exact⟨rfl,rfl,aM _ _,K0⟩
  case round=>
   obtain⟨rfl,rfl,B,K⟩:=hrel;have G1:=K.cell;go_wp2_with fail;refine(cI n l _ _ (a9.below B (Nat.le_refl _))).mono ?_;rintro e w1 ⟨rfl,o⟩;rw[HF.out];go_wp2;go_ret;exact⟨bG HX.out.symm,B.after o B.size⟩
 |true=>
  have F:eM n l=cF eO (l.map cE):=by unfold eM;rw[if_pos L]
  have c6:=MI L;have hl:l.length<=1000:=by omega
  have HX:=Lib.hid F;have HF:=Lib.hid L;clear F L c6;go_enter Tryz.func211,Tryz.ntmps211;go_wp2_with fail;go_loopw [3,4] (fun sv iv wr=>∃(k:Nat) (S:ByteArray),k<=l.length/\iv=.int .i64 k/\sv=.string S/\S=cF eO ((l.take k).map cE)/\Below w.heap.size w wr/\aB wr w.heap.size 32 #[.int .i64 n,.slice a l.length c]) (fun _ iv _=>l.length-(intOf iv).toNat)
  case atStart=>exact⟨0,_,Nat.zero_le _,rfl,rfl,rfl,aM _ _,K0⟩
  case round=>
   obtain⟨k,S,hk,rfl,rfl,A,B,K⟩:=hrel;obtain⟨wz,rfl⟩:∃q:World,q=wr:=⟨_,rfl⟩;have HS:=Lib.hid A;clear A K0;have G1:=K.cell;go_wp2_with fail;refine(cI n l _ _ (a9.below B (Nat.le_refl _))).mono ?_;rintro e w1 ⟨rfl,o⟩;rw[HF.out];have K:=K.keep o;have B:=B.after o B.size;clear G1 o;have G1:=K.cell;have A:=HS.out;have e9:S.size<=22000:=by rw[A];exact sI l k O.out hl hk
   by_cases hlt:k<l.length
   ·have a8:(k:Int)<(l.length:Int):=by omega
    have c9:=aK HC.out hb B (Nat.le_refl _) k hlt;have f2:=fun W=>b5.out W k hlt;have z:=sO l k hlt;have M:=O.out l[k] (List.getElem_mem hlt);rw[<-A]at z;have I:k=0->S=ByteArray.empty:=fun h=>by rw[A,h];rfl
    obtain⟨x,F⟩:∃x,x=l[k]:=⟨_,rfl⟩;rw[<-F]at c9 z M;have hT:=mC x M;have hF:=uE x M w1;obtain⟨T,Y⟩:∃T,T=cE x:=⟨_,rfl⟩;rw[<-Y]at z hT hF;have N:=Lib.hid hF;have Q:=Lib.hid z;clear hF z F Y A HS
    by_cases D:k=0
    ·have c8:=I D
     subst c8;have b6:=Lib.hid D;have d0:¬0<(k:Int):=by omega
     have Z:¬0<k:=by omega
     clear I D;go_wp2_with fail;refine N.out.mono ?_;rintro e w3 ⟨rfl,R⟩;have B:=B.after R B.size;have K:=K.keep R;go_wp2;go_roundw
     case rel=>exact⟨k+1,_,by omega,by go_num,rfl,by rw[Q.out,if_pos b6.out],B,K⟩
     case measure=>simp[intOf];omega
    ·have d0:0<(k:Int):=by omega
     have Z:0<k:=by omega
     have e8:(S++eO).size<=22001:=by rw[ByteArray.size_append];show S.size+1<=22001;omega
     clear I;go_wp2_with fail;refine N.out.mono ?_;rintro e w3 ⟨rfl,R⟩;have B:=B.after R B.size;have K:=K.keep R;go_wp2;go_roundw
     case rel=>exact⟨k+1,_,by omega,by go_num,rfl,by rw[Q.out,if_neg D];rfl,B,K⟩
     case measure=>simp[intOf];omega
   ·have a8:¬(k:Int)<(l.length:Int):=by omega
    have U:eM n l=S:=by rw[HX.out,A,show k=l.length by omega,List.take_length]
    have b8:=Lib.hid U;clear U A HS;go_wp2;go_ret;exact⟨bG b8.out.symm,B⟩
end
section
open Go.RowKit Go.G5
theorem LT(g:Int)(l:List Int)(v:Value)(w:World)(hv:aD w v l):
  Calls Tryz.prog 74 #[.agg #[.int .i64 g,v]] w fun e w'=>e=.returned (.string (fV g l))/\Below w.heap.size w w':=by
 have F:=hv;obtain⟨a,b,f3,c,rfl,b7,b6,hc,hb⟩:=hv.view Tryz.prog 22 3 Tryz.underlying22 aG;have K0:=aB.new w 27 #[.int .i64 g,.slice a l.length c];have HC:=Lib.hid hc;have d0:=Lib.hid b6;clear hc b6 b7
 cases N:bW g l with
 |false=>
  have hx:fV g l=ByteArray.empty:=by unfold fV;rw[N];rfl
  have HX:=Lib.hid hx;have HF:=Lib.hid N;clear hx N;go_enter Tryz.func74,Tryz.ntmps74;go_wp2_with fail;go_loopw [3,4] (fun sv iv wr=>iv=.int .i64 0/\sv=.string ⟨#[]⟩/\Below w.heap.size w wr/\aB wr w.heap.size 27 #[.int .i64 g,.slice a l.length c]) (fun _ _ _=>0)
  case atStart=>exact⟨rfl,rfl,aM _ _,K0⟩
  case round=>
   obtain⟨rfl,rfl,B,K⟩:=hrel;have G1:=K.cell
   by_cases z:0<l.length
   ·have f2:(0:Int)<(l.length:Int):=by omega
    go_wp2_with fail;refine(gD g l _ _ (F.below B (Nat.le_refl _))).mono ?_;rintro e w1 ⟨rfl,o⟩;rw[HF.out];have K:=K.keep o;have B:=B.after o B.size;clear G1;have G1:=K.cell;go_wp2_with fail;refine(gD g l _ _ (F.below B (Nat.le_refl _))).mono ?_;rintro e w2 ⟨rfl,A⟩;rw[HF.out];go_wp2;go_ret;exact⟨bG HX.out.symm,B.after A B.size⟩
   ·have f2:¬(0:Int)<(l.length:Int):=by omega
    go_wp2_with fail;refine(gD g l _ _ (F.below B (Nat.le_refl _))).mono ?_;rintro e w2 ⟨rfl,A⟩;rw[HF.out];go_wp2;go_ret;exact⟨bG HX.out.symm,B.after A B.size⟩
 |true=>
  have e6:=BT N;have b9:fV g l=if l=[] then pE else cF pS (l.map (bT g)):=by unfold fV;rw[if_pos N]
  have M:(cF pS (l.map (bT g))=ByteArray.empty)=(l=[]):=S6 g l (WP N);have c9:=Lib.hid M;have a8:=Lib.hid b9;have HF:=Lib.hid N;clear b9 N M;go_enter Tryz.func74,Tryz.ntmps74;go_wp2_with fail;go_loopw [3,4] (fun sv iv wr=>∃(k:Nat) (S:ByteArray),k<=l.length/\iv=.int .i64 k/\sv=.string S/\S=cF pS ((l.take k).map (bT g))/\Below w.heap.size w wr/\aB wr w.heap.size 27 #[.int .i64 g,.slice a l.length c]) (fun _ iv _=>l.length-(intOf iv).toNat)
  case atStart=>exact⟨0,_,Nat.zero_le _,rfl,rfl,rfl,aM _ _,K0⟩
  case round=>
   obtain⟨k,S,hk,rfl,rfl,Q,B,K⟩:=hrel;obtain⟨wz,rfl⟩:∃q:World,q=wr:=⟨_,rfl⟩;have g1:S.size<=22000:=by rw[Q];exact Q4 g l k e6 hk
   have HS:=Lib.hid Q;clear Q K0;have G1:=K.cell
   by_cases hlt:k<l.length
   ·have b8:(k:Int)<(l.length:Int):=by omega
    go_wp2_with fail;refine(gD g l _ _ (F.below B (Nat.le_refl _))).mono ?_;rintro e w1 ⟨rfl,o⟩;rw[HF.out];have K:=K.keep o;have B:=B.after o B.size;clear G1 o;have Q:=HS.out;have U:=aK HC.out hb B (Nat.le_refl _) k hlt;have g3:=fun W=>d0.out W k hlt;have D:=PN g l k hlt;rw[<-Q]at D;have R:k=0->S=ByteArray.empty:=fun h=>by rw[Q,h];rfl
    obtain⟨x,hx⟩:∃x,x=l[k]:=⟨_,rfl⟩;rw[<-hx]at U D;have hT:=qI g x;have hF:=fun y:Ext w1=>xQ g x y.w;obtain⟨T,b4⟩:∃T,T=bT g x:=⟨_,rfl⟩;rw[<-b4]at D hT hF;have a7:=Lib.hid hF;have a9:=Lib.hid D;have f0:=K.cell 0;have f1:=K.cell 1;simp only[List.getElem?_toArray,List.getElem?_cons_zero,List.getElem?_cons_succ]at f0 f1;have q0:∀y:Ext w1,y.w.cell? ⟨w.heap.size,0,none⟩=some (.int .i64 g):=fun y=>y.cell f0;have q1:∀y:Ext w1,y.w.cell? ⟨w.heap.size,1,none⟩=some (.slice a l.length c):=fun y=>y.cell f1;have qk:∀y:Ext w1,y.w.cell? ⟨b,f3+k,none⟩=some (.int .i64 x):=fun y=>y.cell U;clear hF D hx b4 Q HS f0 f1 U
    by_cases L:k=0
    ·have e8:=R L
     subst e8;have e0:=Lib.hid L;have e9:¬0<(k:Int):=by omega
     have b5:¬0<k:=by omega
     clear R L;go_wp2_with fail;refine aO _ (by kernel_rfl) (by kernel_rfl) ?_
     repeat(first|go_big_quiet_skip|(go_big_quiet_want;go_big_quiet_op;first|go_big_quiet_on|(apply Exists.intro;refine⟨fun _=>?_,?_⟩;(go_at_call 81;with_reducible exact aV (a7.out _));go_big_quiet_on)))
     refine wpQuiet_nil ?_;rintro w3 ⟨⟨w3,b3⟩,rfl⟩
     try dsimp only
     have B:=B.after b3 B.size;have K:=K.keep b3;go_wp2;go_roundw
     case rel=>exact⟨k+1,_,by omega,by go_num,rfl,by rw[a9.out,if_pos e0.out],B,K⟩
     case measure=>simp[intOf];omega
    ·have e9:0<(k:Int):=by omega
     have b5:0<k:=by omega
     have g0:(S++pS).size<=22001:=by rw[ByteArray.size_append];show S.size+1<=22001;omega
     clear R;go_wp2_with fail;refine aO _ (by kernel_rfl) (by kernel_rfl) ?_
     repeat(first|go_big_quiet_skip|(go_big_quiet_want;go_big_quiet_op;first|go_big_quiet_on|(apply Exists.intro;refine⟨fun _=>?_,?_⟩;(go_at_call 81;with_reducible exact aV (a7.out _));go_big_quiet_on)))
     refine wpQuiet_nil ?_;rintro w3 ⟨⟨w3,b3⟩,rfl⟩
     try dsimp only
     have B:=B.after b3 B.size;have K:=K.keep b3;go_wp2;go_roundw
     case rel=>exact⟨k+1,_,by omega,by go_num,rfl,by rw[a9.out,if_neg L];rfl,B,K⟩
     case measure=>simp[intOf];omega
   ·have b8:¬(k:Int)<(l.length:Int):=by omega
    have I:S=cF pS (l.map (bT g)):=by rw[HS.out,show k=l.length by omega,List.take_length]
    have Z:=mA S;have Y:decide (S=ByteArray.empty)=decide (l=[]):=by rw[I];simp only[c9.out]
    rw[Y]at Z
    cases h0:decide (l=[]) with
    |true=>
     have z:fV g l=pE:=by rw[a8.out,if_pos (of_decide_eq_true h0)]
     rw[h0]at Z;have O:=Lib.hid z;clear h0 Y I z HS;go_wp2_with fail;refine(gD g l _ _ (F.below B (Nat.le_refl _))).mono ?_;rintro e w2 ⟨rfl,A⟩;rw[HF.out];go_wp2;go_ret;exact⟨bG O.out.symm,B.after A B.size⟩
    |false=>
     have z:fV g l=S:=by rw[a8.out,if_neg (of_decide_eq_false h0)];exact I.symm
     rw[h0]at Z;have O:=Lib.hid z;clear h0 Y I z HS;go_wp2;go_ret;exact⟨bG O.out.symm,B⟩
end
section
open Go.RowKit Go.G5
def fP(x:Int):Int:=max (-9999) (min 9999 x)
theorem VJ(x:Int):-9999<=fP x/\fP x<=9999:=by unfold fP;omega
theorem rI(x:Int):bA (fP x):=by have:=VJ x;exact⟨by omega,by omega⟩
def eY(l:List Int):ByteArray:=if (l.length=0∨40<l.length) then pE else cF eO ((l.map fP).map cE)
theorem xZ(l:List Int):(eY l).size<=880:=by
 unfold eY
 split
 ·show 4<=880;omega
 ·rename_i h
  have h1:=mI (l.map fP) (fun x o=>by
   obtain⟨y,_,rfl⟩:=List.mem_map.1 o;exact rI y)
  rw[List.length_map]at h1;omega
theorem P6(l:List Int):eY l≠ByteArray.empty:=by
 unfold eY
 split
 ·intro e
  exact absurd (congrArg ByteArray.size e) (by decide)
 ·rename_i h
  rw[Ne,qH,List.map_eq_nil_iff];intro e;subst e;exact h (.inl rfl)
theorem EU(l:List Int)(v:Value)(w:World)(hv:aD w v l)(hp:sE w):
  Calls Tryz.prog 207 #[v] w fun e w'=>e=.returned (.string (eY l))/\Below w.heap.size w w':=by
 obtain⟨a,b,e0,c,rfl,L,K,hc,hb⟩:=hv.view Tryz.prog 22 3 Tryz.underlying22 aG;have HC:=Lib.hid hc;have Q:=Lib.hid K;clear hc K L
 by_cases I:l.length=0
 ·have z:eY l=pE:=by unfold eY;rw[if_pos (.inl I)]
  have D:=Lib.hid z;have hz:((l.length:Int)==0)=true:=by simp[I]
  clear z I;go_enter Tryz.func207,Tryz.ntmps207;go_wp2;go_ret;exact⟨bG D.out.symm,Below.refl _ _⟩
 ·have hz:((l.length:Int)==0)=false:=by
   rw[beq_eq_false_iff_ne];omega
  by_cases h4:40<l.length
  ·have z:eY l=pE:=by unfold eY;rw[if_pos (.inr h4)]
   have D:=Lib.hid z;have Y:(40:Int)<(l.length:Int):=by omega
   clear z I;go_enter Tryz.func207,Tryz.ntmps207;go_wp2;go_ret;exact⟨bG D.out.symm,Below.refl _ _⟩
  ·have z:eY l=cF eO ((l.map fP).map cE):=by unfold eY;rw[if_neg (by omega)]
   have D:=Lib.hid z;have Y:¬(40:Int)<(l.length:Int):=by omega
   clear z I;go_enter Tryz.func207,Tryz.ntmps207;go_wp2_with fail;go_loopw [3,16] (fun ov iv wr=>∃(k:Nat) (p:Option Addr) (n F:Nat),k<=l.length/\iv=.int .i64 k/\ov=.slice p n F/\aC 3 w.heap.size wr (.slice p n F) ((l.take k).map fP)/\Below w.heap.size w wr) (fun _ iv _=>l.length-(intOf iv).toNat)
   case atStart=>exact⟨0,_,_,_,Nat.zero_le _,rfl,rfl,aC.nil _ _ _,Below.refl _ _⟩
   case round=>
    obtain⟨k,p,n,F,hk,rfl,rfl,N,B⟩:=hrel;obtain⟨wz,rfl⟩:∃q:World,q=wr:=⟨_,rfl⟩
    by_cases hlt:k<l.length
    ·have M:(k:Int)<(l.length:Int):=by omega
     have a1:=aK HC.out hb B (Nat.le_refl _) k hlt;have c5:=fun W=>Q.out W k hlt;have A:(l.take (k+1)).map fP=(l.take k).map fP++[fP l[k]]:=by
      rw[List.take_succ_eq_append_getElem hlt,List.map_append];rfl
     have o:((l.take k).map fP).length=k:=by simp;omega
     obtain⟨x,z⟩:∃x,x=l[k]:=⟨_,rfl⟩;rw[<-z]at a1 A;have a6:=rI x;have b9:max (-9999) (min 9999 x)=fP x:=rfl;have S:=Lib.hid A;have R:=Lib.hid o;have zB:=B.size;clear z A o;go_wp2_with (at_builtin;refine eI rfl _ _ _ rfl 3 Tryz.underlying22 aG w.heap.size (.slice p n F) ((l.take k).map fP) (fP x) _ rfl rfl (aT _ _ _ _ _ rfl) (N.alloc _) a6 (by rw[R.out];omega) (by simp;omega) ?_;intro v7 w7 o7 g7;obtain⟨p7,i7,q7,rfl⟩:=o7.shape3);have rr:=N.lt;have B7:=(B.alloc zB (.cells #[.int .i64 (fP x)] 3)).grown g7 (by simp;omega) (fun q hq=>(rr _ hq).1);go_roundw
     case rel=>exact⟨k+1,p7,i7,q7,by omega,by go_num,rfl,by rw[S.out];exact o7,B7⟩
     case measure=>simp[intOf];omega
    ·have o:k=l.length:=by omega
     have O:aC 3 w.heap.size wz (.slice p n F) (l.map fP):=by
      rw[o,List.take_length]at N;exact N
     have M:¬(k:Int)<(l.length:Int):=by omega
     have hj:=qA (l.map fP) _ wz O.ints (by rw[List.length_map];omega) (hp.keep B);obtain⟨J,Z⟩:∃J,J=cF eO ((l.map fP).map cE):=⟨_,rfl⟩;rw[<-Z]at hj;have U:=Lib.hid (D.out.trans Z.symm);have HJ:=Lib.hid hj;clear o N O hj Z;go_wp2_with fail;refine HJ.out.mono ?_;rintro e w3 ⟨rfl,b3⟩;go_wp2;go_ret;exact⟨bG U.out.symm,B.after b3 B.size⟩
theorem VN(l:List Int)(v:Value)(w:World)(hv:aD w v l):
  Calls Tryz.prog 210 #[v] w fun e w'=>e=.returned (.string (eY l))/\Below w.heap.size w w':=by
 obtain⟨a,b,f4,c,rfl,a7,a6,hc,hb⟩:=hv.view Tryz.prog 22 3 Tryz.underlying22 aG;have HC:=Lib.hid hc;have b5:=Lib.hid a6;clear hc a6 a7
 by_cases h4:40<l.length
 ·have Q:eY l=pE:=by unfold eY;rw[if_pos (.inr h4)]
  have HX:=Lib.hid Q;have b8:¬(l.length:Int)<=40:=by omega
  have e5:(0:Int)<(l.length:Int):=by omega
  clear Q;go_enter Tryz.func210,Tryz.ntmps210;go_wp2_with fail;go_loopw [3,4] (fun sv iv wr=>iv=.int .i64 0/\sv=.string ⟨#[]⟩/\Below w.heap.size w wr) (fun _ _ _=>0)
  case atStart=>exact⟨rfl,rfl,Below.refl _ _⟩
  case round=>
   obtain⟨rfl,rfl,B⟩:=hrel;go_wp2;go_ret;exact⟨bG HX.out.symm,B⟩
 ·have a9:eY l=if l=[] then pE else cF eO ((l.map fP).map cE):=by
   unfold eY
   by_cases z:l=[]
   ·rw[if_pos z,if_pos (.inl (by rw[z];rfl))]
   ·rw[if_neg z,if_neg (fun h=>h.elim (fun h=>z (List.eq_nil_of_length_eq_zero h)) h4)]
  have R:=Lib.hid a9;have b8:(l.length:Int)<=40:=by omega
  clear a9;have a1:∀x∈l.map fP,bA x:=fun x Q=>by
   obtain⟨y,_,rfl⟩:=List.mem_map.1 Q;exact rI y
  have b0:(l.map fP).length=l.length:=List.length_map ..;have D:=Lib.hid b0;have b4:=Lib.hid a1;clear b0 a1;go_enter Tryz.func210,Tryz.ntmps210;go_wp2_with fail;go_loopw [3,4] (fun sv iv wr=>∃(k:Nat) (S:ByteArray),k<=l.length/\iv=.int .i64 k/\sv=.string S/\S=cF eO (((l.map fP).take k).map cE)/\Below w.heap.size w wr) (fun _ iv _=>l.length-(intOf iv).toNat)
  case atStart=>exact⟨0,_,Nat.zero_le _,rfl,rfl,rfl,Below.refl _ _⟩
  case round=>
   obtain⟨k,S,hk,rfl,rfl,L,B⟩:=hrel;obtain⟨wz,rfl⟩:∃q:World,q=wr:=⟨_,rfl⟩;have e7:S.size<=22000:=by rw[L];exact sI (l.map fP) k b4.out (by rw[D.out];omega) (by rw[D.out];exact hk)
   by_cases hlt:k<l.length
   ·have a8:(k:Int)<(l.length:Int):=by omega
    have c6:=aK HC.out hb B (Nat.le_refl _) k hlt;have f0:=fun W=>b5.out W k hlt;have o:=sO (l.map fP) k (by rw[D.out];exact hlt);rw[List.getElem_map]at o;rw[<-L]at o;have M:k=0->S=ByteArray.empty:=fun h=>by rw[L,h];rfl
    obtain⟨x,Q⟩:∃x,x=l[k]:=⟨_,rfl⟩;rw[<-Q]at c6 o;have e9:max (-9999) (min 9999 x)=fP x:=rfl;have hT:=mC (fP x) (rI x);have hF:=uE (fP x) (rI x) wz;obtain⟨T,Y⟩:∃T,T=cE (fP x):=⟨_,rfl⟩;rw[<-Y]at o hT hF;have HF:=Lib.hid hF;have U:=Lib.hid o;clear hF o Q Y L
    by_cases I:k=0
    ·have c5:=M I
     subst c5;have b6:=Lib.hid I;have c7:¬0<(k:Int):=by omega
     have Z:¬0<k:=by omega
     clear M I;go_wp2_with fail;refine HF.out.mono ?_;rintro e w3 ⟨rfl,b3⟩;have B:=B.after b3 B.size;go_wp2;go_roundw
     case rel=>exact⟨k+1,_,by omega,by go_num,rfl,by rw[U.out,if_pos b6.out],B⟩
     case measure=>simp[intOf];omega
    ·have c7:0<(k:Int):=by omega
     have Z:0<k:=by omega
     have e6:(S++eO).size<=22001:=by rw[ByteArray.size_append];show S.size+1<=22001;omega
     clear M;go_wp2_with fail;refine HF.out.mono ?_;rintro e w3 ⟨rfl,b3⟩;have B:=B.after b3 B.size;go_wp2;go_roundw
     case rel=>exact⟨k+1,_,by omega,by go_num,rfl,by rw[U.out,if_neg I];rfl,B⟩
     case measure=>simp[intOf];omega
   ·have a8:¬(k:Int)<(l.length:Int):=by omega
    have F:S=cF eO ((l.map fP).map cE):=by rw[L,show k=(l.map fP).length by rw[D.out];omega,List.take_length]
    have O:=mA S;have N:decide (S=ByteArray.empty)=decide (l=[]):=by rw[F];simp only[qH,List.map_eq_nil_iff]
    rw[N]at O
    cases z:decide (l=[]) with
    |true=>
     have A:eY l=pE:=by rw[R.out,if_pos (of_decide_eq_true z)]
     rw[z]at O;have K:=Lib.hid A;clear z N F A L;go_wp2;go_ret;exact⟨bG K.out.symm,B⟩
    |false=>
     have A:eY l=S:=by rw[R.out,if_neg (of_decide_eq_false z)];exact F.symm
     rw[z]at O;have K:=Lib.hid A;clear z N F A L;go_wp2;go_ret;exact⟨bG K.out.symm,B⟩
end
section
open Go.RowKit Go.G5
def oR:ByteArray:=⟨#[115,101,116]⟩
def kK:ByteArray:=⟨#[111,102]⟩
def yS:ByteArray:=⟨#[102,111,114]⟩
def yU:ByteArray:=⟨#[97,110,100]⟩
def gU(k:Int)(S F G A:ByteArray):List ByteArray:=
 if k=1∨k=5 then [oR,S,kK,F] else if k=2 then [kK,F] else if k=3 then [kK,F,yS,G] else if k=4 then [oR,S,kK,F,yU,G] else [kK,A]
theorem BK(k n1:Int)(M:Value)(l1:List Int)(n2:Int)(v2:Value)(l2:List Int)(n3:Int)(v3:Value)(l3:List Int)(q st:Int)(v4:Value)(w:World)
  (h1:aD w M l1) (h2:aD w v2 l2) (h3:aD w v3 l3) (hp:sE w):
  Calls Tryz.prog 208 #[clV k n1 M n2 v2 n3 v3 q st v4] w fun e w'=>∃ad i cp,e=.returned (.slice ad i cp)/\cW 9 w.heap.size w' (.slice ad i cp) (gU k (bT n1 st) (eM n1 l1) (eM n2 l2) (fV n3 l3))/\Below w.heap.size w w':=by
 have K0:=aB.new w 49 (clC k n1 M n2 v2 n3 v3 q st v4);have Q:=hp.keep (aM w (.cells (clC k n1 M n2 v2 n3 v3 q st v4) 49));have hs:=xP n1 st _ Q;obtain⟨S,hS⟩:∃S,S=bT n1 st:=⟨_,rfl⟩;obtain⟨F,hF⟩:∃F,F=eM n1 l1:=⟨_,rfl⟩;obtain⟨G,hG⟩:∃G,G=eM n2 l2:=⟨_,rfl⟩;obtain⟨A,hA⟩:∃A,A=fV n3 l3:=⟨_,rfl⟩;rw[<-hS]at hs;rw[<-hS,<-hF,<-hG,<-hA];have HS:=Lib.hid hs;have HF:=Lib.hid hF;have HG:=Lib.hid hG;have HA:=Lib.hid hA;clear hs hS hF hG hA;go_enter Tryz.func208,Tryz.ntmps208;go_wp2_with fail;refine HS.out.mono ?_;rintro e I ⟨rfl,b1⟩;have K:Below w.heap.size w I:=(aM _ _).after b1 (by simp);have K1:=K0.keep b1;clear K0 b1 HS;have L:=K1.cell;have c0:=L 0;have c1:=L 1;have c2:=L 2;have c3:=L 3;have c4:=L 4;simp only[clC,List.getElem?_toArray,List.getElem?_cons_zero,List.getElem?_cons_succ]at c0 c1 c2 c3 c4;have q1:∀y:Ext I,y.w.cell? ⟨w.heap.size,1,none⟩=some (.int .i64 n1):=fun y=>y.cell c1;have q2:∀y:Ext I,y.w.cell? ⟨w.heap.size,2,none⟩=some M:=fun y=>y.cell c2;have q3:∀y:Ext I,y.w.cell? ⟨w.heap.size,3,none⟩=some (.int .i64 n2):=fun y=>y.cell c3;have q4:∀y:Ext I,y.w.cell? ⟨w.heap.size,4,none⟩=some v2:=fun y=>y.cell c4;have D:=hp.keep K;have N:=fun y:Ext I=>xU n1 l1 M y.w ((h1.below K (Nat.le_refl _)).keep y.b) (D.keep y.b);rw[<-HF.out]at N;have N:=Lib.hid N;have O:=fun y:Ext I=>xU n2 l2 v2 y.w ((h2.below K (Nat.le_refl _)).keep y.b) (D.keep y.b);rw[<-HG.out]at O;have O:=Lib.hid O;clear c0 c1 c2 c3 c4 L Q;go_wp2_with fail;refine aO _ (by kernel_rfl) (by kernel_rfl) ?_
 repeat(first|go_big_quiet_skip|(go_big_quiet_want;go_big_quiet_op;first|go_big_quiet_on|(apply Exists.intro;refine⟨fun _=>?_,?_⟩;(first|(go_at_call 14;with_reducible exact aV (N.out _))|(go_at_call 14;with_reducible exact aV (O.out _)));go_big_quiet_on)))
 refine wpQuiet_nil ?_;rintro w2 ⟨⟨w2,b2⟩,rfl⟩
 try dsimp only
 have o:=K.after b2 K.size;have K2:=K1.keep b2;have a7:=h3.below o (Nat.le_refl _);have b7:=hp.keep o;clear N O q1 q2 q3 q4 K1 b2 K D h1 h2 h3;have G2:=K2.cell
 by_cases k1:k=1
 ·subst k1
  have z:=Lib.hid (show gU 1 S F G A=[oR,S,kK,F] from rfl);go_wp2;go_ret;exact⟨_,_,_,rfl,by rw[z.out];exact(cW.lit w2 _ _ rfl (by simp only[List.length_cons,List.length_nil];unfold maxLen;omega) (Nat.le_refl _)).mono o.size,o.alloc o.size _⟩
 ·by_cases k5:k=5
  ·subst k5
   have z:=Lib.hid (show gU 5 S F G A=[oR,S,kK,F] from rfl);go_wp2;go_ret;exact⟨_,_,_,rfl,by rw[z.out];exact(cW.lit w2 _ _ rfl (by simp only[List.length_cons,List.length_nil];unfold maxLen;omega) (Nat.le_refl _)).mono o.size,o.alloc o.size _⟩
  ·by_cases R:k=2
   ·subst R
    have z:=Lib.hid (show gU 2 S F G A=[kK,F] from rfl);go_wp2;go_ret;exact⟨_,_,_,rfl,by rw[z.out];exact(cW.lit w2 _ _ rfl (by simp only[List.length_cons,List.length_nil];unfold maxLen;omega) (Nat.le_refl _)).mono o.size,o.alloc o.size _⟩
   ·by_cases U:k=3
    ·subst U
     have z:=Lib.hid (show gU 3 S F G A=[kK,F,yS,G] from rfl);go_wp2;go_ret;exact⟨_,_,_,rfl,by rw[z.out];exact(cW.lit w2 _ _ rfl (by simp only[List.length_cons,List.length_nil];unfold maxLen;omega) (Nat.le_refl _)).mono o.size,o.alloc o.size _⟩
    ·by_cases Y:k=4
     ·subst Y
      have z:=Lib.hid (show gU 4 S F G A=[oR,S,kK,F,yU,G] from rfl);go_wp2;go_ret;exact⟨_,_,_,rfl,by rw[z.out];exact(cW.lit w2 _ _ rfl (by simp only[List.length_cons,List.length_nil];unfold maxLen;omega) (Nat.le_refl _)).mono o.size,o.alloc o.size _⟩
     ·have hx:gU k S F G A=[kK,A]:=by
       unfold gU;rw[if_neg (by omega),if_neg R,if_neg U,if_neg Y]
      have e1:(k==1)=false:=by simpa using k1
      have e5:(k==5)=false:=by simpa using k5
      have e2:(k==2)=false:=by simpa using R
      have e3:(k==3)=false:=by simpa using U
      have e4:(k==4)=false:=by simpa using Y
      have hj:=LR n3 l3 v3 w2 a7 b7;rw[<-HA.out]at hj;have z:=Lib.hid hx;have HJ:=Lib.hid hj;clear hx hj k1 R U Y k5;go_wp2_with fail;refine HJ.out.mono ?_;rintro e w3 ⟨rfl,b3⟩;have Z:=o.after b3 o.size;go_wp2;go_ret;exact⟨_,_,_,rfl,by rw[z.out];exact(cW.lit w3 [kK,A] 2 rfl (by unfold maxLen;omega) (Nat.le_refl _)).mono Z.size,Z.alloc Z.size _⟩
end
end Go.Proofs.YtipejodijbjpcaaGreatDoor
