/- Lemmas for CardClaims, part 11 of 52. No condition. -/
import Derived.Test.YtipejodijbjpcaaGreatDoorQ03
import Derived.Test.YtipejodijbjpcaaGreatDoorQ05
import Derived.Test.YtipejodijbjpcaaGreatDoorQ06
import Derived.Test.YtipejodijbjpcaaGreatDoorQ09
import Derived.Test.YtipejodijbjpcaaGreatDoorQ10
import Derived.Deep.RegionHeld3
set_option maxRecDepth 100000
set_option maxHeartbeats 64000000
namespace Go.Proofs.YtipejodijbjpcaaGreatDoor
section
open Go.RowKit Go.G5
theorem O8(n:Nat)(hn:n<=5)(l:List Int)(v:Value)(g s:Nat)(W:World)(hv:aD W v l)(I:l.length=2^n)(hs:s<2^n)(c0:W.cell? ⟨g,0,none⟩=some (.int .i64 n))(c1:W.cell? ⟨g,1,none⟩=some v):
  Calls Tryz.prog 389 #[.int .i64 s,.pointer (some ⟨g,0,none⟩)] W fun e w'=>e=.returned (.int .i64 (mX l s))/\Below W.heap.size W w':=by
 have O:=hv;obtain⟨a,b,Q,c,rfl,Y,F,S,hb⟩:=hv.view Tryz.prog 22 3 Tryz.underlying22 aG;have U:=wM l s (by omega);have p5:(2:Nat)^n<=32:=Nat.pow_le_pow_right (n:=2) (by decide) hn;have hd:=uG n hn s hs;have o:=AZ (2^n-1) s (by omega) (by omega);rw[hd]at o;have M:=Nat.two_pow_pos n;have z:((2^n-1:Nat):Int)=(2:Int)^n-1:=by rw[Int.ofNat_sub M];simp
 rw[z]at o;have D:=S (l.length-1-s) (by omega);have A:=fun W=>F W (l.length-1-s) (by omega);rw[<-U]at D;rw[I]at D A;have e0:∀x:Ext W,x.w.cell? ⟨g,0,none⟩=some (.int .i64 n):=fun x=>x.cell c0;have e1:∀x:Ext W,x.w.cell? ⟨g,1,none⟩=some (.slice a l.length c):=fun x=>x.cell c1;have e2:∀x:Ext W,x.w.cell? ⟨b,Q+(2^n-1-s),none⟩=some (.int .i64 (mX l s)):=fun x=>x.cell D;obtain⟨q,N⟩:∃q,q=mX l s:=⟨_,rfl⟩;rw[<-N]at e2;obtain⟨m,Z⟩:∃m,m=2^n-1-s:=⟨_,rfl⟩;simp only[<-Z]at A e2 o;have HQ:=Lib.hid N;have K:=Lib.hid (fun(x:Ext W)=>jM (n:Int) (.slice a l.length c) l x.w (x.ints O) (by omega) (by omega));have R:l.length=2^n:=I;rw[<-R]at A;have a7:=Lib.hid I;clear S F hb U hd D N Z z I R;go_enter Tryz.func389,Tryz.ntmps389;go_wp2_with fail;refine aO _ (by kernel_rfl) (by kernel_rfl) ?_
 repeat(first|go_big_quiet_skip|(go_big_quiet_want;go_big_quiet_op;first|go_big_quiet_on|(apply Exists.intro;refine⟨fun _=>?_,?_⟩;(go_at_call 127;exact aV (K.out _));go_big_quiet_on)))
 refine wpQuiet_nil ?_;rintro w3 ⟨⟨w3,L⟩,rfl⟩
 try dsimp only
 go_wp2;go_ret;exact⟨eJ HQ.out,L⟩
theorem xB:∀args w,(callFunc 389 args).run Tryz.prog w=.ok (.enter 389 args) w:=enters_of Tryz.func389 (by kernel_rfl) rfl
theorem VV(w:World)(n:Int)(v:Value)(l:List Int)(hv:aD w v l)(_:l.length<=1048576):
  Calls Tryz.prog 371 #[.agg #[.int .i64 n,v]] w fun e w'=>∃O i Q,e=.returned (.tuple #[.agg #[.int .i64 (sT n l),.slice O i Q],.bool (aN n l)])/\aC 3 w.heap.size w' (.slice O i Q) (sH n l)/\Below w.heap.size w w':=by
 obtain⟨a,c,rfl⟩:=hv.shape;have e5:∀(fn:Fn) (first cap:Array Value) (w:World),(Instr.makeFunc fn first cap).run Tryz.prog w=.ok (.func fn first cap) w:=fun _ _ _ _=>rfl;go_enter Tryz.func371,Tryz.ntmps371;go_wp2_with fail;refine aH ?_;intro V hV;have B:Below w.heap.size w V:=by rw[hV];exact cD _ _ _
 have K1:aB V w.heap.size 32 #[.int .i64 n,.slice a l.length c]:=by rw[hV];exact(aB.new _ _ _).alloc _
 have A:aB V (w.heap.size+1) 32 #[.int .i64 0,.slice none 0 0]:=by rw[hV];have:=aB.new (w.alloc (.cells #[.int .i64 n,.slice a l.length c] 32)) 32 #[.int .i64 0,.slice none 0 0];simpa using this
 clear hV;refine(eZ n l _ _ (hv.below B (Nat.le_refl _))).mono ?_;rintro e w1 ⟨rfl,F⟩;have K1:=K1.keep F;have A:=A.keep F;have B1:=B.after F B.size;have c7:=hv.below B1 (Nat.le_refl _);clear B F;have G1:=K1.cell;have z1:=K1.lt;have z2:=A.lt
 cases I:aN n l with
 |false=>
  have S:sT n l=0:=by unfold sT;rw[I];rfl
  have R:sH n l=[]:=by unfold sH;rw[I];rfl
  have HN:=Lib.hid S;have HL:=Lib.hid R;have HF:=Lib.hid I;have G2:=A.cell;have F2:=A.frozen;clear S R;go_wp2;refine aI ?_;intro Wf o;have K:aB Wf (w.heap.size+1) 32 #[.int .i64 0,.slice none 0 0]:=by
   rw[o];have:=(A.set 0 (.int .i64 0)).set 1 (.slice none 0 0);simpa using this
  have Bf:Below w.heap.size w Wf:=by rw[o];exact Below.setCell (Below.setCell B1 (by first|omega|(simp;done)|(simp;omega)) _) (by first|omega|(simp;done)|(simp;omega)) _
  have Gf:=K.cell;clear o G1 G2 F2;exact bodyPost_ret (v:=.tuple #[.agg #[.int .i64 0,.slice none 0 0],.bool false]) (by simp[results,Tryz.results371,go_sem,Gf]) rfl ⟨none,0,0,by rw[HN.out,HF.out],by rw[HL.out];exact aC.nil _ _ _,Bf⟩
 |true=>
  obtain⟨h0,h5,D,Z⟩:=jS I;obtain⟨N,rfl⟩:=Int.eq_ofNat_of_zero_le h0;have U:N<=5:=by omega
  have M:l.length=2^N:=by
   have e2:(N:Int).toNat=N:=by omega
   rw[e2]at D
   exact_mod_cast D
  have S:sT N l=N:=by unfold sT;rw[I];rfl
  have R:sH N l=kP l:=by unfold sH;rw[I];rfl
  have z:bM (mX l) (2^N)=kP l:=by unfold kP;rw[M]
  have Y:aN N (bM (mX l) (2^N))=true:=by rw[z];exact UI N l I
  have a1:∀W,aD W (.slice a l.length c) l->W.cell? ⟨w.heap.size,0,none⟩=some (.int .i64 N)->W.cell? ⟨w.heap.size,1,none⟩=some (.slice a l.length c)->Calls Tryz.prog 273 #[.int .i64 N,.func (.func 389) #[] #[.pointer (some ⟨w.heap.size,0,none⟩)]] W fun e w'=>
    ∃O i Q,e=.returned (.tuple #[.agg #[.int .i64 N,.slice O i Q],.bool true])/\aC 3 W.heap.size w' (.slice O i Q) (kP l)/\Below W.heap.size W w':=fun W hW c0 c1=>by
   have:=yZ W N U 389 xB w.heap.size (mX l) (fun s hs=>by rw[wM l s (by omega)];have:=Z (l.length-1-s) (by omega);exact⟨by omega,by omega⟩)
    (fun s W' hs hB=>O8 N U l _ w.heap.size s W' (hW.keep hB) M hs (keep hB c0) (keep hB c1))
   rw[Y,if_pos rfl,if_pos rfl,z]at this;exact this
  have HN:=Lib.hid S;have HL:=Lib.hid R;have HF:=Lib.hid I;have b8:=Lib.hid a1;clear S R I z Y a1 M D Z;go_wp2_with fail;refine(b8.out _ c7 (G1 0) (G1 1)).mono ?_;rintro e w3 ⟨p3,i3,q3,rfl,o3,L⟩;have A:=A.keep L;have B3:=B1.after L B1.size;have G2:=A.cell;have F2:=A.frozen;have z3:=A.lt;clear G1 L;go_wp2;refine aI ?_;intro Wf o;have K:aB Wf (w.heap.size+1) 32 #[.int .i64 N,.slice p3 i3 q3]:=by
   rw[o];have:=(A.set 0 (.int .i64 N)).set 1 (.slice p3 i3 q3);simpa using this
  have Bf:Below w.heap.size w Wf:=by rw[o];exact Below.setCell (Below.setCell B3 (by first|omega|(simp;done)|(simp;omega)) _) (by first|omega|(simp;done)|(simp;omega)) _
  have of:aC 3 w.heap.size Wf (.slice p3 i3 q3) (kP l):=by rw[o];exact((o3.setBelow (by first|omega|(simp;done)|(simp;omega)) _).setBelow (by first|omega|(simp;done)|(simp;omega)) _).mono (by first|omega|(simp;done)|(simp;omega))
  have Gf:=K.cell;clear o G2 F2;exact bodyPost_ret (v:=.tuple #[.agg #[.int .i64 N,.slice p3 i3 q3],.bool true]) (by simp[results,Tryz.results371,go_sem,Gf]) rfl ⟨p3,i3,q3,by rw[HN.out,HF.out],by rw[HL.out];exact of,Bf⟩
theorem NU(n A:Int)(v F:Value)(l z:List Int)(w:World)(D:aD w v l)(o:aD w F z):
  Calls Tryz.prog 212 #[.agg #[.int .i64 n,v],.agg #[.int .i64 A,F]] w fun e w'=>e=.returned (.bool (n==A&&decide (l=z)))/\Below w.heap.size w w':=by
 obtain⟨a,c,rfl⟩:=D.shape;obtain⟨I,K,rfl⟩:=o.shape
 cases h:(n==A) with
 |false=>
  go_enter Tryz.func212,Tryz.ntmps212;go_wp2;go_ret;exact⟨rfl,cD _ _ _⟩
 |true=>
  go_enter Tryz.func212,Tryz.ntmps212;go_wp2_with (go_at_call 124;refine(fG _ _ l z _ ((D.alloc _).alloc _) ((o.alloc _).alloc _)).mono ?_;rintro e w2 ⟨rfl,L,rfl⟩);go_ret;exact⟨rfl,(cD _ _ _).drewN' _⟩
theorem S8(n:Int)(l:List Int)(v:Value)(w:World)(M:aD w v l)(hl:l.length<=1048576):
  Calls Tryz.prog 341 #[.agg #[.int .i64 n,v]] w fun e w'=>e=.returned (.bool (oT n l))/\Below w.heap.size w w':=by
 obtain⟨a,c,rfl⟩:=M.shape;have K0:=aB.new w 32 #[.int .i64 n,.slice a l.length c];go_enter Tryz.func341,Tryz.ntmps341;go_wp2_with fail;refine(VV _ n _ l (M.alloc _) hl).mono ?_;rintro e Z ⟨U,R,Y,rfl,S,D⟩;have K:=K0.keep D;have z:Below w.heap.size w Z:=(aM _ _).after D (by simp);have y1:=z.size;have z1:=K.lt
 cases A:aN n l with
 |false=>
  have F:oT n l=false:=by unfold oT;rw[A];rfl
  have HX:=Lib.hid F;clear F A;go_wp2;go_ret;exact⟨by rw[HX.out];rfl,(by repeat(first|exact Below.refl _ _|(with_reducible refine Below.setCell ?_ (by first|omega|(simp;done)|(simp;omega)) _)|(with_reducible refine Below.alloc ?_ (by first|omega|(simp;done)|(simp;omega)) _)|(with_reducible refine Below.drewN' ?_ _)|(with_reducible refine Below.drew ?_)|(with_reducible assumption)|refine Below.trans ?_ (Below.mono (by assumption) (by first|omega|(simp;done)|(simp;omega)))))⟩
 |true=>
  have F:oT n l=decide (l=kP l):=by unfold oT;rw[A];rfl
  have Q:sT n l=n:=by unfold sT;rw[A];rfl
  have O:sH n l=kP l:=by unfold sH;rw[A];rfl
  rw[O]at S;have o:=fun W (h1:aD W (.slice a l.length c) l) (h2:aD W (.slice U R Y) (kP l))=>NU n n _ _ l (kP l) W h1 h2;simp only[beq_self_eq_true,Bool.true_and,<-F]at o;have I:=Lib.hid o;have ca:∀i,(Z.alloc (.cells #[.int .i64 n,.slice U R Y] 32)).cell? ⟨w.heap.size,i,none⟩=(#[.int .i64 n,.slice a l.length c]:Array Value)[i]?:=(K.alloc _).cell;rw[Q];have N:=M.below z (Nat.le_refl _);clear F Q O o A;have G1:=K.cell;go_wp2_with (go_at_call 212;refine(I.out _ (N.alloc _) (S.alloc _).ints).mono ?_;rintro e w2 ⟨rfl,L⟩);go_ret;exact⟨rfl,(z.alloc z.size _).after L (z.alloc z.size _).size⟩
theorem zS(n:Int)(l:List Int)(v:Value)(w:World)(L:aD w v l)(R:l.length<=1048576):
  Calls Tryz.prog 288 #[.agg #[.int .i64 n,v]] w fun e w'=>e=.returned (.bool (eF n l))/\Below w.heap.size w w':=by
 obtain⟨a,c,rfl⟩:=L.shape;have O:=aB.new w 32 #[.int .i64 n,.slice a l.length c];go_enter Tryz.func288,Tryz.ntmps288;go_wp2_with fail;refine(jP n l _ _ (L.alloc _) R).mono ?_;rintro e Y ⟨rfl,z⟩;have Q:=O.keep z;have F:Below w.heap.size w Y:=(aM _ _).after z (by simp);clear z O
 cases I:cY n l with
 |false=>
  have o:eF n l=false:=by unfold eF;rw[I];rfl
  have D:=Lib.hid o;clear o I;go_wp2;go_ret;exact⟨by rw[D.out];rfl,F⟩
 |true=>
  have N:=Lib.hid I;clear I;have S:=Q.cell;go_wp2_with fail;refine(S8 n l _ _ (L.below F (Nat.le_refl _)) R).mono ?_;rintro e w2 ⟨rfl,A⟩;have U:=Q.keep A;have M:=F.after A F.size;clear A S
  cases K:oT n l with
  |false=>
   have o:eF n l=false:=by unfold eF;rw[N.out,K];rfl
   have D:=Lib.hid o;clear o K;go_wp2;go_ret;exact⟨by rw[D.out];rfl,M⟩
  |true=>
   have o:eF n l=decide (2<=n):=by unfold eF;rw[N.out,K];rfl
   have D:=Lib.hid o;clear o K;have Z:=U.cell;go_wp2;go_ret;exact⟨by rw[D.out];rfl,M⟩
end
section
open Go.RowKit Go.G5
theorem BN{n:Int}{l:List Int}(h:eF n l=true):aN n l=true/\2<=n:=by
 unfold eF cY at h;simp only[Bool.and_eq_true,decide_eq_true_eq]at h;exact⟨h.1.1.1,h.2⟩
theorem zL{n:Int}{l:List Int}(h:eF n l=true):4<=l.length/\l.length<=32/\(l.length:Int)=2^n.toNat/\n<=5/\∀k,(N:k<l.length)->-1000<=l[k]/\l[k]<=1000:=by
 obtain⟨h1,h2⟩:=BN h;obtain⟨M,D,o,A⟩:=jS h1;obtain⟨m,I⟩:∃m:Nat,n.toNat=m:=⟨_,rfl⟩;have z:2<=m/\m<=5:=by omega
 have K:(2:Nat)^2<=2^m:=Nat.pow_le_pow_right (by decide) z.1;have L:(2:Nat)^m<=2^5:=Nat.pow_le_pow_right (by decide) z.2;have F:l.length=2^m:=by rw[I]at o;exact_mod_cast o
 exact⟨by omega,by omega,o,D,A⟩
theorem DP(w:World)(n:Int)(v:Value)(l:List Int)(hv:aD w v l)(hl:l.length<=1048576):
  Calls Tryz.prog 177 #[.agg #[.int .i64 n,v]] w fun e w'=>e=.returned (.tuple #[.int .i64 (gL n l),.int .i64 (gZ n l),.bool (eF n l)])/\Below w.heap.size w w':=by
 have I:=hv;obtain⟨a,b,f8,c,rfl,e4,Z,hc,hb⟩:=hv.view Tryz.prog 22 3 Tryz.underlying22 aG;have K0:=aB.new w 32 #[.int .i64 n,.slice a l.length c]
 cases F:eF n l with
 |false=>
  have U:gL n l=0:=by unfold gL;rw[F];rfl
  have Y:gZ n l=0:=by unfold gZ;rw[F];rfl
  have H:=Lib.hid (And.intro U Y);have HF:=Lib.hid F;clear U Y F hc;go_enter Tryz.func177,Tryz.ntmps177;go_wp2_with (go_at_call 288;refine(zS n l _ _ (I.alloc _) hl).mono ?_;rintro e w1 ⟨rfl,A⟩;rw[HF.out]);go_ret3;exact⟨by rw[H.out.1,H.out.2];rfl,(aM _ _).after A (by simp)⟩
 |true=>
  obtain⟨h4,f5,L,f7,a7⟩:=zL F;have c7:0<=n:=by have:=(BN F).2;omega
  have U:gL n l=l.getD (gA l (l.length-1)) 0:=by unfold gL;rw[F];rfl
  have Y:gZ n l=(gA l (l.length-1):Int):=by unfold gZ;rw[F];rfl
  have H:=Lib.hid (And.intro U Y);have HF:=Lib.hid F;have f2:=Lib.hid a7;have HC:=Lib.hid hc;have O:=Lib.hid Z;have Q:=Lib.hid L;have N:=Lib.hid (fun(W:World) (hW:aD W (.slice a l.length c) l)=>jM n (.slice a l.length c) l W hW c7 (by omega));clear U Y F a7 hc Z L;go_enter Tryz.func177,Tryz.ntmps177;go_wp2_with fail;refine(zS n l _ _ (I.alloc _) hl).mono ?_;rintro e w1 ⟨rfl,A⟩;rw[HF.out];have K1:=K0.keep A;have B1:Below w.heap.size w w1:=(aM _ _).after A (by simp);clear K0 A;go_wp2_with fail;go_loopw [5,6] (fun b7 i wr=>∃k:Nat,2<=k/\k<=l.length-1/\i=.int .i64 k/\b7=.int .i64 (gA l k:Int)/\Below w.heap.size w wr/\aB wr w.heap.size 32 #[.int .i64 n,.slice a l.length c]) (fun _ i _=>l.length-(intOf i).toNat)
  case atStart=>exact⟨2,by omega,by omega,rfl,rfl,B1,K1⟩
  case round=>
   obtain⟨k,a1,hk,rfl,rfl,B,K⟩:=hrel;have G1:=K.cell;have b9:=vD l k a1;obtain⟨p,hp⟩:∃p,p=gA l k:=⟨_,rfl⟩;rw[<-hp]at b9 ⊢;have cp:=HC.out p (by omega);have z:=aK HC.out hb B (Nat.le_refl _) p (by omega);have ip:=fun W=>O.out W p (by omega)
   by_cases hlt:k<l.length-1
   ·have D:=sP l k a1
    rw[<-hp,aJ l k (by omega),aJ l p (by omega)]at D;have ck:=aK HC.out hb B (Nat.le_refl _) k (by omega);have ik:=fun W=>O.out W k (by omega);obtain⟨x,hx⟩:∃x,x=l[k]:=⟨_,rfl⟩;obtain⟨y,hy⟩:∃x,x=l[p]:=⟨_,rfl⟩;rw[<-hx]at ck D;rw[<-hy]at z D;have a8:(k:Int)<2^n.toNat-1:=by rw[<-Q.out];omega
    have R:=Lib.hid D;clear D hp hx hy cp;go_wp2_with fail;refine(N.out _ (I.below B (Nat.le_refl _))).mono ?_;rintro e w3 ⟨rfl,o⟩;have B3:=B.after o B.size;have S:=K.keep o;have ck:=keep o ck;have z:=keep o z;clear G1 o;have G3:=S.cell
    by_cases b0:x<y
    ·have M:=Lib.hid (R.out.trans (if_pos b0))
     go_wp2_with fail;go_quiet (fail);go_wp2;go_roundw
     case rel=>exact⟨k+1,by omega,by omega,by go_num,by rw[M.out],B3.drewN' _,S.drewN _⟩
     case measure=>simp[intOf];omega
    ·have M:=Lib.hid (R.out.trans (if_neg b0))
     go_wp2_with fail;go_quiet (fail);go_wp2;go_roundw
     case rel=>exact⟨k+1,by omega,by omega,by go_num,by rw[M.out],B3.drewN' _,S.drewN _⟩
     case measure=>simp[intOf];omega
   ·have a6:k=l.length-1:=by omega
    have a8:¬(k:Int)<2^n.toNat-1:=by rw[<-Q.out];omega
    have hg:l.getD p 0=l[p]:=aJ l p (by omega);obtain⟨y,hy⟩:∃x,x=l[p]:=⟨_,rfl⟩;rw[<-hy]at z hg;have HP:=Lib.hid hp;have HG:=Lib.hid hg;have b6:=Lib.hid a6;clear hp hg a6 hy cp;go_wp2_with fail;refine(N.out _ (I.below B (Nat.le_refl _))).mono ?_;rintro e w3 ⟨rfl,o⟩;have B3:=B.after o B.size;have S:=K.keep o;have z:=keep o z;clear G1 o;have G3:=S.cell;go_wp2;go_ret3;exact⟨by rw[H.out.1,H.out.2,<-b6.out,<-HP.out,HG.out];rfl,B3⟩
end
section
open Go.RowKit Go.G5
theorem oW(a b:Int):(a==b)=decide (a=b):=by by_cases h:a=b<;>simp[h]
theorem pC(w:World)(n:Int)(v:Value)(l:List Int)(N:aD w v l)(S:l.length<=1048576)(m:Int)(u:Value)(k:List Int)(M:aD w u k)(R:k.length<=1048576):
  Calls Tryz.prog 253 #[.agg #[.int .i64 n,v],.agg #[.int .i64 m,u]] w fun e w'=>e=.returned (.bool (cZ n l m k))/\Below w.heap.size w w':=by
 obtain⟨a,c,rfl⟩:=N.shape;obtain⟨b,d,rfl⟩:=M.shape;go_enter Tryz.func253,Tryz.ntmps253;go_wp2_with fail;refine aH ?_;intro V F;have B:Below w.heap.size w V:=by rw[F];exact cD _ _ _
 have z:aB V w.heap.size 32 #[.int .i64 n,.slice a l.length c]:=by rw[F];exact(aB.new _ _ _).alloc _
 have o:aB V (w.heap.size+1) 32 #[.int .i64 m,.slice b k.length d]:=by rw[F];have:=aB.new (w.alloc (.cells #[.int .i64 n,.slice a l.length c] 32)) 32 #[.int .i64 m,.slice b k.length d];simpa using this
 clear F;refine(DU n l _ V (N.below B (Nat.le_refl _)) S).mono ?_;rintro e U ⟨rfl,L⟩;have z:=z.keep L;have o:=o.keep L;have B:=B.after L B.size;have z2:=o.lt
 cases h1:dW n l with
 |false=>
  have A:cZ n l m k=false:=by unfold cZ;rw[h1];rfl
  have D:=Lib.hid A;clear A h1;have O:=z.cell;have I:=o.cell;go_wp2;go_ret;exact⟨aE D.out.symm,B⟩
 |true=>
  have Q:=Lib.hid h1;clear h1;have I:=o.cell;go_wp2_with fail;clear I;refine(DU m k _ U (M.below B (Nat.le_refl _)) R).mono ?_;rintro e w2 ⟨rfl,b2⟩;have z:=z.keep b2;have o:=o.keep b2;have B:=B.after b2 B.size;have A:cZ n l m k=(dW m k&&decide (n=m)):=by unfold cZ;rw[Q.out];rfl
  have D:=Lib.hid A;clear A;have O:=z.cell;have I:=o.cell;have z2:=o.lt
  cases h2:dW m k with
  |false=>
   have K:=Lib.hid h2;clear h2;go_wp2;go_ret;exact⟨aE (by rw[D.out,K.out];rfl),B⟩
  |true=>
   have K:=Lib.hid h2;clear h2;go_wp2;go_ret;exact⟨aE (by rw[D.out,K.out,Bool.true_and];exact oW n m),B⟩
theorem pF(w:World)(n:Int)(v:Value)(l:List Int)(N:aD w v l)(S:l.length<=1048576)(m:Int)(u:Value)(k:List Int)(M:aD w u k)(R:k.length<=1048576):
  Calls Tryz.prog 192 #[.agg #[.int .i64 n,v],.agg #[.int .i64 m,u]] w fun e w'=>e=.returned (.bool (cZ n l m k))/\Below w.heap.size w w':=by
 obtain⟨a,c,rfl⟩:=N.shape;obtain⟨b,d,rfl⟩:=M.shape;go_enter Tryz.func192,Tryz.ntmps192;go_wp2_with fail;refine aH ?_;intro V F;have B:Below w.heap.size w V:=by rw[F];exact cD _ _ _
 have z:aB V w.heap.size 32 #[.int .i64 n,.slice a l.length c]:=by rw[F];exact(aB.new _ _ _).alloc _
 have o:aB V (w.heap.size+1) 32 #[.int .i64 m,.slice b k.length d]:=by rw[F];have:=aB.new (w.alloc (.cells #[.int .i64 n,.slice a l.length c] 32)) 32 #[.int .i64 m,.slice b k.length d];simpa using this
 clear F;refine(vM n l _ V (N.below B (Nat.le_refl _)) S).mono ?_;rintro e U ⟨rfl,L⟩;have z:=z.keep L;have o:=o.keep L;have B:=B.after L B.size;have z2:=o.lt
 cases h1:dW n l with
 |false=>
  have A:cZ n l m k=false:=by unfold cZ;rw[h1];rfl
  have D:=Lib.hid A;clear A h1;have O:=z.cell;have I:=o.cell;go_wp2;go_ret;exact⟨aE D.out.symm,B⟩
 |true=>
  have Q:=Lib.hid h1;clear h1;have I:=o.cell;go_wp2_with fail;clear I;refine(vM m k _ U (M.below B (Nat.le_refl _)) R).mono ?_;rintro e w2 ⟨rfl,b2⟩;have z:=z.keep b2;have o:=o.keep b2;have B:=B.after b2 B.size;have A:cZ n l m k=(dW m k&&decide (n=m)):=by unfold cZ;rw[Q.out];rfl
  have D:=Lib.hid A;clear A;have O:=z.cell;have I:=o.cell;have z2:=o.lt
  cases h2:dW m k with
  |false=>
   have K:=Lib.hid h2;clear h2;go_wp2;go_ret;exact⟨aE (by rw[D.out,K.out];rfl),B⟩
  |true=>
   have K:=Lib.hid h2;clear h2;go_wp2;go_ret;exact⟨aE (by rw[D.out,K.out,Bool.true_and];exact oW n m),B⟩
theorem qF(w:World)(n:Int)(v:Value)(l:List Int)(Q:aD w v l)(s:Nat)(K:s<l.length)(Y:s<64):
  Calls Tryz.prog 282 #[.agg #[.int .i64 n,v],.int .i64 s] w fun e w'=>e=.returned (.bool (bH l s))/\Below w.heap.size w w':=by
 have Z:=Q;obtain⟨a,b,L,c,rfl,O,z,M,hb⟩:=Q.view Tryz.prog 22 3 Tryz.underlying22 aG;obtain⟨V,A⟩:∃V,V=w.alloc (.cells #[.int .i64 n,.slice a l.length c] 32):=⟨_,rfl⟩;have B:Below w.heap.size w V:=by rw[A];exact aM _ _
 have U:aB V w.heap.size 32 #[.int .i64 n,.slice a l.length c]:=by rw[A];exact aB.new _ _ _
 have F:=aK M hb B (Nat.le_refl _) s K;have ik:=fun W=>z W s K;have N:l.getD s 0=l[s]:=aJ l s K;have o:bH l s=decide (l[s]=(aY s:Int)):=by unfold bH;rw[N]
 obtain⟨x,R⟩:∃x,x=l[s]:=⟨_,rfl⟩;rw[<-R]at F o;have D:=Lib.hid o;have S:=Lib.hid (fun W=>nP s W (by omega));have e1:∀y:Ext V,y.w.cell? ⟨w.heap.size,1,none⟩=some (.slice a l.length c):=fun y=>y.cell (U.cell 1);have e2:∀y:Ext V,y.w.cell? ⟨b,L+s,none⟩=some (.int .i64 x):=fun y=>y.cell F;clear M z hb N o R F;go_enter Tryz.func282,Tryz.ntmps282;go_wp2_with fail;rw[<-A];clear A;refine aO _ (by kernel_rfl) (by kernel_rfl) ?_
 repeat(first|go_big_quiet_skip|(go_big_quiet_want;go_big_quiet_op;first|go_big_quiet_on|(apply Exists.intro;refine⟨fun _=>?_,?_⟩;(go_at_call 170;exact aX (S.out _));go_big_quiet_on)))
 refine wpQuiet_nil ?_;rintro w3 ⟨⟨w3,I⟩,rfl⟩
 try dsimp only
 go_wp2;go_ret;exact⟨aE (by rw[D.out];exact oW _ _),B.after I B.size⟩
theorem LA(w:World)(M N:Nat)(n m:Int)(v u:Value)(l k:List Int)(R:aD w v l)(Q:aD w u k)(z:k.length=l.length)(Z:l.length<=32)(s:Nat)(O:s<l.length)(L:aB w M 32 #[.int .i64 n,v])(I:aB w N 32 #[.int .i64 m,u]):
  Calls Tryz.prog 281 #[.int .i64 s,.pointer (some ⟨M,0,none⟩),.pointer (some ⟨N,0,none⟩)] w fun e w'=>e=.returned (.bool (bH l s&&bH k s))/\Below w.heap.size w w':=by
 obtain⟨a,c,rfl⟩:=R.shape;obtain⟨b,d,rfl⟩:=Q.shape;have S:=L.cell;have z1:=L.lt;go_enter Tryz.func281,Tryz.ntmps281;go_wp2_with fail;clear S;refine(qF w n _ l R s O (by omega)).mono ?_;rintro e Y ⟨rfl,o⟩;have I:=I.keep o;have K:=Q.keep o;have D:=Lib.hid z;clear z
 cases h1:bH l s with
 |false=>
  have A:(bH l s&&bH k s)=false:=by rw[h1];rfl
  have F:=Lib.hid A;clear A h1;go_wp2;go_ret;exact⟨aE (by first|exact F.out.symm|simp),o⟩
 |true=>
  have A:(bH l s&&bH k s)=bH k s:=by rw[h1];rfl
  have F:=Lib.hid A;clear A h1;have U:=I.cell;go_wp2_with fail;clear U;refine(qF Y m _ k K s (by rw[D.out];exact O) (by omega)).mono ?_;rintro e w2 ⟨rfl,b2⟩;go_wp2;go_ret;exact⟨aE (by first|exact F.out.symm|simp),o.after b2 o.size⟩
theorem vK:∀args w,(callFunc 281 args).run Tryz.prog w=.ok (.enter 281 args) w:=enters_of Tryz.func281 (by kernel_rfl) rfl
end
end Go.Proofs.YtipejodijbjpcaaGreatDoor
