/- Lemmas for CardClaims, part 31 of 52. No condition. -/
import Derived.Test.YtipejodijbjpcaaGreatDoorQ16
import Derived.Test.YtipejodijbjpcaaGreatDoorQ19
import Derived.Test.YtipejodijbjpcaaGreatDoorQ30
set_option maxRecDepth 100000
set_option maxHeartbeats 64000000
namespace Go.Proofs.YtipejodijbjpcaaGreatDoor
section
open Go.RowKit Go.G5
theorem pH{α:Type}(p:α->Bool)(l:List α)(k:Nat)(h:k<l.length)(o:p l[k]=false):l.all p=false:=by
 rw[List.all_eq_false];exact⟨l[k],List.getElem_mem h,by rw[o];simp⟩
theorem uJ{n:Int}{l x:List Int}(h:hH n l x=true):dZ n l x=true:=by
 unfold hH at h;rw[Bool.and_eq_true]at h;exact h.1
theorem RU(w:World)(n:Int)(v:Value)(l:List Int)(Y:aD w v l)(hl:l.length<=1048576)(u:Value)(x:List Int)(hu:aD w u x)(vy:Value)(y:List Int)(hy:aD w vy y):
  Calls Tryz.prog 251 #[.agg #[.int .i64 n,v],u,vy] w fun e w'=>e=.returned (.bool (fE n l x y))/\Below w.heap.size w w':=by
 obtain⟨a,c,rfl⟩:=Y.shape;obtain⟨au,cu,rfl⟩:=hu.shape;obtain⟨ay,cy,rfl⟩:=hy.shape;have K0:=aB.new w 32 #[.int .i64 n,.slice a l.length c]
 cases K:eT n l x with
 |false=>
  have o:fE n l x y=false:=by unfold fE;rw[K];rfl
  have Z:=Lib.hid o;have HO:=Lib.hid K;clear o K;go_enter Tryz.func251,Tryz.ntmps251;go_wp2_with fail;refine(pB _ n _ l (Y.alloc _) hl _ x (hu.alloc _)).mono ?_;rintro e w1 ⟨rfl,O⟩;rw[HO.out];go_wp2;go_ret;exact⟨aE Z.out.symm,(aM _ _).after O (by simp)⟩
 |true=>
  cases hb:hH n l y with
  |false=>
   have o:fE n l x y=false:=by unfold fE;rw[hb,Bool.and_false];rfl
   have Z:=Lib.hid o;have HO:=Lib.hid K;have HB:=Lib.hid hb;clear o K hb;go_enter Tryz.func251,Tryz.ntmps251;go_wp2_with fail;refine(pB _ n _ l (Y.alloc _) hl _ x (hu.alloc _)).mono ?_;rintro e w1 ⟨rfl,O⟩;rw[HO.out];have F:Below w.heap.size w w1:=(aM _ _).after O (by simp);have G:=(K0.keep O).cell;go_wp2_with fail;refine(xX _ n _ l (Y.below F (Nat.le_refl _)) _ y (hy.below F (Nat.le_refl _))).mono ?_;rintro e w2 ⟨rfl,b2⟩;rw[HB.out];go_wp2;go_ret;exact⟨aE Z.out.symm,F.after b2 F.size⟩
  |true=>
   obtain⟨h5,hn,f8,g8,b6,c7⟩:=oN K;obtain⟨_,b7⟩:=jQ (uJ hb);obtain⟨g2,c8⟩:=iV b7;have b9:=MW x x.length rfl;have o:fE n l x y=(qC x).all (fun s=>aS l y s==0):=by unfold fE rD;rw[K,hb];rfl
   have U:=fun W (h:aD W (.slice au x.length cu) x)=>GW x _ W h h5 c7;have D:∀s∈qC x,0<=s/\s<(l.length:Int):=fun s h3=>by
    have h4:=b9 s h3;have e:((2:Int)^x.length)=((2^x.length:Nat):Int):=by simp
    omega
   have A:=fun(W:World) (s:Int) (h1:aD W (.slice a l.length c) l) (h2:aD W (.slice ay y.length cy) y) (h3:s∈qC x)=>rY n l _ y _ s W h1 h2 (D s h3).1 (D s h3).2 (by omega) b6 c8 (by omega);obtain⟨T,hT⟩:∃T,T=qC x:=⟨_,rfl⟩;rw[<-hT]at o;simp only[<-hT]at U A;have Z:=Lib.hid o;have HO:=Lib.hid K;have HB:=Lib.hid hb;have e7:=Lib.hid U;have e8:=Lib.hid A;clear o K hb U A hT b9 b6 c7 c8 g2 f8 hn b7 D;go_enter Tryz.func251,Tryz.ntmps251;go_wp2_with fail;refine(pB _ n _ l (Y.alloc _) hl _ x (hu.alloc _)).mono ?_;rintro e w1 ⟨rfl,O⟩;rw[HO.out];have F:Below w.heap.size w w1:=(aM _ _).after O (by simp);have K1:=K0.keep O;clear K0 O;have G:=K1.cell;go_wp2_with fail;refine(xX _ n _ l (Y.below F (Nat.le_refl _)) _ y (hy.below F (Nat.le_refl _))).mono ?_;rintro e w2 ⟨rfl,b2⟩;rw[HB.out];have B2:=F.after b2 F.size;have K2:=K1.keep b2;clear G K1 F b2;go_wp2_with fail;refine(e7.out w2 (hu.below B2 (Nat.le_refl _))).mono ?_;rintro e w3 ⟨pt,it,qt,rfl,ot,b3⟩;have hit:it=T.length:=ot.ints.capLe.1;subst hit;have B3:=B2.after b3 B2.size;have K3:=K2.keep b3;obtain⟨_,tb,h0,_,g1,_,R,c5,g0⟩:=ot.ints.view Tryz.prog 22 3 Tryz.underlying22 aG
   injection g1 with x1 _ x3
   subst x1 x3;have e9:=Lib.hid c5;have b0:=Lib.hid R;clear K2 B2 b3 c5 R ot;go_wp2_with fail;go_loopw [22] (fun iv wr=>∃j:Nat,j<=T.length/\iv=.int .i64 j/\(T.take j).all (fun s=>aS l y s==0)=true/\Below w3.heap.size w3 wr) (fun iv _=>T.length-(intOf iv).toNat)
   case atStart=>exact⟨0,Nat.zero_le _,rfl,rfl,Below.refl _ _⟩
   case round=>
    obtain⟨j,hj,rfl,Q,Bw⟩:=hrel;have N:=Lib.hid Q;clear Q;have B4:=B3.after Bw B3.size;have K4:=K3.keep Bw
    by_cases hlt:j<T.length
    ·have b8:(j:Int)<(T.length:Int):=by omega
     have ck:=aK e9.out g0 Bw (Nat.le_refl _) j hlt;have ik:=fun W=>b0.out W j hlt;have L:=e8.out wr T[j] (Y.below B4 (Nat.le_refl _)) (hy.below B4 (Nat.le_refl _)) (List.getElem_mem hlt);have M:=dD (fun s=>aS l y s==0) T j hlt;have I:=pH (fun s=>aS l y s==0) T j hlt;obtain⟨s,hs⟩:∃s,s=T[j]:=⟨_,rfl⟩;rw[<-hs]at ck L M I;obtain⟨sl,A⟩:∃z,z=aS l y s:=⟨_,rfl⟩;rw[<-A]at L M I;have a9:=Lib.hid L;have f0:=Lib.hid M;have e6:=Lib.hid I;clear hs A L M I;have G:=K4.cell
     cases hz:sl==0 with
     |false=>
      have f9:(sl != 0)=true:=by rw[bne,hz];rfl
      have o:=Z.out.trans (e6.out hz);have S:=Lib.hid o;clear o hz;go_wp2_with fail;refine a9.out.mono ?_;rintro e w5 ⟨rfl,b5⟩;go_wp2;go_ret;exact⟨aE S.out.symm,B4.after b5 B4.size⟩
     |true=>
      have f9:(sl != 0)=false:=by rw[bne,hz];rfl
      have b4:(T.take (j+1)).all (fun s=>aS l y s==0)=true:=by rw[f0.out,N.out,hz];rfl
      have e4:=Lib.hid b4;clear b4 hz;go_wp2_with fail;refine a9.out.mono ?_;rintro e w5 ⟨rfl,b5⟩;go_wp2;go_roundw
      case rel=>exact⟨j+1,by omega,by go_num,e4.out,Bw.after b5 Bw.size⟩
      case measure=>simp[intOf];omega
    ·have b8:¬(j:Int)<(T.length:Int):=by omega
     have o:fE n l x y=true:=by rw[Z.out,<-eH _ T j (by omega),N.out]
     have S:=Lib.hid o;clear o;go_wp2;go_ret;exact⟨aE S.out.symm,B4⟩
theorem DZ(l:List Int)(k:Nat):eW ((k+1:Nat):Int) l=eW (k:Int) l++[l.getD (2^k) 0]:=by
 unfold eW;rw[Int.toNat_natCast,Int.toNat_natCast,List.range_succ,List.map_append];rfl
theorem uA(N:Nat)(l:List Int):(eW (N:Int) l).length=N:=by unfold eW;simp
theorem KS(w:World)(N:Nat)(v:Value)(l:List Int)(hv:aD w v l)(hf:aN (N:Int) l=true):
  Calls Tryz.prog 250 #[.agg #[.int .i64 (N:Int),v]] w fun e w'=>∃ad i cp,e=.returned (.slice ad i cp)/\aC 3 w.heap.size w' (.slice ad i cp) (eW (N:Int) l)/\Below w.heap.size w w':=by
 obtain⟨a,b,b1,c,rfl,c5,O,hc,hb⟩:=hv.view Tryz.prog 22 3 Tryz.underlying22 aG;obtain⟨A,L,e8,Q,b9,R⟩:=bN hf;have L:A=N:=by omega
 subst L;have K0:=aB.new w 32 #[.int .i64 (A:Int),.slice a l.length c];have B0:=aM w (.cells #[.int .i64 (A:Int),.slice a l.length c] 32);have HL:=Lib.hid Q;have HC:=Lib.hid hc;have Y:=Lib.hid O;have Z:=Lib.hid R;clear Q hc O hf R;go_enter Tryz.func250,Tryz.ntmps250;go_wp2_with fail;go_loopw [3,7] (fun ov iv wr=>∃(k:Nat) (p:Option Addr) (q m:Nat),k<=A/\iv=.int .i64 k/\ov=.slice p q m/\aC 3 (w.heap.size+1) wr (.slice p q m) (eW (k:Int) l)/\aB wr w.heap.size 32 #[.int .i64 (A:Int),.slice a l.length c]/\Below w.heap.size w wr) (fun _ iv _=>A-(intOf iv).toNat)
 case atStart=>exact⟨0,_,_,_,Nat.zero_le _,rfl,rfl,aC.nil _ _ _,K0,B0⟩
 case round=>
  obtain⟨k,p,q,m,hk,rfl,rfl,own,K,B⟩:=hrel;obtain⟨wo,rfl⟩:∃z:World,z=wr:=⟨_,rfl⟩;have o:=Lib.hid own;clear own K0 B0
  by_cases hlt:k<A
  ·have S:(k:Int)<(A:Int):=by omega
   have D:2^k<l.length:=by rw[HL.out];exact Nat.pow_lt_pow_right (by decide) hlt
   have ck:=aK HC.out hb B (Nat.le_refl _) (2^k) D;have ik:∀W,(Instr.indexAt 22 (.slice a l.length c) (.int .i64 ((2:Int)^k))).run Tryz.prog W=.ok (.pointer (some ⟨b,b1+2^k,none⟩)) W:=fun W=>by have:=Y.out W (2^k) D;simpa using this
   have a1:=Z.out (2^k) D;have U:=DZ l k;rw[aJ l (2^k) D]at U;have a9:=uA k l;obtain⟨y,hy⟩:∃y,y=l[2^k]:=⟨_,rfl⟩;rw[<-hy]at ck a1 U;have hp:=bJ k 5 (by omega);have a8:=hp.1;have f0:=hp.2;simp at a8;have f4:IntKind.i64.wrap ((2:Int)^k)=2^k:=by rw[IntKind.wrap_i64];omega
   have HS:=Lib.hid U;have e9:(eW (k:Int) l).length<100:=by omega
   have G:=K.cell;have zo:=B.size;have zk:=K.lt;clear hy U hp a9 D;go_wp2_with (at_builtin;refine eI rfl _ _ _ rfl 3 Tryz.underlying22 aG (w.heap.size+1) _ (eW (k:Int) l) y wo.heap.size rfl rfl (aT _ _ _ _ _ rfl) (o.out.alloc _) ⟨by omega,by omega⟩ (by omega) (by simp;omega) ?_;intro v' w6 F M;obtain⟨av,nv,cv,rfl⟩:=F.shape3);have I:=o.out.lt;have B6:Below w.heap.size w w6:=(B.alloc B.size (.cells #[.int .i64 y] 3)).grown M (by have:=B.size;simp;omega) (fun q hq=>by have:=(I q hq).1;omega);have K6:aB w6 w.heap.size 32 #[.int .i64 (A:Int),.slice a l.length c]:=(K.alloc _).grow M (fun e=>by have:=(I _ e).1;omega);go_roundw
   case rel=>exact⟨k+1,av,nv,cv,by omega,by go_num,rfl,by rw[HS.out];exact F,K6,B6⟩
   case measure=>simp[intOf];omega
  ·have S:¬(k:Int)<(A:Int):=by omega
   have a6:k=A:=by omega
   subst a6;have G:=K.cell;go_wp2;go_ret;exact⟨_,_,_,rfl,o.out.mono (by omega),B⟩
end
section
open Go.RowKit Go.G5
theorem JB{n:Int}{l x:List Int}(h:gR n l x=true):dZ n l x=true:=by
 unfold gR at h;rw[Bool.and_eq_true]at h;exact h.1
theorem qP{N:Nat}{st:Int}(h:bO N st=true):∃s:Nat,st=(s:Int)/\s<2^N:=by
 have h:=eN.1 h;obtain⟨s,rfl⟩:=Int.eq_ofNat_of_zero_le h.1;have e:((2:Int)^N)=((2^N:Nat):Int):=by simp
 exact⟨s,rfl,by omega⟩
theorem LG(w:World)(k n1:Int)(v1:Value)(l1:List Int)(h1:aD w v1 l1)(n2:Int)(v2:Value)(l2:List Int)(h2:aD w v2 l2)(n3:Int)(v3:Value)(l3:List Int)(h3:aD w v3 l3)(q st:Int)(v4:Value)(l4:List Int)(h4:aD w v4 l4):
  Calls Tryz.prog 136 #[clV k n1 v1 n2 v2 n3 v3 q st v4] w fun e w'=>e=.returned (.bool (gN n1 l1 q st l4))/\Below w.heap.size w w':=by
 obtain⟨a1,c1,rfl⟩:=h1.shape;obtain⟨a2,c2,rfl⟩:=h2.shape;obtain⟨a3,c3,rfl⟩:=h3.shape;obtain⟨a4,c4,rfl⟩:=h4.shape;have K0:=aB.new w 49 (clC k n1 (.slice a1 l1.length c1) n2 (.slice a2 l2.length c2) n3 (.slice a3 l3.length c3) q st (.slice a4 l4.length c4))
 cases hd:gR n1 l1 l4 with
 |false=>
  have D:gN n1 l1 q st l4=false:=by unfold gN;rw[hd];rfl
  have I:=Lib.hid D;have HD:=Lib.hid hd;clear D hd;go_enter Tryz.func136,Tryz.ntmps136;go_wp2_with fail;refine(uM _ n1 _ l1 (h1.alloc _) _ l4 (h4.alloc _)).mono ?_;rintro e A ⟨rfl,K⟩;rw[HD.out];go_wp2;go_ret;exact⟨aE I.out.symm,(aM _ _).after K (by simp)⟩
 |true=>
  obtain⟨hf,S⟩:=jQ (JB hd);obtain⟨N,rfl,hN,b3,_,a8⟩:=bN hf;obtain⟨b5,a6⟩:=iV S;have o:=fun W=>jW N st W (by omega)
  cases U:bO N st with
  |false=>
   have D:gN (N:Int) l1 q st l4=false:=by unfold gN;rw[hd,Int.toNat_natCast,U];rfl
   rw[U]at o;have I:=Lib.hid D;have HD:=Lib.hid hd;have L:=Lib.hid o;clear D hd U o b3 b5 a8 a6 hf S;go_enter Tryz.func136,Tryz.ntmps136;go_wp2_with fail;refine(uM _ _ _ l1 (h1.alloc _) _ l4 (h4.alloc _)).mono ?_;rintro e A ⟨rfl,K⟩;rw[HD.out];have F:Below w.heap.size w A:=(aM _ _).after K (by simp);have G:=(K0.keep K).cell;go_wp2_with (go_at_call 229;refine(L.out _).mono ?_;rintro e w' ⟨rfl,rfl⟩);go_ret;exact⟨aE I.out.symm,F⟩
  |true=>
   obtain⟨s,rfl,e4⟩:=qP U;have D:gN (N:Int) l1 q (s:Int) l4=(l1.getD s 0==q&&wt l4 (2^N-1)==q):=by unfold gN;rw[hd,Int.toNat_natCast,Int.toNat_natCast,U];rfl
   rw[U]at o;have Y:s<l1.length:=by omega
   rw[aJ l1 s Y]at D;obtain⟨_,b,b7,_,e5,_,b0,hc,hb⟩:=h1.view Tryz.prog 22 3 Tryz.underlying22 aG
   injection e5 with x1 _ x3
   subst x1 x3;have R:=hc s Y;have f4:=fun W=>b0 W s Y;have hp:=bJ N 5 hN;have b4:=hp.1;have e0:=hp.2;have O:=fun(W:World) (h:aD W (.slice a1 l1.length c1) l1)=>jM (N:Int) _ l1 W h (by omega) (by omega);simp only[Int.toNat_natCast]at O;have Z:=fun W (h:aD W (.slice a4 l4.length c4) l4)=>lN l4 _ (2^N-1) W h (by omega) (by simp at b4;omega) (fun k hk=>by have:=a6 k hk;omega) (by omega);obtain⟨Wt,M⟩:∃P,P=wt l4 (2^N-1):=⟨_,rfl⟩;rw[<-M]at D;simp only[<-M]at Z;obtain⟨y,hy⟩:∃y,y=l1[s]:=⟨_,rfl⟩;rw[<-hy]at R D;have I:=Lib.hid D;have HD:=Lib.hid hd;have L:=Lib.hid o;have b8:=Lib.hid O;have b9:=Lib.hid Z;clear D hd U o b3 b5 a8 a6 hf S O Z M hy hc b0 hp b4 e0 e4;go_enter Tryz.func136,Tryz.ntmps136;go_wp2_with fail;refine(uM _ _ _ l1 (h1.alloc _) _ l4 (h4.alloc _)).mono ?_;rintro e A ⟨rfl,K⟩;rw[HD.out];have F:Below w.heap.size w A:=(aM _ _).after K (by simp);have G:=(K0.keep K).cell;have z1:=(K0.keep K).lt;have c7:=h1.below F (Nat.le_refl _);have c8:=h4.below F (Nat.le_refl _);have a9:A.cell? ⟨b,b7+s,none⟩=some (.int .i64 y):=keep F R;clear R hb;go_wp2_with (go_at_call 229;refine(L.out _).mono ?_;rintro e w' ⟨rfl,rfl⟩);have e1:∀z:Ext A,z.w.cell? ⟨w.heap.size,1,none⟩=some (.int .i64 (N:Int)):=fun z=>z.cell (G 1);have e2:∀z:Ext A,z.w.cell? ⟨w.heap.size,2,none⟩=some (.slice a1 l1.length c1):=fun z=>z.cell (G 2);have e7:∀z:Ext A,z.w.cell? ⟨w.heap.size,7,none⟩=some (.int .i64 q):=fun z=>z.cell (G 7);have e8:∀z:Ext A,z.w.cell? ⟨w.heap.size,8,none⟩=some (.int .i64 (s:Int)):=fun z=>z.cell (G 8);have e9:∀z:Ext A,z.w.cell? ⟨w.heap.size,9,none⟩=some (.slice a4 l4.length c4):=fun z=>z.cell (G 9);have ey:∀z:Ext A,z.w.cell? ⟨b,b7+s,none⟩=some (.int .i64 y):=fun z=>z.cell a9;have QA:=Lib.hid (fun z:Ext A=>b8.out z.w (z.ints c7));have QW:=Lib.hid (fun z:Ext A=>b9.out z.w (z.ints c8));clear G a9
   cases b6:y==q with
   |false=>
    rw[b6]at I;refine aO _ (by kernel_rfl) (by kernel_rfl) ?_
    repeat(first|go_big_quiet_skip|(go_big_quiet_want;go_big_quiet_op;first|go_big_quiet_on|(apply Exists.intro;refine⟨fun _=>?_,?_⟩;(first|(go_at_call 127;exact aV (QA.out _))|(go_at_call 132;exact aX (QW.out _)));go_big_quiet_on)))
    refine wpQuiet_nil ?_;rintro w3 ⟨⟨w3,Q⟩,rfl⟩
    try dsimp only
    go_wp2;go_ret;exact⟨aE I.out.symm,F.after Q F.size⟩
   |true=>
    rw[b6]at I;refine aO _ (by kernel_rfl) (by kernel_rfl) ?_
    repeat(first|go_big_quiet_skip|(go_big_quiet_want;go_big_quiet_op;first|go_big_quiet_on|(apply Exists.intro;refine⟨fun _=>?_,?_⟩;(first|(go_at_call 127;exact aV (QA.out _))|(go_at_call 132;exact aX (QW.out _)));go_big_quiet_on)))
    refine wpQuiet_nil ?_;rintro w3 ⟨⟨w3,Q⟩,rfl⟩
    try dsimp only
    go_wp2;go_ret;exact⟨aE I.out.symm,F.after Q F.size⟩
end
section
open Go.RowKit Go.G5
theorem L3(w:World)(k n1:Int)(v1:Value)(l1:List Int)(h1:aD w v1 l1)(n2:Int)(v2:Value)(l2:List Int)(h2:aD w v2 l2)(n3:Int)(v3:Value)(l3:List Int)(h3:aD w v3 l3)(q st:Int)(v4:Value)(l4:List Int)(h4:aD w v4 l4)(hl:l1.length<=1048576):
  Calls Tryz.prog 140 #[clV k n1 v1 n2 v2 n3 v3 q st v4] w fun e w'=>e=.returned (.bool (gX n1 l1 q st))/\Below w.heap.size w w':=by
 obtain⟨a1,c1,rfl⟩:=h1.shape;obtain⟨a2,c2,rfl⟩:=h2.shape;obtain⟨a3,c3,rfl⟩:=h3.shape;obtain⟨a4,c4,rfl⟩:=h4.shape;have K0:=aB.new w 49 (clC k n1 (.slice a1 l1.length c1) n2 (.slice a2 l2.length c2) n3 (.slice a3 l3.length c3) q st (.slice a4 l4.length c4));have D:=DP (w.alloc (.cells (clC k n1 (.slice a1 l1.length c1) n2 (.slice a2 l2.length c2) n3 (.slice a3 l3.length c3) q st (.slice a4 l4.length c4)) 49)) n1 _ l1 (h1.alloc _) hl;obtain⟨CN,K⟩:∃c,c=gL n1 l1:=⟨_,rfl⟩;obtain⟨CS,S⟩:∃c,c=gZ n1 l1:=⟨_,rfl⟩;rw[<-K,<-S]at D
 cases Y:eF n1 l1 with
 |false=>
  have A:gX n1 l1 q st=false:=by unfold gX;rw[Y];rfl
  rw[Y]at D;have I:=Lib.hid A;have Q:=Lib.hid D;clear A D Y K S;go_enter Tryz.func140,Tryz.ntmps140;go_wp2_with fail;refine Q.out.mono ?_;rintro e L ⟨rfl,b1⟩;have F:Below w.heap.size w L:=(aM _ _).after b1 (by simp);have G:=(K0.keep b1).cell;go_wp2_with fail;refine aO _ (by kernel_rfl) (by kernel_rfl) ?_
  repeat(first|go_big_quiet_skip|(go_big_quiet_want;go_big_quiet_op;first|go_big_quiet_on|(apply Exists.intro;refine⟨fun _=>?_,?_⟩;(fail);go_big_quiet_on)))
  refine wpQuiet_nil ?_;rintro M ⟨⟨M,o⟩,rfl⟩
  try dsimp only
  go_wp2;go_ret;exact⟨aE I.out.symm,F.after o F.size⟩
 |true=>
  rw[Y]at D;have A:gX n1 l1 q st=((CN==q)&&((decide (0<st)&&decide (st<2^n1.toNat-1))&&l1.getD st.toNat 0==q)):=by unfold gX;rw[Y,K];rfl
  have b5:aN n1 l1=true:=by
   have h:=Y;unfold eF cY at h;simp only[Bool.and_eq_true]at h;exact h.1.1.1
  obtain⟨N,rfl,hN,c7,_,c5⟩:=bN b5;rw[Int.toNat_natCast]at A;have hp:=bJ N 5 hN;have c9:=hp.1;have g6:=hp.2;simp at c9;have U:=fun(W:World) (h:aD W (.slice a1 l1.length c1) l1)=>jM (N:Int) _ l1 W h (by omega) (by omega);simp only[Int.toNat_natCast]at U;have Q:=Lib.hid D;have b8:=Lib.hid U;have O:(0<st/\st<2^N-1)->∃(b p:Nat) (y:Int),l1.getD st.toNat 0=y/\w.cell? ⟨b,p,none⟩=some (.int .i64 y)/\∀W,(Instr.indexAt 22 (.slice a1 l1.length c1) (.int .i64 st)).run Tryz.prog W=.ok (.pointer (some ⟨b,p,none⟩)) W:=by
   rintro⟨g1,g2⟩;obtain⟨s,rfl⟩:=Int.eq_ofNat_of_zero_le (show 0<=st by omega);have e:((2:Int)^N)=((2^N:Nat):Int):=by simp
   have Z:s<l1.length:=by omega
   obtain⟨_,b,e4,_,e0,_,c6,hc,hb⟩:=h1.view Tryz.prog 22 3 Tryz.underlying22 aG
   injection e0 with x1 _ x3
   subst x1 x3;exact⟨b,e4+s,l1[s],by rw[Int.toNat_natCast,aJ l1 s Z],hc s Z,fun W=>c6 W s Z⟩
  have a8:=Lib.hid O;clear D U Y K S b5 c7 c5 hp O;go_enter Tryz.func140,Tryz.ntmps140;go_wp2_with fail;refine Q.out.mono ?_;rintro e L ⟨rfl,b1⟩;have F:Below w.heap.size w L:=(aM _ _).after b1 (by simp);have G:=(K0.keep b1).cell;have b9:=h1.below F (Nat.le_refl _);go_wp2_with fail;have e1:∀z:Ext L,z.w.cell? ⟨w.heap.size,1,none⟩=some (.int .i64 (N:Int)):=fun z=>z.cell (G 1);have e2:∀z:Ext L,z.w.cell? ⟨w.heap.size,2,none⟩=some (.slice a1 l1.length c1):=fun z=>z.cell (G 2);have e7:∀z:Ext L,z.w.cell? ⟨w.heap.size,7,none⟩=some (.int .i64 q):=fun z=>z.cell (G 7);have e8:∀z:Ext L,z.w.cell? ⟨w.heap.size,8,none⟩=some (.int .i64 st):=fun z=>z.cell (G 8);have QA:=Lib.hid (fun z:Ext L=>b8.out z.w (z.ints b9));have G7:=G 7;have G8:=G 8;have G2:=G 2
  cases hq:CN==q with
  |false=>
   rw[hq]at A;have I:=Lib.hid A;have d0:(CN != q)=true:=by rw[bne,hq];rfl
   clear A G hq;refine aO _ (by kernel_rfl) (by kernel_rfl) ?_
   repeat(first|go_big_quiet_skip|(go_big_quiet_want;go_big_quiet_op;first|go_big_quiet_on|(apply Exists.intro;refine⟨fun _=>?_,?_⟩;(go_at_call 127;exact aV (QA.out _));go_big_quiet_on)))
   refine wpQuiet_nil ?_;rintro M ⟨⟨M,o⟩,rfl⟩
   try dsimp only
   go_wp2;go_ret;exact⟨aE I.out.symm,F.after o F.size⟩
  |true=>
   rw[hq,Bool.true_and]at A;have d0:(CN != q)=false:=by rw[bne,hq];rfl
   clear G hq
   by_cases R:0<st
   ·have t0:decide (st<=0)=false:=by rw[decide_eq_false_iff_not];omega
    by_cases hm:st<2^N-1
    ·have t1:decide (2^N-1<=st)=false:=by rw[decide_eq_false_iff_not];omega
     obtain⟨b,p,y,hy,b3,f3⟩:=a8.out ⟨R,hm⟩;rw[decide_eq_true R,decide_eq_true hm,hy]at A;have b4:L.cell? ⟨b,p,none⟩=some (.int .i64 y):=keep F b3;have I:=Lib.hid A;have HB:=Lib.hid (And.intro R hm);clear A R hm b3 hy;refine aO _ (by kernel_rfl) (by kernel_rfl) ?_
     repeat(first|go_big_quiet_skip|(go_big_quiet_want;go_big_quiet_op;first|go_big_quiet_on|(apply Exists.intro;refine⟨fun _=>?_,?_⟩;(go_at_call 127;exact aV (QA.out _));go_big_quiet_on)))
     refine wpQuiet_nil ?_;rintro M ⟨⟨M,o⟩,rfl⟩
     try dsimp only
     have f7:=keep o G7;have f8:=keep o G8;have f6:=keep o G2;have f2:=keep o b4;clear G7 G8 G2 b4 e1 e2 e7 e8;go_wp2_with fail;go_quiet (fail);go_wp2;go_ret;exact⟨aE I.out.symm,(F.after o F.size).drewN' _⟩
    ·have t1:decide (2^N-1<=st)=true:=by rw[decide_eq_true_eq];omega
     rw[decide_eq_false hm,Bool.and_false,Bool.false_and]at A;have I:=Lib.hid A;clear A R hm;refine aO _ (by kernel_rfl) (by kernel_rfl) ?_
     repeat(first|go_big_quiet_skip|(go_big_quiet_want;go_big_quiet_op;first|go_big_quiet_on|(apply Exists.intro;refine⟨fun _=>?_,?_⟩;(go_at_call 127;exact aV (QA.out _));go_big_quiet_on)))
     refine wpQuiet_nil ?_;rintro M ⟨⟨M,o⟩,rfl⟩
     try dsimp only
     go_wp2;go_ret;exact⟨aE I.out.symm,F.after o F.size⟩
   ·have t0:decide (st<=0)=true:=by rw[decide_eq_true_eq];omega
    rw[decide_eq_false R,Bool.false_and,Bool.false_and]at A;have I:=Lib.hid A;clear A R;refine aO _ (by kernel_rfl) (by kernel_rfl) ?_
    repeat(first|go_big_quiet_skip|(go_big_quiet_want;go_big_quiet_op;first|go_big_quiet_on|(apply Exists.intro;refine⟨fun _=>?_,?_⟩;(go_at_call 127;exact aV (QA.out _));go_big_quiet_on)))
    refine wpQuiet_nil ?_;rintro M ⟨⟨M,o⟩,rfl⟩
    try dsimp only
    go_wp2;go_ret;exact⟨aE I.out.symm,F.after o F.size⟩
theorem LL(w:World)(k n1:Int)(v1:Value)(l1:List Int)(h1:aD w v1 l1)(n2:Int)(v2:Value)(l2:List Int)(h2:aD w v2 l2)(n3:Int)(v3:Value)(l3:List Int)(h3:aD w v3 l3)(q st:Int)(v4:Value)(l4:List Int)(h4:aD w v4 l4)(hl:l3.length<=1048576):
  Calls Tryz.prog 141 #[clV k n1 v1 n2 v2 n3 v3 q st v4] w fun e w'=>e=.returned (.bool (iC n3 l3 q l4))/\Below w.heap.size w w':=by
 obtain⟨a1,c1,rfl⟩:=h1.shape;obtain⟨a2,c2,rfl⟩:=h2.shape;obtain⟨a3,c3,rfl⟩:=h3.shape;obtain⟨a4,c4,rfl⟩:=h4.shape;have K0:=aB.new w 49 (clC k n1 (.slice a1 l1.length c1) n2 (.slice a2 l2.length c2) n3 (.slice a3 l3.length c3) q st (.slice a4 l4.length c4));have A:=kR n3 l3 _ (w.alloc (.cells (clC k n1 (.slice a1 l1.length c1) n2 (.slice a2 l2.length c2) n3 (.slice a3 l3.length c3) q st (.slice a4 l4.length c4)) 49)) (h3.alloc _)
 cases Y:bW n3 l3 with
 |false=>
  have o:iC n3 l3 q l4=false:=by unfold iC;rw[Y];rfl
  rw[Y]at A;have O:=Lib.hid o;have D:=Lib.hid A;clear o A Y;go_enter Tryz.func141,Tryz.ntmps141;go_wp2_with fail;refine D.out.mono ?_;rintro e w1 ⟨rfl,F⟩;go_wp2;go_ret;exact⟨aE O.out.symm,(aM _ _).after F (by simp)⟩
 |true=>
  rw[Y]at A;have o:iC n3 l3 q l4=((decide (1<=l4.length)&&q==(l4.length:Int))&&(l4.all (iY l3)&&dP l4)):=by unfold iC;rw[Y];rfl
  have R:=(jZ Y).2.2.2;have D:=Lib.hid A;have a7:=Lib.hid R;clear A Y R
  by_cases I:1<=l4.length
  ·have c9:¬(l4.length:Int)<1:=by omega
   rw[decide_eq_true I,Bool.true_and]at o
   cases Z:q==(l4.length:Int) with
   |false=>
    have d0:(q != (l4.length:Int))=true:=by rw[bne,Z];rfl
    rw[Z,Bool.false_and]at o;have O:=Lib.hid o;clear o Z;go_enter Tryz.func141,Tryz.ntmps141;go_wp2_with fail;refine D.out.mono ?_;rintro e w1 ⟨rfl,F⟩;have G:=(K0.keep F).cell;go_wp2;go_ret;exact⟨aE O.out.symm,(aM _ _).after F (by simp)⟩
   |true=>
    have d0:(q != (l4.length:Int))=false:=by rw[bne,Z];rfl
    rw[Z,Bool.true_and]at o;obtain⟨_,b,f8,_,e0,_,b3,hc,hb⟩:=h4.view Tryz.prog 22 3 Tryz.underlying22 aG
    injection e0 with x1 _ x3
    subst x1 x3;have O:=Lib.hid o;have HC:=Lib.hid hc;have c6:=Lib.hid b3;clear o Z hc b3;go_enter Tryz.func141,Tryz.ntmps141;go_wp2_with fail;refine D.out.mono ?_;rintro e w1 ⟨rfl,F⟩;have B1:Below w.heap.size w w1:=(aM _ _).after F (by simp);have K1:=K0.keep F;have G:=K1.cell;go_wp2_with fail;clear G K0 F;go_loopw [26] (fun iv wr=>∃j:Nat,j<=l4.length/\iv=.int .i64 j/\(l4.take j).all (iY l3)=true/\Below w1.heap.size w1 wr) (fun iv _=>l4.length-(intOf iv).toNat)
    case atStart=>exact⟨0,Nat.zero_le _,rfl,rfl,Below.refl _ _⟩
    case round=>
     obtain⟨j,hj,rfl,Q,Bw⟩:=hrel;have N:=Lib.hid Q;clear Q;have S:=B1.after Bw B1.size;have K4:=K1.keep Bw;have G:=K4.cell
     by_cases hlt:j<l4.length
     ·have b4:(j:Int)<(l4.length:Int):=by omega
      have ck:=aK HC.out hb S (Nat.le_refl _) j hlt;have ik:=fun W=>c6.out W j hlt;have L:=ON n3 l3 _ l4[j] wr (h3.below S (Nat.le_refl _)) a7.out hl;have M:=dD (iY l3) l4 j hlt;have K:=pH (iY l3) l4 j hlt;obtain⟨s,hs⟩:∃s,s=l4[j]:=⟨_,rfl⟩;rw[<-hs]at ck L M K;obtain⟨z,hz⟩:∃z,z=iY l3 s:=⟨_,rfl⟩;rw[<-hz]at L M K;have a8:=Lib.hid L;have c8:=Lib.hid M;have c5:=Lib.hid K;clear hs hz L M K
      cases z with
      |false=>
       have o:=O.out.trans (by rw[c5.out rfl];rfl:(l4.all (iY l3)&&dP l4)=false);have U:=Lib.hid o;clear o;go_wp2_with fail;refine a8.out.mono ?_;rintro e w5 ⟨rfl,b5⟩;go_wp2;go_ret;exact⟨aE U.out.symm,S.after b5 S.size⟩
      |true=>
       have b0:(l4.take (j+1)).all (iY l3)=true:=by rw[c8.out,N.out];rfl
       have b9:=Lib.hid b0;clear b0;go_wp2_with fail;refine a8.out.mono ?_;rintro e w5 ⟨rfl,b5⟩;go_wp2;go_roundw
       case rel=>exact⟨j+1,by omega,by go_num,b9.out,Bw.after b5 Bw.size⟩
       case measure=>simp[intOf];omega
     ·have b4:¬(j:Int)<(l4.length:Int):=by omega
      have o:iC n3 l3 q l4=dP l4:=by rw[O.out,<-eH _ l4 j (by omega),N.out,Bool.true_and]
      have U:=Lib.hid o;have b6:=OF l4 _ wr (h4.below S (Nat.le_refl _));have c7:=Lib.hid b6;clear o b6;go_wp2_with fail;refine c7.out.mono ?_;rintro e w5 ⟨rfl,b5⟩;go_wp2;go_ret;exact⟨aE U.out.symm,S.after b5 S.size⟩
  ·have c9:(l4.length:Int)<1:=by omega
   rw[decide_eq_false I,Bool.false_and,Bool.false_and]at o;have O:=Lib.hid o;clear o I;go_enter Tryz.func141,Tryz.ntmps141;go_wp2_with fail;refine D.out.mono ?_;rintro e w1 ⟨rfl,F⟩;have G:=(K0.keep F).cell;go_wp2;go_ret;exact⟨aE O.out.symm,(aM _ _).after F (by simp)⟩
end
end Go.Proofs.YtipejodijbjpcaaGreatDoor
