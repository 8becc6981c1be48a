/- Lemmas for CardClaims, part 43 of 52. No condition. -/
import Derived.Test.YtipejodijbjpcaaGreatDoorQ41
import Derived.Test.YtipejodijbjpcaaGreatDoorQ42
set_option maxRecDepth 100000
set_option maxHeartbeats 64000000
namespace Go.Proofs.YtipejodijbjpcaaGreatDoor
section
open Go.RowKit Go.G5
theorem AD:(Tryz.prog.info? 213).map (fun i=>(i.zero,i.size,i.bytes))=some (some (.agg #[.int .i64 0,.int .i64 0]),2,16):=by kernel_rfl
theorem I2(g n c k:Nat)(F:k<n)(W:World):(Instr.indexAt 211 (.slice (some ⟨g,0,none⟩) n c) (.int .i64 (k:Int))).run Tryz.prog W=.ok (.pointer (some ⟨g,2*k,none⟩)) W:=by
 have z:=Tryz.underlying211;have o:Tryz.prog.elem 211=213:=by simp[Program.elem,z]
 obtain⟨i,A,_,D,_⟩:=info_parts AD;rw[run_indexAt_slice W 211 ⟨g,0,none⟩ n c .i64 k (by rw[o];exact z),if_pos ⟨by omega,by omega⟩,o];simp[sizeOf,typeInfo,A,D,Addr.add]
 rcases Nat.eq_zero_or_pos k with rfl|h
 ·simp
 ·rw[if_neg (by omega),Nat.mul_comm k 2]
theorem GH(w:World)(N:Nat)(hN:N<=5)(g n c:Nat)(z:Nat->Int)(Y:EC w g n 2 z)(hg:g<w.heap.size)(hb:∀k,0<=z k/\z k<=63)(hn:n<=20):
  Calls Tryz.prog 335 #[.int .i64 (N:Int),.slice (some ⟨g,0,none⟩) n c] w fun e w'=>∃(ad:Option Addr) (i cp:Nat) (m:Int) (L:List Int) (b:Bool),e=.returned (.tuple #[.agg #[.int .i64 m,.slice ad i cp],.bool b])/\bA m/\aC 3 w.heap.size w' (.slice ad i cp) L/\L.length<=64/\Below w.heap.size w w':=by
 obtain⟨V,hV⟩:∃V,V=w.alloc (.cells #[.int .i64 0,.slice none 0 0] 32):=⟨_,rfl⟩;have KV:aB V w.heap.size 32 #[.int .i64 0,.slice none 0 0]:=by rw[hV];exact aB.new _ _ _
 have BV:Below w.heap.size w V:=by rw[hV];exact aM _ _
 have f7:=Y.keep BV hg;have a7:=aR (N:Int) 0 5 V;have e7:cM (N:Int) 0 5=true:=bL.2 ⟨by omega,by omega⟩;rw[e7]at a7;have HB:=Lib.hid hb;have HZ:=Lib.hid f7;have g4:=Lib.hid a7;have m2:¬(20:Int)<(n:Int):=by omega
 have m5:(2:Nat)^N<=32:=Nat.pow_le_pow_right (n:=2) (by decide) hN;have b0:((2^N:Nat):Int)=(2:Int)^N:=by simp
 have tp:=bJ N 5 hN;have m3:(2:Int)^N<=32:=by rw[<-b0];omega
 have m4:=tp.2;have m9:IntKind.i64.wrap ((2:Int)^N)=(2:Int)^N:=by rw[IntKind.wrap_i64];omega
 have c7:=Lib.hid b0;clear tp b0 Y f7 a7 e7 hb;go_enter Tryz.func335,Tryz.ntmps335;go_wp2_with fail;refine aH ?_;intro V' d0;obtain rfl:V'=V:=by rw[d0,hV]
 clear hV d0;refine g4.out.mono ?_;rintro e w1 ⟨rfl,rfl⟩;go_wp2_with fail;go_loopw [6] (fun iv wr=>∃k:Nat,k<=n/\iv=.int .i64 (k:Int)/\Below V'.heap.size V' wr) (fun iv _=>n-(intOf iv).toNat)
 case atStart=>exact⟨0,Nat.zero_le _,rfl,Below.refl _ _⟩
 case round=>
  obtain⟨k,hk,rfl,R⟩:=hrel;obtain⟨I,i1⟩:∃I:World,I=wr:=⟨_,rfl⟩;subst i1;have zV:=KV.lt
  by_cases a8:k<n
  ·have O:(k:Int)<(n:Int):=by omega
   have b4:=HZ.out.keep R (by omega);have ik:=fun W=>I2 g n c k a8 W;have c0:=b4 (2*k) (by omega);have c1:=b4 (2*k+1) (by omega);obtain⟨p0,f3⟩:∃p,p=z (2*k):=⟨_,rfl⟩;obtain⟨r0,b3⟩:∃r,r=z (2*k+1):=⟨_,rfl⟩;rw[<-f3]at c0;rw[<-b3]at c1;have e0:∀y:Ext I,y.w.cell? ⟨g,2*k,none⟩=some (.int .i64 p0):=fun y=>y.cell c0;have e1:∀y:Ext I,y.w.cell? ⟨g,2*k+1,none⟩=some (.int .i64 r0):=fun y=>y.cell c1;clear f3 b3;have QF:=Lib.hid (fun W=>cT N W (by omega));obtain⟨b1,e4⟩:∃b,cM p0 0 ((2:Int)^N-1)=b:=⟨_,rfl⟩;obtain⟨b2,e5⟩:∃b,cM r0 0 20=b:=⟨_,rfl⟩;have q1:=fun W=>aR p0 0 ((2:Int)^N-1) W;have q2:=fun W=>aR r0 0 20 W;rw[e4]at q1;rw[e5]at q2;have Q1:=Lib.hid q1;have Q2:=Lib.hid q2;have Q:=KV.keep R;have BW:=BV.after R BV.size;clear q1 q2 e4 e5 b4 c0 c1;go_wp2_with fail
   cases b1 with
   |false=>
    refine aO _ (by kernel_rfl) (by kernel_rfl) ?_
    repeat(first|go_big_quiet_skip|(go_big_quiet_want;go_big_quiet_op;first|go_big_quiet_on|(apply Exists.intro;refine⟨fun _=>?_,?_⟩;(first|(go_at_call 187;exact aX (QF.out _))|(go_at_call 188;first|(with_reducible exact aX (Q1.out _))|(with_reducible exact aX (Q2.out _))));go_big_quiet_on)))
    refine wpQuiet_nil ?_;rintro D ⟨⟨D,F⟩,rfl⟩
    try dsimp only
    have G5:=(Q.keep F).cell;have F5:=(Q.keep F).frozen;go_wp2;refine aI ?_;intro Wf K;have Z:=Q.keep F;have S:=BW.after F BW.size;have t:=eA (w:=w) (E:=32) (m:=0) (b:=.slice none 0 0) Z (aC.nil 3 (D.heap.size) D) (Nat.le_refl _) Z.lt S K;have GF:=t.1.cell;exact bodyPost_ret (v:=.tuple #[.agg #[.int .i64 0,.slice none 0 0],.bool false]) (by simp[results,Tryz.results335,go_sem,GF]) rfl ⟨none,0,0,0,[],false,rfl,⟨by omega,by omega⟩,t.2.1,by simp,t.2.2⟩
   |true=>
    cases b2 with
    |false=>
     refine aO _ (by kernel_rfl) (by kernel_rfl) ?_
     repeat(first|go_big_quiet_skip|(go_big_quiet_want;go_big_quiet_op;first|go_big_quiet_on|(apply Exists.intro;refine⟨fun _=>?_,?_⟩;(first|(go_at_call 187;exact aX (QF.out _))|(go_at_call 188;first|(with_reducible exact aX (Q1.out _))|(with_reducible exact aX (Q2.out _))));go_big_quiet_on)))
     refine wpQuiet_nil ?_;rintro D ⟨⟨D,F⟩,rfl⟩
     try dsimp only
     have G5:=(Q.keep F).cell;have F5:=(Q.keep F).frozen;go_wp2;refine aI ?_;intro Wf K;have Z:=Q.keep F;have S:=BW.after F BW.size;have t:=eA (w:=w) (E:=32) (m:=0) (b:=.slice none 0 0) Z (aC.nil 3 (D.heap.size) D) (Nat.le_refl _) Z.lt S K;have GF:=t.1.cell;exact bodyPost_ret (v:=.tuple #[.agg #[.int .i64 0,.slice none 0 0],.bool false]) (by simp[results,Tryz.results335,go_sem,GF]) rfl ⟨none,0,0,0,[],false,rfl,⟨by omega,by omega⟩,t.2.1,by simp,t.2.2⟩
    |true=>
     refine aO _ (by kernel_rfl) (by kernel_rfl) ?_
     repeat(first|go_big_quiet_skip|(go_big_quiet_want;go_big_quiet_op;first|go_big_quiet_on|(apply Exists.intro;refine⟨fun _=>?_,?_⟩;(first|(go_at_call 187;exact aX (QF.out _))|(go_at_call 188;first|(with_reducible exact aX (Q1.out _))|(with_reducible exact aX (Q2.out _))));go_big_quiet_on)))
     refine wpQuiet_nil ?_;rintro D ⟨⟨D,F⟩,rfl⟩
     try dsimp only
     go_wp2;go_roundw
     case rel=>exact⟨k+1,by omega,by go_num,R.after F R.size⟩
     case measure=>simp[intOf];omega
  ·have O:¬(k:Int)<(n:Int):=by omega
   have Q:=KV.keep R;have c6:=Lib.hid (BV.after R BV.size);have f8:=HZ.out.keep R (by omega);have g6:=Lib.hid f8;have HK:=Lib.hid Q;have j3:=Q.lt;have j4:g<I.heap.size:=by have:=R.size;omega
   have o0:=aC.lit0 (E:=3) (B:=I.heap.size) I (Nat.le_refl _);clear Q f8;go_wp2_with fail;go_loopw [7,8] (fun v i wr=>∃(s:Nat) (ad:Option Addr) (nn cp:Nat) (L:List Int),s<=2^N/\v=.slice ad nn cp/\i=.int .i64 (s:Int)/\L.length=s/\(∀x∈L,0<=x/\x<=1300)/\aC 3 I.heap.size wr (.slice ad nn cp) L/\Below I.heap.size I wr) (fun _ i _=>2^N-(intOf i).toNat)
   case atStart=>exact⟨0,_,_,_,[],Nat.zero_le _,rfl,rfl,rfl,by simp,o0,aM _ _⟩
   case round=>
    obtain⟨s,ad,nn,cp,L,hs,rfl,rfl,c9,hL,ho,Bw⟩:=hrel;clear o0;obtain⟨WC,h9⟩:∃WC:World,WC=wr:=⟨_,rfl⟩;subst h9;have f6:=g6.out.keep Bw j4;have c8:=Lib.hid f6;have HL:=Lib.hid (And.intro c9 hL);have HO:=Lib.hid ho;have k0:L.length<=32:=by omega
    clear c9 hL ho f6
    by_cases hlt:s<2^N
    ·have e9:(s:Int)<(2:Int)^N:=by rw[<-c7.out];exact_mod_cast hlt
     go_wp2_with fail;go_loop [9,10] (fun x i=>∃(k:Nat) (X:Int),k<=n/\i=.int .i64 (k:Int)/\x=.int .i64 X/\0<=X/\X<=63*k) (fun _ i=>n-(intOf i).toNat)
     case atStart=>exact⟨0,0,Nat.zero_le _,rfl,rfl,by omega,by omega⟩
     case round=>
      obtain⟨k,X,hk,rfl,rfl,i6,l8⟩:=hrel
      by_cases a8:k<n
      ·have O:(k:Int)<(n:Int):=by omega
       have ik:=fun W=>I2 g n c k a8 W;have c0:=c8.out (2*k) (by omega);have c1:=c8.out (2*k+1) (by omega);have hr:=HB.out (2*k+1);obtain⟨p,hp⟩:∃p,p=z (2*k):=⟨_,rfl⟩;obtain⟨r,f4⟩:∃r,r=z (2*k+1):=⟨_,rfl⟩;rw[<-hp]at c0;rw[<-f4]at c1 hr;have b3:=hr.1;have m8:=hr.2;clear hp hr f4;obtain⟨t,ht⟩:∃t,(bits .and .i64 (s:Int) p != 0)=t:=⟨_,rfl⟩
       cases t with
       |false=>
        go_wp2;go_round
        case rel=>exact⟨k+1,X,by omega,by go_num,rfl,i6,by omega⟩
        case measure=>simp[intOf];omega
       |true=>
        go_wp2;go_round
        case rel=>exact⟨k+1,X+r,by omega,by go_num,rfl,by omega,by omega⟩
        case measure=>simp[intOf];omega
      ·have O:¬(k:Int)<(n:Int):=by omega
       have l9:X<=1300:=by omega
       have zW:=Bw.size;go_wp2_with (at_builtin;refine bB rfl _ _ _ rfl 3 Tryz.underlying22 aG I.heap.size _ L X _ rfl rfl (aT _ _ _ _ _ rfl) (HO.out.alloc _) ⟨by omega,by omega⟩ (by omega) (by simp;omega) ?_;intro v5 D o5 g5 h5;obtain⟨p5,i5,q5,rfl⟩:=o5.shape3);have S:=(Bw.alloc zW (.cells #[.int .i64 X] 3)).grown g5 (by simp;omega) (fun q hq=>(HO.out.lt q hq).1);go_roundw
       case rel=>
        refine⟨s+1,p5,i5,q5,L++[X],by omega,rfl,by go_num,by simp;exact HL.out.1,fun z Y=>?_,o5,S⟩
        rcases List.mem_append.1 Y with Y|Y
        ·exact HL.out.2 z Y
        ·rw[List.mem_singleton.1 Y];omega
       case measure=>simp[intOf];omega
    ·have e9:¬(s:Int)<(2:Int)^N:=by rw[<-c7.out];exact_mod_cast hlt
     obtain⟨M,e6⟩:∃b,aN (N:Int) L=b:=⟨_,rfl⟩;have f2:=fun W hv=>nR W (N:Int) ad nn cp L hv M e6;have zC:=Bw.size;clear e6;go_wp2_with fail;refine(f2 WC HO.out.ints).mono ?_;rintro e D ⟨o,i',A,rfl,f5,F⟩;have S:=Bw.after F Bw.size;have B6:Below w.heap.size w D:=c6.out.after S c6.out.size;have Z:=(HK.out.keep S);have o6:aC 3 I.heap.size D (.slice o i' A) (if M then L else []):=by
      rw[f5]
      cases M
      ·exact aC.nil _ _ _
      ·exact HO.out.keep F
     have a9:bA (if M then (N:Int) else 0):=by cases M<;>exact⟨by simp;try omega,by simp;try omega⟩
     have e8:(if M then L else []).length<=64:=by cases M<;>simp;omega
     obtain⟨m6,f0⟩:∃m,m=(if M then (N:Int) else 0):=⟨_,rfl⟩;rw[<-f0]at a9 ⊢;have H6:=Lib.hid (And.intro a9 e8);clear f5 f0 f2 a9 e8;obtain⟨U,hU⟩:∃U,U=D.alloc (.cells #[.int .i64 m6,.slice o i' A] 32):=⟨_,rfl⟩;have KU:aB U w.heap.size 32 #[.int .i64 0,.slice none 0 0]:=by rw[hU];exact Z.alloc _
     have oU:aC 3 I.heap.size U (.slice o i' A) (if M then L else []):=by rw[hU];exact o6.alloc _
     have BU:Below w.heap.size w U:=by rw[hU];exact B6.alloc B6.size _
     have KN:aB U D.heap.size 32 #[.int .i64 m6,.slice o i' A]:=by rw[hU];exact aB.new _ _ _
     have G1:=KU.cell;have F1:=KU.frozen;have G2:=KN.cell;go_upto_region 20 with fail;rw[<-hU];clear hU;go_wp2;refine aI ?_;intro Wf K;have t:=eA (w:=w) (E:=32) (m:=m6) (b:=.slice o i' A) KU oU (Nat.le_refl _) j3 BU K;have GF:=t.1.cell;exact bodyPost_ret (v:=.tuple #[.agg #[.int .i64 m6,.slice o i' A],.bool M]) (by simp[results,Tryz.results335,go_sem,GF]) rfl ⟨o,i',A,m6,_,M,rfl,H6.out.1,t.2.1,H6.out.2,t.2.2⟩
end
section
open Go.RowKit Go.G5
theorem vX(w:World)(v:Value)(G:List Int)(hv:aD w v G)(hG:G.length<=4)(c7:∀x∈G,0<=x/\x<=1)(u:Value)(M:List Int)(hu:aD w u M)(hM:M.length=2)(c9:∀x∈M,0<=x/\x<=2):
  Calls Tryz.prog 334 #[v,u] w fun e w'=>∃(ad:Option Addr) (i cp:Nat) (m:Int) (L:List Int) (b:Bool),e=.returned (.tuple #[.agg #[.int .i64 m,.slice ad i cp],.bool b])/\bA m/\aC 3 w.heap.size w' (.slice ad i cp) L/\L.length<=64/\Below w.heap.size w w':=by
 obtain⟨a,bb,q2,c,rfl,k5,e6,hc,hb⟩:=hv.view Tryz.prog 22 3 Tryz.underlying22 aG;obtain⟨a',m0,k9,c',rfl,j1,R,a9,a8⟩:=hu.view Tryz.prog 22 3 Tryz.underlying22 aG;obtain⟨F,hV⟩:∃V,V=w.alloc (.cells #[.int .i64 0,.slice none 0 0] 32):=⟨_,rfl⟩;have KV:aB F w.heap.size 32 #[.int .i64 0,.slice none 0 0]:=by rw[hV];exact aB.new _ _ _
 have BV:Below w.heap.size w F:=by rw[hV];exact aM _ _
 have e0:=aK hc hb BV (Nat.le_refl _);have e4:=aK a9 a8 BV (Nat.le_refl _);have m5:¬(5:Int)<(M.length:Int):=by omega
 have m4:¬(5:Int)<(G.length:Int):=by omega
 have Y:=Lib.hid (And.intro c7 c9);have a1:=Lib.hid hM;have h0:=Lib.hid e0;have h6:=Lib.hid e4;have Q:=Lib.hid (And.intro (And.intro hc hb) (And.intro a9 a8));have HI:=Lib.hid (And.intro e6 R);have j4:=KV.lt;clear c7 c9 hM e0 e4 hc hb a9 a8 e6 R;go_enter Tryz.func334,Tryz.ntmps334;go_wp2_with fail;rw[<-hV];clear hV;go_loop [6] (fun iv=>∃k:Nat,k<=G.length/\iv=.int .i64 (k:Int)) (fun iv=>G.length-(intOf iv).toNat)
 case atStart=>exact⟨0,Nat.zero_le _,rfl⟩
 case round=>
  obtain⟨k,hk,rfl⟩:=hrel
  by_cases hlt:k<G.length
  ·have e9:(k:Int)<(G.length:Int):=by omega
   have ck:=h0.out k hlt;have ik:=fun W=>HI.out.1 W k hlt;have hx:=Y.out.1 _ (List.getElem_mem hlt);obtain⟨x,o⟩:∃x,x=G[k]:=⟨_,rfl⟩;rw[<-o]at ck hx;have N:=aR x 0 ((M.length:Int)-1) F;rw[bL.2 ⟨hx.1,by have:=a1.out;omega⟩]at N;have HQ:=Lib.hid N;clear o hx N;go_wp2_with fail;refine HQ.out.mono ?_;rintro e w1 ⟨rfl,rfl⟩;go_wp2;go_round
   case rel=>exact⟨k+1,by omega,by go_num⟩
   case measure=>simp[intOf];omega
  ·have e9:¬(k:Int)<(G.length:Int):=by omega
   go_wp2_with fail;go_loop [7] (fun iv=>∃k:Nat,k<=M.length/\iv=.int .i64 (k:Int)) (fun iv=>M.length-(intOf iv).toNat)
   case atStart=>exact⟨0,Nat.zero_le _,rfl⟩
   case round=>
    obtain⟨k2,o2,rfl⟩:=hrel
    by_cases K:k2<M.length
    ·have f0:(k2:Int)<(M.length:Int):=by omega
     have ck:=h6.out k2 K;have ik:=fun W=>HI.out.2 W k2 K;have hx:=Y.out.2 _ (List.getElem_mem K);obtain⟨x,o⟩:∃x,x=M[k2]:=⟨_,rfl⟩;rw[<-o]at ck hx;have N:=aR x 0 5 F;rw[bL.2 ⟨hx.1,by omega⟩]at N;have HQ:=Lib.hid N;clear o hx N;go_wp2_with fail;refine HQ.out.mono ?_;rintro e w1 ⟨rfl,rfl⟩;go_wp2;go_round
     case rel=>exact⟨k2+1,by omega,by go_num⟩
     case measure=>simp[intOf];omega
    ·have f0:¬(k2:Int)<(M.length:Int):=by omega
     have o7:(2:Nat)^G.length<=32:=Nat.pow_le_pow_right (n:=2) (by decide) (show G.length<=5 by omega);have b3:((2^G.length:Nat):Int)=(2:Int)^G.length:=by simp
     have tp:=bJ G.length 5 (by omega);have o3:(2:Int)^G.length<=32:=by rw[<-b3];omega
     have o4:=tp.2;have o9:IntKind.i64.wrap ((2:Int)^G.length)=(2:Int)^G.length:=by rw[IntKind.wrap_i64];omega
     have c6:=Lib.hid b3;have HK:=Lib.hid KV;have O:=Lib.hid BV;have o0:=aC.lit0 (E:=3) (B:=F.heap.size) F (Nat.le_refl _);clear tp b3 KV BV;go_wp2_with fail;go_loopw [8,9] (fun v i wr=>∃(s:Nat) (ad:Option Addr) (nn cp:Nat) (L:List Int),s<=2^G.length/\v=.slice ad nn cp/\i=.int .i64 (s:Int)/\L.length=s/\(∀x∈L,0<=x/\x<=100)/\aC 3 F.heap.size wr (.slice ad nn cp) L/\Below F.heap.size F wr) (fun _ i _=>2^G.length-(intOf i).toNat)
     case atStart=>exact⟨0,_,_,_,[],Nat.zero_le _,rfl,rfl,rfl,by simp,o0,aM _ _⟩
     case round=>
      obtain⟨s,ad,nn,cp,L,hs,rfl,rfl,c8,hL,ho,Bw⟩:=hrel;clear o0;obtain⟨WC,i7⟩:∃WC:World,WC=wr:=⟨_,rfl⟩;subst i7;have HL:=Lib.hid (And.intro c8 hL);have HO:=Lib.hid ho;have k1:L.length<=32:=by omega
      have BC:=O.out.after Bw O.out.size;clear c8 hL ho
      by_cases S:s<2^G.length
      ·have f2:(s:Int)<(2:Int)^G.length:=by rw[<-c6.out];exact_mod_cast S
       go_wp2_with fail;go_loop [10,11] (fun x i=>∃(k:Nat) (X:Int),k<=M.length/\i=.int .i64 (k:Int)/\x=.int .i64 X/\0<=X/\X<=10*k) (fun _ i=>M.length-(intOf i).toNat)
       case atStart=>exact⟨0,0,Nat.zero_le _,rfl,rfl,by omega,by omega⟩
       case round=>
        obtain⟨j,X,hj,rfl,rfl,m7,m8⟩:=hrel
        by_cases b0:j<M.length
        ·have e7:(j:Int)<(M.length:Int):=by omega
         have cm:=aK Q.out.2.1 Q.out.2.2 BC (Nat.le_refl _) j b0;have im:=fun W=>HI.out.2 W j b0;have hy:=Y.out.2 _ (List.getElem_mem b0);obtain⟨y,f8⟩:∃x,x=M[j]:=⟨_,rfl⟩;rw[<-f8]at cm hy;have p7:=hy.1;have p8:=hy.2;clear f8 hy;go_wp2_with fail;go_loop [12,13] (fun n i=>∃(q:Nat) (Z:Int),q<=G.length/\i=.int .i64 (q:Int)/\n=.int .i64 Z/\0<=Z/\Z<=q) (fun _ i=>G.length-(intOf i).toNat)
         case atStart=>exact⟨0,0,Nat.zero_le _,rfl,rfl,by omega,by omega⟩
         case round=>
          obtain⟨q,Z,N,rfl,rfl,d0,n0⟩:=hrel
          by_cases f5:q<G.length
          ·have f6:(q:Int)<(G.length:Int):=by omega
           have cg:=aK Q.out.1.1 Q.out.1.2 BC (Nat.le_refl _) q f5;have ig:=fun W=>HI.out.1 W q f5;obtain⟨x,o⟩:∃x,x=G[q]:=⟨_,rfl⟩;rw[<-o]at cg;clear o;obtain⟨t1,p0⟩:∃t,(bits .and .i64 ((s:Int)/2^q) 1==1)=t:=⟨_,rfl⟩;obtain⟨t2,p1⟩:∃t,(x==(j:Int))=t:=⟨_,rfl⟩;have o8:q<=4:=by omega
           cases t1 with
           |false=>
            go_wp2;go_round
            case rel=>exact⟨q+1,Z,by omega,by go_num,rfl,d0,by omega⟩
            case measure=>simp[intOf];omega
           |true=>
            cases t2 with
            |false=>
             go_wp2;go_round
             case rel=>exact⟨q+1,Z,by omega,by go_num,rfl,d0,by omega⟩
             case measure=>simp[intOf];omega
            |true=>
             go_wp2;go_round
             case rel=>exact⟨q+1,Z+1,by omega,by go_num,rfl,by omega,by omega⟩
             case measure=>simp[intOf];omega
          ·have f6:¬(q:Int)<(G.length:Int):=by omega
           have j2:=a1.out;have k4:X<=20:=by omega
           have o1:Z<=4:=by omega
           clear j2;go_wp2;go_round
           case rel=>exact⟨j+1,X+min Z y,by omega,by go_num,rfl,by omega,by omega⟩
           case measure=>simp[intOf];omega
        ·have e7:¬(j:Int)<(M.length:Int):=by omega
         have m9:X<=100:=by have:=a1.out;omega
         have zW:=Bw.size;go_wp2_with (at_builtin;refine bB rfl _ _ _ rfl 3 Tryz.underlying22 aG F.heap.size _ L X _ rfl rfl (aT _ _ _ _ _ rfl) (HO.out.alloc _) ⟨by omega,by omega⟩ (by omega) (by simp;omega) ?_;intro v5 w5 o5 g5 h5;obtain⟨p5,i5,q5,rfl⟩:=o5.shape3);have B5:=(Bw.alloc zW (.cells #[.int .i64 X] 3)).grown g5 (by simp;omega) (fun q N=>(HO.out.lt q N).1);go_roundw
         case rel=>
          refine⟨s+1,p5,i5,q5,L++[X],by omega,rfl,by go_num,by simp;exact HL.out.1,fun z hz=>?_,o5,B5⟩
          rcases List.mem_append.1 hz with hz|hz
          ·exact HL.out.2 z hz
          ·rw[List.mem_singleton.1 hz];omega
         case measure=>simp[intOf];omega
      ·have f2:¬(s:Int)<(2:Int)^G.length:=by rw[<-c6.out];exact_mod_cast S
       obtain⟨I,e5⟩:∃b,aN (G.length:Int) L=b:=⟨_,rfl⟩;have f4:=fun W hv=>nR W (G.length:Int) ad nn cp L hv I e5;have zC:=Bw.size;clear e5;go_wp2_with fail;refine(f4 WC HO.out.ints).mono ?_;rintro e w5 ⟨A,i',D,rfl,f7,b5⟩;have B5:=Bw.after b5 Bw.size;have B6:Below w.heap.size w w5:=O.out.after B5 O.out.size;have K5:=(HK.out.keep B5);have o6:aC 3 F.heap.size w5 (.slice A i' D) (if I then L else []):=by
        rw[f7]
        cases I
        ·exact aC.nil _ _ _
        ·exact HO.out.keep b5
       have b1:bA (if I then (G.length:Int) else 0):=by cases I<;>exact⟨by simp;try omega,by simp;try omega⟩
       have e8:(if I then L else []).length<=64:=by cases I<;>simp;omega
       obtain⟨m6,f3⟩:∃m,m=(if I then (G.length:Int) else 0):=⟨_,rfl⟩;rw[<-f3]at b1 ⊢;have H6:=Lib.hid (And.intro b1 e8);clear f7 f3 f4 b1 e8;obtain⟨U,hU⟩:∃U,U=w5.alloc (.cells #[.int .i64 m6,.slice A i' D] 32):=⟨_,rfl⟩;have KU:aB U w.heap.size 32 #[.int .i64 0,.slice none 0 0]:=by rw[hU];exact K5.alloc _
       have oU:aC 3 F.heap.size U (.slice A i' D) (if I then L else []):=by rw[hU];exact o6.alloc _
       have BU:Below w.heap.size w U:=by rw[hU];exact B6.alloc B6.size _
       have KN:aB U w5.heap.size 32 #[.int .i64 m6,.slice A i' D]:=by rw[hU];exact aB.new _ _ _
       have G1:=KU.cell;have F1:=KU.frozen;have G2:=KN.cell;go_upto_region 30 with fail;rw[<-hU];clear hU;go_wp2;refine aI ?_;intro Wf i8;have t:=eA (w:=w) (E:=32) (m:=m6) (b:=.slice A i' D) KU oU (Nat.le_refl _) j4 BU i8;have GF:=t.1.cell;exact bodyPost_ret (v:=.tuple #[.agg #[.int .i64 m6,.slice A i' D],.bool I]) (by simp[results,Tryz.results334,go_sem,GF]) rfl ⟨A,i',D,m6,_,I,rfl,H6.out.1,t.2.1,H6.out.2,t.2.2⟩
end
section
open Go.RowKit Go.G5
theorem xO(w:World)(g:Nat)(D:Dr w g):
  Calls Tryz.prog 279 #[.pointer (some ⟨g,0,none⟩)] w fun e w'=>∃(n:Int) (S:Option Addr) (i cp:Nat) (l:List Int),e=.returned (.agg #[.int .i64 n,.slice S i cp])/\bA n/\aC 3 w.heap.size w' (.slice S i cp) l/\l.length<=64/\Dr w' g/\w.grownBy w' (some g):=by
 go_enter Tryz.func279,Tryz.ntmps279;go_wp2_with fail;refine aH ?_;intro V hV;have K:aB V w.heap.size 32 #[.int .i64 0,.slice none 0 0]:=by rw[hV];exact aB.new _ _ _
 have C:Cur w V g:=by rw[hV];exact(Cur.start D).alloc _
 clear hV;refine(aU V g C.D 5).mono ?_;rintro e w1 ⟨n0,rfl,_,hn,_,D1,g1⟩;have hn:=hn (by omega);have K:=K.cur0 C.zg g1;have C:=C.next D1 g1;obtain⟨N,rfl⟩:=Int.eq_ofNat_of_zero_le hn.1;have s6:N<=4:=by omega
 clear D1 g1 hn;go_wp2_with fail;refine(aU w1 g C.D 6).mono ?_;rintro e w2 ⟨m,rfl,_,hm,_,D2,g2⟩;have hm:=hm (by omega);have K:=K.cur0 C.zg g2;have C:=C.next D2 g2;have zK:=K.lt;clear D2 g2
 by_cases m0:m=0
 ·subst m0
  go_wp2_with fail;refine(NS w2 g C.D).mono ?_;rintro e w3 ⟨n,S,i,cp,l,rfl,hn,o,hl,D3,g3⟩;have K:=K.cur0 C.zg g3;have C:=C.next D3 g3;have o:=o.mono (show w.heap.size+1<=w2.heap.size by omega);clear D3 g3;have G:=K.cell;have F:=K.frozen;go_wp2;refine aI ?_;intro Wf a6;obtain⟨KF,CF,oF⟩:=eX C K o (Nat.lt_succ_self _) a6;have GF:=KF.cell;clear a6;exact bodyPost_ret (v:=.agg #[.int .i64 n,.slice S i cp]) (by simp[results,Tryz.results279,go_sem,GF]) rfl ⟨n,S,i,cp,l,rfl,hn,oF,hl,CF.D,CF.gr⟩
 by_cases m1:m=1
 ·subst m1
  go_wp2_with fail;refine(aU w2 g C.D 3).mono ?_;rintro e w3 ⟨x,rfl,_,hx,_,D3,g3⟩;have hx:=hx (by omega);have K:=K.cur0 C.zg g3;have C:=C.next D3 g3;clear D3 g3;go_wp2_with fail;refine(aU w3 g C.D 3).mono ?_;rintro e A ⟨y,rfl,_,hy,_,D4,g4⟩;have hy:=hy (by omega);have K:=K.cur0 C.zg g4;have C:=C.next D4 g4;have u9:=K.lt;have u7:=C.size;clear D4 g4;obtain⟨U,hU⟩:∃U,U=(A.alloc (.cells #[.int .i64 x,.int .i64 y] 3)).alloc (.cells #[] 3):=⟨_,rfl⟩;have oM:aC 3 A.heap.size U (.slice (some ⟨A.heap.size,0,none⟩) 2 2) [x,y]:=by
   rw[hU];have h0:aC 3 A.heap.size (A.alloc (.cells #[.int .i64 x,.int .i64 y] 3)) (.slice (some ⟨A.heap.size,0,none⟩) 2 2) [x,y]:=⟨World.ownsRow_lit A #[.int .i64 x,.int .i64 y] 2 (Nat.le_refl _) (by decide) rfl,fun z hz=>by simp only[List.mem_cons,List.not_mem_nil,or_false]at hz;rcases hz with rfl|rfl<;>exact⟨by omega,by omega⟩⟩;exact h0.alloc _
  have oG:aC 3 A.heap.size U (.slice (some ⟨A.heap.size+1,0,none⟩) 0 0) []:=by rw[hU];exact aC.lit0' A _
  have ap:aF (.slice (some ⟨A.heap.size+1,0,none⟩) 0 0) (.slice (some ⟨A.heap.size,0,none⟩) 2 2):=fun k h1 h2=>by
   have e1:A.heap.size+1=k:=Option.some.inj h1;have e2:A.heap.size=k:=Option.some.inj h2;omega
  have K:=(K.alloc (.cells #[.int .i64 x,.int .i64 y] 3)).alloc (.cells #[] 3);have C:=(C.alloc (.cells #[.int .i64 x,.int .i64 y] 3)).alloc (.cells #[] 3);rw[<-hU]at K C;have g7:=Lib.hid (And.intro hx hy);clear hx hy;go_upto_region 9 with fail;rw[<-hU];clear hU;go_wp2_with fail;go_loopw [5,6] (fun gv iv wr=>∃(k:Nat) (a1:Option Addr) (n1 c1:Nat) (L:List Int),k<=N/\iv=.int .i64 (k:Int)/\gv=.slice a1 n1 c1/\L.length=k/\(∀z∈L,0<=z/\z<=1)/\aC 3 A.heap.size wr (.slice a1 n1 c1) L/\aC 3 A.heap.size wr (.slice (some ⟨A.heap.size,0,none⟩) 2 2) [x,y]/\aF (.slice a1 n1 c1) (.slice (some ⟨A.heap.size,0,none⟩) 2 2)/\Cur w wr g/\aB wr w.heap.size 32 #[.int .i64 0,.slice none 0 0]) (fun _ iv _=>N-(intOf iv).toNat)
  case atStart=>exact⟨0,_,_,_,[],Nat.zero_le _,rfl,rfl,rfl,by simp,oG,oM,ap,C,K⟩
  case round=>
   obtain⟨k,a1,n1,c1,L,hk,rfl,rfl,hL,b0,oL,oX,e7,I,O⟩:=hrel;clear oM oG ap C K;have zg:=I.zg
   by_cases t7:k<N
   ·have e8:(k:Int)<(N:Int):=by omega
    have s5:L.length<=4:=by omega
    have HL:=Lib.hid (And.intro hL b0);clear hL b0;go_wp2_with fail;refine(aU wr g I.D 2).mono ?_;rintro e M ⟨z,rfl,_,hz,_,D5,g5⟩;have hz:=hz (by omega);have f7:=hz.1;have u1:=hz.2;have oL:=oL.cur0 (by omega) g5;have oX:=oX.cur0 (by omega) g5;have O:=O.cur0 zg g5;have I:=I.next D5 g5;have zC:=I.size;have z5:=g5.size;have HO:=Lib.hid oL;have v1:A.heap.size<=M.heap.size:=by have:=(oX.lt A.heap.size rfl);omega
    have e5:=Lib.hid oX;clear D5 g5 hz oL oX;go_wp2_with (at_builtin;refine bB rfl _ _ _ rfl 3 Tryz.underlying22 aG A.heap.size (.slice a1 n1 c1) L z _ rfl rfl (aT _ _ _ _ _ rfl) (HO.out.alloc _) ⟨by omega,by omega⟩ (by omega) (by simp;omega) ?_;intro v6 w6 o6 g6 h6;obtain⟨p6,i6,q6,rfl⟩:=o6.shape3);have j1:=(e5.out.alloc (.cells #[.int .i64 z] 3)).growA g6 e7;have h5:=h6.apart e7 (fun q hq=>(((e5.out.alloc (.cells #[.int .i64 z] 3))).lt q hq).2);have R:∀b,(Value.slice a1 n1 c1).ownBlock=some b->A.heap.size<=b:=fun b hb=>(HO.out.lt b hb).1;have C6:=(I.alloc (.cells #[.int .i64 z] 3)).row g6 (fun b hb=>by have:=R b hb;omega);have K6:=(O.alloc (.cells #[.int .i64 z] 3)).grow g6 (fun e=>by have:=R _ e;omega);go_roundw
    case rel=>
     refine⟨k+1,p6,i6,q6,L++[z],by omega,by go_num,rfl,by simp;exact HL.out.1,fun t ht=>?_,o6,j1,h5,C6,K6⟩
     rcases List.mem_append.1 ht with ht|ht
     ·exact HL.out.2 t ht
     ·rw[List.mem_singleton.1 ht];omega
    case measure=>simp[intOf];omega
   ·have e8:¬(k:Int)<(N:Int):=by omega
    have e9:=vX wr (.slice a1 n1 c1) L oL.ints (by omega) b0 (.slice (some ⟨A.heap.size,0,none⟩) 2 2) [x,y] oX.ints rfl (fun z hz=>by have:=g7.out;simp only[List.mem_cons,List.not_mem_nil,or_false]at hz;rcases hz with rfl|rfl<;>omega);have g0:=Lib.hid e9;have zK:=O.lt;have zC:=I.size;clear e9 oL oX hL b0;go_wp2_with fail;refine g0.out.mono ?_;rintro e M ⟨S,i,c5,m5,L5,b5,rfl,f5,o5,f4,bb⟩;have O:=O.keep bb;have I:=I.keep bb;obtain⟨Y,hY⟩:∃Y,Y=M.alloc (.cells #[.int .i64 m5,.slice S i c5] 32):=⟨_,rfl⟩;have K:aB Y w.heap.size 32 #[.int .i64 0,.slice none 0 0]:=by rw[hY];exact O.alloc _
    have C:Cur w Y g:=by rw[hY];exact I.alloc _
    have o:aC 3 (w.heap.size+1) Y (.slice S i c5) L5:=by rw[hY];exact(o5.mono (by omega)).alloc _
    have KN:aB Y M.heap.size 32 #[.int .i64 m5,.slice S i c5]:=by rw[hY];exact aB.new _ _ _
    have G2:=KN.cell;clear O I o5;go_upto_region 14 with fail;rw[<-hY];clear hY;have G:=K.cell;have F:=K.frozen;go_wp2;refine aI ?_;intro Wf a6;obtain⟨KF,CF,oF⟩:=eX C K o (Nat.lt_succ_self _) a6;have GF:=KF.cell;clear a6;exact bodyPost_ret (v:=.agg #[.int .i64 m5,.slice S i c5]) (by simp[results,Tryz.results279,go_sem,GF]) rfl ⟨m5,S,i,c5,L5,rfl,f5,oF,f4,CF.D,CF.gr⟩
 by_cases m2:m=2
 ·subst m2
  go_wp2_with fail;refine(aU w2 g C.D 3).mono ?_;rintro e w3 ⟨x,rfl,_,hx,_,D3,g3⟩;have hx:=hx (by omega);have K:=K.cur0 C.zg g3;have C:=C.next D3 g3;clear D3 g3;go_wp2_with fail;refine(aU w3 g C.D 3).mono ?_;rintro e A ⟨y,rfl,_,hy,_,D4,g4⟩;have hy:=hy (by omega);have K:=K.cur0 C.zg g4;have C:=C.next D4 g4;have u9:=K.lt;have u7:=C.size;clear D4 g4;obtain⟨U,hU⟩:∃U,U=(A.alloc (.cells #[.int .i64 x,.int .i64 y] 3)).alloc (.cells #[] 3):=⟨_,rfl⟩;have oM:aC 3 A.heap.size U (.slice (some ⟨A.heap.size,0,none⟩) 2 2) [x,y]:=by
   rw[hU];have h0:aC 3 A.heap.size (A.alloc (.cells #[.int .i64 x,.int .i64 y] 3)) (.slice (some ⟨A.heap.size,0,none⟩) 2 2) [x,y]:=⟨World.ownsRow_lit A #[.int .i64 x,.int .i64 y] 2 (Nat.le_refl _) (by decide) rfl,fun z hz=>by simp only[List.mem_cons,List.not_mem_nil,or_false]at hz;rcases hz with rfl|rfl<;>exact⟨by omega,by omega⟩⟩;exact h0.alloc _
  have oG:aC 3 A.heap.size U (.slice (some ⟨A.heap.size+1,0,none⟩) 0 0) []:=by rw[hU];exact aC.lit0' A _
  have ap:aF (.slice (some ⟨A.heap.size+1,0,none⟩) 0 0) (.slice (some ⟨A.heap.size,0,none⟩) 2 2):=fun k h1 h2=>by
   have e1:A.heap.size+1=k:=Option.some.inj h1;have e2:A.heap.size=k:=Option.some.inj h2;omega
  have K:=(K.alloc (.cells #[.int .i64 x,.int .i64 y] 3)).alloc (.cells #[] 3);have C:=(C.alloc (.cells #[.int .i64 x,.int .i64 y] 3)).alloc (.cells #[] 3);rw[<-hU]at K C;have g7:=Lib.hid (And.intro hx hy);clear hx hy;go_upto_region 9 with fail;rw[<-hU];clear hU;go_wp2_with fail;go_loopw [5,6] (fun gv iv wr=>∃(k:Nat) (a1:Option Addr) (n1 c1:Nat) (L:List Int),k<=N/\iv=.int .i64 (k:Int)/\gv=.slice a1 n1 c1/\L.length=k/\(∀z∈L,0<=z/\z<=1)/\aC 3 A.heap.size wr (.slice a1 n1 c1) L/\aC 3 A.heap.size wr (.slice (some ⟨A.heap.size,0,none⟩) 2 2) [x,y]/\aF (.slice a1 n1 c1) (.slice (some ⟨A.heap.size,0,none⟩) 2 2)/\Cur w wr g/\aB wr w.heap.size 32 #[.int .i64 0,.slice none 0 0]) (fun _ iv _=>N-(intOf iv).toNat)
  case atStart=>exact⟨0,_,_,_,[],Nat.zero_le _,rfl,rfl,rfl,by simp,oG,oM,ap,C,K⟩
  case round=>
   obtain⟨k,a1,n1,c1,L,hk,rfl,rfl,hL,b0,oL,oX,e7,I,O⟩:=hrel;clear oM oG ap C K;have zg:=I.zg
   by_cases t7:k<N
   ·have e8:(k:Int)<(N:Int):=by omega
    have s5:L.length<=4:=by omega
    have HL:=Lib.hid (And.intro hL b0);clear hL b0;go_wp2_with fail;refine(aU wr g I.D 2).mono ?_;rintro e M ⟨z,rfl,_,hz,_,D5,g5⟩;have hz:=hz (by omega);have f7:=hz.1;have u1:=hz.2;have oL:=oL.cur0 (by omega) g5;have oX:=oX.cur0 (by omega) g5;have O:=O.cur0 zg g5;have I:=I.next D5 g5;have zC:=I.size;have z5:=g5.size;have HO:=Lib.hid oL;have v1:A.heap.size<=M.heap.size:=by have:=(oX.lt A.heap.size rfl);omega
    have e5:=Lib.hid oX;clear D5 g5 hz oL oX;go_wp2_with (at_builtin;refine bB rfl _ _ _ rfl 3 Tryz.underlying22 aG A.heap.size (.slice a1 n1 c1) L z _ rfl rfl (aT _ _ _ _ _ rfl) (HO.out.alloc _) ⟨by omega,by omega⟩ (by omega) (by simp;omega) ?_;intro v6 w6 o6 g6 h6;obtain⟨p6,i6,q6,rfl⟩:=o6.shape3);have j1:=(e5.out.alloc (.cells #[.int .i64 z] 3)).growA g6 e7;have h5:=h6.apart e7 (fun q hq=>(((e5.out.alloc (.cells #[.int .i64 z] 3))).lt q hq).2);have R:∀b,(Value.slice a1 n1 c1).ownBlock=some b->A.heap.size<=b:=fun b hb=>(HO.out.lt b hb).1;have C6:=(I.alloc (.cells #[.int .i64 z] 3)).row g6 (fun b hb=>by have:=R b hb;omega);have K6:=(O.alloc (.cells #[.int .i64 z] 3)).grow g6 (fun e=>by have:=R _ e;omega);go_roundw
    case rel=>
     refine⟨k+1,p6,i6,q6,L++[z],by omega,by go_num,rfl,by simp;exact HL.out.1,fun t ht=>?_,o6,j1,h5,C6,K6⟩
     rcases List.mem_append.1 ht with ht|ht
     ·exact HL.out.2 t ht
     ·rw[List.mem_singleton.1 ht];omega
    case measure=>simp[intOf];omega
   ·have e8:¬(k:Int)<(N:Int):=by omega
    have e9:=vX wr (.slice a1 n1 c1) L oL.ints (by omega) b0 (.slice (some ⟨A.heap.size,0,none⟩) 2 2) [x,y] oX.ints rfl (fun z hz=>by have:=g7.out;simp only[List.mem_cons,List.not_mem_nil,or_false]at hz;rcases hz with rfl|rfl<;>omega);have g0:=Lib.hid e9;have zK:=O.lt;have zC:=I.size;clear e9 oL oX hL b0;go_wp2_with fail;refine g0.out.mono ?_;rintro e M ⟨S,i,c5,m5,L5,b5,rfl,f5,o5,f4,bb⟩;have O:=O.keep bb;have I:=I.keep bb;obtain⟨Y,hY⟩:∃Y,Y=M.alloc (.cells #[.int .i64 m5,.slice S i c5] 32):=⟨_,rfl⟩;have K:aB Y w.heap.size 32 #[.int .i64 0,.slice none 0 0]:=by rw[hY];exact O.alloc _
    have C:Cur w Y g:=by rw[hY];exact I.alloc _
    have o:aC 3 (w.heap.size+1) Y (.slice S i c5) L5:=by rw[hY];exact(o5.mono (by omega)).alloc _
    have KN:aB Y M.heap.size 32 #[.int .i64 m5,.slice S i c5]:=by rw[hY];exact aB.new _ _ _
    have G2:=KN.cell;clear O I o5;go_upto_region 14 with fail;rw[<-hY];clear hY;have G:=K.cell;have F:=K.frozen;go_wp2;refine aI ?_;intro Wf a6;obtain⟨KF,CF,oF⟩:=eX C K o (Nat.lt_succ_self _) a6;have GF:=KF.cell;clear a6;exact bodyPost_ret (v:=.agg #[.int .i64 m5,.slice S i c5]) (by simp[results,Tryz.results279,go_sem,GF]) rfl ⟨m5,S,i,c5,L5,rfl,f5,oF,f4,CF.D,CF.gr⟩
 ·have hp5:(2:Nat)^N<=16:=Nat.pow_le_pow_right (n:=2) (by decide) s6
  have l9:((2^N:Nat):Int)=(2:Int)^N:=by simp
  have tp:=bJ N 5 (by omega);have hp1:(2:Int)^N<=16:=by rw[<-l9];omega
  have hp2:=tp.2;have hsh:IntKind.i64.wrap ((2:Int)^N)=(2:Int)^N:=by rw[IntKind.wrap_i64];omega
  clear tp l9;obtain⟨U,hU⟩:∃U,U=w2.alloc (.cells #[] 213):=⟨_,rfl⟩;have oE:gJ 213 2 w2.heap.size U (.slice (some ⟨w2.heap.size,0,none⟩) 0 0) 0:=by rw[hU];exact gJ.lit0 w2 (Nat.le_refl _)
  have z2:=C.size;have zgw:=C.zg;have K:=K.alloc (.cells #[] 213);have C:=C.alloc (.cells #[] 213);rw[<-hU]at K C;go_wp2_with fail;refine aH ?_;intro U' l0;obtain rfl:U'=U:=by rw[l0,hU]
  clear hU l0;refine(aU U' g C.D 4).mono ?_;rintro e w3 ⟨k0,rfl,_,hk,_,D3,g3⟩;have hk:=hk (by omega);have oE:=oE.cur0 (by omega) g3;have K:=K.cur0 C.zg g3;have C:=C.next D3 g3;obtain⟨K0,rfl⟩:=Int.eq_ofNat_of_zero_le hk.1;have hK3:K0<=3:=by omega
  clear D3 g3 hk;obtain⟨ei,hi,f7,l7,l8⟩:=info_parts AD;have HI:=Lib.hid (And.intro hi (And.intro f7 (And.intro l7 l8)));clear hi f7 l7 l8;go_wp2_with fail;go_loopw [9,10] (fun lv kv wr=>∃(j cnt q cp:Nat),lv=.slice (some ⟨q,0,none⟩) cnt cp/\kv=.int .i64 (j:Int)/\j+cnt<=3/\gJ 213 2 w2.heap.size wr (.slice (some ⟨q,0,none⟩) cnt cp) cnt/\Cur w wr g/\aB wr w.heap.size 32 #[.int .i64 0,.slice none 0 0]) (fun _ kv _=>(intOf kv).toNat)
  case atStart=>exact⟨K0,0,_,_,rfl,rfl,by omega,oE,C,K⟩
  case round=>
   obtain⟨j,cnt,q,cp,rfl,rfl,hj,oZ,I,O⟩:=hrel;clear oE C K;have zg:=I.zg
   by_cases hj0:0<j
   ·have t5:(0:Int)<(j:Int):=by omega
    go_wp2_with fail;refine(aU wr g I.D ((2:Int)^N)).mono ?_;rintro e M ⟨x,rfl,_,hx,_,D5,g5⟩;have hx:=hx (by omega);have hx0:=hx.1;have hx1:=hx.2;have oZ:=oZ.cur0 (by omega) g5;have O:=O.cur0 zg g5;have I:=I.next D5 g5;have z7:=I.size;have hB7:w2.heap.size<=M.heap.size:=by have:=(oZ.lt q rfl);omega
    have HO:=Lib.hid oZ;clear D5 g5 oZ hx;go_wp2_with (at_builtin;refine sW rfl _ _ _ rfl 213 Tryz.underlying211 ei _ 2 16 HI.out.1 HI.out.2.1 HI.out.2.2.1 HI.out.2.2.2 rfl (by decide) (by decide) w2.heap.size (.slice (some ⟨q,0,none⟩) cnt cp) cnt rfl (HO.out.alloc _) M.heap.size [x,1] rfl rfl (fun j v t6=>by match j,t6 with|0,h=>(cases h;exact aT _ _ _ _ _ rfl)|1,h=>(cases h;exact aT _ _ _ _ _ rfl)) (fun v hv=>by simp only[List.mem_cons,List.not_mem_nil,or_false]at hv;rcases hv with rfl|rfl<;>omega) (by omega) (by simp;omega) ?_;intro v8 w8 o8 g8);obtain⟨q8,c8,rfl⟩:∃q8 c8,v8=.slice (some ⟨q8,0,none⟩) (cnt+1) c8:=by
     rcases o8.at with⟨_,_,h⟩|⟨q8,c8,h,_⟩
     ·omega
     ·exact⟨q8,c8,h⟩
    have R:∀b,(Value.slice (some ⟨q,0,none⟩) cnt cp).ownBlock=some b->w2.heap.size<=b:=fun b hb=>(HO.out.lt b hb).1;have hw2:=I.zg;have K8:=(O.alloc (.cells #[.int .i64 x,.int .i64 1] 213)).grow g8 (fun e=>by have:=R _ e;omega);have C8:=(I.alloc (.cells #[.int .i64 x,.int .i64 1] 213)).row g8 (fun b hb=>by have:=R b hb;omega);go_roundw
    case rel=>exact⟨j-1,cnt+1,q8,c8,rfl,by go_num,by omega,o8,C8,K8⟩
    case measure=>simp[intOf];omega
   ·have t5:¬(0:Int)<(j:Int):=by omega
    obtain⟨WR,s8⟩:∃W:World,W=wr:=⟨_,rfl⟩;subst s8;obtain⟨hq,zf,m8,m7⟩:q<WR.heap.size/\∃zf:Nat->Int,EC WR q cnt 2 zf/\∀k,0<=zf k/\zf k<=63:=by
     rcases oZ.at with⟨_,h,_⟩|⟨q',c',h,h1,_,zf,h2,h3⟩
     ·cases h
     ·injection h with e1 e2 e3
      injection e1 with e1
      injection e1 with e1
      subst e1;exact⟨h1,zf,h2,h3⟩
    have zK:=O.lt;have zC:=I.size;have l5:=GH WR N (by omega) q cnt cp zf m8 hq m7 (by omega);have q4:=Lib.hid l5;clear l5 m8 m7 oZ;go_wp2_with fail;refine q4.out.mono ?_;rintro e M ⟨S,i,c5,m5,L,b5,rfl,f5,oL,f4,bb⟩;have O:=O.keep bb;have I:=I.keep bb;obtain⟨i',t1⟩:∃a' c',(.slice S i c5:Value)=.slice a' L.length c':=oL.ints.shape;obtain⟨cc,s9⟩:=t1
    injection s9 with e1 e2 e3
    subst e1 e2 e3;obtain⟨Y,hY⟩:∃Y,Y=(M.alloc (.cells #[.int .i64 m5,.slice S L.length c5] 32)).alloc (.cells #[] 3):=⟨_,rfl⟩;have KN:aB Y M.heap.size 32 #[.int .i64 m5,.slice S L.length c5]:=by rw[hY];exact(aB.new _ _ _).alloc _
    have oV:aC 3 (M.heap.size+1) Y (.slice (some ⟨M.heap.size+1,0,none⟩) 0 0) []:=by
     rw[hY];have:=aC.lit0 (E:=3) (B:=M.heap.size+1) (M.alloc (.cells #[.int .i64 m5,.slice S L.length c5] 32)) (by simp);simpa using this
    have BY:Below M.heap.size M Y:=by rw[hY];exact cD _ _ _
    have zY:M.heap.size+2<=Y.heap.size:=by rw[hY];simp
    have zr5:=bb.size;have HK:=Lib.hid O;have HC:=Lib.hid I;have HO:=Lib.hid oL;have HN:=Lib.hid KN;clear O I oL KN;go_upto_region 22 with fail;rw[<-hY];clear hY;go_wp2_with fail;go_loopw [13,14] (fun vv iv wy=>∃(s:Nat) (a1:Option Addr) (n1 c1:Nat) (Q:List Int),s<=L.length/\iv=.int .i64 (s:Int)/\vv=.slice a1 n1 c1/\Q.length=s/\aC 3 (M.heap.size+1) wy (.slice a1 n1 c1) Q/\Below (M.heap.size+1) Y wy) (fun _ iv _=>L.length-(intOf iv).toNat)
    case atStart=>exact⟨0,_,_,_,[],Nat.zero_le _,rfl,rfl,rfl,oV,Below.refl _ _⟩
    case round=>
     obtain⟨s,a1,n1,c1,Q,hs,rfl,rfl,hQ,oQ,By⟩:=hrel;clear oV;have K5:aB wr M.heap.size 32 #[.int .i64 m5,.slice S L.length c5]:=(By.block M.heap.size (Nat.lt_succ_self _)).trans HN.out;have B5:Below M.heap.size M wr:=BY.after By (by omega);have zB:=By.size;have HQ:=Lib.hid oQ;have q9:=Lib.hid hQ;have x8:Q.length<=64:=by omega
     have G5:=K5.cell;clear oQ hQ
     by_cases hsl:s<L.length
     ·have m4:(s:Int)<(L.length:Int):=by omega
      have m3:=rU s (by omega);have m6:=jO s wr (by omega);have k3:=Lib.hid m6;clear m6;obtain⟨pp,hp⟩:∃p,Hid (aY s=p):=⟨_,Lib.hid rfl⟩;rw[hp.out]at m3;go_wp2_with fail;refine k3.out.mono ?_;rintro e w7 ⟨rfl,rfl⟩;rw[hp.out];clear hp k3;go_wp2_with (at_builtin;refine bB rfl _ _ _ rfl 3 Tryz.underlying22 aG (M.heap.size+1) _ Q (pp:Int) _ rfl rfl (aT _ _ _ _ _ rfl) (HQ.out.alloc _) ⟨by omega,by omega⟩ (by omega) (by simp;omega) ?_;intro v8 w8 o8 g8 h8;obtain⟨p8,i8,q8,rfl⟩:=o8.shape3);have B8:=(By.alloc (by omega) (.cells #[.int .i64 (pp:Int)] 3)).grown g8 (by simp;omega) (fun q hq=>(HQ.out.lt q hq).1);go_roundw
      case rel=>exact⟨s+1,p8,i8,q8,Q++[(pp:Int)],by omega,by go_num,rfl,by simp;exact q9.out,o8,B8⟩
      case measure=>simp[intOf];omega
     ·have m4:¬(s:Int)<(L.length:Int):=by omega
      have l6:=LO wr m5 (.slice S L.length c5) L (HO.out.keep B5).ints (N:Int) (.slice a1 n1 c1) Q HQ.out.ints;have q5:=Lib.hid l6;have K9:=HK.out.keep B5;have C9:=HC.out.keep B5;have zK9:=K9.lt;have zC9:=C9.size;clear l6;go_wp2_with fail;refine q5.out.mono ?_;rintro e w9 ⟨e6,i9,c9,m9,L9,b9,rfl,t9,o9,t8,k7⟩;have K9:=K9.keep k7;have C9:=C9.keep k7;obtain⟨Z,hZ⟩:∃Z,Z=w9.alloc (.cells #[.int .i64 m9,.slice e6 i9 c9] 32):=⟨_,rfl⟩;have K:aB Z w.heap.size 32 #[.int .i64 0,.slice none 0 0]:=by rw[hZ];exact K9.alloc _
      have C:Cur w Z g:=by rw[hZ];exact C9.alloc _
      have o:aC 3 (w.heap.size+1) Z (.slice e6 i9 c9) L9:=by rw[hZ];exact(o9.mono (by omega)).alloc _
      have KZ:aB Z w9.heap.size 32 #[.int .i64 m9,.slice e6 i9 c9]:=by rw[hZ];exact aB.new _ _ _
      have G2:=KZ.cell;clear K9 C9 o9 G5;go_upto_region 27 with fail;rw[<-hZ];clear hZ;have G:=K.cell;have F:=K.frozen;go_wp2;refine aI ?_;intro Wf a6;obtain⟨KF,CF,oF⟩:=eX C K o (Nat.lt_succ_self _) a6;have GF:=KF.cell;clear a6;exact bodyPost_ret (v:=.agg #[.int .i64 m9,.slice e6 i9 c9]) (by simp[results,Tryz.results279,go_sem,GF]) rfl ⟨m9,e6,i9,c9,L9,rfl,t9,oF,t8,CF.D,CF.gr⟩
end
end Go.Proofs.YtipejodijbjpcaaGreatDoor
