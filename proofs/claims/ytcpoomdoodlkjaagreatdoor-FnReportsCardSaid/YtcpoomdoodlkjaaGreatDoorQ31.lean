/- Lemmas for CardReports. No condition. -/
import Derived.Test.YtcpoomdoodlkjaaGreatDoorQ13
import Derived.Test.YtcpoomdoodlkjaaGreatDoorQ30
set_option maxRecDepth 100000
set_option maxHeartbeats 64000000
section
namespace Go.G5
open Go Go.RowKit
theorem jW.cur0{E:TypeId}{m B g:Nat}{w w':World}{v:Value}{n:Nat}(h:jW E m B w v n)(hB:g<B)(z:w.grownBy w' (some g)):jW E m B w' v n:=
 h.grow z (fun k e1 e2=>by have:=Option.some.inj e1;have:=(h.lt k e2).1;omega)
end Go.G5
namespace Go.Proofs.YtcpoomdoodlkjaaGreatDoor
open Go.RowKit Go.G5 Go.Proofs.Tryz
theorem VL(w:World)(g:Nat)(D:Dr w g):
  Calls prog 29 #[.pointer (some ⟨g,0,none⟩)] w fun e w'=>∃(n:Int) (ad:Option Addr) (i J:Nat) (l:List Int),e=.returned (.agg #[n,aI ad i J])/\dD n/\aP 3 w w' (aI ad i J) l/\l.length<=64/\Dr w' g/\w.grownBy w' (some g):=by
 go_enter func29,ntmps29;go_wp2_with fail;refine bH ?_;intro V hV;have K:aU V w 26 #[aJ,()]:=eJ hV;have C:Cur w V g:=by rw[hV];exact(Cur.start D).alloc _
 clear hV;refine(uT V g C.D 6).mono ?_;rintro e w1 ⟨b,rfl,D1,g1⟩;have K:=K.cur0 C.zg g1;have C:=C.next D1 g1;have zK:=K.lt;clear D1 g1
 cases b with
 |true=>go_wp2_with fail;refine(zA w1 g C.D).mono ?_;rintro e w2 ⟨n,ad,i,J,l,rfl,hn,o,hl,D2,S⟩;have K:=K.cur0 C.zg S;have C:=C.next D2 S;have o:=o.mono (show w.heap.size+1<=w1.heap.size by omega);clear D2 S;have G:=K.cell;have F:=K.frozen;go_wp2;refine bG ?_;intro Wf M;obtain⟨KF,CF,oF⟩:=gU C K o (Nat.lt_succ_self _) M;have GF:=KF.cell;clear M;exact bodyPost_ret (v:=.agg #[n,aI ad i J]) (by simp[results,results29,go_sem,GF]) rfl ⟨n,ad,i,J,l,rfl,hn,oF,by omega,CF.D,CF.gr⟩
 |false=>
  go_wp2_with fail;refine(cU w1 g C.D 4).mono ?_;rintro e w2 ⟨m,rfl,_,hm,_,D2,S⟩;have hm:=hm aK;have K:=K.cur0 C.zg S;have C:=C.next D2 S;obtain⟨N,hN⟩:∃N:Nat,(N:Int)=2+m:=⟨(2+m).toNat,by omega⟩;have e7:N<=5:=aK;have j9:2<=N:=aK;clear D2 S;have z2:=C.size;have l0:=C.zg;have k9:=K.lt;obtain⟨U,hU⟩:=aQ (w2.alloc (.cells #[] 89));have oE:jW 89 3 w2.heap.size U (aI (some ⟨w2,0,none⟩) 0 0) 0:=by rw[hU];exact jW.lit0 w2 aO
  have K:=K.alloc (.cells #[] 89);have C:=C.alloc (.cells #[] 89);rw[<-hU]at K C;go_wp2_with fail;rw[<-hN];clear hN hm;refine bH ?_;intro U' b0;obtain rfl:U'=U:=by rw[b0,hU]
  clear hU b0;refine(cU U' g C.D 8).mono ?_;rintro e w3 ⟨k0,rfl,_,hk,_,D3,g3⟩;have hk:=hk aK;have oE:=oE.cur0 aK g3;have K:=K.cur0 C.zg g3;have C:=C.next D3 g3;obtain⟨K0,rfl⟩:=Int.eq_ofNat_of_zero_le hk.1;have j8:K0<=7:=aK;clear D3 g3 hk;obtain⟨ei,hi,b6,b3,b4⟩:=info_parts NU;have HI:=aN (And.intro hi (And.intro b6 (And.intro b3 b4)));clear hi b6 b3 b4;go_wp2_with fail;go_loopw [4,5] (fun lv kv wr=>∃(j cnt q J:Nat),lv=aI (some ⟨q,0,none⟩) cnt J/\kv=aM (j:Int)/\j+cnt<=7/\jW 89 3 w2.heap.size wr (aI (some ⟨q,0,none⟩) cnt J) cnt/\Cur w wr g/\aU wr w 26 #[aJ,()]) (fun _ kv _=>(intOf kv).toNat)
  case atStart=>exact⟨K0,0,_,_,rfl,rfl,by omega,oE,C,K⟩
  case round=>
   obtain⟨j,cnt,q,J,rfl,rfl,hj,O,z,I⟩:=hrel;clear oE C K;have zg:=z.zg;by_cases k1:0<j
   ·have e9:(0:Int)<(j:Int):=aK;go_wp2_with fail;refine(cU wr g z.D (N:Int)).mono ?_;rintro e w5 ⟨x,rfl,_,hx,_,D5,g5⟩;have hx:=hx aK;have O:=O.cur0 aK g5;have I:=I.cur0 zg g5;have z:=z.next D5 g5;clear D5 g5;go_wp2_with fail;refine(cU w5 g z.D (N:Int)).mono ?_;rintro e w6 ⟨y,rfl,_,hy,_,D6,g6⟩;have hy:=hy aK;have O:=O.cur0 aK g6;have I:=I.cur0 zg g6;have z:=z.next D6 g6;clear D6 g6;go_wp2_with fail;refine(cU w6 g z.D 4).mono ?_;rintro e w7 ⟨u,rfl,_,hu,_,D7,g7⟩;have hu:=hu aK;have O:=O.cur0 aK g7;have I:=I.cur0 zg g7;have z:=z.next D7 g7;have z7:=z.size;have j7:w2.heap.size<=w7.heap.size:=by have:=(O.lt q rfl);omega
    have HO:=aN O;clear D7 g7 O;go_wp2_with (at_builtin;refine AS rfl _ _ _ rfl 89 underlying87 ei _ 3 24 HI.out.1 HI.out.2.1 HI.out.2.2.1 HI.out.2.2.2 rfl aY aY w2.heap.size (aI (some ⟨q,0,none⟩) cnt J) cnt rfl (HO.out.alloc _) w7.heap.size [x,y,u] rfl rfl (fun j v f0=>by match j,f0 with|0,h=>(cases h;exact bB _ _ _ _ _ rfl)|1,h=>(cases h;exact bB _ _ _ _ _ rfl)|2,h=>(cases h;exact bB _ _ _ _ _ rfl)) (fun v hv=>by simp only[List.mem_cons,List.not_mem_nil,or_false]at hv;rcases hv with rfl|rfl|rfl<;>omega) aK aV ?_;intro v8 w8 o8 g8);obtain⟨q8,c8,rfl⟩:∃q8 c8,v8=aI (some ⟨q8,0,none⟩) (cnt+1) c8:=by
     rcases o8.at with⟨_,_,h⟩|⟨q8,c8,h,_⟩
     ·omega
     ·exact⟨q8,c8,h⟩
    have R:∀b,(Value.slice (some ⟨q,0,none⟩) cnt J).ownBlock=some b->w2.heap.size<=b:=fun b hb=>(HO.out.lt b hb).1;have k4:=z.zg;have K8:=(I.alloc (.cells #[x,y,u] 89)).grow g8 (fun e=>by have:=R _ e;omega);have C8:=(z.alloc (.cells #[x,y,u] 89)).row g8 (fun b hb=>by have:=R b hb;omega);go_roundw
    case rel=>exact⟨j-1,cnt+1,q8,c8,rfl,by go_num,by omega,o8,C8,K8⟩
    case measure=>simp[intOf];omega
   ·have e9:¬(0:Int)<(j:Int):=aK
    obtain⟨hq,Z,b8,b7⟩:q<wr.heap.size/\∃Z:Nat->Int,NN wr q cnt 3 Z/\∀k,0<=Z k/\Z k<=63:=by
     rcases O.at with⟨_,h,_⟩|⟨q',c',h,h1,_,Z,h2,h3⟩
     ·cases h
     ·injection h with e1 e2 e3;injection e1 with e1;injection e1 with e1;subst e1;exact⟨h1,Z,h2,h3⟩
    have zK:=I.lt;have zC:=z.size;have b1:=YP wr N e7 q cnt J Z b8 hq b7 aK;have e4:=aN b1;clear b1 b8 b7 O;go_wp2_with fail;refine e4.out.mono ?_;rintro e w5 ⟨ad,i,c5,m5,L,b5,rfl,f3,oL,f2,bb⟩;have I:=I.keep bb;have z:=z.keep bb;obtain⟨Y,hY⟩:=aQ (w5.alloc (.cells #[m5,aI ad i c5] 26));have K:aU Y w 26 #[aJ,()]:=by rw[hY];exact I.alloc _
    have C:Cur w Y g:=by rw[hY];exact z.alloc _
    have o:aP 3 (w.heap.size+1) Y (aI ad i c5) L:=by rw[hY];exact(oL.mono aK).alloc _
    have KN:aU Y w5 26 #[m5,aI ad i c5]:=eJ hY;have G2:=KN.cell;clear I z oL;go_upto_region 10 with fail;rw[<-hY];clear hY;have G:=K.cell;have F:=K.frozen;go_wp2;refine bG ?_;intro Wf M;obtain⟨KF,CF,oF⟩:=gU C K o (Nat.lt_succ_self _) M;have GF:=KF.cell;clear M;exact bodyPost_ret (v:=.agg #[m5,aI ad i c5]) (by simp[results,results29,go_sem,GF]) rfl ⟨m5,ad,i,c5,L,rfl,f3,oF,f2,CF.D,CF.gr⟩
end Go.Proofs.YtcpoomdoodlkjaaGreatDoor
end
namespace Go.Proofs.YtcpoomdoodlkjaaGreatDoor
section
open Go.RowKit Go.G5 Go.Proofs.Tryz
theorem ZH(w:World)(g:Nat)(D:Dr w g):
  Calls prog 151 #[.pointer (some ⟨g,0,none⟩)] w fun e w'=>∃(n:Int) (ad:Option Addr) (i I:Nat) (l:List Int),e=.returned (.agg #[n,aI ad i I])/\dD n/\aP 3 w w' (aI ad i I) l/\l.length<=64/\Dr w' g/\w.grownBy w' (some g):=by
 go_enter func151,ntmps151;go_wp2_with fail;refine bH ?_;intro V hV;have K:aU V w 26 #[aJ,()]:=eJ hV;have C:Cur w V g:=by rw[hV];exact(Cur.start D).alloc _
 clear hV;refine(cU V g C.D 5).mono ?_;rintro e w1 ⟨n0,rfl,_,Y,_,D1,g1⟩;have Y:=Y aK;have K:=K.cur0 C.zg g1;have C:=C.next D1 g1;obtain⟨N,rfl⟩:=Int.eq_ofNat_of_zero_le Y.1;have e6:N<=4:=aK;clear D1 g1 Y;go_wp2_with fail;refine(cU w1 g C.D 6).mono ?_;rintro e w2 ⟨m,rfl,_,hm,_,D2,g2⟩;have hm:=hm aK;have K:=K.cur0 C.zg g2;have C:=C.next D2 g2;have zK:=K.lt;clear D2 g2;by_cases m0:m=0
 ·subst m0;go_wp2_with fail;refine(zA w2 g C.D).mono ?_;rintro e M ⟨n,ad,i,I,l,rfl,Y,o,hl,R,J⟩;have K:=K.cur0 C.zg J;have C:=C.next R J;have o:=o.mono (show w.heap.size+1<=w2.heap.size by omega);clear R J;have G:=K.cell;have F:=K.frozen;go_wp2;refine bG ?_;intro Wf z;obtain⟨KF,O,oF⟩:=gU C K o (Nat.lt_succ_self _) z;have Z:=KF.cell;clear z;exact bodyPost_ret (v:=.agg #[n,aI ad i I]) (by simp[results,results151,go_sem,Z]) rfl ⟨n,ad,i,I,l,rfl,Y,oF,by omega,O.D,O.gr⟩
 by_cases m1:m=1
 ·subst m1;go_wp2_with fail;refine(cU w2 g C.D ((N:Int)+1)).mono ?_;rintro e M ⟨t,rfl,_,ht,_,R,J⟩;have ht:=ht aK;have f2:=ht.1;have f3:=ht.2;have K:=K.cur0 C.zg J;have C:=C.next R J;have zK:=K.lt;clear R J ht;have c7:(2:Nat)^N<=32:=Nat.pow_le_pow_right (n:=2) aY (show N<=5 by omega);have S:((2^N:Nat):Int)=(2:Int)^N:=by simp
  have tp:=cO N 5 aK;have e7:(2:Int)^N<=32:=by rw[<-S];omega
  have e8:=tp.2;have f0:IntKind.i64.wrap ((2:Int)^N)=(2:Int)^N:=by rw[IntKind.wrap_i64];omega
  have a1:=aN S;have HK:=aN K;have HC:=aN C;have o0:=aP.lit0 (E:=3) (B:=M.heap.size) M aO;clear tp S K C;go_wp2_with fail;go_loopw [5,6] (fun v i wr=>∃(s:Nat) (ad:Option Addr) (nn I:Nat) (L:List Int),s<=2^N/\v=aI ad nn I/\i=aM (s:Int)/\L.length=s/\aP 3 M wr (aI ad nn I) L/\Below M M wr) (fun _ i _=>2^N-(intOf i).toNat)
  case atStart=>exact⟨0,_,_,_,[],Nat.zero_le _,rfl,rfl,rfl,o0,bF _ _⟩
  case round=>
   obtain⟨s,ad,nn,I,L,hs,rfl,rfl,a8,ho,Bw⟩:=hrel;clear o0;have HO:=aN ho;have b6:=aN a8;have d0:L.length<=32:=aK;have zB:=Bw.size;clear ho a8;by_cases hlt:s<2^N
   ·have a9:(s:Int)<(2:Int)^N:=by rw[<-a1.out];exact_mod_cast hlt
    have b0:=rR s aK;have b1:=eP s wr aK;have a6:=aN b1;clear b1;obtain⟨p,hp⟩:∃p,Hid (bR s=p):=⟨_,aN rfl⟩;rw[hp.out]at b0;go_wp2_with fail;refine a6.out.mono ?_;rintro e w5 ⟨rfl,rfl⟩;rw[hp.out];clear hp a6;go_wp2_with (at_builtin;refine dI rfl _ _ _ rfl 3 underlying24 aS M.heap.size _ L (min t (p:Int)) _ rfl rfl (bB _ _ _ _ _ rfl) (HO.out.alloc _) ⟨by omega,by omega⟩ aK aV ?_;intro v5 w5 o5 g5 h5;obtain⟨p5,i5,q5,rfl⟩:=o5.shape3);have B5:=(Bw.alloc zB (.cells #[aM (min t (p:Int))] 3)).grown g5 aV (fun q hq=>(HO.out.lt q hq).1);go_roundw
    case rel=>exact⟨s+1,p5,i5,q5,L++[min t (p:Int)],by omega,rfl,by go_num,by simp;exact b6.out,o5,B5⟩
    case measure=>simp[intOf];omega
   ·have a9:¬(s:Int)<(2:Int)^N:=by rw[<-a1.out];exact_mod_cast hlt
    have K:=HK.out.keep Bw;have C:=HC.out.keep Bw;have o:=HO.out.mono (show w.heap.size+1<=M.heap.size by omega);have G:=K.cell;have F:=K.frozen;go_wp2;refine bG ?_;intro Wf z;obtain⟨KF,O,oF⟩:=gU C K o (Nat.lt_succ_self _) z;have Z:=KF.cell;clear z;exact bodyPost_ret (v:=.agg #[(N:Int),aI ad nn I]) (by simp[results,results151,go_sem,Z]) rfl ⟨(N:Int),ad,nn,I,rfl,⟨by omega,by omega⟩,L,oF,by omega,O.D,O.gr⟩
 ·go_wp2_with fail;refine(FO w2 g C.D N aK).mono ?_;rintro e M ⟨ad,I,L,rfl,o,hL,_,R,J⟩;have K:=K.cur0 C.zg J;have C:=C.next R J;have o:=o.mono (show w.heap.size+1<=w2.heap.size by omega);have c7:(2:Nat)^N<=32:=Nat.pow_le_pow_right (n:=2) aY (show N<=5 by omega);clear R J;have G:=K.cell;have F:=K.frozen;go_wp2;refine bG ?_;intro Wf z;obtain⟨KF,O,oF⟩:=gU C K o (Nat.lt_succ_self _) z;have Z:=KF.cell;clear z;exact bodyPost_ret (v:=.agg #[(N:Int),aI ad (2^N) I]) (by simp[results,results151,go_sem,Z]) rfl ⟨(N:Int),ad,2^N,I,L,rfl,⟨by omega,by omega⟩,oF,by omega,O.D,O.gr⟩
theorem IS:(prog.info? 95).map (fun i=>(i.zero,i.size,i.bytes))=some (some (.agg #[aJ,aJ]),2,16):=aT
theorem SQ(g n c k:Nat)(hk:k<n)(W:World):(Instr.indexAt 93 (aI (some ⟨g,0,none⟩) n c) (aM (k:Int))).run prog W=.ok (.pointer (some ⟨g,2*k,none⟩)) W:=by
 have D:=underlying93;have z:prog.elem 93=95:=by simp[Program.elem,D]
 obtain⟨i,F,_,I,_⟩:=info_parts IS;rw[run_indexAt_slice W 93 ⟨g,0,none⟩ n c .i64 k (by rw[z];exact D),if_pos ⟨by omega,by omega⟩,z];simp[sizeOf,typeInfo,F,I,Addr.add];rcases Nat.eq_zero_or_pos k with rfl|h
 ·simp
 ·rw[if_neg aK,Nat.mul_comm k 2]
theorem RB(w:World)(N:Nat)(hN:N<=5)(g n c:Nat)(z:Nat->Int)(hz:NN w g n 2 z)(hg:g<w.heap.size)(hb:∀k,0<=z k/\z k<=63)(hn:n<=20):
  Calls prog 153 #[(N:Int),aI (some ⟨g,0,none⟩) n c] w fun e w'=>∃(ad:Option Addr) (i cp:Nat) (m:Int) (L:List Int) (b:Bool),e=.returned (.tuple #[.agg #[m,aI ad i cp],.bool b])/\dD m/\aP 3 w w' (aI ad i cp) L/\L.length<=64/\Below w w w':=by
 obtain⟨V,hV⟩:=aQ (w.alloc (.cells #[aJ,()] 26));have KV:aU V w 26 #[aJ,()]:=eJ hV;have BV:Below w w V:=fU hV;have f3:=hz.keep BV hg;have a8:=cQ (N:Int) 0 5 V;have d9:eZ (N:Int) 0 5=true:=dK.2 ⟨by omega,by omega⟩;rw[d9]at a8;have HB:=aN hb;have HZ:=aN f3;have g0:=aN a8;have l3:¬(20:Int)<(n:Int):=aK;have l6:(2:Nat)^N<=32:=Nat.pow_le_pow_right (n:=2) aY hN;have b3:((2^N:Nat):Int)=(2:Int)^N:=by simp
 have tp:=cO N 5 hN;have l4:(2:Int)^N<=32:=by rw[<-b3];omega
 have l5:=tp.2;have l9:IntKind.i64.wrap ((2:Int)^N)=(2:Int)^N:=by rw[IntKind.wrap_i64];omega
 have c8:=aN b3;clear tp b3 hz f3 a8 d9 hb;go_enter func153,ntmps153;go_wp2_with fail;refine bH ?_;intro V' d5;obtain rfl:V'=V:=by rw[d5,hV]
 clear hV d5;refine g0.out.mono ?_;rintro e w1 ⟨rfl,rfl⟩;go_wp2_with fail;go_loopw [6] (fun iv wr=>∃k:Nat,k<=n/\iv=aM (k:Int)/\Below V' V' wr) (fun iv _=>n-(intOf iv).toNat)
 case atStart=>exact⟨0,Nat.zero_le _,rfl,Below.refl _ _⟩
 case round=>
  obtain⟨k,hk,rfl,Y⟩:=hrel;obtain⟨K,h6⟩:∃K:World,K=wr:=⟨_,rfl⟩;subst h6;have zV:=KV.lt;by_cases a9:k<n
  ·have R:(k:Int)<(n:Int):=aK;have b6:=HZ.out.keep Y aK;have ik:=fun W=>SQ g n c k a9 W;have c0:=b6 (2*k) aK;have c1:=b6 (2*k+1) aK;obtain⟨p0,e8⟩:=aQ (z (2*k));obtain⟨r0,b4⟩:=aQ (z (2*k+1));rw[<-e8]at c0;rw[<-b4]at c1;have e0:∀y:Ext K,y.w.cell? ⟨g,2*k,none⟩=some (aM p0):=fun y=>y.cell c0;have e1:∀y:Ext K,y.w.cell? ⟨g,2*k+1,none⟩=some (aM r0):=fun y=>y.cell c1;clear e8 b4;have QF:=aN (fun W=>fE N W aK);obtain⟨b1,d6⟩:=xR (eZ p0 0 ((2:Int)^N-1));obtain⟨b2,d7⟩:=xR (eZ r0 0 20);have q1:=fun W=>cQ p0 0 ((2:Int)^N-1) W;have q2:=fun W=>cQ r0 0 20 W;rw[d6]at q1;rw[d7]at q2;have Q1:=aN q1;have Q2:=aN q2;have S:=KV.keep Y;have BW:=BV.after Y BV.size;clear q1 q2 d6 d7 b6 c0 c1;go_wp2_with fail
   cases b1 with
   |false=>
    refine bN _ aT aT ?_
    repeat(first|go_big_quiet_skip|(go_big_quiet_want;go_big_quiet_op;first|go_big_quiet_on|(apply Exists.intro;refine⟨fun _=>?_,?_⟩;(first|(go_at_call 187;exact cR (QF.out _))|(go_at_call 174;first|(with_reducible exact cR (Q1.out _))|(with_reducible exact cR (Q2.out _))));go_big_quiet_on)))
    refine wpQuiet_nil ?_;rintro I ⟨⟨I,J⟩,rfl⟩
    try dsimp only
    have G5:=(S.keep J).cell;have F5:=(S.keep J).frozen;go_wp2;refine bG ?_;intro Wf M;have K5:=S.keep J;have Z:=BW.after J BW.size;have t:=lX (w:=w) (E:=26) (m:=0) (b:=aI none 0 0) K5 (aP.nil 3 (I.heap.size) I) aO K5.lt Z M;have GF:=t.1.cell;exact bodyPost_ret (v:=.tuple #[.agg #[aJ,()],.bool false]) (by simp[results,results153,go_sem,GF]) rfl ⟨none,0,0,0,[],false,rfl,⟨by omega,by omega⟩,t.2.1,by simp,t.2.2⟩
   |true=>
    cases b2 with
    |false=>
     refine bN _ aT aT ?_
     repeat(first|go_big_quiet_skip|(go_big_quiet_want;go_big_quiet_op;first|go_big_quiet_on|(apply Exists.intro;refine⟨fun _=>?_,?_⟩;(first|(go_at_call 187;exact cR (QF.out _))|(go_at_call 174;first|(with_reducible exact cR (Q1.out _))|(with_reducible exact cR (Q2.out _))));go_big_quiet_on)))
     refine wpQuiet_nil ?_;rintro I ⟨⟨I,J⟩,rfl⟩
     try dsimp only
     have G5:=(S.keep J).cell;have F5:=(S.keep J).frozen;go_wp2;refine bG ?_;intro Wf M;have K5:=S.keep J;have Z:=BW.after J BW.size;have t:=lX (w:=w) (E:=26) (m:=0) (b:=aI none 0 0) K5 (aP.nil 3 (I.heap.size) I) aO K5.lt Z M;have GF:=t.1.cell;exact bodyPost_ret (v:=.tuple #[.agg #[aJ,()],.bool false]) (by simp[results,results153,go_sem,GF]) rfl ⟨none,0,0,0,[],false,rfl,⟨by omega,by omega⟩,t.2.1,by simp,t.2.2⟩
    |true=>
     refine bN _ aT aT ?_
     repeat(first|go_big_quiet_skip|(go_big_quiet_want;go_big_quiet_op;first|go_big_quiet_on|(apply Exists.intro;refine⟨fun _=>?_,?_⟩;(first|(go_at_call 187;exact cR (QF.out _))|(go_at_call 174;first|(with_reducible exact cR (Q1.out _))|(with_reducible exact cR (Q2.out _))));go_big_quiet_on)))
     refine wpQuiet_nil ?_;rintro I ⟨⟨I,J⟩,rfl⟩
     try dsimp only
     go_wp2;go_roundw
     case rel=>exact⟨k+1,by omega,by go_num,Y.after J Y.size⟩
     case measure=>simp[intOf];omega
  ·have R:¬(k:Int)<(n:Int):=aK;have S:=KV.keep Y;have c7:=aN (BV.after Y BV.size);have f4:=HZ.out.keep Y aK;have g1:=aN f4;have HK:=aN S;have i8:=S.lt;have j0:g<K.heap.size:=by have:=Y.size;omega
   have o0:=aP.lit0 (E:=3) (B:=K.heap.size) K aO;clear S f4;go_wp2_with fail;go_loopw [7,8] (fun v i wr=>∃(s:Nat) (ad:Option Addr) (nn cp:Nat) (L:List Int),s<=2^N/\v=aI ad nn cp/\i=aM (s:Int)/\L.length=s/\(∀x∈L,0<=x/\x<=1300)/\aP 3 K wr (aI ad nn cp) L/\Below K K wr) (fun _ i _=>2^N-(intOf i).toNat)
   case atStart=>exact⟨0,_,_,_,[],Nat.zero_le _,rfl,rfl,rfl,by simp,o0,bF _ _⟩
   case round=>
    obtain⟨s,ad,nn,cp,L,hs,rfl,rfl,d0,hL,ho,Bw⟩:=hrel;clear o0;obtain⟨WC,h0⟩:∃WC:World,WC=wr:=⟨_,rfl⟩;subst h0;have f2:=g1.out.keep Bw j0;have c9:=aN f2;have HL:=aN (And.intro d0 hL);have HO:=aN ho;have j6:L.length<=32:=aK;clear d0 hL ho f2;by_cases hlt:s<2^N
    ·have e5:(s:Int)<(2:Int)^N:=by rw[<-c8.out];exact_mod_cast hlt
     go_wp2_with fail;go_loop [9,10] (fun x i=>∃(k:Nat) (X:Int),k<=n/\i=aM (k:Int)/\x=aM X/\0<=X/\X<=63*k) (fun _ i=>n-(intOf i).toNat)
     case atStart=>exact⟨0,0,Nat.zero_le _,rfl,rfl,by omega,by omega⟩
     case round=>
      obtain⟨k,X,hk,rfl,rfl,h7,l0⟩:=hrel;by_cases a9:k<n
      ·have R:(k:Int)<(n:Int):=aK;have ik:=fun W=>SQ g n c k a9 W;have c0:=c9.out (2*k) aK;have c1:=c9.out (2*k+1) aK;have hr:=HB.out (2*k+1);obtain⟨p,hp⟩:=aQ (z (2*k));obtain⟨r,e9⟩:=aQ (z (2*k+1));rw[<-hp]at c0;rw[<-e9]at c1 hr;have b4:=hr.1;have l8:=hr.2;clear hp hr e9;obtain⟨t,ht⟩:∃t,(bits .and .i64 (s:Int) p != 0)=t:=⟨_,rfl⟩
       cases t with
       |false=>
        go_wp2;go_round
        case rel=>exact⟨k+1,X,by omega,by go_num,rfl,h7,by omega⟩
        case measure=>simp[intOf];omega
       |true=>
        go_wp2;go_round
        case rel=>exact⟨k+1,X+r,by omega,by go_num,rfl,by omega,by omega⟩
        case measure=>simp[intOf];omega
      ·have R:¬(k:Int)<(n:Int):=aK;have l1:X<=1300:=aK;have zW:=Bw.size;go_wp2_with (at_builtin;refine dI rfl _ _ _ rfl 3 underlying24 aS K.heap.size _ L X _ rfl rfl (bB _ _ _ _ _ rfl) (HO.out.alloc _) ⟨by omega,by omega⟩ aK aV ?_;intro v5 I o5 g5 h5;obtain⟨p5,i5,q5,rfl⟩:=o5.shape3);have Z:=(Bw.alloc zW (.cells #[X] 3)).grown g5 aV (fun q hq=>(HO.out.lt q hq).1);go_roundw
       case rel=>
        refine⟨s+1,p5,i5,q5,L++[X],by omega,rfl,by go_num,by simp;exact HL.out.1,fun z hz=>?_,o5,Z⟩;rcases List.mem_append.1 hz with hz|hz
        ·exact HL.out.2 z hz
        ·rw[List.mem_singleton.1 hz];omega
       case measure=>simp[intOf];omega
    ·have e5:¬(s:Int)<(2:Int)^N:=by rw[<-c8.out];exact_mod_cast hlt
     obtain⟨O,d8⟩:=xR (bM (N:Int) L);have e7:=fun W hv=>wY W (N:Int) ad nn cp L hv O d8;have zC:=Bw.size;clear d8;go_wp2_with fail;refine(e7 WC HO.out.ints).mono ?_;rintro e I ⟨D,i',F,rfl,f0,J⟩;have Z:=Bw.after J Bw.size;have B6:Below w w I:=c7.out.after Z c7.out.size;have K5:=(HK.out.keep Z);have o6:aP 3 K I (aI D i' F) (if O then L else []):=by
      rw[f0]
      cases O
      ·exact aP.nil _ _ _
      ·exact HO.out.keep J
     have b0:dD (if O then (N:Int) else 0):=by cases O<;>exact⟨by simp;try omega,by simp;try omega⟩
     have e4:(if O then L else []).length<=64:=by cases O<;>simp;omega
     obtain⟨m6,e6⟩:=aQ ((if O then (N:Int) else 0));rw[<-e6]at b0 ⊢;have H6:=aN (And.intro b0 e4);clear f0 e6 e7 b0 e4;obtain⟨U,hU⟩:=aQ (I.alloc (.cells #[m6,aI D i' F] 26));have KU:aU U w 26 #[aJ,()]:=by rw[hU];exact K5.alloc _
     have oU:aP 3 K U (aI D i' F) (if O then L else []):=by rw[hU];exact o6.alloc _
     have BU:Below w w U:=by rw[hU];exact B6.alloc B6.size _
     have KN:aU U I 26 #[m6,aI D i' F]:=eJ hU;have G1:=KU.cell;have F1:=KU.frozen;have G2:=KN.cell;go_upto_region 20 with fail;rw[<-hU];clear hU;go_wp2;refine bG ?_;intro Wf M;have t:=lX (w:=w) (E:=26) (m:=m6) (b:=aI D i' F) KU oU aO i8 BU M;have GF:=t.1.cell;exact bodyPost_ret (v:=.tuple #[.agg #[m6,aI D i' F],.bool O]) (by simp[results,results153,go_sem,GF]) rfl ⟨D,i',F,m6,_,O,rfl,H6.out.1,t.2.1,H6.out.2,t.2.2⟩
def RQ(n:Int)(l:List Int)(m:Int)(k:List Int):Bool:=bM n l&&(bM m k&&n==m)
theorem abP(w:World)(n:Int)(v:Value)(l:List Int)(hv:aR w v l)(m:Int)(u:Value)(k:List Int)(hu:aR w u k):
  Calls prog 257 #[.agg #[n,v],.agg #[m,u]] w fun e w'=>e=.returned (.bool (RQ n l m k))/\Below w w w':=by
 obtain⟨a,c,rfl⟩:=hv.shape;obtain⟨b,d,rfl⟩:=hu.shape;obtain⟨V,M⟩:=aQ ((w.alloc (.cells #[n,aI a l.length c] 26)).alloc (.cells #[m,aI b k.length d] 26));have B:Below w w V:=gD M;have K:aU V w 26 #[n,aI a l.length c]:=gO M;have J:aU V (w.heap.size+1) 26 #[m,aI b k.length d]:=gY M;have F:=dJ n l _ V (hv.below B aO);have Z:=hu.below B aO;have z:RQ n l m k=(bM n l&&(bM m k&&n==m)):=rfl;obtain⟨f1,e1⟩:=xR (bM n l);obtain⟨f2,e2⟩:=xR (bM m k);have I:=fun W h=>dJ m k (aI b k.length d) W h;rw[e1]at F z;rw[e2]at z;simp only[e2]at I;have S:=aN F;have Y:=aN I;have D:=aN z;clear F I z e1 e2;go_enter func257,ntmps257;go_wp2_with fail;refine bH ?_;intro V' N;obtain rfl:V'=V:=by rw[N,M]
 clear M N;refine S.out.mono ?_;rintro e w1 ⟨rfl,O⟩;have K:=K.keep O;have J:=J.keep O;have R:=B.after O B.size
 cases f1 with
 |false=>go_wp2;go_ret;exact⟨aZ D.out.symm,R⟩
 |true=>
  have G2:=J.cell;go_wp2_with fail;clear G2;refine(Y.out w1 (Z.keep O)).mono ?_;rintro e w2 ⟨rfl,b2⟩;have K:=K.keep b2;have J:=J.keep b2;have B2:=R.after b2 R.size;have z:=D.out
  cases f2 with
  |false=>go_wp2;go_ret;exact⟨aZ D.out.symm,B2⟩
  |true=>have G1:=K.cell;have G2:=J.cell;go_wp2;go_ret;exact⟨aZ (by rw[D.out];rfl),B2⟩
theorem SX(w:World)(N:Nat)(hN:N<=5)(n m:Int)(v u:Value)(l k:List Int)(hv:aR w v l)(hu:aR w u k)(hl:l.length=2^N)(a9:k.length=2^N)(b1:∀i,(hi:i<l.length)->-1000<=l[i]/\l[i]<=1000)(a8:∀i,(hi:i<k.length)->-1000<=k[i]/\k[i]<=1000)(s:Nat)(hs:s<2^N):
  Calls prog 208 #[.agg #[n,v],.agg #[m,u],(s:Int)] w fun e w'=>∃p:Nat,p<=s/\e=.returned (p:Int)/\Below w w w':=by
 have c6:(2:Nat)^N<=32:=Nat.pow_le_pow_right (n:=2) aY hN;obtain⟨a,bb,g7,c,rfl,d9,a7,hc,hb⟩:=hv.view prog 24 3 underlying24 aS;obtain⟨a',f4,e8,c',rfl,c5,D,Z,Y⟩:=hu.view prog 24 3 underlying24 aS;obtain⟨V,S⟩:=aQ ((w.alloc (.cells #[n,aI a l.length c] 26)).alloc (.cells #[m,aI a' k.length c'] 26));have B:Below w w V:=gD S;have K1:aU V w 26 #[n,aI a l.length c]:=gO S;have K2:aU V (w.heap.size+1) 26 #[m,aI a' k.length c']:=gY S;have a1:=aW hc hb B aO;have a6:=aW Z Y B aO;have G1:=K1.cell;have G2:=K2.cell;have HB:=aN (And.intro b1 a8);have I:=aN a1;have J:=aN a6;have K:=aN a7;have M:=aN D;have z:=aN (And.intro hl a9);have e5:s<32:=aK;have b4:=hs;have HS:=aN b4;clear hc Z a1 a6 a7 D a9 b1 a8 hl hb Y c6 hs b4;go_enter func208,ntmps208;go_wp2_with fail;rw[<-S];clear S;go_loopw [7,8] (fun b9 i wr=>∃(t p:Nat),1<=t/\t<=s+1/\p<=s/\i=aM (t:Int)/\b9=aM (p:Int)/\∃q,wr=V.drewN q) (fun _ i _=>s+1-(intOf i).toNat)
 case atStart=>exact⟨1,0,aO,by omega,Nat.zero_le _,rfl,rfl,0,rfl⟩
 case round=>
  obtain⟨t,p,g0,ht,c7,rfl,rfl,q,rfl⟩:=hrel;by_cases hlt:t<s+1
  ·have b3:(t:Int)<=(s:Int):=aK;have c8:=HS.out;have ck:=I.out t (by rw[z.out.1];omega);have ik:=fun W=>K.out W t (by rw[z.out.1];omega);have dk:=J.out (s-t) (by rw[z.out.2];omega);have jk:=fun W=>M.out W (s-t) (by rw[z.out.2];omega);have lb:=HB.out.1 t (by rw[z.out.1];omega);have kb:=HB.out.2 (s-t) (by rw[z.out.2];omega);have cp:=I.out p (by rw[z.out.1];omega);have ip:=fun W=>K.out W p (by rw[z.out.1];omega);have dp:=J.out (s-p) (by rw[z.out.2];omega);have jp:=fun W=>M.out W (s-p) (by rw[z.out.2];omega);have d0:=HB.out.1 p (by rw[z.out.1];omega);have c9:=HB.out.2 (s-p) (by rw[z.out.2];omega);obtain⟨x,hx⟩:∃x,x=l[t]'(by rw[z.out.1];omega):=⟨_,rfl⟩;obtain⟨y,hy⟩:∃y,y=k[s-t]'(by rw[z.out.2];omega):=⟨_,rfl⟩;obtain⟨xp,b6⟩:∃x,x=l[p]'(by rw[z.out.1];omega):=⟨_,rfl⟩;obtain⟨yp,b7⟩:∃y,y=k[s-p]'(by rw[z.out.2];omega):=⟨_,rfl⟩;rw[<-hx]at ck lb;rw[<-hy]at dk kb;rw[<-b6]at cp d0;rw[<-b7]at dp c9;have b5:(s:Int)-(t:Int)=((s-t:Nat):Int):=aK;have F:(s:Int)-(p:Int)=((s-p:Nat):Int):=aK;obtain⟨Ft,R⟩:=aQ (s-t);obtain⟨Fp,O⟩:=aQ (s-p);simp only[<-R]at dk jk b5;simp only[<-O]at dp jp F;obtain⟨b0,f8⟩:∃b,(bits .and .i64 (t:Int) (s:Int)==(t:Int))=b:=⟨_,rfl⟩;clear hx hy b6 b7 R O c8
   cases b0 with
   |false=>
    go_wp2_with fail;go_quiet (fail);go_wp2;go_roundw
    case rel=>exact⟨t+1,p,by omega,by omega,by omega,by go_num,rfl,_,by first|rfl|simp⟩
    case measure=>simp[intOf];omega
   |true=>
    by_cases e0:x+y<xp+yp
    ·go_wp2_with fail;go_quiet (fail);go_wp2;go_roundw
     case rel=>exact⟨t+1,t,by omega,by omega,by omega,by go_num,rfl,_,by first|rfl|simp⟩
     case measure=>simp[intOf];omega
    ·go_wp2_with fail;go_quiet (fail);go_wp2;go_roundw
     case rel=>exact⟨t+1,p,by omega,by omega,by omega,by go_num,rfl,_,by first|rfl|simp⟩
     case measure=>simp[intOf];omega
  ·have b3:¬(t:Int)<=(s:Int):=aK;go_wp2;go_ret;exact⟨p,c7,rfl,B.drewN' _⟩
theorem aa2{n:Int}{l:List Int}{m:Int}{k:List Int}(h:RQ n l m k=true):∃N:Nat,n=(N:Int)/\m=(N:Int)/\N<=5/\l.length=2^N/\k.length=2^N/\(∀i,(J:i<l.length)->-1000<=l[i]/\l[i]<=1000)/\(∀i,(J:i<k.length)->-1000<=k[i]/\k[i]<=1000):=by
 unfold RQ at h;simp only[Bool.and_eq_true,beq_iff_eq]at h;obtain⟨h1,h2,h3⟩:=h;obtain⟨N,rfl,F,hl,_,D⟩:=cX h1;obtain⟨M,I,_,hk,_,z⟩:=cX h2;have:N=M:=aK;subst this;exact⟨N,rfl,I,F,hl,hk,D,z⟩
theorem U0(w:World)(n:Int)(v:Value)(l:List Int)(hv:aR w v l)(m:Int)(u:Value)(k:List Int)(hu:aR w u k):
  Calls prog 155 #[.agg #[n,v],.agg #[m,u]] w fun e w'=>∃(ad:Option Addr) (i cp:Nat) (q:Int) (L:List Int) (b:Bool),e=.returned (.tuple #[.agg #[q,aI ad i cp],.bool b])/\dD q/\aP 3 w w' (aI ad i cp) L/\L.length<=64/\Below w w w':=by
 have c7:=hv;have c6:=hu;obtain⟨a,bb,k3,c,rfl,l4,f4,hc,hb⟩:=hv.view prog 24 3 underlying24 aS;obtain⟨a',j4,g7,c',rfl,j8,b0,f0,e9⟩:=hu.view prog 24 3 underlying24 aS;obtain⟨V,hV⟩:=aQ (((w.alloc (.cells #[n,aI a l.length c] 26)).alloc (.cells #[m,aI a' k.length c'] 26)).alloc (.cells #[aJ,()] 26));have BV:Below w w V:=by rw[hV];exact(wM _ _ _).alloc (by simp) _
 have J:aU V w 26 #[n,aI a l.length c]:=by rw[hV];exact((aU.new _ _ _).alloc _).alloc _
 have K:aU V (w.heap.size+1) 26 #[m,aI a' k.length c']:=by rw[hV];have:=(aU.new (w.alloc (.cells #[n,aI a l.length c] 26)) 26 #[m,aI a' k.length c']).alloc (.cells #[aJ,()] 26);simpa using this
 have O:aU V (w.heap.size+2) 26 #[aJ,()]:=by rw[hV];have:=aU.new ((w.alloc (.cells #[n,aI a l.length c] 26)).alloc (.cells #[m,aI a' k.length c'] 26)) 26 #[aJ,()];simpa using this
 have Y:=abP V n _ l (c7.below BV aO) m _ k (c6.below BV aO);have b9:=fun h=>aa2 (n:=n) (l:=l) (m:=m) (k:=k) h;obtain⟨ft,f2⟩:=xR (RQ n l m k);rw[f2]at Y b9;have HF:=aN Y;have HT:=aN b9;have HC:=aN (And.intro hc hb);have d6:=aN (And.intro f0 e9);have HI:=aN (And.intro f4 b0);have HV:=aN (And.intro c7 c6);clear Y b9 f2 hc hb f0 e9 f4 b0 c7 c6;have G1:=J.cell;have G2:=K.cell;go_enter func155,ntmps155;go_wp2_with fail;refine bH ?_;intro V' e8;obtain rfl:V'=V:=by rw[e8,hV]
 clear hV e8 G1 G2;refine HF.out.mono ?_;rintro e w1 ⟨rfl,b1⟩;have J:=J.keep b1;have K:=K.keep b1;have O:=O.keep b1;have B1:=BV.after b1 BV.size;have z3:=O.lt
 cases ft with
 |false=>have G:=O.cell;have F:=O.frozen;go_wp2;refine bG ?_;intro Wf b8;have t:=lX (w:=w) (E:=26) (m:=0) (b:=aI none 0 0) O (aP.nil 3 (w1.heap.size) w1) aK O.lt B1 b8;have GF:=t.1.cell;exact bodyPost_ret (v:=.tuple #[.agg #[aJ,()],.bool false]) (by simp[results,results155,go_sem,GF]) rfl ⟨none,0,0,0,[],false,rfl,⟨by omega,by omega⟩,t.2.1,by simp,t.2.2⟩
 |true=>
  obtain⟨N,rfl,rfl,e7,hl,hk,f8,f5⟩:=HT.out rfl;have j9:(2:Nat)^N<=32:=Nat.pow_le_pow_right (n:=2) aY e7;have a6:=aN (And.intro f8 f5);have HL:=aN (And.intro hl hk);have j7:(l.length:Int)=((2^N:Nat):Int):=by rw[hl]
  obtain⟨M,hM⟩:=aQ (2^N);have f7:l.length=M:=by rw[hl,hM]
  have l2:M<=32:=aK;have R:=aN hM;have I:=aN f7;clear f8 f5 hl hk hM j9 j7 f7;have HK:=aN (And.intro J (And.intro K O));have o0:=aP.lit0 (E:=3) (B:=w1.heap.size) w1 aO;have k0:w.heap.size+2<w1.heap.size:=z3;clear J K O;go_wp2_with fail;go_loopw [6,7] (fun v i wr=>∃(s:Nat) (ad:Option Addr) (nn cp:Nat) (L:List Int),s<=M/\v=aI ad nn cp/\i=aM (s:Int)/\L.length=s/\aP 3 w1 wr (aI ad nn cp) L/\Below w1 w1 wr) (fun _ i _=>M-(intOf i).toNat)
  case atStart=>exact⟨0,_,_,_,[],Nat.zero_le _,rfl,rfl,rfl,o0,bF _ _⟩
  case round=>
   obtain⟨s,ad,nn,cp,L,hs,rfl,rfl,e6,ho,Bw⟩:=hrel;clear o0;have HO:=aN ho;have j0:=aN e6;have l1:L.length<=32:=aK;have zB:=Bw.size;have J:=HK.out.1.keep Bw;have K:=HK.out.2.1.keep Bw;have O:=HK.out.2.2.keep Bw;have Bx:=B1.after Bw B1.size;clear ho e6;have G1:=J.cell;by_cases hlt:s<M
   ·have f9:(s:Int)<(l.length:Int):=by have:=I.out;omega
    have g2:=SX wr N e7 (N:Int) (N:Int) _ _ l k (HV.out.1.below Bx aO) (HV.out.2.below Bx aO) HL.out.1 HL.out.2 a6.out.1 a6.out.2 s (by rw[<-R.out];exact hlt);have j2:=aN g2;have G2:=K.cell;clear g2;go_wp2_with fail;refine j2.out.mono ?_;rintro e w5 ⟨p,hp,rfl,Z⟩;have B5:=Bx.after Z Bx.size;have J:=J.keep Z;have K:=K.keep Z;have b7:=aW HC.out.1 HC.out.2 B5 aO p (by have:=I.out;omega);have a7:=aW d6.out.1 d6.out.2 B5 aO (s-p) (by rw[HL.out.2,<-R.out];omega);have o4:=fun W=>HI.out.1 W p (by have:=I.out;omega);have k2:=fun W=>HI.out.2 W (s-p) (by rw[HL.out.2,<-R.out];omega);have lb:=a6.out.1 p (by have:=I.out;omega);have kb:=a6.out.2 (s-p) (by rw[HL.out.2,<-R.out];omega);obtain⟨x,hx⟩:∃x,x=l[p]'(by have:=I.out;omega):=⟨_,rfl⟩;obtain⟨y,hy⟩:∃y,y=k[s-p]'(by rw[HL.out.2,<-R.out];omega):=⟨_,rfl⟩;rw[<-hx]at b7 lb;rw[<-hy]at a7 kb;clear hx hy;have b4:(s:Int)-(p:Int)=((s-p:Nat):Int):=aK;have e5:s-p<=32:=aK;have g4:IntKind.i64.wrap ((s-p:Nat):Int)=((s-p:Nat):Int):=by rw[IntKind.wrap_i64];omega
    obtain⟨Ft,a8⟩:=aQ (s-p);rw[<-a8]at e5 a7;have k1:IntKind.i64.wrap ((s-p:Nat):Int)=(Ft:Int):=by rw[g4,a8]
    have o3:IntKind.i64.wrap ((s:Int)-(p:Int))=(Ft:Int):=by rw[b4,k1]
    clear g4 b4;simp only[<-a8]at k2;have d1:w5.drew.cell? ⟨bb,k3+p,none⟩=some (aM x):=b7;have d2:w5.drew.cell? ⟨j4,g7+Ft,none⟩=some (aM y):=a7;have o9:=lb.1;have p0:=lb.2;have o7:=kb.1;have o8:=kb.2;have o5:=HO.out.keep Z;have d7:=aN o5;have d8:aU w5.drew w.heap.size 26 #[(N:Int),aI a l.length c]:=J;have d9:aU w5.drew (w.heap.size+1) 26 #[(N:Int),aI a' k.length c']:=K;have m3:=d8.cell;have m4:=d9.cell;have z5:=Z.size;clear lb kb a8 G1 G2 b7 a7 o5 J K d8 d9;go_wp2;have hZ:dD (IntKind.i64.wrap (x+y)):=by rw[IntKind.wrap_i64];exact⟨by omega,by omega⟩
    have HZ:=aN hZ;clear hZ;go_region_law
     (refine rU rfl _ _ _ rfl 3 underlying24 aS w1.heap.size (aI ad nn cp) L (IntKind.i64.wrap (x+y)) w5.heap.size rfl rfl (bB w5 #[(IntKind.i64.wrap (x+y))] 3 0 _ rfl) ((d7.out.alloc (.cells #[(IntKind.i64.wrap (x+y))] 3)).keep (Below.refl _ _).drew) HZ.out aK aV ?_;intro v' w6 b3 j6;obtain⟨av,nv,cv,rfl⟩:=b3.shape3)
    all_goals
     have B7:=Bw.after Z Bw.size;have B6:Below w1 w1 w6:=(B7.alloc B7.size (.cells #[(IntKind.i64.wrap (x+y))] 3)).drew.grown j6 aV (fun q hq=>(d7.out.lt q hq).1);go_wp2;go_roundw
     case rel=>exact⟨s+1,av,nv,cv,L++[IntKind.i64.wrap (x+y)],by omega,rfl,by go_num,by simp;exact j0.out,b3,B6⟩
     case measure=>simp[intOf];omega
   ·have f9:¬(s:Int)<(l.length:Int):=by have:=I.out;omega
    obtain⟨S,f3⟩:=xR (bM (N:Int) L);have g1:=fun W hv=>wY W (N:Int) ad nn cp L hv S f3;clear f3;go_wp2_with fail;refine(g1 wr HO.out.ints).mono ?_;rintro e w5 ⟨z,i',D,rfl,g3,Z⟩;have B6:=Bx.after Z Bx.size;have K5:=O.keep Z;have o6:aP 3 w1 w5 (aI z i' D) (if S then L else []):=by
     rw[g3]
     cases S
     ·exact aP.nil _ _ _
     ·exact HO.out.keep Z
    have c5:dD (if S then (N:Int) else 0):=by cases S<;>exact⟨by simp;try omega,by simp;try omega⟩
    have f6:(if S then L else []).length<=64:=by cases S<;>simp;omega
    obtain⟨m6,g0⟩:=aQ ((if S then (N:Int) else 0));rw[<-g0]at c5 ⊢;have H6:=aN (And.intro c5 f6);clear g3 g0 g1 c5 f6;obtain⟨U,hU⟩:=aQ (w5.alloc (.cells #[m6,aI z i' D] 26));have KU:aU U (w.heap.size+2) 26 #[aJ,()]:=by rw[hU];exact K5.alloc _
    have oU:aP 3 w1 U (aI z i' D) (if S then L else []):=by rw[hU];exact o6.alloc _
    have BU:Below w w U:=by rw[hU];exact B6.alloc B6.size _
    have KN:aU U w5 26 #[m6,aI z i' D]:=eJ hU;have G3:=KU.cell;have F3:=KU.frozen;have G4:=KN.cell;clear G1 J K O K5;go_upto_region 10 with fail;rw[<-hU];clear hU;go_wp2;refine bG ?_;intro Wf b8;have t:=lX (w:=w) (E:=26) (m:=m6) (b:=aI z i' D) KU oU aK k0 BU b8;have GF:=t.1.cell;exact bodyPost_ret (v:=.tuple #[.agg #[m6,aI z i' D],.bool S]) (by simp[results,results155,go_sem,GF]) rfl ⟨z,i',D,m6,_,S,rfl,H6.out.1,t.2.1,H6.out.2,t.2.2⟩
theorem DR(w:World)(v:Value)(G:List Int)(hv:aR w v G)(hG:G.length<=4)(c8:∀x∈G,0<=x/\x<=1)(u:Value)(M:List Int)(hu:aR w u M)(hM:M.length=2)(d0:∀x∈M,0<=x/\x<=2):
  Calls prog 152 #[v,u] w fun e w'=>∃(ad:Option Addr) (i cp:Nat) (m:Int) (L:List Int) (b:Bool),e=.returned (.tuple #[.agg #[m,aI ad i cp],.bool b])/\dD m/\aP 3 w w' (aI ad i cp) L/\L.length<=64/\Below w w w':=by
 obtain⟨a,bb,o7,c,rfl,j9,d9,hc,hb⟩:=hv.view prog 24 3 underlying24 aS;obtain⟨a',l1,k4,c',rfl,i1,Y,b0,a9⟩:=hu.view prog 24 3 underlying24 aS;obtain⟨J,hV⟩:=aQ (w.alloc (.cells #[aJ,()] 26));have KV:aU J w 26 #[aJ,()]:=eJ hV;have BV:Below w w J:=fU hV;have d6:=aW hc hb BV aO;have d7:=aW b0 a9 BV aO;have l6:¬(5:Int)<(M.length:Int):=aK;have l5:¬(5:Int)<(G.length:Int):=aK;have a6:=aN (And.intro c8 d0);have a7:=aN hM;have g6:=aN d6;have g7:=aN d7;have S:=aN (And.intro (And.intro hc hb) (And.intro b0 a9));have HI:=aN (And.intro d9 Y);have i8:=KV.lt;clear c8 d0 hM d6 d7 hc hb b0 a9 d9 Y;go_enter func152,ntmps152;go_wp2_with fail;rw[<-hV];clear hV;go_loop [6] (fun iv=>∃k:Nat,k<=G.length/\iv=aM (k:Int)) (fun iv=>G.length-(intOf iv).toNat)
 case atStart=>exact⟨0,Nat.zero_le _,rfl⟩
 case round=>
  obtain⟨k,hk,rfl⟩:=hrel;by_cases hlt:k<G.length
  ·have e5:(k:Int)<(G.length:Int):=aK;have ck:=g6.out k hlt;have ik:=fun W=>HI.out.1 W k hlt;have hx:=a6.out.1 _ (List.getElem_mem hlt);obtain⟨x,D⟩:=aQ (G[k]);rw[<-D]at ck hx;have O:=cQ x 0 ((M.length:Int)-1) J;rw[dK.2 ⟨hx.1,by have:=a7.out;omega⟩]at O;have HQ:=aN O;clear D hx O;go_wp2_with fail;refine HQ.out.mono ?_;rintro e w1 ⟨rfl,rfl⟩;go_wp2;go_round
   case rel=>exact⟨k+1,by omega,by go_num⟩
   case measure=>simp[intOf];omega
  ·have e5:¬(k:Int)<(G.length:Int):=aK;go_wp2_with fail;go_loop [7] (fun iv=>∃k:Nat,k<=M.length/\iv=aM (k:Int)) (fun iv=>M.length-(intOf iv).toNat)
   case atStart=>exact⟨0,Nat.zero_le _,rfl⟩
   case round=>
    obtain⟨k2,m3,rfl⟩:=hrel;by_cases N:k2<M.length
    ·have e6:(k2:Int)<(M.length:Int):=aK;have ck:=g7.out k2 N;have ik:=fun W=>HI.out.2 W k2 N;have hx:=a6.out.2 _ (List.getElem_mem N);obtain⟨x,D⟩:=aQ (M[k2]);rw[<-D]at ck hx;have O:=cQ x 0 5 J;rw[dK.2 ⟨hx.1,by omega⟩]at O;have HQ:=aN O;clear D hx O;go_wp2_with fail;refine HQ.out.mono ?_;rintro e w1 ⟨rfl,rfl⟩;go_wp2;go_round
     case rel=>exact⟨k2+1,by omega,by go_num⟩
     case measure=>simp[intOf];omega
    ·have e6:¬(k2:Int)<(M.length:Int):=aK;have m7:(2:Nat)^G.length<=32:=Nat.pow_le_pow_right (n:=2) aY (show G.length<=5 by omega);have b4:((2^G.length:Nat):Int)=(2:Int)^G.length:=by simp
     have tp:=cO G.length 5 aK;have m4:(2:Int)^G.length<=32:=by rw[<-b4];omega
     have m5:=tp.2;have m9:IntKind.i64.wrap ((2:Int)^G.length)=(2:Int)^G.length:=by rw[IntKind.wrap_i64];omega
     have c7:=aN b4;have HK:=aN KV;have R:=aN BV;have o0:=aP.lit0 (E:=3) (B:=J.heap.size) J aO;clear tp b4 KV BV;go_wp2_with fail;go_loopw [8,9] (fun v i wr=>∃(s:Nat) (ad:Option Addr) (nn cp:Nat) (L:List Int),s<=2^G.length/\v=aI ad nn cp/\i=aM (s:Int)/\L.length=s/\(∀x∈L,0<=x/\x<=100)/\aP 3 J wr (aI ad nn cp) L/\Below J J wr) (fun _ i _=>2^G.length-(intOf i).toNat)
     case atStart=>exact⟨0,_,_,_,[],Nat.zero_le _,rfl,rfl,rfl,by simp,o0,bF _ _⟩
     case round=>
      obtain⟨s,ad,nn,cp,L,hs,rfl,rfl,c9,hL,ho,Bw⟩:=hrel;clear o0;obtain⟨WC,h8⟩:∃WC:World,WC=wr:=⟨_,rfl⟩;subst h8;have HL:=aN (And.intro c9 hL);have HO:=aN ho;have j6:L.length<=32:=aK;have BC:=R.out.after Bw R.out.size;clear c9 hL ho;by_cases a1:s<2^G.length
      ·have e7:(s:Int)<(2:Int)^G.length:=by rw[<-c7.out];exact_mod_cast a1
       go_wp2_with fail;go_loop [10,11] (fun x i=>∃(k:Nat) (X:Int),k<=M.length/\i=aM (k:Int)/\x=aM X/\0<=X/\X<=10*k) (fun _ i=>M.length-(intOf i).toNat)
       case atStart=>exact⟨0,0,Nat.zero_le _,rfl,rfl,by omega,by omega⟩
       case round=>
        obtain⟨j,X,hj,rfl,rfl,l7,l8⟩:=hrel;by_cases b1:j<M.length
        ·have e0:(j:Int)<(M.length:Int):=aK;have cm:=aW S.out.2.1 S.out.2.2 BC aO j b1;have im:=fun W=>HI.out.2 W j b1;have hy:=a6.out.2 _ (List.getElem_mem b1);obtain⟨y,f4⟩:=aQ (M[j]);rw[<-f4]at cm hy;have n3:=hy.1;have o1:=hy.2;clear f4 hy;go_wp2_with fail;go_loop [12,13] (fun n i=>∃(q:Nat) (Z:Int),q<=G.length/\i=aM (q:Int)/\n=aM Z/\0<=Z/\Z<=q) (fun _ i=>G.length-(intOf i).toNat)
         case atStart=>exact⟨0,0,Nat.zero_le _,rfl,rfl,by omega,by omega⟩
         case round=>
          obtain⟨q,Z,O,rfl,rfl,d5,m1⟩:=hrel;by_cases f0:q<G.length
          ·have f2:(q:Int)<(G.length:Int):=aK;have cg:=aW S.out.1.1 S.out.1.2 BC aO q f0;have ig:=fun W=>HI.out.1 W q f0;obtain⟨x,D⟩:=aQ (G[q]);rw[<-D]at cg;clear D;obtain⟨t1,n0⟩:∃t,(bits .and .i64 ((s:Int)/2^q) 1==1)=t:=⟨_,rfl⟩;obtain⟨t2,n1⟩:∃t,(x==(j:Int))=t:=⟨_,rfl⟩;have m8:q<=4:=aK
           cases t1 with
           |false=>
            go_wp2;go_round
            case rel=>exact⟨q+1,Z,by omega,by go_num,rfl,d5,by omega⟩
            case measure=>simp[intOf];omega
           |true=>
            cases t2 with
            |false=>
             go_wp2;go_round
             case rel=>exact⟨q+1,Z,by omega,by go_num,rfl,d5,by omega⟩
             case measure=>simp[intOf];omega
            |true=>
             go_wp2;go_round
             case rel=>exact⟨q+1,Z+1,by omega,by go_num,rfl,by omega,by omega⟩
             case measure=>simp[intOf];omega
          ·have f2:¬(q:Int)<(G.length:Int):=aK;have i6:=a7.out;have j8:X<=20:=aK;have m2:Z<=4:=aK;clear i6;go_wp2;go_round
           case rel=>exact⟨j+1,X+min Z y,by omega,by go_num,rfl,by omega,by omega⟩
           case measure=>simp[intOf];omega
        ·have e0:¬(j:Int)<(M.length:Int):=aK;have l9:X<=100:=by have:=a7.out;omega
         have zW:=Bw.size;go_wp2_with (at_builtin;refine dI rfl _ _ _ rfl 3 underlying24 aS J.heap.size _ L X _ rfl rfl (bB _ _ _ _ _ rfl) (HO.out.alloc _) ⟨by omega,by omega⟩ aK aV ?_;intro v5 w5 o5 g5 h5;obtain⟨p5,i5,q5,rfl⟩:=o5.shape3);have B5:=(Bw.alloc zW (.cells #[X] 3)).grown g5 aV (fun q O=>(HO.out.lt q O).1);go_roundw
         case rel=>
          refine⟨s+1,p5,i5,q5,L++[X],by omega,rfl,by go_num,by simp;exact HL.out.1,fun z hz=>?_,o5,B5⟩;rcases List.mem_append.1 hz with hz|hz
          ·exact HL.out.2 z hz
          ·rw[List.mem_singleton.1 hz];omega
         case measure=>simp[intOf];omega
      ·have e7:¬(s:Int)<(2:Int)^G.length:=by rw[<-c7.out];exact_mod_cast a1
       obtain⟨K,d8⟩:=xR (bM (G.length:Int) L);have e9:=fun W hv=>wY W (G.length:Int) ad nn cp L hv K d8;have zC:=Bw.size;clear d8;go_wp2_with fail;refine(e9 WC HO.out.ints).mono ?_;rintro e w5 ⟨F,i',I,rfl,f3,b5⟩;have B5:=Bw.after b5 Bw.size;have B6:Below w w w5:=R.out.after B5 R.out.size;have K5:=(HK.out.keep B5);have o6:aP 3 J w5 (aI F i' I) (if K then L else []):=by
        rw[f3]
        cases K
        ·exact aP.nil _ _ _
        ·exact HO.out.keep b5
       have b3:dD (if K then (G.length:Int) else 0):=by cases K<;>exact⟨by simp;try omega,by simp;try omega⟩
       have e4:(if K then L else []).length<=64:=by cases K<;>simp;omega
       obtain⟨m6,e8⟩:=aQ ((if K then (G.length:Int) else 0));rw[<-e8]at b3 ⊢;have H6:=aN (And.intro b3 e4);clear f3 e8 e9 b3 e4;obtain⟨U,hU⟩:=aQ (w5.alloc (.cells #[m6,aI F i' I] 26));have KU:aU U w 26 #[aJ,()]:=by rw[hU];exact K5.alloc _
       have oU:aP 3 J U (aI F i' I) (if K then L else []):=by rw[hU];exact o6.alloc _
       have BU:Below w w U:=by rw[hU];exact B6.alloc B6.size _
       have KN:aU U w5 26 #[m6,aI F i' I]:=eJ hU;have G1:=KU.cell;have F1:=KU.frozen;have G2:=KN.cell;go_upto_region 30 with fail;rw[<-hU];clear hU;go_wp2;refine bG ?_;intro Wf h9;have t:=lX (w:=w) (E:=26) (m:=m6) (b:=aI F i' I) KU oU aO i8 BU h9;have GF:=t.1.cell;exact bodyPost_ret (v:=.tuple #[.agg #[m6,aI F i' I],.bool K]) (by simp[results,results152,go_sem,GF]) rfl ⟨F,i',I,m6,_,K,rfl,H6.out.1,t.2.1,H6.out.2,t.2.2⟩
end
end Go.Proofs.YtcpoomdoodlkjaaGreatDoor
