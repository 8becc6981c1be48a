/- Lemmas for CardReports. No condition. -/
import Derived.Test.YtcpoomdoodlkjaaGreatDoorQ31
set_option maxRecDepth 100000
set_option maxHeartbeats 64000000
namespace Go.Proofs.YtcpoomdoodlkjaaGreatDoor
section
open Go.RowKit Go.G5 Go.Proofs.Tryz
theorem AA(w:World)(g:Nat)(D:Dr w g):
  Calls prog 30 #[.pointer (some ⟨g,0,none⟩)] w fun e w'=>∃(n:Int) (ad:Option Addr) (i cp:Nat) (l:List Int),e=.returned (.agg #[n,aI ad i cp])/\dD n/\aP 3 w w' (aI ad i cp) l/\l.length<=64/\Dr w' g/\w.grownBy w' (some g):=by
 go_enter func30,ntmps30;go_wp2_with fail;refine bH ?_;intro V hV;have K:aU V w 26 #[aJ,()]:=eJ hV;have C:Cur w V g:=by rw[hV];exact(Cur.start D).alloc _
 clear hV;refine(cU V g C.D 5).mono ?_;rintro e w1 ⟨n0,rfl,_,hn,_,D1,g1⟩;have hn:=hn aK;have K:=K.cur0 C.zg g1;have C:=C.next D1 g1;obtain⟨N,rfl⟩:=Int.eq_ofNat_of_zero_le hn.1;have q4:N<=4:=aK;clear D1 g1 hn;go_wp2_with fail;refine(cU w1 g C.D 6).mono ?_;rintro e w2 ⟨m,rfl,_,hm,_,D2,g2⟩;have hm:=hm aK;have K:=K.cur0 C.zg g2;have C:=C.next D2 g2;have zK:=K.lt;clear D2 g2;by_cases m0:m=0
 ·subst m0;go_wp2_with fail;refine(ZH w2 g C.D).mono ?_;rintro e w3 ⟨n,ad,i,cp,l,rfl,hn,o,hl,D3,g3⟩;have K:=K.cur0 C.zg g3;have C:=C.next D3 g3;have o:=o.mono (show w.heap.size+1<=w2.heap.size by omega);clear D3 g3;have G:=K.cell;have F:=K.frozen;go_wp2;refine bG ?_;intro Wf S;obtain⟨KF,CF,oF⟩:=gU C K o (Nat.lt_succ_self _) S;have GF:=KF.cell;clear S;exact bodyPost_ret (v:=.agg #[n,aI ad i cp]) (by simp[results,results30,go_sem,GF]) rfl ⟨n,ad,i,cp,l,rfl,hn,oF,hl,CF.D,CF.gr⟩
 by_cases m1:m=1
 ·subst m1;go_wp2_with fail;refine(cU w2 g C.D 3).mono ?_;rintro e w3 ⟨x,rfl,_,hx,_,D3,g3⟩;have hx:=hx aK;have K:=K.cur0 C.zg g3;have C:=C.next D3 g3;clear D3 g3;go_wp2_with fail;refine(cU w3 g C.D 3).mono ?_;rintro e I ⟨y,rfl,_,hy,_,D4,g4⟩;have hy:=hy aK;have K:=K.cur0 C.zg g4;have C:=C.next D4 g4;have s5:=K.lt;have s3:=C.size;clear D4 g4;obtain⟨U,hU⟩:=aQ ((I.alloc (.cells #[x,y] 3)).alloc (.cells #[] 3));have oM:aP 3 I U (aI (some ⟨I,0,none⟩) 2 2) [x,y]:=by rw[hU];have h0:aP 3 I (I.alloc (.cells #[x,y] 3)) (aI (some ⟨I,0,none⟩) 2 2) [x,y]:=⟨World.ownsRow_lit I #[x,y] 2 aO aY rfl,fun z hz=>by simp only[List.mem_cons,List.not_mem_nil,or_false]at hz;rcases hz with rfl|rfl<;>exact⟨by omega,by omega⟩⟩;exact h0.alloc _
  have oG:aP 3 I U (aI (some ⟨I.heap.size+1,0,none⟩) 0 0) []:=by rw[hU];exact aP.lit0' I _
  have ap:kB (aI (some ⟨I.heap.size+1,0,none⟩) 0 0) (aI (some ⟨I,0,none⟩) 2 2):=fun k h1 h2=>by have e1:I.heap.size+1=k:=Option.some.inj h1;have e2:I.heap.size=k:=Option.some.inj h2;omega
  have K:=(K.alloc (.cells #[x,y] 3)).alloc (.cells #[] 3);have C:=(C.alloc (.cells #[x,y] 3)).alloc (.cells #[] 3);rw[<-hU]at K C;have f6:=aN (And.intro hx hy);clear hx hy;go_upto_region 9 with fail;rw[<-hU];clear hU;go_wp2_with fail;go_loopw [5,6] (fun gv iv wr=>∃(k:Nat) (a1:Option Addr) (n1 c1:Nat) (L:List Int),k<=N/\iv=aM (k:Int)/\gv=aI a1 n1 c1/\L.length=k/\(∀z∈L,0<=z/\z<=1)/\aP 3 I wr (aI a1 n1 c1) L/\aP 3 I wr (aI (some ⟨I,0,none⟩) 2 2) [x,y]/\kB (aI a1 n1 c1) (aI (some ⟨I,0,none⟩) 2 2)/\Cur w wr g/\aU wr w 26 #[aJ,()]) (fun _ iv _=>N-(intOf iv).toNat)
  case atStart=>exact⟨0,_,_,_,[],Nat.zero_le _,rfl,rfl,rfl,by simp,oG,oM,ap,C,K⟩
  case round=>
   obtain⟨k,a1,n1,c1,L,hk,rfl,rfl,hL,b0,oL,oX,d9,J,O⟩:=hrel;clear oM oG ap C K;have zg:=J.zg;by_cases r3:k<N
   ·have e0:(k:Int)<(N:Int):=aK;have q3:L.length<=4:=aK;have HL:=aN (And.intro hL b0);clear hL b0;go_wp2_with fail;refine(cU wr g J.D 2).mono ?_;rintro e M ⟨z,rfl,_,hz,_,D5,g5⟩;have hz:=hz aK;have f2:=hz.1;have r7:=hz.2;have oL:=oL.cur0 aK g5;have oX:=oX.cur0 aK g5;have O:=O.cur0 zg g5;have J:=J.next D5 g5;have zC:=J.size;have z5:=g5.size;have HO:=aN oL;have s6:I.heap.size<=M.heap.size:=by have:=(oX.lt I.heap.size rfl);omega
    have d7:=aN oX;clear D5 g5 hz oL oX;go_wp2_with (at_builtin;refine dI rfl _ _ _ rfl 3 underlying24 aS I.heap.size (aI a1 n1 c1) L z _ rfl rfl (bB _ _ _ _ _ rfl) (HO.out.alloc _) ⟨by omega,by omega⟩ aK aV ?_;intro v6 w6 o6 g6 h6;obtain⟨p6,i6,q6,rfl⟩:=o6.shape3);have h7:=(d7.out.alloc (.cells #[z] 3)).growA g6 d9;have f8:=h6.apart d9 (fun q hq=>(((d7.out.alloc (.cells #[z] 3))).lt q hq).2);have R:∀b,(Value.slice a1 n1 c1).ownBlock=some b->I.heap.size<=b:=fun b hb=>(HO.out.lt b hb).1;have C6:=(J.alloc (.cells #[z] 3)).row g6 (fun b hb=>by have:=R b hb;omega);have K6:=(O.alloc (.cells #[z] 3)).grow g6 (fun e=>by have:=R _ e;omega);go_roundw
    case rel=>
     refine⟨k+1,p6,i6,q6,L++[z],by omega,by go_num,rfl,by simp;exact HL.out.1,fun t ht=>?_,o6,h7,f8,C6,K6⟩;rcases List.mem_append.1 ht with ht|ht
     ·exact HL.out.2 t ht
     ·rw[List.mem_singleton.1 ht];omega
    case measure=>simp[intOf];omega
   ·have e0:¬(k:Int)<(N:Int):=aK;have e4:=DR wr (aI a1 n1 c1) L oL.ints aK b0 (aI (some ⟨I,0,none⟩) 2 2) [x,y] oX.ints rfl (fun z hz=>by have:=f6.out;simp only[List.mem_cons,List.not_mem_nil,or_false]at hz;rcases hz with rfl|rfl<;>omega);have f5:=aN e4;have zK:=O.lt;have zC:=J.size;clear e4 oL oX hL b0;go_wp2_with fail;refine f5.out.mono ?_;rintro e M ⟨ad,i,c5,m5,L5,b5,rfl,e9,o5,e8,bb⟩;have O:=O.keep bb;have J:=J.keep bb;obtain⟨Y,hY⟩:=aQ (M.alloc (.cells #[m5,aI ad i c5] 26));have K:aU Y w 26 #[aJ,()]:=by rw[hY];exact O.alloc _
    have C:Cur w Y g:=by rw[hY];exact J.alloc _
    have o:aP 3 (w.heap.size+1) Y (aI ad i c5) L5:=by rw[hY];exact(o5.mono aK).alloc _
    have KN:aU Y M 26 #[m5,aI ad i c5]:=eJ hY;have G2:=KN.cell;clear O J o5;go_upto_region 14 with fail;rw[<-hY];clear hY;have G:=K.cell;have F:=K.frozen;go_wp2;refine bG ?_;intro Wf S;obtain⟨KF,CF,oF⟩:=gU C K o (Nat.lt_succ_self _) S;have GF:=KF.cell;clear S;exact bodyPost_ret (v:=.agg #[m5,aI ad i c5]) (by simp[results,results30,go_sem,GF]) rfl ⟨m5,ad,i,c5,L5,rfl,e9,oF,e8,CF.D,CF.gr⟩
 by_cases m2:m=2
 ·subst m2;go_wp2_with fail;refine(cU w2 g C.D 3).mono ?_;rintro e w3 ⟨x,rfl,_,hx,_,D3,g3⟩;have hx:=hx aK;have K:=K.cur0 C.zg g3;have C:=C.next D3 g3;clear D3 g3;go_wp2_with fail;refine(cU w3 g C.D 3).mono ?_;rintro e I ⟨y,rfl,_,hy,_,D4,g4⟩;have hy:=hy aK;have K:=K.cur0 C.zg g4;have C:=C.next D4 g4;have s5:=K.lt;have s3:=C.size;clear D4 g4;obtain⟨U,hU⟩:=aQ ((I.alloc (.cells #[x,y] 3)).alloc (.cells #[] 3));have oM:aP 3 I U (aI (some ⟨I,0,none⟩) 2 2) [x,y]:=by rw[hU];have h0:aP 3 I (I.alloc (.cells #[x,y] 3)) (aI (some ⟨I,0,none⟩) 2 2) [x,y]:=⟨World.ownsRow_lit I #[x,y] 2 aO aY rfl,fun z hz=>by simp only[List.mem_cons,List.not_mem_nil,or_false]at hz;rcases hz with rfl|rfl<;>exact⟨by omega,by omega⟩⟩;exact h0.alloc _
  have oG:aP 3 I U (aI (some ⟨I.heap.size+1,0,none⟩) 0 0) []:=by rw[hU];exact aP.lit0' I _
  have ap:kB (aI (some ⟨I.heap.size+1,0,none⟩) 0 0) (aI (some ⟨I,0,none⟩) 2 2):=fun k h1 h2=>by have e1:I.heap.size+1=k:=Option.some.inj h1;have e2:I.heap.size=k:=Option.some.inj h2;omega
  have K:=(K.alloc (.cells #[x,y] 3)).alloc (.cells #[] 3);have C:=(C.alloc (.cells #[x,y] 3)).alloc (.cells #[] 3);rw[<-hU]at K C;have f6:=aN (And.intro hx hy);clear hx hy;go_upto_region 9 with fail;rw[<-hU];clear hU;go_wp2_with fail;go_loopw [5,6] (fun gv iv wr=>∃(k:Nat) (a1:Option Addr) (n1 c1:Nat) (L:List Int),k<=N/\iv=aM (k:Int)/\gv=aI a1 n1 c1/\L.length=k/\(∀z∈L,0<=z/\z<=1)/\aP 3 I wr (aI a1 n1 c1) L/\aP 3 I wr (aI (some ⟨I,0,none⟩) 2 2) [x,y]/\kB (aI a1 n1 c1) (aI (some ⟨I,0,none⟩) 2 2)/\Cur w wr g/\aU wr w 26 #[aJ,()]) (fun _ iv _=>N-(intOf iv).toNat)
  case atStart=>exact⟨0,_,_,_,[],Nat.zero_le _,rfl,rfl,rfl,by simp,oG,oM,ap,C,K⟩
  case round=>
   obtain⟨k,a1,n1,c1,L,hk,rfl,rfl,hL,b0,oL,oX,d9,J,O⟩:=hrel;clear oM oG ap C K;have zg:=J.zg;by_cases r3:k<N
   ·have e0:(k:Int)<(N:Int):=aK;have q3:L.length<=4:=aK;have HL:=aN (And.intro hL b0);clear hL b0;go_wp2_with fail;refine(cU wr g J.D 2).mono ?_;rintro e M ⟨z,rfl,_,hz,_,D5,g5⟩;have hz:=hz aK;have f2:=hz.1;have r7:=hz.2;have oL:=oL.cur0 aK g5;have oX:=oX.cur0 aK g5;have O:=O.cur0 zg g5;have J:=J.next D5 g5;have zC:=J.size;have z5:=g5.size;have HO:=aN oL;have s6:I.heap.size<=M.heap.size:=by have:=(oX.lt I.heap.size rfl);omega
    have d7:=aN oX;clear D5 g5 hz oL oX;go_wp2_with (at_builtin;refine dI rfl _ _ _ rfl 3 underlying24 aS I.heap.size (aI a1 n1 c1) L z _ rfl rfl (bB _ _ _ _ _ rfl) (HO.out.alloc _) ⟨by omega,by omega⟩ aK aV ?_;intro v6 w6 o6 g6 h6;obtain⟨p6,i6,q6,rfl⟩:=o6.shape3);have h7:=(d7.out.alloc (.cells #[z] 3)).growA g6 d9;have f8:=h6.apart d9 (fun q hq=>(((d7.out.alloc (.cells #[z] 3))).lt q hq).2);have R:∀b,(Value.slice a1 n1 c1).ownBlock=some b->I.heap.size<=b:=fun b hb=>(HO.out.lt b hb).1;have C6:=(J.alloc (.cells #[z] 3)).row g6 (fun b hb=>by have:=R b hb;omega);have K6:=(O.alloc (.cells #[z] 3)).grow g6 (fun e=>by have:=R _ e;omega);go_roundw
    case rel=>
     refine⟨k+1,p6,i6,q6,L++[z],by omega,by go_num,rfl,by simp;exact HL.out.1,fun t ht=>?_,o6,h7,f8,C6,K6⟩;rcases List.mem_append.1 ht with ht|ht
     ·exact HL.out.2 t ht
     ·rw[List.mem_singleton.1 ht];omega
    case measure=>simp[intOf];omega
   ·have e0:¬(k:Int)<(N:Int):=aK;have e4:=DR wr (aI a1 n1 c1) L oL.ints aK b0 (aI (some ⟨I,0,none⟩) 2 2) [x,y] oX.ints rfl (fun z hz=>by have:=f6.out;simp only[List.mem_cons,List.not_mem_nil,or_false]at hz;rcases hz with rfl|rfl<;>omega);have f5:=aN e4;have zK:=O.lt;have zC:=J.size;clear e4 oL oX hL b0;go_wp2_with fail;refine f5.out.mono ?_;rintro e M ⟨ad,i,c5,m5,L5,b5,rfl,e9,o5,e8,bb⟩;have O:=O.keep bb;have J:=J.keep bb;obtain⟨Y,hY⟩:=aQ (M.alloc (.cells #[m5,aI ad i c5] 26));have K:aU Y w 26 #[aJ,()]:=by rw[hY];exact O.alloc _
    have C:Cur w Y g:=by rw[hY];exact J.alloc _
    have o:aP 3 (w.heap.size+1) Y (aI ad i c5) L5:=by rw[hY];exact(o5.mono aK).alloc _
    have KN:aU Y M 26 #[m5,aI ad i c5]:=eJ hY;have G2:=KN.cell;clear O J o5;go_upto_region 14 with fail;rw[<-hY];clear hY;have G:=K.cell;have F:=K.frozen;go_wp2;refine bG ?_;intro Wf S;obtain⟨KF,CF,oF⟩:=gU C K o (Nat.lt_succ_self _) S;have GF:=KF.cell;clear S;exact bodyPost_ret (v:=.agg #[m5,aI ad i c5]) (by simp[results,results30,go_sem,GF]) rfl ⟨m5,ad,i,c5,L5,rfl,e9,oF,e8,CF.D,CF.gr⟩
 ·have y5:(2:Nat)^N<=16:=Nat.pow_le_pow_right (n:=2) aY q4;have k9:((2^N:Nat):Int)=(2:Int)^N:=by simp
  have tp:=cO N 5 aK;have y3:(2:Int)^N<=16:=by rw[<-k9];omega
  have y4:=tp.2;have y6:IntKind.i64.wrap ((2:Int)^N)=(2:Int)^N:=by rw[IntKind.wrap_i64];omega
  clear tp k9;obtain⟨U,hU⟩:=aQ (w2.alloc (.cells #[] 95));have oE:jW 95 2 w2.heap.size U (aI (some ⟨w2,0,none⟩) 0 0) 0:=by rw[hU];exact jW.lit0 w2 aO
  have z2:=C.size;have zgw:=C.zg;have K:=K.alloc (.cells #[] 95);have C:=C.alloc (.cells #[] 95);rw[<-hU]at K C;go_wp2_with fail;refine bH ?_;intro U' k4;obtain rfl:U'=U:=by rw[k4,hU]
  clear hU k4;refine(cU U' g C.D 4).mono ?_;rintro e w3 ⟨k0,rfl,_,hk,_,D3,g3⟩;have hk:=hk aK;have oE:=oE.cur0 aK g3;have K:=K.cur0 C.zg g3;have C:=C.next D3 g3;obtain⟨K0,rfl⟩:=Int.eq_ofNat_of_zero_le hk.1;have y1:K0<=3:=aK;clear D3 g3 hk;obtain⟨ei,hi,f2,k7,k8⟩:=info_parts IS;have HI:=aN (And.intro hi (And.intro f2 (And.intro k7 k8)));clear hi f2 k7 k8;go_wp2_with fail;go_loopw [9,10] (fun lv kv wr=>∃(j cnt q cp:Nat),lv=aI (some ⟨q,0,none⟩) cnt cp/\kv=aM (j:Int)/\j+cnt<=3/\jW 95 2 w2.heap.size wr (aI (some ⟨q,0,none⟩) cnt cp) cnt/\Cur w wr g/\aU wr w 26 #[aJ,()]) (fun _ kv _=>(intOf kv).toNat)
  case atStart=>exact⟨K0,0,_,_,rfl,rfl,by omega,oE,C,K⟩
  case round=>
   obtain⟨j,cnt,q,cp,rfl,rfl,hj,oZ,J,O⟩:=hrel;clear oE C K;have zg:=J.zg;by_cases y2:0<j
   ·have r1:(0:Int)<(j:Int):=aK;go_wp2_with fail;refine(cU wr g J.D ((2:Int)^N)).mono ?_;rintro e M ⟨x,rfl,_,hx,_,D5,g5⟩;have hx:=hx aK;have y9:=hx.1;have z1:=hx.2;have oZ:=oZ.cur0 aK g5;have O:=O.cur0 zg g5;have J:=J.next D5 g5;have z7:=J.size;have y0:w2.heap.size<=M.heap.size:=by have:=(oZ.lt q rfl);omega
    have HO:=aN oZ;clear D5 g5 oZ hx;go_wp2_with (at_builtin;refine AS rfl _ _ _ rfl 95 underlying93 ei _ 2 16 HI.out.1 HI.out.2.1 HI.out.2.2.1 HI.out.2.2.2 rfl aY aY w2.heap.size (aI (some ⟨q,0,none⟩) cnt cp) cnt rfl (HO.out.alloc _) M.heap.size [x,1] rfl rfl (fun j v r2=>by match j,r2 with|0,h=>(cases h;exact bB _ _ _ _ _ rfl)|1,h=>(cases h;exact bB _ _ _ _ _ rfl)) (fun v hv=>by simp only[List.mem_cons,List.not_mem_nil,or_false]at hv;rcases hv with rfl|rfl<;>omega) aK aV ?_;intro v8 w8 o8 g8);obtain⟨q8,c8,rfl⟩:∃q8 c8,v8=aI (some ⟨q8,0,none⟩) (cnt+1) c8:=by
     rcases o8.at with⟨_,_,h⟩|⟨q8,c8,h,_⟩
     ·omega
     ·exact⟨q8,c8,h⟩
    have R:∀b,(Value.slice (some ⟨q,0,none⟩) cnt cp).ownBlock=some b->w2.heap.size<=b:=fun b hb=>(HO.out.lt b hb).1;have y8:=J.zg;have K8:=(O.alloc (.cells #[x,aM 1] 95)).grow g8 (fun e=>by have:=R _ e;omega);have C8:=(J.alloc (.cells #[x,aM 1] 95)).row g8 (fun b hb=>by have:=R b hb;omega);go_roundw
    case rel=>exact⟨j-1,cnt+1,q8,c8,rfl,by go_num,by omega,o8,C8,K8⟩
    case measure=>simp[intOf];omega
   ·have r1:¬(0:Int)<(j:Int):=aK
    obtain⟨WR,q7⟩:∃W:World,W=wr:=⟨_,rfl⟩;subst q7;obtain⟨hq,zf,l4,l3⟩:q<WR.heap.size/\∃zf:Nat->Int,NN WR q cnt 2 zf/\∀k,0<=zf k/\zf k<=63:=by
     rcases oZ.at with⟨_,h,_⟩|⟨q',c',h,h1,_,zf,h2,h3⟩
     ·cases h
     ·injection h with e1 e2 e3;injection e1 with e1;injection e1 with e1;subst e1;exact⟨h1,zf,h2,h3⟩
    have zK:=O.lt;have zC:=J.size;have k5:=RB WR N aK q cnt cp zf l4 hq l3 aK;have o3:=aN k5;clear k5 l4 l3 oZ;go_wp2_with fail;refine o3.out.mono ?_;rintro e M ⟨ad,i,c5,m5,L,b5,rfl,e9,oL,e8,bb⟩;have O:=O.keep bb;have J:=J.keep bb;obtain⟨i',r0⟩:∃a' c',(aI ad i c5:Value)=aI a' L.length c':=oL.ints.shape;obtain⟨cc,q9⟩:=r0;injection q9 with e1 e2 e3;subst e1 e2 e3;obtain⟨Y,hY⟩:=aQ ((M.alloc (.cells #[m5,aI ad L.length c5] 26)).alloc (.cells #[] 3));have KN:aU Y M 26 #[m5,aI ad L.length c5]:=gO hY;have oV:aP 3 (M.heap.size+1) Y (aI (some ⟨M.heap.size+1,0,none⟩) 0 0) []:=by rw[hY];have:=aP.lit0 (E:=3) (B:=M.heap.size+1) (M.alloc (.cells #[m5,aI ad L.length c5] 26)) (by simp);simpa using this
    have BY:Below M M Y:=gD hY;have zY:M.heap.size+2<=Y.heap.size:=by rw[hY];simp
    have zr5:=bb.size;have HK:=aN O;have HC:=aN J;have HO:=aN oL;have HN:=aN KN;clear O J oL KN;go_upto_region 22 with fail;rw[<-hY];clear hY;go_wp2_with fail;go_loopw [13,14] (fun vv iv wy=>∃(s:Nat) (a1:Option Addr) (n1 c1:Nat) (Q:List Int),s<=L.length/\iv=aM (s:Int)/\vv=aI a1 n1 c1/\Q.length=s/\aP 3 (M.heap.size+1) wy (aI a1 n1 c1) Q/\Below (M.heap.size+1) Y wy) (fun _ iv _=>L.length-(intOf iv).toNat)
    case atStart=>exact⟨0,_,_,_,[],Nat.zero_le _,rfl,rfl,rfl,oV,Below.refl _ _⟩
    case round=>
     obtain⟨s,a1,n1,c1,Q,hs,rfl,rfl,hQ,oQ,By⟩:=hrel;clear oV;have K5:aU wr M 26 #[m5,aI ad L.length c5]:=(By.block M.heap.size (Nat.lt_succ_self _)).trans HN.out;have B5:Below M M wr:=BY.after By aK;have zB:=By.size;have HQ:=aN oQ;have p0:=aN hQ;have u1:Q.length<=64:=aK;have G5:=K5.cell;clear oQ hQ;by_cases y7:s<L.length
     ·have l1:(s:Int)<(L.length:Int):=aK;have l0:=rR s aK;have l2:=eP s wr aK;have j6:=aN l2;clear l2;obtain⟨pp,hp⟩:∃p,Hid (bR s=p):=⟨_,aN rfl⟩;rw[hp.out]at l0;go_wp2_with fail;refine j6.out.mono ?_;rintro e w7 ⟨rfl,rfl⟩;rw[hp.out];clear hp j6;go_wp2_with (at_builtin;refine dI rfl _ _ _ rfl 3 underlying24 aS (M.heap.size+1) _ Q (pp:Int) _ rfl rfl (bB _ _ _ _ _ rfl) (HQ.out.alloc _) ⟨by omega,by omega⟩ aK aV ?_;intro v8 w8 o8 g8 h8;obtain⟨p8,i8,q8,rfl⟩:=o8.shape3);have B8:=(By.alloc aK (.cells #[(pp:Int)] 3)).grown g8 aV (fun q hq=>(HQ.out.lt q hq).1);go_roundw
      case rel=>exact⟨s+1,p8,i8,q8,Q++[(pp:Int)],by omega,by go_num,rfl,by simp;exact p0.out,o8,B8⟩
      case measure=>simp[intOf];omega
     ·have l1:¬(s:Int)<(L.length:Int):=aK;have k6:=U0 wr m5 (aI ad L.length c5) L (HO.out.keep B5).ints (N:Int) (aI a1 n1 c1) Q HQ.out.ints;have o4:=aN k6;have K9:=HK.out.keep B5;have C9:=HC.out.keep B5;have zK9:=K9.lt;have zC9:=C9.size;clear k6;go_wp2_with fail;refine o4.out.mono ?_;rintro e w9 ⟨d8,i9,c9,m9,L9,b9,rfl,r5,o9,r4,k1⟩;have K9:=K9.keep k1;have C9:=C9.keep k1;obtain⟨Z,hZ⟩:=aQ (w9.alloc (.cells #[m9,aI d8 i9 c9] 26));have K:aU Z w 26 #[aJ,()]:=by rw[hZ];exact K9.alloc _
      have C:Cur w Z g:=by rw[hZ];exact C9.alloc _
      have o:aP 3 (w.heap.size+1) Z (aI d8 i9 c9) L9:=by rw[hZ];exact(o9.mono aK).alloc _
      have KZ:aU Z w9 26 #[m9,aI d8 i9 c9]:=eJ hZ;have G2:=KZ.cell;clear K9 C9 o9 G5;go_upto_region 27 with fail;rw[<-hZ];clear hZ;have G:=K.cell;have F:=K.frozen;go_wp2;refine bG ?_;intro Wf S;obtain⟨KF,CF,oF⟩:=gU C K o (Nat.lt_succ_self _) S;have GF:=KF.cell;clear S;exact bodyPost_ret (v:=.agg #[m9,aI d8 i9 c9]) (by simp[results,results30,go_sem,GF]) rfl ⟨m9,d8,i9,c9,L9,rfl,r5,oF,r4,CF.D,CF.gr⟩
theorem ac3{w W Wf:World}{r B:Nat}{E:TypeId}{n m:Int}{x y z u va vb:Value}{F a2:Option Addr}{I c1 i2 c2:Nat}{l k:List Int}
  (J:aU W r E #[x,y]) (K:aU W (r+1) E #[z,u]) (M:aP 3 B W (aI F I c1) l) (N:aP 3 B W (aI a2 i2 c2) k) (hB:r+1<B) (hr:w.heap.size<=r) (hb:Below w w W)
  (D:Wf=(((W.setCell ⟨r,0,none⟩ (aM n)).setCell ⟨r,1,none⟩ va).setCell ⟨r+1,0,none⟩ (aM m)).setCell ⟨r+1,1,none⟩ vb):
  aU Wf r E #[n,va]/\aU Wf (r+1) E #[m,vb]/\aP 3 w Wf (aI F I c1) l/\aP 3 w Wf (aI a2 i2 c2) k/\Below w w Wf:=by
 have own:∀{a:Option Addr} {i c:Nat} {q:List Int},aP 3 B W (aI a i c) q->aP 3 w Wf (aI a i c) q:=fun o=>by rw[D];exact((((o.setBelow (by show r<B;omega) _).setBelow (by show r<B;omega) _).setBelow (by show r+1<B;omega) _).setBelow (by show r+1<B;omega) _).mono aK
 refine⟨?_,?_,own M,own N,?_⟩
 ·rw[D];have:=((((J.set 0 (aM n)).set 1 va).far (p:=⟨r+1,0,none⟩) (by simp) (aM m)).far (p:=⟨r+1,1,none⟩) (by simp) vb);simpa using this
 ·rw[D];have:=((((K.far (p:=⟨r,0,none⟩) (by simp) (aM n)).far (p:=⟨r,1,none⟩) (by simp) va).set 0 (aM m)).set 1 vb);simpa using this
 ·rw[D];exact Below.setCell (Below.setCell (Below.setCell (Below.setCell hb (by show w.heap.size<=r;omega) _) (by show w.heap.size<=r;omega) _) (by show w.heap.size<=r+1;omega) _) (by show w.heap.size<=r+1;omega) _
theorem IL{w W Wf:World}{r B:Nat}{E:TypeId}{n m:Int}{x y z u va vb:Value}{F a2:Option Addr}{I c1 i2 c2:Nat}{l k:List Int}
  (J:aU W r E #[x,y]) (K:aU W (r+1) E #[z,u]) (M:aP 3 B W (aI F I c1) l) (N:aP 3 B W (aI a2 i2 c2) k) (hB:r+1<B) (hr:w.heap.size<=r) (hb:Below w w W)
  (D:Wf=((((W.setCell ⟨r,0,none⟩ (aM n)).setCell ⟨r,1,none⟩ va).setCell ⟨r+1,0,none⟩ (aM m)).setCell ⟨r+1,1,none⟩ vb).drew):
  aU Wf r E #[n,va]/\aU Wf (r+1) E #[m,vb]/\aP 3 w Wf (aI F I c1) l/\aP 3 w Wf (aI a2 i2 c2) k/\Below w w Wf:=by
 have t:=ac3 (w:=w) (va:=va) (vb:=vb) (n:=n) (m:=m) J K M N hB hr hb rfl;rw[D];exact⟨t.1,t.2.1,t.2.2.1.keep (Below.refl _ _).drew,t.2.2.2.1.keep (Below.refl _ _).drew,t.2.2.2.2.drew⟩
theorem VN(w:World)(v:Value)(l:List Nat)(hv:mJ w v l):
  Calls prog 31 #[v] w fun e w'=>∃(n:Int) (a1:Option Addr) (i1 c1:Nat) (l1:List Int) (m:Int) (a2:Option Addr) (i2 c2:Nat) (l2:List Int),e=.returned (.tuple #[.agg #[n,aI a1 i1 c1],.agg #[m,aI a2 i2 c2]])/\dD n/\dD m/\aP 3 w w' (aI a1 i1 c1) l1/\aP 3 w w' (aI a2 i2 c2) l2/\l1.length<=64/\l2.length<=64/\Below w w w':=by
 go_enter func31,ntmps31;go_wp2_with fail;refine bH ?_;intro V hV;have B:Below w w V:=gD hV;have M:aU V w 26 #[aJ,()]:=gO hV;have N:aU V (w.heap.size+1) 26 #[aJ,()]:=gY hV;have zV:w.heap.size+2<=V.heap.size:=by rw[hV];simp
 clear hV;refine(rK V _ _ (hv.below B aO)).mono ?_;rintro e w1 ⟨rfl,D1,b1⟩;have M:=M.keep b1;have N:=N.keep b1;have B:=B.after b1 B.size;have y1:=D1.lt;have C:=Cur.start D1;clear b1;go_wp2_with fail;refine(AA w1 V.heap.size D1).mono ?_;rintro e w2 ⟨n,ad,i,J,L,rfl,hn,oF,hL,D2,g2⟩;have M:=M.grow g2 vI;have N:=N.grow g2 vI;have C:=C.next D2 g2;have z2:=g2.size;obtain⟨U,hU⟩:=aQ (w2.alloc (.cells #[n,aI ad i J] 26));have KF:aU U w2 26 #[n,aI ad i J]:=eJ hU;have M:=M.alloc (.cells #[n,aI ad i J] 26);have N:=N.alloc (.cells #[n,aI ad i J] 26);have C:=C.alloc (.cells #[n,aI ad i J] 26);have oF:=oF.alloc (.cells #[n,aI ad i J] 26);rw[<-hU]at M N C oF;clear D1 D2 g2;go_upto_region 3 with fail;rw[<-hU];clear hU;go_wp2_with fail;go_loopw [6] (fun kv wr=>∃k:Nat,k<=6/\kv=aM (k:Int)/\Cur w1 wr V.heap.size/\aU wr w2 26 #[n,aI ad i J]/\aP 3 w1 wr (aI ad i J) L/\aU wr w 26 #[aJ,()]/\aU wr (w.heap.size+1) 26 #[aJ,()]) (fun kv _=>6-(intOf kv).toNat)
 case atStart=>exact⟨0,by omega,rfl,C,KF,oF,M,N⟩
 case round=>
  obtain⟨k,hk,rfl,Cr,I,e0,z,F⟩:=hrel;clear C KF oF M N;have zc:=Cr.zg;have HC:=aN Cr;have HO:=aN e0;have bw:Below w w wr:=B.grown Cr.gr B.size kH;by_cases g6:k<6
  ·have b0:(k:Int)<6:=aK;go_wp2_with fail;refine(AA wr V.heap.size HC.out.D).mono ?_;rintro e w3 ⟨m,a2,i2,c2,L2,rfl,hm,o2,d8,D3,S⟩;have I:=I.grow S vI;have z:=z.grow S vI;have F:=F.grow S vI;have K:=HO.out.cur0 zc S;have O:=HC.out.next D3 S;have z3:=S.size;have zr:=HC.out.size;obtain⟨Y,hY⟩:=aQ (w3.alloc (.cells #[m,aI a2 i2 c2] 26));have KG:aU Y w3 26 #[m,aI a2 i2 c2]:=eJ hY;have I:=I.alloc (.cells #[m,aI a2 i2 c2] 26);have z:=z.alloc (.cells #[m,aI a2 i2 c2] 26);have F:=F.alloc (.cells #[m,aI a2 i2 c2] 26);have O:=O.alloc (.cells #[m,aI a2 i2 c2] 26);have K:=K.alloc (.cells #[m,aI a2 i2 c2] 26);have a6:=(o2.alloc (.cells #[m,aI a2 i2 c2] 26)).mono (show w1.heap.size<=wr.heap.size by omega);rw[<-hY]at I z F O K a6;have B3:Below w w Y:=B.grown O.gr B.size kH;have d5:=aN O;have R:=aN (And.intro K a6);have a7:=aN (And.intro z F);have GF:=I.cell;have GG:=KG.cell;have zY:=O.size;clear D3 S O K a6 o2 bw;go_upto_region 7 with fail;rw[<-hY];clear hY;by_cases b3:m=n
   ·subst b3;have G0:=z.cell;have F0:=z.frozen;have G1:=F.cell;have F1:=F.frozen;have c7:∀j,Y.drew.cell? ⟨w2.heap.size,j,none⟩=#[Value.int .i64 m,aI ad i J][j]?:=GF;have g1:∀j,Y.drew.cell? ⟨w3.heap.size,j,none⟩=#[Value.int .i64 m,aI a2 i2 c2][j]?:=GG;go_wp2_with fail;go_region
    all_goals
     go_wp2;refine bG ?_;intro Wf Z;have t:=IL (W:=Y) (z) F R.out.1 R.out.2 aK aO B3 Z;have H0:=t.1.cell;have H1:=t.2.1.cell;exact bodyPost_ret (v:=.tuple #[.agg #[m,aI ad i J],.agg #[m,aI a2 i2 c2]]) (by simp[results,results31,go_sem,H0,H1]) rfl ⟨m,ad,i,J,L,m,a2,i2,c2,L2,rfl,hn,hn,t.2.2.1,t.2.2.2.1,hL,d8,t.2.2.2.2⟩
   ·have hb:((m:Int)==n)=false:=by rw[beq_eq_false_iff_ne];exact b3
    go_wp2;go_roundw
    case rel=>exact⟨k+1,by omega,by go_num,d5.out,I,R.out.1,a7.out.1,a7.out.2⟩
    case measure=>simp[intOf];omega
  ·have b0:¬(k:Int)<6:=aK;have GF:=I.cell;have G0:=z.cell;have F0:=z.frozen;have G1:=F.cell;have F1:=F.frozen;have c7:∀j,wr.drew.cell? ⟨w2.heap.size,j,none⟩=#[Value.int .i64 n,aI ad i J][j]?:=GF;go_wp2_with fail;go_region
   all_goals
    go_wp2;refine bG ?_;intro Wf Z;have t:=IL (W:=wr) z F HO.out HO.out aK aO bw Z;have H0:=t.1.cell;have H1:=t.2.1.cell;exact bodyPost_ret (v:=.tuple #[.agg #[n,aI ad i J],.agg #[n,aI ad i J]]) (by simp[results,results31,go_sem,H0,H1]) rfl ⟨n,ad,i,J,L,n,ad,i,J,L,rfl,hn,hn,t.2.2.1,t.2.2.2.1,hL,hL,t.2.2.2.2⟩
end
end Go.Proofs.YtcpoomdoodlkjaaGreatDoor
