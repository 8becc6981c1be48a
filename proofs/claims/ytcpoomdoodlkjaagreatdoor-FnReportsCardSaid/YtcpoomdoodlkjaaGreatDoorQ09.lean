/- Lemmas for CardReports. No condition. -/
import Derived.Test.YtcpoomdoodlkjaaGreatDoorQ08
set_option maxRecDepth 100000
set_option maxHeartbeats 64000000
namespace Go.Proofs.YtcpoomdoodlkjaaGreatDoor
section
open Go.RowKit Go.G5 Go.Proofs.Tryz
theorem gU{w z Wf:World}{g B:Nat}{n:Int}{ad:Option Addr}{i D:Nat}{l:List Int}(C:Cur w z g)(K:aU z w 26 #[aJ,()])(o:aP 3 B z (aI ad i D) l)(hB:w.heap.size<B)
  (F:Wf=(z.setCell ⟨w.heap.size,0,none⟩ (aM n)).setCell ⟨w.heap.size,1,none⟩ (aI ad i D)):aU Wf w 26 #[n,aI ad i D]/\Cur w Wf g/\aP 3 w Wf (aI ad i D) l:=by
 have I:z.grownBy Wf (some w.heap.size):=by rw[F];exact dW (dW (World.grownBy.refl _ _) 0 _) 1 _
 refine⟨?_,C.row I kH,(o.grow I (fun q J e=>by have:=Option.some.inj J;have:=(o.lt _ e).1;omega)).mono aK⟩;rw[F];have:=(K.set 0 (aM n)).set 1 (aI ad i D);simpa using this
theorem Cur.drewN{w wr:World}{g:Nat}(h:Cur w wr g)(n:Nat):Cur w (wr.drewN n) g:=h.keep ((Below.refl _ _).drewN' n)
theorem J4{L:List Int}{s:Nat}{y a b:Int}(h:∀x∈L,a<=x/\x<=b)(D:a<=y/\y<=b):∀x∈L.set s y,a<=x/\x<=b:=by
 intro x z;rcases List.mem_or_eq_of_mem_set z with z|z
 ·exact h x z
 ·rw[z];exact D
theorem ZE(w:World)(g:Nat)(D:Dr w g):
  Calls prog 147 #[.pointer (some ⟨g,0,none⟩),aM 4] w fun e w'=>∃(N:Nat) (ad:Option Addr) (i Y:Nat) (l:List Int),e=.returned (.agg #[(N:Int),aI ad i Y])/\N<=4/\aP 3 w w' (aI ad i Y) l/\l.length=2^N/\(∀x∈l,-1300<=x/\x<=1000)/\Dr w' g/\w.grownBy w' (some g):=by
 go_enter func147,ntmps147;go_wp2_with fail;refine bH ?_;intro V hV;have C:Cur w V g:=by rw[hV];exact(Cur.start D).alloc _
 have K:aU V w 26 #[aJ,()]:=eJ hV;clear hV;refine(cU V g C.D 5).mono ?_;rintro e w1 ⟨n,rfl,_,hn,_,D1,g1⟩;have hn:=hn aK;have K:=K.cur0 C.zg g1;have C:=C.next D1 g1;obtain⟨N,rfl⟩:=Int.eq_ofNat_of_zero_le hn.1;have hN:N<=4:=aK;clear g1 D1 hn;have s5:(2:Nat)^N<=16:=Nat.pow_le_pow_right (n:=2) aY hN;have c6:=aN (show((2^N:Nat):Int)=(2:Int)^N by simp);have tp:=cO N 4 hN;have s2:(2:Int)^N<=16:=by rw[<-c6.out];omega
 have s3:=tp.2;have s4:=Nat.two_pow_pos N;have s6:IntKind.i64.wrap ((2:Int)^N)=(2:Int)^N:=by rw[IntKind.wrap_i64];omega
 clear tp;have yK:=K.lt;go_wp2_with fail;refine bH ?_;intro V1 l3;have o0:aP 3 (w.heap.size+1) V1 (aI (some ⟨w1,0,none⟩) 0 0) []:=by rw[l3];exact aP.lit0 w1 yK
 have C:=C.alloc (.cells #[] 3);have K:=K.alloc (.cells #[] 3);rw[<-l3]at C K;clear l3;refine(cU V1 g C.D 5).mono ?_;rintro e w2 ⟨m,rfl,_,hm,_,D2,g2⟩;have hm:=hm aK;have K:=K.cur0 C.zg g2;have o0:=o0.cur0 (Nat.lt_succ_of_lt C.zg) g2;have C:=C.next D2 g2;clear D2 g2;by_cases j6:m=0
 ·subst j6;go_wp2_with fail;go_loopw [6,7] (fun v i wr=>∃(s:Nat) (ad:Option Addr) (nn Y:Nat) (L:List Int),s<=2^N/\v=aI ad nn Y/\i=aM s/\L.length=s/\(∀x∈L,-1<=x/\x<=5)/\aP 3 (w.heap.size+1) wr (aI ad nn Y) L/\Cur w wr g/\aU wr w 26 #[aJ,()]) (fun _ i _=>2^N-(intOf i).toNat)
  case atStart=>exact⟨0,_,_,_,[],Nat.zero_le _,rfl,rfl,rfl,by simp,o0,C,K⟩
  case round=>
   obtain⟨s,ad,nn,Y,L,hs,rfl,rfl,e6,hL,o,C,K⟩:=hrel;clear o0;have HL:=aN (And.intro e6 hL);have f6:L.length<=32:=aK;clear e6 hL;by_cases hlt:s<2^N
   ·have a7:(s:Int)<(2:Int)^N:=by rw[<-c6.out];exact_mod_cast hlt
    go_wp2_with fail;refine(cU wr g C.D 6).mono ?_;rintro e w6 ⟨x,rfl,_,I,_,D6,g6⟩;have I:=I aK;have n3:=I.1;have o1:=I.2;have K:=K.cur0 C.zg g6;have o:=o.cur0 (Nat.lt_succ_of_lt C.zg) g6;have C:=C.next D6 g6;have y6:=K.lt;have HC:=aN C;have HK:=aN K;have O:=aN o.lt;clear C K D6 g6 I;go_wp2_with (at_builtin;refine dI rfl _ _ _ rfl 3 underlying24 aS (w.heap.size+1) (aI ad nn Y) L (x-1) _ rfl rfl (bB _ _ _ _ _ rfl) (o.alloc _) ⟨by omega,by omega⟩ aK aV ?_;intro v7 w7 o7 g7 h7;obtain⟨p7,i7,q7,rfl⟩:=o7.shape3);have C7:=(HC.out.alloc (.cells #[aM (x-1)] 3)).row g7 (fun q hq=>by have:=(O.out q hq).1;omega);have K7:=(HK.out.alloc (.cells #[aM (x-1)] 3)).grow g7 (fun e=>by have:=(O.out _ e).1;omega);go_roundw
    case rel=>
     refine⟨s+1,p7,i7,q7,L++[x-1],by omega,rfl,by go_num,by simp;exact HL.out.1,fun z S=>?_,o7,C7,K7⟩;rcases List.mem_append.1 S with S|S
     ·exact HL.out.2 z S
     ·rw[List.mem_singleton.1 S];omega
    case measure=>simp[intOf];omega
   ·have c7:s=2^N:=aK;have a7:¬(s:Int)<(2:Int)^N:=by rw[<-c6.out];exact_mod_cast hlt
    have Z:=aN (And.intro (HL.out.1.trans c7) (fun x I=>by have:=HL.out.2 x I;exact(by omega:-1300<=x/\x<=1000)));clear c7 hs;have G:=K.cell;have F:=K.frozen;go_wp2;refine bG ?_;intro Wf a6;obtain⟨KF,CF,oF⟩:=gU C K o (Nat.lt_succ_self _) a6;have GF:=KF.cell;clear a6;exact bodyPost_ret (v:=.agg #[N,aI ad nn Y]) (by simp[results,results147,go_sem,GF]) rfl (by first|exact⟨N,_,_,Y,L,rfl,by omega,oF,Z.out.1,Z.out.2,CF.D,CF.gr⟩|exact⟨N,_,_,Y,rfl,by omega,L,oF,Z.out.1,Z.out.2,CF.D,CF.gr⟩)
 by_cases l6:m=1
 ·subst l6;have t0:((1:Int)==0)=false:=by simp
  have s7:IntKind.i64.wrap ((N:Int)+1)=(N:Int)+1:=by rw[IntKind.wrap_i64];omega
  clear hm j6;go_wp2_with fail;refine(cU w2 g C.D ((N:Int)+1)).mono ?_;rintro e w3 ⟨d9,rfl,_,I,_,D3,g3⟩;have I:=I aK;have q3:=I.1;have q4:=I.2;have K:=K.cur0 C.zg g3;have o0:=o0.cur0 (Nat.lt_succ_of_lt C.zg) g3;have C:=C.next D3 g3;clear D3 g3 I;go_wp2_with fail;go_loopw [6,9] (fun v i wr=>∃(s:Nat) (ad:Option Addr) (nn Y:Nat) (L:List Int),s<=2^N/\v=aI ad nn Y/\i=aM s/\L.length=s/\(∀x∈L,-1000<=x/\x<=1000)/\aP 3 (w.heap.size+1) wr (aI ad nn Y) L/\Cur w wr g/\aU wr w 26 #[aJ,()]) (fun _ i _=>2^N-(intOf i).toNat)
  case atStart=>exact⟨0,_,_,_,[],Nat.zero_le _,rfl,rfl,rfl,by simp,o0,C,K⟩
  case round=>
   obtain⟨s,ad,nn,Y,L,hs,rfl,rfl,e6,hL,o,C,K⟩:=hrel;clear o0;by_cases hlt:s<2^N
   ·have a7:(s:Int)<(2:Int)^N:=by rw[<-c6.out];exact_mod_cast hlt
    have HL:=aN (And.intro e6 hL);have f6:L.length<=32:=aK;clear e6 hL;have r8:=rR s aK;have p1:=aN (fun W=>eP s W aK);have t9:=K.lt;have HC:=aN C;have HO:=aN o;have HK:=aN K;have O:=aN o.lt;clear C K;go_wp2_with fail;refine(p1.out _).mono ?_;rintro e w6 ⟨rfl,rfl⟩;rcases(show(bR s:Int)<d9∨d9<=(bR s:Int) by omega) with n2|n2
    ·have l7:¬d9<=(bR s:Int):=aK;go_wp2_with (at_builtin;refine dI rfl _ _ _ rfl 3 underlying24 aS (w.heap.size+1) (aI ad nn Y) L (bR s:Int) _ rfl rfl (bB _ _ _ _ _ rfl) (HO.out.alloc _) ⟨by omega,by omega⟩ aK aV ?_;intro v7 w7 o7 g7 h7;obtain⟨p7,i7,q7,rfl⟩:=o7.shape3);have C7:=(HC.out.alloc (.cells #[aM (bR s:Int)] 3)).row g7 (fun q hq=>by have:=(O.out q hq).1;omega);have K7:=(HK.out.alloc (.cells #[aM (bR s:Int)] 3)).grow g7 (fun e=>by have:=(O.out _ e).1;omega);go_roundw
     case rel=>
      refine⟨s+1,p7,i7,q7,L++[(bR s:Int)],by omega,rfl,by go_num,by simp;exact HL.out.1,fun z S=>?_,o7,C7,K7⟩;rcases List.mem_append.1 S with S|S
      ·exact HL.out.2 z S
      ·rw[List.mem_singleton.1 S];omega
     case measure=>simp[intOf];omega
    ·have l7:¬(bR s:Int)<d9:=aK;go_wp2_with (at_builtin;refine dI rfl _ _ _ rfl 3 underlying24 aS (w.heap.size+1) (aI ad nn Y) L d9 _ rfl rfl (bB _ _ _ _ _ rfl) (HO.out.alloc _) ⟨by omega,by omega⟩ aK aV ?_;intro v7 w7 o7 g7 h7;obtain⟨p7,i7,q7,rfl⟩:=o7.shape3);have C7:=(HC.out.alloc (.cells #[d9] 3)).row g7 (fun q hq=>by have:=(O.out q hq).1;omega);have K7:=(HK.out.alloc (.cells #[d9] 3)).grow g7 (fun e=>by have:=(O.out _ e).1;omega);go_roundw
     case rel=>
      refine⟨s+1,p7,i7,q7,L++[d9],by omega,rfl,by go_num,by simp;exact HL.out.1,fun z S=>?_,o7,C7,K7⟩;rcases List.mem_append.1 S with S|S
      ·exact HL.out.2 z S
      ·rw[List.mem_singleton.1 S];omega
     case measure=>simp[intOf];omega
   ·have c7:s=2^N:=aK;have a7:¬(s:Int)<(2:Int)^N:=by rw[<-c6.out];exact_mod_cast hlt
    have b6:L.length=2^N:=e6.trans c7;have f7:=hL;clear e6 hL c7 hs hlt;have f6:L.length<=32:=aK;have l9:nn=L.length:=o.ints.capLe.1;obtain⟨vb,m3⟩:∃vb,ad=some ⟨vb,0,none⟩:=by
     rcases o.cases with⟨_,h⟩|⟨b,_,h,_⟩
     ·rw[h]at b6;simp at b6;omega
     ·injection h with h1 _ _;exact⟨b,h1⟩
    subst m3;subst l9;have HL:=aN (And.intro b6 f7);clear b6 f7;go_wp2_with fail;refine(uT _ g C.D 2).mono ?_;rintro e w5 ⟨bb,rfl,D5,g5⟩;have K:=K.cur0 C.zg g5;have o:=o.cur0 (Nat.lt_succ_of_lt C.zg) g5;have C:=C.next D5 g5;clear D5 g5
    cases bb with
    |false=>have HL:=aN (And.intro HL.out.1 (fun x I=>by have:=HL.out.2 x I;exact(by omega:-1300<=x/\x<=1000)));have ad:=(some ⟨vb,0,none⟩:Option Addr);have G:=K.cell;have F:=K.frozen;go_wp2;refine bG ?_;intro Wf a6;obtain⟨KF,CF,oF⟩:=gU C K o (Nat.lt_succ_self _) a6;have GF:=KF.cell;clear a6;exact bodyPost_ret (v:=.agg #[N,aI (some ⟨vb,0,none⟩) L.length Y]) (by simp[results,results147,go_sem,GF]) rfl ⟨N,_,_,Y,L,rfl,by omega,oF,HL.out.1,HL.out.2,CF.D,CF.gr⟩
    |true=>
     have oA:=aP.lit0 (E:=3) (B:=w5.heap.size) w5 aO;have rO:vb<w5.heap.size:=(o.lt vb rfl).2;have r1:w.heap.size<vb:=(o.lt vb rfl).1;have HC:=aN C;have HO:=aN o;have HK:=aN K;clear C o K;go_wp2_with fail;go_loopw [10,11] (fun a i wr=>∃(k:Nat) (a1:Option Addr) (n1 c1:Nat) (A:List Int),k<=N/\i=aM k/\a=aI a1 n1 c1/\A.length=k/\(∀x∈A,0<=x/\x<=3)/\aP 3 w5 wr (aI a1 n1 c1) A/\Cur w wr g/\aP 3 (w.heap.size+1) wr (aI (some ⟨vb,0,none⟩) L.length Y) L/\aU wr w 26 #[aJ,()]/\w5.heap.size<=wr.heap.size) (fun _ i _=>N-(intOf i).toNat)
     case atStart=>exact⟨0,_,_,_,[],Nat.zero_le _,rfl,rfl,rfl,by simp,oA,HC.out.alloc _,HO.out.alloc _,HK.out.alloc _,by simp⟩
     case round=>
      obtain⟨k,a1,n1,c1,A,hk,rfl,rfl,b5,hA,a8,C,o,K,z5⟩:=hrel;clear oA;by_cases hlt:k<N
      ·have a7:(k:Int)<(N:Int):=aK;have HA:=aN (And.intro b5 hA);have p9:A.length<=5:=aK;clear b5 hA;go_wp2_with fail;refine(cU wr g C.D 4).mono ?_;rintro e w6 ⟨x,rfl,_,I,_,D6,g6⟩;have I:=I aK;have n3:=I.1;have o1:=I.2;have K:=K.cur0 C.zg g6;have o:=o.cur0 (Nat.lt_succ_of_lt C.zg) g6;have oA:=a8.cur0 (by have:=C.zg;omega) g6;have C:=C.next D6 g6;have y6:=g6.size;have rA:=oA.lt;clear D6 g6 I a8;have HC:=aN C;have HO:=aN o;have HK:=aN K;have O:=aN rA;clear C o K rA;go_wp2_with (at_builtin;refine dI rfl _ _ _ rfl 3 underlying24 aS w5.heap.size (aI a1 n1 c1) A x _ rfl rfl (bB _ _ _ _ _ rfl) (oA.alloc _) ⟨by omega,by omega⟩ aK aV ?_;intro v7 w7 o7 g7 h7;obtain⟨p7,i7,q7,rfl⟩:=o7.shape3);have C7:=(HC.out.alloc (.cells #[x] 3)).row g7 (fun q hq=>by have:=(O.out q hq).1;omega);have O7:=(HO.out.alloc (.cells #[x] 3)).grow g7 (fun q hq e=>by have:=(O.out q hq).1;have e2:vb=q:=Option.some.inj e;omega);have K7:=(HK.out.alloc (.cells #[x] 3)).grow g7 (fun e=>by have:=(O.out _ e).1;omega);have z7:=g7.size;simp at z7;go_roundw
       case rel=>
        refine⟨k+1,p7,i7,q7,A++[x],by omega,by go_num,rfl,by simp;exact HA.out.1,fun z S=>?_,o7,C7,O7,K7,by omega⟩;rcases List.mem_append.1 S with S|S
        ·exact HA.out.2 z S
        ·rw[List.mem_singleton.1 S];omega
       case measure=>simp[intOf];omega
      ·have c5:k=N:=aK;have n0:¬(k:Int)<(N:Int):=aK;have l8:n1=A.length:=a8.ints.capLe.1;subst l8;have HA:=aN (And.intro (b5.trans c5) hA);clear b5 hA c5;obtain⟨WB,l4⟩:∃WB:World,WB=wr:=⟨_,rfl⟩;subst l4;have rA:=a8.lt;have f8:L.length=2^N:=HL.out.1;have O:=aN rA;have e5:=aN f8;have g9:=HL.out.2;have k6:=aN (fun x I=>by have:=g9 x I;exact(by omega:-1000-12*((0:Nat):Int)<=x/\x<=1000));clear rA f8 g9;go_wp2_with fail;go_loopw [12] (fun i wr=>∃(s:Nat) (M:List Int),s<=2^N/\i=aM s/\M.length=L.length/\(∀x∈M,-1000-12*(s:Int)<=x/\x<=1000)/\aP 3 (w.heap.size+1) wr (aI (some ⟨vb,0,none⟩) L.length Y) M/\aP 3 w5 wr (aI a1 A.length c1) A/\Cur w wr g/\aU wr w 26 #[aJ,()]) (fun i _=>2^N-(intOf i).toNat)
       case atStart=>exact⟨0,L,Nat.zero_le _,rfl,rfl,k6.out,o,a8,C,K⟩
       case round=>
        obtain⟨s,M,hs,rfl,J,R,oM,h8,C2,K2⟩:=hrel;clear o a8 C K;have HM:=aN (And.intro J R);clear J R;by_cases hlt:s<2^N
        ·have a7:(s:Int)<(2:Int)^N:=by rw[<-c6.out];exact_mod_cast hlt
         go_wp2_with fail;go_loopw [13] (fun i wr=>∃(k:Nat) (M:List Int),k<=N/\i=aM k/\M.length=L.length/\(∀x∈M,-1000-12*(s:Int)-3*(k:Int)<=x/\x<=1000)/\aP 3 (w.heap.size+1) wr (aI (some ⟨vb,0,none⟩) L.length Y) M/\aP 3 w5 wr (aI a1 A.length c1) A/\Cur w wr g/\aU wr w 26 #[aJ,()]) (fun i _=>N-(intOf i).toNat)
         case atStart=>exact⟨0,M,Nat.zero_le _,rfl,HM.out.1,fun x I=>by have:=HM.out.2 x I;omega,oM,h8,C2,K2⟩
         case round=>
          obtain⟨k,M',hk,rfl,J,R,a9,c8,C3,K3⟩:=hrel;clear oM h8 C2 K2;by_cases l5:k<N
          ·have g8:(k:Int)<(N:Int):=aK;have b9:k<A.length:=by rw[HA.out.1];exact l5
           have e7:s<M'.length:=by rw[J,e5.out];exact hlt
           have b7:=HA.out.2 _ (List.getElem_mem b9);have b8:=R _ (List.getElem_mem e7);obtain⟨xa,ba,o4,ya,m2,_,h0,ca,k9⟩:=c8.ints.view prog 24 3 underlying24 aS;injection m2 with e1 _ e3;subst e1 e3;have l0:=ca k b9;have ia:=fun W=>h0 W k b9;have l1:=a9.cellAt J.symm s e7;have q1:=a9.frozenAt J.symm s;obtain⟨y,hy⟩:=aQ (A[k]);obtain⟨z,S⟩:=aQ (M'[s]);rw[<-hy]at l0 b7;rw[<-S]at l1 b8;have q5:=b7.1;have q6:=b7.2;have q8:=b8.1;have q9:=b8.2;have h9:=fun q=>((a9.drewN q).stored J.symm s (z-y) ⟨by omega,by omega⟩);have f9:∀x∈M'.set s (z-y),-1000-12*(s:Int)-3*((k+1:Nat):Int)<=x/\x<=1000:=fun x I=>by have:=J4 (a:=-1000-12*(s:Int)-3*((k+1:Nat):Int)) (b:=1000) (fun x I=>by have:=R x I;omega) (y:=z-y) aK x I;exact this
           have g0:∀x∈M',-1000-12*(s:Int)-3*((k+1:Nat):Int)<=x/\x<=1000:=fun x I=>by have:=R x I;omega
           have d7:(M'.set s (z-y)).length=L.length:=by rw[List.length_set];exact J
           have b3:=aN h9;have HB:=aN (And.intro f9 (And.intro g0 (And.intro d7 J)));have HC:=aN C3;have HK:=aN K3;have f4:=aN c8;have k7:=aN a9;have q2:(s:Int)<(L.length:Int):=by rw[e5.out];exact_mod_cast hlt
           clear J R b7 b8 hy S ca k9 h0 h9 f9 g0 d7 b9 e7 C3 K3 c8 a9;have m9:=jO (s:Int) k aK aK;obtain⟨t,ht⟩:∃t,(dO (s:Int) k==1)=t:=⟨_,rfl⟩
           cases t with
           |false=>
            go_wp2_with fail;go_roundw
            case rel=>exact⟨k+1,M',by omega,by go_num,HB.out.2.2.2,HB.out.2.1,k7.out,f4.out,HC.out,HK.out⟩
            case measure=>simp[intOf];omega
           |true=>
            go_wp2_with fail;go_region
            all_goals go_wp2
            go_roundw
            case rel=>exact⟨k+1,M'.set s (z-y),by omega,by go_num,HB.out.2.2.1,HB.out.1,(b3.out _).1,(f4.out.drewN _).grow (b3.out _).2 (fun q hq e=>by have:=(O.out q e).1;have e2:vb=q:=Option.some.inj hq;omega),(HC.out.drewN _).row (b3.out _).2 (fun b e=>by have e2:vb=b:=Option.some.inj e;omega),(HK.out.drewN _).grow (b3.out _).2 (fun e=>by have e2:vb=w.heap.size:=Option.some.inj e;omega)⟩
            case measure=>simp[intOf];omega
          ·have c5:k=N:=aK;have g8:¬(k:Int)<(N:Int):=aK;have g4:∀x∈M',-1000-12*((s+1:Nat):Int)<=x/\x<=1000:=fun x I=>by have:=R x I;omega
           have HB:=aN (And.intro J g4);clear J R g4 c5;go_wp2_with fail;go_roundw
           case rel=>exact⟨s+1,M',by omega,by go_num,HB.out.1,HB.out.2,a9,c8,C3,K3⟩
           case measure=>simp[intOf];omega
        ·have c7:s=2^N:=aK;have a7:¬(s:Int)<(2:Int)^N:=by rw[<-c6.out];exact_mod_cast hlt
         have Z:=aN (And.intro (HM.out.1.trans e5.out) (fun x I=>by have:=HM.out.2 x I;exact(by omega:-1300<=x/\x<=1000)));clear c7 hs;have G:=K2.cell;have F:=K2.frozen;go_wp2;refine bG ?_;intro Wf a6;obtain⟨KF,CF,oF⟩:=gU C2 K2 oM (Nat.lt_succ_self _) a6;have GF:=KF.cell;clear a6;exact bodyPost_ret (v:=.agg #[N,aI (some ⟨vb,0,none⟩) L.length Y]) (by simp[results,results147,go_sem,GF]) rfl (by first|exact⟨N,_,_,Y,M,rfl,by omega,oF,Z.out.1,Z.out.2,CF.D,CF.gr⟩|exact⟨N,_,_,Y,rfl,by omega,M,oF,Z.out.1,Z.out.2,CF.D,CF.gr⟩)
 have t0:(m==0)=false:=by simp[j6]
 have t1:(m==1)=false:=by simp[l6]
 clear j6 l6 hm;go_wp2_with fail;refine(FO w2 g C.D N aK).mono ?_;rintro e w3 ⟨ad,Y,L,rfl,o3,b6,f7,D3,g3⟩;obtain⟨nn,k3⟩:=aQ (2^N);rw[<-k3]at o3 ⊢;clear k3;have o:=o3.mono (B':=w.heap.size+1) K.lt;have K:=K.cur0 C.zg g3;have C:=C.next D3 g3;clear D3 g3 o3 o0;have f6:L.length<=32:=aK;have l9:nn=L.length:=o.ints.capLe.1;obtain⟨vb,m3⟩:∃vb,ad=some ⟨vb,0,none⟩:=by
  rcases o.cases with⟨_,h⟩|⟨b,_,h,_⟩
  ·rw[h]at b6;simp at b6;omega
  ·injection h with h1 _ _;exact⟨b,h1⟩
 subst m3;subst l9;have HL:=aN (And.intro b6 f7);clear b6 f7;go_wp2_with fail;refine(uT _ g C.D 2).mono ?_;rintro e w5 ⟨bb,rfl,D5,g5⟩;have K:=K.cur0 C.zg g5;have o:=o.cur0 (Nat.lt_succ_of_lt C.zg) g5;have C:=C.next D5 g5;clear D5 g5
 cases bb with
 |false=>have HL:=aN (And.intro HL.out.1 (fun x I=>by have:=HL.out.2 x I;exact(by omega:-1300<=x/\x<=1000)));have ad:=(some ⟨vb,0,none⟩:Option Addr);have G:=K.cell;have F:=K.frozen;go_wp2;refine bG ?_;intro Wf a6;obtain⟨KF,CF,oF⟩:=gU C K o (Nat.lt_succ_self _) a6;have GF:=KF.cell;clear a6;exact bodyPost_ret (v:=.agg #[N,aI (some ⟨vb,0,none⟩) L.length Y]) (by simp[results,results147,go_sem,GF]) rfl ⟨N,_,_,Y,L,rfl,by omega,oF,HL.out.1,HL.out.2,CF.D,CF.gr⟩
 |true=>
  have oA:=aP.lit0 (E:=3) (B:=w5.heap.size) w5 aO;have rO:vb<w5.heap.size:=(o.lt vb rfl).2;have r1:w.heap.size<vb:=(o.lt vb rfl).1;have HC:=aN C;have HO:=aN o;have HK:=aN K;clear C o K;go_wp2_with fail;go_loopw [10,11] (fun a i wr=>∃(k:Nat) (a1:Option Addr) (n1 c1:Nat) (A:List Int),k<=N/\i=aM k/\a=aI a1 n1 c1/\A.length=k/\(∀x∈A,0<=x/\x<=3)/\aP 3 w5 wr (aI a1 n1 c1) A/\Cur w wr g/\aP 3 (w.heap.size+1) wr (aI (some ⟨vb,0,none⟩) L.length Y) L/\aU wr w 26 #[aJ,()]/\w5.heap.size<=wr.heap.size) (fun _ i _=>N-(intOf i).toNat)
  case atStart=>exact⟨0,_,_,_,[],Nat.zero_le _,rfl,rfl,rfl,by simp,oA,HC.out.alloc _,HO.out.alloc _,HK.out.alloc _,by simp⟩
  case round=>
   obtain⟨k,a1,n1,c1,A,hk,rfl,rfl,b5,hA,a8,C,o,K,z5⟩:=hrel;clear oA;by_cases hlt:k<N
   ·have a7:(k:Int)<(N:Int):=aK;have HA:=aN (And.intro b5 hA);have p9:A.length<=5:=aK;clear b5 hA;go_wp2_with fail;refine(cU wr g C.D 4).mono ?_;rintro e w6 ⟨x,rfl,_,I,_,D6,g6⟩;have I:=I aK;have n3:=I.1;have o1:=I.2;have K:=K.cur0 C.zg g6;have o:=o.cur0 (Nat.lt_succ_of_lt C.zg) g6;have oA:=a8.cur0 (by have:=C.zg;omega) g6;have C:=C.next D6 g6;have y6:=g6.size;have rA:=oA.lt;clear D6 g6 I a8;have HC:=aN C;have HO:=aN o;have HK:=aN K;have O:=aN rA;clear C o K rA;go_wp2_with (at_builtin;refine dI rfl _ _ _ rfl 3 underlying24 aS w5.heap.size (aI a1 n1 c1) A x _ rfl rfl (bB _ _ _ _ _ rfl) (oA.alloc _) ⟨by omega,by omega⟩ aK aV ?_;intro v7 w7 o7 g7 h7;obtain⟨p7,i7,q7,rfl⟩:=o7.shape3);have C7:=(HC.out.alloc (.cells #[x] 3)).row g7 (fun q hq=>by have:=(O.out q hq).1;omega);have O7:=(HO.out.alloc (.cells #[x] 3)).grow g7 (fun q hq e=>by have:=(O.out q hq).1;have e2:vb=q:=Option.some.inj e;omega);have K7:=(HK.out.alloc (.cells #[x] 3)).grow g7 (fun e=>by have:=(O.out _ e).1;omega);have z7:=g7.size;simp at z7;go_roundw
    case rel=>
     refine⟨k+1,p7,i7,q7,A++[x],by omega,by go_num,rfl,by simp;exact HA.out.1,fun z S=>?_,o7,C7,O7,K7,by omega⟩;rcases List.mem_append.1 S with S|S
     ·exact HA.out.2 z S
     ·rw[List.mem_singleton.1 S];omega
    case measure=>simp[intOf];omega
   ·have c5:k=N:=aK;have n0:¬(k:Int)<(N:Int):=aK;have l8:n1=A.length:=a8.ints.capLe.1;subst l8;have HA:=aN (And.intro (b5.trans c5) hA);clear b5 hA c5;obtain⟨WB,l4⟩:∃WB:World,WB=wr:=⟨_,rfl⟩;subst l4;have rA:=a8.lt;have f8:L.length=2^N:=HL.out.1;have O:=aN rA;have e5:=aN f8;have g9:=HL.out.2;have k6:=aN (fun x I=>by have:=g9 x I;exact(by omega:-1000-12*((0:Nat):Int)<=x/\x<=1000));clear rA f8 g9;go_wp2_with fail;go_loopw [12] (fun i wr=>∃(s:Nat) (M:List Int),s<=2^N/\i=aM s/\M.length=L.length/\(∀x∈M,-1000-12*(s:Int)<=x/\x<=1000)/\aP 3 (w.heap.size+1) wr (aI (some ⟨vb,0,none⟩) L.length Y) M/\aP 3 w5 wr (aI a1 A.length c1) A/\Cur w wr g/\aU wr w 26 #[aJ,()]) (fun i _=>2^N-(intOf i).toNat)
    case atStart=>exact⟨0,L,Nat.zero_le _,rfl,rfl,k6.out,o,a8,C,K⟩
    case round=>
     obtain⟨s,M,hs,rfl,J,R,oM,h8,C2,K2⟩:=hrel;clear o a8 C K;have HM:=aN (And.intro J R);clear J R;by_cases hlt:s<2^N
     ·have a7:(s:Int)<(2:Int)^N:=by rw[<-c6.out];exact_mod_cast hlt
      go_wp2_with fail;go_loopw [13] (fun i wr=>∃(k:Nat) (M:List Int),k<=N/\i=aM k/\M.length=L.length/\(∀x∈M,-1000-12*(s:Int)-3*(k:Int)<=x/\x<=1000)/\aP 3 (w.heap.size+1) wr (aI (some ⟨vb,0,none⟩) L.length Y) M/\aP 3 w5 wr (aI a1 A.length c1) A/\Cur w wr g/\aU wr w 26 #[aJ,()]) (fun i _=>N-(intOf i).toNat)
      case atStart=>exact⟨0,M,Nat.zero_le _,rfl,HM.out.1,fun x I=>by have:=HM.out.2 x I;omega,oM,h8,C2,K2⟩
      case round=>
       obtain⟨k,M',hk,rfl,J,R,a9,c8,C3,K3⟩:=hrel;clear oM h8 C2 K2;by_cases l5:k<N
       ·have g8:(k:Int)<(N:Int):=aK;have b9:k<A.length:=by rw[HA.out.1];exact l5
        have e7:s<M'.length:=by rw[J,e5.out];exact hlt
        have b7:=HA.out.2 _ (List.getElem_mem b9);have b8:=R _ (List.getElem_mem e7);obtain⟨xa,ba,o4,ya,m2,_,h0,ca,k9⟩:=c8.ints.view prog 24 3 underlying24 aS;injection m2 with e1 _ e3;subst e1 e3;have l0:=ca k b9;have ia:=fun W=>h0 W k b9;have l1:=a9.cellAt J.symm s e7;have q1:=a9.frozenAt J.symm s;obtain⟨y,hy⟩:=aQ (A[k]);obtain⟨z,S⟩:=aQ (M'[s]);rw[<-hy]at l0 b7;rw[<-S]at l1 b8;have q5:=b7.1;have q6:=b7.2;have q8:=b8.1;have q9:=b8.2;have h9:=fun q=>((a9.drewN q).stored J.symm s (z-y) ⟨by omega,by omega⟩);have f9:∀x∈M'.set s (z-y),-1000-12*(s:Int)-3*((k+1:Nat):Int)<=x/\x<=1000:=fun x I=>by have:=J4 (a:=-1000-12*(s:Int)-3*((k+1:Nat):Int)) (b:=1000) (fun x I=>by have:=R x I;omega) (y:=z-y) aK x I;exact this
        have g0:∀x∈M',-1000-12*(s:Int)-3*((k+1:Nat):Int)<=x/\x<=1000:=fun x I=>by have:=R x I;omega
        have d7:(M'.set s (z-y)).length=L.length:=by rw[List.length_set];exact J
        have b3:=aN h9;have HB:=aN (And.intro f9 (And.intro g0 (And.intro d7 J)));have HC:=aN C3;have HK:=aN K3;have f4:=aN c8;have k7:=aN a9;have q2:(s:Int)<(L.length:Int):=by rw[e5.out];exact_mod_cast hlt
        clear J R b7 b8 hy S ca k9 h0 h9 f9 g0 d7 b9 e7 C3 K3 c8 a9;have m9:=jO (s:Int) k aK aK;obtain⟨t,ht⟩:∃t,(dO (s:Int) k==1)=t:=⟨_,rfl⟩
        cases t with
        |false=>
         go_wp2_with fail;go_roundw
         case rel=>exact⟨k+1,M',by omega,by go_num,HB.out.2.2.2,HB.out.2.1,k7.out,f4.out,HC.out,HK.out⟩
         case measure=>simp[intOf];omega
        |true=>
         go_wp2_with fail;go_region
         all_goals go_wp2
         go_roundw
         case rel=>exact⟨k+1,M'.set s (z-y),by omega,by go_num,HB.out.2.2.1,HB.out.1,(b3.out _).1,(f4.out.drewN _).grow (b3.out _).2 (fun q hq e=>by have:=(O.out q e).1;have e2:vb=q:=Option.some.inj hq;omega),(HC.out.drewN _).row (b3.out _).2 (fun b e=>by have e2:vb=b:=Option.some.inj e;omega),(HK.out.drewN _).grow (b3.out _).2 (fun e=>by have e2:vb=w.heap.size:=Option.some.inj e;omega)⟩
         case measure=>simp[intOf];omega
       ·have c5:k=N:=aK;have g8:¬(k:Int)<(N:Int):=aK;have g4:∀x∈M',-1000-12*((s+1:Nat):Int)<=x/\x<=1000:=fun x I=>by have:=R x I;omega
        have HB:=aN (And.intro J g4);clear J R g4 c5;go_wp2_with fail;go_roundw
        case rel=>exact⟨s+1,M',by omega,by go_num,HB.out.1,HB.out.2,a9,c8,C3,K3⟩
        case measure=>simp[intOf];omega
     ·have c7:s=2^N:=aK;have a7:¬(s:Int)<(2:Int)^N:=by rw[<-c6.out];exact_mod_cast hlt
      have Z:=aN (And.intro (HM.out.1.trans e5.out) (fun x I=>by have:=HM.out.2 x I;exact(by omega:-1300<=x/\x<=1000)));clear c7 hs;have G:=K2.cell;have F:=K2.frozen;go_wp2;refine bG ?_;intro Wf a6;obtain⟨KF,CF,oF⟩:=gU C2 K2 oM (Nat.lt_succ_self _) a6;have GF:=KF.cell;clear a6;exact bodyPost_ret (v:=.agg #[N,aI (some ⟨vb,0,none⟩) L.length Y]) (by simp[results,results147,go_sem,GF]) rfl (by first|exact⟨N,_,_,Y,M,rfl,by omega,oF,Z.out.1,Z.out.2,CF.D,CF.gr⟩|exact⟨N,_,_,Y,rfl,by omega,M,oF,Z.out.1,Z.out.2,CF.D,CF.gr⟩)
end
end Go.Proofs.YtcpoomdoodlkjaaGreatDoor
