/- Lemmas for CardClaims, part 14 of 52. No condition. -/
import Derived.Test.YtipejodijbjpcaaGreatDoorQ13
set_option maxRecDepth 100000
set_option maxHeartbeats 64000000
namespace Go.Proofs.YtipejodijbjpcaaGreatDoor
section
open Go.RowKit Go.G5
theorem eX{w z Wf:World}{g B:Nat}{n:Int}{A:Option Addr}{i D:Nat}{l:List Int}(C:Cur w z g)(K:aB z w.heap.size 32 #[.int .i64 0,.slice none 0 0])(o:aC 3 B z (.slice A i D) l)(M:w.heap.size<B)
  (F:Wf=(z.setCell ⟨w.heap.size,0,none⟩ (.int .i64 n)).setCell ⟨w.heap.size,1,none⟩ (.slice A i D)):aB Wf w.heap.size 32 #[.int .i64 n,.slice A i D]/\Cur w Wf g/\aC 3 w.heap.size Wf (.slice A i D) l:=by
 have I:z.grownBy Wf (some w.heap.size):=by rw[F];exact aA (aA (World.grownBy.refl _ _) 0 _) 1 _
 refine⟨?_,C.row I (fun b e=>by have:=Option.some.inj e;omega),(o.grow I (fun q L e=>by have:=Option.some.inj L;have:=(o.lt _ e).1;omega)).mono (by omega)⟩;rw[F];have:=(K.set 0 (.int .i64 n)).set 1 (.slice A i D);simpa using this
theorem Cur.drewN{w wr:World}{g:Nat}(h:Cur w wr g)(n:Nat):Cur w (wr.drewN n) g:=h.keep ((Below.refl _ _).drewN' n)
theorem A1{L:List Int}{s:Nat}{y a b:Int}(h:∀x∈L,a<=x/\x<=b)(z:a<=y/\y<=b):∀x∈L.set s y,a<=x/\x<=b:=by
 intro x o
 rcases List.mem_or_eq_of_mem_set o with o|o
 ·exact h x o
 ·rw[o];exact z
theorem OW(w:World)(g:Nat)(D:Dr w g):
  Calls Tryz.prog 339 #[.pointer (some ⟨g,0,none⟩),.int .i64 4] w fun e w'=>∃(N:Nat) (ad:Option Addr) (i U:Nat) (l:List Int),e=.returned (.agg #[.int .i64 (N:Int),.slice ad i U])/\N<=4/\aC 3 w.heap.size w' (.slice ad i U) l/\l.length=2^N/\(∀x∈l,-1300<=x/\x<=1000)/\Dr w' g/\w.grownBy w' (some g):=by
 go_enter Tryz.func339,Tryz.ntmps339;go_wp2_with fail;refine aH ?_;intro V hV;have C:Cur w V g:=by rw[hV];exact(Cur.start D).alloc _
 have K:aB V w.heap.size 32 #[.int .i64 0,.slice none 0 0]:=by rw[hV];exact aB.new _ _ _
 clear hV;refine(aU V g C.D 5).mono ?_;rintro e w1 ⟨n,rfl,_,hn,_,D1,g1⟩;have hn:=hn (by omega);have K:=K.cur0 C.zg g1;have C:=C.next D1 g1;obtain⟨N,rfl⟩:=Int.eq_ofNat_of_zero_le hn.1;have hN:N<=4:=by omega
 clear g1 D1 hn;have v1:(2:Nat)^N<=16:=Nat.pow_le_pow_right (n:=2) (by decide) hN;have c6:=Lib.hid (show((2^N:Nat):Int)=(2:Int)^N by simp);have tp:=bJ N 4 hN;have u7:(2:Int)^N<=16:=by rw[<-c6.out];omega
 have u8:=tp.2;have u9:=Nat.two_pow_pos N;have v6:IntKind.i64.wrap ((2:Int)^N)=(2:Int)^N:=by rw[IntKind.wrap_i64];omega
 clear tp;have yK:=K.lt;go_wp2_with fail;refine aH ?_;intro V1 m1;have o0:aC 3 (w.heap.size+1) V1 (.slice (some ⟨w1.heap.size,0,none⟩) 0 0) []:=by rw[m1];exact aC.lit0 w1 yK
 have C:=C.alloc (.cells #[] 3);have K:=K.alloc (.cells #[] 3);rw[<-m1]at C K;clear m1;refine(aU V1 g C.D 5).mono ?_;rintro e w2 ⟨m,rfl,_,hm,_,D2,g2⟩;have hm:=hm (by omega);have K:=K.cur0 C.zg g2;have o0:=o0.cur0 (Nat.lt_succ_of_lt C.zg) g2;have C:=C.next D2 g2;clear D2 g2
 by_cases k0:m=0
 ·subst k0
  go_wp2_with fail;go_loopw [6,7] (fun v i wr=>∃(s:Nat) (ad:Option Addr) (nn U:Nat) (L:List Int),s<=2^N/\v=.slice ad nn U/\i=.int .i64 s/\L.length=s/\(∀x∈L,-1<=x/\x<=5)/\aC 3 (w.heap.size+1) wr (.slice ad nn U) L/\Cur w wr g/\aB wr w.heap.size 32 #[.int .i64 0,.slice none 0 0]) (fun _ i _=>2^N-(intOf i).toNat)
  case atStart=>exact⟨0,_,_,_,[],Nat.zero_le _,rfl,rfl,rfl,by simp,o0,C,K⟩
  case round=>
   obtain⟨s,ad,nn,U,L,hs,rfl,rfl,f3,hL,o,C,K⟩:=hrel;clear o0;have HL:=Lib.hid (And.intro f3 hL);have g4:L.length<=32:=by omega
   clear f3 hL
   by_cases hlt:s<2^N
   ·have a6:(s:Int)<(2:Int)^N:=by rw[<-c6.out];exact_mod_cast hlt
    go_wp2_with fail;refine(aU wr g C.D 6).mono ?_;rintro e w6 ⟨x,rfl,_,I,_,D6,g6⟩;have I:=I (by omega);have p1:=I.1;have p5:=I.2;have K:=K.cur0 C.zg g6;have o:=o.cur0 (Nat.lt_succ_of_lt C.zg) g6;have C:=C.next D6 g6;have y6:=K.lt;have HC:=Lib.hid C;have HK:=Lib.hid K;have Q:=Lib.hid o.lt;clear C K D6 g6 I;go_wp2_with (at_builtin;refine bB rfl _ _ _ rfl 3 Tryz.underlying22 aG (w.heap.size+1) (.slice ad nn U) L (x-1) _ rfl rfl (aT _ _ _ _ _ rfl) (o.alloc _) ⟨by omega,by omega⟩ (by omega) (by simp;omega) ?_;intro v7 w7 o7 g7 h7;obtain⟨p7,i7,q7,rfl⟩:=o7.shape3);have C7:=(HC.out.alloc (.cells #[.int .i64 (x-1)] 3)).row g7 (fun q hq=>by have:=(Q.out q hq).1;omega);have K7:=(HK.out.alloc (.cells #[.int .i64 (x-1)] 3)).grow g7 (fun e=>by have:=(Q.out _ e).1;omega);go_roundw
    case rel=>
     refine⟨s+1,p7,i7,q7,L++[x-1],by omega,rfl,by go_num,by simp;exact HL.out.1,fun z S=>?_,o7,C7,K7⟩
     rcases List.mem_append.1 S with S|S
     ·exact HL.out.2 z S
     ·rw[List.mem_singleton.1 S];omega
    case measure=>simp[intOf];omega
   ·have c7:s=2^N:=by omega
    have a6:¬(s:Int)<(2:Int)^N:=by rw[<-c6.out];exact_mod_cast hlt
    have Y:=Lib.hid (And.intro (HL.out.1.trans c7) (fun x I=>by have:=HL.out.2 x I;exact(by omega:-1300<=x/\x<=1000)));clear c7 hs;have G:=K.cell;have F:=K.frozen;go_wp2;refine aI ?_;intro Wf Z;obtain⟨KF,CF,oF⟩:=eX C K o (Nat.lt_succ_self _) Z;have GF:=KF.cell;clear Z;exact bodyPost_ret (v:=.agg #[.int .i64 N,.slice ad nn U]) (by simp[results,Tryz.results339,go_sem,GF]) rfl (by first|exact⟨N,_,_,U,L,rfl,by omega,oF,Y.out.1,Y.out.2,CF.D,CF.gr⟩|exact⟨N,_,_,U,rfl,by omega,L,oF,Y.out.1,Y.out.2,CF.D,CF.gr⟩)
 by_cases m4:m=1
 ·subst m4
  have t0:((1:Int)==0)=false:=by simp
  have v8:IntKind.i64.wrap ((N:Int)+1)=(N:Int)+1:=by rw[IntKind.wrap_i64];omega
  clear hm k0;go_wp2_with fail;refine(aU w2 g C.D ((N:Int)+1)).mono ?_;rintro e w3 ⟨e7,rfl,_,I,_,D3,g3⟩;have I:=I (by omega);have r9:=I.1;have s0:=I.2;have K:=K.cur0 C.zg g3;have o0:=o0.cur0 (Nat.lt_succ_of_lt C.zg) g3;have C:=C.next D3 g3;clear D3 g3 I;go_wp2_with fail;go_loopw [6,9] (fun v i wr=>∃(s:Nat) (ad:Option Addr) (nn U:Nat) (L:List Int),s<=2^N/\v=.slice ad nn U/\i=.int .i64 s/\L.length=s/\(∀x∈L,-1000<=x/\x<=1000)/\aC 3 (w.heap.size+1) wr (.slice ad nn U) L/\Cur w wr g/\aB wr w.heap.size 32 #[.int .i64 0,.slice none 0 0]) (fun _ i _=>2^N-(intOf i).toNat)
  case atStart=>exact⟨0,_,_,_,[],Nat.zero_le _,rfl,rfl,rfl,by simp,o0,C,K⟩
  case round=>
   obtain⟨s,ad,nn,U,L,hs,rfl,rfl,f3,hL,o,C,K⟩:=hrel;clear o0
   by_cases hlt:s<2^N
   ·have a6:(s:Int)<(2:Int)^N:=by rw[<-c6.out];exact_mod_cast hlt
    have HL:=Lib.hid (And.intro f3 hL);have g4:L.length<=32:=by omega
    clear f3 hL;have u2:=rU s (by omega);have q5:=Lib.hid (fun W=>jO s W (by omega));have x0:=K.lt;have HC:=Lib.hid C;have HO:=Lib.hid o;have HK:=Lib.hid K;have Q:=Lib.hid o.lt;clear C K;go_wp2_with fail;refine(q5.out _).mono ?_;rintro e w6 ⟨rfl,rfl⟩
    rcases(show(aY s:Int)<e7∨e7<=(aY s:Int) by omega) with p0|p0
    ·have m5:¬e7<=(aY s:Int):=by omega
     go_wp2_with (at_builtin;refine bB rfl _ _ _ rfl 3 Tryz.underlying22 aG (w.heap.size+1) (.slice ad nn U) L (aY s:Int) _ rfl rfl (aT _ _ _ _ _ rfl) (HO.out.alloc _) ⟨by omega,by omega⟩ (by omega) (by simp;omega) ?_;intro v7 w7 o7 g7 h7;obtain⟨p7,i7,q7,rfl⟩:=o7.shape3);have C7:=(HC.out.alloc (.cells #[.int .i64 (aY s:Int)] 3)).row g7 (fun q hq=>by have:=(Q.out q hq).1;omega);have K7:=(HK.out.alloc (.cells #[.int .i64 (aY s:Int)] 3)).grow g7 (fun e=>by have:=(Q.out _ e).1;omega);go_roundw
     case rel=>
      refine⟨s+1,p7,i7,q7,L++[(aY s:Int)],by omega,rfl,by go_num,by simp;exact HL.out.1,fun z S=>?_,o7,C7,K7⟩
      rcases List.mem_append.1 S with S|S
      ·exact HL.out.2 z S
      ·rw[List.mem_singleton.1 S];omega
     case measure=>simp[intOf];omega
    ·have m5:¬(aY s:Int)<e7:=by omega
     go_wp2_with (at_builtin;refine bB rfl _ _ _ rfl 3 Tryz.underlying22 aG (w.heap.size+1) (.slice ad nn U) L e7 _ rfl rfl (aT _ _ _ _ _ rfl) (HO.out.alloc _) ⟨by omega,by omega⟩ (by omega) (by simp;omega) ?_;intro v7 w7 o7 g7 h7;obtain⟨p7,i7,q7,rfl⟩:=o7.shape3);have C7:=(HC.out.alloc (.cells #[.int .i64 e7] 3)).row g7 (fun q hq=>by have:=(Q.out q hq).1;omega);have K7:=(HK.out.alloc (.cells #[.int .i64 e7] 3)).grow g7 (fun e=>by have:=(Q.out _ e).1;omega);go_roundw
     case rel=>
      refine⟨s+1,p7,i7,q7,L++[e7],by omega,rfl,by go_num,by simp;exact HL.out.1,fun z S=>?_,o7,C7,K7⟩
      rcases List.mem_append.1 S with S|S
      ·exact HL.out.2 z S
      ·rw[List.mem_singleton.1 S];omega
     case measure=>simp[intOf];omega
   ·have c7:s=2^N:=by omega
    have a6:¬(s:Int)<(2:Int)^N:=by rw[<-c6.out];exact_mod_cast hlt
    have b6:L.length=2^N:=f3.trans c7;have g8:=hL;clear f3 hL c7 hs hlt;have g4:L.length<=32:=by omega
    have m7:nn=L.length:=o.ints.capLe.1;obtain⟨vb,n0⟩:∃vb,ad=some ⟨vb,0,none⟩:=by
     rcases o.cases with⟨_,h⟩|⟨b,_,h,_⟩
     ·rw[h]at b6;simp at b6;omega
     ·injection h with h1 _ _
      exact⟨b,h1⟩
    subst n0;subst m7;have HL:=Lib.hid (And.intro b6 g8);clear b6 g8;go_wp2_with fail;refine(iH _ g C.D 2).mono ?_;rintro e w5 ⟨bb,rfl,D5,g5⟩;have K:=K.cur0 C.zg g5;have o:=o.cur0 (Nat.lt_succ_of_lt C.zg) g5;have C:=C.next D5 g5;clear D5 g5
    cases bb with
    |false=>
     have HL:=Lib.hid (And.intro HL.out.1 (fun x I=>by have:=HL.out.2 x I;exact(by omega:-1300<=x/\x<=1000)));have ad:=(some ⟨vb,0,none⟩:Option Addr);have G:=K.cell;have F:=K.frozen;go_wp2;refine aI ?_;intro Wf Z;obtain⟨KF,CF,oF⟩:=eX C K o (Nat.lt_succ_self _) Z;have GF:=KF.cell;clear Z;exact bodyPost_ret (v:=.agg #[.int .i64 N,.slice (some ⟨vb,0,none⟩) L.length U]) (by simp[results,Tryz.results339,go_sem,GF]) rfl ⟨N,_,_,U,L,rfl,by omega,oF,HL.out.1,HL.out.2,CF.D,CF.gr⟩
    |true=>
     have oA:=aC.lit0 (E:=3) (B:=w5.heap.size) w5 (Nat.le_refl _);have rO:vb<w5.heap.size:=(o.lt vb rfl).2;have t5:w.heap.size<vb:=(o.lt vb rfl).1;have HC:=Lib.hid C;have HO:=Lib.hid o;have HK:=Lib.hid K;clear C o K;go_wp2_with fail;go_loopw [10,11] (fun a i wr=>∃(k:Nat) (a1:Option Addr) (n1 c1:Nat) (A:List Int),k<=N/\i=.int .i64 k/\a=.slice a1 n1 c1/\A.length=k/\(∀x∈A,0<=x/\x<=3)/\aC 3 w5.heap.size wr (.slice a1 n1 c1) A/\Cur w wr g/\aC 3 (w.heap.size+1) wr (.slice (some ⟨vb,0,none⟩) L.length U) L/\aB wr w.heap.size 32 #[.int .i64 0,.slice none 0 0]/\w5.heap.size<=wr.heap.size) (fun _ i _=>N-(intOf i).toNat)
     case atStart=>exact⟨0,_,_,_,[],Nat.zero_le _,rfl,rfl,rfl,by simp,oA,HC.out.alloc _,HO.out.alloc _,HK.out.alloc _,by simp⟩
     case round=>
      obtain⟨k,a1,n1,c1,A,hk,rfl,rfl,b5,hA,a7,C,o,K,z5⟩:=hrel;clear oA
      by_cases hlt:k<N
      ·have a6:(k:Int)<(N:Int):=by omega
       have HA:=Lib.hid (And.intro b5 hA);have r0:A.length<=5:=by omega
       clear b5 hA;go_wp2_with fail;refine(aU wr g C.D 4).mono ?_;rintro e w6 ⟨x,rfl,_,I,_,D6,g6⟩;have I:=I (by omega);have p1:=I.1;have p5:=I.2;have K:=K.cur0 C.zg g6;have o:=o.cur0 (Nat.lt_succ_of_lt C.zg) g6;have oA:=a7.cur0 (by have:=C.zg;omega) g6;have C:=C.next D6 g6;have y6:=g6.size;have rA:=oA.lt;clear D6 g6 I a7;have HC:=Lib.hid C;have HO:=Lib.hid o;have HK:=Lib.hid K;have Q:=Lib.hid rA;clear C o K rA;go_wp2_with (at_builtin;refine bB rfl _ _ _ rfl 3 Tryz.underlying22 aG w5.heap.size (.slice a1 n1 c1) A x _ rfl rfl (aT _ _ _ _ _ rfl) (oA.alloc _) ⟨by omega,by omega⟩ (by omega) (by simp;omega) ?_;intro v7 w7 o7 g7 h7;obtain⟨p7,i7,q7,rfl⟩:=o7.shape3);have C7:=(HC.out.alloc (.cells #[.int .i64 x] 3)).row g7 (fun q hq=>by have:=(Q.out q hq).1;omega);have O7:=(HO.out.alloc (.cells #[.int .i64 x] 3)).grow g7 (fun q hq e=>by have:=(Q.out q hq).1;have e2:vb=q:=Option.some.inj e;omega);have K7:=(HK.out.alloc (.cells #[.int .i64 x] 3)).grow g7 (fun e=>by have:=(Q.out _ e).1;omega);have z7:=g7.size;simp at z7;go_roundw
       case rel=>
        refine⟨k+1,p7,i7,q7,A++[x],by omega,by go_num,rfl,by simp;exact HA.out.1,fun z S=>?_,o7,C7,O7,K7,by omega⟩
        rcases List.mem_append.1 S with S|S
        ·exact HA.out.2 z S
        ·rw[List.mem_singleton.1 S];omega
       case measure=>simp[intOf];omega
      ·have c5:k=N:=by omega
       have o9:¬(k:Int)<(N:Int):=by omega
       have m6:n1=A.length:=a7.ints.capLe.1;subst m6;have HA:=Lib.hid (And.intro (b5.trans c5) hA);clear b5 hA c5;obtain⟨WB,m2⟩:∃WB:World,WB=wr:=⟨_,rfl⟩;subst m2;have rA:=a7.lt;have g9:L.length=2^N:=HL.out.1;have Q:=Lib.hid rA;have f2:=Lib.hid g9;have h9:=HL.out.2;have l0:=Lib.hid (fun x I=>by have:=h9 x I;exact(by omega:-1000-12*((0:Nat):Int)<=x/\x<=1000));clear rA g9 h9;go_wp2_with fail;go_loopw [12] (fun i wr=>∃(s:Nat) (M:List Int),s<=2^N/\i=.int .i64 s/\M.length=L.length/\(∀x∈M,-1000-12*(s:Int)<=x/\x<=1000)/\aC 3 (w.heap.size+1) wr (.slice (some ⟨vb,0,none⟩) L.length U) M/\aC 3 w5.heap.size wr (.slice a1 A.length c1) A/\Cur w wr g/\aB wr w.heap.size 32 #[.int .i64 0,.slice none 0 0]) (fun i _=>2^N-(intOf i).toNat)
       case atStart=>exact⟨0,L,Nat.zero_le _,rfl,rfl,l0.out,o,a7,C,K⟩
       case round=>
        obtain⟨s,M,hs,rfl,O,R,oM,i8,C2,K2⟩:=hrel;clear o a7 C K;have HM:=Lib.hid (And.intro O R);clear O R
        by_cases hlt:s<2^N
        ·have a6:(s:Int)<(2:Int)^N:=by rw[<-c6.out];exact_mod_cast hlt
         go_wp2_with fail;go_loopw [13] (fun i wr=>∃(k:Nat) (M:List Int),k<=N/\i=.int .i64 k/\M.length=L.length/\(∀x∈M,-1000-12*(s:Int)-3*(k:Int)<=x/\x<=1000)/\aC 3 (w.heap.size+1) wr (.slice (some ⟨vb,0,none⟩) L.length U) M/\aC 3 w5.heap.size wr (.slice a1 A.length c1) A/\Cur w wr g/\aB wr w.heap.size 32 #[.int .i64 0,.slice none 0 0]) (fun i _=>N-(intOf i).toNat)
         case atStart=>exact⟨0,M,Nat.zero_le _,rfl,HM.out.1,fun x I=>by have:=HM.out.2 x I;omega,oM,i8,C2,K2⟩
         case round=>
          obtain⟨k,M',hk,rfl,O,R,a8,c8,C3,K3⟩:=hrel;clear oM i8 C2 K2
          by_cases m3:k<N
          ·have h8:(k:Int)<(N:Int):=by omega
           have b9:k<A.length:=by rw[HA.out.1];exact m3
           have f4:s<M'.length:=by rw[O,f2.out];exact hlt
           have b7:=HA.out.2 _ (List.getElem_mem b9);have b8:=R _ (List.getElem_mem f4);obtain⟨xa,ba,p8,ya,m9,_,i1,ca,l7⟩:=c8.ints.view Tryz.prog 22 3 Tryz.underlying22 aG
           injection m9 with e1 _ e3
           subst e1 e3;have l8:=ca k b9;have ia:=fun W=>i1 W k b9;have l9:=a8.cellAt O.symm s f4;have r6:=a8.frozenAt O.symm s;obtain⟨y,hy⟩:∃y,y=A[k]:=⟨_,rfl⟩;obtain⟨z,S⟩:∃y,y=M'[s]:=⟨_,rfl⟩;rw[<-hy]at l8 b7;rw[<-S]at l9 b8;have s5:=b7.1;have s6:=b7.2;have s7:=b8.1;have s8:=b8.2;have j0:=fun q=>((a8.drewN q).stored O.symm s (z-y) ⟨by omega,by omega⟩);have h0:∀x∈M'.set s (z-y),-1000-12*(s:Int)-3*((k+1:Nat):Int)<=x/\x<=1000:=fun x I=>by
            have:=A1 (a:=-1000-12*(s:Int)-3*((k+1:Nat):Int)) (b:=1000) (fun x I=>by have:=R x I;omega) (y:=z-y) (by omega) x I;exact this
           have h5:∀x∈M',-1000-12*(s:Int)-3*((k+1:Nat):Int)<=x/\x<=1000:=fun x I=>by have:=R x I;omega
           have e5:(M'.set s (z-y)).length=L.length:=by rw[List.length_set];exact O
           have b1:=Lib.hid j0;have HB:=Lib.hid (And.intro h0 (And.intro h5 (And.intro e5 O)));have HC:=Lib.hid C3;have HK:=Lib.hid K3;have f9:=Lib.hid c8;have l5:=Lib.hid a8;have r8:(s:Int)<(L.length:Int):=by rw[f2.out];exact_mod_cast hlt
           clear O R b7 b8 hy S ca l7 i1 j0 h0 h5 e5 b9 f4 C3 K3 c8 a8;have o8:=dY (s:Int) k (by omega) (by omega);obtain⟨t,ht⟩:∃t,(bR (s:Int) k==1)=t:=⟨_,rfl⟩
           cases t with
           |false=>
            go_wp2_with fail;go_roundw
            case rel=>exact⟨k+1,M',by omega,by go_num,HB.out.2.2.2,HB.out.2.1,l5.out,f9.out,HC.out,HK.out⟩
            case measure=>simp[intOf];omega
           |true=>
            go_wp2_with fail;go_region
            all_goals go_wp2
            go_roundw
            case rel=>exact⟨k+1,M'.set s (z-y),by omega,by go_num,HB.out.2.2.1,HB.out.1,(b1.out _).1,(f9.out.drewN _).grow (b1.out _).2 (fun q hq e=>by have:=(Q.out q e).1;have e2:vb=q:=Option.some.inj hq;omega),(HC.out.drewN _).row (b1.out _).2 (fun b e=>by have e2:vb=b:=Option.some.inj e;omega),(HK.out.drewN _).grow (b1.out _).2 (fun e=>by have e2:vb=w.heap.size:=Option.some.inj e;omega)⟩
            case measure=>simp[intOf];omega
          ·have c5:k=N:=by omega
           have h8:¬(k:Int)<(N:Int):=by omega
           have h6:∀x∈M',-1000-12*((s+1:Nat):Int)<=x/\x<=1000:=fun x I=>by have:=R x I;omega
           have HB:=Lib.hid (And.intro O h6);clear O R h6 c5;go_wp2_with fail;go_roundw
           case rel=>exact⟨s+1,M',by omega,by go_num,HB.out.1,HB.out.2,a8,c8,C3,K3⟩
           case measure=>simp[intOf];omega
        ·have c7:s=2^N:=by omega
         have a6:¬(s:Int)<(2:Int)^N:=by rw[<-c6.out];exact_mod_cast hlt
         have Y:=Lib.hid (And.intro (HM.out.1.trans f2.out) (fun x I=>by have:=HM.out.2 x I;exact(by omega:-1300<=x/\x<=1000)));clear c7 hs;have G:=K2.cell;have F:=K2.frozen;go_wp2;refine aI ?_;intro Wf Z;obtain⟨KF,CF,oF⟩:=eX C2 K2 oM (Nat.lt_succ_self _) Z;have GF:=KF.cell;clear Z;exact bodyPost_ret (v:=.agg #[.int .i64 N,.slice (some ⟨vb,0,none⟩) L.length U]) (by simp[results,Tryz.results339,go_sem,GF]) rfl (by first|exact⟨N,_,_,U,M,rfl,by omega,oF,Y.out.1,Y.out.2,CF.D,CF.gr⟩|exact⟨N,_,_,U,rfl,by omega,M,oF,Y.out.1,Y.out.2,CF.D,CF.gr⟩)
 have t0:(m==0)=false:=by simp[k0]
 have t1:(m==1)=false:=by simp[m4]
 clear k0 m4 hm;go_wp2_with fail;refine(xY w2 g C.D N (by omega)).mono ?_;rintro e w3 ⟨ad,U,L,rfl,o3,b6,g8,D3,g3⟩;obtain⟨nn,k7⟩:∃nn,nn=2^N:=⟨_,rfl⟩;rw[<-k7]at o3 ⊢;clear k7;have o:=o3.mono (B':=w.heap.size+1) K.lt;have K:=K.cur0 C.zg g3;have C:=C.next D3 g3;clear D3 g3 o3 o0;have g4:L.length<=32:=by omega
 have m7:nn=L.length:=o.ints.capLe.1;obtain⟨vb,n0⟩:∃vb,ad=some ⟨vb,0,none⟩:=by
  rcases o.cases with⟨_,h⟩|⟨b,_,h,_⟩
  ·rw[h]at b6;simp at b6;omega
  ·injection h with h1 _ _
   exact⟨b,h1⟩
 subst n0;subst m7;have HL:=Lib.hid (And.intro b6 g8);clear b6 g8;go_wp2_with fail;refine(iH _ g C.D 2).mono ?_;rintro e w5 ⟨bb,rfl,D5,g5⟩;have K:=K.cur0 C.zg g5;have o:=o.cur0 (Nat.lt_succ_of_lt C.zg) g5;have C:=C.next D5 g5;clear D5 g5
 cases bb with
 |false=>
  have HL:=Lib.hid (And.intro HL.out.1 (fun x I=>by have:=HL.out.2 x I;exact(by omega:-1300<=x/\x<=1000)));have ad:=(some ⟨vb,0,none⟩:Option Addr);have G:=K.cell;have F:=K.frozen;go_wp2;refine aI ?_;intro Wf Z;obtain⟨KF,CF,oF⟩:=eX C K o (Nat.lt_succ_self _) Z;have GF:=KF.cell;clear Z;exact bodyPost_ret (v:=.agg #[.int .i64 N,.slice (some ⟨vb,0,none⟩) L.length U]) (by simp[results,Tryz.results339,go_sem,GF]) rfl ⟨N,_,_,U,L,rfl,by omega,oF,HL.out.1,HL.out.2,CF.D,CF.gr⟩
 |true=>
  have oA:=aC.lit0 (E:=3) (B:=w5.heap.size) w5 (Nat.le_refl _);have rO:vb<w5.heap.size:=(o.lt vb rfl).2;have t5:w.heap.size<vb:=(o.lt vb rfl).1;have HC:=Lib.hid C;have HO:=Lib.hid o;have HK:=Lib.hid K;clear C o K;go_wp2_with fail;go_loopw [10,11] (fun a i wr=>∃(k:Nat) (a1:Option Addr) (n1 c1:Nat) (A:List Int),k<=N/\i=.int .i64 k/\a=.slice a1 n1 c1/\A.length=k/\(∀x∈A,0<=x/\x<=3)/\aC 3 w5.heap.size wr (.slice a1 n1 c1) A/\Cur w wr g/\aC 3 (w.heap.size+1) wr (.slice (some ⟨vb,0,none⟩) L.length U) L/\aB wr w.heap.size 32 #[.int .i64 0,.slice none 0 0]/\w5.heap.size<=wr.heap.size) (fun _ i _=>N-(intOf i).toNat)
  case atStart=>exact⟨0,_,_,_,[],Nat.zero_le _,rfl,rfl,rfl,by simp,oA,HC.out.alloc _,HO.out.alloc _,HK.out.alloc _,by simp⟩
  case round=>
   obtain⟨k,a1,n1,c1,A,hk,rfl,rfl,b5,hA,a7,C,o,K,z5⟩:=hrel;clear oA
   by_cases hlt:k<N
   ·have a6:(k:Int)<(N:Int):=by omega
    have HA:=Lib.hid (And.intro b5 hA);have r0:A.length<=5:=by omega
    clear b5 hA;go_wp2_with fail;refine(aU wr g C.D 4).mono ?_;rintro e w6 ⟨x,rfl,_,I,_,D6,g6⟩;have I:=I (by omega);have p1:=I.1;have p5:=I.2;have K:=K.cur0 C.zg g6;have o:=o.cur0 (Nat.lt_succ_of_lt C.zg) g6;have oA:=a7.cur0 (by have:=C.zg;omega) g6;have C:=C.next D6 g6;have y6:=g6.size;have rA:=oA.lt;clear D6 g6 I a7;have HC:=Lib.hid C;have HO:=Lib.hid o;have HK:=Lib.hid K;have Q:=Lib.hid rA;clear C o K rA;go_wp2_with (at_builtin;refine bB rfl _ _ _ rfl 3 Tryz.underlying22 aG w5.heap.size (.slice a1 n1 c1) A x _ rfl rfl (aT _ _ _ _ _ rfl) (oA.alloc _) ⟨by omega,by omega⟩ (by omega) (by simp;omega) ?_;intro v7 w7 o7 g7 h7;obtain⟨p7,i7,q7,rfl⟩:=o7.shape3);have C7:=(HC.out.alloc (.cells #[.int .i64 x] 3)).row g7 (fun q hq=>by have:=(Q.out q hq).1;omega);have O7:=(HO.out.alloc (.cells #[.int .i64 x] 3)).grow g7 (fun q hq e=>by have:=(Q.out q hq).1;have e2:vb=q:=Option.some.inj e;omega);have K7:=(HK.out.alloc (.cells #[.int .i64 x] 3)).grow g7 (fun e=>by have:=(Q.out _ e).1;omega);have z7:=g7.size;simp at z7;go_roundw
    case rel=>
     refine⟨k+1,p7,i7,q7,A++[x],by omega,by go_num,rfl,by simp;exact HA.out.1,fun z S=>?_,o7,C7,O7,K7,by omega⟩
     rcases List.mem_append.1 S with S|S
     ·exact HA.out.2 z S
     ·rw[List.mem_singleton.1 S];omega
    case measure=>simp[intOf];omega
   ·have c5:k=N:=by omega
    have o9:¬(k:Int)<(N:Int):=by omega
    have m6:n1=A.length:=a7.ints.capLe.1;subst m6;have HA:=Lib.hid (And.intro (b5.trans c5) hA);clear b5 hA c5;obtain⟨WB,m2⟩:∃WB:World,WB=wr:=⟨_,rfl⟩;subst m2;have rA:=a7.lt;have g9:L.length=2^N:=HL.out.1;have Q:=Lib.hid rA;have f2:=Lib.hid g9;have h9:=HL.out.2;have l0:=Lib.hid (fun x I=>by have:=h9 x I;exact(by omega:-1000-12*((0:Nat):Int)<=x/\x<=1000));clear rA g9 h9;go_wp2_with fail;go_loopw [12] (fun i wr=>∃(s:Nat) (M:List Int),s<=2^N/\i=.int .i64 s/\M.length=L.length/\(∀x∈M,-1000-12*(s:Int)<=x/\x<=1000)/\aC 3 (w.heap.size+1) wr (.slice (some ⟨vb,0,none⟩) L.length U) M/\aC 3 w5.heap.size wr (.slice a1 A.length c1) A/\Cur w wr g/\aB wr w.heap.size 32 #[.int .i64 0,.slice none 0 0]) (fun i _=>2^N-(intOf i).toNat)
    case atStart=>exact⟨0,L,Nat.zero_le _,rfl,rfl,l0.out,o,a7,C,K⟩
    case round=>
     obtain⟨s,M,hs,rfl,O,R,oM,i8,C2,K2⟩:=hrel;clear o a7 C K;have HM:=Lib.hid (And.intro O R);clear O R
     by_cases hlt:s<2^N
     ·have a6:(s:Int)<(2:Int)^N:=by rw[<-c6.out];exact_mod_cast hlt
      go_wp2_with fail;go_loopw [13] (fun i wr=>∃(k:Nat) (M:List Int),k<=N/\i=.int .i64 k/\M.length=L.length/\(∀x∈M,-1000-12*(s:Int)-3*(k:Int)<=x/\x<=1000)/\aC 3 (w.heap.size+1) wr (.slice (some ⟨vb,0,none⟩) L.length U) M/\aC 3 w5.heap.size wr (.slice a1 A.length c1) A/\Cur w wr g/\aB wr w.heap.size 32 #[.int .i64 0,.slice none 0 0]) (fun i _=>N-(intOf i).toNat)
      case atStart=>exact⟨0,M,Nat.zero_le _,rfl,HM.out.1,fun x I=>by have:=HM.out.2 x I;omega,oM,i8,C2,K2⟩
      case round=>
       obtain⟨k,M',hk,rfl,O,R,a8,c8,C3,K3⟩:=hrel;clear oM i8 C2 K2
       by_cases m3:k<N
       ·have h8:(k:Int)<(N:Int):=by omega
        have b9:k<A.length:=by rw[HA.out.1];exact m3
        have f4:s<M'.length:=by rw[O,f2.out];exact hlt
        have b7:=HA.out.2 _ (List.getElem_mem b9);have b8:=R _ (List.getElem_mem f4);obtain⟨xa,ba,p8,ya,m9,_,i1,ca,l7⟩:=c8.ints.view Tryz.prog 22 3 Tryz.underlying22 aG
        injection m9 with e1 _ e3
        subst e1 e3;have l8:=ca k b9;have ia:=fun W=>i1 W k b9;have l9:=a8.cellAt O.symm s f4;have r6:=a8.frozenAt O.symm s;obtain⟨y,hy⟩:∃y,y=A[k]:=⟨_,rfl⟩;obtain⟨z,S⟩:∃y,y=M'[s]:=⟨_,rfl⟩;rw[<-hy]at l8 b7;rw[<-S]at l9 b8;have s5:=b7.1;have s6:=b7.2;have s7:=b8.1;have s8:=b8.2;have j0:=fun q=>((a8.drewN q).stored O.symm s (z-y) ⟨by omega,by omega⟩);have h0:∀x∈M'.set s (z-y),-1000-12*(s:Int)-3*((k+1:Nat):Int)<=x/\x<=1000:=fun x I=>by
         have:=A1 (a:=-1000-12*(s:Int)-3*((k+1:Nat):Int)) (b:=1000) (fun x I=>by have:=R x I;omega) (y:=z-y) (by omega) x I;exact this
        have h5:∀x∈M',-1000-12*(s:Int)-3*((k+1:Nat):Int)<=x/\x<=1000:=fun x I=>by have:=R x I;omega
        have e5:(M'.set s (z-y)).length=L.length:=by rw[List.length_set];exact O
        have b1:=Lib.hid j0;have HB:=Lib.hid (And.intro h0 (And.intro h5 (And.intro e5 O)));have HC:=Lib.hid C3;have HK:=Lib.hid K3;have f9:=Lib.hid c8;have l5:=Lib.hid a8;have r8:(s:Int)<(L.length:Int):=by rw[f2.out];exact_mod_cast hlt
        clear O R b7 b8 hy S ca l7 i1 j0 h0 h5 e5 b9 f4 C3 K3 c8 a8;have o8:=dY (s:Int) k (by omega) (by omega);obtain⟨t,ht⟩:∃t,(bR (s:Int) k==1)=t:=⟨_,rfl⟩
        cases t with
        |false=>
         go_wp2_with fail;go_roundw
         case rel=>exact⟨k+1,M',by omega,by go_num,HB.out.2.2.2,HB.out.2.1,l5.out,f9.out,HC.out,HK.out⟩
         case measure=>simp[intOf];omega
        |true=>
         go_wp2_with fail;go_region
         all_goals go_wp2
         go_roundw
         case rel=>exact⟨k+1,M'.set s (z-y),by omega,by go_num,HB.out.2.2.1,HB.out.1,(b1.out _).1,(f9.out.drewN _).grow (b1.out _).2 (fun q hq e=>by have:=(Q.out q e).1;have e2:vb=q:=Option.some.inj hq;omega),(HC.out.drewN _).row (b1.out _).2 (fun b e=>by have e2:vb=b:=Option.some.inj e;omega),(HK.out.drewN _).grow (b1.out _).2 (fun e=>by have e2:vb=w.heap.size:=Option.some.inj e;omega)⟩
         case measure=>simp[intOf];omega
       ·have c5:k=N:=by omega
        have h8:¬(k:Int)<(N:Int):=by omega
        have h6:∀x∈M',-1000-12*((s+1:Nat):Int)<=x/\x<=1000:=fun x I=>by have:=R x I;omega
        have HB:=Lib.hid (And.intro O h6);clear O R h6 c5;go_wp2_with fail;go_roundw
        case rel=>exact⟨s+1,M',by omega,by go_num,HB.out.1,HB.out.2,a8,c8,C3,K3⟩
        case measure=>simp[intOf];omega
     ·have c7:s=2^N:=by omega
      have a6:¬(s:Int)<(2:Int)^N:=by rw[<-c6.out];exact_mod_cast hlt
      have Y:=Lib.hid (And.intro (HM.out.1.trans f2.out) (fun x I=>by have:=HM.out.2 x I;exact(by omega:-1300<=x/\x<=1000)));clear c7 hs;have G:=K2.cell;have F:=K2.frozen;go_wp2;refine aI ?_;intro Wf Z;obtain⟨KF,CF,oF⟩:=eX C2 K2 oM (Nat.lt_succ_self _) Z;have GF:=KF.cell;clear Z;exact bodyPost_ret (v:=.agg #[.int .i64 N,.slice (some ⟨vb,0,none⟩) L.length U]) (by simp[results,Tryz.results339,go_sem,GF]) rfl (by first|exact⟨N,_,_,U,M,rfl,by omega,oF,Y.out.1,Y.out.2,CF.D,CF.gr⟩|exact⟨N,_,_,U,rfl,by omega,M,oF,Y.out.1,Y.out.2,CF.D,CF.gr⟩)
end
end Go.Proofs.YtipejodijbjpcaaGreatDoor
