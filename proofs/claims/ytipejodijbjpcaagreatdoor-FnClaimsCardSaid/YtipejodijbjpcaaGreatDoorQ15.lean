/- Lemmas for CardClaims, part 15 of 52. No condition. -/
import Derived.Test.YtipejodijbjpcaaGreatDoorQ02
import Derived.Test.YtipejodijbjpcaaGreatDoorQ03
import Derived.Test.YtipejodijbjpcaaGreatDoorQ05
import Derived.Test.YtipejodijbjpcaaGreatDoorQ10
import Derived.Test.YtipejodijbjpcaaGreatDoorQ11
import Derived.Test.YtipejodijbjpcaaGreatDoorQ13
import Derived.Test.YtipejodijbjpcaaGreatDoorQ14
import Derived.Shelf.Abstract
set_option maxRecDepth 100000
set_option maxHeartbeats 64000000
namespace Go.Proofs.YtipejodijbjpcaaGreatDoor
section
open Go.RowKit Go.G5
theorem vN(w:World)(g:Nat)(D:Dr w g):
  Calls Tryz.prog 286 #[.pointer (some ⟨g,0,none⟩)] w fun e w'=>∃(n:Int) (ad:Option Addr) (i O:Nat) (l:List Int),e=.returned (.agg #[.int .i64 n,.slice ad i O])/\bA n/\aC 3 w.heap.size w' (.slice ad i O) l/\l.length<=16/\Dr w' g/\w.grownBy w' (some g):=by
 go_enter Tryz.func286,Tryz.ntmps286;go_wp2_with fail;refine aH ?_;intro V hV;have C:Cur w V g:=by rw[hV];exact(Cur.start D).alloc _
 have K:aB V w.heap.size 32 #[.int .i64 0,.slice none 0 0]:=by rw[hV];exact aB.new _ _ _
 clear hV;have yK:=K.lt;refine(OW V g C.D).mono ?_;rintro e Z ⟨N,ad,nn,O,L,rfl,hN,o,a8,_,D1,g1⟩;have j5:(2:Nat)^N<=16:=Nat.pow_le_pow_right (n:=2) (by decide) hN;have j4:=Nat.two_pow_pos N;have o:=o.mono (B':=w.heap.size+1) yK;have K:=K.cur0 C.zg g1;have C:=C.next D1 g1;clear D1 g1;have f6:nn=L.length:=o.ints.capLe.1;obtain⟨vb,f8⟩:∃vb,ad=some ⟨vb,0,none⟩:=by
  rcases o.cases with⟨_,h⟩|⟨b,_,h,_⟩
  ·rw[h]at a8;simp at a8;omega
  ·injection h with h1 _ _
   exact⟨b,h1⟩
 subst f8;subst f6;have A:L.length<=16:=by omega
 have f4:0<L.length:=by omega
 clear a8;have yK:=K.lt;have yV:vb<Z.heap.size:=(o.lt vb rfl).2;have j8:w.heap.size<vb:=(o.lt vb rfl).1;go_wp2_with fail;refine aH ?_;intro V1 a9;have S:aB V1 Z.heap.size 32 #[.int .i64 N,.slice (some ⟨vb,0,none⟩) L.length O]:=by
  rw[a9]
  first
   |exact aB.new _ _ _
   |(have:=((aB.new Z 32 #[.int .i64 0,.slice none 0 0]).set 0 (.int .i64 N)).set 1 (.slice (some ⟨vb,0,none⟩) L.length O);simpa using this)
 have g2:Z.grownBy V1 (some Z.heap.size):=by
  rw[a9]
  first
   |exact dI _ (aM _ _)
   |exact aA (aA (dI _ (aM _ _)) 0 _) 1 _
 have K:=K.grow g2 (fun e=>by have:=Option.some.inj e;omega);have o:=o.grow g2 (fun q hq e=>by have:=Option.some.inj hq;have e2:vb=q:=Option.some.inj e;omega);have C:=C.row g2 (fun b e=>by have:=Option.some.inj e;omega);have yB:Z.heap.size<V1.heap.size:=S.lt;clear a9 g2;refine(aU V1 g C.D 16).mono ?_;rintro e R ⟨x,rfl,_,hx,_,D3,g3⟩;have hx:=hx (by omega);have zg:=C.zg;have K:=K.cur0 C.zg g3;have S:=S.cur0 (by omega) g3;have o:=o.cur0 (Nat.lt_succ_of_lt C.zg) g3;have C:=C.next D3 g3;have y3:=S.lt;clear D3 g3
 by_cases a1:x=0
 ·subst a1
  have M:∀(W:World),aC 3 W.heap.size (W.alloc (.cells #[.int .i64 (-1),.int .i64 6,.int .i64 5,.int .i64 0,.int .i64 9223372036854775807] 3)) (.slice (some ⟨W.heap.size,0,none⟩) 5 5) [-1,6,5,0,9223372036854775807]:=fun W=>aC.lit5 W _ _ _ _ _ (by simp[bA]);have C4:=C.alloc (.cells #[.int .i64 (-1),.int .i64 6,.int .i64 5,.int .i64 0,.int .i64 9223372036854775807] 3);have K4:=K.alloc (.cells #[.int .i64 (-1),.int .i64 6,.int .i64 5,.int .i64 0,.int .i64 9223372036854775807] 3);have b4:=S.alloc (.cells #[.int .i64 (-1),.int .i64 6,.int .i64 5,.int .i64 0,.int .i64 9223372036854775807] 3);have o4:=o.alloc (.cells #[.int .i64 (-1),.int .i64 6,.int .i64 5,.int .i64 0,.int .i64 9223372036854775807] 3);clear hx;go_wp2_with fail;refine(fM _ g C4.D R.heap.size (by have:=C.size;omega) _ _ (M R) (by decide)).mono ?_;rintro e w5 ⟨y,rfl,hy,D5,Y⟩;have K:=K4.cur0 C.zg Y;have S:=b4.cur0 (by omega) Y;have o:=o4.cur0 (Nat.lt_succ_of_lt C.zg) Y;have C:=C4.next D5 Y;have c6:bA y:=by
   have:∀z∈[(-1:Int),6,5,0,9223372036854775807],bA z:=by simp[bA]
   exact this y hy
  have G3:=S.cell;have F3:=S.frozen;have G:=K.cell;have F:=K.frozen;clear hy D5 Y K4 b4 C4 M o4;go_wp2;refine aI ?_;intro Wf I;obtain⟨W6,b0⟩:∃W6,W6=w5.setCell ⟨Z.heap.size,0,none⟩ (.int .i64 y):=⟨_,rfl⟩;rw[<-b0]at I;have g6:w5.grownBy W6 (some Z.heap.size):=by rw[b0];exact gG _ _ _
  have K:=K.grow g6 (fun e=>by have:=Option.some.inj e;omega);have o:=o.grow g6 (fun q hq e=>by have:=Option.some.inj hq;have e2:vb=q:=Option.some.inj e;omega);have C:=C.row g6 (fun b e=>by have:=Option.some.inj e;omega);obtain⟨KF,Q,oF⟩:=eX C K o (Nat.lt_succ_self _) I;have GF:=KF.cell;clear I b0 g6 G3 F3 G F;exact bodyPost_ret (v:=.agg #[.int .i64 y,.slice (some ⟨vb,0,none⟩) L.length O]) (by simp[results,Tryz.results286,go_sem,GF]) rfl (by first|exact⟨y,_,_,O,L,rfl,c6,oF,A,Q.D,Q.gr⟩|exact⟨y,_,_,O,rfl,c6,L,oF,A,Q.D,Q.gr⟩)
 by_cases b1:x=1
 ·subst b1
  have M:∀(W:World),aC 3 W.heap.size (W.alloc (.cells #[.int .i64 1,.int .i64 (-1),.int .i64 1001,.int .i64 (-9223372036854775808),.int .i64 1000] 3)) (.slice (some ⟨W.heap.size,0,none⟩) 5 5) [1,-1,1001,-9223372036854775808,1000]:=fun W=>aC.lit5 W _ _ _ _ _ (by simp[bA]);have t0:((1:Int)==0)=false:=by simp
  clear hx a1;have U:=fM (R.drew.alloc (.cells #[.int .i64 1,.int .i64 (-1),.int .i64 1001,.int .i64 (-9223372036854775808),.int .i64 1000] 3)) g ((C.D.keep (Below.refl _ _).drew).keep (aM _ _)) R.drew.heap.size (by show g<R.heap.size;omega) _ _ (M R.drew) (by decide);have e8:=Lib.hid U;have e6:Cur w (R.drew.alloc (.cells #[.int .i64 1,.int .i64 (-1),.int .i64 1001,.int .i64 (-9223372036854775808),.int .i64 1000] 3)) g:=(C.keep (Below.refl _ _).drew).keep (aM _ _);have b6:aB (R.drew.alloc (.cells #[.int .i64 1,.int .i64 (-1),.int .i64 1001,.int .i64 (-9223372036854775808),.int .i64 1000] 3)) Z.heap.size 32 #[.int .i64 N,.slice (some ⟨vb,0,none⟩) L.length O]:=aB.alloc (w:=R.drew) S _;have Kd:aB (R.drew.alloc (.cells #[.int .i64 1,.int .i64 (-1),.int .i64 1001,.int .i64 (-9223372036854775808),.int .i64 1000] 3)) w.heap.size 32 #[.int .i64 0,.slice none 0 0]:=aB.alloc (w:=R.drew) K _;have od:aC 3 (w.heap.size+1) (R.drew.alloc (.cells #[.int .i64 1,.int .i64 (-1),.int .i64 1001,.int .i64 (-9223372036854775808),.int .i64 1000] 3)) (.slice (some ⟨vb,0,none⟩) L.length O) L:=(o.keep (Below.refl _ _).drew).alloc _;have i1:=b6.cell;have G3:=S.cell;have a6:∀z∈[(1:Int),-1,1001,-9223372036854775808,1000],bA z:=by simp[bA]
  have HM:=Lib.hid a6;have j2:(1:Int)<=(L.length:Int):=by omega
  clear U a6 M;go_wp2_with fail;go_region_law
   (go_simp;go_at_call 293;refine e8.out.mono ?_;rintro e w5 ⟨y,rfl,hy,D5,Y⟩;have b5:=b6.cur0 (by omega) Y;have h8:=b5.cell;have K5:=Kd.cur0 C.zg Y;have o5:=od.cur0 (Nat.lt_succ_of_lt C.zg) Y;have C5:=e6.next D5 Y;have j0:=o5.cellAt rfl 0 f4;have j1:=o5.frozenAt rfl 0)
  all_goals
   have st:=o5.stored rfl 0 y (HM.out y hy);have K6:=K5.grow st.2 (fun e=>by have e2:vb=w.heap.size:=Option.some.inj e;omega);have C6:=C5.row st.2 (fun b e=>by have e2:vb=b:=Option.some.inj e;omega);have G:=K6.cell;have F:=K6.frozen;have e9:=b5.grow st.2 (fun e=>by have e2:vb=Z.heap.size:=Option.some.inj e;omega);have h9:=e9.cell;go_wp2;refine aI ?_;intro Wf I;obtain⟨KF,Q,oF⟩:=eX C6 K6 st.1 (Nat.lt_succ_self _) I;have GF:=KF.cell;clear I;exact bodyPost_ret (v:=.agg #[.int .i64 N,.slice (some ⟨vb,0,none⟩) L.length O]) (by simp[results,Tryz.results286,go_sem,GF]) rfl (by first|exact⟨N,_,_,O,L.set 0 y,rfl,⟨by omega,by omega⟩,oF,by rw[List.length_set];exact A,Q.D,Q.gr⟩|exact⟨N,_,_,O,rfl,⟨by omega,by omega⟩,L.set 0 y,oF,by rw[List.length_set];exact A,Q.D,Q.gr⟩)
 have t0:(x==0)=false:=by simp[a1]
 have t1:(x==1)=false:=by simp[b1]
 have b9:bA (N:Int):=⟨by omega,by omega⟩;clear a1 b1 hx;have G3:=S.cell;have G:=K.cell;have F:=K.frozen;go_wp2;refine aI ?_;intro Wf I;obtain⟨KF,Q,oF⟩:=eX C K o (Nat.lt_succ_self _) I;have GF:=KF.cell;clear I G3 G F;exact bodyPost_ret (v:=.agg #[.int .i64 N,.slice (some ⟨vb,0,none⟩) L.length O]) (by simp[results,Tryz.results286,go_sem,GF]) rfl (by first|exact⟨N,_,_,O,L,rfl,b9,oF,A,Q.D,Q.gr⟩|exact⟨N,_,_,O,rfl,b9,L,oF,A,Q.D,Q.gr⟩)
end
section
open Go.RowKit Go.G5
theorem LZ(w:World)(g:Nat)(D:Dr w g)(N:Nat)(hN:N<=5):
  Calls Tryz.prog 327 #[.pointer (some ⟨g,0,none⟩),.int .i64 (N:Int)] w fun e w'=>∃(ad:Option Addr) (i cp:Nat) (L:List Int),e=.returned (.slice ad i cp)/\aC 3 w.heap.size w' (.slice ad i cp) L/\L.length=N/\(∀x∈L,0<=x/\x<N)/\Dr w' g/\w.grownBy w' (some g):=by
 have o0:=aC.lit0 (E:=3) (B:=w.heap.size) w (Nat.le_refl _);have C:=(Cur.start D).alloc (.cells #[] 3);go_enter Tryz.func327,Tryz.ntmps327;go_wp2_with fail;go_loopw [5,6] (fun p i wr=>∃(j:Nat) (a:Option Addr) (n c:Nat) (L:List Int),j<=N/\i=.int .i64 j/\p=.slice a n c/\L.length=j/\(∀x∈L,0<=x/\x<j)/\aC 3 w.heap.size wr (.slice a n c) L/\Cur w wr g) (fun _ i _=>N-(intOf i).toNat)
 case atStart=>exact⟨0,_,_,_,[],Nat.zero_le _,rfl,rfl,rfl,by simp,o0,C⟩
 case round=>
  obtain⟨j,a,n,c,L,hj,rfl,rfl,F,Z,o,C⟩:=hrel;clear o0;have c5:n=L.length:=o.ints.capLe.1;subst c5
  by_cases hlt:j<N
  ·have a1:(j:Int)<(N:Int):=by omega
   have f7:L.length<=5:=by omega
   have f9:IntKind.i64.wrap ((L.length:Int)+1)=(L.length:Int)+1:=by rw[IntKind.wrap_i64];omega
   have A:=Lib.hid (And.intro F Z);have b7:bA (j:Int):=⟨by omega,by omega⟩;clear F Z;go_wp2_with fail;refine(aU wr g C.D ((L.length:Int)+1)).mono ?_;rintro e I ⟨x,rfl,_,hx,_,D3,Y⟩;have hx:=hx (by omega);obtain⟨k,rfl⟩:=Int.eq_ofNat_of_zero_le hx.1;have hk:k<=L.length:=by omega
   have o:=o.cur0 C.zg Y;have C:=C.next D3 Y;have z3:=C.size;obtain⟨u1,u2⟩:=o.ints.upto 22 3 Tryz.underlying22 aG k hk;obtain⟨a',c',d1,d2⟩:=o.ints.from 22 3 Tryz.underlying22 aG k hk
   have zk:(L.take k).length=k:=by rw[List.length_take,Nat.min_eq_left hk]
   have zd:(L.drop k).length=L.length-k:=List.length_drop;rw[zd]at d1 d2;have R:((([]++L.take k)++[(j:Int)])++L.drop k).length=j+1/\∀z∈((([]++L.take k)++[(j:Int)])++L.drop k),0<=z/\z<((j+1:Nat):Int):=by
    refine⟨by simp;have:=A.out.1;omega,fun z K=>?_⟩;have O:z∈L∨z=(j:Int):=by
     rcases List.mem_append.1 K with K|K
     ·rcases List.mem_append.1 K with K|K
      ·exact .inl (List.mem_of_mem_take (by simpa using K))
      ·exact .inr (List.mem_singleton.1 K)
     ·exact .inl (List.mem_of_mem_drop K)
    rcases O with h|h
    ·have:=A.out.2 z h;omega
    ·rw[h];omega
   have Q:=Lib.hid R;have HC:=Lib.hid C;clear zk zd R C D3 Y hx;go_wp2_with fail;go_region_held3 (fun _=>True) (trivial)
    (first
     |(refine cV rfl _ _ _ rfl 3 Tryz.underlying22 aG I.heap.size (.slice (some ⟨_,0,none⟩) 0 0) [] rfl (.slice a k c) (L.take k) rfl ?_ ?_ ?_ I ?_ (Nat.le_refl _) ?_;(first|(with_reducible exact(aC.lit0 I (Nat.le_refl _)).drew')|(with_reducible exact((aC.lit0 I (Nat.le_refl _)).alloc _).drew')|(with_reducible exact(aC.lit0' I _).drew'));(first|(with_reducible exact(u2.alloc _).drew')|(with_reducible exact((u2.alloc _).alloc _).drew'));(simp;omega);(first|(with_reducible exact(aM I _).drew)|(with_reducible exact(cD I _ _).drew));(intro v1 w4 o1 b1 pc))
     |(refine cV rfl _ _ _ rfl 3 Tryz.underlying22 aG I.heap.size v1 ([]++L.take k) rfl (.slice (some ⟨_,0,none⟩) 1 1) [(j:Int)] rfl ?_ ?_ ?_ I ?_ (Nat.le_refl _) ?_;(first|(with_reducible exact o1)|(with_reducible exact o1.alloc _));(refine aD.one ?_ b7;first|(with_reducible exact aT _ _ _ _ _ rfl)|(with_reducible exact pc _ _ (iM _ _ _ _) (mB _ _ _))|(with_reducible exact pc _ _ (jT _ _ _ _) (lX _ _ _)));(simp;omega);(first|(with_reducible exact b1)|(with_reducible exact b1.alloc b1.size _));(intro v2 w5 o2 b2 _))
     |(refine cV rfl _ _ _ rfl 3 Tryz.underlying22 aG I.heap.size v2 (([]++L.take k)++[(j:Int)]) rfl (.slice a' (L.length-k) c') (L.drop k) rfl o2 (d2.below b2 (Nat.le_refl _)) ?_ I b2 (Nat.le_refl _) ?_;(simp;omega);(intro v3 w6 o3 b3 _;obtain⟨av,nv,cv,rfl⟩:=o3.shape3))
    )
   all_goals
    go_wp2;go_roundw
    case rel=>exact⟨j+1,av,nv,cv,_,by omega,by go_num,rfl,Q.out.1,Q.out.2,o3.mono z3,HC.out.keep b3⟩
    case measure=>simp[intOf];omega
  ·have b6:j=N:=by omega
   have a1:¬(j:Int)<(N:Int):=by omega
   subst b6
   by_cases h1:1<j
   ·have b5:(1:Int)<(j:Int):=by omega
    have A:=Lib.hid (And.intro F Z);have M:1<L.length:=by omega
    clear F Z;go_wp2_with fail;refine(iH wr g C.D 14).mono ?_;rintro e I ⟨bb,rfl,D3,Y⟩;have o:=o.cur0 C.zg Y;have C:=C.next D3 Y
    cases bb with
    |false=>
     go_wp2;go_ret
     first|exact⟨a,L.length,c,rfl,L,o,A.out.1,A.out.2,C.D,C.gr⟩|exact⟨a,L.length,c,L,rfl,o,A.out.1,A.out.2,C.D,C.gr⟩
    |true=>
     obtain⟨vb,c7⟩:∃vb,a=some ⟨vb,0,none⟩:=by
      rcases o.cases with⟨_,h⟩|⟨b,_,h,_⟩
      ·rw[h]at M;simp at M
      ·injection h with h1 _ _
       exact⟨b,h1⟩
     subst c7;have c0:=o.cellAt rfl 0 (by omega);have f0:=o.frozenAt rfl 0;have c1:=o.cellAt rfl 1 M;have hm:L[1]∈L:=List.getElem_mem M;have O:=o.2 _ hm;have hs:∀z∈L.set 0 L[1],0<=z/\z<(j:Int):=fun z K=>by
      rcases List.mem_or_eq_of_mem_set K with h|h
      ·exact A.out.2 z h
      ·rw[h];exact A.out.2 _ hm
     have U:(L.set 0 L[1]).length=j:=by rw[List.length_set];exact A.out.1
     obtain⟨y,hy⟩:∃y,y=L[1]:=⟨_,rfl⟩;rw[<-hy]at c1 O hs U;have st:=o.stored rfl 0 y O;have HS:=Lib.hid (And.intro hs U);have S:=Lib.hid st;have HC:=Lib.hid C;have f8:=(o.lt vb rfl).1;have CF:=HC.out.row S.out.2 (fun b e=>by have e2:vb=b:=Option.some.inj e;omega);have i0:(0:Int)<(L.length:Int):=by omega
     have i1:(1:Int)<(L.length:Int):=by omega
     clear hs U hy hm st C;go_wp2;go_ret
     first|exact⟨_,L.length,c,rfl,_,S.out.1,HS.out.2,HS.out.1,CF.D,CF.gr⟩|exact⟨_,L.length,c,_,rfl,S.out.1,HS.out.2,HS.out.1,CF.D,CF.gr⟩
   ·have b5:¬(1:Int)<(j:Int):=by omega
    have A:=Lib.hid (And.intro F Z);clear F Z;go_wp2;go_ret
    first|exact⟨a,L.length,c,rfl,L,o,A.out.1,A.out.2,C.D,C.gr⟩|exact⟨a,L.length,c,L,rfl,o,A.out.1,A.out.2,C.D,C.gr⟩
theorem AO(w:World)(g:Nat)(D:Dr w g)(N:Nat)(hN:N<=5):
  Calls Tryz.prog 272 #[.pointer (some ⟨g,0,none⟩),.int .i64 (N:Int)] w fun e w'=>∃(ad:Option Addr) (i cp:Nat) (L:List Int),e=.returned (.slice ad i cp)/\aC 3 w.heap.size w' (.slice ad i cp) L/\L.length=N/\Dr w' g/\w.grownBy w' (some g):=by
 have o0:=aC.lit0 (E:=3) (B:=w.heap.size) w (Nat.le_refl _);have C:=(Cur.start D).alloc (.cells #[] 3);go_enter Tryz.func272,Tryz.ntmps272;go_wp2_with fail;go_loopw [5,6] (fun p i wr=>∃(j:Nat) (a:Option Addr) (n c:Nat) (L:List Int),j<=N/\i=.int .i64 j/\p=.slice a n c/\L.length=j/\aC 3 w.heap.size wr (.slice a n c) L/\Cur w wr g) (fun _ i _=>N-(intOf i).toNat)
 case atStart=>exact⟨0,_,_,_,[],Nat.zero_le _,rfl,rfl,rfl,o0,C⟩
 case round=>
  obtain⟨j,a,n,c,L,hj,rfl,rfl,A,o,C⟩:=hrel;clear o0;have a9:n=L.length:=o.ints.capLe.1;subst a9
  by_cases hlt:j<N
  ·have R:(j:Int)<(N:Int):=by omega
   have d0:L.length<=5:=by omega
   have F:=Lib.hid A;clear A;go_wp2_with fail;refine(aU wr g C.D 9).mono ?_;rintro e w3 ⟨x,rfl,_,S,_,Y,O⟩;have S:=S (by omega);have e5:=S.1;have e6:=S.2;have o:=o.cur0 C.zg O;have C:=C.next Y O;have z3:=C.size;have HC:=Lib.hid C;have a1:=Lib.hid o.lt;clear C Y O S;go_wp2_with (at_builtin;refine bB rfl _ _ _ rfl 3 Tryz.underlying22 aG w.heap.size (.slice a L.length c) L (x-4) _ rfl rfl (aT _ _ _ _ _ rfl) (o.alloc _) ⟨by omega,by omega⟩ (by omega) (by simp;omega) ?_;intro v7 w7 o7 g7 h7;obtain⟨p7,i7,q7,rfl⟩:=o7.shape3);have C7:=(HC.out.alloc (.cells #[.int .i64 (x-4)] 3)).row g7 (fun q hq=>(a1.out q hq).1);go_roundw
   case rel=>exact⟨j+1,p7,i7,q7,L++[x-4],by omega,by go_num,rfl,by simp;exact F.out,o7,C7⟩
   case measure=>simp[intOf];omega
  ·have a8:j=N:=by omega
   have R:¬(j:Int)<(N:Int):=by omega
   subst a8
   by_cases h0:0<j
   ·have a7:(0:Int)<(j:Int):=by omega
    have F:=Lib.hid A;have M:0<L.length:=by omega
    have I:∀(W:World),aC 3 W.heap.size (W.alloc (.cells #[.int .i64 1000,.int .i64 1001,.int .i64 101,.int .i64 (-9223372036854775808)] 3)) (.slice (some ⟨W.heap.size,0,none⟩) 4 4) [1000,1001,101,-9223372036854775808]:=fun W=>⟨World.ownsRow_lit W #[.int .i64 1000,.int .i64 1001,.int .i64 101,.int .i64 (-9223372036854775808)] 4 (Nat.le_refl _) (by decide) rfl,by simp[bA]⟩;clear A;go_wp2_with fail;refine(iH wr g C.D 12).mono ?_;rintro e w3 ⟨bb,rfl,Y,O⟩;have o:=o.cur0 C.zg O;have C:=C.next Y O
    cases bb with
    |false=>
     go_wp2;go_ret
     first|exact⟨a,L.length,c,rfl,L,o,F.out,C.D,C.gr⟩|exact⟨a,L.length,c,L,rfl,o,F.out,C.D,C.gr⟩
    |true=>
     obtain⟨vb,b0⟩:∃vb,a=some ⟨vb,0,none⟩:=by
      rcases o.cases with⟨_,h⟩|⟨b,_,h,_⟩
      ·rw[h]at M;simp at M
      ·injection h with h1 _ _
       exact⟨b,h1⟩
     subst b0;have Z:=C.alloc (.cells #[.int .i64 1000,.int .i64 1001,.int .i64 101,.int .i64 (-9223372036854775808)] 3);have o4:=o.alloc (.cells #[.int .i64 1000,.int .i64 1001,.int .i64 101,.int .i64 (-9223372036854775808)] 3);have K:∀z∈[(1000:Int),1001,101,-9223372036854775808],bA z:=by simp[bA]
     have HM:=Lib.hid K;have i0:(0:Int)<(L.length:Int):=by omega
     clear K;go_wp2_with fail;refine(fM _ g Z.D w3.heap.size (by have:=C.size;have:=C.zg;omega) _ _ (I w3) (by decide)).mono ?_;rintro e w5 ⟨y,rfl,hy,D5,g5⟩;have o:=o4.cur0 C.zg g5;have C:=Z.next D5 g5;have c0:=o.cellAt rfl 0 M;have f0:=o.frozenAt rfl 0;have st:=o.stored rfl 0 y (HM.out y hy);have e4:=(o.lt vb rfl).1;have U:=C.row st.2 (fun b e=>by have e2:vb=b:=Option.some.inj e;omega);have Q:=Lib.hid st;clear st Z o4 D5 g5 I hy HM;go_wp2;go_ret
     first|exact⟨_,L.length,c,rfl,_,Q.out.1,by rw[List.length_set];exact F.out,U.D,U.gr⟩|exact⟨_,L.length,c,_,rfl,Q.out.1,by rw[List.length_set];exact F.out,U.D,U.gr⟩
   ·have a7:¬(0:Int)<(j:Int):=by omega
    have F:=Lib.hid A;clear A;go_wp2;go_ret
    first|exact⟨a,L.length,c,rfl,L,o,F.out,C.D,C.gr⟩|exact⟨a,L.length,c,L,rfl,o,F.out,C.D,C.gr⟩
end
section
open Go.RowKit Go.G5
def iJ(x:List Int):Bool:=decide (x.length<=5)&&dB x (-1000) 1000
theorem JM(x:List Int)(v:Value)(w:World)(K:aD w v x):
  Calls Tryz.prog 367 #[v] w fun e w'=>e=.returned (.bool (iJ x))/\w=w':=by
 have F:=K;obtain⟨a,c,rfl⟩:=K.shape
 by_cases I:x.length<=5
 ·have D:(x.length:Int)<=5:=by omega
  have o:iJ x=dB x (-1000) 1000:=by unfold iJ;rw[decide_eq_true I,Bool.true_and]
  have A:=Lib.hid o;have z:=Lib.hid (kV x _ (-1000) 1000 w F);clear o;go_enter Tryz.func367,Tryz.ntmps367;go_wp2_with fail;refine z.out.mono ?_;rintro e L ⟨rfl,rfl⟩;go_wp2;go_ret;exact⟨aE A.out.symm,rfl⟩
 ·have D:¬(x.length:Int)<=5:=by omega
  have o:iJ x=false:=by unfold iJ;rw[decide_eq_false I];rfl
  have A:=Lib.hid o;clear o;go_enter Tryz.func367,Tryz.ntmps367;go_wp2;go_ret;exact⟨aE A.out.symm,rfl⟩
theorem vE(x:List Int)(v:Value)(w:World)(O:aD w v x):
  Calls Tryz.prog 343 #[v] w fun e w'=>e=.returned (.bool (iJ x))/\w=w':=by
 obtain⟨a,b,Q,c,rfl,L,N,R,hb⟩:=O.view Tryz.prog 22 3 Tryz.underlying22 aG;go_enter Tryz.func343,Tryz.ntmps343;go_wp2_with fail;go_loop [3] (fun i=>∃k:Nat,k<=x.length/\i=.int .i64 k/\(x.take k).all (fun y=>cM y (-1000) 1000)=true) (fun i=>x.length-(intOf i).toNat)
 case atStart=>exact⟨0,Nat.zero_le _,rfl,by simp⟩
 case round=>
  obtain⟨k,S,rfl,o⟩:=hrel;have H:=Lib.hid o;clear o
  by_cases hlt:k<x.length
  ·cases M:cM x[k] (-1000) 1000 with
   |true=>
    go_wp2_with (go_at_call 188;refine(aR _ _ _ _).mono ?_;rintro e w' ⟨rfl,rfl⟩);go_round
    case rel=>exact⟨k+1,by omega,by go_num,by rw[dD _ _ _ hlt,H.out,M];rfl⟩
    case measure=>simp[intOf];omega
   |false=>
    have A:iJ x=false:=by unfold iJ dB;rw[gB (fun y=>cM y (-1000) 1000) _ _ hlt M];simp
    have D:=Lib.hid A;clear A;go_wp2_with (go_at_call 188;refine(aR _ _ _ _).mono ?_;rintro e w' ⟨rfl,rfl⟩);go_ret;exact⟨aE D.out.symm,rfl⟩
  ·have z:dB x (-1000) 1000=true:=by unfold dB;rw[<-eH (fun y=>cM y (-1000) 1000) x k (by omega),H.out]
   have A:iJ x=decide (x.length<=5):=by unfold iJ;rw[z,Bool.and_true]
   have D:=Lib.hid A;clear A z
   by_cases K:x.length<=5
   ·have I:(x.length:Int)<=5:=by omega
    have hd:=decide_eq_true K;have F:=Lib.hid hd;clear hd;go_wp2;go_ret;exact⟨aE (by rw[D.out,F.out]),rfl⟩
   ·have I:¬(x.length:Int)<=5:=by omega
    have hd:=decide_eq_false K;have F:=Lib.hid hd;clear hd;go_wp2;go_ret;exact⟨aE (by rw[D.out,F.out]),rfl⟩
def eT(n:Int)(l x:List Int):Bool:=(bP n l&&cY n l)&&(iJ x&&decide ((x.length:Int)=n))
theorem AV(n:Int)(v:Value)(l:List Int)(w:World)(D:aD w v l)(u:Value)(x:List Int)(A:aD w u x):
  Calls Tryz.prog 329 #[.agg #[.int .i64 n,v],u] w fun e w'=>e=.returned (.bool (iJ x&&decide ((x.length:Int)=n)))/\Below w.heap.size w w':=by
 obtain⟨a,c,rfl⟩:=D.shape;obtain⟨V,o⟩:∃V,V=w.alloc (.cells #[.int .i64 n,.slice a l.length c] 32):=⟨_,rfl⟩;have B:Below w.heap.size w V:=by rw[o];exact aM _ _
 have K:aB V w.heap.size 32 #[.int .i64 n,.slice a l.length c]:=by rw[o];exact aB.new _ _ _
 have z:=Lib.hid (JM x u V (A.below B (Nat.le_refl _)));obtain⟨b,d,rfl⟩:=A.shape;have G:=K.cell
 cases h:iJ x with
 |false=>
  rw[h]at z;go_enter Tryz.func329,Tryz.ntmps329;go_wp2_with fail;rw[<-o];clear o;refine z.out.mono ?_;rintro e F ⟨rfl,rfl⟩;go_wp2;go_ret;exact⟨aE (by simp),B⟩
 |true=>
  rw[h]at z;go_enter Tryz.func329,Tryz.ntmps329;go_wp2_with fail;rw[<-o];clear o;refine z.out.mono ?_;rintro e F ⟨rfl,rfl⟩;go_wp2;go_ret;exact⟨aE (by rw[Bool.true_and];exact oW _ _),B⟩
theorem pB(w:World)(n:Int)(v:Value)(l:List Int)(L:aD w v l)(R:l.length<=1048576)(u:Value)(x:List Int)(N:aD w u x):
  Calls Tryz.prog 275 #[.agg #[.int .i64 n,v],u] w fun e w'=>e=.returned (.bool (eT n l x))/\Below w.heap.size w w':=by
 obtain⟨a,c,rfl⟩:=L.shape;obtain⟨b,d,rfl⟩:=N.shape;obtain⟨V,D⟩:∃V,V=w.alloc (.cells #[.int .i64 n,.slice a l.length c] 32):=⟨_,rfl⟩;have B:Below w.heap.size w V:=by rw[D];exact aM _ _
 have K:aB V w.heap.size 32 #[.int .i64 n,.slice a l.length c]:=by rw[D];exact aB.new _ _ _
 go_enter Tryz.func275,Tryz.ntmps275;go_wp2_with fail;rw[<-D];clear D;refine(nC n l _ V (L.below B (Nat.le_refl _))).mono ?_;rintro e S ⟨rfl,M⟩;have K:=K.keep M;have B:=B.after M B.size;have G:=K.cell;have z:=K.lt
 cases F:bP n l with
 |false=>
  have o:eT n l x=false:=by unfold eT;rw[F];rfl
  have A:=Lib.hid o;clear o F;go_wp2;go_ret;exact⟨aE A.out.symm,B⟩
 |true=>
 have O:=Lib.hid F;clear F;go_wp2_with fail;clear G z;refine(jP n l _ S (L.below B (Nat.le_refl _)) R).mono ?_;rintro e w2 ⟨rfl,b2⟩;have K:=K.keep b2;have B:=B.after b2 B.size;have G:=K.cell;have z:=K.lt
 cases I:cY n l with
 |false=>
  have o:eT n l x=false:=by unfold eT;rw[I];simp
  have A:=Lib.hid o;clear o I;go_wp2;go_ret;exact⟨aE A.out.symm,B⟩
 |true=>
 have o:eT n l x=(iJ x&&decide ((x.length:Int)=n)):=by unfold eT;rw[O.out,I];rfl
 have A:=Lib.hid o;clear o I;go_wp2_with fail;clear z;refine(AV n _ l w2 (L.below B (Nat.le_refl _)) _ x (N.below B (Nat.le_refl _))).mono ?_;rintro e U ⟨rfl,Q⟩;go_wp2;go_ret;exact⟨aE A.out.symm,B.after Q B.size⟩
theorem rZ(w:World)(n:Int)(v:Value)(l:List Int)(N:aD w v l)(S:l.length<=1048576)(u:Value)(x:List Int)(Q:aD w u x):
  Calls Tryz.prog 295 #[.agg #[.int .i64 n,v],u] w fun e w'=>e=.returned (.bool (eT n l x))/\Below w.heap.size w w':=by
 obtain⟨a,c,rfl⟩:=N.shape;obtain⟨b,d,rfl⟩:=Q.shape;obtain⟨V,F⟩:∃V,V=w.alloc (.cells #[.int .i64 n,.slice a l.length c] 32):=⟨_,rfl⟩;have B:Below w.heap.size w V:=by rw[F];exact aM _ _
 have K:aB V w.heap.size 32 #[.int .i64 n,.slice a l.length c]:=by rw[F];exact aB.new _ _ _
 go_enter Tryz.func295,Tryz.ntmps295;go_wp2_with fail;rw[<-F];clear F;refine(kJ n l _ V (N.below B (Nat.le_refl _))).mono ?_;rintro e U ⟨rfl,O⟩;have K:=K.keep O;have B:=B.after O B.size;have G:=K.cell;have z:=K.lt
 cases I:bP n l with
 |false=>
  have A:eT n l x=false:=by unfold eT;rw[I];rfl
  have D:=Lib.hid A;clear A I;go_wp2;go_ret;exact⟨aE D.out.symm,B⟩
 |true=>
 have R:=Lib.hid I;clear I;go_wp2_with fail;clear G z;refine(iK n l _ U (N.below B (Nat.le_refl _)) S).mono ?_;rintro e w2 ⟨rfl,b2⟩;have K:=K.keep b2;have B:=B.after b2 B.size;have G:=K.cell;have z:=K.lt
 cases L:cY n l with
 |false=>
  have A:eT n l x=false:=by unfold eT;rw[L];simp
  have D:=Lib.hid A;clear A L;go_wp2;go_ret;exact⟨aE D.out.symm,B⟩
 |true=>
 have A:eT n l x=(iJ x&&decide ((x.length:Int)=n)):=by unfold eT;rw[R.out,L];rfl
 have D:=Lib.hid A;clear A L;go_wp2_with fail;clear z;refine(vE x _ w2 (Q.below B (Nat.le_refl _))).mono ?_;rintro e Y ⟨rfl,rfl⟩
 cases o:iJ x with
 |false=>
  have M:=Lib.hid o;clear o;go_wp2;go_ret;exact⟨aE (by rw[D.out,M.out];rfl),B⟩
 |true=>
  have M:=Lib.hid o;clear o;go_wp2;go_ret;exact⟨aE (by rw[D.out,M.out,Bool.true_and];exact oW _ _),B⟩
end
section
open Go.RowKit Go.G5
def fF(x o:List Int)(y:Int):Nat->Nat
 |0=>0
 |k+1=>if x.getD (o.getD k 0).toNat 0<y then fF x o y k else k+1
def iD(o:List Int)(e:Int)(k:Nat):List Int:=(o.take k++[e])++o.drop k
def cC(x:List Int):Nat->List Int
 |0=>[]
 |i+1=>iD (cC x i) i (fF x (cC x i) (x.getD i 0) i)
def fU(i n:Nat):List Int:=(List.range' i (n-i)).map fun(t:Nat)=>(t:Int)
theorem IW(x o:List Int)(y:Int):∀k,fF x o y k<=k:=by
 intro k
 induction k with
 |zero=>exact Nat.le_refl _
 |succ k ih=>rw[fF];split<;>omega
theorem J3(o:List Int)(e:Int)(k:Nat)(z:k<=o.length):(iD o e k).length=o.length+1:=by
 unfold iD;simp;omega
theorem fD(x:List Int):∀i,(cC x i).length=i:=by
 intro i
 induction i with
 |zero=>rfl
 |succ i ih=>
  have h:=IW x (cC x i) (x.getD i 0) i;rw[cC,J3 _ _ _ (by omega),ih]
theorem SH(o:List Int)(e y:Int)(k:Nat)(h:y∈iD o e k):y∈o∨y=e:=by
 unfold iD at h
 rcases List.mem_append.1 h with h|h
 ·rcases List.mem_append.1 h with h|h
  ·exact .inl (List.mem_of_mem_take h)
  ·exact .inr (List.mem_singleton.1 h)
 ·exact .inl (List.mem_of_mem_drop h)
theorem kL(x:List Int):∀i,∀e∈cC x i,0<=e/\e<i:=by
 intro i
 induction i with
 |zero=>intro e h;simp[cC]at h
 |succ i ih=>
  intro e h
  rcases SH _ _ _ _ h with h|h
  ·have:=ih e h;omega
  ·subst h;omega
theorem EK(i n:Nat):(fU i n).length=n-i:=by unfold fU;simp
theorem AJ(i n:Nat)(h:i<n):fU i n=(i:Int)::fU (i+1) n:=by
 unfold fU;rw[show n-i=(n-(i+1))+1 by omega,List.range'_succ]
 rfl
theorem S7(n k:Nat)(h:k<(fU 0 n).length):(fU 0 n)[k]=(k:Int):=by
 unfold fU;simp
theorem TL(o r:List Int)(e:Int):iD o e o.length++r=o++e::r:=by
 unfold iD;simp
theorem T0(o r:List Int)(e:Int)(k:Nat)(z:k<=o.length):(iD o e k++r)[k]?=some e:=by
 unfold iD;have h1:(o.take k).length=k:=by rw[List.length_take];omega
 rw[List.append_assoc,List.append_assoc,List.getElem?_append_right (by omega),h1];simp
theorem KK(o r:List Int)(e:Int)(k:Nat)(z:k+1<=o.length):(iD o e (k+1)++r)[k]?=some (o[k]'(by omega)):=by
 unfold iD;have h1:(o.take (k+1)).length=k+1:=by rw[List.length_take];omega
 rw[List.append_assoc,List.append_assoc,List.getElem?_append_left (by omega),List.getElem?_take,if_pos (by omega),List.getElem?_eq_getElem (by omega)]
theorem PW(o r:List Int)(e:Int)(k:Nat)(D:k+1<=o.length):((iD o e (k+1)++r).set (k+1) (o[k]'(by omega))).set k e=iD o e k++r:=by
 obtain⟨p,q,t,rfl,A⟩:∃p q t,o=p++q::t/\p.length=k:=⟨o.take k,o[k]'(by omega),o.drop (k+1),by rw[List.getElem_cons_drop,List.take_append_drop],by rw[List.length_take];omega⟩;subst A;have h1:(p++q::t).take (p.length+1)=p++[q]:=by rw[List.take_append];simp[List.take_of_length_le]
 have h2:(p++q::t).drop (p.length+1)=t:=by rw[List.drop_append];simp
 have h3:(p++q::t).take p.length=p:=by simp
 have h4:(p++q::t).drop p.length=q::t:=by simp
 have z:(p++q::t)[p.length]'(by simp)=q:=by simp
 unfold iD;rw[h1,h2,h3,h4,z];simp
theorem M9(x:List Int)(i k:Nat)(o:k<i):∃e:Nat,e<i/\(cC x i)[k]?=some (e:Int):=by
 have h:k<(cC x i).length:=by rw[fD];exact o
 have z:=kL x i _ (List.getElem_mem h);refine⟨((cC x i)[k]).toNat,by omega,?_⟩;rw[List.getElem?_eq_getElem h,show(((cC x i)[k].toNat:Nat):Int)=(cC x i)[k] by omega]
def uK(x:List Int)(n i:Nat):List Int:=cC x (min i n)++fU (min i n) n
theorem O0(x:List Int)(n:Nat):uK x n 1=fU 0 n:=by
 unfold uK
 cases n with
 |zero=>rfl
 |succ n=>
  rw[show min 1 (n+1)=1 by omega,AJ 0 (n+1) (by omega)]
  rfl
theorem SA(x:List Int)(n i:Nat)(h:n<=i):uK x n i=cC x n:=by
 unfold uK;rw[Nat.min_eq_right h];unfold fU;simp
theorem UN(x:List Int)(n i:Nat)(h:i<n):uK x n i=iD (cC x i) i i++fU (i+1) n:=by
 unfold uK;rw[Nat.min_eq_left (Nat.le_of_lt h),AJ i n h];have:=TL (cC x i) (fU (i+1) n) i;rw[fD]at this;exact this.symm
theorem DM(x:List Int)(n i:Nat)(h:i<n):uK x n (i+1)=iD (cC x i) i (fF x (cC x i) (x.getD i 0) i)++fU (i+1) n:=by
 unfold uK;rw[Nat.min_eq_left (by omega)]
 rfl
theorem LB(W:World)(x:List Int)(v:Value)(L a b:Nat)(p q:Int)(Q:aD W v x)(M:x[a]?=some p)(hb:x[b]?=some q)(K:∀y∈x,-1000<=y/\y<=1000)(d:W.cell? ⟨L,0,none⟩=some v):
  Calls Tryz.prog 331 #[.int .i64 (a:Int),.int .i64 (b:Int),.pointer (some ⟨L,0,none⟩)] W fun e w'=>e=.returned (.int .i64 (q-p))/\Below W.heap.size W w':=by
 obtain⟨ad,bk,Z,c,rfl,D,A,I,F⟩:=Q.view Tryz.prog 22 3 Tryz.underlying22 aG;obtain⟨o,N⟩:=List.getElem?_eq_some_iff.1 M;obtain⟨z,O⟩:=List.getElem?_eq_some_iff.1 hb;have U:=I a o;have Y:=I b z;have ia:=fun W'=>A W' a o;have ib:=fun W'=>A W' b z;have R:=K _ (List.getElem_mem o);have S:=K _ (List.getElem_mem z);rw[N]at U R;rw[O]at Y S;have hw:IntKind.i64.wrap (q-p)=q-p:=by rw[IntKind.wrap_i64];omega
 clear I A M hb K N O o z D F Q;go_enter Tryz.func331,Tryz.ntmps331;go_wp2_with fail;go_quiet (fail);go_wp2;go_ret;exact⟨rfl,(Below.refl _ _).drewN' _⟩
theorem wI:∀args w,(callFunc 331 args).run Tryz.prog w=.ok (.enter 331 args) w:=enters_of Tryz.func331 (by kernel_rfl) rfl
theorem FK(x:List Int)(v:Value)(A w:World)(gb g n cap:Nat)(hn:n=x.length)(h5:n<=5)(hv:aD A v x)(hx:∀y∈x,-1000<=y/\y<=1000)(d:A.cell? ⟨gb,0,none⟩=some v)
  (hb:Below A.heap.size A w) (ho:aC 3 A.heap.size w (.slice (some ⟨g,0,none⟩) n cap) (fU 0 n)):
  Calls Tryz.prog 387 #[.slice (some ⟨g,0,none⟩) n cap,.int .i64 0,.int .i64 (n:Int),.func (.func 331) #[] #[.pointer (some ⟨gb,0,none⟩)]] w fun e w'=>e=.returned (.tuple #[])/\aC 3 A.heap.size w' (.slice (some ⟨g,0,none⟩) n cap) (cC x n)/\Below A.heap.size A w':=by
 have e5:=World.block_lt_of_cell? A _ d;have hg:=(ho.lt g rfl).1;have hd:∀W a b p q,Below A.heap.size A W->x[a]?=some p->x[b]?=some q->Calls Tryz.prog 331 #[.int .i64 (a:Nat),.int .i64 (b:Nat),.pointer (some ⟨gb,0,none⟩)] W fun e w'=>e=.returned (.int .i64 (q-p))/\Below W.heap.size W w':=
  fun W a b p q hB ha hb=>LB W x v gb a b p q (hv.below hB (Nat.le_refl _)) ha hb hx ((hB.cell (p:=⟨gb,0,none⟩) e5).trans d)
 have he:=wI;have HD:=Lib.hid hd;have HX:=Lib.hid hx;have HN:=Lib.hid hn;clear hd hv d hx hn;rw[<-O0 x n]at ho;go_enter Tryz.func387,Tryz.ntmps387;go_wp2_with fail;go_loopw [8] (fun i wr=>∃k:Nat,i=.int .i64 k/\1<=k/\k<=n+1/\aC 3 A.heap.size wr (.slice (some ⟨g,0,none⟩) n cap) (uK x n k)/\Below A.heap.size A wr) (fun i _=>n+1-(intOf i).toNat)
 case atStart=>exact⟨1,rfl,by omega,by omega,ho,hb⟩
 case round=>
  obtain⟨i,rfl,h8,h9,o,B⟩:=hrel;clear ho hb;have HO:=Lib.hid o;clear o
  by_cases hlt:i<n
  ·have b5:(i:Int)<(n:Int):=by omega
   have o:=HO.out;rw[UN x n i hlt]at o;obtain⟨wo,rfl⟩:∃wo:World,wo=wr:=⟨_,rfl⟩;go_wp2_with fail;go_loopw [9] (fun j wi=>∃k:Nat,j=.int .i64 k/\k<=i/\fF x (cC x i) (x.getD i 0) k=fF x (cC x i) (x.getD i 0) i/\aC 3 A.heap.size wi (.slice (some ⟨g,0,none⟩) n cap) (iD (cC x i) i k++fU (i+1) n)/\Below A.heap.size A wi) (fun j _=>(intOf j).toNat)
   case atStart=>exact⟨i,rfl,Nat.le_refl _,rfl,o,B⟩
   case round=>
    obtain⟨j,rfl,i1,K,oi,Bi⟩:=hrel;clear o B HO;have HS:=Lib.hid K;clear K;have F:(iD (cC x i) i j++fU (i+1) n).length=n:=by rw[List.length_append,J3 _ _ _ (by rw[fD];omega),fD,EK];omega
    cases j with
    |zero=>
     go_wp2;go_quiet (fail);go_wp2;go_roundw
     case rel=>
      refine⟨i+1,by go_num,by omega,by omega,?_,Bi.drewN' _⟩;rw[DM x n i hlt,<-HS.out];exact oi.drewN _
     case measure=>simp[intOf];omega
    |succ k=>
     obtain⟨L,h7,R⟩:=M9 x i k (by omega);have N:k+1<=(cC x i).length:=by rw[fD];omega
     have M:(cC x i)[k]'(by omega)=(L:Int):=(List.getElem?_eq_some_iff.1 R).2;have a8:(cC x i).getD k 0=(L:Int):=by rw[List.getD_eq_getElem?_getD,R];rfl
     obtain⟨hj,a9⟩:=List.getElem?_eq_some_iff.1 (T0 (cC x i) (fU (i+1) n) i (k+1) N);obtain⟨hk,U⟩:=List.getElem?_eq_some_iff.1 (KK (cC x i) (fU (i+1) n) i k N);have Y:=PW (cC x i) (fU (i+1) n) i k N;rw[M]at U Y;have cj:=oi.cellAt F.symm (k+1) hj;have ck:=oi.cellAt F.symm k hk;rw[a9]at cj;rw[U]at ck;have fj:=oi.frozenAt F.symm (k+1);have fk:=oi.frozenAt F.symm k;have xi:x[i]?=some (x.getD i 0):=by rw[List.getD_eq_getElem?_getD,List.getElem?_eq_getElem (by rw[<-HN.out];omega)];rfl
     have xe:x[L]?=some (x.getD L 0):=by rw[List.getD_eq_getElem?_getD,List.getElem?_eq_getElem (by rw[<-HN.out];omega)];rfl
     have b6:=HX.out _ (List.mem_of_getElem? xi);have b7:=HX.out _ (List.mem_of_getElem? xe);have K:fF x (cC x i) (x.getD i 0) (k+1)=if x.getD L 0<x.getD i 0 then fF x (cC x i) (x.getD i 0) k else k+1:=by rw[fF,a8];rfl
     have Q:=fun y:Ext wr=>HD.out y.w i L _ _ (Bi.after y.b Bi.size) xi xe;obtain⟨r,hr⟩:∃r,r=x.getD L 0-x.getD i 0:=⟨_,rfl⟩;rw[<-hr]at Q;have HC:=Lib.hid Q;have b3:=Lib.hid K;have e4:=Lib.hid Y;have b0:=Lib.hid oi;have O:=Lib.hid F;have i6:IntKind.i64.wrap ((((k+1:Nat):Int))-1)=(k:Int):=by rw[IntWalk.i64_in _ ⟨by omega,by omega⟩];omega
     have hz:(0:Int)<((k+1:Nat):Int):=by omega
     have i7:((k+1:Nat):Int)<(n:Int):=by omega
     have f8:(k:Int)<(n:Int):=by omega
     have yj:∀y:Ext wr,y.w.cell? ⟨g,k+1,none⟩=some (.int .i64 i):=fun y=>y.cell cj;have yk:∀y:Ext wr,y.w.cell? ⟨g,k,none⟩=some (.int .i64 L):=fun y=>y.cell ck
     by_cases I:x.getD L 0<x.getD i 0
     ·have e9:r<0:=by omega
      have a7:=Lib.hid I;have HR:=Lib.hid hr;clear Q K Y oi F hr I b6 b7 hj a9 hk U xi xe R M a8 N;go_wp2_with fail;refine aO _ (by kernel_rfl) (by kernel_rfl) ?_
      repeat(first|go_big_quiet_skip|(go_big_quiet_want;go_big_quiet_op;first|go_big_quiet_on|(apply Exists.intro;refine⟨fun _=>?_,?_⟩;(go_at_fn 331;exact aV (HC.out _));go_big_quiet_on)))
      refine wpQuiet_nil ?_;rintro w3 ⟨⟨w3,D⟩,rfl⟩
      try dsimp only
      have Z:=b0.out.keep D;have g5:=keep D cj;have g6:=keep D ck;have g8:=Z.frozenAt O.out.symm (k+1);have h0:=Z.frozenAt O.out.symm k;have c9:=Lib.hid Z;have B3:=Bi.after D Bi.size;clear yj yk cj ck fj fk Z;go_wp2;go_region
      all_goals go_wp2
      go_roundw
      case rel=>
       have S:∀z,aC 3 A.heap.size (((w3.drewN z).setCell ⟨g,k+1,none⟩ (.int .i64 L)).setCell ⟨g,k,none⟩ (.int .i64 i)) (.slice (some ⟨g,0,none⟩) n cap) (iD (cC x i) i k++fU (i+1) n)/\Below A.heap.size A (((w3.drewN z).setCell ⟨g,k+1,none⟩ (.int .i64 L)).setCell ⟨g,k,none⟩ (.int .i64 i)):=by
        intro z;have s1:=(c9.out.drewN z).stored O.out.symm (k+1) L ⟨by omega,by omega⟩;have s2:=s1.1.stored (by rw[List.length_set];exact O.out.symm) k i ⟨by omega,by omega⟩;rw[e4.out]at s2;have b1:=(B3.drewN' z).grown s1.2 (B3.drewN' z).size (fun q hq=>by have:=Option.some.inj hq;omega);exact⟨s2.1,b1.grown s2.2 b1.size (fun q hq=>by have:=Option.some.inj hq;omega)⟩
       refine⟨k,rfl,by omega,?_,(S _).1,(S _).2⟩;rw[<-HS.out,b3.out,if_pos a7.out]
      case measure=>simp[intOf];done
     ·have e9:¬r<0:=by omega
      have a7:=Lib.hid I;have HR:=Lib.hid hr;clear Q K Y oi F hr I b6 b7 hj a9 hk U xi xe R M a8 N;go_wp2_with fail;refine aO _ (by kernel_rfl) (by kernel_rfl) ?_
      repeat(first|go_big_quiet_skip|(go_big_quiet_want;go_big_quiet_op;first|go_big_quiet_on|(apply Exists.intro;refine⟨fun _=>?_,?_⟩;(go_at_fn 331;exact aV (HC.out _));go_big_quiet_on)))
      refine wpQuiet_nil ?_;rintro w3 ⟨⟨w3,D⟩,rfl⟩
      try dsimp only
      go_wp2;go_roundw
      case rel=>
       refine⟨i+1,by go_num,by omega,by omega,?_,Bi.after D Bi.size⟩;rw[DM x n i hlt,<-HS.out,b3.out,if_neg (Int.not_lt.2 a7.out)];exact b0.out.keep D
      case measure=>simp[intOf];omega
  ·have b5:¬(i:Int)<(n:Int):=by omega
   have o:=HO.out;rw[SA x n i (by omega)]at o;go_wp2;go_end0;exact⟨rfl,o,B⟩
theorem O3(x:List Int)(v:Value)(z w:World)(A g n cap:Nat)(F:n=x.length)(Q:n<=5)(K:aD z v x)(L:∀y∈x,-1000<=y/\y<=1000)(d:z.cell? ⟨A,0,none⟩=some v)
  (hb:Below z.heap.size z w) (I:aC 3 z.heap.size w (.slice (some ⟨g,0,none⟩) n cap) (fU 0 n)):
  Calls Tryz.prog 368 #[.slice (some ⟨g,0,none⟩) n cap,.int .i64 (n:Int),.func (.func 331) #[] #[.pointer (some ⟨A,0,none⟩)]] w fun e w'=>e=.returned (.tuple #[])/\aC 3 z.heap.size w' (.slice (some ⟨g,0,none⟩) n cap) (cC x n)/\Below z.heap.size z w':=by
 have M:=Lib.hid (FK x v z w A g n cap F Q K L d hb I);have O:¬(20:Int)<=(n:Int):=by omega
 have D:¬(20:Int)<(n:Int):=by omega
 clear K L d hb I F;go_enter Tryz.func368,Tryz.ntmps368;go_wp2_with fail;go_loopw [7,8,18] (fun a b t wr=>a=.int .i64 0/\b=.int .i64 20/\wr=w) (fun _ _ _ _=>0)
 case atStart=>exact⟨rfl,rfl,rfl⟩
 case round=>
  obtain⟨rfl,rfl,rfl⟩:=hrel;go_wp2_with (go_at_call 387;refine M.out.mono ?_;rintro e w2 ⟨rfl,o,b⟩);have N:=Lib.hid o;clear o;go_loopw [6] (fun a wr=>a=.int .i64 20/\wr=w2) (fun _ _=>0)
  case atStart=>exact⟨rfl,rfl⟩
  case round=>
   obtain⟨rfl,rfl⟩:=hrel;go_wp2;go_end0;exact⟨rfl,N.out,b⟩
theorem CY(x:List Int)(v:Value)(z w:World)(A g n cap:Nat)(D:n=x.length)(M:n<=5)(I:aD z v x)(K:∀y∈x,-1000<=y/\y<=1000)(d:z.cell? ⟨A,0,none⟩=some v)
  (hb:Below z.heap.size z w) (F:aC 3 z.heap.size w (.slice (some ⟨g,0,none⟩) n cap) (fU 0 n)):
  Calls Tryz.prog 330 #[.slice (some ⟨g,0,none⟩) n cap,.func (.func 331) #[] #[.pointer (some ⟨A,0,none⟩)]] w fun e w'=>e=.returned (.tuple #[])/\aC 3 z.heap.size w' (.slice (some ⟨g,0,none⟩) n cap) (cC x n)/\Below z.heap.size z w':=by
 have L:=Lib.hid (O3 x v z w A g n cap D M I K d hb F);clear I K d hb F D;go_enter Tryz.func330,Tryz.ntmps330;go_wp2_with (go_at_call 368;refine L.out.mono ?_;rintro e w2 ⟨rfl,o,b⟩);go_end0;exact⟨rfl,o,b⟩
theorem tH(x:List Int)(v:Value)(w:World)(h5:x.length<=5)(hv:aD w v x)(hx:∀y∈x,-1000<=y/\y<=1000):
  Calls Tryz.prog 276 #[v] w fun e w'=>∃ad i c,e=.returned (.slice ad i c)/\aC 3 w.heap.size w' (.slice ad i c) (cC x x.length)/\Below w.heap.size w w':=by
 obtain⟨a,c,rfl⟩:=hv.shape;obtain⟨D,F⟩:∃W,W=w.alloc (.cells #[.slice a x.length c] 22):=⟨_,rfl⟩;have z0:D.heap.size=w.heap.size+1:=by rw[F];simp
 have d:D.cell? ⟨w.heap.size,0,none⟩=some (.slice a x.length c):=by rw[F];exact aT _ _ _ _ _ rfl
 have M:Below w.heap.size w D:=by rw[F];exact aM _ _
 have S:=hv.below M (Nat.le_refl _);have d0:∀(fn:Fn) (first cap:Array Value) (w:World),(Instr.makeFunc fn first cap).run Tryz.prog w=.ok (.func fn first cap) w:=fun _ _ _ _=>rfl;have HX:=Lib.hid hx;clear hx;go_enter Tryz.func276,Tryz.ntmps276;have d1:=aT w #[.slice a x.length c] 22 0 _ rfl;go_wp2_with (at_make;refine nZ rfl _ _ _ rfl 3 Tryz.underlying22 aG x.length _ _ rfl rfl rfl rfl (by omega) ?_;intro w2 z hg);rw[<-F]at z hg;have B2:Below D.heap.size D w2:=(Below.refl _ _).grown hg (Nat.le_refl _) (by simp);clear hg d1;have z:aC 3 D.heap.size w2 (.slice (some ⟨w.heap.size+1,0,none⟩) x.length x.length) (List.replicate x.length 0):=by rw[z0]at z ⊢;exact z
 obtain⟨n,Y⟩:∃n,n=x.length:=⟨_,rfl⟩;obtain⟨l,U⟩:∃l,l=fU 0 n:=⟨_,rfl⟩;have L:l.length=n:=by rw[U,EK];omega
 have Q:∀k,(h:k<l.length)->l[k]=(k:Int):=by subst U;exact fun k h=>S7 n k h
 have c8:D.heap.size<=w.heap.size+1:=by omega
 have e0:List.replicate x.length (0:Int)=l.take 0++List.replicate (l.length-0) 0:=by rw[L,Y];rfl
 rw[e0]at z;simp only[<-Y]at z h5 hv S d ⊢;have Z:=Lib.hid Q;have A:=Lib.hid L;have HL:=Lib.hid U;have HN:=Lib.hid Y;clear Q L U Y e0 z0 F;go_loopw [10] (fun i wr=>∃k:Nat,i=.int .i64 k/\k<=n/\aC 3 D.heap.size wr (.slice (some ⟨w.heap.size+1,0,none⟩) n n) (l.take k++List.replicate (l.length-k) 0)/\Below D.heap.size D wr) (fun i _=>n-(intOf i).toNat)
 case atStart=>exact⟨0,rfl,by omega,z,B2⟩
 case round=>
  obtain⟨k,rfl,hk,o,B⟩:=hrel;clear z B2;have N:=Lib.hid o;clear o;have K:=JZ l k (by rw[A.out];exact hk);rw[A.out]at K;rw[A.out]at N
  by_cases hlt:k<n
  ·have R:(k:Int)<(n:Int):=by omega
   have I:∃q,wr.cell? ⟨w.heap.size+1,k,none⟩=some q:=⟨_,N.out.cellAt K.symm k (by omega)⟩;obtain⟨q,I⟩:=I;have c7:=N.out.frozenAt K.symm k;have st:=N.out.stored K.symm k k ⟨by omega,by omega⟩;have fs:=EE l k (by rw[A.out];exact hlt);rw[Z.out,A.out]at fs;rw[fs]at st;have B1:=B.grown st.2 B.size (fun q hq=>by have:=Option.some.inj hq;omega);have a6:=Lib.hid st.1;clear st fs K;go_wp2;go_roundw
   case rel=>exact⟨k+1,by go_num,by omega,by rw[A.out];exact a6.out,B1⟩
   case measure=>simp[intOf];omega
  ·have R:¬(k:Int)<(n:Int):=by omega
   have O:k=n:=by omega
   have o:=N.out;rw[O,Nat.sub_self,List.take_of_length_le (by rw[A.out];exact Nat.le_refl _)]at o;simp only[List.replicate_zero,List.append_nil]at o;rw[HL.out]at o;have HC:=Lib.hid (CY x _ D wr w.heap.size (w.heap.size+1) n n HN.out h5 (HN.out▸S) HX.out d B o);have b7:=M.trans (B.mono M.size);clear o O;go_wp2_with (go_at_call 330;refine HC.out.mono ?_;rintro e w5 ⟨rfl,o,b⟩);go_ret;exact⟨_,_,_,rfl,by rw[<-HN.out];exact o.mono M.size,M.trans (b.mono M.size)⟩
end
end Go.Proofs.YtipejodijbjpcaaGreatDoor
