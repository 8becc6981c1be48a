/- Lemmas for CardClaims, part 44 of 52. No condition. -/
import Derived.Test.YtipejodijbjpcaaGreatDoorQ06
import Derived.Test.YtipejodijbjpcaaGreatDoorQ13
import Derived.Test.YtipejodijbjpcaaGreatDoorQ19
import Derived.Test.YtipejodijbjpcaaGreatDoorQ40
import Derived.Test.YtipejodijbjpcaaGreatDoorQ41
import Derived.Test.YtipejodijbjpcaaGreatDoorQ42
import Derived.Test.YtipejodijbjpcaaGreatDoorQ43
set_option maxRecDepth 100000
set_option maxHeartbeats 64000000
namespace Go.Proofs.YtipejodijbjpcaaGreatDoor
section
open Go.RowKit Go.G5
theorem PS{w W Wf:World}{r B:Nat}{E:TypeId}{n m:Int}{x y z u va vb:Value}{D a2:Option Addr}{F c1 i2 c2:Nat}{l k:List Int}
  (I:aB W r E #[x,y]) (K:aB W (r+1) E #[z,u]) (L:aC 3 B W (.slice D F c1) l) (M:aC 3 B W (.slice a2 i2 c2) k) (N:r+1<B) (hr:w.heap.size<=r) (hb:Below w.heap.size w W)
  (A:Wf=(((W.setCell ⟨r,0,none⟩ (.int .i64 n)).setCell ⟨r,1,none⟩ va).setCell ⟨r+1,0,none⟩ (.int .i64 m)).setCell ⟨r+1,1,none⟩ vb):
  aB Wf r E #[.int .i64 n,va]/\aB Wf (r+1) E #[.int .i64 m,vb]/\aC 3 w.heap.size Wf (.slice D F c1) l/\aC 3 w.heap.size Wf (.slice a2 i2 c2) k/\Below w.heap.size w Wf:=by
 have own:∀{a:Option Addr} {i c:Nat} {q:List Int},aC 3 B W (.slice a i c) q->aC 3 w.heap.size Wf (.slice a i c) q:=fun o=>by
  rw[A];exact((((o.setBelow (by show r<B;omega) _).setBelow (by show r<B;omega) _).setBelow (by show r+1<B;omega) _).setBelow (by show r+1<B;omega) _).mono (by omega)
 refine⟨?_,?_,own L,own M,?_⟩
 ·rw[A]
  have:=((((I.set 0 (.int .i64 n)).set 1 va).far (p:=⟨r+1,0,none⟩) (by simp) (.int .i64 m)).far (p:=⟨r+1,1,none⟩) (by simp) vb);simpa using this
 ·rw[A]
  have:=((((K.far (p:=⟨r,0,none⟩) (by simp) (.int .i64 n)).far (p:=⟨r,1,none⟩) (by simp) va).set 0 (.int .i64 m)).set 1 vb);simpa using this
 ·rw[A]
  exact Below.setCell (Below.setCell (Below.setCell (Below.setCell hb (by show w.heap.size<=r;omega) _) (by show w.heap.size<=r;omega) _) (by show w.heap.size<=r+1;omega) _) (by show w.heap.size<=r+1;omega) _
theorem yT{w W Wf:World}{r B:Nat}{E:TypeId}{n m:Int}{x y z u va vb:Value}{A a2:Option Addr}{D c1 i2 c2:Nat}{l k:List Int}
  (F:aB W r E #[x,y]) (I:aB W (r+1) E #[z,u]) (L:aC 3 B W (.slice A D c1) l) (M:aC 3 B W (.slice a2 i2 c2) k) (K:r+1<B) (hr:w.heap.size<=r) (hb:Below w.heap.size w W)
  (o:Wf=((((W.setCell ⟨r,0,none⟩ (.int .i64 n)).setCell ⟨r,1,none⟩ va).setCell ⟨r+1,0,none⟩ (.int .i64 m)).setCell ⟨r+1,1,none⟩ vb).drew):
  aB Wf r E #[.int .i64 n,va]/\aB Wf (r+1) E #[.int .i64 m,vb]/\aC 3 w.heap.size Wf (.slice A D c1) l/\aC 3 w.heap.size Wf (.slice a2 i2 c2) k/\Below w.heap.size w Wf:=by
 have t:=PS (w:=w) (va:=va) (vb:=vb) (n:=n) (m:=m) F I L M K hr hb rfl;rw[o];exact⟨t.1,t.2.1,t.2.2.1.keep (Below.refl _ _).drew,t.2.2.2.1.keep (Below.refl _ _).drew,t.2.2.2.2.drew⟩
theorem xE(w:World)(v:Value)(l:List Nat)(hv:fO w v l):
  Calls Tryz.prog 167 #[v] w fun e w'=>∃(n:Int) (a1:Option Addr) (i1 c1:Nat) (l1:List Int) (m:Int) (a2:Option Addr) (i2 c2:Nat) (l2:List Int),e=.returned (.tuple #[.agg #[.int .i64 n,.slice a1 i1 c1],.agg #[.int .i64 m,.slice a2 i2 c2]])/\bA n/\bA m/\aC 3 w.heap.size w' (.slice a1 i1 c1) l1/\aC 3 w.heap.size w' (.slice a2 i2 c2) l2/\l1.length<=64/\l2.length<=64/\Below w.heap.size w w':=by
 go_enter Tryz.func167,Tryz.ntmps167;go_wp2_with fail;refine aH ?_;intro V hV;have B:Below w.heap.size w V:=by rw[hV];exact cD _ _ _
 have M:aB V w.heap.size 32 #[.int .i64 0,.slice none 0 0]:=by rw[hV];exact(aB.new _ _ _).alloc _
 have N:aB V (w.heap.size+1) 32 #[.int .i64 0,.slice none 0 0]:=by rw[hV];have:=aB.new (w.alloc (.cells #[.int .i64 0,.slice none 0 0] 32)) 32 #[.int .i64 0,.slice none 0 0];simpa using this
 have zV:w.heap.size+2<=V.heap.size:=by rw[hV];simp
 clear hV;refine(jL V _ _ (hv.below B (Nat.le_refl _))).mono ?_;rintro e w1 ⟨rfl,D1,b1⟩;have M:=M.keep b1;have N:=N.keep b1;have B:=B.after b1 B.size;have y1:=D1.lt;have C:=Cur.start D1;clear b1;go_wp2_with fail;refine(xO w1 V.heap.size D1).mono ?_;rintro e w2 ⟨n,F,i,I,L,rfl,hn,oF,hL,D2,g2⟩;have M:=M.grow g2 (fun e=>by have:=Option.some.inj e;omega);have N:=N.grow g2 (fun e=>by have:=Option.some.inj e;omega);have C:=C.next D2 g2;have z2:=g2.size;obtain⟨U,hU⟩:∃U,U=w2.alloc (.cells #[.int .i64 n,.slice F i I] 32):=⟨_,rfl⟩;have KF:aB U w2.heap.size 32 #[.int .i64 n,.slice F i I]:=by rw[hU];exact aB.new _ _ _
 have M:=M.alloc (.cells #[.int .i64 n,.slice F i I] 32);have N:=N.alloc (.cells #[.int .i64 n,.slice F i I] 32);have C:=C.alloc (.cells #[.int .i64 n,.slice F i I] 32);have oF:=oF.alloc (.cells #[.int .i64 n,.slice F i I] 32);rw[<-hU]at M N C oF;clear D1 D2 g2;go_upto_region 3 with fail;rw[<-hU];clear hU;go_wp2_with fail;go_loopw [6] (fun kv wr=>∃k:Nat,k<=6/\kv=.int .i64 (k:Int)/\Cur w1 wr V.heap.size/\aB wr w2.heap.size 32 #[.int .i64 n,.slice F i I]/\aC 3 w1.heap.size wr (.slice F i I) L/\aB wr w.heap.size 32 #[.int .i64 0,.slice none 0 0]/\aB wr (w.heap.size+1) 32 #[.int .i64 0,.slice none 0 0]) (fun kv _=>6-(intOf kv).toNat)
 case atStart=>exact⟨0,by omega,rfl,C,KF,oF,M,N⟩
 case round=>
  obtain⟨k,hk,rfl,Cr,A,e9,o,z⟩:=hrel;clear C KF oF M N;have zc:=Cr.zg;have HC:=Lib.hid Cr;have HO:=Lib.hid e9;have bw:Below w.heap.size w wr:=B.grown Cr.gr B.size (fun q hq=>by have:=Option.some.inj hq;omega)
  by_cases h0:k<6
  ·have a9:(k:Int)<6:=by omega
   go_wp2_with fail;refine(xO wr V.heap.size HC.out.D).mono ?_;rintro e w3 ⟨m,a2,i2,c2,L2,rfl,hm,o2,e6,D3,R⟩;have A:=A.grow R (fun e=>by have:=Option.some.inj e;omega);have o:=o.grow R (fun e=>by have:=Option.some.inj e;omega);have z:=z.grow R (fun e=>by have:=Option.some.inj e;omega);have K:=HO.out.cur0 zc R;have O:=HC.out.next D3 R;have z3:=R.size;have zr:=HC.out.size;obtain⟨Y,hY⟩:∃Y,Y=w3.alloc (.cells #[.int .i64 m,.slice a2 i2 c2] 32):=⟨_,rfl⟩;have KG:aB Y w3.heap.size 32 #[.int .i64 m,.slice a2 i2 c2]:=by rw[hY];exact aB.new _ _ _
   have A:=A.alloc (.cells #[.int .i64 m,.slice a2 i2 c2] 32);have o:=o.alloc (.cells #[.int .i64 m,.slice a2 i2 c2] 32);have z:=z.alloc (.cells #[.int .i64 m,.slice a2 i2 c2] 32);have O:=O.alloc (.cells #[.int .i64 m,.slice a2 i2 c2] 32);have K:=K.alloc (.cells #[.int .i64 m,.slice a2 i2 c2] 32);have Z:=(o2.alloc (.cells #[.int .i64 m,.slice a2 i2 c2] 32)).mono (show w1.heap.size<=wr.heap.size by omega);rw[<-hY]at A o z O K Z;have B3:Below w.heap.size w Y:=B.grown O.gr B.size (fun q hq=>by have:=Option.some.inj hq;omega);have e0:=Lib.hid O;have Q:=Lib.hid (And.intro K Z);have a6:=Lib.hid (And.intro o z);have GF:=A.cell;have GG:=KG.cell;have zY:=O.size;clear D3 R O K Z o2 bw;go_upto_region 7 with fail;rw[<-hY];clear hY
   by_cases b0:m=n
   ·subst b0
    have G0:=o.cell;have F0:=o.frozen;have G1:=z.cell;have F1:=z.frozen;have c7:∀j,Y.drew.cell? ⟨w2.heap.size,j,none⟩=#[Value.int .i64 m,.slice F i I][j]?:=GF;have g7:∀j,Y.drew.cell? ⟨w3.heap.size,j,none⟩=#[Value.int .i64 m,.slice a2 i2 c2][j]?:=GG;go_wp2_with fail;go_region
    all_goals
     go_wp2;refine aI ?_;intro Wf S;have t:=yT (W:=Y) (o) z Q.out.1 Q.out.2 (by omega) (Nat.le_refl _) B3 S;have H0:=t.1.cell;have H1:=t.2.1.cell;exact bodyPost_ret (v:=.tuple #[.agg #[.int .i64 m,.slice F i I],.agg #[.int .i64 m,.slice a2 i2 c2]]) (by simp[results,Tryz.results167,go_sem,H0,H1]) rfl ⟨m,F,i,I,L,m,a2,i2,c2,L2,rfl,hn,hn,t.2.2.1,t.2.2.2.1,hL,e6,t.2.2.2.2⟩
   ·have hb:((m:Int)==n)=false:=by rw[beq_eq_false_iff_ne];exact b0
    go_wp2;go_roundw
    case rel=>exact⟨k+1,by omega,by go_num,e0.out,A,Q.out.1,a6.out.1,a6.out.2⟩
    case measure=>simp[intOf];omega
  ·have a9:¬(k:Int)<6:=by omega
   have GF:=A.cell;have G0:=o.cell;have F0:=o.frozen;have G1:=z.cell;have F1:=z.frozen;have c7:∀j,wr.drew.cell? ⟨w2.heap.size,j,none⟩=#[Value.int .i64 n,.slice F i I][j]?:=GF;go_wp2_with fail;go_region
   all_goals
    go_wp2;refine aI ?_;intro Wf S;have t:=yT (W:=wr) o z HO.out HO.out (by omega) (Nat.le_refl _) bw S;have H0:=t.1.cell;have H1:=t.2.1.cell;exact bodyPost_ret (v:=.tuple #[.agg #[.int .i64 n,.slice F i I],.agg #[.int .i64 n,.slice F i I]]) (by simp[results,Tryz.results167,go_sem,H0,H1]) rfl ⟨n,F,i,I,L,n,F,i,I,L,rfl,hn,hn,t.2.2.1,t.2.2.2.1,hL,hL,t.2.2.2.2⟩
end
section
open Go.RowKit Go.G5
theorem uP(w:World)(v:Value)(l:List Nat)(hv:fO w v l):
  Calls Tryz.prog 156 #[v] w fun e w'=>∃(n:Int) (D:Option Addr) (i F:Nat) (L:List Int) (o:Option Addr) (i2 z:Nat) (X:List Int),e=.returned (.tuple #[.agg #[.int .i64 n,.slice D i F],.slice o i2 z])/\bA n/\aC 3 w.heap.size w' (.slice D i F) L/\L.length<=64/\aC 3 w.heap.size w' (.slice o i2 z) X/\X.length<=5/\Below w.heap.size w w':=by
 go_enter Tryz.func156,Tryz.ntmps156;go_wp2_with fail;refine aH ?_;intro V R;have B:Below w.heap.size w V:=by rw[R];exact aM _ _
 have A:aB V w.heap.size 32 #[.int .i64 0,.slice none 0 0]:=by rw[R];exact aB.new _ _ _
 have zV:w.heap.size+1<=V.heap.size:=by rw[R];simp
 clear R;refine(jL V _ _ (hv.below B (Nat.le_refl _))).mono ?_;rintro e w1 ⟨rfl,Z,Q⟩;have A:=A.keep Q;have B:=B.after Q B.size;have zb:=Q.size;have yD:=Z.lt;clear Q;go_wp2_with fail;refine(AX w1 V.heap.size Z).mono ?_;rintro e w2 ⟨n,D,i,F,L,o,i2,z,X,rfl,hn,S,hL,U,hX,D2,g2⟩;have A:=A.grow g2 (fun e=>by have:=Option.some.inj e;omega);have N:=B.grown g2 B.size (fun q hq=>by have:=Option.some.inj hq;omega);have y2:=N.size;obtain⟨O,I⟩:∃O,O=w2.alloc (.cells #[.int .i64 n,.slice D i F] 32):=⟨_,rfl⟩;have K3:aB O w2.heap.size 32 #[.int .i64 n,.slice D i F]:=by rw[I];exact aB.new _ _ _
 have K:Below w2.heap.size w2 O:=by rw[I];exact aM _ _
 have A:=A.keep K;have S:=S.keep K;have U:=U.keep K;have Y:=N.after K N.size;have z3:=K.size;clear K N;have G2:=A.cell;have F2:=A.frozen;have G3:=K3.cell;go_upto_region 2 with fail;rw[<-I];clear I;go_wp2;refine aI ?_;intro Wf M;have t:=eA (w:=w) (E:=32) (m:=n) (b:=.slice D i F) A S (Nat.le_refl _) (by omega) Y M;have u:=eA (w:=w) (E:=32) (m:=n) (b:=.slice D i F) A U (Nat.le_refl _) (by omega) Y M;have GF:=t.1.cell;exact bodyPost_ret (v:=.tuple #[.agg #[.int .i64 n,.slice D i F],.slice o i2 z]) (by simp[results,Tryz.results156,go_sem,GF]) rfl (by first|exact⟨n,D,i,F,L,o,i2,z,X,rfl,hn,t.2.1,hL,u.2.1,hX,t.2.2⟩|exact⟨n,D,i,F,L,o,i2,z,rfl,hn,t.2.1,hL,X,u.2.1,hX,t.2.2⟩)
theorem A0(w:World)(v:Value)(l:List Nat)(hv:fO w v l):
  Calls Tryz.prog 162 #[v] w fun e w'=>∃(n:Int) (o:Option Addr) (i A:Nat) (L:List Int) (z:Option Addr) (i2 D:Nat) (X:List Int),e=.returned (.tuple #[.agg #[.int .i64 n,.slice o i A],.slice z i2 D])/\bA n/\aC 3 w.heap.size w' (.slice o i A) L/\L.length<=64/\aC 3 w.heap.size w' (.slice z i2 D) X/\X.length<=5/\Below w.heap.size w w':=by
 go_enter Tryz.func162,Tryz.ntmps162;go_wp2_with fail;refine aH ?_;intro V hV;have B:Below w.heap.size w V:=by rw[hV];exact aM _ _
 have F:aB V w.heap.size 32 #[.int .i64 0,.slice none 0 0]:=by rw[hV];exact aB.new _ _ _
 have zV:w.heap.size+1<=V.heap.size:=by rw[hV];simp
 clear hV;refine(jL V _ _ (hv.below B (Nat.le_refl _))).mono ?_;rintro e w1 ⟨rfl,D1,b1⟩;have F:=F.keep b1;have B:=B.after b1 B.size;have zb:=b1.size;have yD:=D1.lt;clear b1;go_wp2_with fail;refine(AX w1 V.heap.size D1).mono ?_;rintro e w2 ⟨n,o,i,A,L,_,_,_,X0,rfl,hn,Z,hL,O,_,D2,g2⟩;have yg:=g2.size;have F:=F.grow g2 (fun e=>by have:=Option.some.inj e;omega);have B2:=B.grown g2 B.size (fun q hq=>by have:=Option.some.inj hq;omega);have y2:=B2.size;obtain⟨I,K⟩:∃I,I=w2.alloc (.cells #[.int .i64 n,.slice o i A] 32):=⟨_,rfl⟩;have K3:aB I w2.heap.size 32 #[.int .i64 n,.slice o i A]:=by rw[K];exact aB.new _ _ _
 have Q:Below w2.heap.size w2 I:=by rw[K];exact aM _ _
 have F:=F.keep Q;have Z:=Z.keep Q;have O:=O.keep Q;have S:=B2.after Q B2.size;have z3:=Q.size;clear Q B2;have G2:=F.cell;have F2:=F.frozen;have G3:=K3.cell;have D3:=by have:=D2.keep (aM w2 (.cells #[.int .i64 n,.slice o i A] 32));rw[<-K]at this;exact this
 obtain⟨N,b4,hN⟩:=QU n;have h7:=AO I.drew V.heap.size (D3.keep (Below.refl _ _).drew) N b4;have H7:=Lib.hid h7;have a8:aB I.drew w.heap.size 32 #[.int .i64 0,.slice none 0 0]:=F;have U:aB I.drew w2.heap.size 32 #[.int .i64 n,.slice o i A]:=K3;have od:aC 3 w1.heap.size I.drew (.slice o i A) L:=Z.keep (Below.refl _ _).drew;have e6:=U.cell;have yd:I.drew.heap.size=I.heap.size:=rfl;clear h7 O;go_upto_region 3 with fail;rw[<-K];clear K;go_region_law
  (go_simp;go_at_call 272;refine H7.out.mono ?_;rintro e w5 ⟨z,i2,D,X,rfl,O,e9,D5,R⟩;have a9:=U.grow R (fun e=>by have:=Option.some.inj e;omega);have e5:=a9.cell;have M:=a8.grow R (fun e=>by have:=Option.some.inj e;omega);have e4:=M.cell;have e0:=M.frozen)
 all_goals
  have Z:=od.cur0 (by omega) R;have S:=(S.drew).grown R S.size (fun q hq=>by have:=Option.some.inj hq;omega);have F:=M;have hX:X.length<=5:=by omega
  have y5:=R.size;have O:=O.mono (show w1.heap.size<=I.drew.heap.size by omega);clear D5 R;go_wp2;refine aI ?_;intro Wf Y;have t:=eA (w:=w) (E:=32) (m:=n) (b:=.slice o i A) F Z (Nat.le_refl _) (by omega) S Y;have u:=eA (w:=w) (E:=32) (m:=n) (b:=.slice o i A) F O (Nat.le_refl _) (by omega) S Y;have GF:=t.1.cell;exact bodyPost_ret (v:=.tuple #[.agg #[.int .i64 n,.slice o i A],.slice z i2 D]) (by simp[results,Tryz.results162,go_sem,GF]) rfl (by first|exact⟨n,o,i,A,L,z,i2,D,X,rfl,hn,t.2.1,hL,u.2.1,hX,t.2.2⟩|exact⟨n,o,i,A,L,z,i2,D,rfl,hn,t.2.1,hL,X,u.2.1,hX,t.2.2⟩)
theorem CU(w:World)(v:Value)(l:List Nat)(hv:fO w v l):
  Calls Tryz.prog 39 #[v] w fun e w'=>∃(n:Int) (A:Option Addr) (i D:Nat) (L:List Int) (o:Option Addr) (i2 z:Nat) (X:List Int),e=.returned (.tuple #[.agg #[.int .i64 n,.slice A i D],.slice o i2 z])/\bA n/\aC 3 w.heap.size w' (.slice A i D) L/\L.length<=64/\aC 3 w.heap.size w' (.slice o i2 z) X/\X.length<=5/\Below w.heap.size w w':=by
 go_enter Tryz.func39,Tryz.ntmps39;go_wp2_with fail;refine aH ?_;intro V Q;have B:Below w.heap.size w V:=by rw[Q];exact aM _ _
 have I:aB V w.heap.size 32 #[.int .i64 0,.slice none 0 0]:=by rw[Q];exact aB.new _ _ _
 have zV:w.heap.size+1<=V.heap.size:=by rw[Q];simp
 clear Q;refine(A0 V _ _ (hv.below B (Nat.le_refl _))).mono ?_;rintro e w2 ⟨n,A,i,D,L,o,i2,z,X,rfl,hn,R,Y,S,Z,b2⟩;have I:=I.keep b2;have N:=B.after b2 B.size;have y2:=N.size;obtain⟨O,F⟩:∃O,O=w2.alloc (.cells #[.int .i64 n,.slice A i D] 32):=⟨_,rfl⟩;have K3:aB O w2.heap.size 32 #[.int .i64 n,.slice A i D]:=by rw[F];exact aB.new _ _ _
 have K:Below w2.heap.size w2 O:=by rw[F];exact aM _ _
 have I:=I.keep K;have R:=R.keep K;have S:=S.keep K;have U:=N.after K N.size;have z3:=K.size;clear K N;have G2:=I.cell;have F2:=I.frozen;have G3:=K3.cell;go_upto_region 2 with fail;rw[<-F];clear F;go_wp2;refine aI ?_;intro Wf M;have t:=eA (w:=w) (E:=32) (m:=n) (b:=.slice A i D) I R (Nat.le_refl _) (by omega) U M;have u:=eA (w:=w) (E:=32) (m:=n) (b:=.slice A i D) I S (Nat.le_refl _) (by omega) U M;have GF:=t.1.cell;exact bodyPost_ret (v:=.tuple #[.agg #[.int .i64 n,.slice A i D],.slice o i2 z]) (by simp[results,Tryz.results39,go_sem,GF]) rfl (by first|exact⟨n,A,i,D,L,o,i2,z,X,rfl,hn,t.2.1,Y,u.2.1,Z,t.2.2⟩|exact⟨n,A,i,D,L,o,i2,z,rfl,hn,t.2.1,Y,X,u.2.1,Z,t.2.2⟩)
theorem ET(w:World)(v:Value)(l:List Nat)(hv:fO w v l):
  Calls Tryz.prog 37 #[v] w fun e w'=>∃(n:Int) (o:Option Addr) (i z:Nat) (L:List Int),e=.returned (.agg #[.int .i64 n,.slice o i z])/\bA n/\aC 3 w.heap.size w' (.slice o i z) L/\L.length<=64/\Below w.heap.size w w':=by
 go_enter Tryz.func37,Tryz.ntmps37;go_wp2_with fail;refine aH ?_;intro V M;have B:Below w.heap.size w V:=by rw[M];exact aM _ _
 have D:aB V w.heap.size 32 #[.int .i64 0,.slice none 0 0]:=by rw[M];exact aB.new _ _ _
 have zV:w.heap.size+1<=V.heap.size:=by rw[M];simp
 clear M;refine(uP V _ _ (hv.below B (Nat.le_refl _))).mono ?_;rintro e w2 ⟨n,o,i,z,L,a1,i2,a6,X,rfl,R,O,Q,S,hX,b2⟩;have D:=D.keep b2;have I:=B.after b2 B.size;have y2:=I.size;obtain⟨K,A⟩:∃K,K=w2.alloc (.cells #[.int .i64 n,.slice o i z] 32):=⟨_,rfl⟩;have Z:aB K w2.heap.size 32 #[.int .i64 n,.slice o i z]:=by rw[A];exact aB.new _ _ _
 have F:Below w2.heap.size w2 K:=by rw[A];exact aM _ _
 have D:=D.keep F;have O:=O.keep F;have S:=S.keep F;have U:=I.after F I.size;have z3:=F.size;clear F I;have G2:=D.cell;have F2:=D.frozen;have G3:=Z.cell;go_upto_region 2 with fail;rw[<-A];clear A;go_wp2;refine aI ?_;intro Wf N;have t:=eA (w:=w) (E:=32) (m:=n) (b:=.slice o i z) D O (Nat.le_refl _) (by omega) U N;have Y:=t.1.cell;exact bodyPost_ret (v:=.agg #[.int .i64 n,.slice o i z]) (by simp[results,Tryz.results37,go_sem,Y]) rfl (by first|exact⟨n,o,i,z,L,rfl,R,t.2.1,Q,t.2.2⟩|exact⟨n,o,i,z,rfl,R,L,t.2.1,Q,t.2.2⟩)
theorem EV(w:World)(v:Value)(l:List Nat)(U:fO w v l):
  Calls Tryz.prog 46 #[v] w fun e w'=>∃(n:Int) (z:Option Addr) (i A:Nat) (L:List Int),e=.returned (.agg #[.int .i64 n,.slice z i A])/\bA n/\aC 3 w.heap.size w' (.slice z i A) L/\L.length<=64/\Below w.heap.size w w':=by
 go_enter Tryz.func46,Tryz.ntmps46;go_wp2_with fail;refine aH ?_;intro V F;have B:Below w.heap.size w V:=by rw[F];exact aM _ _
 have o:aB V w.heap.size 32 #[.int .i64 0,.slice none 0 0]:=by rw[F];exact aB.new _ _ _
 have zV:w.heap.size+1<=V.heap.size:=by rw[F];simp
 clear F;refine(jL V _ _ (U.below B (Nat.le_refl _))).mono ?_;rintro e Z ⟨rfl,K,D⟩;have o:=o.keep D;have B:=B.after D B.size;have zb:=D.size;have yD:=K.lt;clear D;go_wp2_with fail;refine(yE Z V.heap.size K).mono ?_;rintro e w2 ⟨n,z,i,A,L,rfl,O,Y,N,D2,M⟩;have o:=o.grow M (fun e=>by have:=Option.some.inj e;omega);have Q:=B.grown M B.size (fun q S=>by have:=Option.some.inj S;omega);have G2:=o.cell;have F2:=o.frozen;go_wp2;refine aI ?_;intro Wf I;have t:=eA (w:=w) (E:=32) (m:=n) (b:=.slice z i A) o Y (Nat.le_refl _) (by omega) Q I;have R:=t.1.cell;exact bodyPost_ret (v:=.agg #[.int .i64 n,.slice z i A]) (by simp[results,Tryz.results46,go_sem,R]) rfl (by first|exact⟨n,z,i,A,L,rfl,O,t.2.1,N,t.2.2⟩|exact⟨n,z,i,A,rfl,O,L,t.2.1,N,t.2.2⟩)
theorem DA(w:World)(v:Value)(l:List Nat)(U:fO w v l):
  Calls Tryz.prog 52 #[v] w fun e w'=>∃(n:Int) (z:Option Addr) (i A:Nat) (L:List Int),e=.returned (.agg #[.int .i64 n,.slice z i A])/\bA n/\aC 3 w.heap.size w' (.slice z i A) L/\L.length<=8/\Below w.heap.size w w':=by
 go_enter Tryz.func52,Tryz.ntmps52;go_wp2_with fail;refine aH ?_;intro V F;have B:Below w.heap.size w V:=by rw[F];exact aM _ _
 have o:aB V w.heap.size 27 #[.int .i64 0,.slice none 0 0]:=by rw[F];exact aB.new _ _ _
 have zV:w.heap.size+1<=V.heap.size:=by rw[F];simp
 clear F;refine(jL V _ _ (U.below B (Nat.le_refl _))).mono ?_;rintro e Z ⟨rfl,K,D⟩;have o:=o.keep D;have B:=B.after D B.size;have zb:=D.size;have yD:=K.lt;clear D;go_wp2_with fail;refine(uF Z V.heap.size K).mono ?_;rintro e w2 ⟨n,z,i,A,L,rfl,O,Y,N,D2,M⟩;have o:=o.grow M (fun e=>by have:=Option.some.inj e;omega);have Q:=B.grown M B.size (fun q S=>by have:=Option.some.inj S;omega);have G2:=o.cell;have F2:=o.frozen;go_wp2;refine aI ?_;intro Wf I;have t:=eA (w:=w) (E:=27) (m:=n) (b:=.slice z i A) o Y (Nat.le_refl _) (by omega) Q I;have R:=t.1.cell;exact bodyPost_ret (v:=.agg #[.int .i64 n,.slice z i A]) (by simp[results,Tryz.results52,go_sem,R]) rfl (by first|exact⟨n,z,i,A,L,rfl,O,t.2.1,N,t.2.2⟩|exact⟨n,z,i,A,rfl,O,L,t.2.1,N,t.2.2⟩)
theorem E5(w:World)(v:Value)(l:List Nat)(hv:fO w v l):
  Calls Tryz.prog 49 #[v] w fun e w'=>∃(n:Int) (o:Option Addr) (i z:Nat) (x:Int) (L:List Int),e=.returned (.tuple #[.agg #[.int .i64 n,.slice o i z],.int .i64 x])/\bA n/\bA x/\aC 3 w.heap.size w' (.slice o i z) L/\L.length<=32/\Below w.heap.size w w':=by
 go_enter Tryz.func49,Tryz.ntmps49;go_wp2_with fail;refine aH ?_;intro V M;have B:Below w.heap.size w V:=by rw[M];exact aM _ _
 have D:aB V w.heap.size 27 #[.int .i64 0,.slice none 0 0]:=by rw[M];exact aB.new _ _ _
 have zV:w.heap.size+1<=V.heap.size:=by rw[M];simp
 clear M;refine(AN V _ _ (hv.below B (Nat.le_refl _))).mono ?_;rintro e w2 ⟨n,o,i,z,x,L,rfl,R,S,O,Q,b2⟩;have D:=D.keep b2;have I:=B.after b2 B.size;have y2:=I.size;obtain⟨K,A⟩:∃K,K=w2.alloc (.cells #[.int .i64 n,.slice o i z] 27):=⟨_,rfl⟩;have Z:aB K w2.heap.size 27 #[.int .i64 n,.slice o i z]:=by rw[A];exact aB.new _ _ _
 have F:Below w2.heap.size w2 K:=by rw[A];exact aM _ _
 have D:=D.keep F;have O:=O.keep F;have U:=I.after F I.size;have z3:=F.size;clear F I;have G2:=D.cell;have F2:=D.frozen;have G3:=Z.cell;go_upto_region 2 with fail;rw[<-A];clear A;go_wp2;refine aI ?_;intro Wf N;have t:=eA (w:=w) (E:=27) (m:=n) (b:=.slice o i z) D O (Nat.le_refl _) (by omega) U N;have Y:=t.1.cell;exact bodyPost_ret (v:=.tuple #[.agg #[.int .i64 n,.slice o i z],.int .i64 x]) (by simp[results,Tryz.results49,go_sem,Y]) rfl (by first|exact⟨n,o,i,z,x,L,rfl,R,S,t.2.1,Q,t.2.2⟩|exact⟨n,o,i,z,x,rfl,R,S,L,t.2.1,Q,t.2.2⟩)
theorem FJ(w:World)(v:Value)(l:List Nat)(hv:fO w v l):
  Calls Tryz.prog 43 #[v] w fun e w'=>∃(n:Int) (Z:Option Addr) (i1 c1:Nat) (l1:List Int) (m:Int) (a2:Option Addr) (i2 c2:Nat) (l2:List Int),e=.returned (.tuple #[.agg #[.int .i64 n,.slice Z i1 c1],.agg #[.int .i64 m,.slice a2 i2 c2]])/\bA n/\bA m/\aC 3 w.heap.size w' (.slice Z i1 c1) l1/\aC 3 w.heap.size w' (.slice a2 i2 c2) l2/\l1.length<=64/\l2.length<=64/\Below w.heap.size w w':=by
 go_enter Tryz.func43,Tryz.ntmps43;go_wp2_with fail;refine aH ?_;intro V I;have B:Below w.heap.size w V:=by rw[I];exact cD _ _ _
 have o:aB V w.heap.size 32 #[.int .i64 0,.slice none 0 0]:=by rw[I];exact(aB.new _ _ _).alloc _
 have z:aB V (w.heap.size+1) 32 #[.int .i64 0,.slice none 0 0]:=by rw[I];have:=aB.new (w.alloc (.cells #[.int .i64 0,.slice none 0 0] 32)) 32 #[.int .i64 0,.slice none 0 0];simpa using this
 have zV:w.heap.size+2<=V.heap.size:=by rw[I];simp
 clear I;refine(xE V _ _ (hv.below B (Nat.le_refl _))).mono ?_;rintro e w2 ⟨n,A,i,F,L,m,a2,i2,c2,L2,rfl,hn,hm,M,N,hL,Q,b2⟩;have o:=o.keep b2;have z:=z.keep b2;have O:=B.after b2 B.size;have y2:=b2.size;obtain⟨Y,K⟩:∃Y,Y=(w2.alloc (.cells #[.int .i64 n,.slice A i F] 32)).alloc (.cells #[.int .i64 m,.slice a2 i2 c2] 32):=⟨_,rfl⟩;have KF:aB Y w2.heap.size 32 #[.int .i64 n,.slice A i F]:=by rw[K];exact(aB.new _ _ _).alloc _
 have KG:aB Y (w2.heap.size+1) 32 #[.int .i64 m,.slice a2 i2 c2]:=by rw[K];have:=aB.new (w2.alloc (.cells #[.int .i64 n,.slice A i F] 32)) 32 #[.int .i64 m,.slice a2 i2 c2];simpa using this
 have D:Below w2.heap.size w2 Y:=by rw[K];exact cD _ _ _
 have o:=o.keep D;have z:=z.keep D;have M:=M.keep D;have N:=N.keep D;have S:=O.after D O.size;have U:=Lib.hid (And.intro M N);have HB:=Lib.hid S;have G0:=o.cell;have F0:=o.frozen;have G1:=z.cell;have F1:=z.frozen;have GF:=KF.cell;have GG:=KG.cell;have a9:∀j,Y.drew.cell? ⟨w2.heap.size,j,none⟩=#[Value.int .i64 n,.slice A i F][j]?:=GF;have b0:∀j,Y.drew.cell? ⟨w2.heap.size+1,j,none⟩=#[Value.int .i64 m,.slice a2 i2 c2][j]?:=GG;clear b2 D O M N S;go_upto_region 2 with fail;rw[<-K];clear K;go_region
 all_goals
  go_wp2;refine aI ?_;intro Wf R;have t:=yT (W:=Y) o z U.out.1 U.out.2 (by omega) (Nat.le_refl _) HB.out R;have H0:=t.1.cell;have H1:=t.2.1.cell;exact bodyPost_ret (v:=.tuple #[.agg #[.int .i64 n,.slice A i F],.agg #[.int .i64 m,.slice a2 i2 c2]]) (by simp[results,Tryz.results43,go_sem,H0,H1]) rfl ⟨n,A,i,F,L,m,a2,i2,c2,L2,rfl,hn,hm,t.2.2.1,t.2.2.2.1,hL,Q,t.2.2.2.2⟩
theorem BZ(w:World)(v:Value)(l:List Nat)(I:fO w v l):
  Calls Tryz.prog 65 #[v] w fun e w'=>∃x:Int,e=.returned (.int .i64 x)/\bA x/\Below w.heap.size w w':=by
 go_enter Tryz.func65,Tryz.ntmps65;go_wp2_with fail;refine(jL w _ _ I).mono ?_;rintro e K ⟨rfl,A,o⟩;go_wp2_with fail;refine(aU K w.heap.size A 10).mono ?_;rintro e w2 ⟨x,rfl,_,z,_,L,D⟩;have z:=z (by omega);go_wp2;go_ret;exact⟨x-1,rfl,⟨by omega,by omega⟩,o.grown D o.size (fun q F=>by have:=Option.some.inj F;omega)⟩
end
section
open Go.RowKit Go.G5
theorem SD(B:Nat)(v:Value)(l:List Int)(w:World)(h:aC 3 B w v l)(F:l.length<=1048576):
  Calls Tryz.prog 263 #[v] w fun e w'=>e=.returned (.tuple #[])/\aC 3 B w' v (l.mergeSort fun x y=>decide (x<=y))/\w.grownBy w' v.ownBlock:=by
 have hr:∀x∈(l.mergeSort fun x y=>decide (x<=y)),bA x:=fun x A=>h.2 x (List.mem_mergeSort.1 A)
 rcases h.cases with⟨rfl,rfl⟩|⟨g,cap,rfl,D,z⟩
 ·refine(rV none 0 w).mono ?_
  rintro e w' ⟨o,rfl⟩;exact⟨o,by simpa using h,World.grownBy.refl _ _⟩
 ·refine(vV g 0 cap l w (h.holds rfl) z (by omega)).mono ?_
  rintro e w' ⟨o,n,os,rfl⟩;have:=h.put (l.mergeSort fun x y=>decide (x<=y)) (List.length_mergeSort _) hr n os;exact⟨o,this.1,this.2⟩
theorem LP(B:Nat)(v:Value)(l:List Int)(w:World)(h:aC 3 B w v l)(R:l.length<=1048576):
  Calls Tryz.prog 265 #[v] w fun e w'=>∃K i c,e=.returned (.slice K i c)/\aC 3 B w' (.slice K i c) (Lib.compact l)/\w.grownBy w' v.ownBlock:=by
 rcases h.cases with⟨rfl,rfl⟩|⟨g,cap,rfl,O,Q⟩
 ·refine(pU none 0 w).mono ?_
  rintro e w' ⟨D,rfl⟩;exact⟨none,0,0,D,h,World.grownBy.refl _ _⟩
 ·have z:=h.ints.capLe
  have M:(Lib.compact l).length<=l.length:=xL l.toArray l.length;refine(tM g 0 cap l w (h.holds rfl) (by omega) z.2.1).mono ?_;rintro e w' ⟨D,q,rfl⟩;have A:∀x∈Lib.compact l++List.replicate (l.length-(Lib.compact l).length) 0,bA x:=by
   intro x o
   rcases List.mem_append.1 o with o|o
   ·unfold Lib.compact Lib.compactUpTo at o
    obtain⟨j,N,rfl⟩:=List.mem_map.1 o;have F:=List.mem_range.1 (List.mem_filter.1 N).1;rw[getElem!_pos l.toArray j (by simpa using F)];exact h.2 _ (by simp)
   ·have:=List.eq_of_mem_replicate o;subst this;exact⟨by omega,by omega⟩
  have I:=h.put (Lib.compact l++List.replicate (l.length-(Lib.compact l).length) 0) (by simp;omega) A q #[];rw[Go.Sort.grow_empty]at I;have L:=I.1;have hcut:=aC.cut (n:=l.length) L (Lib.compact l).length (by simp);rw[List.take_left]at hcut;exact⟨_,_,_,D,hcut,I.2⟩
theorem SG(B:Nat)(v:Value)(l:List Int)(w:World)(h:aC 3 B w v l)(U:l.length<=1048576):
  Calls Tryz.prog 264 #[v] w fun e w'=>∃K i c,e=.returned (.slice K i c)/\aL 3 B w' (.slice K i c) l/\w=w':=by
 have D:=h.toW
 rcases h.cases with⟨rfl,rfl⟩|⟨g,cap,rfl,R,S⟩
 ·go_enter Tryz.func264,Tryz.ntmps264
  go_wp2;go_ret;exact⟨none,0,0,rfl,D,rfl⟩
 ·have o:=h.ints.capLe
  have M:=o.2.1;have F:=o.2.2;unfold maxLen at F;clear o;go_enter Tryz.func264,Tryz.ntmps264;go_wp2;go_ret;refine⟨some ⟨g,0,none⟩,l.length,l.length,?_,?_,rfl⟩
  ·rfl
  ·refine⟨D.1,?_⟩
   rcases D.2 with⟨e,_⟩|⟨Q,L,z,e,A,I,O,N,Y,ht⟩
   ·simp at e
   ·simp only[Value.slice.injEq,Option.some.injEq,Addr.mk.injEq,and_true]at e
    obtain⟨rfl,_,rfl⟩:=e;exact .inr ⟨g,l.length,z,rfl,A,I,Nat.le_refl _,by omega,by omega,ht⟩
end
section
open Go.RowKit Go.G5
theorem AL(n:Int)(v:Value)(l:List Int)(w:World)(Z:aD w v l)(M:l.length<=1048576):
  Calls Tryz.prog 153 #[.int .i64 n,v] w fun e w'=>∃Y i c,e=.returned (.agg #[.int .i64 n,.slice Y i c])/\aL 3 w.heap.size w' (.slice Y i c) (jI l)/\Below w.heap.size w w':=by
 obtain⟨a,c,rfl⟩:=Z.shape;have N:(l.mergeSort fun x y=>decide (x<=y)).length<=1048576:=by rw[List.length_mergeSort];exact M
 have b4:=xC l;go_enter Tryz.func153,Tryz.ntmps153;go_wp2_with fail;refine(pY _ l _ (Z.alloc _) M).mono ?_;rintro e w1 ⟨p1,i1,q1,rfl,o1,z⟩;have R:=aB.new w 27 #[.int .i64 0,.slice none 0 0];have S:=R.keep z;have O:Below w.heap.size w w1:=(aM _ _).after z (by simp);have I:=o1.mono (B':=w.heap.size+1) (by simp);have r1:=I.lt;clear R o1 z;go_wp2_with fail;refine(SD _ _ l _ I M).mono ?_;rintro e w2 ⟨rfl,o2,A⟩;have U:=S.grow A (by intro F;have:=(r1 _ F).1;omega);have Q:=O.grown A O.size (fun k F=>by have:=(r1 k F).1;omega);clear A S I;go_wp2_with fail;refine(LP _ _ _ _ o2 N).mono ?_;rintro e w3 ⟨p3,i3,q3,rfl,o3,D⟩;have K:=U.grow D (by intro F;have:=(r1 _ F).1;omega);have B3:=Q.grown D Q.size (fun k F=>by have:=(r1 k F).1;omega);clear D U o2;go_wp2_with fail;refine(SG _ _ _ _ o3 (by have e:Lib.compact (l.mergeSort fun x y=>decide (x<=y))=jI l:=rfl;rw[e];omega)).mono ?_;rintro e w4 ⟨p4,i4,L,rfl,o4,rfl⟩;have G3:=K.cell;have F3:=K.frozen;have z3:=K.lt;go_wp2;refine aI ?_;intro Wf o;have Kf:aB Wf w.heap.size 27 #[.int .i64 n,.slice p4 i4 L]:=by
  rw[o];have:=(K.set 0 (.int .i64 n)).set 1 (.slice p4 i4 L);simpa using this
 have Bf:Below w.heap.size w Wf:=by rw[o];exact Below.setCell (Below.setCell B3 (by first|omega|(simp;done)|(simp;omega)) _) (by first|omega|(simp;done)|(simp;omega)) _
 have of:aL 3 w.heap.size Wf (.slice p4 i4 L) (jI l):=by rw[o];exact((o4.setBelow (by first|omega|(simp;done)|(simp;omega)) _).setBelow (by first|omega|(simp;done)|(simp;omega)) _).mono (by first|omega|(simp;done)|(simp;omega))
 have Gf:=Kf.cell;clear o G3 F3;exact bodyPost_ret (v:=.agg #[.int .i64 n,.slice p4 i4 L]) (by simp[results,Tryz.results153,go_sem,Gf]) rfl ⟨_,_,_,rfl,of,Bf⟩
end
section
open Go.RowKit Go.G5
def rH(g:Int)(l:List Int)(k:Int):Int:=if eS g l k then 6 else 0
def rP(g:Int)(l:List Int)(k:Int):Int:=if eS g l k then g else 0
def pP(g:Int)(l:List Int)(k:Int):List Int:=if eS g l k then l else []
def rJ(g:Int)(l:List Int)(k:Int):Int:=if eS g l k then k else 0
theorem BO(g:Int)(l:List Int)(k:Int)(h:l.length<=1048576):(pP g l k).length<=1048576:=by unfold pP;split<;>simp_all
theorem CW(g:Int)(l:List Int)(k:Int):(eP g l k).length<=1048576:=Nat.le_trans (SC g l k) (by omega)
theorem FS{g:Int}{l:List Int}{k:Int}(h:eS g l k=true):bW g l=true:=by
 unfold eS jF gM at h
 cases o:bW g l with
 |true=>rfl
 |false=>rw[o]at h;simp at h
theorem DY{g:Int}{l:List Int}{k:Int}(h:eS g l k=false):eP g l k=[]:=by
 unfold eS at h;unfold eP
 cases hr:jF g l k with
 |none=>rfl
 |some x=>rw[hr]at h;simp at h
theorem MB(w:World)(g:Int)(v:Value)(l:List Int)(hv:aD w v l)(hl:l.length<=1048576)(k:Int)(hk:bA k):
  Calls Tryz.prog 50 #[.agg #[.int .i64 g,v],.int .i64 k] w fun e w'=>∃p0 i0 q0 A z D p2 i2 q2 p3 i3 q3,e=.returned (.tuple #[.agg #[.int .i64 (rH g l k),.int .i64 0,.slice p0 i0 q0,.int .i64 0,.slice A z D,.int .i64 (rP g l k),.slice p2 i2 q2,.int .i64 (rJ g l k),.int .i64 0,.slice p3 i3 q3],.bool (eS g l k)])/\aL 3 w.heap.size w' (.slice p0 i0 q0) []/\aL 3 w.heap.size w' (.slice A z D) []/\aL 3 w.heap.size w' (.slice p2 i2 q2) (pP g l k)/\aL 3 w.heap.size w' (.slice p3 i3 q3) (eP g l k)/\(aF (.slice p0 i0 q0) (.slice A z D)/\aF (.slice p0 i0 q0) (.slice p2 i2 q2)/\aF (.slice p0 i0 q0) (.slice p3 i3 q3)/\aF (.slice A z D) (.slice p2 i2 q2)/\aF (.slice A z D) (.slice p3 i3 q3)/\aF (.slice p2 i2 q2) (.slice p3 i3 q3))/\Below w.heap.size w w':=by
 obtain⟨a,c,rfl⟩:=hv.shape;go_enter Tryz.func50,Tryz.ntmps50;go_wp2_with fail;refine aH ?_;intro V hV;have B:Below w.heap.size w V:=by rw[hV];exact cD _ _ _
 have K1:aB V w.heap.size 27 #[.int .i64 g,.slice a l.length c]:=by rw[hV];exact(aB.new _ _ _).alloc _
 have O:aB V (w.heap.size+1) 49 #[.int .i64 0,.int .i64 0,.slice none 0 0,.int .i64 0,.slice none 0 0,.int .i64 0,.slice none 0 0,.int .i64 0,.int .i64 0,.slice none 0 0]:=by rw[hV];have:=aB.new (w.alloc (.cells #[.int .i64 g,.slice a l.length c] 27)) 49 #[.int .i64 0,.int .i64 0,.slice none 0 0,.int .i64 0,.slice none 0 0,.int .i64 0,.slice none 0 0,.int .i64 0,.int .i64 0,.slice none 0 0];simpa using this
 clear hV;have e5:w.heap.size+2<=V.heap.size:=by have:=O.lt;omega
 refine(NZ _ g _ l (hv.below B (Nat.le_refl _)) hl k hk).mono ?_;rintro e w1 ⟨A,z,D,rfl,o1,M⟩;have K1:=K1.keep M;have O:=O.keep M;have z0:=B.size;have Y:=B.after M B.size;have e7:=hv.below Y (Nat.le_refl _);have z1:=K1.lt;have z2:=O.lt;have o1:=o1.mono (B':=w.heap.size+2) (by have:=e5;omega);clear M B
 cases hb:eS g l k with
 |false=>
  have K:rH g l k=0:=by unfold rH;rw[hb];rfl
  have I:rP g l k=0:=by unfold rP;rw[hb];rfl
  have F:pP g l k=[]:=by unfold pP;rw[hb];rfl
  have L:rJ g l k=0:=by unfold rJ;rw[hb];rfl
  have hL:=DY hb;have H:=Lib.hid (And.intro K (And.intro I (And.intro F (And.intro L hL))));have HB:=Lib.hid hb;clear K I F L hL hb;have G2:=O.cell;have F2:=O.frozen;go_wp2;refine aI ?_;intro Wf o;have R:aB Wf (w.heap.size+1) 49 #[.int .i64 0,.int .i64 0,.slice none 0 0,.int .i64 0,.slice none 0 0,.int .i64 0,.slice none 0 0,.int .i64 0,.int .i64 0,.slice none 0 0]:=by
   rw[o];have:=(((((((((O.set 0 (.int .i64 0)).set 1 (.int .i64 0)).set 2 (.slice none 0 0)).set 3 (.int .i64 0)).set 4 (.slice none 0 0)).set 5 (.int .i64 0)).set 6 (.slice none 0 0)).set 7 (.int .i64 0)).set 8 (.int .i64 0)).set 9 (.slice none 0 0);simpa using this
  have Z:w1.grownBy Wf (some (w.heap.size+1)):=by
   rw[o];exact(aA (aA (aA (aA (aA (aA (aA (aA (aA (aA (World.grownBy.refl _ _) 0 _) 1 _) 2 _) 3 _) 4 _) 5 _) 6 _) 7 _) 8 _) 9 _)
  have Bf:Below w.heap.size w Wf:=Y.grown Z Y.size (fun q S=>by have:=Option.some.inj S;omega);have Gf:=R.cell;clear o G2 F2;obtain⟨K,I,F,L,hL⟩:=H.out;exact bodyPost_ret (v:=.tuple #[.agg #[.int .i64 0,.int .i64 0,.slice none 0 0,.int .i64 0,.slice none 0 0,.int .i64 0,.slice none 0 0,.int .i64 0,.int .i64 0,.slice none 0 0],.bool false]) (by simp[results,Tryz.results50,go_sem,Gf]) rfl
   ⟨none,0,0,none,0,0,none,0,0,none,0,0,by rw[K,I,L,HB.out],aL.nil _ _ _,aL.nil _ _ _,by rw[F];exact aL.nil _ _ _,by rw[hL];exact aL.nil _ _ _,
    ⟨aF.nil _ _ _,aF.nil _ _ _,aF.nil _ _ _,aF.nil _ _ _,aF.nil _ _ _,aF.nil _ _ _⟩,Bf⟩
 |true=>
  have K:rH g l k=6:=by unfold rH;rw[hb];rfl
  have I:rP g l k=g:=by unfold rP;rw[hb];rfl
  have F:pP g l k=l:=by unfold pP;rw[hb];rfl
  have L:rJ g l k=k:=by unfold rJ;rw[hb];rfl
  have Q:=(jZ (FS hb)).2.2.2;have a1:=qE l Q;have H:=Lib.hid (And.intro K (And.intro I (And.intro F L)));have HB:=Lib.hid hb;have e0:=Lib.hid a1;clear K I F L Q a1 hb;have G1:=K1.cell;go_wp2_with fail;refine(AL g _ l _ e7 hl).mono ?_;rintro e w7 ⟨p7,i7,q7,rfl,o7,N⟩;rw[e0.out]at o7;have K7:=O.keep N;have B7:=Y.after N Y.size;have e4:aF (.slice p7 i7 q7) (.slice A z D):=(aF.of_lt o1 o7 (Nat.le_refl _)).symm;have a7:=o1.keep N;have a8:=o7.mono (B':=w.heap.size+2) (by omega);have G2:=K7.cell;have F2:=K7.frozen;have z7:=K7.lt;clear N G1 o7;go_wp2;refine aI ?_;intro Wf o;have R:aB Wf (w.heap.size+1) 49 #[.int .i64 6,.int .i64 0,.slice none 0 0,.int .i64 0,.slice none 0 0,.int .i64 g,.slice p7 i7 q7,.int .i64 k,.int .i64 0,.slice A z D]:=by
   rw[o];have:=(((((((((K7.set 0 (.int .i64 6)).set 1 (.int .i64 0)).set 2 (.slice none 0 0)).set 3 (.int .i64 0)).set 4 (.slice none 0 0)).set 5 (.int .i64 g)).set 6 (.slice p7 i7 q7)).set 7 (.int .i64 k)).set 8 (.int .i64 0)).set 9 (.slice A z D);simpa using this
  have Z:w7.grownBy Wf (some (w.heap.size+1)):=by
   rw[o];exact(aA (aA (aA (aA (aA (aA (aA (aA (aA (aA (World.grownBy.refl _ _) 0 _) 1 _) 2 _) 3 _) 4 _) 5 _) 6 _) 7 _) 8 _) 9 _)
  have y7:=B7.size;have Bf:Below w.heap.size w Wf:=B7.grown Z B7.size (fun q S=>by have:=Option.some.inj S;omega);have f1:=(a7.grow Z (fun q S U=>by have:=Option.some.inj S;have:=(a7.lt q U).1;omega)).mono (B':=w.heap.size) (by omega);have f7:=(a8.grow Z (fun q S U=>by have:=Option.some.inj S;have:=(a8.lt q U).1;omega)).mono (B':=w.heap.size) (by omega);have Gf:=R.cell;clear o;obtain⟨K,I,F,L⟩:=H.out;exact bodyPost_ret (v:=.tuple #[.agg #[.int .i64 6,.int .i64 0,.slice none 0 0,.int .i64 0,.slice none 0 0,.int .i64 g,.slice p7 i7 q7,.int .i64 k,.int .i64 0,.slice A z D],.bool true]) (by simp[results,Tryz.results50,go_sem,Gf]) rfl
   ⟨none,0,0,none,0,0,p7,i7,q7,A,z,D,by rw[K,I,L,HB.out],aL.nil _ _ _,aL.nil _ _ _,by rw[F];exact f7,f1,
    ⟨aF.nil _ _ _,aF.nil _ _ _,aF.nil _ _ _,aF.nil _ _ _,aF.nil _ _ _,e4⟩,Bf⟩
theorem xH(w:World)(g:Int)(v:Value)(l:List Int)(hv:aD w v l)(hl:l.length<=1048576)(k:Int)(hk:bA k):
  Calls Tryz.prog 51 #[.agg #[.int .i64 g,v],.int .i64 k] w fun e w'=>∃p0 i0 q0 A z D p2 i2 q2 p3 i3 q3,e=.returned (.tuple #[.agg #[.int .i64 (rH g l k),.int .i64 0,.slice p0 i0 q0,.int .i64 0,.slice A z D,.int .i64 (rP g l k),.slice p2 i2 q2,.int .i64 (rJ g l k),.int .i64 0,.slice p3 i3 q3],.bool (eS g l k)])/\aL 3 w.heap.size w' (.slice p0 i0 q0) []/\aL 3 w.heap.size w' (.slice A z D) []/\aL 3 w.heap.size w' (.slice p2 i2 q2) (pP g l k)/\aL 3 w.heap.size w' (.slice p3 i3 q3) (eP g l k)/\(aF (.slice p0 i0 q0) (.slice A z D)/\aF (.slice p0 i0 q0) (.slice p2 i2 q2)/\aF (.slice p0 i0 q0) (.slice p3 i3 q3)/\aF (.slice A z D) (.slice p2 i2 q2)/\aF (.slice A z D) (.slice p3 i3 q3)/\aF (.slice p2 i2 q2) (.slice p3 i3 q3))/\Below w.heap.size w w':=by
 obtain⟨a,c,rfl⟩:=hv.shape;go_enter Tryz.func51,Tryz.ntmps51;go_wp2_with fail;refine aH ?_;intro V hV;have B:Below w.heap.size w V:=by rw[hV];exact cD _ _ _
 have Z:aB V w.heap.size 27 #[.int .i64 g,.slice a l.length c]:=by rw[hV];exact(aB.new _ _ _).alloc _
 have N:aB V (w.heap.size+1) 49 #[.int .i64 0,.int .i64 0,.slice none 0 0,.int .i64 0,.slice none 0 0,.int .i64 0,.slice none 0 0,.int .i64 0,.int .i64 0,.slice none 0 0]:=by rw[hV];have:=aB.new (w.alloc (.cells #[.int .i64 g,.slice a l.length c] 27)) 49 #[.int .i64 0,.int .i64 0,.slice none 0 0,.int .i64 0,.slice none 0 0,.int .i64 0,.slice none 0 0,.int .i64 0,.int .i64 0,.slice none 0 0];simpa using this
 clear hV;have e7:w.heap.size+2<=V.heap.size:=by have:=N.lt;omega
 refine(OM _ g _ l (hv.below B (Nat.le_refl _)) hl k hk).mono ?_;rintro e Q ⟨A,z,D,rfl,o1,M⟩;have Z:=Z.keep M;have N:=N.keep M;have z0:=B.size;have Y:=B.after M B.size;have e9:=hv.below Y (Nat.le_refl _);have z1:=Z.lt;have z2:=N.lt;have o1:=o1.mono (B':=w.heap.size+2) (by have:=e7;omega);clear M B
 cases hb:eS g l k with
 |false=>
  have K:rH g l k=0:=by unfold rH;rw[hb];rfl
  have I:rP g l k=0:=by unfold rP;rw[hb];rfl
  have F:pP g l k=[]:=by unfold pP;rw[hb];rfl
  have L:rJ g l k=0:=by unfold rJ;rw[hb];rfl
  have hL:=DY hb;have H:=Lib.hid (And.intro K (And.intro I (And.intro F (And.intro L hL))));have HB:=Lib.hid hb;clear K I F L hL hb;have G2:=N.cell;have F2:=N.frozen;go_wp2;refine aI ?_;intro Wf o;have R:aB Wf (w.heap.size+1) 49 #[.int .i64 0,.int .i64 0,.slice none 0 0,.int .i64 0,.slice none 0 0,.int .i64 0,.slice none 0 0,.int .i64 0,.int .i64 0,.slice none 0 0]:=by
   rw[o];have:=(((((((((N.set 0 (.int .i64 0)).set 1 (.int .i64 0)).set 2 (.slice none 0 0)).set 3 (.int .i64 0)).set 4 (.slice none 0 0)).set 5 (.int .i64 0)).set 6 (.slice none 0 0)).set 7 (.int .i64 0)).set 8 (.int .i64 0)).set 9 (.slice none 0 0);simpa using this
  have hg:Q.grownBy Wf (some (w.heap.size+1)):=by
   rw[o];exact(aA (aA (aA (aA (aA (aA (aA (aA (aA (aA (World.grownBy.refl _ _) 0 _) 1 _) 2 _) 3 _) 4 _) 5 _) 6 _) 7 _) 8 _) 9 _)
  have Bf:Below w.heap.size w Wf:=Y.grown hg Y.size (fun q S=>by have:=Option.some.inj S;omega);have Gf:=R.cell;clear o G2 F2;obtain⟨K,I,F,L,hL⟩:=H.out;exact bodyPost_ret (v:=.tuple #[.agg #[.int .i64 0,.int .i64 0,.slice none 0 0,.int .i64 0,.slice none 0 0,.int .i64 0,.slice none 0 0,.int .i64 0,.int .i64 0,.slice none 0 0],.bool false]) (by simp[results,Tryz.results51,go_sem,Gf]) rfl
   ⟨none,0,0,none,0,0,none,0,0,none,0,0,by rw[K,I,L,HB.out],aL.nil _ _ _,aL.nil _ _ _,by rw[F];exact aL.nil _ _ _,by rw[hL];exact aL.nil _ _ _,
    ⟨aF.nil _ _ _,aF.nil _ _ _,aF.nil _ _ _,aF.nil _ _ _,aF.nil _ _ _,aF.nil _ _ _⟩,Bf⟩
 |true=>
  have K:rH g l k=6:=by unfold rH;rw[hb];rfl
  have I:rP g l k=g:=by unfold rP;rw[hb];rfl
  have F:pP g l k=l:=by unfold pP;rw[hb];rfl
  have L:rJ g l k=k:=by unfold rJ;rw[hb];rfl
  have O:=(jZ (FS hb)).2.2.2;have a6:=qE l O;have H:=Lib.hid (And.intro K (And.intro I (And.intro F L)));have HB:=Lib.hid hb;have f4:=Lib.hid a6;clear K I F L O a6 hb;have a7:([]:List Int).length+l.length<=17592186044416:=by simp;omega
  have e5:=Lib.hid a7;clear a7;go_wp2_with fail;have e1:Q.cell? ⟨w.heap.size,0,none⟩=some (.int .i64 g):=Z.cell 0;have e2:Q.cell? ⟨w.heap.size,1,none⟩=some (.slice a l.length c):=Z.cell 1;go_region_held3 (fun w'=>w'.cell? ⟨w.heap.size,0,none⟩=some (.int .i64 g)/\w'.cell? ⟨w.heap.size,1,none⟩=some (.slice a l.length c)) (go_keep)
   (first
    |(refine cV rfl _ _ _ rfl 3 Tryz.underlying22 aG Q.heap.size (.slice (some ⟨_,0,none⟩) 0 0) [] rfl (.slice a l.length c) l rfl ?_ ?_ e5.out Q ?_ (Nat.le_refl _) ?_;(with_reducible exact(aC.lit0 Q (Nat.le_refl _)).drew');(with_reducible exact(e9.alloc _).drew');(with_reducible exact(aM Q _).drew);(intro v7 w7 o7 b7 _;obtain⟨p7,i7,q7,rfl⟩:=o7.shape3;have K7:=N.keep b7;have G2:=K7.cell;have F2:=K7.frozen;have z7:=K7.lt;obtain⟨f6,f8⟩:=pX b7 Q.heap.size (Nat.le_refl _))))
  have B7:=Y.after b7 Y.size;have e6:aF (.slice p7 i7 q7) (.slice A z D):=(aF.of_lt o1 o7.toW (Nat.le_refl _)).symm;have a9:=o1.keep b7;have b0:=o7.toW.mono (B':=w.heap.size+2) (by omega);clear e1 e2;go_wp2;refine aI ?_;intro Wf o;have R:aB Wf (w.heap.size+1) 49 #[.int .i64 6,.int .i64 0,.slice none 0 0,.int .i64 0,.slice none 0 0,.int .i64 g,.slice p7 i7 q7,.int .i64 k,.int .i64 0,.slice A z D]:=by
   rw[o];have:=(((((((((K7.set 0 (.int .i64 6)).set 1 (.int .i64 0)).set 2 (.slice none 0 0)).set 3 (.int .i64 0)).set 4 (.slice none 0 0)).set 5 (.int .i64 g)).set 6 (.slice p7 i7 q7)).set 7 (.int .i64 k)).set 8 (.int .i64 0)).set 9 (.slice A z D);simpa using this
  have hg:w7.grownBy Wf (some (w.heap.size+1)):=by
   rw[o];exact(aA (aA (aA (aA (aA (aA (aA (aA (aA (aA (World.grownBy.refl _ _) 0 _) 1 _) 2 _) 3 _) 4 _) 5 _) 6 _) 7 _) 8 _) 9 _)
  have y7:=B7.size;have Bf:Below w.heap.size w Wf:=B7.grown hg B7.size (fun q S=>by have:=Option.some.inj S;omega);have f1:=(a9.grow hg (fun q S U=>by have:=Option.some.inj S;have:=(a9.lt q U).1;omega)).mono (B':=w.heap.size) (by omega);have f7:=(b0.grow hg (fun q S U=>by have:=Option.some.inj S;have:=(b0.lt q U).1;omega)).mono (B':=w.heap.size) (by omega);have Gf:=R.cell;clear o;obtain⟨K,I,F,L⟩:=H.out;exact bodyPost_ret (v:=.tuple #[.agg #[.int .i64 6,.int .i64 0,.slice none 0 0,.int .i64 0,.slice none 0 0,.int .i64 g,.slice p7 i7 q7,.int .i64 k,.int .i64 0,.slice A z D],.bool true]) (by simp[results,Tryz.results51,go_sem,Gf]) rfl
   ⟨none,0,0,none,0,0,p7,i7,q7,A,z,D,by rw[K,I,L,HB.out],aL.nil _ _ _,aL.nil _ _ _,by rw[F];exact f7,f1,
    ⟨aF.nil _ _ _,aF.nil _ _ _,aF.nil _ _ _,aF.nil _ _ _,aF.nil _ _ _,e6⟩,Bf⟩
end
end Go.Proofs.YtipejodijbjpcaaGreatDoor
