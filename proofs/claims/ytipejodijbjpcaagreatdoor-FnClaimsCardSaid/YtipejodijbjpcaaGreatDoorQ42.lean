/- Lemmas for CardClaims, part 42 of 52. No condition. -/
import Derived.Test.YtipejodijbjpcaaGreatDoorQ02
import Derived.Test.YtipejodijbjpcaaGreatDoorQ03
import Derived.Test.YtipejodijbjpcaaGreatDoorQ05
import Derived.Test.YtipejodijbjpcaaGreatDoorQ15
import Derived.Test.YtipejodijbjpcaaGreatDoorQ17
import Derived.Test.YtipejodijbjpcaaGreatDoorQ41
import Derived.Lib.MinMax
import Derived.Deep.DeepCutAuto
set_option maxRecDepth 100000
set_option maxHeartbeats 64000000
namespace Go.Proofs.YtipejodijbjpcaaGreatDoor
section
open Go.RowKit Go.G5
theorem OX(w:World)(n:Int)(v:Value)(l:List Int)(hv:aD w v l):
  Calls Tryz.prog 325 #[.agg #[.int .i64 n,v]] w fun e w'=>∃(M:Option Addr) (i O:Nat) (q:Int) (L:List Int) (b:Bool),e=.returned (.tuple #[.agg #[.int .i64 q,.slice M i O],.bool b])/\bA q/\aC 3 w.heap.size w' (.slice M i O) L/\L.length<=64/\Below w.heap.size w w':=by
 have a6:=hv;obtain⟨a,bb,a8,c,rfl,i6,c5,hc,hb⟩:=hv.view Tryz.prog 22 3 Tryz.underlying22 aG;obtain⟨V,hV⟩:∃V,V=((w.alloc (.cells #[.int .i64 n,.slice a l.length c] 32)).alloc (.cells #[.int .i64 0,.slice none 0 0] 32)).alloc (.cells #[] 3):=⟨_,rfl⟩;have BV:Below w.heap.size w V:=by rw[hV];exact(cD _ _ _).alloc (by simp) _
 have K:aB V w.heap.size 32 #[.int .i64 n,.slice a l.length c]:=by rw[hV];exact((aB.new _ _ _).alloc _).alloc _
 have A:aB V (w.heap.size+1) 32 #[.int .i64 0,.slice none 0 0]:=by rw[hV];have:=(aB.new (w.alloc (.cells #[.int .i64 n,.slice a l.length c] 32)) 32 #[.int .i64 0,.slice none 0 0]).alloc (.cells #[] 3);simpa using this
 have oV:aC 3 (w.heap.size+2) V (.slice (some ⟨w.heap.size+2,0,none⟩) 0 0) []:=by
  rw[hV];have:=aC.lit0 (E:=3) (B:=w.heap.size+2) ((w.alloc (.cells #[.int .i64 n,.slice a l.length c] 32)).alloc (.cells #[.int .i64 0,.slice none 0 0] 32)) (by simp);simpa using this
 have I:=cI n l _ V (a6.below BV (Nat.le_refl _));have Z:aN n l=true->∃N:Nat,n=N/\N<=5/\l.length=2^N/\l.length<=32/\∀k,(hk:k<l.length)->-1000<=l[k]/\l[k]<=1000:=fun h=>bN h;obtain⟨ft,b8⟩:∃f,aN n l=f:=⟨_,rfl⟩;rw[b8]at I Z;have HF:=Lib.hid I;have HT:=Lib.hid Z;have HC:=Lib.hid (And.intro hc hb);have HI:=Lib.hid c5;have HV:=Lib.hid a6;have g0:=Lib.hid oV;clear I Z b8 hc hb c5 a6 oV;have G1:=K.cell;go_enter Tryz.func325,Tryz.ntmps325;go_wp2_with fail;refine aH ?_;intro V' b7;obtain rfl:V'=V:=by rw[b7,hV]
 clear hV b7 G1;refine HF.out.mono ?_;rintro e w1 ⟨rfl,b1⟩;have K:=K.keep b1;have A:=A.keep b1;have B1:=BV.after b1 BV.size;have o1:=g0.out.keep b1;have z3:=A.lt;have zo:=(o1.lt (w.heap.size+2) rfl).2
 cases ft with
 |false=>
  have G:=A.cell;have F:=A.frozen;go_wp2;refine aI ?_;intro Wf Y;have t:=eA (w:=w) (E:=32) (m:=0) (b:=.slice none 0 0) A (aC.nil 3 (w1.heap.size) w1) (by omega) A.lt B1 Y;have GF:=t.1.cell;exact bodyPost_ret (v:=.tuple #[.agg #[.int .i64 0,.slice none 0 0],.bool false]) (by simp[results,Tryz.results325,go_sem,GF]) rfl ⟨none,0,0,0,[],false,rfl,⟨by omega,by omega⟩,t.2.1,by simp,t.2.2⟩
 |true=>
  obtain⟨N,rfl,k3,hl,i1,c8⟩:=HT.out rfl;have g5:=Nat.two_pow_pos N;have c6:0<l.length:=by omega
  have j5:=Lib.hid c8;have HK:=Lib.hid (And.intro K A);have f9:=Lib.hid o1;clear c8 hl K A o1 g5;go_wp2_with fail;go_loopw [4,5] (fun v i wr=>∃(s:Nat) (M:Option Addr) (nn O:Nat) (L:List Int),s<=l.length/\v=.slice M nn O/\i=.int .i64 (s:Int)/\L.length=s/\aC 3 (w.heap.size+2) wr (.slice M nn O) L/\Below (w.heap.size+2) w1 wr) (fun _ i _=>l.length-(intOf i).toNat)
  case atStart=>exact⟨0,_,_,_,[],Nat.zero_le _,rfl,rfl,rfl,f9.out,Below.refl _ _⟩
  case round=>
   obtain⟨s,M,nn,O,L,hs,rfl,rfl,b6,ho,Bw⟩:=hrel;have HO:=Lib.hid ho;have f8:=Lib.hid b6;have h7:L.length<=32:=by omega
   have zB:=Bw.size;have K:aB wr w.heap.size 32 #[.int .i64 (N:Int),.slice a l.length c]:=(Bw.block _ (by omega)).trans HK.out.1;have A:aB wr (w.heap.size+1) 32 #[.int .i64 0,.slice none 0 0]:=(Bw.block _ (by omega)).trans HK.out.2;have Bx:Below w.heap.size w wr:=B1.after Bw (by omega);clear ho b6;have G1:=K.cell
   by_cases hlt:s<l.length
   ·have c9:(s:Int)<(l.length:Int):=by omega
    have R:=aK HC.out.1 HC.out.2 Bx (Nat.le_refl _) s hlt;have S:=aK HC.out.1 HC.out.2 Bx (Nat.le_refl _) 0 c6;have k6:=fun W=>HI.out W s hlt;have e5:=fun W=>HI.out W 0 c6;obtain⟨x,hx⟩:∃x,x=l[s]:=⟨_,rfl⟩;obtain⟨y,hy⟩:∃y,y=l[0]:=⟨_,rfl⟩;rw[<-hx]at R;rw[<-hy]at S;clear hx hy;have d1:wr.drew.cell? ⟨bb,a8+s,none⟩=some (.int .i64 x):=R;have d2:wr.drew.cell? ⟨bb,a8,none⟩=some (.int .i64 y):=by simpa using S
    have e5:∀W,(Instr.indexAt 22 (.slice a l.length c) (.int .i64 0)).run Tryz.prog W=.ok (.pointer (some ⟨bb,a8,none⟩)) W:=fun W=>by simpa using e5 W
    have b4:aB wr.drew w.heap.size 32 #[.int .i64 (N:Int),.slice a l.length c]:=K;have j3:=b4.cell;have hZ:bA (IntKind.i64.wrap (x-y)):=by rw[IntKind.wrap_i64];exact⟨by omega,by omega⟩
    have HZ:=Lib.hid hZ;clear hZ R S K b4;go_wp2;go_region_law
     (refine lM rfl _ _ _ rfl 3 Tryz.underlying22 aG (w.heap.size+2) (.slice M nn O) L (IntKind.i64.wrap (x-y)) wr.heap.size rfl rfl (aT wr #[.int .i64 (IntKind.i64.wrap (x-y))] 3 0 _ rfl) ((HO.out.alloc (.cells #[.int .i64 (IntKind.i64.wrap (x-y))] 3)).keep (Below.refl _ _).drew) HZ.out (by omega) (by simp;omega) ?_;intro v' w6 Q g4;obtain⟨av,nv,cv,rfl⟩:=Q.shape3)
    all_goals
     have B6:Below (w.heap.size+2) w1 w6:=(Bw.alloc (by omega) (.cells #[.int .i64 (IntKind.i64.wrap (x-y))] 3)).drew.grown g4 (by simp;omega) (fun q hq=>(HO.out.lt q hq).1);go_wp2;go_roundw
     case rel=>exact⟨s+1,av,nv,cv,L++[IntKind.i64.wrap (x-y)],by omega,rfl,by go_num,by simp;exact f8.out,Q,B6⟩
     case measure=>simp[intOf];omega
   ·have c9:¬(s:Int)<(l.length:Int):=by omega
    obtain⟨D,b9⟩:∃b,aN (N:Int) L=b:=⟨_,rfl⟩;have e0:=fun W hv=>nR W (N:Int) M nn O L hv D b9;clear b9;go_wp2_with fail;refine(e0 wr HO.out.ints).mono ?_;rintro e w5 ⟨o,i',z,rfl,e4,b5⟩;have B6:=Bx.after b5 Bx.size;have K5:=A.keep b5;have o6:aC 3 (w.heap.size+2) w5 (.slice o i' z) (if D then L else []):=by
     rw[e4]
     cases D
     ·exact aC.nil _ _ _
     ·exact HO.out.keep b5
    have a1:bA (if D then (N:Int) else 0):=by cases D<;>exact⟨by simp;try omega,by simp;try omega⟩
    have c7:(if D then L else []).length<=64:=by cases D<;>simp;omega
    obtain⟨m6,d0⟩:∃m,m=(if D then (N:Int) else 0):=⟨_,rfl⟩;rw[<-d0]at a1 ⊢;have H6:=Lib.hid (And.intro a1 c7);clear e4 d0 e0 a1 c7;obtain⟨U,hU⟩:∃U,U=w5.alloc (.cells #[.int .i64 m6,.slice o i' z] 32):=⟨_,rfl⟩;have KU:aB U (w.heap.size+1) 32 #[.int .i64 0,.slice none 0 0]:=by rw[hU];exact K5.alloc _
    have oU:aC 3 (w.heap.size+2) U (.slice o i' z) (if D then L else []):=by rw[hU];exact o6.alloc _
    have BU:Below w.heap.size w U:=by rw[hU];exact B6.alloc B6.size _
    have KN:aB U w5.heap.size 32 #[.int .i64 m6,.slice o i' z]:=by rw[hU];exact aB.new _ _ _
    have G3:=KU.cell;have F3:=KU.frozen;have G4:=KN.cell;clear G1 K A K5;go_upto_region 9 with fail;rw[<-hU];clear hU;go_wp2;refine aI ?_;intro Wf Y;have t:=eA (w:=w) (E:=32) (m:=m6) (b:=.slice o i' z) KU oU (by omega) (by omega) BU Y;have GF:=t.1.cell;exact bodyPost_ret (v:=.tuple #[.agg #[.int .i64 m6,.slice o i' z],.bool D]) (by simp[results,Tryz.results325,go_sem,GF]) rfl ⟨o,i',z,m6,_,D,rfl,H6.out.1,t.2.1,H6.out.2,t.2.2⟩
end
section
open Go.RowKit Go.G5
theorem QU(n:Int):∃N:Nat,N<=5/\max 0 (min 5 n)=(N:Int):=⟨(max 0 (min 5 n)).toNat,by omega,by omega⟩
theorem sD{w z Wf:World}{g B:Nat}{n:Int}{A D:Option Addr}{i F i2 I:Nat}{l X:List Int}(C:Cur w z g)(K:aB z w.heap.size 32 #[.int .i64 0,.slice none 0 0])(o:aC 3 B z (.slice A i F) l)(x:aC 3 B z (.slice D i2 I) X)(O:w.heap.size<B)
  (L:Wf=(z.setCell ⟨w.heap.size,0,none⟩ (.int .i64 n)).setCell ⟨w.heap.size,1,none⟩ (.slice A i F)):aB Wf w.heap.size 32 #[.int .i64 n,.slice A i F]/\Cur w Wf g/\aC 3 w.heap.size Wf (.slice A i F) l/\aC 3 w.heap.size Wf (.slice D i2 I) X:=by
 have M:z.grownBy Wf (some w.heap.size):=by rw[L];exact aA (aA (World.grownBy.refl _ _) 0 _) 1 _
 refine⟨?_,C.row M (fun b e=>by have:=Option.some.inj e;omega),(o.grow M (fun q N e=>by have:=Option.some.inj N;have:=(o.lt _ e).1;omega)).mono (by omega),(x.grow M (fun q N e=>by have:=Option.some.inj N;have:=(x.lt _ e).1;omega)).mono (by omega)⟩;rw[L];have:=(K.set 0 (.int .i64 n)).set 1 (.slice A i F);simpa using this
theorem AX(w:World)(g:Nat)(D:Dr w g):
  Calls Tryz.prog 269 #[.pointer (some ⟨g,0,none⟩)] w fun e w'=>∃(n:Int) (A:Option Addr) (i F:Nat) (L:List Int) (I:Option Addr) (i2 M:Nat) (X:List Int),e=.returned (.tuple #[.agg #[.int .i64 n,.slice A i F],.slice I i2 M])/\bA n/\aC 3 w.heap.size w' (.slice A i F) L/\L.length<=64/\aC 3 w.heap.size w' (.slice I i2 M) X/\X.length<=5/\Dr w' g/\w.grownBy w' (some g):=by
 go_enter Tryz.func269,Tryz.ntmps269;go_wp2_with fail;refine aH ?_;intro V hV;have K:aB V w.heap.size 32 #[.int .i64 0,.slice none 0 0]:=by rw[hV];exact aB.new _ _ _
 have C:Cur w V g:=by rw[hV];exact(Cur.start D).alloc _
 clear hV;refine(vN V g C.D).mono ?_;rintro e w1 ⟨n,A,i,F,l,rfl,Z,o,hl,D1,g1⟩;have u5:=K.lt;have K:=K.cur0 C.zg g1;have C:=C.next D1 g1;have z1:=g1.size;have zK:=K.lt;have o:=o.mono (show w.heap.size+1<=V.heap.size by omega);clear D1 g1;obtain⟨V1,U⟩:∃V1,V1=w1.alloc (.cells #[.int .i64 n,.slice A i F] 32):=⟨_,rfl⟩;have R:aB V1 w1.heap.size 32 #[.int .i64 n,.slice A i F]:=by rw[U];exact aB.new _ _ _
 have K:=by have:=K.alloc (.cells #[.int .i64 n,.slice A i F] 32);rw[<-U]at this;exact this
 have C:=by have:=C.alloc (.cells #[.int .i64 n,.slice A i F] 32);rw[<-U]at this;exact this
 have o:=by have:=o.alloc (.cells #[.int .i64 n,.slice A i F] 32);rw[<-U]at this;exact this
 have G:=R.cell;go_wp2_with fail;refine aH ?_;intro c9 b3;obtain rfl:c9=V1:=by rw[b3,U]
 clear U b3 G;refine(OX c9 n _ l o.ints).mono ?_;rintro e w2 ⟨I,i2,M,m,l2,b,rfl,hm,o2,h6,b2⟩;have zF:=R.lt;have K:=K.keep b2;have R:=R.keep b2;have C:=C.keep b2;have o:=o.keep b2;have m4:=o2.lt;have o2:=o2.mono (show w.heap.size+1<=c9.heap.size by omega);have u8:=b2.size;have ro:=o.lt;clear b2;obtain⟨V2,Q⟩:∃V2,V2=w2.alloc (.cells #[.int .i64 m,.slice I i2 M] 32):=⟨_,rfl⟩;have KG:aB V2 w2.heap.size 32 #[.int .i64 m,.slice I i2 M]:=by rw[Q];exact aB.new _ _ _
 have K:=by have:=K.alloc (.cells #[.int .i64 m,.slice I i2 M] 32);rw[<-Q]at this;exact this
 have R:=by have:=R.alloc (.cells #[.int .i64 m,.slice I i2 M] 32);rw[<-Q]at this;exact this
 have C:=by have:=C.alloc (.cells #[.int .i64 m,.slice I i2 M] 32);rw[<-Q]at this;exact this
 have o:=by have:=o.alloc (.cells #[.int .i64 m,.slice I i2 M] 32);rw[<-Q]at this;exact this
 have o2:=by have:=o2.alloc (.cells #[.int .i64 m,.slice I i2 M] 32);rw[<-Q]at this;exact this
 have G2:=KG.cell;have GF:=R.cell;have FF:=R.frozen;go_upto_if 16 with fail;rw[<-Q];clear Q;go_cut [6] (fun _ wx=>∃(n:Int) (A:Option Addr) (i F:Nat) (L:List Int),bA n/\aC 3 (w.heap.size+1) wx (.slice A i F) L/\L.length<=64/\aB wx w1.heap.size 32 #[.int .i64 n,.slice A i F]/\aB wx w.heap.size 32 #[.int .i64 0,.slice none 0 0]/\Cur w wx g)
 case first=>
  cases b with
  |true=>
   go_wp2;go_meet;have gf:V2.grownBy ((V2.setCell ⟨w1.heap.size,0,none⟩ (.int .i64 m)).setCell ⟨w1.heap.size,1,none⟩ (.slice I i2 M)) (some w1.heap.size):=aA (aA (World.grownBy.refl _ _) 0 _) 1 _;refine⟨m,I,i2,M,l2,hm,o2.grow gf (fun q hq e=>by have:=Option.some.inj hq;have:=(m4 _ e).1;omega),h6,?_,K.grow gf (fun e=>by have:=Option.some.inj e;omega),C.row gf (fun b e=>by have:=Option.some.inj e;omega)⟩;have:=(R.set 0 (.int .i64 m)).set 1 (.slice I i2 M);simpa using this
  |false=>
   go_wp2;go_meet;exact⟨n,A,i,F,l,Z,o,by omega,R,K,C⟩
 case rest=>
  clear G2 GF FF KG o2 hm h6 R K C o Z hl;obtain⟨n,A,i,F,L,Z,o,hl,R,K,C⟩:=hcut;obtain⟨N,g6,hN⟩:=QU n;have ro:=o.lt;have u7:=R.lt;have zK:=K.lt;have e8:=C.zg;have i1:=LZ wc.drew g (C.D.keep (Below.refl _ _).drew) N g6;have f9:=Lib.hid i1;have h5:=fun(W:World) (u:Value) (O:List Int) (h1:aD W (.slice A i F) L) (h2:aD W u O)=>FB W n _ u L O h1 h2;have f8:=Lib.hid h5;have c8:aB wc.drew w1.heap.size 32 #[.int .i64 n,.slice A i F]:=R;have k6:=c8.cell;have GF:=R.cell;have od:aC 3 (w.heap.size+1) wc.drew (.slice A i F) L:=o.keep (Below.refl _ _).drew;have Kd:aB wc.drew w.heap.size 32 #[.int .i64 0,.slice none 0 0]:=K;have Cd:Cur w wc.drew g:=C.keep (Below.refl _ _).drew;have yd:wc.drew.heap.size=wc.heap.size:=rfl;clear i1 h5;go_wp2_with fail;go_region_law
   (first
    |(go_simp;go_at_call 327;refine f9.out.mono ?_;rintro e w5 ⟨p5,i5,q5,O,rfl,o5,hO,s5,D5,g5⟩;have c6:=c8.grow g5 (fun e=>by have:=Option.some.inj e;omega);have k4:=c6.cell;have e5:=od.cur0 (by have:=Cd.zg;omega) g5)
    |(go_simp;go_at_call 326;refine(f8.out _ _ O e5.ints o5.ints).mono ?_;rintro e w6 ⟨bb,p6,i6,q6,X,rfl,o6,hX,b6⟩))
  all_goals
   have c7:=c6.keep b6;have e6:=e5.keep b6;have K6:=(Kd.cur0 Cd.zg g5).keep b6;have C6:=(Cd.next D5 g5).keep b6;have y5:=g5.size;have o6:=o6.mono (show wc.heap.size<=w5.heap.size by omega);have u6:=K6.lt;clear b6 g5 D5 c6 k4 GF k6 c8 e5 o5;have l6:i6=X.length:=o6.ints.capLe.1;subst l6;have G2:=K6.cell;have F2:=K6.frozen;have k5:=c7.cell
   cases bb with
   |true=>
    clear f9 f8 hN
    by_cases h0:0<X.length
    ·have g4:(0:Int)<(X.length:Int):=by omega
     go_wp2_with fail;refine(iH w6 g C6.D 2).mono ?_;rintro e w7 ⟨b2,rfl,D7,Y⟩;have o7:=o6.cur0 (by omega) Y;have a7:=e6.cur0 (by omega) Y;have K7:=K6.cur0 e8 Y;have a6:=c7.cur0 (by omega) Y;have C7:=C6.next D7 Y;have y7:=Y.size;clear Y D7 G2 F2 k5
     cases b2 with
     |false=>
      have k2:=K7.cell;have k0:=K7.frozen;have q9:=a6.cell;go_wp2;refine aI ?_;intro Wf S;have t:=sD C7 K7 a7 (o7.mono (by omega)) (by omega) S;have GT:=t.1.cell;exact bodyPost_ret (v:=.tuple #[.agg #[.int .i64 n,.slice A i F],.slice p6 X.length q6]) (by simp[results,Tryz.results269,go_sem,GT]) rfl (by first|exact⟨n,A,i,F,L,p6,X.length,q6,X,rfl,Z,t.2.2.1,hl,t.2.2.2,hX,t.2.1.D,t.2.1.gr⟩|exact⟨n,A,i,F,L,p6,X.length,q6,rfl,Z,t.2.2.1,hl,X,t.2.2.2,hX,t.2.1.D,t.2.1.gr⟩)
     |true=>
      have h8:∀(W:World),aC 3 W.heap.size (W.alloc (.cells #[.int .i64 0,.int .i64 1,.int .i64 (-1),.int .i64 (-3),.int .i64 5001,.int .i64 (-9223372036854775808)] 3)) (.slice (some ⟨W.heap.size,0,none⟩) 6 6) [0,1,-1,-3,5001,-9223372036854775808]:=fun W=>⟨World.ownsRow_lit W #[.int .i64 0,.int .i64 1,.int .i64 (-1),.int .i64 (-3),.int .i64 5001,.int .i64 (-9223372036854775808)] 6 (Nat.le_refl _) (by decide) rfl,by simp[bA]⟩;have b4:∀z∈[(0:Int),1,-1,-3,5001,-9223372036854775808],bA z:=by simp[bA]
      have HM:=Lib.hid b4;obtain⟨vb,l8⟩:∃vb,p6=some ⟨vb,0,none⟩:=by
       rcases o7.cases with⟨_,h⟩|⟨b,_,h,_⟩
       ·rw[h]at h0;simp at h0
       ·injection h with h1 _ _
        exact⟨b,h1⟩
      subst l8;clear b4;go_wp2_with fail;refine(aU w7 g C7.D X.length).mono ?_;rintro e w8 ⟨x,rfl,_,hx,_,D8,g8⟩;obtain⟨t5,t6⟩:=hx g4;obtain⟨k,rfl⟩:∃k:Nat,x=(k:Int):=⟨x.toNat,by omega⟩;have hk:k<X.length:=by omega
      have o8:=(o7.cur0 (by omega) g8).alloc (.cells #[.int .i64 0,.int .i64 1,.int .i64 (-1),.int .i64 (-3),.int .i64 5001,.int .i64 (-9223372036854775808)] 3);have m0:=(a7.cur0 (by omega) g8).alloc (.cells #[.int .i64 0,.int .i64 1,.int .i64 (-1),.int .i64 (-3),.int .i64 5001,.int .i64 (-9223372036854775808)] 3);have K8:=(K7.cur0 e8 g8).alloc (.cells #[.int .i64 0,.int .i64 1,.int .i64 (-1),.int .i64 (-3),.int .i64 5001,.int .i64 (-9223372036854775808)] 3);have k8:=(a6.cur0 (by omega) g8).alloc (.cells #[.int .i64 0,.int .i64 1,.int .i64 (-1),.int .i64 (-3),.int .i64 5001,.int .i64 (-9223372036854775808)] 3);have C8:=(C7.next D8 g8).alloc (.cells #[.int .i64 0,.int .i64 1,.int .i64 (-1),.int .i64 (-3),.int .i64 5001,.int .i64 (-9223372036854775808)] 3);have y8:=g8.size;clear g8 D8;go_wp2_with fail;refine(fM _ g C8.D w8.heap.size (by omega) _ _ (h8 w8) (by decide)).mono ?_;rintro e w9 ⟨y,rfl,hy,D9,g9⟩;have o9:=o8.cur0 (by omega) g9;have m1:=m0.cur0 (by omega) g9;have K9:=K8.cur0 e8 g9;have k9:=k8.cur0 (by omega) g9;have C9:=C8.next D9 g9;have y9:=g9.size;have ya:w8.heap.size<=w9.heap.size:=by have:=(aM w8 (.cells #[.int .i64 0,.int .i64 1,.int .i64 (-1),.int .i64 (-3),.int .i64 5001,.int .i64 (-9223372036854775808)] 3)).size;omega
      have c0:=o9.cellAt rfl k hk;have f0:=o9.frozenAt rfl k;have st:=o9.stored rfl k y (HM.out y hy);have s9:=(o9.lt vb rfl).1;have c5:=K9.grow st.2 (fun e=>by have e2:vb=w.heap.size:=Option.some.inj e;omega);have g0:=k9.grow st.2 (fun e=>by have e2:vb=w1.heap.size:=Option.some.inj e;omega);have j0:=m1.grow st.2 (fun q hq e=>by have e2:vb=q:=Option.some.inj hq;have:=(ro _ e).2;omega);have j8:=C9.row st.2 (fun b e=>by have e2:vb=b:=Option.some.inj e;omega);have k7:=Lib.hid st.1;have h9:(X.set k y).length<=5:=by rw[List.length_set];exact hX
      have s8:(X.set k y).length=X.length:=List.length_set ..;have G9:=g0.cell;have q4:=c5.cell;have q1:=c5.frozen;clear st;go_wp2;refine aI ?_;intro Wf S;have t:=sD j8 c5 j0 (k7.out.mono (by omega)) (by omega) S;have GT:=t.1.cell;exact bodyPost_ret (v:=.tuple #[.agg #[.int .i64 n,.slice A i F],.slice (some ⟨vb,0,none⟩) X.length q6]) (by simp[results,Tryz.results269,go_sem,GT]) rfl (by first|exact⟨n,A,i,F,L,_,_,q6,_,rfl,Z,t.2.2.1,hl,t.2.2.2,h9,t.2.1.D,t.2.1.gr⟩|exact⟨n,A,i,F,L,_,_,q6,rfl,Z,t.2.2.1,hl,_,t.2.2.2,h9,t.2.1.D,t.2.1.gr⟩)
    ·have g4:¬(0:Int)<(X.length:Int):=by omega
     go_wp2;refine aI ?_;intro Wf S;have t:=sD C6 K6 e6 (o6.mono (by omega)) (by omega) S;have GT:=t.1.cell;exact bodyPost_ret (v:=.tuple #[.agg #[.int .i64 n,.slice A i F],.slice p6 X.length q6]) (by simp[results,Tryz.results269,go_sem,GT]) rfl (by first|exact⟨n,A,i,F,L,p6,X.length,q6,X,rfl,Z,t.2.2.1,hl,t.2.2.2,hX,t.2.1.D,t.2.1.gr⟩|exact⟨n,A,i,F,L,p6,X.length,q6,rfl,Z,t.2.2.1,hl,X,t.2.2.2,hX,t.2.1.D,t.2.1.gr⟩)
   |false=>
    have h7:=AO w6.drew g (C6.D.keep (Below.refl _ _).drew) N g6;have H7:=Lib.hid h7;have b1:aB w6.drew w1.heap.size 32 #[.int .i64 n,.slice A i F]:=c7;have b9:aB w6.drew w.heap.size 32 #[.int .i64 0,.slice none 0 0]:=K6;have i8:aC 3 (w.heap.size+1) w6.drew (.slice A i F) L:=e6.keep (Below.refl _ _).drew;have b5:Cur w w6.drew g:=C6.keep (Below.refl _ _).drew;have q8:=b1.cell;have q3:=b9.cell;have q0:=b9.frozen;have u3:w6.drew.heap.size=w6.heap.size:=rfl;clear h7 o6 hX;go_wp2_with fail;go_region_law
     (go_simp;go_at_call 272;refine H7.out.mono ?_;rintro e w7 ⟨p7,i7,q7,X7,rfl,o7,s6,D7,Y⟩;have a6:=b1.grow Y (fun e=>by have:=Option.some.inj e;omega);have G7:=a6.cell;have b8:=b9.cur0 b5.zg Y;have k2:=b8.cell;have k0:=b8.frozen;have a7:=i8.cur0 (by have:=b5.zg;omega) Y)
    all_goals
     have C7:=b5.next D7 Y;have o7:=o7.mono (show w.heap.size+1<=w6.drew.heap.size by omega);go_wp2;refine aI ?_;intro Wf S;have t:=sD C7 b8 a7 o7 (by omega) S;have GT:=t.1.cell;exact bodyPost_ret (v:=.tuple #[.agg #[.int .i64 n,.slice A i F],.slice p7 i7 q7]) (by simp[results,Tryz.results269,go_sem,GT]) rfl (by first|exact⟨n,A,i,F,L,p7,i7,q7,X7,rfl,Z,t.2.2.1,hl,t.2.2.2,by omega,t.2.1.D,t.2.1.gr⟩|exact⟨n,A,i,F,L,p7,i7,q7,rfl,Z,t.2.2.1,hl,X7,t.2.2.2,by omega,t.2.1.D,t.2.1.gr⟩)
end
end Go.Proofs.YtipejodijbjpcaaGreatDoor
section
namespace Go.G5
open Go Go.RowKit
def EC(w:World)(g n m:Nat)(z:Nat->Int):Prop:=∀k,k<n*m->w.cell? ⟨g,k,none⟩=some (.int .i64 (z k))
theorem EC.keep{w w':World}{g n m B:Nat}{z:Nat->Int}(h:EC w g n m z)(hb:Below B w w')(o:g<B):EC w' g n m z:=fun k A=>by
 rw[hb.cell (p:=⟨g,k,none⟩) (by show g<B;exact o)];exact h k A
end Go.G5
namespace Go.Proofs.YtipejodijbjpcaaGreatDoor
open Go.RowKit Go.G5
theorem EJ:(Tryz.prog.info? 189).map (fun i=>(i.zero,i.size,i.bytes))=some (some (.agg #[.int .i64 0,.int .i64 0,.int .i64 0]),3,24):=by kernel_rfl
theorem MQ(g n c k:Nat)(F:k<n)(W:World):(Instr.indexAt 187 (.slice (some ⟨g,0,none⟩) n c) (.int .i64 (k:Int))).run Tryz.prog W=.ok (.pointer (some ⟨g,3*k,none⟩)) W:=by
 have z:=Tryz.underlying187;have o:Tryz.prog.elem 187=189:=by simp[Program.elem,z]
 obtain⟨i,A,_,D,_⟩:=info_parts EJ;rw[run_indexAt_slice W 187 ⟨g,0,none⟩ n c .i64 k (by rw[o];exact z),if_pos ⟨by omega,by omega⟩,o];simp[sizeOf,typeInfo,A,D,Addr.add]
 rcases Nat.eq_zero_or_pos k with rfl|h
 ·simp
 ·rw[if_neg (by omega),Nat.mul_comm k 3]
theorem KT(w:World)(N:Nat)(S:N<=5)(g n c:Nat)(z:Nat->Int)(I:EC w g n 3 z)(_:∀k,0<=z k/\z k<=63)(Y:n<=20):
  Calls Tryz.prog 340 #[.int .i64 (N:Int),.slice (some ⟨g,0,none⟩) n c] w fun e w'=>∃b:Bool,e=.returned (.bool b)/\w=w':=by
 have A:=Lib.hid I;clear I;go_enter Tryz.func340,Tryz.ntmps340;go_wp2_with fail;go_loop [5] (fun i=>∃k:Nat,k<=n/\i=.int .i64 (k:Int)) (fun i=>n-(intOf i).toNat)
 case atStart=>exact⟨0,Nat.zero_le _,rfl⟩
 case round=>
  obtain⟨k,U,rfl⟩:=hrel
  by_cases hlt:k<n
  ·have o:(k:Int)<(n:Int):=by omega
   have Z:=fun W=>MQ g n c k hlt W;have c0:=A.out (3*k) (by omega);have c1:=A.out (3*k+1) (by omega);have c2:=A.out (3*k+2) (by omega);obtain⟨t0,F⟩:∃t,Hid (cM (N:Int) 0 5=t):=⟨_,Lib.hid rfl⟩;obtain⟨R,h1⟩:∃t,Hid (cM (z (3*k)) 0 ((N:Int)-1)=t):=⟨_,Lib.hid rfl⟩;obtain⟨t2,h2⟩:∃t,Hid (cM (z (3*k+1)) 0 ((N:Int)-1)=t):=⟨_,Lib.hid rfl⟩;obtain⟨t3,h3⟩:∃t,Hid (cM (z (3*k+2)) 0 20=t):=⟨_,Lib.hid rfl⟩;have K:=Lib.hid (fun W=>aR (N:Int) 0 5 W);have L:=Lib.hid (fun W=>aR (z (3*k)) 0 ((N:Int)-1) W);have M:=Lib.hid (fun W=>aR (z (3*k+1)) 0 ((N:Int)-1) W);have O:=Lib.hid (fun W=>aR (z (3*k+2)) 0 20 W);go_wp2_with fail;refine(K.out w).mono ?_;rintro e D ⟨rfl,rfl⟩;rw[F.out];clear F
   cases t0 with
   |false=>
    go_wp2;go_ret;exact⟨false,rfl,rfl⟩
   |true=>
    go_wp2_with fail;refine(L.out w).mono ?_;rintro e D ⟨rfl,rfl⟩;rw[h1.out];clear h1
    cases R with
    |false=>
     go_wp2;go_ret;exact⟨false,rfl,rfl⟩
    |true=>
     go_wp2_with fail;refine(M.out w).mono ?_;rintro e D ⟨rfl,rfl⟩;rw[h2.out];clear h2
     cases t2 with
     |false=>
      go_wp2;go_ret;exact⟨false,rfl,rfl⟩
     |true=>
      go_wp2_with fail;refine(O.out w).mono ?_;rintro e D ⟨rfl,rfl⟩;rw[h3.out];clear h3
      cases t3 with
      |false=>
       go_wp2;go_ret;exact⟨false,rfl,rfl⟩
      |true=>
       go_wp2;go_round
       case rel=>exact⟨k+1,by omega,by go_num⟩
       case measure=>simp[intOf];omega
  ·have o:¬(k:Int)<(n:Int):=by omega
   have Q:(n:Int)<=20:=by omega
   go_wp2;go_ret;exact⟨.inr rfl,rfl⟩
theorem OJ(w:World)(N:Nat)(hN:N<=5)(g n c:Nat)(z:Nat->Int)(Q:EC w g n 3 z)(hg:g<w.heap.size)(hb:∀k,0<=z k/\z k<=63)(hn:n<=20):
  Calls Tryz.prog 287 #[.int .i64 (N:Int),.slice (some ⟨g,0,none⟩) n c] w fun e w'=>∃(R:Option Addr) (i S:Nat) (m:Int) (L:List Int) (b:Bool),e=.returned (.tuple #[.agg #[.int .i64 m,.slice R i S],.bool b])/\bA m/\aC 3 w.heap.size w' (.slice R i S) L/\L.length<=64/\Below w.heap.size w w':=by
 obtain⟨V,hV⟩:∃V,V=w.alloc (.cells #[.int .i64 0,.slice none 0 0] 32):=⟨_,rfl⟩;have K:aB V w.heap.size 32 #[.int .i64 0,.slice none 0 0]:=by rw[hV];exact aB.new _ _ _
 have BV:Below w.heap.size w V:=by rw[hV];exact aM _ _
 have a7:=Q.keep BV hg;have Y:=aR (N:Int) 0 5 V;have c6:cM (N:Int) 0 5=true:=bL.2 ⟨by omega,by omega⟩;rw[c6]at Y;have b7:=KT V N hN g n c z a7 hb hn;have HB:=Lib.hid hb;have HZ:=Lib.hid a7;have f7:=Lib.hid Y;have f6:=Lib.hid b7;clear Q a7 Y c6 b7 hb;go_enter Tryz.func287,Tryz.ntmps287;go_wp2_with fail;refine aH ?_;intro D b9;obtain rfl:D=V:=by rw[b9,hV]
 clear hV b9;refine f7.out.mono ?_;rintro e w1 ⟨rfl,rfl⟩;go_wp2_with fail;refine f6.out.mono ?_;rintro e w1 ⟨b,rfl,rfl⟩;have K:=K
 cases b with
 |false=>
  have G:=K.cell;have F:=K.frozen;go_wp2;refine aI ?_;intro Wf Z;have t:=eA (w:=w) (E:=32) (m:=0) (b:=.slice none 0 0) K (aC.nil 3 (D.heap.size) D) (Nat.le_refl _) K.lt BV Z;have GF:=t.1.cell;exact bodyPost_ret (v:=.tuple #[.agg #[.int .i64 0,.slice none 0 0],.bool false]) (by simp[results,Tryz.results287,go_sem,GF]) rfl ⟨none,0,0,0,[],false,rfl,⟨by omega,by omega⟩,t.2.1,by simp,t.2.2⟩
 |true=>
  have k5:(2:Nat)^N<=32:=Nat.pow_le_pow_right (n:=2) (by decide) hN;have a6:((2^N:Nat):Int)=(2:Int)^N:=by simp
  have tp:=bJ N 5 hN;have k3:(2:Int)^N<=32:=by rw[<-a6];omega
  have k4:=tp.2;have k8:IntKind.i64.wrap ((2:Int)^N)=(2:Int)^N:=by rw[IntKind.wrap_i64];omega
  have b4:=Lib.hid a6;clear tp a6;have zV:=K.lt;have HK:=Lib.hid K;have b1:=Lib.hid BV;have o0:=aC.lit0 (E:=3) (B:=D.heap.size) D (Nat.le_refl _);clear K BV;go_wp2_with fail;go_loopw [6,7] (fun v i wr=>∃(s:Nat) (R:Option Addr) (nn S:Nat) (L:List Int),s<=2^N/\v=.slice R nn S/\i=.int .i64 (s:Int)/\L.length=s/\(∀x∈L,0<=x/\x<=1300)/\aC 3 D.heap.size wr (.slice R nn S) L/\Below D.heap.size D wr) (fun _ i _=>2^N-(intOf i).toNat)
  case atStart=>exact⟨0,_,_,_,[],Nat.zero_le _,rfl,rfl,rfl,by simp,o0,aM _ _⟩
  case round=>
   obtain⟨s,R,nn,S,L,hs,rfl,rfl,b8,hL,ho,O⟩:=hrel;clear o0;obtain⟨WC,g3⟩:∃WC:World,WC=wr:=⟨_,rfl⟩;subst g3;have e6:=HZ.out.keep O (by omega);have f9:=Lib.hid e6;have HL:=Lib.hid (And.intro b8 hL);have HO:=Lib.hid ho;have h9:L.length<=32:=by omega
   clear b8 hL ho e6
   by_cases hlt:s<2^N
   ·have c9:(s:Int)<(2:Int)^N:=by rw[<-b4.out];exact_mod_cast hlt
    go_wp2_with fail;go_loopw [8,9] (fun x i wx=>∃(k:Nat) (X:Int),k<=n/\i=.int .i64 (k:Int)/\x=.int .i64 X/\0<=X/\X<=63*k/\Below WC.heap.size WC wx) (fun _ i _=>n-(intOf i).toNat)
    case atStart=>exact⟨0,0,Nat.zero_le _,rfl,rfl,by omega,by omega,Below.refl _ _⟩
    case round=>
     obtain⟨k,X,hk,rfl,rfl,g6,j9,Bx⟩:=hrel;obtain⟨WX,g4⟩:∃WX:World,WX=wr:=⟨_,rfl⟩;subst g4
     by_cases g7:k<n
     ·have c7:(k:Int)<(n:Int):=by omega
      have M:=f9.out.keep Bx (by have:=O.size;omega);have ik:=fun W=>MQ g n c k g7 W;have c0:=M (3*k) (by omega);have c1:=M (3*k+1) (by omega);have c2:WX.drew.cell? ⟨g,3*k+2,none⟩=some (.int .i64 (z (3*k+2))):=M (3*k+2) (by omega);obtain⟨p,hp⟩:=Int.eq_ofNat_of_zero_le (HB.out (3*k)).1;obtain⟨q,hq⟩:=Int.eq_ofNat_of_zero_le (HB.out (3*k+1)).1;have hr:=HB.out (3*k+2);obtain⟨r,e4⟩:∃r,r=z (3*k+2):=⟨_,rfl⟩;rw[hp]at c0;rw[hq]at c1;rw[<-e4]at c2 hr;have k6:=hr.1;have k7:=hr.2;have i7:p<=63:=by have:=(HB.out (3*k)).2;omega
      have i8:q<=63:=by have:=(HB.out (3*k+1)).2;omega
      clear hp hq hr e4 M;obtain⟨t,ht⟩:∃t,(bits .and .i64 ((s:Int)/2^p) 1 != bits .and .i64 ((s:Int)/2^q) 1)=t:=⟨_,rfl⟩
      cases t with
      |false=>
       go_wp2_with fail;go_region
       all_goals
        go_wp2;go_roundw
        case rel=>exact⟨k+1,X,by omega,by go_num,rfl,g6,by omega,Bx.drew⟩
        case measure=>simp[intOf];omega
      |true=>
       go_wp2_with fail;go_region
       all_goals
        go_wp2;go_roundw
        case rel=>exact⟨k+1,X+r,by omega,by go_num,rfl,by omega,by omega,Bx.drew⟩
        case measure=>simp[intOf];omega
     ·have c7:¬(k:Int)<(n:Int):=by omega
      have k0:X<=1300:=by omega
      have zC:=Bx.size;have zW:=O.size;have b3:=Lib.hid (HO.out.keep Bx);have BX:=O.after Bx O.size;have zX:=BX.size;go_wp2_with (at_builtin;refine bB rfl _ _ _ rfl 3 Tryz.underlying22 aG D.heap.size _ L X _ rfl rfl (aT _ _ _ _ _ rfl) (b3.out.alloc _) ⟨by omega,by omega⟩ (by omega) (by simp;omega) ?_;intro v5 w5 o5 g5 h5;obtain⟨p5,i5,q5,rfl⟩:=o5.shape3);have B5:=(BX.alloc zX (.cells #[.int .i64 X] 3)).grown g5 (by simp;omega) (fun q hq=>(b3.out.lt q hq).1);go_roundw
      case rel=>
       refine⟨s+1,p5,i5,q5,L++[X],by omega,rfl,by go_num,by simp;exact HL.out.1,fun z Q=>?_,o5,B5⟩
       rcases List.mem_append.1 Q with Q|Q
       ·exact HL.out.2 z Q
       ·rw[List.mem_singleton.1 Q];omega
      case measure=>simp[intOf];omega
   ·have c9:¬(s:Int)<(2:Int)^N:=by rw[<-b4.out];exact_mod_cast hlt
    obtain⟨I,c5⟩:∃b,aN (N:Int) L=b:=⟨_,rfl⟩;have e0:=fun W hv=>nR W (N:Int) R nn S L hv I c5;have zC:=O.size;clear c5;go_wp2_with fail;refine(e0 WC HO.out.ints).mono ?_;rintro e w5 ⟨o,i',A,rfl,e5,b5⟩;have B5:=O.after b5 O.size;have B6:Below w.heap.size w w5:=b1.out.after B5 b1.out.size;have K5:=(HK.out.keep B5);have o6:aC 3 D.heap.size w5 (.slice o i' A) (if I then L else []):=by
     rw[e5]
     cases I
     ·exact aC.nil _ _ _
     ·exact HO.out.keep b5
    have a1:bA (if I then (N:Int) else 0):=by cases I<;>exact⟨by simp;try omega,by simp;try omega⟩
    have c8:(if I then L else []).length<=64:=by cases I<;>simp;omega
    obtain⟨m6,d0⟩:∃m,m=(if I then (N:Int) else 0):=⟨_,rfl⟩;rw[<-d0]at a1 ⊢;have H6:=Lib.hid (And.intro a1 c8);clear e5 d0 e0 a1 c8;obtain⟨U,hU⟩:∃U,U=w5.alloc (.cells #[.int .i64 m6,.slice o i' A] 32):=⟨_,rfl⟩;have KU:aB U w.heap.size 32 #[.int .i64 0,.slice none 0 0]:=by rw[hU];exact K5.alloc _
    have oU:aC 3 D.heap.size U (.slice o i' A) (if I then L else []):=by rw[hU];exact o6.alloc _
    have BU:Below w.heap.size w U:=by rw[hU];exact B6.alloc B6.size _
    have KN:aB U w5.heap.size 32 #[.int .i64 m6,.slice o i' A]:=by rw[hU];exact aB.new _ _ _
    have G1:=KU.cell;have F1:=KU.frozen;have G2:=KN.cell;go_upto_region 15 with fail;rw[<-hU];clear hU;go_wp2;refine aI ?_;intro Wf Z;have t:=eA (w:=w) (E:=32) (m:=m6) (b:=.slice o i' A) KU oU (Nat.le_refl _) zV BU Z;have GF:=t.1.cell;exact bodyPost_ret (v:=.tuple #[.agg #[.int .i64 m6,.slice o i' A],.bool I]) (by simp[results,Tryz.results287,go_sem,GF]) rfl ⟨o,i',A,m6,_,I,rfl,H6.out.1,t.2.1,H6.out.2,t.2.2⟩
end Go.Proofs.YtipejodijbjpcaaGreatDoor
end
section
namespace Go.G5
open Go Go.RowKit
theorem gJ.cur0{E:TypeId}{m B g:Nat}{w w':World}{v:Value}{n:Nat}(h:gJ E m B w v n)(z:g<B)(o:w.grownBy w' (some g)):gJ E m B w' v n:=
 h.grow o (fun k e1 e2=>by have:=Option.some.inj e1;have:=(h.lt k e2).1;omega)
end Go.G5
namespace Go.Proofs.YtipejodijbjpcaaGreatDoor
open Go.RowKit Go.G5
theorem yE(w:World)(g:Nat)(D:Dr w g):
  Calls Tryz.prog 175 #[.pointer (some ⟨g,0,none⟩)] w fun e w'=>∃(n:Int) (M:Option Addr) (i I:Nat) (l:List Int),e=.returned (.agg #[.int .i64 n,.slice M i I])/\bA n/\aC 3 w.heap.size w' (.slice M i I) l/\l.length<=64/\Dr w' g/\w.grownBy w' (some g):=by
 go_enter Tryz.func175,Tryz.ntmps175;go_wp2_with fail;refine aH ?_;intro V hV;have K:aB V w.heap.size 32 #[.int .i64 0,.slice none 0 0]:=by rw[hV];exact aB.new _ _ _
 have C:Cur w V g:=by rw[hV];exact(Cur.start D).alloc _
 clear hV;refine(iH V g C.D 6).mono ?_;rintro e w1 ⟨b,rfl,D1,g1⟩;have K:=K.cur0 C.zg g1;have C:=C.next D1 g1;have zK:=K.lt;clear D1 g1
 cases b with
 |true=>
  go_wp2_with fail;refine(vN w1 g C.D).mono ?_;rintro e w2 ⟨n,M,i,I,l,rfl,hn,o,hl,D2,S⟩;have K:=K.cur0 C.zg S;have C:=C.next D2 S;have o:=o.mono (show w.heap.size+1<=w1.heap.size by omega);clear D2 S;have G:=K.cell;have F:=K.frozen;go_wp2;refine aI ?_;intro Wf O;obtain⟨KF,CF,oF⟩:=eX C K o (Nat.lt_succ_self _) O;have GF:=KF.cell;clear O;exact bodyPost_ret (v:=.agg #[.int .i64 n,.slice M i I]) (by simp[results,Tryz.results175,go_sem,GF]) rfl ⟨n,M,i,I,l,rfl,hn,oF,by omega,CF.D,CF.gr⟩
 |false=>
  go_wp2_with fail;refine(aU w1 g C.D 4).mono ?_;rintro e w2 ⟨m,rfl,_,hm,_,D2,S⟩;have hm:=hm (by omega);have K:=K.cur0 C.zg S;have C:=C.next D2 S;obtain⟨N,hN⟩:∃N:Nat,(N:Int)=2+m:=⟨(2+m).toNat,by omega⟩;have f4:N<=5:=by omega
  have k8:2<=N:=by omega
  clear D2 S;have z2:=C.size;have m2:=C.zg;have m1:=K.lt;obtain⟨U,hU⟩:∃U,U=w2.alloc (.cells #[] 189):=⟨_,rfl⟩;have oE:gJ 189 3 w2.heap.size U (.slice (some ⟨w2.heap.size,0,none⟩) 0 0) 0:=by rw[hU];exact gJ.lit0 w2 (Nat.le_refl _)
  have K:=K.alloc (.cells #[] 189);have C:=C.alloc (.cells #[] 189);rw[<-hU]at K C;go_wp2_with fail;rw[<-hN];clear hN hm;refine aH ?_;intro U' b0;obtain rfl:U'=U:=by rw[b0,hU]
  clear hU b0;refine(aU U' g C.D 8).mono ?_;rintro e w3 ⟨k0,rfl,_,hk,_,D3,g3⟩;have hk:=hk (by omega);have oE:=oE.cur0 (by omega) g3;have K:=K.cur0 C.zg g3;have C:=C.next D3 g3;obtain⟨K0,rfl⟩:=Int.eq_ofNat_of_zero_le hk.1;have k7:K0<=7:=by omega
  clear D3 g3 hk;obtain⟨ei,hi,b6,b3,b4⟩:=info_parts EJ;have HI:=Lib.hid (And.intro hi (And.intro b6 (And.intro b3 b4)));clear hi b6 b3 b4;go_wp2_with fail;go_loopw [4,5] (fun lv kv wr=>∃(j cnt q I:Nat),lv=.slice (some ⟨q,0,none⟩) cnt I/\kv=.int .i64 (j:Int)/\j+cnt<=7/\gJ 189 3 w2.heap.size wr (.slice (some ⟨q,0,none⟩) cnt I) cnt/\Cur w wr g/\aB wr w.heap.size 32 #[.int .i64 0,.slice none 0 0]) (fun _ kv _=>(intOf kv).toNat)
  case atStart=>exact⟨K0,0,_,_,rfl,rfl,by omega,oE,C,K⟩
  case round=>
   obtain⟨j,cnt,q,I,rfl,rfl,hj,Q,z,A⟩:=hrel;clear oE C K;have zg:=z.zg
   by_cases k9:0<j
   ·have f6:(0:Int)<(j:Int):=by omega
    go_wp2_with fail;refine(aU wr g z.D (N:Int)).mono ?_;rintro e w5 ⟨x,rfl,_,hx,_,D5,g5⟩;have hx:=hx (by omega);have Q:=Q.cur0 (by omega) g5;have A:=A.cur0 zg g5;have z:=z.next D5 g5;clear D5 g5;go_wp2_with fail;refine(aU w5 g z.D (N:Int)).mono ?_;rintro e w6 ⟨y,rfl,_,hy,_,D6,g6⟩;have hy:=hy (by omega);have Q:=Q.cur0 (by omega) g6;have A:=A.cur0 zg g6;have z:=z.next D6 g6;clear D6 g6;go_wp2_with fail;refine(aU w6 g z.D 4).mono ?_;rintro e w7 ⟨u,rfl,_,hu,_,D7,g7⟩;have hu:=hu (by omega);have Q:=Q.cur0 (by omega) g7;have A:=A.cur0 zg g7;have z:=z.next D7 g7;have z7:=z.size;have k6:w2.heap.size<=w7.heap.size:=by have:=(Q.lt q rfl);omega
    have HO:=Lib.hid Q;clear D7 g7 Q;go_wp2_with (at_builtin;refine sW rfl _ _ _ rfl 189 Tryz.underlying187 ei _ 3 24 HI.out.1 HI.out.2.1 HI.out.2.2.1 HI.out.2.2.2 rfl (by decide) (by decide) w2.heap.size (.slice (some ⟨q,0,none⟩) cnt I) cnt rfl (HO.out.alloc _) w7.heap.size [x,y,u] rfl rfl (fun j v f7=>by match j,f7 with|0,h=>(cases h;exact aT _ _ _ _ _ rfl)|1,h=>(cases h;exact aT _ _ _ _ _ rfl)|2,h=>(cases h;exact aT _ _ _ _ _ rfl)) (fun v hv=>by simp only[List.mem_cons,List.not_mem_nil,or_false]at hv;rcases hv with rfl|rfl|rfl<;>omega) (by omega) (by simp;omega) ?_;intro v8 w8 o8 g8);obtain⟨q8,c8,rfl⟩:∃q8 c8,v8=.slice (some ⟨q8,0,none⟩) (cnt+1) c8:=by
     rcases o8.at with⟨_,_,h⟩|⟨q8,c8,h,_⟩
     ·omega
     ·exact⟨q8,c8,h⟩
    have R:∀b,(Value.slice (some ⟨q,0,none⟩) cnt I).ownBlock=some b->w2.heap.size<=b:=fun b hb=>(HO.out.lt b hb).1;have l6:=z.zg;have K8:=(A.alloc (.cells #[.int .i64 x,.int .i64 y,.int .i64 u] 189)).grow g8 (fun e=>by have:=R _ e;omega);have C8:=(z.alloc (.cells #[.int .i64 x,.int .i64 y,.int .i64 u] 189)).row g8 (fun b hb=>by have:=R b hb;omega);go_roundw
    case rel=>exact⟨j-1,cnt+1,q8,c8,rfl,by go_num,by omega,o8,C8,K8⟩
    case measure=>simp[intOf];omega
   ·have f6:¬(0:Int)<(j:Int):=by omega
    obtain⟨hq,Z,b8,b7⟩:q<wr.heap.size/\∃Z:Nat->Int,EC wr q cnt 3 Z/\∀k,0<=Z k/\Z k<=63:=by
     rcases Q.at with⟨_,h,_⟩|⟨q',c',h,h1,_,Z,h2,h3⟩
     ·cases h
     ·injection h with e1 e2 e3
      injection e1 with e1
      injection e1 with e1
      subst e1;exact⟨h1,Z,h2,h3⟩
    have zK:=A.lt;have zC:=z.size;have b1:=OJ wr N f4 q cnt I Z b8 hq b7 (by omega);have f0:=Lib.hid b1;clear b1 b8 b7 Q;go_wp2_with fail;refine f0.out.mono ?_;rintro e w5 ⟨M,i,c5,m5,L,b5,rfl,g0,oL,f8,bb⟩;have A:=A.keep bb;have z:=z.keep bb;obtain⟨Y,hY⟩:∃Y,Y=w5.alloc (.cells #[.int .i64 m5,.slice M i c5] 32):=⟨_,rfl⟩;have K:aB Y w.heap.size 32 #[.int .i64 0,.slice none 0 0]:=by rw[hY];exact A.alloc _
    have C:Cur w Y g:=by rw[hY];exact z.alloc _
    have o:aC 3 (w.heap.size+1) Y (.slice M i c5) L:=by rw[hY];exact(oL.mono (by omega)).alloc _
    have KN:aB Y w5.heap.size 32 #[.int .i64 m5,.slice M i c5]:=by rw[hY];exact aB.new _ _ _
    have G2:=KN.cell;clear A z oL;go_upto_region 10 with fail;rw[<-hY];clear hY;have G:=K.cell;have F:=K.frozen;go_wp2;refine aI ?_;intro Wf O;obtain⟨KF,CF,oF⟩:=eX C K o (Nat.lt_succ_self _) O;have GF:=KF.cell;clear O;exact bodyPost_ret (v:=.agg #[.int .i64 m5,.slice M i c5]) (by simp[results,Tryz.results175,go_sem,GF]) rfl ⟨m5,M,i,c5,L,rfl,g0,oF,f8,CF.D,CF.gr⟩
end Go.Proofs.YtipejodijbjpcaaGreatDoor
end
namespace Go.Proofs.YtipejodijbjpcaaGreatDoor
section
open Go.RowKit Go.G5
theorem NS(w:World)(g:Nat)(D:Dr w g):
  Calls Tryz.prog 333 #[.pointer (some ⟨g,0,none⟩)] w fun e w'=>∃(n:Int) (A:Option Addr) (i I:Nat) (l:List Int),e=.returned (.agg #[.int .i64 n,.slice A i I])/\bA n/\aC 3 w.heap.size w' (.slice A i I) l/\l.length<=64/\Dr w' g/\w.grownBy w' (some g):=by
 go_enter Tryz.func333,Tryz.ntmps333;go_wp2_with fail;refine aH ?_;intro V hV;have K:aB V w.heap.size 32 #[.int .i64 0,.slice none 0 0]:=by rw[hV];exact aB.new _ _ _
 have C:Cur w V g:=by rw[hV];exact(Cur.start D).alloc _
 clear hV;refine(aU V g C.D 5).mono ?_;rintro e w1 ⟨n0,rfl,_,U,_,D1,g1⟩;have U:=U (by omega);have K:=K.cur0 C.zg g1;have C:=C.next D1 g1;obtain⟨N,rfl⟩:=Int.eq_ofNat_of_zero_le U.1;have f2:N<=4:=by omega
 clear D1 g1 U;go_wp2_with fail;refine(aU w1 g C.D 6).mono ?_;rintro e w2 ⟨m,rfl,_,hm,_,D2,g2⟩;have hm:=hm (by omega);have K:=K.cur0 C.zg g2;have C:=C.next D2 g2;have zK:=K.lt;clear D2 g2
 by_cases m0:m=0
 ·subst m0
  go_wp2_with fail;refine(vN w2 g C.D).mono ?_;rintro e O ⟨n,A,i,I,l,rfl,U,o,hl,R,M⟩;have K:=K.cur0 C.zg M;have C:=C.next R M;have o:=o.mono (show w.heap.size+1<=w2.heap.size by omega);clear R M;have G:=K.cell;have F:=K.frozen;go_wp2;refine aI ?_;intro Wf z;obtain⟨KF,Q,oF⟩:=eX C K o (Nat.lt_succ_self _) z;have Y:=KF.cell;clear z;exact bodyPost_ret (v:=.agg #[.int .i64 n,.slice A i I]) (by simp[results,Tryz.results333,go_sem,Y]) rfl ⟨n,A,i,I,l,rfl,U,oF,by omega,Q.D,Q.gr⟩
 by_cases m1:m=1
 ·subst m1
  go_wp2_with fail;refine(aU w2 g C.D ((N:Int)+1)).mono ?_;rintro e O ⟨t,rfl,_,ht,_,R,M⟩;have ht:=ht (by omega);have f7:=ht.1;have f8:=ht.2;have K:=K.cur0 C.zg M;have C:=C.next R M;have zK:=K.lt;clear R M ht;have c6:(2:Nat)^N<=32:=Nat.pow_le_pow_right (n:=2) (by decide) (show N<=5 by omega);have S:((2^N:Nat):Int)=(2:Int)^N:=by simp
  have tp:=bJ N 5 (by omega);have f3:(2:Int)^N<=32:=by rw[<-S];omega
  have f4:=tp.2;have f6:IntKind.i64.wrap ((2:Int)^N)=(2:Int)^N:=by rw[IntKind.wrap_i64];omega
  have Z:=Lib.hid S;have HK:=Lib.hid K;have HC:=Lib.hid C;have o0:=aC.lit0 (E:=3) (B:=O.heap.size) O (Nat.le_refl _);clear tp S K C;go_wp2_with fail;go_loopw [5,6] (fun v i wr=>∃(s:Nat) (A:Option Addr) (nn I:Nat) (L:List Int),s<=2^N/\v=.slice A nn I/\i=.int .i64 (s:Int)/\L.length=s/\aC 3 O.heap.size wr (.slice A nn I) L/\Below O.heap.size O wr) (fun _ i _=>2^N-(intOf i).toNat)
  case atStart=>exact⟨0,_,_,_,[],Nat.zero_le _,rfl,rfl,rfl,o0,aM _ _⟩
  case round=>
   obtain⟨s,A,nn,I,L,hs,rfl,rfl,a7,ho,Bw⟩:=hrel;clear o0;have HO:=Lib.hid ho;have b5:=Lib.hid a7;have c9:L.length<=32:=by omega
   have zB:=Bw.size;clear ho a7
   by_cases hlt:s<2^N
   ·have a8:(s:Int)<(2:Int)^N:=by rw[<-Z.out];exact_mod_cast hlt
    have a9:=rU s (by omega);have b0:=jO s wr (by omega);have a1:=Lib.hid b0;clear b0;obtain⟨p,hp⟩:∃p,Hid (aY s=p):=⟨_,Lib.hid rfl⟩;rw[hp.out]at a9;go_wp2_with fail;refine a1.out.mono ?_;rintro e w5 ⟨rfl,rfl⟩;rw[hp.out];clear hp a1;go_wp2_with (at_builtin;refine bB rfl _ _ _ rfl 3 Tryz.underlying22 aG O.heap.size _ L (min t (p:Int)) _ rfl rfl (aT _ _ _ _ _ rfl) (HO.out.alloc _) ⟨by omega,by omega⟩ (by omega) (by simp;omega) ?_;intro v5 w5 o5 g5 h5;obtain⟨p5,i5,q5,rfl⟩:=o5.shape3);have B5:=(Bw.alloc zB (.cells #[.int .i64 (min t (p:Int))] 3)).grown g5 (by simp;omega) (fun q hq=>(HO.out.lt q hq).1);go_roundw
    case rel=>exact⟨s+1,p5,i5,q5,L++[min t (p:Int)],by omega,rfl,by go_num,by simp;exact b5.out,o5,B5⟩
    case measure=>simp[intOf];omega
   ·have a8:¬(s:Int)<(2:Int)^N:=by rw[<-Z.out];exact_mod_cast hlt
    have K:=HK.out.keep Bw;have C:=HC.out.keep Bw;have o:=HO.out.mono (show w.heap.size+1<=O.heap.size by omega);have G:=K.cell;have F:=K.frozen;go_wp2;refine aI ?_;intro Wf z;obtain⟨KF,Q,oF⟩:=eX C K o (Nat.lt_succ_self _) z;have Y:=KF.cell;clear z;exact bodyPost_ret (v:=.agg #[.int .i64 (N:Int),.slice A nn I]) (by simp[results,Tryz.results333,go_sem,Y]) rfl ⟨(N:Int),A,nn,I,rfl,⟨by omega,by omega⟩,L,oF,by omega,Q.D,Q.gr⟩
 ·go_wp2_with fail
  refine(xY w2 g C.D N (by omega)).mono ?_;rintro e O ⟨A,I,L,rfl,o,hL,_,R,M⟩;have K:=K.cur0 C.zg M;have C:=C.next R M;have o:=o.mono (show w.heap.size+1<=w2.heap.size by omega);have c6:(2:Nat)^N<=32:=Nat.pow_le_pow_right (n:=2) (by decide) (show N<=5 by omega);clear R M;have G:=K.cell;have F:=K.frozen;go_wp2;refine aI ?_;intro Wf z;obtain⟨KF,Q,oF⟩:=eX C K o (Nat.lt_succ_self _) z;have Y:=KF.cell;clear z;exact bodyPost_ret (v:=.agg #[.int .i64 (N:Int),.slice A (2^N) I]) (by simp[results,Tryz.results333,go_sem,Y]) rfl ⟨(N:Int),A,2^N,I,L,rfl,⟨by omega,by omega⟩,oF,by omega,Q.D,Q.gr⟩
end
end Go.Proofs.YtipejodijbjpcaaGreatDoor
