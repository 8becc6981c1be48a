/- Lemmas for CardClaims, part 25 of 52. No condition. -/
import Derived.Test.YtipejodijbjpcaaGreatDoorQ05
import Derived.Test.YtipejodijbjpcaaGreatDoorQ12
import Derived.Test.YtipejodijbjpcaaGreatDoorQ22
set_option maxRecDepth 100000
set_option maxHeartbeats 64000000
namespace Go.Proofs.YtipejodijbjpcaaGreatDoor
section
open Go.RowKit Go.G5
theorem CC(w:World)(n:Int)(v:Value)(l:List Int)(hv:aD w v l)(hl:l.length<=1048576)(m:Int)(u:Value)(k:List Int)(hu:aD w u k)(hk:k.length<=1048576):
  Calls Tryz.prog 169 #[.agg #[.int .i64 n,v],.agg #[.int .i64 m,u]] w fun e w'=>e=.returned (.tuple #[.int .i64 (xR n l m k),.int .i64 (lG n l m k),.bool (cZ n l m k)])/\Below w.heap.size w w':=by
 obtain⟨a,c,rfl⟩:=hv.shape;obtain⟨b,d,rfl⟩:=hu.shape;go_enter Tryz.func169,Tryz.ntmps169;go_wp2_with fail;refine aH ?_;intro V U;have B:Below w.heap.size w V:=by rw[U];exact cD _ _ _
 have S:aB V w.heap.size 32 #[.int .i64 n,.slice a l.length c]:=by rw[U];exact(aB.new _ _ _).alloc _
 have F:aB V (w.heap.size+1) 32 #[.int .i64 m,.slice b k.length d]:=by rw[U];have:=aB.new (w.alloc (.cells #[.int .i64 n,.slice a l.length c] 32)) 32 #[.int .i64 m,.slice b k.length d];simpa using this
 clear U;refine(pC V n _ l (hv.below B (Nat.le_refl _)) hl m _ k (hu.below B (Nat.le_refl _)) hk).mono ?_;rintro e A ⟨rfl,b1⟩;have S:=S.keep b1;have F:=F.keep b1;have B:=B.after b1 B.size;have O:=hv.below B (Nat.le_refl _);have b0:=hu.below B (Nat.le_refl _);have z2:=F.lt
 cases o:cZ n l m k with
 |false=>
  have Q:xR n l m k=0:=by unfold xR;rw[o];rfl
  have R:lG n l m k=0:=by unfold lG;rw[o];rfl
  have D:=Lib.hid (And.intro Q R);have Z:=Lib.hid o;clear Q R o;go_wp2;go_ret3;exact⟨by rw[D.out.1,D.out.2,Z.out];rfl,B⟩
 |true=>
  obtain⟨rfl,N,rfl,a7,z,b4,L,M,K⟩:=kH o;have Q:xR N l N k=gK l k (dQ l k (2^N)):=by unfold xR;rw[o,if_pos rfl,z]
  have R:lG N l N k=(dQ l k (2^N):Int):=by unfold lG;rw[o,if_pos rfl,z]
  have D:=Lib.hid (And.intro Q R);have Z:=Lib.hid o;have I:∀x:Ext A,Calls Tryz.prog 127 #[.agg #[.int .i64 (N:Int),.slice a l.length c]] x.w fun e w'=>e=.returned (.int .i64 (2^N-1))/\Below x.w.heap.size x.w w':=fun x=>by
   have:=jM (N:Int) (.slice a l.length c) l x.w (x.ints O) (by omega) (by omega);rw[Int.toNat_natCast]at this;exact this
  have Y:=Lib.hid I;have a1:=Lib.hid (fun x:Ext A=>CO x.w N a7 (N:Int) (N:Int) (.slice a l.length c) (.slice b k.length d) l k (x.ints O) (x.ints b0) z L M K);have e0:∀y:Ext A,y.w.cell? ⟨w.heap.size,0,none⟩=some (.int .i64 N):=fun y=>y.cell (S.cell 0);have e1:∀y:Ext A,y.w.cell? ⟨w.heap.size,1,none⟩=some (.slice a l.length c):=fun y=>y.cell (S.cell 1);have e2:∀y:Ext A,y.w.cell? ⟨w.heap.size+1,0,none⟩=some (.int .i64 N):=fun y=>y.cell (F.cell 0);have e3:∀y:Ext A,y.w.cell? ⟨w.heap.size+1,1,none⟩=some (.slice b k.length d):=fun y=>y.cell (F.cell 1);clear Q R o z L M K I;go_wp2_with fail;refine aO _ (by kernel_rfl) (by kernel_rfl) ?_
  repeat(first|go_big_quiet_skip|(go_big_quiet_want;go_big_quiet_op;first|go_big_quiet_on|(apply Exists.intro;refine⟨fun _=>?_,?_⟩;(first|(go_at_call 127;exact aV (Y.out _))|(go_at_call 283;exact aV (a1.out _)));go_big_quiet_on)))
  refine wpQuiet_nil ?_;rintro w3 ⟨⟨w3,a8⟩,rfl⟩
  try dsimp only
  go_wp2;go_ret3;exact⟨by rw[D.out.1,D.out.2,Z.out];rfl,B.after a8 B.size⟩
theorem BJ(w:World)(n:Int)(v:Value)(l:List Int)(hv:aD w v l)(hl:l.length<=1048576)(m:Int)(u:Value)(k:List Int)(hu:aD w u k)(hk:k.length<=1048576):
  Calls Tryz.prog 172 #[.agg #[.int .i64 n,v],.agg #[.int .i64 m,u]] w fun e w'=>e=.returned (.tuple #[.int .i64 (xR n l m k),.int .i64 (lG n l m k),.bool (cZ n l m k)])/\Below w.heap.size w w':=by
 obtain⟨a,c,rfl⟩:=hv.shape;obtain⟨b,d,rfl⟩:=hu.shape;go_enter Tryz.func172,Tryz.ntmps172;go_wp2_with fail;refine aH ?_;intro V hV;have B:Below w.heap.size w V:=by rw[hV];exact cD _ _ _
 have Z:aB V w.heap.size 32 #[.int .i64 n,.slice a l.length c]:=by rw[hV];exact(aB.new _ _ _).alloc _
 have L:aB V (w.heap.size+1) 32 #[.int .i64 m,.slice b k.length d]:=by rw[hV];have:=aB.new (w.alloc (.cells #[.int .i64 n,.slice a l.length c] 32)) 32 #[.int .i64 m,.slice b k.length d];simpa using this
 clear hV;refine(pF V n _ l (hv.below B (Nat.le_refl _)) hl m _ k (hu.below B (Nat.le_refl _)) hk).mono ?_;rintro e w1 ⟨rfl,b1⟩;have Z:=Z.keep b1;have L:=L.keep b1;have B:=B.after b1 B.size;have e8:=hv.below B (Nat.le_refl _);have e7:=hu.below B (Nat.le_refl _);have z2:=L.lt;obtain⟨aa,ba,f5,ca,a9,_,z,M,e0⟩:=hv.view Tryz.prog 22 3 Tryz.underlying22 aG;obtain⟨ab,bb,f6,cb,b0,_,A,O,e4⟩:=hu.view Tryz.prog 22 3 Tryz.underlying22 aG;simp only[Value.slice.injEq]at a9 b0;obtain⟨rfl,_,rfl⟩:=a9;obtain⟨rfl,_,rfl⟩:=b0
 cases D:cZ n l m k with
 |false=>
  clear z M A O;have hx:xR n l m k=0:=by unfold xR;rw[D];rfl
  have hy:lG n l m k=0:=by unfold lG;rw[D];rfl
  have Y:=Lib.hid (And.intro hx hy);have HF:=Lib.hid D;clear hx hy D;go_wp2;go_ret3;exact⟨by rw[Y.out.1,Y.out.2,HF.out];rfl,B⟩
 |true=>
  obtain⟨rfl,N,rfl,a8,F,f4,R,S,Q⟩:=kH D;have K:=Nat.two_pow_pos N;have e6:=wJ l k (2^N) K;have hx:xR N l N k=gK l k (dQ l k (2^N)):=by unfold xR;rw[D,if_pos rfl,F]
  have hy:lG N l N k=(dQ l k (2^N):Int):=by unfold lG;rw[D,if_pos rfl,F]
  have o:((2^N-1:Nat):Int)=(2:Int)^N-1:=by rw[Int.ofNat_sub K];simp
  obtain⟨p,hp⟩:∃p,p=dQ l k (2^N):=⟨_,rfl⟩;rw[<-hp]at hx hy e6;have I:=qM l k R p (by omega);have cp:=aK M e0 B (Nat.le_refl _) p (by omega);have ip:=fun W=>z W p (by omega);have dp:=aK O e4 B (Nat.le_refl _) (l.length-1-p) (by omega);have jp:=fun W=>A W (l.length-1-p) (by omega);have f0:=S p (by omega);have e9:=Q (l.length-1-p) (by omega);obtain⟨x,b5⟩:∃x,x=l[p]'(by omega):=⟨_,rfl⟩;obtain⟨y,b6⟩:∃y,y=k[l.length-1-p]'(by omega):=⟨_,rfl⟩;rw[<-b5]at cp f0 I;rw[<-b6]at dp e9 I;have b4:((2:Int)^N-1)-(p:Int)=((l.length-1-p:Nat):Int):=by rw[<-o];omega
  obtain⟨r,hr⟩:∃r,r=l.length-1-p:=⟨_,rfl⟩;simp only[<-hr]at dp jp b4;have Y:=Lib.hid (And.intro hx (And.intro hy I));have HF:=Lib.hid D;have c7:=Lib.hid (fun W=>cT N W (by omega));have U:=fun(W:World) (h1:aD W (.slice a l.length c) l) (h2:aD W (.slice b k.length d) k)=>MC W N a8 (N:Int) (N:Int) (.slice a l.length c) (.slice b k.length d) l k h1 h2 F R S Q;rw[<-hp]at U;have c8:=Lib.hid U;have p5:=bJ N 5 a8;clear hx hy D F R S Q I b5 b6 hr hp o z M A O U;have G1:=Z.cell;go_wp2_with fail;refine(c7.out _).mono ?_;rintro e w2 ⟨rfl,rfl⟩;have G2:=L.cell;go_wp2_with fail;clear G1 G2;refine(c8.out _ e8 e7).mono ?_;rintro e w3 ⟨rfl,b3⟩;have Z:=Z.keep b3;have L:=L.keep b3;have B3:=B.after b3 B.size;have cp:=keep b3 cp;have dp:=keep b3 dp;have G1:=Z.cell;have G2:=L.cell;go_wp2_with fail;go_quiet (fail);go_wp2;go_ret3;exact⟨by rw[Y.out.1,Y.out.2.1,Y.out.2.2,HF.out];rfl,B3.drewN' _⟩
end
section
open Go.RowKit Go.G5
def rG(n:Int)(l:List Int)(m:Int)(k:List Int):Int:=if cZ n l m k then 4 else 0
def qW(n:Int)(l:List Int)(m:Int)(k:List Int):Int:=if cZ n l m k then n else 0
def pN(n:Int)(l:List Int)(m:Int)(k:List Int):List Int:=if cZ n l m k then l else []
def qT(n:Int)(l:List Int)(m:Int)(k:List Int):Int:=if cZ n l m k then m else 0
def pO(n:Int)(l:List Int)(m:Int)(k:List Int):List Int:=if cZ n l m k then k else []
def qV(n:Int)(l:List Int)(m:Int)(k:List Int):Int:=if cZ n l m k then cK (gO n l m k) else 0
def pT(n:Int)(l:List Int)(m:Int)(k:List Int):List Int:=if cZ n l m k then fA (gO n l m k) else []
theorem BI(n:Int)(l:List Int)(m:Int)(k:List Int)(h:l.length<=1048576):(pN n l m k).length<=1048576:=by unfold pN;split<;>simp_all
theorem BH(n:Int)(l:List Int)(m:Int)(k:List Int)(h:k.length<=1048576):(pO n l m k).length<=1048576:=by unfold pO;split<;>simp_all
theorem BS(n:Int)(l:List Int)(m:Int)(k:List Int):(pT n l m k).length<=1048576:=by
 unfold pT
 split
 ·have:=rM (gO n l m k);omega
 ·simp
theorem P8{n:Int}{l:List Int}{m:Int}{k:List Int}(h:cZ n l m k=true):0<=gO n l m k/\gO n l m k<64:=by
 obtain⟨_,N,_,_,z,o,_⟩:=kH h;have:=Nat.two_pow_pos N;have:=qQ l k l.length (by omega);unfold gO;rw[if_pos h];omega
theorem LF(w:World)(n:Int)(v:Value)(l:List Int)(hv:aD w v l)(hl:l.length<=1048576)(m:Int)(u:Value)(k:List Int)(hu:aD w u k)(hk:k.length<=1048576):
  Calls Tryz.prog 44 #[.agg #[.int .i64 n,v],.agg #[.int .i64 m,u]] w fun e w'=>∃p0 i0 q0 p1 i1 q1 p2 i2 q2 p3 i3 q3,e=.returned (.tuple #[.agg #[.int .i64 (rG n l m k),.int .i64 (qW n l m k),.slice p0 i0 q0,.int .i64 (qT n l m k),.slice p1 i1 q1,.int .i64 0,.slice p2 i2 q2,.int .i64 (qV n l m k),.int .i64 (lG n l m k),.slice p3 i3 q3],.bool (cZ n l m k)])/\aL 3 w.heap.size w' (.slice p0 i0 q0) (pN n l m k)/\aL 3 w.heap.size w' (.slice p1 i1 q1) (pO n l m k)/\aL 3 w.heap.size w' (.slice p2 i2 q2) []/\aL 3 w.heap.size w' (.slice p3 i3 q3) (pT n l m k)/\(aF (.slice p0 i0 q0) (.slice p1 i1 q1)/\aF (.slice p0 i0 q0) (.slice p2 i2 q2)/\aF (.slice p0 i0 q0) (.slice p3 i3 q3)/\aF (.slice p1 i1 q1) (.slice p2 i2 q2)/\aF (.slice p1 i1 q1) (.slice p3 i3 q3)/\aF (.slice p2 i2 q2) (.slice p3 i3 q3))/\Below w.heap.size w w':=by
 obtain⟨a,c,rfl⟩:=hv.shape;obtain⟨b,d,rfl⟩:=hu.shape;go_enter Tryz.func44,Tryz.ntmps44;go_wp2_with fail;refine aH ?_;intro V hV;have B:Below w.heap.size w V:=by rw[hV];exact PO _ _ _ _
 have K1:aB V w.heap.size 32 #[.int .i64 n,.slice a l.length c]:=by rw[hV];exact((aB.new _ _ _).alloc _).alloc _
 have K2:aB V (w.heap.size+1) 32 #[.int .i64 m,.slice b k.length d]:=by rw[hV];have:=(aB.new (w.alloc (.cells #[.int .i64 n,.slice a l.length c] 32)) 32 #[.int .i64 m,.slice b k.length d]).alloc (.cells #[.int .i64 0,.int .i64 0,.slice none 0 0,.int .i64 0,.slice none 0 0,.int .i64 0,.slice none 0 0,.int .i64 0,.int .i64 0,.slice none 0 0] 49);simpa using this
 have F:aB V (w.heap.size+1+1) 49 #[.int .i64 0,.int .i64 0,.slice none 0 0,.int .i64 0,.slice none 0 0,.int .i64 0,.slice none 0 0,.int .i64 0,.int .i64 0,.slice none 0 0]:=by rw[hV];have:=aB.new ((w.alloc (.cells #[.int .i64 n,.slice a l.length c] 32)).alloc (.cells #[.int .i64 m,.slice b k.length d] 32)) 49 #[.int .i64 0,.int .i64 0,.slice none 0 0,.int .i64 0,.slice none 0 0,.int .i64 0,.slice none 0 0,.int .i64 0,.int .i64 0,.slice none 0 0];simpa using this
 clear hV;refine(yO V n _ l (hv.below B (Nat.le_refl _)) hl m _ k (hu.below B (Nat.le_refl _)) hk).mono ?_;rintro e w1 ⟨rfl,b1⟩;have K1:=K1.keep b1;have K2:=K2.keep b1;have F:=F.keep b1;have B:=B.after b1 B.size;have z3:=F.lt;have G1:=K1.cell;have G2:=K2.cell;go_wp2_with fail;clear G1 G2;refine(CC w1 n _ l (hv.below B (Nat.le_refl _)) hl m _ k (hu.below B (Nat.le_refl _)) hk).mono ?_;rintro e I ⟨rfl,b2⟩;have K1:=K1.keep b2;have K2:=K2.keep b2;have F:=F.keep b2;have B:=B.after b2 B.size;have z3:=F.lt
 cases o:cZ n l m k with
 |false=>
  have N:rG n l m k=0:=by unfold rG;rw[o];rfl
  have K:qW n l m k=0:=by unfold qW;rw[o];rfl
  have O:pN n l m k=[]:=by unfold pN;rw[o];rfl
  have z:qT n l m k=0:=by unfold qT;rw[o];rfl
  have R:pO n l m k=[]:=by unfold pO;rw[o];rfl
  have U:qV n l m k=0:=by unfold qV;rw[o];rfl
  have hS:lG n l m k=0:=by unfold lG;rw[o];rfl
  have M:pT n l m k=[]:=by unfold pT;rw[o];rfl
  have H:=Lib.hid (And.intro N (And.intro K (And.intro O (And.intro z (And.intro R (And.intro U (And.intro hS M)))))));have HB:=Lib.hid o;clear N K O z R U hS M o;have G3:=F.cell;have F3:=F.frozen;go_wp2;refine aI ?_;intro Wf A;have a7:aB Wf (w.heap.size+1+1) 49 #[.int .i64 0,.int .i64 0,.slice none 0 0,.int .i64 0,.slice none 0 0,.int .i64 0,.slice none 0 0,.int .i64 0,.int .i64 0,.slice none 0 0]:=by
   rw[A];have:=(((((((((F.set 0 (.int .i64 0)).set 1 (.int .i64 0)).set 2 (.slice none 0 0)).set 3 (.int .i64 0)).set 4 (.slice none 0 0)).set 5 (.int .i64 0)).set 6 (.slice none 0 0)).set 7 (.int .i64 0)).set 8 (.int .i64 0)).set 9 (.slice none 0 0);simpa using this
  have hg:I.grownBy Wf (some (w.heap.size+1+1)):=by
   rw[A];exact(aA (aA (aA (aA (aA (aA (aA (aA (aA (aA (World.grownBy.refl _ _) 0 _) 1 _) 2 _) 3 _) 4 _) 5 _) 6 _) 7 _) 8 _) 9 _)
  have Bf:Below w.heap.size w Wf:=B.grown hg B.size (fun q Z=>by have:=Option.some.inj Z;omega);have Gf:=a7.cell;clear A G3 F3;obtain⟨N,K,O,z,R,U,hS,M⟩:=H.out;exact bodyPost_ret (v:=.tuple #[.agg #[.int .i64 0,.int .i64 0,.slice none 0 0,.int .i64 0,.slice none 0 0,.int .i64 0,.slice none 0 0,.int .i64 0,.int .i64 0,.slice none 0 0],.bool false]) (by simp[results,Tryz.results44,go_sem,Gf]) rfl
   ⟨none,0,0,none,0,0,none,0,0,none,0,0,by rw[N,K,z,U,hS,HB.out],by rw[O];exact aL.nil _ _ _,by rw[R];exact aL.nil _ _ _,aL.nil _ _ _,by rw[M];exact aL.nil _ _ _,
    ⟨aF.nil _ _ _,aF.nil _ _ _,aF.nil _ _ _,aF.nil _ _ _,aF.nil _ _ _,aF.nil _ _ _⟩,Bf⟩
 |true=>
  have N:rG n l m k=4:=by unfold rG;rw[o];rfl
  have K:qW n l m k=n:=by unfold qW;rw[o];rfl
  have O:pN n l m k=l:=by unfold pN;rw[o];rfl
  have z:qT n l m k=m:=by unfold qT;rw[o];rfl
  have R:pO n l m k=k:=by unfold pO;rw[o];rfl
  have U:qV n l m k=cK (gO n l m k):=by unfold qV;rw[o];rfl
  have M:pT n l m k=fA (gO n l m k):=by unfold pT;rw[o];rfl
  have Y:=P8 o;have H:=Lib.hid (And.intro N (And.intro K (And.intro O (And.intro z (And.intro R (And.intro U M))))));have HB:=Lib.hid o;obtain⟨L,Q⟩:∃q,q=gO n l m k:=⟨_,rfl⟩;obtain⟨S,a8⟩:∃q,q=lG n l m k:=⟨_,rfl⟩;simp only[<-Q,<-a8];rw[<-Q]at Y;have c9:=Lib.hid Q;have h7:=Lib.hid a8;have j6:=hv.below B (Nat.le_refl _);have j4:=hu.below B (Nat.le_refl _);have j7:aD I.drew (.slice a l.length c) l:=j6.keep (Below.refl _ _).drew;have j5:aD I.drew (.slice b k.length d) k:=j4.keep (Below.refl _ _).drew;have h0:=Lib.hid (lB I.drew n (.slice a l.length c) l j7 hl);have h5:=Lib.hid (fun(W:World) (h:Below I.drew.heap.size I.drew W)=>lB W m (.slice b k.length d) k (j5.keep h) hk);have h8:=Lib.hid (fun W=>H8 L W Y.1 (by omega));have h6:=Lib.hid (fun W=>nX L W Y.1 Y.2);have i8:aB I.drew (w.heap.size+1) 32 #[.int .i64 m,.slice b k.length d]:=K2;have d0:aB I.drew (w.heap.size+1+1) 49 #[.int .i64 0,.int .i64 0,.slice none 0 0,.int .i64 0,.slice none 0 0,.int .i64 0,.slice none 0 0,.int .i64 0,.int .i64 0,.slice none 0 0]:=F;have Bd:Below w.heap.size w I.drew:=B.drew;have zd:w.heap.size+1+1<I.drew.heap.size:=d0.lt;clear N K O z R U M o Q a8;have G1:=K1.cell;have G2:=K2.cell;go_wp2_with fail;go_region_law
   (first
    |(go_simp;go_at_call 134;with_reducible refine h0.out.mono ?_;rintro e w5 ⟨p5,i5,q5,rfl,o5,b5⟩;have h9:=i8.keep b5;have j0:=d0.keep b5;have l0:=h9.cell)
    |(go_simp;go_at_call 134;with_reducible refine(h5.out w5 b5).mono ?_;rintro e w6 ⟨p6,i6,q6,rfl,o6,b6⟩;have j1:=j0.keep b6)
    |(go_simp;go_at_call 170;refine(h8.out _).mono ?_;rintro e m2 ⟨rfl,rfl⟩)
    |(go_simp;go_at_call 171;refine(h6.out _).mono ?_;rintro e w7 ⟨p7,i7,q7,rfl,o7,b7⟩;have a6:=j1.keep b7;have l6:=a6.cell;have k9:=a6.frozen))
  all_goals
   have B5:=Bd.after b5 Bd.size;have B6:=B5.after b6 B5.size;have B7:=B6.after b7 B6.size;have y5:=b5.size;have y6:=b6.size;have y7:=b7.size;have x5:=o5.toW.mono (B':=w.heap.size+1+1+1) (by omega);have x6:=o6.toW.mono (B':=w.heap.size+1+1+1) (by omega);have x7:=o7.toW.mono (B':=w.heap.size+1+1+1) (by omega);have e0:aF (.slice p5 i5 q5) (.slice p6 i6 q6):=aF.of_lt o5.toW o6.toW (Nat.le_refl _);have e4:aF (.slice p5 i5 q5) (.slice p7 i7 q7):=aF.of_lt o5.toW o7.toW y6;have e5:aF (.slice p6 i6 q6) (.slice p7 i7 q7):=aF.of_lt o6.toW o7.toW (Nat.le_refl _);have x5:=(x5.keep b6).keep b7;have x6:=x6.keep b7;go_wp2;refine aI ?_;intro Wf A;have a7:aB Wf (w.heap.size+1+1) 49 #[.int .i64 4,.int .i64 n,.slice p5 i5 q5,.int .i64 m,.slice p6 i6 q6,.int .i64 0,.slice none 0 0,.int .i64 (cK L),.int .i64 S,.slice p7 i7 q7]:=by
    rw[A];have:=(((((((((a6.set 0 (.int .i64 4)).set 1 (.int .i64 n)).set 2 (.slice p5 i5 q5)).set 3 (.int .i64 m)).set 4 (.slice p6 i6 q6)).set 5 (.int .i64 0)).set 6 (.slice none 0 0)).set 7 (.int .i64 (cK L))).set 8 (.int .i64 S)).set 9 (.slice p7 i7 q7);simpa using this
   have hg:w7.grownBy Wf (some (w.heap.size+1+1)):=by
    rw[A];exact(aA (aA (aA (aA (aA (aA (aA (aA (aA (aA (World.grownBy.refl _ _) 0 _) 1 _) 2 _) 3 _) 4 _) 5 _) 6 _) 7 _) 8 _) 9 _)
   have Bf:Below w.heap.size w Wf:=B7.grown hg B7.size (fun q Z=>by have:=Option.some.inj Z;omega);have f5:=(x5.grow hg (fun q Z D=>by have:=Option.some.inj Z;have:=(x5.lt q D).1;omega)).mono (B':=w.heap.size) (by omega);have f6:=(x6.grow hg (fun q Z D=>by have:=Option.some.inj Z;have:=(x6.lt q D).1;omega)).mono (B':=w.heap.size) (by omega);have f7:=(x7.grow hg (fun q Z D=>by have:=Option.some.inj Z;have:=(x7.lt q D).1;omega)).mono (B':=w.heap.size) (by omega);have Gf:=a7.cell;clear A;obtain⟨N,K,O,z,R,U,M⟩:=H.out;exact bodyPost_ret (v:=.tuple #[.agg #[.int .i64 4,.int .i64 n,.slice p5 i5 q5,.int .i64 m,.slice p6 i6 q6,.int .i64 0,.slice none 0 0,.int .i64 (cK L),.int .i64 S,.slice p7 i7 q7],.bool true]) (by simp[results,Tryz.results44,go_sem,Gf]) rfl
    ⟨p5,i5,q5,p6,i6,q6,none,0,0,p7,i7,q7,by rw[N,K,z,U,<-c9.out,<-h7.out,HB.out],by rw[O];exact f5,by rw[R];exact f6,aL.nil _ _ _,by rw[M,<-c9.out];exact f7,
     ⟨e0,(aF.nil _ _ _).symm,e4,(aF.nil _ _ _).symm,e5,aF.nil _ _ _⟩,Bf⟩
theorem xV(w:World)(n:Int)(v:Value)(l:List Int)(hv:aD w v l)(hl:l.length<=1048576)(m:Int)(u:Value)(k:List Int)(hu:aD w u k)(hk:k.length<=1048576):
  Calls Tryz.prog 45 #[.agg #[.int .i64 n,v],.agg #[.int .i64 m,u]] w fun e w'=>∃p0 i0 q0 p1 i1 q1 p2 i2 q2 p3 i3 q3,e=.returned (.tuple #[.agg #[.int .i64 (rG n l m k),.int .i64 (qW n l m k),.slice p0 i0 q0,.int .i64 (qT n l m k),.slice p1 i1 q1,.int .i64 0,.slice p2 i2 q2,.int .i64 (qV n l m k),.int .i64 (lG n l m k),.slice p3 i3 q3],.bool (cZ n l m k)])/\aL 3 w.heap.size w' (.slice p0 i0 q0) (pN n l m k)/\aL 3 w.heap.size w' (.slice p1 i1 q1) (pO n l m k)/\aL 3 w.heap.size w' (.slice p2 i2 q2) []/\aL 3 w.heap.size w' (.slice p3 i3 q3) (pT n l m k)/\(aF (.slice p0 i0 q0) (.slice p1 i1 q1)/\aF (.slice p0 i0 q0) (.slice p2 i2 q2)/\aF (.slice p0 i0 q0) (.slice p3 i3 q3)/\aF (.slice p1 i1 q1) (.slice p2 i2 q2)/\aF (.slice p1 i1 q1) (.slice p3 i3 q3)/\aF (.slice p2 i2 q2) (.slice p3 i3 q3))/\Below w.heap.size w w':=by
 obtain⟨a,c,rfl⟩:=hv.shape;obtain⟨b,d,rfl⟩:=hu.shape;go_enter Tryz.func45,Tryz.ntmps45;go_wp2_with fail;refine aH ?_;intro V hV;have B:Below w.heap.size w V:=by rw[hV];exact PO _ _ _ _
 have K1:aB V w.heap.size 32 #[.int .i64 n,.slice a l.length c]:=by rw[hV];exact((aB.new _ _ _).alloc _).alloc _
 have K2:aB V (w.heap.size+1) 32 #[.int .i64 m,.slice b k.length d]:=by rw[hV];have:=(aB.new (w.alloc (.cells #[.int .i64 n,.slice a l.length c] 32)) 32 #[.int .i64 m,.slice b k.length d]).alloc (.cells #[.int .i64 0,.int .i64 0,.slice none 0 0,.int .i64 0,.slice none 0 0,.int .i64 0,.slice none 0 0,.int .i64 0,.int .i64 0,.slice none 0 0] 49);simpa using this
 have I:aB V (w.heap.size+1+1) 49 #[.int .i64 0,.int .i64 0,.slice none 0 0,.int .i64 0,.slice none 0 0,.int .i64 0,.slice none 0 0,.int .i64 0,.int .i64 0,.slice none 0 0]:=by rw[hV];have:=aB.new ((w.alloc (.cells #[.int .i64 n,.slice a l.length c] 32)).alloc (.cells #[.int .i64 m,.slice b k.length d] 32)) 49 #[.int .i64 0,.int .i64 0,.slice none 0 0,.int .i64 0,.slice none 0 0,.int .i64 0,.slice none 0 0,.int .i64 0,.int .i64 0,.slice none 0 0];simpa using this
 clear hV;refine(rL V n _ l (hv.below B (Nat.le_refl _)) hl m _ k (hu.below B (Nat.le_refl _)) hk).mono ?_;rintro e w1 ⟨rfl,b1⟩;have K1:=K1.keep b1;have K2:=K2.keep b1;have I:=I.keep b1;have B:=B.after b1 B.size;have z3:=I.lt
 cases o:cZ n l m k with
 |false=>
  obtain⟨D,rfl⟩:∃D:World,D=w1:=⟨_,rfl⟩;have N:rG n l m k=0:=by unfold rG;rw[o];rfl
  have K:qW n l m k=0:=by unfold qW;rw[o];rfl
  have O:pN n l m k=[]:=by unfold pN;rw[o];rfl
  have z:qT n l m k=0:=by unfold qT;rw[o];rfl
  have R:pO n l m k=[]:=by unfold pO;rw[o];rfl
  have U:qV n l m k=0:=by unfold qV;rw[o];rfl
  have hS:lG n l m k=0:=by unfold lG;rw[o];rfl
  have M:pT n l m k=[]:=by unfold pT;rw[o];rfl
  have H:=Lib.hid (And.intro N (And.intro K (And.intro O (And.intro z (And.intro R (And.intro U (And.intro hS M)))))));have HB:=Lib.hid o;clear N K O z R U hS M o;have G3:=I.cell;have F3:=I.frozen;go_wp2;refine aI ?_;intro Wf A;have a7:aB Wf (w.heap.size+1+1) 49 #[.int .i64 0,.int .i64 0,.slice none 0 0,.int .i64 0,.slice none 0 0,.int .i64 0,.slice none 0 0,.int .i64 0,.int .i64 0,.slice none 0 0]:=by
   rw[A];have:=(((((((((I.set 0 (.int .i64 0)).set 1 (.int .i64 0)).set 2 (.slice none 0 0)).set 3 (.int .i64 0)).set 4 (.slice none 0 0)).set 5 (.int .i64 0)).set 6 (.slice none 0 0)).set 7 (.int .i64 0)).set 8 (.int .i64 0)).set 9 (.slice none 0 0);simpa using this
  have hg:D.grownBy Wf (some (w.heap.size+1+1)):=by
   rw[A];exact(aA (aA (aA (aA (aA (aA (aA (aA (aA (aA (World.grownBy.refl _ _) 0 _) 1 _) 2 _) 3 _) 4 _) 5 _) 6 _) 7 _) 8 _) 9 _)
  have Bf:Below w.heap.size w Wf:=B.grown hg B.size (fun q Z=>by have:=Option.some.inj Z;omega);have Gf:=a7.cell;clear A G3 F3;obtain⟨N,K,O,z,R,U,hS,M⟩:=H.out;exact bodyPost_ret (v:=.tuple #[.agg #[.int .i64 0,.int .i64 0,.slice none 0 0,.int .i64 0,.slice none 0 0,.int .i64 0,.slice none 0 0,.int .i64 0,.int .i64 0,.slice none 0 0],.bool false]) (by simp[results,Tryz.results45,go_sem,Gf]) rfl
   ⟨none,0,0,none,0,0,none,0,0,none,0,0,by rw[N,K,z,U,hS,HB.out],by rw[O];exact aL.nil _ _ _,by rw[R];exact aL.nil _ _ _,aL.nil _ _ _,by rw[M];exact aL.nil _ _ _,
    ⟨aF.nil _ _ _,aF.nil _ _ _,aF.nil _ _ _,aF.nil _ _ _,aF.nil _ _ _,aF.nil _ _ _⟩,Bf⟩
 |true=>
  have G1:=K1.cell;have G2:=K2.cell;go_wp2_with fail;clear G1 G2;refine(BJ w1 n _ l (hv.below B (Nat.le_refl _)) hl m _ k (hu.below B (Nat.le_refl _)) hk).mono ?_;rintro e D ⟨rfl,b2⟩;have K1:=K1.keep b2;have K2:=K2.keep b2;have I:=I.keep b2;have B:=B.after b2 B.size;have z3:=I.lt;have N:rG n l m k=4:=by unfold rG;rw[o];rfl
  have K:qW n l m k=n:=by unfold qW;rw[o];rfl
  have O:pN n l m k=l:=by unfold pN;rw[o];rfl
  have z:qT n l m k=m:=by unfold qT;rw[o];rfl
  have R:pO n l m k=k:=by unfold pO;rw[o];rfl
  have U:qV n l m k=cK (gO n l m k):=by unfold qV;rw[o];rfl
  have M:pT n l m k=fA (gO n l m k):=by unfold pT;rw[o];rfl
  have Y:=P8 o;have H:=Lib.hid (And.intro N (And.intro K (And.intro O (And.intro z (And.intro R (And.intro U M))))));have HB:=Lib.hid o;obtain⟨L,Q⟩:∃q,q=gO n l m k:=⟨_,rfl⟩;obtain⟨S,a8⟩:∃q,q=lG n l m k:=⟨_,rfl⟩;simp only[<-Q,<-a8];rw[<-Q]at Y;have c9:=Lib.hid Q;have h7:=Lib.hid a8;have j6:=hv.below B (Nat.le_refl _);have j4:=hu.below B (Nat.le_refl _);have j7:aD D.drew (.slice a l.length c) l:=j6.keep (Below.refl _ _).drew;have j5:aD D.drew (.slice b k.length d) k:=j4.keep (Below.refl _ _).drew;have h0:=Lib.hid (kZ D.drew n (.slice a l.length c) l j7 hl);have h5:=Lib.hid (fun(W:World) (h:Below D.drew.heap.size D.drew W)=>kZ W m (.slice b k.length d) k (j5.keep h) hk);have h8:=Lib.hid (fun W=>pA L W Y.1 (by omega));have h6:=Lib.hid (fun W=>tU L W Y.1 Y.2);have i8:aB D.drew (w.heap.size+1) 32 #[.int .i64 m,.slice b k.length d]:=K2;have d0:aB D.drew (w.heap.size+1+1) 49 #[.int .i64 0,.int .i64 0,.slice none 0 0,.int .i64 0,.slice none 0 0,.int .i64 0,.slice none 0 0,.int .i64 0,.int .i64 0,.slice none 0 0]:=I;have Bd:Below w.heap.size w D.drew:=B.drew;have zd:w.heap.size+1+1<D.drew.heap.size:=d0.lt;clear N K O z R U M o Q a8;have G1:=K1.cell;have G2:=K2.cell;go_wp2_with fail;go_region_law
   (first
    |(go_simp;go_at_call 158;with_reducible refine h0.out.mono ?_;rintro e w5 ⟨p5,i5,q5,rfl,o5,b5⟩;have h9:=i8.keep b5;have j0:=d0.keep b5;have l5:=h9.cell)
    |(go_simp;go_at_call 158;with_reducible refine(h5.out w5 b5).mono ?_;rintro e w6 ⟨p6,i6,q6,rfl,o6,b6⟩;have j1:=j0.keep b6)
    |(go_simp;go_at_call 173;refine(h8.out _).mono ?_;rintro e m2 ⟨rfl,rfl⟩)
    |(go_simp;go_at_call 174;refine(h6.out _).mono ?_;rintro e w7 ⟨p7,i7,q7,rfl,o7,b7⟩;have a6:=j1.keep b7;have l7:=a6.cell;have l0:=a6.frozen))
  all_goals
   have B5:=Bd.after b5 Bd.size;have B6:=B5.after b6 B5.size;have B7:=B6.after b7 B6.size;have y5:=b5.size;have y6:=b6.size;have y7:=b7.size;have x5:=o5.toW.mono (B':=w.heap.size+1+1+1) (by omega);have x6:=o6.toW.mono (B':=w.heap.size+1+1+1) (by omega);have x7:=o7.toW.mono (B':=w.heap.size+1+1+1) (by omega);have e0:aF (.slice p5 i5 q5) (.slice p6 i6 q6):=aF.of_lt o5.toW o6.toW (Nat.le_refl _);have e4:aF (.slice p5 i5 q5) (.slice p7 i7 q7):=aF.of_lt o5.toW o7.toW y6;have e5:aF (.slice p6 i6 q6) (.slice p7 i7 q7):=aF.of_lt o6.toW o7.toW (Nat.le_refl _);have x5:=(x5.keep b6).keep b7;have x6:=x6.keep b7;go_wp2;refine aI ?_;intro Wf A;have a7:aB Wf (w.heap.size+1+1) 49 #[.int .i64 4,.int .i64 n,.slice p5 i5 q5,.int .i64 m,.slice p6 i6 q6,.int .i64 0,.slice none 0 0,.int .i64 (cK L),.int .i64 S,.slice p7 i7 q7]:=by
    rw[A];have:=(((((((((a6.set 0 (.int .i64 4)).set 1 (.int .i64 n)).set 2 (.slice p5 i5 q5)).set 3 (.int .i64 m)).set 4 (.slice p6 i6 q6)).set 5 (.int .i64 0)).set 6 (.slice none 0 0)).set 7 (.int .i64 (cK L))).set 8 (.int .i64 S)).set 9 (.slice p7 i7 q7);simpa using this
   have hg:w7.grownBy Wf (some (w.heap.size+1+1)):=by
    rw[A];exact(aA (aA (aA (aA (aA (aA (aA (aA (aA (aA (World.grownBy.refl _ _) 0 _) 1 _) 2 _) 3 _) 4 _) 5 _) 6 _) 7 _) 8 _) 9 _)
   have Bf:Below w.heap.size w Wf:=B7.grown hg B7.size (fun q Z=>by have:=Option.some.inj Z;omega);have f5:=(x5.grow hg (fun q Z F=>by have:=Option.some.inj Z;have:=(x5.lt q F).1;omega)).mono (B':=w.heap.size) (by omega);have f6:=(x6.grow hg (fun q Z F=>by have:=Option.some.inj Z;have:=(x6.lt q F).1;omega)).mono (B':=w.heap.size) (by omega);have f7:=(x7.grow hg (fun q Z F=>by have:=Option.some.inj Z;have:=(x7.lt q F).1;omega)).mono (B':=w.heap.size) (by omega);have Gf:=a7.cell;clear A;obtain⟨N,K,O,z,R,U,M⟩:=H.out;exact bodyPost_ret (v:=.tuple #[.agg #[.int .i64 4,.int .i64 n,.slice p5 i5 q5,.int .i64 m,.slice p6 i6 q6,.int .i64 0,.slice none 0 0,.int .i64 (cK L),.int .i64 S,.slice p7 i7 q7],.bool true]) (by simp[results,Tryz.results45,go_sem,Gf]) rfl
    ⟨p5,i5,q5,p6,i6,q6,none,0,0,p7,i7,q7,by rw[N,K,z,U,<-c9.out,<-h7.out,HB.out],by rw[O];exact f5,by rw[R];exact f6,aL.nil _ _ _,by rw[M,<-c9.out];exact f7,
     ⟨e0,(aF.nil _ _ _).symm,e4,(aF.nil _ _ _).symm,e5,aF.nil _ _ _⟩,Bf⟩
end
end Go.Proofs.YtipejodijbjpcaaGreatDoor
