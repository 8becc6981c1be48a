/- Lemmas for CardRunConsole. No condition. -/
import Derived.Test.YtkdbkjjacgigiaaGreatDoorR14
set_option maxRecDepth 100000
set_option maxHeartbeats 64000000
namespace Go.Proofs.YtkdbkjjacgigiaaGreatDoor
section
open Go.RowKit Go.G5 Go.Proofs.Tryz
variable(w:World)(n:Int)(v:Value)(l:aI)
def FE(n:Int)(l:List Int)(m:Int)(k:List Int):Int:=if fP n l m k then 4 else 0
def FA(n:Int)(l:List Int)(m:Int)(k:List Int):Int:=if fP n l m k then n else 0
def FG(n:Int)(l:List Int)(m:Int)(k:List Int):List Int:=if fP n l m k then l else []
def FB(n:Int)(l:List Int)(m:Int)(k:List Int):Int:=if fP n l m k then m else 0
def FH(n:Int)(l:List Int)(m:Int)(k:List Int):List Int:=if fP n l m k then k else []
def FI(n:Int)(l:List Int)(m:Int)(k:List Int):Int:=if fP n l m k then eO (tK n l m k) else 0
def FD(n:Int)(l:List Int)(m:Int)(k:List Int):List Int:=if fP n l m k then iP (tK n l m k) else []
theorem aiS{n:Int}{l:aI}{m:Int}{k:aI}(h:fP n l m k=true):0<=tK n l m k/\tK n l m k<64:=by
 obtain⟨_,N,_,_,D,z,_⟩:=sY h;have:=dJ N;have:=M5 l k l.length aA;unfold tK;rw[if_pos h];omega
theorem aj2{p:Prop}(h:p:=by
  rw[D];have:=(((((((((k1.set 0 (aO 4)).set 1 (aO n)).set 2 (aD p5 i5 q5)).set 3 (aO m)).set 4 (aD p6 i6 q6)).set 5 (aO 0)).set 6 (aD none 0 0)).set 7 (aO (eO L))).set 8 (aO S)).set 9 (aD p7 i7 q7);simpa using this):p:=h
theorem aj8{p:Prop}(h:p:=by
  rw[D];have:=(((((((((M.set 0 (aO 0)).set 1 (aO 0)).set 2 (aD none 0 0)).set 3 (aO 0)).set 4 (aD none 0 0)).set 5 (aO 0)).set 6 (aD none 0 0)).set 7 (aO 0)).set 8 (aO 0)).set 9 (aD none 0 0);simpa using this):p:=h
theorem abP(hv:Ints w v l)(hl:l.length<=1048576)(m:Int)(u:Value)(k:aI)(hu:Ints w u k)(hk:k.length<=1048576):
  Calls prog 141 #[aM #[n,v],aM #[m,u]] w fun e w'=>∃p0 i0 J p1 i1 q1 p2 i2 q2 p3 i3 q3,e=aQ (aS #[aM #[(FE n l m k),(FA n l m k),aD p0 i0 J,(FB n l m k),aD p1 i1 q1,aK,aD p2 i2 q2,(FI n l m k),(uU n l m k),aD p3 i3 q3],aG (fP n l m k)])/\cY 3 w.heap.size w' (aD p0 i0 J) (FG n l m k)/\cY 3 w.heap.size w' (aD p1 i1 q1) (FH n l m k)/\cY 3 w.heap.size w' (aD p2 i2 q2) []/\cY 3 w.heap.size w' (aD p3 i3 q3) (FD n l m k)/\(cB (aD p0 i0 J) (aD p1 i1 q1)/\cB (aD p0 i0 J) (aD p2 i2 q2)/\cB (aD p0 i0 J) (aD p3 i3 q3)/\cB (aD p1 i1 q1) (aD p2 i2 q2)/\cB (aD p1 i1 q1) (aD p3 i3 q3)/\cB (aD p2 i2 q2) (aD p3 i3 q3))/\Below w w w':=by
 obtain⟨a,c,rfl⟩:=hv.shape;obtain⟨b,d,rfl⟩:=hu.shape;go_enter func141,ntmps141;go_wp2_with fail;refine cZ ?_;intro V hV;have B:Below w w V:=by rw[hV];exact bl3 _ _ _ _
 have O:bK V w 27 #[n,aD a l c]:=by rw[hV];exact((bK.new _ _ _).alloc _).alloc _
 have K2:bK V (w+1) 27 #[m,aD b k d]:=by rw[hV];have:=(bK.new (w.alloc (.cells #[n,aD a l c] 27)) 27 #[m,aD b k d]).alloc (.cells #[aK,aK,(),aK,(),aK,(),aK,aK,()] 34);simpa using this
 have M:bK V (w.heap.size+1+1) 34 #[aK,aK,(),aK,(),aK,(),aK,aK,()]:=by rw[hV];have:=bK.new ((w.alloc (.cells #[n,aD a l c] 27)).alloc (.cells #[m,aD b k d] 27)) 34 #[aK,aK,(),aK,(),aK,(),aK,aK,()];simpa using this
 clear hV;refine aV (DG V n _ l (hv.below B aU) hl m _ k (hu.below B aU) hk) ?_;intro w1 b1;have O:=O.keep b1;have K2:=K2.keep b1;have M:=M.keep b1;have B:=B.after b1 B.size;have z3:=M.lt;have G1:=O.cell;have G2:=K2.cell;go_wp2_with fail;clear G1 G2;refine aV (FK w1 n _ l (hv.below B aU) hl m _ k (hu.below B aU) hk) ?_;intro wl b2;have O:=O.keep b2;have K2:=K2.keep b2;have M:=M.keep b2;have B:=B.after b2 B.size;have z3:=M.lt
 cases z:fP n l m k with
 |false=>
  have F:FE n l m k=0:=by unfold FE;rw[z];rfl
  have R:FA n l m k=0:=by unfold FA;rw[z];rfl
  have I:FG n l m k=[]:=by unfold FG;rw[z];rfl
  have b0:FB n l m k=0:=by unfold FB;rw[z];rfl
  have hM:FH n l m k=[]:=by unfold FH;rw[z];rfl
  have Z:FI n l m k=0:=by unfold FI;rw[z];rfl
  have hS:uU n l m k=0:=by unfold uU;rw[z];rfl
  have Y:FD n l m k=[]:=by unfold FD;rw[z];rfl
  have H:=aT (And.intro F (And.intro R (And.intro I (And.intro b0 (And.intro hM (And.intro Z (And.intro hS Y)))))));have HB:=aT z;clear F R I b0 hM Z hS Y z;have G3:=M.cell;have F3:=M.frozen;go_wp2;refine cT ?_;intro Wf D;have a9:bK Wf (w.heap.size+1+1) 34 #[aK,aK,(),aK,(),aK,(),aK,aK,()]:=by exact aj8
  have hg:wl.grownBy Wf (some (w.heap.size+1+1)):=by exact rY
  have Bf:Below w w Wf:=B.grown hg B.size kF;have Gf:=a9.cell;clear D G3 F3;obtain⟨F,R,I,b0,hM,Z,hS,Y⟩:=H.out;exact bW (v:=aS #[aM #[aK,aK,(),aK,(),aK,(),aK,aK,()],aG false]) (by simp[results,results141,go_sem,Gf]) rfl
   ⟨none,0,0,none,0,0,none,0,0,none,0,0,by rw[F,R,b0,Z,hS,HB.out],by rw[I];exact cY.nil _ _ _,by rw[hM];exact cY.nil _ _ _,cY.nil _ _ _,by rw[Y];exact cY.nil _ _ _,
    ⟨cB.nil _ _ _,cB.nil _ _ _,cB.nil _ _ _,cB.nil _ _ _,cB.nil _ _ _,cB.nil _ _ _⟩,Bf⟩
 |true=>
  have F:FE n l m k=4:=by unfold FE;rw[z];rfl
  have R:FA n l m k=n:=by unfold FA;rw[z];rfl
  have I:FG n l m k=l:=by unfold FG;rw[z];rfl
  have b0:FB n l m k=m:=by unfold FB;rw[z];rfl
  have hM:FH n l m k=k:=by unfold FH;rw[z];rfl
  have Z:FI n l m k=eO (tK n l m k):=by unfold FI;rw[z];rfl
  have Y:FD n l m k=iP (tK n l m k):=by unfold FD;rw[z];rfl
  have h0:=aiS z;have H:=aT (And.intro F (And.intro R (And.intro I (And.intro b0 (And.intro hM (And.intro Z Y))))));have HB:=aT z;obtain⟨L,g6⟩:=aW (tK n l m k);obtain⟨S,j4⟩:=aW (uU n l m k);simp only[<-g6,<-j4];rw[<-g6]at h0;have j1:=aT g6;have n0:=aT j4;have j8:=hv.below B aU;have q4:=hu.below B aU;have k2:Ints wl.drew (aD a l c) l:=j8.keep (bJ _ _).drew;have q8:Ints wl.drew (aD b k d) k:=q4.keep (bJ _ _).drew;have k9:=aT (wV wl.drew n (aD a l c) l k2 hl);have m6:=aT (fun(W:World) (h:Below wl.drew.heap.size wl.drew W)=>wV W m (aD b k d) k (q8.keep h) hk);have n1:=aT (fun W=>vN L W h0.1 aA);have m9:=aT (fun W=>nJ L W h0.1 h0.2);have n3:bK wl.drew (w.heap.size+1) 27 #[m,aD b k d]:=K2;have h7:bK wl.drew (w.heap.size+1+1) 34 #[aK,aK,(),aK,(),aK,(),aK,aK,()]:=M;have Bd:Below w w wl.drew:=B.drew;have zd:w.heap.size+1+1<wl.drew.heap.size:=h7.lt;clear F R I b0 hM Z Y z g6 j4;have G1:=O.cell;have G2:=K2.cell;go_wp2_with fail;go_region_law
   (first
    |(go_simp;go_at_call 208;with_reducible refine k9.out.mono ?_;rintro e w5 ⟨p5,i5,q5,rfl,o5,b5⟩;have n2:=n3.keep b5;have f8:=h7.keep b5;have s8:=n2.cell)
    |(go_simp;go_at_call 208;with_reducible refine(m6.out w5 b5).mono ?_;rintro e w6 ⟨p6,i6,q6,rfl,o6,b6⟩;have j3:=f8.keep b6)
    |(go_simp;go_at_call 214;refine aV (n1.out _) ?_;rintro u4 rfl)
    |(go_simp;go_at_call 215;refine(m9.out _).mono ?_;rintro e w7 ⟨p7,i7,q7,rfl,o7,b7⟩;have k1:=j3.keep b7;have t1:=k1.cell;have s7:=k1.frozen))
  all_goals
   have B5:=Bd.after b5 Bd.size;have B6:=B5.after b6 B5.size;have B7:=B6.after b7 B6.size;have y5:=b5.size;have y6:=b6.size;have y7:=b7.size;have x5:=o5.toW.mono (B':=w.heap.size+1+1+1) aA;have x6:=o6.toW.mono (B':=w.heap.size+1+1+1) aA;have x7:=o7.toW.mono (B':=w.heap.size+1+1+1) aA;have l0:cB (aD p5 i5 q5) (aD p6 i6 q6):=cB.of_lt o5.toW o6.toW aU;have l1:cB (aD p5 i5 q5) (aD p7 i7 q7):=cB.of_lt o5.toW o7.toW y6;have l2:cB (aD p6 i6 q6) (aD p7 i7 q7):=cB.of_lt o6.toW o7.toW aU;have x5:=(x5.keep b6).keep b7;have x6:=x6.keep b7;go_wp2;refine cT ?_;intro Wf D;have a9:bK Wf (w.heap.size+1+1) 34 #[aO 4,n,aD p5 i5 q5,m,aD p6 i6 q6,aK,(),(eO L),S,aD p7 i7 q7]:=by exact aj2
   have hg:w7.grownBy Wf (some (w.heap.size+1+1)):=by exact rY
   have Bf:Below w w Wf:=B7.grown hg B7.size kF;have f5:=(x5.grow hg (fun q hq K=>by have:=cI hq;have:=(x5.lt q K).1;omega)).mono (B':=w.heap.size) aA;have f6:=(x6.grow hg (fun q hq K=>by have:=cI hq;have:=(x6.lt q K).1;omega)).mono (B':=w.heap.size) aA;have f7:=(x7.grow hg (fun q hq K=>by have:=cI hq;have:=(x7.lt q K).1;omega)).mono (B':=w.heap.size) aA;have Gf:=a9.cell;clear D;obtain⟨F,R,I,b0,hM,Z,Y⟩:=H.out;exact bW (v:=aS #[aM #[aO 4,n,aD p5 i5 q5,m,aD p6 i6 q6,aK,(),(eO L),S,aD p7 i7 q7],aG true]) (by simp[results,results141,go_sem,Gf]) rfl
    ⟨p5,i5,q5,p6,i6,q6,none,0,0,p7,i7,q7,by rw[F,R,b0,Z,<-j1.out,<-n0.out,HB.out],by rw[I];exact f5,by rw[hM];exact f6,cY.nil _ _ _,by rw[Y,<-j1.out];exact f7,
     ⟨l0,(cB.nil _ _ _).symm,l1,(cB.nil _ _ _).symm,l2,cB.nil _ _ _⟩,Bf⟩
theorem abQ(hv:Ints w v l)(hl:l.length<=1048576)(m:Int)(u:Value)(k:aI)(hu:Ints w u k)(hk:k.length<=1048576):
  Calls prog 165 #[aM #[n,v],aM #[m,u]] w fun e w'=>∃p0 i0 J p1 i1 q1 p2 i2 q2 p3 i3 q3,e=aQ (aS #[aM #[(FE n l m k),(FA n l m k),aD p0 i0 J,(FB n l m k),aD p1 i1 q1,aK,aD p2 i2 q2,(FI n l m k),(uU n l m k),aD p3 i3 q3],aG (fP n l m k)])/\cY 3 w.heap.size w' (aD p0 i0 J) (FG n l m k)/\cY 3 w.heap.size w' (aD p1 i1 q1) (FH n l m k)/\cY 3 w.heap.size w' (aD p2 i2 q2) []/\cY 3 w.heap.size w' (aD p3 i3 q3) (FD n l m k)/\(cB (aD p0 i0 J) (aD p1 i1 q1)/\cB (aD p0 i0 J) (aD p2 i2 q2)/\cB (aD p0 i0 J) (aD p3 i3 q3)/\cB (aD p1 i1 q1) (aD p2 i2 q2)/\cB (aD p1 i1 q1) (aD p3 i3 q3)/\cB (aD p2 i2 q2) (aD p3 i3 q3))/\Below w w w':=by
 obtain⟨a,c,rfl⟩:=hv.shape;obtain⟨b,d,rfl⟩:=hu.shape;go_enter func165,ntmps165;go_wp2_with fail;refine cZ ?_;intro V hV;have B:Below w w V:=by rw[hV];exact bl3 _ _ _ _
 have O:bK V w 27 #[n,aD a l c]:=by rw[hV];exact((bK.new _ _ _).alloc _).alloc _
 have K2:bK V (w+1) 27 #[m,aD b k d]:=by rw[hV];have:=(bK.new (w.alloc (.cells #[n,aD a l c] 27)) 27 #[m,aD b k d]).alloc (.cells #[aK,aK,(),aK,(),aK,(),aK,aK,()] 34);simpa using this
 have M:bK V (w.heap.size+1+1) 34 #[aK,aK,(),aK,(),aK,(),aK,aK,()]:=by rw[hV];have:=bK.new ((w.alloc (.cells #[n,aD a l c] 27)).alloc (.cells #[m,aD b k d] 27)) 34 #[aK,aK,(),aK,(),aK,(),aK,aK,()];simpa using this
 clear hV;refine aV (DH V n _ l (hv.below B aU) hl m _ k (hu.below B aU) hk) ?_;intro w1 b1;have O:=O.keep b1;have K2:=K2.keep b1;have M:=M.keep b1;have B:=B.after b1 B.size;have z3:=M.lt
 cases z:fP n l m k with
 |false=>
  obtain⟨wl,rfl⟩:∃wl:World,wl=w1:=⟨_,rfl⟩;have F:FE n l m k=0:=by unfold FE;rw[z];rfl
  have R:FA n l m k=0:=by unfold FA;rw[z];rfl
  have I:FG n l m k=[]:=by unfold FG;rw[z];rfl
  have b0:FB n l m k=0:=by unfold FB;rw[z];rfl
  have hM:FH n l m k=[]:=by unfold FH;rw[z];rfl
  have Z:FI n l m k=0:=by unfold FI;rw[z];rfl
  have hS:uU n l m k=0:=by unfold uU;rw[z];rfl
  have Y:FD n l m k=[]:=by unfold FD;rw[z];rfl
  have H:=aT (And.intro F (And.intro R (And.intro I (And.intro b0 (And.intro hM (And.intro Z (And.intro hS Y)))))));have HB:=aT z;clear F R I b0 hM Z hS Y z;have G3:=M.cell;have F3:=M.frozen;go_wp2;refine cT ?_;intro Wf D;have a9:bK Wf (w.heap.size+1+1) 34 #[aK,aK,(),aK,(),aK,(),aK,aK,()]:=by exact aj8
  have hg:wl.grownBy Wf (some (w.heap.size+1+1)):=by exact rY
  have Bf:Below w w Wf:=B.grown hg B.size kF;have Gf:=a9.cell;clear D G3 F3;obtain⟨F,R,I,b0,hM,Z,hS,Y⟩:=H.out;exact bW (v:=aS #[aM #[aK,aK,(),aK,(),aK,(),aK,aK,()],aG false]) (by simp[results,results165,go_sem,Gf]) rfl
   ⟨none,0,0,none,0,0,none,0,0,none,0,0,by rw[F,R,b0,Z,hS,HB.out],by rw[I];exact cY.nil _ _ _,by rw[hM];exact cY.nil _ _ _,cY.nil _ _ _,by rw[Y];exact cY.nil _ _ _,
    ⟨cB.nil _ _ _,cB.nil _ _ _,cB.nil _ _ _,cB.nil _ _ _,cB.nil _ _ _,cB.nil _ _ _⟩,Bf⟩
 |true=>
  have G1:=O.cell;have G2:=K2.cell;go_wp2_with fail;clear G1 G2;refine aV (FL w1 n _ l (hv.below B aU) hl m _ k (hu.below B aU) hk) ?_;intro wl b2;have O:=O.keep b2;have K2:=K2.keep b2;have M:=M.keep b2;have B:=B.after b2 B.size;have z3:=M.lt;have F:FE n l m k=4:=by unfold FE;rw[z];rfl
  have R:FA n l m k=n:=by unfold FA;rw[z];rfl
  have I:FG n l m k=l:=by unfold FG;rw[z];rfl
  have b0:FB n l m k=m:=by unfold FB;rw[z];rfl
  have hM:FH n l m k=k:=by unfold FH;rw[z];rfl
  have Z:FI n l m k=eO (tK n l m k):=by unfold FI;rw[z];rfl
  have Y:FD n l m k=iP (tK n l m k):=by unfold FD;rw[z];rfl
  have h0:=aiS z;have H:=aT (And.intro F (And.intro R (And.intro I (And.intro b0 (And.intro hM (And.intro Z Y))))));have HB:=aT z;obtain⟨L,g6⟩:=aW (tK n l m k);obtain⟨S,j4⟩:=aW (uU n l m k);simp only[<-g6,<-j4];rw[<-g6]at h0;have j1:=aT g6;have n0:=aT j4;have j8:=hv.below B aU;have q4:=hu.below B aU;have k2:Ints wl.drew (aD a l c) l:=j8.keep (bJ _ _).drew;have q8:Ints wl.drew (aD b k d) k:=q4.keep (bJ _ _).drew;have k9:=aT (wY wl.drew n (aD a l c) l k2 hl);have m6:=aT (fun(W:World) (h:Below wl.drew.heap.size wl.drew W)=>wY W m (aD b k d) k (q8.keep h) hk);have n1:=aT (fun W=>tT L W h0.1 aA);have m9:=aT (fun W=>I7 L W h0.1 h0.2);have n3:bK wl.drew (w.heap.size+1) 27 #[m,aD b k d]:=K2;have h7:bK wl.drew (w.heap.size+1+1) 34 #[aK,aK,(),aK,(),aK,(),aK,aK,()]:=M;have Bd:Below w w wl.drew:=B.drew;have zd:w.heap.size+1+1<wl.drew.heap.size:=h7.lt;clear F R I b0 hM Z Y z g6 j4;have G1:=O.cell;have G2:=K2.cell;go_wp2_with fail;go_region_law
   (first
    |(go_simp;go_at_call 25;with_reducible refine k9.out.mono ?_;rintro e w5 ⟨p5,i5,q5,rfl,o5,b5⟩;have n2:=n3.keep b5;have f8:=h7.keep b5;have s8:=n2.cell)
    |(go_simp;go_at_call 25;with_reducible refine(m6.out w5 b5).mono ?_;rintro e w6 ⟨p6,i6,q6,rfl,o6,b6⟩;have j3:=f8.keep b6)
    |(go_simp;go_at_call 84;refine aV (n1.out _) ?_;rintro u4 rfl)
    |(go_simp;go_at_call 79;refine(m9.out _).mono ?_;rintro e w7 ⟨p7,i7,q7,rfl,o7,b7⟩;have k1:=j3.keep b7;have t1:=k1.cell;have s7:=k1.frozen))
  all_goals
   have B5:=Bd.after b5 Bd.size;have B6:=B5.after b6 B5.size;have B7:=B6.after b7 B6.size;have y5:=b5.size;have y6:=b6.size;have y7:=b7.size;have x5:=o5.toW.mono (B':=w.heap.size+1+1+1) aA;have x6:=o6.toW.mono (B':=w.heap.size+1+1+1) aA;have x7:=o7.toW.mono (B':=w.heap.size+1+1+1) aA;have l0:cB (aD p5 i5 q5) (aD p6 i6 q6):=cB.of_lt o5.toW o6.toW aU;have l1:cB (aD p5 i5 q5) (aD p7 i7 q7):=cB.of_lt o5.toW o7.toW y6;have l2:cB (aD p6 i6 q6) (aD p7 i7 q7):=cB.of_lt o6.toW o7.toW aU;have x5:=(x5.keep b6).keep b7;have x6:=x6.keep b7;go_wp2;refine cT ?_;intro Wf D;have a9:bK Wf (w.heap.size+1+1) 34 #[aO 4,n,aD p5 i5 q5,m,aD p6 i6 q6,aK,(),(eO L),S,aD p7 i7 q7]:=by exact aj2
   have hg:w7.grownBy Wf (some (w.heap.size+1+1)):=by exact rY
   have Bf:Below w w Wf:=B7.grown hg B7.size kF;have f5:=(x5.grow hg (fun q hq K=>by have:=cI hq;have:=(x5.lt q K).1;omega)).mono (B':=w.heap.size) aA;have f6:=(x6.grow hg (fun q hq K=>by have:=cI hq;have:=(x6.lt q K).1;omega)).mono (B':=w.heap.size) aA;have f7:=(x7.grow hg (fun q hq K=>by have:=cI hq;have:=(x7.lt q K).1;omega)).mono (B':=w.heap.size) aA;have Gf:=a9.cell;clear D;obtain⟨F,R,I,b0,hM,Z,Y⟩:=H.out;exact bW (v:=aS #[aM #[aO 4,n,aD p5 i5 q5,m,aD p6 i6 q6,aK,(),(eO L),S,aD p7 i7 q7],aG true]) (by simp[results,results165,go_sem,Gf]) rfl
    ⟨p5,i5,q5,p6,i6,q6,none,0,0,p7,i7,q7,by rw[F,R,b0,Z,<-j1.out,<-n0.out,HB.out],by rw[I];exact f5,by rw[hM];exact f6,cY.nil _ _ _,by rw[Y,<-j1.out];exact f7,
     ⟨l0,(cB.nil _ _ _).symm,l1,(cB.nil _ _ _).symm,l2,cB.nil _ _ _⟩,Bf⟩
theorem ahV:∀(n:Nat) (sets l:aI) (sv lv:Value) (K:Int) (w:World) (B:Nat),sets.length=n->Ints w sv sets->bB 3 B w lv l->B<=w.heap.size->(∀x∈sets,0<=x/\x<64)->(∀x∈l,0<=x/\x<64)->l.length+sets.length<=100->fM K ->
  Calls prog 322 #[sv,lv,K] w fun e w'=>∃ad i cp,e=aQ (aS #[aD ad i cp,aG (gZ nV sets l K).isSome])/\bB 3 B w' (aD ad i cp) ((gZ nV sets l K).getD [])/\Below w w w':=by
 intro n
 induction n using Nat.strongRecOn with
 |_ n ih=>
  intro sets l sv lv K w B hn hv mF hB d0 c9 g8 hK;have f4:=hv;obtain⟨a,b,j2,c,rfl,f3,f0,hc,hb⟩:=hv.vw;obtain⟨al,cl,rfl⟩:=mF.shape;have HN:=aT hn;clear hn;by_cases hk:(l.length:Int)=K
  .have ht:((l.length:Int)==K)=true:=by simpa using hk
   have hr:=vX nV sets l K hk;have HR:=aT hr;clear hr hk;go_enter func322,ntmps322;go_wp2;go_ret2;exact⟨al,l.length,cl,by rw[HR.out];rfl,by rw[HR.out];exact mF,bJ _ _⟩
  .have ht:((l.length:Int)==K)=false:=by simpa using hk
   have HK:=aT hk;have IH:=aT ih;have b6:=aT d0;have b5:=aT c9;clear hk ih d0 c9;go_enter func322,ntmps322;go_wp2_with fail;go_loopw [19] (fun i wr=>∃k:Nat,k<=sets/\i=aO k/\gZ nV (sets.drop k) l K=gZ nV sets l K/\Below w w wr) (fun i _=>sets.length-(intOf i).toNat)
   .exact⟨0,aZ _,rfl,rfl,bJ _ _⟩
   obtain⟨k,hk,rfl,N,Bw⟩:=hrel;have H:=aT N;clear N;have o:=mF.keep Bw;by_cases hlt:k<sets
   .have c5:=bY hc hb Bw aU k hlt;have a9:=b6.out _ (aX hlt);have I:sets.drop k=sets[k]::sets.drop (k+1):=List.drop_eq_getElem_cons hlt;have z:=CG nV sets[k] (sets.drop (k+1)) l K HK.out;rw[<-I,H.out]at z;obtain⟨x,hx⟩:=aW (sets[k]);rw[<-hx]at c5 a9 z;have hT:=LE l _ x wr o.ints b5.out a9;have HX:=aT hx;have g7:=fun W=>f0 W k hlt;have HT:=aT hT;clear I hx hT
    cases F:nV l x with
    |false=>
     rw[F]at z;have HF:=aT z;have HI:=aT F;clear z F;go_wp2_with (go_at_call 361;refine aV HT.out ?_;intro w1 Y;rw[HI.out]);go_roundw
     .exact⟨k+1,aA,cD,by rw[HF.out];rfl,Bw.after Y Bw.size⟩
     exact aY
    |true=>
     rw[F]at z;have HI:=aT F;have e5:=aT z;clear F z;go_wp2_with (go_at_call 361;refine aV HT.out ?_;intro w1 Y;rw[HI.out]);have z:=e5.out;have Z:=o.keep Y;have D:=Bw.after Y Bw.size;obtain⟨a',c',d1,d2⟩:=f4.from 25 3 underlying25 intElem (k+1) hlt
     have f2:((k+1:Nat):Int)=(k:Int)+1:=aA;simp only[f2,List.length_drop]at d1;have c6:(sets.drop (k+1)).length<n:=by have:=HN.out;rw[List.length_drop];omega
     have c8:l.length + [x].length<=17592186044416:=bO;have c7:l.length<=1048576:=aA;have e0:fM x:=⟨aA,aA⟩;have J:∀y∈l++[x],0<=y/\y<64:=by
      intro y hy;rcases dM.1 hy with hy|hy
      .exact b5.out y hy
      .rw[eM]at hy;rw[hy];exact a9
     have M:∀(v2:Value) (O:World),bB 3 w1 O v2 (l++[x])->Below w1 w1 O->Calls prog 322 #[.slice a' (sets.drop (k+1)).length c',v2,K] O fun e w'=>
       ∃ad i cp,e=aQ (aS #[aD ad i cp,aG (gZ nV (sets.drop (k+1)) (l++[x]) K).isSome])/\bB 3 w1 w' (aD ad i cp) ((gZ nV (sets.drop (k+1)) (l++[x]) K).getD [])/\Below O O w':=fun v2 O h1 h2=>
      IH.out _ c6 (sets.drop (k+1)) (l++[x]) _ v2 K O w1.heap.size rfl (d2.below (D.after h2 D.size) aU) h1 h2.size (fun y hy=>b6.out y (List.mem_of_mem_drop hy)) J (by rw[bN,List.length_singleton,List.length_drop];omega) hK
     obtain⟨R,hR⟩:=aW (gZ nV (sets.drop (k+1)) (l++[x]) K);rw[<-hR]at z;simp only[<-hR,List.length_drop]at M;have a1:=aT M;have HL:=aT c7;have b4:=aT c8;have b8:=aT e0;have g9:(k:Int)+1<=(sets.length:Int):=aA;have yB:=D.size;have j1:IntKind.i64.wrap ((k:Int)+1)=(k:Int)+1:=dV;clear M c7 c8 e0 hR J d2 c6 c5
     cases R with
     |some y=>
      have HF:=aT z;clear z;go_region_held3 (fun _=>True) (trivial)
       (first
        |(go_at_call 287;refine(nI _ l _ ?_ HL.out).mono ?_;(first|(with_reducible exact Z.ints.drew')|(with_reducible exact(Z.ints.alloc _).drew'));rintro e1 wc ⟨p1,i1,q1,rfl,oc,bc⟩;first|(have cx:=keep bc (D1 w1 3 (aO x));have S:=(cQ w1 (.cells #[x] 3)).drew.after bc (cQ w1 (.cells #[x] 3)).drew.size;have ob:=oc.mono (cQ w1 (.cells #[x] 3)).drew.size)|(have S:=(bJ w1.heap.size w1).drew.after bc aU;have ob:=oc.mono (Nat.le_refl w1.heap.size)))
        |(refine jT rfl _ _ _ rfl 3 underlying25 intElem w1.heap.size (aD p1 i1 q1) l rfl (aD (some ⟨_,0,none⟩) 1 1) [x] rfl ?_ ?_ b4.out w1 ?_ aU ?_;(first|(with_reducible exact ob)|(with_reducible exact ob.alloc _));(refine Ints.one ?_ b8.out;first|(with_reducible exact cR _ _ _ _ _ rfl)|(with_reducible exact cx));(first|(with_reducible exact S)|(with_reducible exact S.alloc S.size _));(intro v2 O o2 b2 _))
        |(go_at_call 322;with_reducible refine(a1.out v2 O o2 b2).mono ?_;rintro e3 w3 ⟨p3,i3,q3,rfl,o3,b3⟩)
       )
      all_goals
       go_wp2;go_ret2;exact⟨p3,i3,q3,by rw[HF.out];rfl,by rw[HF.out];exact o3.mono aA,(D.after b2 D.size).after b3 (D.after b2 D.size).size⟩
     |none=>
      have HF:=aT z;clear z;go_region_held3 (fun _=>True) (trivial)
       (first
        |(go_at_call 287;refine(nI _ l _ ?_ HL.out).mono ?_;(first|(with_reducible exact Z.ints.drew')|(with_reducible exact(Z.ints.alloc _).drew'));rintro e1 wc ⟨p1,i1,q1,rfl,oc,bc⟩;first|(have cx:=keep bc (D1 w1 3 (aO x));have S:=(cQ w1 (.cells #[x] 3)).drew.after bc (cQ w1 (.cells #[x] 3)).drew.size;have ob:=oc.mono (cQ w1 (.cells #[x] 3)).drew.size)|(have S:=(bJ w1.heap.size w1).drew.after bc aU;have ob:=oc.mono (Nat.le_refl w1.heap.size)))
        |(refine jT rfl _ _ _ rfl 3 underlying25 intElem w1.heap.size (aD p1 i1 q1) l rfl (aD (some ⟨_,0,none⟩) 1 1) [x] rfl ?_ ?_ b4.out w1 ?_ aU ?_;(first|(with_reducible exact ob)|(with_reducible exact ob.alloc _));(refine Ints.one ?_ b8.out;first|(with_reducible exact cR _ _ _ _ _ rfl)|(with_reducible exact cx));(first|(with_reducible exact S)|(with_reducible exact S.alloc S.size _));(intro v2 O o2 b2 _))
        |(go_at_call 322;with_reducible refine(a1.out v2 O o2 b2).mono ?_;rintro e3 w3 ⟨p3,i3,q3,rfl,o3,b3⟩)
       )
      all_goals
       go_wp2;go_roundw
       .exact⟨k+1,aA,cD,by rw[HF.out];rfl,(D.after b2 D.size).after b3 (D.after b2 D.size).size⟩
       exact aY
   .have hr:gZ nV sets l K=none:=by rw[<-H.out,List.drop_eq_nil_of_le aA];exact D8 _ _ _ HK.out
    have HR:=aT hr;clear hr;go_wp2;go_ret2;exact⟨none,0,0,by rw[HR.out];rfl,by rw[HR.out];exact bB.nil _ _ _,Bw⟩
def xV(l:List Int)(s:Int):Bool:=vQ (l++[s])
theorem ahW(sets:aI)(sv:Value)(K:Int)(c8:∀x∈sets,0<=x/\x<64)(_:fM K):∀(n f:Nat) (l:aI) (lv:Value) (w:World) (B:Nat),f+n=sets.length->Ints w sv sets->bB 3 B w lv l->B<=w.heap.size->(∀x∈l,0<=x/\x<64)->l.length+sets.length<=100+f ->
  Calls prog 116 #[sv,f,lv,K] w fun e w'=>∃ad i cp,e=aQ (aS #[aD ad i cp,aG (gZ xV (sets.drop f) l K).isSome])/\bB 3 B w' (aD ad i cp) ((gZ xV (sets.drop f) l K).getD [])/\Below w w w':=by
 have e7:=aT c8;clear c8;intro n
 induction n using Nat.strongRecOn with
 |_ n ih=>
  intro f l lv w B hn hv mF hB c6 g4;have f6:=hv;obtain⟨a,b,f8,c,rfl,f5,f4,hc,hb⟩:=hv.vw;obtain⟨al,cl,rfl⟩:=mF.shape;have hf:f<=sets:=aA;have HN:=aT hn;clear hn;by_cases hk:(l.length:Int)=K
  .have ht:((l.length:Int)==K)=true:=by simpa using hk
   have hr:=vX xV (sets.drop f) l K hk;have HR:=aT hr;clear hr hk;go_enter func116,ntmps116;go_wp2;go_ret2;exact⟨al,l.length,cl,by rw[HR.out];rfl,by rw[HR.out];exact mF,bJ _ _⟩
  .have ht:((l.length:Int)==K)=false:=by simpa using hk
   have HK:=aT hk;have IH:=aT ih;have e6:=aT c6;clear hk ih c6;go_enter func116,ntmps116;go_wp2_with fail;go_loopw [10] (fun i wr=>∃k:Nat,f<=k/\k<=sets/\i=aO k/\gZ xV (sets.drop k) l K=gZ xV (sets.drop f) l K/\Below w w wr) (fun i _=>sets.length-(intOf i).toNat)
   .exact⟨f,aU,hf,rfl,rfl,bJ _ _⟩
   obtain⟨k,j2,hk,rfl,S,Y⟩:=hrel;have H:=aT S;clear S;have o:=mF.keep Y;by_cases hlt:k<sets
   .have a7:=bY hc hb Y aU k hlt
    have i1:b<wr.heap.size:=World.block_lt_of_cell? _ _ a7;have c5:=e7.out _ (aX hlt);have M:sets.drop k=sets[k]::sets.drop (k+1):=List.drop_eq_getElem_cons hlt;have z:=CG xV sets[k] (sets.drop (k+1)) l K HK.out;rw[<-M,H.out]at z;obtain⟨x,hx⟩:=aW (sets[k]);rw[<-hx]at a7 c5 z;have g2:=fun W=>f4 W k hlt;have N:∀y∈l++[x],0<=y/\y<64:=by
     intro y hy;rcases dM.1 hy with hy|hy
     .exact e6.out y hy
     .rw[eM]at hy;rw[hy];exact c5
    have b8:([]:aI).length+l.length<=17592186044416:=bO;have b9:([]++l).length + [x].length<=17592186044416:=bO;have c9:fM x:=⟨aA,aA⟩;have b3:=aT b8;have b5:=aT b9;have e9:=aT c9;have b6:=aT N;have a6:=aT z;clear M hx b8 b9 c9 N z;go_wp2_with fail;go_cut [11] from 20 to 48 (fun v wc=>∃ad i cp,v=aD ad i cp/\bB 3 wr wc (aD ad i cp) (l++[x])/\Below wr wr wc)
    case first=>
     go_region_held3 (fun w'=>w'.cell? ⟨b,f8+k,none⟩=some (aO x)) (go_keep)
      (first
       |(refine jT rfl _ _ _ rfl 3 underlying25 intElem wr.heap.size (aD (some ⟨_,0,none⟩) 0 0) [] rfl (aD al l cl) l rfl ?_ ?_ b3.out wr ?_ aU ?_;(first|(with_reducible exact(bB.lit0 wr aU).drew')|(with_reducible exact((bB.lit0 wr aU).alloc _).drew')|(with_reducible exact(bB.lit0' wr _).drew'));(first|(with_reducible exact(o.ints.alloc _).drew')|(with_reducible exact((o.ints.alloc _).alloc _).drew'));(first|(with_reducible exact(cQ wr _).drew)|(with_reducible exact(wU wr _ _).drew));(intro v1 w1 o1 b1 pc;obtain⟨i6,j0⟩:=jN b1 wr.heap.size aU))
       |(refine jT rfl _ _ _ rfl 3 underlying25 intElem wr.heap.size v1 ([]++l) rfl (aD (some ⟨_,0,none⟩) 1 1) [x] rfl ?_ ?_ b5.out wr ?_ aU ?_;(first|(with_reducible exact o1)|(with_reducible exact o1.alloc _));(refine Ints.one ?_ e9.out;first|(with_reducible exact cR _ _ _ _ _ rfl)|(with_reducible exact pc _ _ (uM _ _ _ _) (zW _ _ _))|(with_reducible exact pc _ _ (vT _ _ _ _) (zX _ _ _)));(first|(with_reducible exact b1)|(with_reducible exact b1.alloc b1.size _));(intro v2 w2 o2 b2 _;obtain⟨i7,j1⟩:=jN b2 wr.heap.size aU))
      )
     all_goals
      go_wp2;go_meet
      case rel=>obtain⟨a2,n2,c2,rfl⟩:=o2.shape3;exact⟨a2,n2,c2,rfl,o2,b2⟩
    case rest=>
     obtain⟨a2,n2,c2,rfl,o2,b2⟩:=hcut;have F:=Y.after b2 Y.size;have hT:=QS (l++[x]) _ wc o2.ints b6.out;rw[show vQ (l++[x])=xV l x from rfl]at hT;have HT:=aT hT;have z:=a6.out;clear hT a7
     cases I:xV l x with
     |false=>
      rw[I]at z;have HF:=aT z;have HI:=aT I;clear z I a6;go_wp2_with (go_at_call 158;refine aV HT.out ?_;intro J D;rw[HI.out]);go_roundw
      .exact⟨k+1,aA,aA,cD,by rw[HF.out];rfl,F.after D F.size⟩
      exact aY
     |true=>
      rw[I]at z;have c7:sets.length-(k+1)<n:=by have:=HN.out;omega
      have O:∀(J:World),bB 3 wr J (aD a2 n2 c2) (l++[x])->Below wc wc J->Calls prog 116 #[aD a sets c,aO ((k:Int)+1),aD a2 n2 c2,K] J fun e w'=>
        ∃ad i cp,e=aQ (aS #[aD ad i cp,aG (gZ xV (sets.drop (k+1)) (l++[x]) K).isSome])/\bB 3 wr w' (aD ad i cp) ((gZ xV (sets.drop (k+1)) (l++[x]) K).getD [])/\Below J J w':=fun J h1 h2=>
       IH.out _ c7 (k+1) (l++[x]) _ J wr.heap.size aA (f6.below (F.after h2 F.size) aU) h1 (dC b2.size h2.size) b6.out (by rw[bN,List.length_singleton];omega)
      obtain⟨R,hR⟩:=aW (gZ xV (sets.drop (k+1)) (l++[x]) K);rw[<-hR]at z;simp only[<-hR]at O;have Z:=aT O;have HI:=aT I;have yB:=F.size;have j4:=Y.size;clear O hR c7 a6 I
      cases R with
      |some y=>
       have HF:=aT z;clear z;go_wp2_with (first
        |(go_at_call 158;refine aV HT.out ?_;intro J D;rw[HI.out])
        |(go_at_call 116;with_reducible refine(Z.out J (o2.keep D) D).mono ?_;rintro e4 w4 ⟨p4,i4,q4,rfl,o4,b4⟩))
       go_ret2;exact⟨p4,i4,q4,by rw[HF.out];rfl,by rw[HF.out];exact o4.mono aA,(F.after D F.size).after b4 (F.after D F.size).size⟩
      |none=>
       have HF:=aT z;clear z;go_wp2_with (first
        |(go_at_call 158;refine aV HT.out ?_;intro J D;rw[HI.out])
        |(go_at_call 116;with_reducible refine(Z.out J (o2.keep D) D).mono ?_;rintro e4 w4 ⟨p4,i4,q4,rfl,o4,b4⟩))
       go_roundw
       .exact⟨k+1,aA,aA,cD,by rw[HF.out];rfl,(F.after D F.size).after b4 (F.after D F.size).size⟩
       exact aY
   .have hr:gZ xV (sets.drop f) l K=none:=by rw[<-H.out,List.drop_eq_nil_of_le aA];exact D8 _ _ _ HK.out
    have HR:=aT hr;clear hr;go_wp2;go_ret2;exact⟨_,0,0,by rw[HR.out];rfl,by rw[HR.out];exact(bB.lit0 wr aU).mono (dC hB Y.size),Y.alloc Y.size _⟩
theorem QA(g:Int)(v:Value)(l:aI)(hv:Ints w v l)(_:l.length<=1048576)(k:Int)(hk:fM k):
  Calls prog 240 #[aM #[g,v],k] w fun e w'=>∃ad i N,e=aQ (aS #[aD ad i N,aG (kG g l k)])/\cY 3 w.heap.size w' (aD ad i N) (kK g l k)/\Below w w w':=by
 obtain⟨a,c,rfl⟩:=hv.shape;have K:=hv;have K0:=bK.new w 29 #[g,aD a l c];have G0:=K0.cell
 cases J:cO g l with
 |false=>
  have z:sQ g l k=false:=by unfold sQ;rw[J];rfl
  have S:=aT J;have hr:vP g l k=none:=by unfold vP;rw[z];rfl
  have hB:kG g l k=false:=by unfold kG;rw[hr];rfl
  have M:kK g l k=[]:=by unfold kK;rw[hr];rfl
  have Y:=aT hB;have HL:=aT M;clear hr hB M z J;go_enter func240,ntmps240;go_wp2_with (go_at_call 146;refine aV (eP g l _ _ (K.alloc _)) ?_;intro w1 D;rw[S.out]);go_ret2;exact⟨none,0,0,by rw[Y.out];rfl,by rw[HL.out];exact cY.nil _ _ _,(cQ _ _).after D bF⟩
 |true=>
  have S:=aT J
  cases F:fN k 1 5 with
  |false=>
   have z:sQ g l k=false:=by unfold sQ;rw[F];simp
   have HI:=aT F;have hr:vP g l k=none:=by unfold vP;rw[z];rfl
   have hB:kG g l k=false:=by unfold kG;rw[hr];rfl
   have M:kK g l k=[]:=by unfold kK;rw[hr];rfl
   have Y:=aT hB;have HL:=aT M;clear hr hB M z J F;go_enter func240,ntmps240;go_wp2_with (first
    |(go_at_call 146;refine aV (eP g l _ _ (K.alloc _)) ?_;intro w1 D;rw[S.out])
    |(go_at_call 144;refine aV (kD _ _ _ _) ?_;rintro w2 rfl;rw[HI.out]))
   go_ret2;exact⟨none,0,0,by rw[Y.out];rfl,by rw[HL.out];exact cY.nil _ _ _,(cQ _ _).after D bF⟩
  |true=>
   have HI:=aT F;have z:sQ g l k=true:=by unfold sQ;rw[J,F];rfl
   have hr:vP g l k=gZ nV l [] k:=by unfold vP;rw[z];rfl
   have hB:kG g l k=(gZ nV l [] k).isSome:=by unfold kG;rw[hr]
   have M:kK g l k=(gZ nV l [] k).getD []:=by unfold kK;rw[hr]
   obtain⟨h0,h6,hm⟩:=sZ J;have b0:l.length<=64:=by obtain⟨q0,q6,qm,qa⟩:=fF J;have hp:=nY q0 q6;exact OL l 64 qa (fun x hx=>by have:=qm x hx;omega)
   have O:∀x∈l,0<=x/\x<64:=fun x hx=>by obtain⟨i,hi,rfl⟩:=List.getElem_of_mem hx;exact hm i hi
   have I:∀W,Ints W (aD a l c) l->Calls prog 322 #[aD a l c,(),k] W fun e w'=>
     ∃ad i N,e=aQ (aS #[aD ad i N,aG (kG g l k)])/\bB 3 W w' (aD ad i N) (kK g l k)/\Below W W w':=fun W hW=>by
    rw[hB,M];exact ahV l.length l [] _ _ k W W.heap.size rfl hW (bB.nil _ _ _) aU O bF bO hk
   have Z:=aT I;clear hr hB M z J F I hm O h0 h6 G0;go_enter func240,ntmps240;go_wp2_with fail;refine aV (eP g l _ _ (K.alloc _)) ?_;intro w1 D;rw[S.out];have K1:=K0.keep D;have G1:=K1.cell;have z1:=K1.lt;have R:Below w w w1:=(cQ _ _).after D bF;have y1:=R.size;go_wp2_with (first
    |(go_at_call 144;refine aV (kD _ _ _ _) ?_;rintro w2 rfl;rw[HI.out])
    |(go_at_call 322;refine(Z.out _ (K.below R aU)).mono ?_;rintro e w3 ⟨p3,i3,q3,rfl,o3,b3⟩))
   go_ret2;exact⟨p3,i3,q3,rfl,o3.toW.mono aA,R.after b3 R.size⟩
theorem QB(g:Int)(v:Value)(l:aI)(hv:Ints w v l)(_:l.length<=1048576)(k:Int)(hk:fM k):
  Calls prog 73 #[aM #[g,v],k] w fun e w'=>∃ad i O,e=aQ (aS #[aD ad i O,aG (kG g l k)])/\cY 3 w.heap.size w' (aD ad i O) (kK g l k)/\Below w w w':=by
 obtain⟨a,c,rfl⟩:=hv.shape;have M:=hv;have K0:=bK.new w 29 #[g,aD a l c];have G0:=K0.cell
 cases K:cO g l with
 |false=>
  have z:sQ g l k=false:=by unfold sQ;rw[K];rfl
  have Y:=aT K;have hr:vP g l k=none:=by unfold vP;rw[z];rfl
  have hB:kG g l k=false:=by unfold kG;rw[hr];rfl
  have N:kK g l k=[]:=by unfold kK;rw[hr];rfl
  have Z:=aT hB;have HL:=aT N;clear hr hB N z K;go_enter func73,ntmps73;go_wp2_with (go_at_call 21;refine aV (eA g l _ _ (M.alloc _)) ?_;intro w1 D;rw[Y.out]);go_ret2;have I:Below w w w1:=(cQ _ _).after D bF;exact⟨_,0,0,by rw[Z.out];rfl,by rw[HL.out];exact(bB.lit0 w1 I.size).toW,I.alloc I.size _⟩
 |true=>
  have Y:=aT K
  cases F:fN k 1 5 with
  |false=>
   have z:sQ g l k=false:=by unfold sQ;rw[F];simp
   have HI:=aT F;have hr:vP g l k=none:=by unfold vP;rw[z];rfl
   have hB:kG g l k=false:=by unfold kG;rw[hr];rfl
   have N:kK g l k=[]:=by unfold kK;rw[hr];rfl
   have Z:=aT hB;have HL:=aT N;clear hr hB N z K F;go_enter func73,ntmps73;go_wp2_with (first
    |(go_at_call 21;refine aV (eA g l _ _ (M.alloc _)) ?_;intro w1 D;rw[Y.out])
    |(go_at_call 77;refine aV (eH _ _ _ _) ?_;rintro w2 rfl;rw[HI.out]))
   go_ret2;have I:Below w w w1:=(cQ _ _).after D bF;exact⟨_,0,0,by rw[Z.out];rfl,by rw[HL.out];exact(bB.lit0 w1 I.size).toW,I.alloc I.size _⟩
  |true=>
   have HI:=aT F;have z:sQ g l k=true:=by unfold sQ;rw[K,F];rfl
   have hr:vP g l k=gZ xV l [] k:=amE g l k z;have hB:kG g l k=(gZ xV l [] k).isSome:=by unfold kG;rw[hr]
   have N:kK g l k=(gZ xV l [] k).getD []:=by unfold kK;rw[hr]
   obtain⟨h0,h6,hm⟩:=sZ K;have b4:l.length<=64:=by obtain⟨q0,q6,qm,qa⟩:=fF K;have hp:=nY q0 q6;exact OL l 64 qa (fun x hx=>by have:=qm x hx;omega)
   have R:∀x∈l,0<=x/\x<64:=fun x hx=>by obtain⟨i,hi,rfl⟩:=List.getElem_of_mem hx;exact hm i hi
   have J:∀W u,Ints W (aD a l c) l->bB 3 w W u []->w.heap.size<=W.heap.size->Calls prog 116 #[aD a l c,aK,u,k] W fun e w'=>
     ∃ad i O,e=aQ (aS #[aD ad i O,aG (kG g l k)])/\bB 3 w w' (aD ad i O) (kK g l k)/\Below W W w':=fun W u hW hu a8=>by
    rw[hB,N];have:=ahW l (aD a l c) k R hk l.length 0 [] u W w.heap.size aA hW hu a8 bF bO;simpa using this
   have a1:=aT J;clear hr hB N z K F J hm R h0 h6 G0;go_enter func73,ntmps73;go_wp2_with fail;refine aV (eA g l _ _ (M.alloc _)) ?_;intro w1 D;rw[Y.out];have K1:=K0.keep D;have G1:=K1.cell;have z1:=K1.lt;have I:Below w w w1:=(cQ _ _).after D bF;have y1:=I.size;have S:=I.alloc I.size (.cells #[] 3);go_wp2_with (first
    |(go_at_call 77;refine aV (eH _ _ _ _) ?_;rintro w2 rfl;rw[HI.out])
    |(go_at_call 116;refine(a1.out _ _ (M.below S aU) (bB.lit0 w1 y1) S.size).mono ?_;rintro e w3 ⟨p3,i3,q3,rfl,o3,b3⟩))
   go_ret2;exact⟨p3,i3,q3,rfl,o3.toW,S.after b3 S.size⟩
