/- Lemmas for CardRunConsole. No condition. -/
import Derived.Test.YtkdbkjjacgigiaaGreatDoorR12
import Derived.Test.YtkdbkjjacgigiaaGreatDoorR13
set_option maxRecDepth 100000
set_option maxHeartbeats 64000000
namespace Go.Proofs.YtkdbkjjacgigiaaGreatDoor
section
open Go.RowKit Go.G5 Go.Proofs.Tryz
variable(w:World)(n:Int)(v:Value)(l:aI)
def AS(n:Int)(l:List Int):Int:=if gP n l then (if mS n l then 2 else 1) else 0
def AQ(n:Int)(l:List Int):Int:=if gP n l then n else 0
def AT(n:Int)(l:List Int):List Int:=if gP n l then l else []
def AU(n:Int)(l:List Int):Int:=if gP n l then (if mS n l then 0 else gR l) else 0
def AV(n:Int)(l:List Int):Int:=if gP n l then (if mS n l then 0 else vK n l) else 0
def AR(n:Int)(l:List Int):List Int:=if gP n l then (if mS n l then pE n l else sG n l) else []
theorem aj4{p:Prop}(h:p:=by
  rw[D];have:=((((((((((f8.set 0 (aO 2)).set 1 (aO n)).set 2 (aD p5 i5 q5)).set 3 (aO 0)).set 4 (aD none 0 0)).set 5 (aO 0)).set 6 (aD none 0 0)).set 7 (aO 0)).set 8 (aO 0)).set 9 (aD p0 i0 J));simpa using this):p:=h
theorem aj5{p:Prop}(h:p:=by
  rw[D];have:=((((((((((M.set 0 (aO 0)).set 1 (aO 0)).set 2 (aD none 0 0)).set 3 (aO 0)).set 4 (aD none 0 0)).set 5 (aO 0)).set 6 (aD none 0 0)).set 7 (aO 0)).set 8 (aO 0)).set 9 (aD none 0 0));simpa using this):p:=h
theorem abT(hv:Ints w v l)(hl:l.length<=1048576):
  Calls prog 138 #[aM #[n,v]] w fun e w'=>∃p0 i0 J p1 i1 q1 p2 i2 q2 p3 i3 q3,e=aQ (aS #[aM #[(AS n l),(AQ n l),aD p0 i0 J,aK,aD p1 i1 q1,aK,aD p2 i2 q2,(AU n l),(AV n l),aD p3 i3 q3],aG (gP n l)])/\cY 3 w.heap.size w' (aD p0 i0 J) (AT n l)/\cY 3 w.heap.size w' (aD p1 i1 q1) []/\cY 3 w.heap.size w' (aD p2 i2 q2) []/\cY 3 w.heap.size w' (aD p3 i3 q3) (AR n l)/\(cB (aD p0 i0 J) (aD p1 i1 q1)/\cB (aD p0 i0 J) (aD p2 i2 q2)/\cB (aD p0 i0 J) (aD p3 i3 q3)/\cB (aD p1 i1 q1) (aD p2 i2 q2)/\cB (aD p1 i1 q1) (aD p3 i3 q3)/\cB (aD p2 i2 q2) (aD p3 i3 q3))/\Below w w w':=by
 obtain⟨a,c,rfl⟩:=hv.shape;go_enter func138,ntmps138;go_wp2_with fail;refine cZ ?_;intro V hV;have B:Below w w V:=iJ hV;have O:bK V w 27 #[n,aD a l c]:=iQ hV;have M:bK V (w+1) 34 #[aK,aK,(),aK,(),aK,(),aK,aK,()]:=jL hV;clear hV;refine aV (A8 n l _ V (hv.below B aU)) ?_;intro w1 b1;have O:=O.keep b1;have M:=M.keep b1;have B:=B.after b1 B.size;have z3:w.heap.size+1<w1.heap.size:=M.lt
 cases z:gP n l with
 |false=>
  have F:AS n l=0:=by unfold AS;rw[z];rfl
  have R:AQ n l=0:=by unfold AQ;rw[z];rfl
  have I:AT n l=[]:=by unfold AT;rw[z];rfl
  have Z:AU n l=0:=by unfold AU;rw[z];rfl
  have hS:AV n l=0:=by unfold AV;rw[z];rfl
  have Y:AR n l=[]:=by unfold AR;rw[z];rfl
  have H:=aT (And.intro F (And.intro R (And.intro I (And.intro Z (And.intro hS (And.intro Y z))))));clear F R I Z hS Y z;have G3:=M.cell;have F3:=M.frozen;go_wp2;refine cT ?_;intro Wf D;have a9:bK Wf (w+1) 34 #[aK,aK,(),aK,(),aK,(),aK,aK,()]:=by exact aj5
  have hg:w1.grownBy Wf (some (w.heap.size+1)):=by exact rY
  have Bf:Below w w Wf:=B.grown hg B.size kF;have Gf:=a9.cell;clear D;obtain⟨F,R,I,Z,hS,Y,hB⟩:=H.out;exact bW (v:=aS #[aM #[aK,aK,(),aK,(),aK,(),aK,aK,()],aG false]) (by simp[results,results138,go_sem,Gf]) rfl
   ⟨none,0,0,none,0,0,none,0,0,none,0,0,by rw[F,R,Z,hS,hB],by rw[I];exact cY.nil _ _ _,cY.nil _ _ _,cY.nil _ _ _,by rw[Y];exact cY.nil _ _ _,⟨cB.nil _ _ _,cB.nil _ _ _,cB.nil _ _ _,cB.nil _ _ _,cB.nil _ _ _,cB.nil _ _ _⟩,Bf⟩
 |true=>
 have G1:=O.cell;go_wp2_with fail;clear G1;refine(aeC w1 n _ l (hv.below B aU) hl).mono ?_;rintro e wl ⟨p0,i0,J,rfl,o0,b2⟩;have O:=O.keep b2;have M:=M.keep b2;have B:=B.after b2 B.size;have o0:=o0.mono (B':=w.heap.size+1+1) z3;have z3:w.heap.size+1<wl.heap.size:=M.lt
 cases a6:mS n l with
 |true=>
  have F:AS n l=2:=by unfold AS;rw[z,a6];rfl
  have R:AQ n l=n:=by unfold AQ;rw[z];rfl
  have I:AT n l=l:=by unfold AT;rw[z];rfl
  have Z:AU n l=0:=by unfold AU;rw[z,a6];rfl
  have hS:AV n l=0:=by unfold AV;rw[z,a6];rfl
  have Y:AR n l=pE n l:=by unfold AR;rw[z,a6];rfl
  have H:=aT (And.intro F (And.intro R (And.intro I (And.intro Z (And.intro hS (And.intro Y z))))));clear F R I Z hS Y z a6;have G1:=O.cell;go_wp2_with fail;clear G1;refine(wV wl n _ l (hv.below B aU) hl).mono ?_;rintro e w5 ⟨p5,i5,q5,rfl,o5,b5⟩;have f8:=M.keep b5;have s9:=f8.cell;have s6:=f8.frozen;have B5:=B.after b5 B.size;have x5:=o5.toW.mono (B':=w.heap.size+1+1) aA;have x0:cY 3 (w.heap.size+1+1) w5 (aD p0 i0 J) (pE n l):=o0.keep b5;have f3:cB (aD p5 i5 q5) (aD p0 i0 J):=(cB.of_lt o0 o5.toW aU).symm;go_wp2;refine cT ?_;intro Wf D;have a9:bK Wf (w+1) 34 #[aO 2,n,aD p5 i5 q5,aK,(),aK,(),aK,aK,aD p0 i0 J]:=by exact aj4
  have hg:w5.grownBy Wf (some (w.heap.size+1)):=by exact rY
  have Bf:Below w w Wf:=B5.grown hg B5.size kF;have f5:=(x5.grow hg (fun q hq K=>by have:=cI hq;have:=(x5.lt q K).1;omega)).mono (B':=w.heap.size) aA;have f0:=(x0.grow hg (fun q hq K=>by have:=cI hq;have:=(x0.lt q K).1;omega)).mono (B':=w.heap.size) aA;have Gf:=a9.cell;clear D;obtain⟨F,R,I,Z,hS,Y,hB⟩:=H.out;exact bW (v:=aS #[aM #[aO 2,n,aD p5 i5 q5,aK,(),aK,(),aK,aK,aD p0 i0 J],aG true]) (by simp[results,results138,go_sem,Gf]) rfl
   ⟨p5,i5,q5,none,0,0,none,0,0,p0,i0,J,by rw[F,R,Z,hS,hB],by rw[I];exact f5,cY.nil _ _ _,cY.nil _ _ _,by rw[Y];exact f0,⟨(cB.nil _ _ _).symm,(cB.nil _ _ _).symm,f3,cB.nil _ _ _,cB.nil _ _ _,cB.nil _ _ _⟩,Bf⟩
 |false=>
  have F:AS n l=1:=by unfold AS;rw[z,a6];rfl
  have R:AQ n l=n:=by unfold AQ;rw[z];rfl
  have I:AT n l=l:=by unfold AT;rw[z];rfl
  have Z:AU n l=gR l:=by unfold AU;rw[z,a6];rfl
  have hS:AV n l=vK n l:=by unfold AV;rw[z,a6];rfl
  have Y:AR n l=sG n l:=by unfold AR;rw[z,a6];rfl
  have H:=aT (And.intro F (And.intro R (And.intro I (And.intro Z (And.intro hS (And.intro Y z))))));have r6:zQ n l=gR l:=by unfold zQ;rw[LC z];rfl
  clear F R I Z hS Y z a6;have G1:=O.cell;go_wp2_with fail;clear G1;refine(wV wl n _ l (hv.below B aU) hl).mono ?_;rintro e w5 ⟨p5,i5,q5,rfl,o5,b5⟩;have O:=O.keep b5;have M:=M.keep b5;have B:=B.after b5 B.size;have o5:=o5.mono (B':=w.heap.size+1+1) z3;have z5:w.heap.size+1<w5.heap.size:=M.lt;have u3:=o5;have G1:=(O.alloc (.cells #[aO 1,n,aD p5 i5 q5,aK,(),aK,(),aK,aK,()] 34)).cell;go_wp2_with fail;clear G1;refine cZ ?_;intro V2 o4;obtain⟨gc,p8⟩:=aW w5.heap.size;have KC:bK V2 gc 34 #[aO 1,n,aD p5 i5 q5,aK,(),aK,(),aK,aK,()]:=by rw[o4,p8];exact bK.new _ _ _
  have bv:Below w5 w5 V2:=jP o4;have O:=O.keep bv;have M:=M.keep bv;have B:=B.after bv B.size;have o5:=o5.keep bv;have zc:w.heap.size+1<gc:=aA;have p9:some gc≠(Value.slice p5 i5 q5).ownBlock:=fun h=>by have:=(u3.lt gc h.symm).2;omega
  rw[<-p8];clear o4 p8 z5;refine aV (DK V2 n _ l (hv.below B aU)) ?_;intro w6 b6;have O:=O.keep b6;have M:=M.keep b6;have KC:=KC.keep b6;have B:=B.after b6 B.size;have o5:=o5.keep b6;simp only[r6];clear r6;have G1:=(O.far (p:=⟨gc,7,none⟩) (by show w.heap.size≠gc;omega) (aO (gR l))).cell;have GC:=KC.cell;have FC:=KC.frozen;go_wp2_with fail;clear G1 GC FC;refine cZ ?_;intro V3 o8;have bs:w6.grownBy V3 (some gc):=by rw[o8];exact cX (dO _ _) 7 _
  have O:=O.grow bs bO;have M:=M.grow bs bO;have KC:bK V3 gc 34 #[aO 1,n,aD p5 i5 q5,aK,(),aK,(),(gR l),aK,()]:=by rw[o8];have:=KC.set 7 (aO (gR l));simpa using this
  have B:=B.grown bs B.size kF;have o5:=o5.grow bs (fun k hk h=>p9 (by rw[h];exact hk));clear o8;refine aV (WT V3 n _ l (hv.below B aU) hl) ?_;intro w7 b7;have O:=O.keep b7;have M:=M.keep b7;have KC:=KC.keep b7;have B:=B.after b7 B.size;have o5:=o5.keep b7;have G1:=(O.far (p:=⟨gc,8,none⟩) (by show w.heap.size≠gc;omega) (aO (vK n l))).cell;have GC:=KC.cell;have FC:=KC.frozen;go_wp2_with fail;clear G1 GC FC;refine cZ ?_;intro V4 o9;have bs:w7.grownBy V4 (some gc):=by rw[o9];exact cX (dO _ _) 8 _
  have O:=O.grow bs bO;have M:=M.grow bs bO;have KC:bK V4 gc 34 #[aO 1,n,aD p5 i5 q5,aK,(),aK,(),(gR l),(vK n l),()]:=by rw[o9];have:=KC.set 8 (aO (vK n l));simpa using this
  have B:=B.grown bs B.size kF;have o5:=o5.grow bs (fun k hk h=>p9 (by rw[h];exact hk));clear o9;refine(KQ V4 n _ l (hv.below B aU) hl).mono ?_;rintro e w8 ⟨p0,i0,J,rfl,o0,b8⟩;have x9:gc<V4.heap.size:=KC.lt;have f3:cB (aD p5 i5 q5) (aD p0 i0 J):=cB.of_lt o5.toW o0.toW aU;have M:=M.keep b8;have KC:=KC.keep b8;have B:=B.after b8 B.size;have o5:=o5.keep b8;have r5:some gc≠(Value.slice p0 i0 J).ownBlock:=fun h=>by have:=(o0.lt gc h.symm).1;omega
  have o0:=o0.mono (B':=w.heap.size+1+1) aA;have K9:bK (w8.setCell ⟨gc,9,none⟩ (aD p0 i0 J)) gc 34 #[aO 1,n,aD p5 i5 q5,aK,(),aK,(),(gR l),(vK n l),aD p0 i0 J]:=by have:=KC.set 9 (aD p0 i0 J);simpa using this
  have o1:=M.far (p:=⟨gc,9,none⟩) (by show w.heap.size+1≠gc;omega) (aD p0 i0 J);have b9:w8.grownBy (w8.setCell ⟨gc,9,none⟩ (aD p0 i0 J)) (some gc):=cX (dO _ _) 9 _;have B9:=B.grown b9 B.size kF;have x5:=(o5.grow b9 (fun k hk h=>p9 (by rw[h];exact hk))).toW;have x0:=(o0.grow b9 (fun k hk h=>r5 (by rw[h];exact hk))).toW;have GC:=KC.cell;have FC:=KC.frozen;have G9:=K9.cell;have v9:=o1.cell;have v6:=o1.frozen;go_wp2;refine cT ?_;intro Wf D;have a9:bK Wf (w+1) 34 #[aO 1,n,aD p5 i5 q5,aK,(),aK,(),(gR l),(vK n l),aD p0 i0 J]:=by rw[D];have:=((((((((((o1.set 0 (aO 1)).set 1 (aO n)).set 2 (aD p5 i5 q5)).set 3 (aO 0)).set 4 (aD none 0 0)).set 5 (aO 0)).set 6 (aD none 0 0)).set 7 (aO (gR l))).set 8 (aO (vK n l))).set 9 (aD p0 i0 J));simpa using this
  have hg:(w8.setCell ⟨gc,9,none⟩ (aD p0 i0 J)).grownBy Wf (some (w.heap.size+1)):=by exact rY
  have Bf:Below w w Wf:=B9.grown hg B9.size kF;have f5:=(x5.grow hg (fun q hq K=>by have:=cI hq;have:=(x5.lt q K).1;omega)).mono (B':=w.heap.size) aA;have f0:=(x0.grow hg (fun q hq K=>by have:=cI hq;have:=(x0.lt q K).1;omega)).mono (B':=w.heap.size) aA;have Gf:=a9.cell;clear D;obtain⟨F,R,I,Z,hS,Y,hB⟩:=H.out;exact bW (v:=aS #[aM #[aO 1,n,aD p5 i5 q5,aK,(),aK,(),(gR l),(vK n l),aD p0 i0 J],aG true]) (by simp[results,results138,go_sem,Gf]) rfl
   ⟨p5,i5,q5,none,0,0,none,0,0,p0,i0,J,by rw[F,R,Z,hS,hB],by rw[I];exact f5,cY.nil _ _ _,cY.nil _ _ _,by rw[Y];exact f0,⟨(cB.nil _ _ _).symm,(cB.nil _ _ _).symm,f3,cB.nil _ _ _,cB.nil _ _ _,cB.nil _ _ _⟩,Bf⟩
theorem abU(hv:Ints w v l)(hl:l.length<=1048576):
  Calls prog 10 #[aM #[n,v]] w fun e w'=>∃p0 i0 J p1 i1 q1 p2 i2 q2 p3 i3 q3,e=aQ (aS #[aM #[(AS n l),(AQ n l),aD p0 i0 J,aK,aD p1 i1 q1,aK,aD p2 i2 q2,(AU n l),(AV n l),aD p3 i3 q3],aG (gP n l)])/\cY 3 w.heap.size w' (aD p0 i0 J) (AT n l)/\cY 3 w.heap.size w' (aD p1 i1 q1) []/\cY 3 w.heap.size w' (aD p2 i2 q2) []/\cY 3 w.heap.size w' (aD p3 i3 q3) (AR n l)/\(cB (aD p0 i0 J) (aD p1 i1 q1)/\cB (aD p0 i0 J) (aD p2 i2 q2)/\cB (aD p0 i0 J) (aD p3 i3 q3)/\cB (aD p1 i1 q1) (aD p2 i2 q2)/\cB (aD p1 i1 q1) (aD p3 i3 q3)/\cB (aD p2 i2 q2) (aD p3 i3 q3))/\Below w w w':=by
 obtain⟨a,c,rfl⟩:=hv.shape;go_enter func10,ntmps10;go_wp2_with fail;refine cZ ?_;intro V hV;have B:Below w w V:=iJ hV;have O:bK V w 27 #[n,aD a l c]:=iQ hV;have M:bK V (w+1) 34 #[aK,aK,(),aK,(),aK,(),aK,aK,()]:=jL hV;clear hV;refine aV (A9 n l _ V (hv.below B aU)) ?_;intro w1 b1;have O:=O.keep b1;have M:=M.keep b1;have B:=B.after b1 B.size;have z3:w.heap.size+1<w1.heap.size:=M.lt
 cases z:gP n l with
 |false=>
  have F:AS n l=0:=by unfold AS;rw[z];rfl
  have R:AQ n l=0:=by unfold AQ;rw[z];rfl
  have I:AT n l=[]:=by unfold AT;rw[z];rfl
  have Z:AU n l=0:=by unfold AU;rw[z];rfl
  have hS:AV n l=0:=by unfold AV;rw[z];rfl
  have Y:AR n l=[]:=by unfold AR;rw[z];rfl
  have H:=aT (And.intro F (And.intro R (And.intro I (And.intro Z (And.intro hS (And.intro Y z))))));clear F R I Z hS Y z;have G3:=M.cell;have F3:=M.frozen;go_wp2;refine cT ?_;intro Wf D;have a9:bK Wf (w+1) 34 #[aK,aK,(),aK,(),aK,(),aK,aK,()]:=by exact aj5
  have hg:w1.grownBy Wf (some (w.heap.size+1)):=by exact rY
  have Bf:Below w w Wf:=B.grown hg B.size kF;have Gf:=a9.cell;clear D;obtain⟨F,R,I,Z,hS,Y,hB⟩:=H.out;exact bW (v:=aS #[aM #[aK,aK,(),aK,(),aK,(),aK,aK,()],aG false]) (by simp[results,results10,go_sem,Gf]) rfl
   ⟨none,0,0,none,0,0,none,0,0,none,0,0,by rw[F,R,Z,hS,hB],by rw[I];exact cY.nil _ _ _,cY.nil _ _ _,cY.nil _ _ _,by rw[Y];exact cY.nil _ _ _,⟨cB.nil _ _ _,cB.nil _ _ _,cB.nil _ _ _,cB.nil _ _ _,cB.nil _ _ _,cB.nil _ _ _⟩,Bf⟩
 |true=>
 have G1:=O.cell;go_wp2_with fail;clear G1;refine(aeD w1 n _ l (hv.below B aU) hl).mono ?_;rintro e wl ⟨p0,i0,J,rfl,o0,b2⟩;have O:=O.keep b2;have M:=M.keep b2;have B:=B.after b2 B.size;have o0:=o0.mono (B':=w.heap.size+1+1) z3;have z3:w.heap.size+1<wl.heap.size:=M.lt
 cases a6:mS n l with
 |true=>
  have F:AS n l=2:=by unfold AS;rw[z,a6];rfl
  have R:AQ n l=n:=by unfold AQ;rw[z];rfl
  have I:AT n l=l:=by unfold AT;rw[z];rfl
  have Z:AU n l=0:=by unfold AU;rw[z,a6];rfl
  have hS:AV n l=0:=by unfold AV;rw[z,a6];rfl
  have Y:AR n l=pE n l:=by unfold AR;rw[z,a6];rfl
  have H:=aT (And.intro F (And.intro R (And.intro I (And.intro Z (And.intro hS (And.intro Y z))))));clear F R I Z hS Y z a6;have G1:=O.cell;go_wp2_with fail;clear G1;refine(wY wl n _ l (hv.below B aU) hl).mono ?_;rintro e w5 ⟨p5,i5,q5,rfl,o5,b5⟩;have f8:=M.keep b5;have s9:=f8.cell;have s6:=f8.frozen;have B5:=B.after b5 B.size;have x5:=o5.toW.mono (B':=w.heap.size+1+1) aA;have x0:cY 3 (w.heap.size+1+1) w5 (aD p0 i0 J) (pE n l):=o0.keep b5;have f3:cB (aD p5 i5 q5) (aD p0 i0 J):=(cB.of_lt o0 o5.toW aU).symm;go_wp2;refine cT ?_;intro Wf D;have a9:bK Wf (w+1) 34 #[aO 2,n,aD p5 i5 q5,aK,(),aK,(),aK,aK,aD p0 i0 J]:=by exact aj4
  have hg:w5.grownBy Wf (some (w.heap.size+1)):=by exact rY
  have Bf:Below w w Wf:=B5.grown hg B5.size kF;have f5:=(x5.grow hg (fun q hq K=>by have:=cI hq;have:=(x5.lt q K).1;omega)).mono (B':=w.heap.size) aA;have f0:=(x0.grow hg (fun q hq K=>by have:=cI hq;have:=(x0.lt q K).1;omega)).mono (B':=w.heap.size) aA;have Gf:=a9.cell;clear D;obtain⟨F,R,I,Z,hS,Y,hB⟩:=H.out;exact bW (v:=aS #[aM #[aO 2,n,aD p5 i5 q5,aK,(),aK,(),aK,aK,aD p0 i0 J],aG true]) (by simp[results,results10,go_sem,Gf]) rfl
   ⟨p5,i5,q5,none,0,0,none,0,0,p0,i0,J,by rw[F,R,Z,hS,hB],by rw[I];exact f5,cY.nil _ _ _,cY.nil _ _ _,by rw[Y];exact f0,⟨(cB.nil _ _ _).symm,(cB.nil _ _ _).symm,f3,cB.nil _ _ _,cB.nil _ _ _,cB.nil _ _ _⟩,Bf⟩
 |false=>
  have F:AS n l=1:=by unfold AS;rw[z,a6];rfl
  have R:AQ n l=n:=by unfold AQ;rw[z];rfl
  have I:AT n l=l:=by unfold AT;rw[z];rfl
  have Z:AU n l=gR l:=by unfold AU;rw[z,a6];rfl
  have hS:AV n l=vK n l:=by unfold AV;rw[z,a6];rfl
  have Y:AR n l=sG n l:=by unfold AR;rw[z,a6];rfl
  have H:=aT (And.intro F (And.intro R (And.intro I (And.intro Z (And.intro hS (And.intro Y z))))));have r7:0<l.length:=by obtain⟨N,rfl,_,u2,_⟩:=eJ (LC z);rw[u2];exact dJ N
  clear F R I Z hS Y z a6;have G1:=O.cell;go_wp2_with fail;clear G1;refine(UT wl n _ l (hv.below B aU) hl).mono ?_;rintro e w2 ⟨p0,i0,J,rfl,o0,b2⟩;have O:=O.keep b2;have M:=M.keep b2;have B:=B.after b2 B.size;have o0:=o0.mono (B':=w.heap.size+1+1) z3;have G1:=O.cell;go_wp2_with fail;clear G1;refine aV (WU w2 n _ l (hv.below B aU) hl) ?_;intro w3 b3;have O:=O.keep b3;have M:=M.keep b3;have B:=B.after b3 B.size;have o0:=o0.keep b3;have k2:Ints w3.drew (aD a l c) l:=(hv.below B aU).keep (bJ _ _).drew;have k9:=aT (wY w3.drew n (aD a l c) l k2 hl);have j1:=aT (fun(W:World) (h:Below w3.drew.heap.size w3.drew W)=>DE W n _ l (k2.keep h) r7);have t7:bK w3.drew w.heap.size 27 #[n,aD a l c]:=O;have h7:bK w3.drew (w.heap.size+1) 34 #[aK,aK,(),aK,(),aK,(),aK,aK,()]:=M;have Bd:Below w w w3.drew:=B.drew;have zd:w.heap.size+1<w3.drew.heap.size:=h7.lt;have G1:=O.cell;go_wp2_with fail;go_region_law
   (first
    |(go_simp;go_at_call 25;with_reducible refine k9.out.mono ?_;rintro e w5 ⟨p5,i5,q5,rfl,o5,b5⟩;have t6:=t7.keep b5;have v7:=t6.cell)
    |(go_simp;go_at_call 28;with_reducible refine aV (j1.out w5 b5) ?_;intro w6 b6;have j3:=(h7.keep b5).keep b6;have v8:=j3.cell;have u9:=j3.frozen))
  all_goals
   have B5:=Bd.after b5 Bd.size;have B6:=B5.after b6 B5.size;have x5:=(o5.toW.mono (B':=w.heap.size+1+1) aA).keep b6;have x0:cY 3 (w.heap.size+1+1) w6 (aD p0 i0 J) (sG n l):=((o0.drewN 1).toW.keep b5).keep b6;have f3:cB (aD p5 i5 q5) (aD p0 i0 J):=(cB.of_lt (o0.drewN 1).toW o5.toW aU).symm;go_wp2;refine cT ?_;intro Wf D;have a9:bK Wf (w+1) 34 #[aO 1,n,aD p5 i5 q5,aK,(),aK,(),(gR l),(vK n l),aD p0 i0 J]:=by rw[D];have:=((((((((((j3.set 0 (aO 1)).set 1 (aO n)).set 2 (aD p5 i5 q5)).set 3 (aO 0)).set 4 (aD none 0 0)).set 5 (aO 0)).set 6 (aD none 0 0)).set 7 (aO (gR l))).set 8 (aO (vK n l))).set 9 (aD p0 i0 J));simpa using this
   have hg:w6.grownBy Wf (some (w.heap.size+1)):=by exact rY
   have Bf:Below w w Wf:=B6.grown hg B6.size kF;have f5:=(x5.grow hg (fun q hq K=>by have:=cI hq;have:=(x5.lt q K).1;omega)).mono (B':=w.heap.size) aA;have f0:=(x0.grow hg (fun q hq K=>by have:=cI hq;have:=(x0.lt q K).1;omega)).mono (B':=w.heap.size) aA;have Gf:=a9.cell;clear D;obtain⟨F,R,I,Z,hS,Y,hB⟩:=H.out;exact bW (v:=aS #[aM #[aO 1,n,aD p5 i5 q5,aK,(),aK,(),(gR l),(vK n l),aD p0 i0 J],aG true]) (by simp[results,results10,go_sem,Gf]) rfl
    ⟨p5,i5,q5,none,0,0,none,0,0,p0,i0,J,by rw[F,R,Z,hS,hB],by rw[I];exact f5,cY.nil _ _ _,cY.nil _ _ _,by rw[Y];exact f0,⟨(cB.nil _ _ _).symm,(cB.nil _ _ _).symm,f3,cB.nil _ _ _,cB.nil _ _ _,cB.nil _ _ _⟩,Bf⟩
theorem U5(l k:aI)(t:Nat):uQ l k (t+1)=if decide (dG (uQ l k t)<dG t)&&(gJ l t&&gJ k t) then t else uQ l k t:=rfl
theorem aq2(l k:aI)(t:Nat):uQ l k t<=t:=by
 rcases Nat.eq_zero_or_pos t with rfl|h
 .exact aU
 .exact cM (M5 l k t h)
theorem ajM{p:Prop}(h:p:=by
  rw[hP]at hcl z;have D:=aT z;clear hP z hb;go_wp2_with (first
   |(go_at_call 214;(first|(with_reducible refine(I.out _).mono ?_)|(with_reducible refine(J.out _).mono ?_));rintro e w1 ⟨rfl,rfl⟩)
   |(go_at_fn c;refine aV hcl ?_;intro w2 R))
  go_roundw
  .exact⟨t+1,aA,cD,by rw[D.out];rfl,B.after R B.size⟩
  exact aY):p:=h
theorem O5(n:Nat)(hn:n<=5)(c:FuncId)(he:∀args w,(callFunc c args).run prog w=.ok (.enter c args) w)(g1 g2:Nat)(l k:aI)
  (hw:∀(s:Nat) W',s<2^n->Below w w W'->Calls prog c #[(s:Int),aP (some ⟨g1,0,none⟩),aP (some ⟨g2,0,none⟩)] W' fun e w2=>e=aQ (aG (gJ l s&&gJ k s))/\Below W' W' w2):
  aH 289 #[(n:Int),.func (.func c) #[] #[aP (some ⟨g1,0,none⟩),aP (some ⟨g2,0,none⟩)]] w (aO (uQ l k (2^n):Int)):=by
 have Y:(2:Nat)^n<=32:=bQ (n:=2) bZ hn;have F:((2^n:Nat):Int)=(2:Int)^n:=bF;obtain⟨N,hN⟩:∃N:Nat,N=2^n:=⟨_,rfl⟩;rw[<-hN]at hw Y F |-;have HW:=aT hw;clear hN hw;go_enter func289,ntmps289;go_wp2_with fail;go_loopw [5,10] (fun O i wr=>∃t:Nat,t<=N/\i=aO t/\O=aO (uQ l k t:Int)/\Below w w wr) (fun _ i _=>N-(intOf i).toNat)
 .exact⟨0,aZ _,rfl,rfl,bJ _ _⟩
 obtain⟨t,ht,rfl,rfl,B⟩:=hrel;have S:=aq2 l k t;by_cases hlt:t<N
 .have M:(t:Int)<2^n:=by rw[<-F];exact_mod_cast hlt
  have z:=U5 l k t;obtain⟨b,hb⟩:=aW (uQ l k t);rw[<-hb]at S z |-;have I:=aT (fun W=>jF t W aA);have J:=aT (fun W=>jF b W aA);have hcl:=HW.out t wr hlt B;by_cases K:dG b<dG t
  .rw[bH K,Bool.true_and]at z
   cases hP:(gJ l t&&gJ k t) with
   |true=>exact ajM
   |false=>exact ajM
  .rw[bG K,Bool.false_and]at z;have D:=aT z;clear z hb hcl;go_wp2_with (go_at_call 214;(first|(with_reducible refine(I.out _).mono ?_)|(with_reducible refine(J.out _).mono ?_));rintro e w1 ⟨rfl,rfl⟩);go_roundw
   .exact⟨t+1,aA,cD,by rw[D.out];rfl,B⟩
   exact aY
 .have M:¬(t:Int)<2^n:=by rw[<-F];exact_mod_cast hlt
  have Z:t=N:=aA;subst Z;go_wp2;go_ret;exact⟨rfl,B⟩
theorem DG(hv:Ints w v l)(hl:l.length<=1048576)(m:Int)(u:Value)(k:aI)(hu:Ints w u k)(hk:k.length<=1048576):
  aH 210 #[aM #[n,v],aM #[m,u]] w (aS #[(tK n l m k),aG (fP n l m k)]):=by
 obtain⟨a,c,rfl⟩:=hv.shape;obtain⟨b,d,rfl⟩:=hu.shape;have b0:∀(fn:Fn) (first cap:Array Value) (w:World),(Instr.makeFunc fn first cap).run prog w=.ok (.func fn first cap) w:=fun _ _ _ _=>rfl;go_enter func210,ntmps210;go_wp2_with fail;refine cZ ?_;intro V O;have B:Below w w V:=iJ O;have K:bK V w 27 #[n,aD a l c]:=iQ O;have M:bK V (w+1) 27 #[m,aD b k d]:=jL O;clear O;refine aV (AH V n _ l (hv.below B aU) hl m _ k (hu.below B aU) hk) ?_;intro w1 Z;have K:=K.keep Z;have M:=M.keep Z;have B:=B.after Z B.size;have a9:=hv.below B aU;have a7:=hu.below B aU;have z2:=M.lt;have G1:=K.cell
 cases z:fP n l m k with
 |false=>
  have J:tK n l m k=0:=by unfold tK;rw[z];rfl
  have Y:=aT J;have S:=aT z;clear J z;go_wp2;go_ret2;exact⟨by rw[Y.out,S.out];rfl,B⟩
 |true=>
  obtain⟨rfl,N,rfl,a1,F,I,D,_,_⟩:=sY z;have J:tK N l N k=(uQ l k (2^N):Int):=by unfold tK;rw[z,if_pos rfl,F]
  have Y:=aT J;have S:=aT z;have hcl:=O5 w1 N a1 290 KZ w.heap.size (w.heap.size+1) l k (fun s W' hs hB=>
   ab3 W' w.heap.size (w.heap.size+1) N N _ _ l k (a9.keep hB) (a7.keep hB) D I s aA (K.keep hB) (M.keep hB))
  have R:=aT hcl;clear J z F D hcl;go_wp2_with fail;refine aV R.out ?_;intro w2 b2;go_wp2;go_ret2;exact⟨by rw[Y.out,S.out];rfl,B.after b2 B.size⟩
theorem ajX{p:Prop}(h:p:=by
  rw[e1,e2]at z;have M:=aT z;clear z;go_wp2_with (go_at_call 84;(first|(with_reducible refine(J.out _).mono ?_)|(with_reducible refine(K.out _).mono ?_));rintro e w2 ⟨rfl,rfl⟩);go_round
  .exact⟨t+1,aA,aA,cD,by rw[M.out];rfl⟩
  exact aY):p:=h
theorem aj0{p:Prop}(h:p:=by
  have M:=aT z;clear z;go_wp2_with (go_at_call 84;(first|(with_reducible refine(J.out _).mono ?_)|(with_reducible refine(K.out _).mono ?_));rintro e w2 ⟨rfl,rfl⟩);go_round
  .exact⟨t+1,aA,aA,cD,by rw[M.out];rfl⟩
  exact aY):p:=h
theorem DH(hv:Ints w v l)(hl:l.length<=1048576)(m:Int)(u:Value)(k:aI)(hu:Ints w u k)(hk:k.length<=1048576):
  aH 250 #[aM #[n,v],aM #[m,u]] w (aS #[(tK n l m k),aG (fP n l m k)]):=by
 have f4:=hv;have f3:=hu;obtain⟨a,bb,h6,c,rfl,f8,b3,hc,hb⟩:=hv.vw;obtain⟨a',g7,g4,c',rfl,f0,F,O,a7⟩:=hu.vw;go_enter func250,ntmps250;go_wp2_with fail;refine cZ ?_;intro V hV;have B:Below w w V:=iJ hV;have K1:bK V w 27 #[n,aD a l c]:=iQ hV;have K2:bK V (w+1) 27 #[m,aD a' k c']:=jL hV;clear hV;refine aV (AI V n _ l (f4.below B aU) hl m _ k (f3.below B aU) hk) ?_;intro w1 b1;have K1:=K1.keep b1;have K2:=K2.keep b1;have B:=B.after b1 B.size;have z2:=K2.lt;have R:=bY hc hb B aU;have S:=bY O a7 B aU;have G1:=K1.cell;have G2:=K2.cell
 cases Y:fP n l m k with
 |false=>
  have I:tK n l m k=0:=by unfold tK;rw[Y];rfl
  have HX:=aT I;have HF:=aT Y;clear I Y hc O R S;go_wp2;go_ret2;exact⟨by rw[HX.out,HF.out];rfl,B⟩
 |true=>
  obtain⟨rfl,N,rfl,h0,b6,f7,b5,b7,b4⟩:=sY Y;have I:tK N l N k=(uQ l k l.length:Int):=by unfold tK;rw[Y,if_pos rfl]
  have h1:=an9 l k;have HX:=aT I;have HF:=aT Y;have D:=aT b5;have c9:=aT R;have d0:=aT S;have e4:=aT b3;have a6:=aT F;have HB:=aT (And.intro b7 b4);have c5:1<=l.length:=by rw[b6];exact dJ N
  clear I Y b6 b5 hc O R S b3 F hb a7 b7 b4;go_wp2_with fail;go_loop [6,7] (fun e8 i=>∃t:Nat,1<=t/\t<=l/\i=aO t/\e8=aO (uQ l k t:Int)) (fun _ i=>l.length-(intOf i).toNat)
  .exact⟨1,aU,c5,rfl,by rw[h1];rfl⟩
  obtain⟨t,f2,ht,rfl,rfl⟩:=hrel;have b8:=M5 l k t f2;by_cases hlt:t<l
  .have b9:(t:Int)<(l.length:Int):=aA;have z:=U5 l k t;have ck:=c9.out t hlt;have e9:=d0.out t (by rw[D.out];exact hlt);have ik:=fun W=>e4.out W t hlt;have h5:=fun W=>a6.out W t (by rw[D.out];exact hlt);have a1:gJ l t=(l[t]==(dG t:Int)):=by unfold gJ;rw[cJ l t hlt];exact(xW _ _).symm
   have Z:gJ k t=(k[t]'(by rw[D.out];exact hlt)==(dG t:Int)):=by unfold gJ;rw[cJ k t (by rw[D.out];exact hlt)];exact(xW _ _).symm
   obtain⟨x,I⟩:=aW (l[t]);obtain⟨y,hy⟩:∃y,y=k[t]'(by rw[D.out];exact hlt):=⟨_,rfl⟩;rw[<-I]at ck a1;rw[<-hy]at e9 Z;rw[a1,Z]at z;obtain⟨b,a8⟩:=aW (uQ l k t);rw[<-a8]at b8 z |-;have J:=aT (fun W=>iE t W aA);have K:=aT (fun W=>iE b W aA);obtain⟨P,hP⟩:=aW (dG t);obtain⟨Q,hQ⟩:=aW (dG b);simp only[<-hP]at J z;simp only[<-hQ]at K z;clear I hy a1 Z a8 hP hQ;by_cases a9:Q<P
   .rw[bH a9,Bool.true_and]at z;have b0:(Q:Int)<(P:Int):=aA
    cases e1:(x==(P:Int)) with
    |false=>rw[e1]at z;exact aj0
    |true=>
     cases e2:(y==(P:Int)) with
     |false=>exact ajX
     |true=>exact ajX
   .rw[bG a9,Bool.false_and]at z;have b0:¬(Q:Int)<(P:Int):=aA;exact aj0
  .have b9:¬(t:Int)<(l.length:Int):=aA;have c6:t=l.length:=aA;have HT:=aT c6;clear c6;go_wp2;go_ret2;exact⟨by rw[HX.out,HF.out,<-HT.out];rfl,B⟩
theorem VX(l k:aI)(t:Nat):kT l k (t+1)=if uF l k t<uF l k (kT l k t) then t else kT l k t:=rfl
theorem CV(l k:aI)(z:k.length=l.length)(t:Nat)(h:t<l):uF l k t=l[t]+k[l.length-1-t]'aA:=by
 unfold uF;rw[cJ l t h,cJ k _ aA]
theorem afY:∀n:Nat,n<=5->∀s:Nat,s<2^n->dY s (2^n-1)=0:=dS
theorem agZ:∀n:Nat,n<=5->∀s:Nat,s<2^n->s &&& (2^n-1)=s:=dS
theorem S7(N:Nat)(hN:N<=5)(n m:Int)(v u:Value)(l k:aI)(hv:Ints w v l)(hu:Ints w u k)(hl:l.length=2^N)(a7:k.length=l.length)(a8:∀i,(hi:i<l.length)->-1000<=l[i]/\l[i]<=1000)(a6:∀i,(hi:i<k.length)->-1000<=k[i]/\k[i]<=1000):
  aH 291 #[aM #[n,v],aM #[m,u],aO (2^N-1)] w (aS #[(uF l k (kT l k (2^N))),aO (kT l k (2^N):Int)]):=by
 have k0:=hv;have j9:=hu;have g4:(2:Nat)^N<=32:=bQ (n:=2) bZ hN;have c8:=dJ N;have M:((2^N-1:Nat):Int)=(2:Int)^N-1:=by rw[Int.ofNat_sub c8];simp
 obtain⟨a,bb,e5,c,rfl,h7,a1,hc,hb⟩:=hv.vw;obtain⟨a',j5,j1,c',rfl,g0,O,b9,b7⟩:=hu.vw;obtain⟨V,hV⟩:=aW ((w.alloc (.cells #[n,aD a l c] 27)).alloc (.cells #[m,aD a' k c'] 27));have B:Below w w V:=iJ hV;have K1:bK V w 27 #[n,aD a l c]:=iQ hV;have K2:bK V (w+1) 27 #[m,aD a' k c']:=jL hV;have Y:=bY hc hb B aU;have Z:=bY b9 b7 B aU;have G1:=K1.cell;have G2:=K2.cell;have R:=CV l k a7 0 aA;have c0:=Y 0 aA;have i0:=fun W=>a1 W 0 aA;have d0:=Z (l.length-1-0) aA;have j0:=fun W=>O W (l.length-1-0) aA;have g6:=a8 0 aA;have e4:=a6 (l.length-1-0) aA;have HB:=aT (And.intro a8 a6);have e7:=aT Y;have e8:=aT Z;have e9:=aT a1;have f0:=aT O;have K:=aT a7;obtain⟨F,hF⟩:∃F:Nat,F=2^N-1:=⟨_,rfl⟩;have c5:l.length=F+1:=aA;have b1:(2:Int)^N-1=(F:Int):=by rw[<-M,hF]
 have b4:2^N=F+1:=aA;have b6:∀s,s<=F->bits .andNot .i64 (s:Int) (F:Int)=0/\bits .andNot .i64 (F:Int) (s:Int)=((F-s:Nat):Int):=fun s hs=>by have h1:=AK s F aA aA;have h2:=AK F s aA aA;have h3:=afY N hN s aA;have h4:=RC N hN s aA;rw[<-hF]at h3 h4;rw[h3]at h1;rw[h4]at h2;exact⟨h1,h2⟩
 rw[b1,b4];simp only[show l.length-1-0=F from aA]at d0 j0 e4 R;obtain⟨x0,c9⟩:=aW (l[0]);obtain⟨y0,e0⟩:=aW (k[F]'aA);rw[<-c9]at c0 g6 R;rw[<-e0]at d0 e4 R;have f3:=aT R;have D:=aT c5;have e6:=aT b6;have e1:=aaZ l k;have h6:F<32:=aA;clear hc b9 Y Z a1 O a7 a8 a6 R c9 e0 c5 b6 hl M hF b1 b4 hb b7;clear g4 c8;have c0:V.cell? ⟨bb,e5,none⟩=some (aO x0):=by simpa using c0
 have i0:∀W,(Instr.indexAt 25 (aD a l c) (aO 0)).run prog W=.ok (aP (some ⟨bb,e5,none⟩)) W:=fun W=>by simpa using i0 W
 go_enter func291,ntmps291;go_wp2_with fail;rw[<-hV];clear hV;go_quiet (fail);go_wp2_with fail;go_loopw [8,9,23] (fun sm pt i wr=>∃t:Nat,t<=F+1/\i=aO t/\sm=aO (uF l k (kT l k t))/\pt=aO (kT l k t:Int)/\(-2000<=uF l k (kT l k t)/\uF l k (kT l k t)<=2000)/\∃q,wr=V.drewN q) (fun _ _ i _=>F+1-(intOf i).toNat)
 .have hz:uF l k (kT l k 0)=x0+y0:=by rw[show kT l k 0=0 from rfl];exact f3.out
  exact⟨0,aZ _,rfl,by rw[hz],rfl,by rw[hz];omega,_,rfl⟩
 obtain⟨t,ht,rfl,rfl,rfl,b8,q,rfl⟩:=hrel;by_cases hlt:t<F+1
 .have c6:(t:Int)<(F:Int)+1:=aA;have I:=e6.out t aA;have j7:=I.1;have f9:=I.2;have J:=CV l k K.out t (by rw[D.out];omega);have z:=VX l k t;have ck:=e7.out t (by rw[D.out];omega);have ik:=fun W=>e9.out W t (by rw[D.out];omega);have dk:=e8.out (F-t) (by rw[K.out,D.out];omega);have jk:=fun W=>f0.out W (F-t) (by rw[K.out,D.out];omega);have lb:=HB.out.1 t (by rw[D.out];omega);have kb:=HB.out.2 (F-t) (by rw[K.out,D.out];omega);simp only[show l.length-1-t=F-t by rw[D.out];omega]at J;obtain⟨x,hx⟩:∃x,x=l[t]'(by rw[D.out];omega):=⟨_,rfl⟩;obtain⟨y,hy⟩:∃y,y=k[F-t]'(by rw[K.out,D.out];omega):=⟨_,rfl⟩;rw[<-hx]at ck lb J;rw[<-hy]at dk kb J;rw[J]at z;obtain⟨S,hS⟩:=aW (uF l k (kT l k t));obtain⟨p,hp⟩:=aW (kT l k t);rw[<-hS]at z b8 |-;rw[<-hp]at z |-;obtain⟨Ft,b3⟩:=aW (F-t);simp only[<-b3]at dk jk f9;have f4:=aT hS;have f2:=aT hp;have a9:=aT J;have b0:=aT z;clear hx hy hS hp J z I b3 c0 i0 d0 j0;by_cases c7:x+y<S
  .go_wp2_with fail;go_quiet (fail);go_wp2_with fail;go_quiet (fail);go_wp2;go_roundw
   .have h1:kT l k (t+1)=t:=by rw[b0.out,if_pos c7]
    exact⟨t+1,aA,cD,by rw[h1,a9.out],by rw[h1],by rw[h1,a9.out];omega,_,by first|rfl|simp⟩
   exact aY
  .go_wp2_with fail;go_quiet (fail);go_wp2;go_roundw
   .have h1:kT l k (t+1)=p:=by rw[b0.out,if_neg aA]
    have h2:uF l k p=S:=by rw[f4.out,f2.out]
    exact⟨t+1,aA,cD,by rw[h1,h2],by rw[h1],by rw[h1,h2];exact b8,_,by first|rfl|simp⟩
   exact aY
 .have c6:¬(t:Int)<(F:Int)+1:=aA;have g5:t=F+1:=aA;subst g5;go_wp2;go_ret2;exact⟨rfl,B.drewN' _⟩
theorem acJ(N:Nat)(hN:N<=5)(n m:Int)(v u:Value)(l k:aI)(hv:Ints w v l)(hu:Ints w u k)(hl:l.length=2^N)(a6:k.length=l.length)(a7:∀i,(hi:i<l.length)->-1000<=l[i]/\l[i]<=1000)(a1:∀i,(hi:i<k.length)->-1000<=k[i]/\k[i]<=1000):
  aH 333 #[aM #[n,v],aM #[m,u],aO (2^N-1)] w (aO (kT l k (2^N):Int)):=by
 have k3:=hv;have k2:=hu;have g0:(2:Nat)^N<=32:=bQ (n:=2) bZ hN;have e4:=dJ N;have J:((2^N-1:Nat):Int)=(2:Int)^N-1:=by rw[Int.ofNat_sub e4];simp
 obtain⟨a,bb,f2,c,rfl,h9,Z,hc,hb⟩:=hv.vw;obtain⟨a',j7,j3,c',rfl,f8,K,c7,c6⟩:=hu.vw;obtain⟨V,hV⟩:=aW ((w.alloc (.cells #[n,aD a l c] 27)).alloc (.cells #[m,aD a' k c'] 27));have B:Below w w V:=iJ hV;have K1:bK V w 27 #[n,aD a l c]:=iQ hV;have K2:bK V (w+1) 27 #[m,aD a' k c']:=jL hV;have S:=bY hc hb B aU;have Y:=bY c7 c6 B aU;have G1:=K1.cell;have G2:=K2.cell;have M:=CV l k a6 0 aA;have c0:=S 0 aA;have i0:=fun W=>Z W 0 aA;have d0:=Y (l.length-1-0) aA;have j0:=fun W=>K W (l.length-1-0) aA;have g6:=a7 0 aA;have f0:=a1 (l.length-1-0) aA;have HB:=aT (And.intro a7 a1);have a9:=aT S;have b0:=aT Y;have b1:=aT Z;have b3:=aT K;have D:=aT a6;obtain⟨F,hF⟩:∃F:Nat,F=2^N-1:=⟨_,rfl⟩;have c8:l.length=F+1:=aA;have b5:(2:Int)^N-1=(F:Int):=by rw[<-J,hF]
 have b8:2^N=F+1:=aA;have c5:∀s,s<=F->bits .and .i64 (s:Int) (F:Int)=(s:Int):=fun s hs=>by have h1:=PS s F aA aA;have h3:=agZ N hN s aA;rw[<-hF]at h3;rw[h3]at h1;exact h1
 rw[b5,b8];simp only[show l.length-1-0=F from aA]at d0 j0 f0 M;obtain⟨x0,e6⟩:=aW (l[0]);obtain⟨y0,e8⟩:=aW (k[F]'aA);rw[<-e6]at c0 g6 M;rw[<-e8]at d0 f0 M;have j4:=aT M;have z:=aT c8;have f4:=aT c5;have e1:=aaZ l k;have h7:F<32:=aA;clear hc c7 S Y Z K a6 a7 a1 M e6 e8 c8 c5 hl J hF b5 b8 hb c6;clear g0 e4;have c0:V.cell? ⟨bb,f2,none⟩=some (aO x0):=by simpa using c0
 have i0:∀W,(Instr.indexAt 25 (aD a l c) (aO 0)).run prog W=.ok (aP (some ⟨bb,f2,none⟩)) W:=fun W=>by simpa using i0 W
 go_enter func333,ntmps333;go_wp2_with fail;rw[<-hV];clear hV c0 i0 d0 j0;go_loopw [7,8] (fun f5 i wr=>∃t:Nat,1<=t/\t<=F+1/\i=aO t/\f5=aO (kT l k t:Int)/\∃q,wr=V.drewN q) (fun _ i _=>F+1-(intOf i).toNat)
 .exact⟨1,aU,aA,rfl,by rw[e1];rfl,0,rfl⟩
 obtain⟨t,g2,ht,rfl,rfl,q,rfl⟩:=hrel;have f9:=UB l k t g2;by_cases hlt:t<F+1
 .have c9:(t:Int)<=(F:Int):=aA;have k0:=f4.out t aA;have R:=CV l k D.out t (by rw[z.out];omega);have I:=VX l k t;obtain⟨p,hp⟩:=aW (kT l k t);rw[<-hp]at I f9 |-;have O:=CV l k D.out p (by rw[z.out];omega);have ck:=a9.out t (by rw[z.out];omega);have ik:=fun W=>b1.out W t (by rw[z.out];omega);have dk:=b0.out (F-t) (by rw[D.out,z.out];omega);have jk:=fun W=>b3.out W (F-t) (by rw[D.out,z.out];omega);have lb:=HB.out.1 t (by rw[z.out];omega);have kb:=HB.out.2 (F-t) (by rw[D.out,z.out];omega);have cp:=a9.out p (by rw[z.out];omega);have ip:=fun W=>b1.out W p (by rw[z.out];omega);have dp:=b0.out (F-p) (by rw[D.out,z.out];omega);have jp:=fun W=>b3.out W (F-p) (by rw[D.out,z.out];omega);have g7:=HB.out.1 p (by rw[z.out];omega);have g5:=HB.out.2 (F-p) (by rw[D.out,z.out];omega);simp only[show l.length-1-t=F-t by rw[z.out];omega]at R;simp only[show l.length-1-p=F-p by rw[z.out];omega]at O;obtain⟨x,hx⟩:∃x,x=l[t]'(by rw[z.out];omega):=⟨_,rfl⟩;obtain⟨y,hy⟩:∃y,y=k[F-t]'(by rw[D.out,z.out];omega):=⟨_,rfl⟩;obtain⟨xp,e7⟩:∃x,x=l[p]'(by rw[z.out];omega):=⟨_,rfl⟩;obtain⟨yp,e9⟩:∃y,y=k[F-p]'(by rw[D.out,z.out];omega):=⟨_,rfl⟩;rw[<-hx]at ck lb R;rw[<-hy]at dk kb R;rw[<-e7]at cp g7 O;rw[<-e9]at dp g5 O;rw[R,O]at I;have e5:(F:Int)-(t:Int)=((F-t:Nat):Int):=aA;have a8:(F:Int)-(p:Int)=((F-p:Nat):Int):=aA;obtain⟨Ft,b7⟩:=aW (F-t);obtain⟨Fp,b6⟩:=aW (F-p);simp only[<-b7]at dk jk e5;simp only[<-b6]at dp jp a8;have b4:=aT I;clear hx hy e7 e9 R O I b7 b6 hp;by_cases e0:x+y<xp+yp
  .go_wp2_with fail;go_quiet (fail);go_wp2;go_roundw
   .have h1:kT l k (t+1)=t:=by rw[b4.out,if_pos e0]
    exact⟨t+1,aA,aA,cD,by rw[h1],_,by first|rfl|simp⟩
   exact aY
  .go_wp2_with fail;go_quiet (fail);go_wp2;go_roundw
   .have h1:kT l k (t+1)=p:=by rw[b4.out,if_neg aA]
    exact⟨t+1,aA,aA,cD,by rw[h1],_,by first|rfl|simp⟩
   exact aY
 .have c9:¬(t:Int)<=(F:Int):=aA;have g4:t=F+1:=aA;subst g4;go_wp2;go_ret;exact⟨rfl,B.drewN' _⟩
theorem akG{p:Prop}(h:p:=by
  have hx:AO n l m k=0:=by unfold AO;rw[D];rfl
  have hy:uU n l m k=0:=by unfold uU;rw[D];rfl
  have Y:=aT (And.intro hx hy);have HF:=aT D;clear hx hy D;go_wp2;go_ret3;exact⟨by rw[Y.out.1,Y.out.2,HF.out];rfl,B⟩):p:=h
theorem FK(hv:Ints w v l)(hl:l.length<=1048576)(m:Int)(u:Value)(k:aI)(hu:Ints w u k)(hk:k.length<=1048576):
  aH 211 #[aM #[n,v],aM #[m,u]] w (aS #[(AO n l m k),(uU n l m k),aG (fP n l m k)]):=by
 obtain⟨a,c,rfl⟩:=hv.shape;obtain⟨b,d,rfl⟩:=hu.shape;go_enter func211,ntmps211;go_wp2_with fail;refine cZ ?_;intro V hV;have B:Below w w V:=iJ hV;have M:bK V w 27 #[n,aD a l c]:=iQ hV;have F:bK V (w+1) 27 #[m,aD b k d]:=jL hV;clear hV;refine aV (AH V n _ l (hv.below B aU) hl m _ k (hu.below B aU) hk) ?_;intro w1 b1;have M:=M.keep b1;have F:=F.keep b1;have B:=B.after b1 B.size;have a7:=hv.below B aU;have c6:=hu.below B aU;have z2:=F.lt
 cases D:fP n l m k with
 |false=>exact akG
 |true=>
  obtain⟨rfl,N,rfl,Z,z,d0,J,K,I⟩:=sY D;have hx:AO N l N k=uF l k (kT l k (2^N)):=by unfold AO;rw[D,if_pos rfl,z]
  have hy:uU N l N k=(kT l k (2^N):Int):=by unfold uU;rw[D,if_pos rfl,z]
  have Y:=aT (And.intro hx hy);have HF:=aT D;have c9:∀x:Ext w1,Calls prog 272 #[aM #[(N:Int),aD a l c]] x.w fun e w'=>e=aQ (aO (2^N-1))/\Below x.w.heap.size x.w w':=fun x=>by have:=vA (N:Int) (aD a l c) l x.w (x.ints a7) aA aA;rw[cA]at this;exact this
  have f0:=aT c9;have b6:=aT (fun x:Ext w1=>S7 x.w N Z (N:Int) (N:Int) (aD a l c) (aD b k d) l k (x.ints a7) (x.ints c6) z J K I);have e0:∀y:Ext w1,y.w.cell? ⟨w,0,none⟩=some (aO N):=fun y=>y.cell (M.cell 0);have e1:∀y:Ext w1,y.w.cell? ⟨w,1,none⟩=some (aD a l c):=fun y=>y.cell (M.cell 1);have e2:∀y:Ext w1,y.w.cell? ⟨w+1,0,none⟩=some (aO N):=fun y=>y.cell (F.cell 0);have e3:∀y:Ext w1,y.w.cell? ⟨w+1,1,none⟩=some (aD b k d):=fun y=>y.cell (F.cell 1);clear hx hy D z J K I c9;go_wp2_with fail;refine cW _ bM bM ?_
  repeat(first|go_big_quiet_skip|(go_big_quiet_want;go_big_quiet_op;first|go_big_quiet_on|(apply Exists.intro;refine⟨fun _=>?_,?_⟩;(first|(go_at_call 272;exact dI (f0.out _))|(go_at_call 291;exact dI (b6.out _)));go_big_quiet_on)))
  refine wpQuiet_nil ?_;rintro w3 ⟨⟨w3,f4⟩,rfl⟩
  try dsimp only
  go_wp2;go_ret3;exact⟨by rw[Y.out.1,Y.out.2,HF.out];rfl,B.after f4 B.size⟩
theorem FL(hv:Ints w v l)(hl:l.length<=1048576)(m:Int)(u:Value)(k:aI)(hu:Ints w u k)(hk:k.length<=1048576):
  aH 251 #[aM #[n,v],aM #[m,u]] w (aS #[(AO n l m k),(uU n l m k),aG (fP n l m k)]):=by
 obtain⟨a,c,rfl⟩:=hv.shape;obtain⟨b,d,rfl⟩:=hu.shape;go_enter func251,ntmps251;go_wp2_with fail;refine cZ ?_;intro V hV;have B:Below w w V:=iJ hV;have M:bK V w 27 #[n,aD a l c]:=iQ hV;have F:bK V (w+1) 27 #[m,aD b k d]:=jL hV;clear hV;refine aV (AI V n _ l (hv.below B aU) hl m _ k (hu.below B aU) hk) ?_;intro w1 b1;have M:=M.keep b1;have F:=F.keep b1;have B:=B.after b1 B.size;have a7:=hv.below B aU;have c6:=hu.below B aU;have z2:=F.lt;obtain⟨aa,ba,g5,ca,e4,_,R,b8,f5⟩:=hv.vw;obtain⟨ab,bb,g6,cb,e5,_,S,b9,f6⟩:=hu.vw;simp only[Value.slice.injEq]at e4 e5;obtain⟨rfl,_,rfl⟩:=e4;obtain⟨rfl,_,rfl⟩:=e5
 cases D:fP n l m k with
 |false=>clear R b8 S b9;exact akG
 |true=>
  obtain⟨rfl,N,rfl,Z,z,d0,J,K,I⟩:=sY D;have b0:=dJ N;have f8:=UB l k (2^N) b0;have hx:AO N l N k=uF l k (kT l k (2^N)):=by unfold AO;rw[D,if_pos rfl,z]
  have hy:uU N l N k=(kT l k (2^N):Int):=by unfold uU;rw[D,if_pos rfl,z]
  have O:((2^N-1:Nat):Int)=(2:Int)^N-1:=by rw[Int.ofNat_sub b0];simp
  obtain⟨p,hp⟩:=aW (kT l k (2^N));rw[<-hp]at hx hy f8;have a6:=CV l k J p aA;have cp:=bY b8 f5 B aU p aA;have ip:=fun W=>R W p aA;have dp:=bY b9 f6 B aU (l.length-1-p) aA;have jp:=fun W=>S W (l.length-1-p) aA;have g0:=K p aA;have f9:=I (l.length-1-p) aA;obtain⟨x,e7⟩:=aW (l[p]'aA);obtain⟨y,e8⟩:=aW (k[l.length-1-p]'aA);rw[<-e7]at cp g0 a6;rw[<-e8]at dp f9 a6;have e6:((2:Int)^N-1)-(p:Int)=((l.length-1-p:Nat):Int):=by rw[<-O];omega
  obtain⟨r,hr⟩:=aW (l.length-1-p);simp only[<-hr]at dp jp e6;have Y:=aT (And.intro hx (And.intro hy a6));have HF:=aT D;have f2:=aT (fun W=>fZ N W aA);have c5:=fun(W:World) (h1:Ints W (aD a l c) l) (h2:Ints W (aD b k d) k)=>acJ W N Z (N:Int) (N:Int) (aD a l c) (aD b k d) l k h1 h2 z J K I;rw[<-hp]at c5;have b6:=aT c5;have p5:=dW N 5 Z;clear hx hy D z J K I a6 e7 e8 hr hp O R b8 S b9 c5;have G1:=M.cell;go_wp2_with fail;refine aV (f2.out _) ?_;rintro w2 rfl;have G2:=F.cell;go_wp2_with fail;clear G1 G2;refine aV (b6.out _ a7 c6) ?_;intro w3 b3;have M:=M.keep b3;have F:=F.keep b3;have B3:=B.after b3 B.size;have cp:=keep b3 cp;have dp:=keep b3 dp;have G1:=M.cell;have G2:=F.cell;go_wp2_with fail;go_quiet (fail);go_wp2;go_ret3;exact⟨by rw[Y.out.1,Y.out.2.1,Y.out.2.2,HF.out];rfl,B3.drewN' _⟩
