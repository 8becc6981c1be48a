/- Lemmas for CardClaims, part 21 of 52. No condition. -/
import Derived.Test.YtipejodijbjpcaaGreatDoorQ03
import Derived.Test.YtipejodijbjpcaaGreatDoorQ10
import Derived.Test.YtipejodijbjpcaaGreatDoorQ11
import Derived.Test.YtipejodijbjpcaaGreatDoorQ20
import Derived.Deep.RegionHeld3
import Derived.Deep.RegionLaw
import Derived.Deep.OwnRows
set_option maxRecDepth 100000
set_option maxHeartbeats 64000000
section
namespace Go.G5
open Go.RowKit
theorem H4{P:Program}(t E:TypeId)(ht:P.underlying t=some (.slice E))(F:IntElem P E)(n:Nat)(K:n<=17592186044416)(w:World):
  (Instr.makeSlice t (.int .i64 (n:Int)) (.int .i64 (n:Int))).run P w=.ok (.slice (some ⟨w.heap.size,0,none⟩) n n) (w.alloc (.cells (madeCells #[.int .i64 0] n) E))/\aC E w.heap.size (w.alloc (.cells (madeCells #[.int .i64 0] n) E)) (.slice (some ⟨w.heap.size,0,none⟩) n n) (List.replicate n 0):=by
 obtain⟨i,A,D,h1,z⟩:=F.get;obtain⟨w',o,r1,r2⟩:=run_make_full (P:=P) w w.heap.size t E i (.int .i64 0) 1 ht A D h1 .i64 .i64 n (by rw[z];omega) (by unfold maxLen;omega) (Nat.le_refl _);have h2:=run_make_row (P:=P) t E i (.int .i64 0) ht A D h1 rfl .i64 .i64 n (by rw[z];omega) (by omega) w;refine⟨h2,?_⟩;rw[o]at h2
 injection h2 with _ h3
 subst h3;refine⟨?_,by intro y I;have:=List.eq_of_mem_replicate I;subst this;exact⟨by omega,by omega⟩⟩;have e:(madeCells (Value.int IntKind.i64 0).cells (n*1)).toList=(List.replicate n (0:Int)).map (Value.int .i64):=by
  rw[show(Value.int IntKind.i64 0).cells=#[Value.int .i64 0] from rfl,toList_madeCells_one];simp
 rw[e]at r1;simpa using r1
end Go.G5
namespace Go.Proofs.YtipejodijbjpcaaGreatDoor
open Go.RowKit Go.G5
def oD(n:Int)(l:List Int):Bool:=bP n l&&cY n l
def mT(n:Int):List Int:=List.replicate n.toNat (-2000)
def nW(n:Int):List Int:=List.replicate n.toNat 0
def pM(n:Int)(l:List Int):Bool:=oD n l&&eV n l (mT n) (nW n)
def kW(n:Int)(l:List Int):List Int:=if oD n l then kX n l (mT n) (nW n) else []
theorem RI(w:World)(n:Int)(v:Value)(l:List Int)(hv:aD w v l)(hl:l.length<=1048576):
  Calls Tryz.prog 19 #[.agg #[.int .i64 n,v]] w fun e' w'=>∃ad i c,e'=.returned (.tuple #[.slice ad i c,.bool (pM n l)])/\aC 3 w.heap.size w' (.slice ad i c) (kW n l)/\Below w.heap.size w w':=by
 obtain⟨a,c,rfl⟩:=hv.shape;obtain⟨V,hV⟩:∃V,V=w.alloc (.cells #[.int .i64 n,.slice a l.length c] 32):=⟨_,rfl⟩;have B:Below w.heap.size w V:=by rw[hV];exact aM _ _
 have K:aB V w.heap.size 32 #[.int .i64 n,.slice a l.length c]:=by rw[hV];exact aB.new _ _ _
 go_enter Tryz.func19,Tryz.ntmps19;go_wp2_with fail;rw[<-hV];clear hV;refine(nC n l _ V (hv.below B (Nat.le_refl _))).mono ?_;rintro e' w1 ⟨rfl,b1⟩;have K:=K.keep b1;have B:=B.after b1 B.size;have G:=K.cell
 cases hg:bP n l with
 |false=>
  have hd:oD n l=false:=by unfold oD;rw[hg];rfl
  have S:pM n l=false:=by unfold pM;rw[hd];rfl
  have U:kW n l=[]:=by unfold kW;rw[hd];rfl
  have M:=Lib.hid (And.intro S U);clear S U hg hd;go_wp2;go_ret2;exact⟨none,0,0,by rw[M.out.1];rfl,by rw[M.out.2];exact aC.nil _ _ _,B⟩
 |true=>
 go_wp2_with fail;clear G;refine(jP n l _ w1 (hv.below B (Nat.le_refl _)) hl).mono ?_;rintro e' w2 ⟨rfl,b2⟩;have K:=K.keep b2;have B:=B.after b2 B.size;have G:=K.cell
 cases hs:cY n l with
 |false=>
  have hd:oD n l=false:=by unfold oD;rw[hs];simp
  have S:pM n l=false:=by unfold pM;rw[hd];rfl
  have U:kW n l=[]:=by unfold kW;rw[hd];rfl
  have M:=Lib.hid (And.intro S U);clear S U hg hd hs;go_wp2;go_ret2;exact⟨none,0,0,by rw[M.out.1];rfl,by rw[M.out.2];exact aC.nil _ _ _,B⟩
 |true=>
 have hd:oD n l=true:=by unfold oD;rw[hg,hs];rfl
 have S:pM n l=eV n l (mT n) (nW n):=by unfold pM;rw[hd];rfl
 have U:kW n l=kX n l (mT n) (nW n):=by unfold kW;rw[hd];rfl
 obtain⟨N,hN,g4⟩:∃N:Nat,n=N/\N<=5:=by
  obtain⟨N,h1,h2,_⟩:=bN (jD hg);exact⟨N,h1,h2⟩
 subst hN;have R:mT (N:Int)=List.replicate N (-2000):=by unfold mT;simp
 have Y:nW (N:Int)=List.replicate N 0:=by unfold nW;simp
 have M:=Lib.hid (And.intro S (And.intro U (And.intro R Y)));clear S U hd hg hs R Y;go_wp2_with (at_make;refine nZ rfl _ _ _ rfl 3 Tryz.underlying22 aG N _ _ rfl rfl rfl rfl (by omega) ?_;intro w3 z a9);have b3:Below w2.heap.size w2 w3:=(Below.refl _ _).grown a9 (Nat.le_refl _) (by simp);have zk:=K.lt;have K:=K.keep b3;have z:=z.mono (B':=w.heap.size+1) zk;have B:=B.after b3 B.size;obtain⟨g,a8⟩:∃g,g=w2.heap.size:=⟨_,rfl⟩;rw[<-a8]at z ⊢;clear a8 a9 b3 G;obtain⟨D,Q⟩:∃D:List Int,D=List.replicate N (-2000):=⟨_,rfl⟩;have L:D.length=N:=by rw[Q];simp
 have a7:∀k,(h:k<D.length)->D[k]=-2000:=by subst Q;intro k h;simp
 have e0:List.replicate N (0:Int)=D.take 0++List.replicate (D.length-0) 0:=by rw[L];simp
 rw[e0]at z;have A:=Lib.hid (And.intro Q (And.intro L a7));clear Q L a7 e0;go_loopw [19] (fun i wr=>∃k:Nat,k<=N/\i=.int .i64 k/\aC 3 (w.heap.size+1) wr (.slice (some ⟨g,0,none⟩) N N) (D.take k++List.replicate (D.length-k) 0)/\aB wr w.heap.size 32 #[.int .i64 (N:Int),.slice a l.length c]/\Below w.heap.size w wr) (fun i _=>N-(intOf i).toNat)
 case atStart=>exact⟨0,Nat.zero_le _,rfl,z,K,B⟩
 case round=>
  obtain⟨k,hk,rfl,o,Kr,Br⟩:=hrel;clear z K B;have HO:=Lib.hid o;clear o;have I:=JZ D k (by rw[A.out.2.1];exact hk);rw[A.out.2.1]at I HO
  by_cases hlt:k<N
  ·have b4:(k:Int)<(N:Int):=by omega
   have F:∃q,wr.cell? ⟨g,k,none⟩=some q:=⟨_,HO.out.cellAt I.symm k (by omega)⟩;obtain⟨q,F⟩:=F;have g5:=HO.out.frozenAt I.symm k;have g6:=(HO.out.lt g rfl).1;have st:=HO.out.stored I.symm k (-2000) ⟨by omega,by omega⟩;have Z:k<D.length:=by rw[A.out.2.1];exact hlt
   have fs:=EE D k Z;rw[A.out.2.2 k Z,A.out.2.1]at fs;rw[fs]at st;have B1:=Br.grown st.2 Br.size (fun q hq=>by have:=Option.some.inj hq;omega);have K1:=Kr.far (p:=⟨g,k,none⟩) (by show w.heap.size≠g;omega) (.int .i64 (-2000));have e6:=Lib.hid st.1;clear st fs I Z;go_wp2;go_roundw
   case rel=>exact⟨k+1,by omega,by go_num,by rw[A.out.2.1];exact e6.out,K1,B1⟩
   case measure=>simp[intOf];omega
  ·have b4:¬(k:Int)<(N:Int):=by omega
   have b0:k=N:=by omega
   have o:=HO.out;rw[b0,Nat.sub_self,List.take_of_length_le (by rw[A.out.2.1];exact Nat.le_refl _)]at o;simp only[List.replicate_zero,List.append_nil]at o;rw[A.out.1,<-M.out.2.2.1]at o;have od:aC 3 (w.heap.size+1) wr.drew (.slice (some ⟨g,0,none⟩) N N) (mT (N:Int)):=o.drewN 1;have Kd:aB wr.drew w.heap.size 32 #[.int .i64 (N:Int),.slice a l.length c]:=Kr;have Bd:Below w.heap.size w wr.drew:=Br.drew;have f0:aD wr.drew (.slice a l.length c) l:=hv.below Bd (Nat.le_refl _);have HZ:=Lib.hid M.out.2.2.2;have G:=Kr.cell;have Gd:=Kd.cell;have e4:=Lib.hid (fun(W:World) (t:Value) (h:Below wr.drew.heap.size wr.drew W) (ht:aD W t (nW (N:Int)))=>OG W N _ l (f0.keep h) hl _ _ (od.keep h).ints t _ ht);obtain⟨O,hO⟩:∃O,O=Obj.cells (madeCells #[.int .i64 0] N) 3:=⟨_,rfl⟩;have g8:∀W,(Instr.makeSlice 22 (.int .i64 (N:Int)) (.int .i64 (N:Int))).run Tryz.prog W=.ok (.slice (some ⟨W.heap.size,0,none⟩) N N) (W.alloc O):=by
    rw[hO];exact fun W=>(H4 22 3 Tryz.underlying22 aG N (by omega) W).1
   have b7:aC 3 wr.heap.size (wr.alloc O) (.slice (some ⟨wr.heap.size,0,none⟩) N N) (List.replicate N 0):=by
    rw[hO];exact(H4 22 3 Tryz.underlying22 aG N (by omega) wr).2
   have e5:=Lib.hid (b7.drewN 1);have K5:aB (wr.alloc O) w.heap.size 32 #[.int .i64 (N:Int),.slice a l.length c]:=Kr.alloc O;have G5:=K5.cell;have b5:Below wr.drew.heap.size wr.drew (wr.alloc O).drew:=aM wr.drew O;have B5:Below w.heap.size w (wr.alloc O).drew:=Bd.after b5 Bd.size;clear o b0 hO b7;go_wp2_with fail;go_region_law
    (go_simp;go_at_call 128;refine(e4.out (wr.alloc O).drew _ b5 (by rw[HZ.out];exact e5.out.ints)).mono ?_;rintro e' w6 ⟨p6,i6,q6,rfl,o6,b6⟩)
   all_goals
    go_wp2;go_ret2;exact⟨p6,i6,q6,by rw[M.out.1];rfl,by rw[M.out.2.1];exact o6.mono B5.size,B5.after b6 B5.size⟩
theorem RG(w:World)(n:Int)(v:Value)(l:List Int)(hv:aD w v l)(hl:l.length<=1048576):
  Calls Tryz.prog 159 #[.agg #[.int .i64 n,v]] w fun e' w'=>∃ad i c,e'=.returned (.tuple #[.slice ad i c,.bool (pM n l)])/\aC 3 w.heap.size w' (.slice ad i c) (kW n l)/\Below w.heap.size w w':=by
 obtain⟨a,c,rfl⟩:=hv.shape;obtain⟨V,hV⟩:∃V,V=w.alloc (.cells #[.int .i64 n,.slice a l.length c] 32):=⟨_,rfl⟩;have B:Below w.heap.size w V:=by rw[hV];exact aM _ _
 have K:aB V w.heap.size 32 #[.int .i64 n,.slice a l.length c]:=by rw[hV];exact aB.new _ _ _
 go_enter Tryz.func159,Tryz.ntmps159;go_wp2_with fail;rw[<-hV];clear hV;refine(kJ n l _ V (hv.below B (Nat.le_refl _))).mono ?_;rintro e' w1 ⟨rfl,b1⟩;have K:=K.keep b1;have B:=B.after b1 B.size;have G:=K.cell
 cases Y:bP n l with
 |false=>
  have hd:oD n l=false:=by unfold oD;rw[Y];rfl
  have L:pM n l=false:=by unfold pM;rw[hd];rfl
  have M:kW n l=[]:=by unfold kW;rw[hd];rfl
  have F:=Lib.hid (And.intro L M);clear L M Y hd;go_wp2;go_ret2;exact⟨some ⟨w1.heap.size,0,none⟩,0,0,by rw[F.out.1];rfl,by rw[F.out.2];exact aC.lit0 _ B.size,B.after (aM _ _) B.size⟩
 |true=>
 go_wp2_with fail;clear G;refine(iK n l _ w1 (hv.below B (Nat.le_refl _)) hl).mono ?_;rintro e' w2 ⟨rfl,b2⟩;have K:=K.keep b2;have B:=B.after b2 B.size;have G:=K.cell
 cases hs:cY n l with
 |false=>
  have hd:oD n l=false:=by unfold oD;rw[hs];simp
  have L:pM n l=false:=by unfold pM;rw[hd];rfl
  have M:kW n l=[]:=by unfold kW;rw[hd];rfl
  have F:=Lib.hid (And.intro L M);clear L M Y hd hs;go_wp2;go_ret2;exact⟨some ⟨w2.heap.size,0,none⟩,0,0,by rw[F.out.1];rfl,by rw[F.out.2];exact aC.lit0 _ B.size,B.after (aM _ _) B.size⟩
 |true=>
 have hd:oD n l=true:=by unfold oD;rw[Y,hs];rfl
 have L:pM n l=eV n l (mT n) (nW n):=by unfold pM;rw[hd];rfl
 have M:kW n l=kX n l (mT n) (nW n):=by unfold kW;rw[hd];rfl
 obtain⟨N,hN,g7⟩:∃N:Nat,n=N/\N<=5:=by
  obtain⟨N,h1,h2,_⟩:=bN (jD Y);exact⟨N,h1,h2⟩
 subst hN;have I:mT (N:Int)=List.replicate N (-2000):=by unfold mT;simp
 have O:nW (N:Int)=List.replicate N 0:=by unfold nW;simp
 have F:=Lib.hid (And.intro L (And.intro M (And.intro I O)));clear L M hd Y hs I O;obtain⟨W0,A⟩:∃W,W=(w2.alloc (.cells #[] 3)).alloc (.cells #[] 3):=⟨_,rfl⟩;have b0:Below w2.heap.size w2 W0:=by rw[A];exact cD _ _ _
 have zk:=K.lt;have ox:aC 3 (w.heap.size+1) W0 (.slice (some ⟨w2.heap.size,0,none⟩) 0 0) (List.replicate 0 (-2000)):=by rw[A];exact(aC.lit0 w2 zk).alloc _
 have oz:aC 3 (w.heap.size+1) W0 (.slice (some ⟨w2.heap.size+1,0,none⟩) 0 0) (List.replicate 0 0):=by rw[A];exact(aC.lit0' w2 _).mono zk
 have ap:aF (.slice (some ⟨w2.heap.size,0,none⟩) 0 0) (.slice (some ⟨w2.heap.size+1,0,none⟩) 0 0):=fun k h1 h2=>by
  have e1:w2.heap.size=k:=Option.some.inj h1;have e2:w2.heap.size+1=k:=Option.some.inj h2;omega
 have K:=K.keep b0;have B:=B.after b0 B.size;go_wp2_with fail;rw[<-A];clear A b0 G;go_loopw [4,5,6] (fun x z i wr=>∃(k:Nat) (Z:Option Addr) (n1 c1:Nat) (a2:Option Addr) (n2 c2:Nat),k<=N/\i=.int .i64 k/\x=.slice Z n1 c1/\z=.slice a2 n2 c2/\aC 3 (w.heap.size+1) wr (.slice Z n1 c1) (List.replicate k (-2000))/\aC 3 (w.heap.size+1) wr (.slice a2 n2 c2) (List.replicate k 0)/\aF (.slice Z n1 c1) (.slice a2 n2 c2)/\aB wr w.heap.size 32 #[.int .i64 (N:Int),.slice a l.length c]/\Below w.heap.size w wr) (fun _ _ i _=>N-(intOf i).toNat)
 case atStart=>exact⟨0,_,_,_,_,_,_,Nat.zero_le _,rfl,rfl,rfl,ox,oz,ap,K,B⟩
 case round=>
  obtain⟨k,Z,n1,c1,a2,n2,c2,hk,rfl,rfl,rfl,o,D,a6,Kr,U⟩:=hrel;clear ox oz ap K B;have G:=Kr.cell
  by_cases hlt:k<N
  ·have a8:(k:Int)<(N:Int):=by omega
   have h8:=Kr.lt;go_wp2_with (first
    |(at_builtin;refine bB rfl _ _ _ rfl 3 Tryz.underlying22 aG (w.heap.size+1) (.slice Z n1 c1) (List.replicate k (-2000)) (-2000) _ rfl rfl (aT _ _ _ _ _ rfl) (o.alloc _) ⟨by omega,by omega⟩ (by simp;omega) (by simp;omega) ?_;intro v5 w5 o5 g5 h5;obtain⟨p5,i5,q5,rfl⟩:=o5.shape3;have S:=(D.alloc (.cells #[.int .i64 (-2000)] 3)).growA g5 a6;have a7:=h5.apart a6 (fun q R=>(((D.alloc (.cells #[.int .i64 (-2000)] 3))).lt q R).2);have B5:=(U.after (aM wr (.cells #[.int .i64 (-2000)] 3)) U.size).grown g5 (by simp;omega) (fun q R=>by have:=(o.lt q R).1;omega);have K5:=(Kr.alloc (.cells #[.int .i64 (-2000)] 3)).grow g5 (fun e=>by have:=(o.lt _ e).1;omega);have z5:=K5.lt)
    |(at_builtin;refine bB rfl _ _ _ rfl 3 Tryz.underlying22 aG (w.heap.size+1) (.slice a2 n2 c2) (List.replicate k 0) 0 _ rfl rfl (aT _ _ _ _ _ rfl) (S.alloc _) ⟨by omega,by omega⟩ (by simp;omega) (by simp;omega) ?_;intro v6 w6 o6 g6 h6;obtain⟨p6,i6,q6,rfl⟩:=o6.shape3))
   have e4:=(o5.alloc (.cells #[.int .i64 0] 3)).growA g6 a7.symm;have c6:=(h6.apart a7.symm (fun q R=>((o5.alloc (.cells #[.int .i64 0] 3)).lt q R).2)).symm;have B6:=(B5.after (aM w5 (.cells #[.int .i64 0] 3)) B5.size).grown g6 (by simp;omega) (fun q R=>by have:=(S.lt q R).1;omega);have K6:=(K5.alloc (.cells #[.int .i64 0] 3)).grow g6 (fun e=>by have:=(S.lt _ e).1;omega);go_roundw
   case rel=>exact⟨k+1,p5,i5,q5,p6,i6,q6,by omega,by go_num,rfl,rfl,by rw[List.replicate_succ'];exact e4,by rw[List.replicate_succ'];exact o6,c6,K6,B6⟩
   case measure=>simp[intOf];omega
  ·have a8:¬(k:Int)<(N:Int):=by omega
   have Q:k=N:=by omega
   rw[Q,<-F.out.2.2.1]at o;rw[Q,<-F.out.2.2.2]at D;have HO:=Lib.hid (And.intro o D);clear Q o D;have b8:=Lib.hid (NR wr N _ l (hv.below U (Nat.le_refl _)) hl _ _ HO.out.1.ints _ _ HO.out.2.ints);go_wp2_with (go_at_call 270;refine b8.out.mono ?_;rintro e' w6 ⟨p6,i6,q6,rfl,o6,b6⟩);go_ret2;exact⟨p6,i6,q6,by rw[F.out.1];rfl,by rw[F.out.2.1];exact o6.mono U.size,U.after b6 U.size⟩
end Go.Proofs.YtipejodijbjpcaaGreatDoor
end
namespace Go.Proofs.YtipejodijbjpcaaGreatDoor
section
open Go.RowKit Go.G5
theorem V8(w:World)(n:Int)(v:Value)(l:List Int)(hv:aD w v l)(_:l.length<=1048576):
  Calls Tryz.prog 345 #[.agg #[.int .i64 n,v]] w fun e w'=>∃A i D,e=.returned (.tuple #[.agg #[.int .i64 (sT n l),.slice A i D],.bool (aN n l)])/\aC 3 w.heap.size w' (.slice A i D) (sH n l)/\Below w.heap.size w w':=by
 obtain⟨a,b,g5,c,rfl,e0,c6,hc,hb⟩:=hv.view Tryz.prog 22 3 Tryz.underlying22 aG;go_enter Tryz.func345,Tryz.ntmps345;go_wp2_with fail;refine aH ?_;intro V hV;have B:Below w.heap.size w V:=by rw[hV];exact cD _ _ _
 have U:aB V w.heap.size 32 #[.int .i64 n,.slice a l.length c]:=by rw[hV];exact(aB.new _ _ _).alloc _
 have z:aB V (w.heap.size+1) 32 #[.int .i64 0,.slice none 0 0]:=by rw[hV];have:=aB.new (w.alloc (.cells #[.int .i64 n,.slice a l.length c] 32)) 32 #[.int .i64 0,.slice none 0 0];simpa using this
 clear hV;refine(cI n l _ _ (hv.below B (Nat.le_refl _))).mono ?_;rintro e N ⟨rfl,I⟩;have U:=U.keep I;have z:=z.keep I;have S:=B.after I B.size;have f9:=hv.below S (Nat.le_refl _);clear B I;have G1:=U.cell;have z1:=U.lt;have z2:=z.lt
 cases K:aN n l with
 |false=>
  have Z:sT n l=0:=by unfold sT;rw[K];rfl
  have Y:sH n l=[]:=by unfold sH;rw[K];rfl
  have HN:=Lib.hid Z;have HL:=Lib.hid Y;have HF:=Lib.hid K;have G2:=z.cell;have F2:=z.frozen;clear Z Y;go_wp2;refine aI ?_;intro Wf o;have O:aB Wf (w.heap.size+1) 32 #[.int .i64 0,.slice none 0 0]:=by
   rw[o];have:=(z.set 0 (.int .i64 0)).set 1 (.slice none 0 0);simpa using this
  have Bf:Below w.heap.size w Wf:=by rw[o];exact Below.setCell (Below.setCell S (by first|omega|(simp;done)|(simp;omega)) _) (by first|omega|(simp;done)|(simp;omega)) _
  have Gf:=O.cell;clear o G1 G2 F2;exact bodyPost_ret (v:=.tuple #[.agg #[.int .i64 0,.slice none 0 0],.bool false]) (by simp[results,Tryz.results345,go_sem,Gf]) rfl ⟨none,0,0,by rw[HN.out,HF.out],by rw[HL.out];exact aC.nil _ _ _,Bf⟩
 |true=>
  obtain⟨h0,h5,Q,a1⟩:=jS K;have d0:l.length<=32:=by
   have hp:=(iX h0 h5).1;omega
  have Z:sT n l=n:=by unfold sT;rw[K];rfl
  have Y:sH n l=bM (mX l) l.length:=by unfold sH;rw[K];rfl
  have HN:=Lib.hid Z;have HL:=Lib.hid Y;have HF:=Lib.hid K;have b6:=Lib.hid a1;have o0:=aC.lit0 (E:=3) (B:=N.heap.size) N (Nat.le_refl _);clear Z Y K Q a1;go_wp2_with fail;go_loopw [4,5] (fun out i wr=>∃(k:Nat) (A:Option Addr) (M D:Nat),k<=l.length/\out=.slice A M D/\i=.int .i64 k/\aC 3 N.heap.size wr (.slice A M D) (bM (mX l) k)/\Below N.heap.size N wr)
   (fun _ i _=>l.length-(intOf i).toNat)
  case atStart=>exact⟨0,_,_,_,Nat.zero_le _,rfl,rfl,o0,aM _ _⟩
  case round=>
   obtain⟨k,A,M,D,hk,rfl,rfl,ho,B⟩:=hrel;have HO:=Lib.hid ho;have Kr:=U.keep B;clear ho o0 G1;have G1:=Kr.cell;have yB:=B.size
   by_cases hlt:k<l.length
   ·have R:=nO (mX l) k
    have a6:=wM l k hlt;have ck:=aK hc hb (S.after B S.size) (Nat.le_refl _) (l.length-1-k) (by omega);have ik:=fun W=>c6 W (l.length-1-k) (by omega);have F:=b6.out (l.length-1-k) (by omega);have g0:IntKind.i64.wrap ((l.length:Int)-1)=(l.length:Int)-1:=by rw[IntKind.wrap_i64];omega
    have g1:IntKind.i64.wrap ((l.length:Int)-1-k)=((l.length-1-k:Nat):Int):=by rw[IntKind.wrap_i64];omega
    rw[<-a6]at ck F;obtain⟨x,hx⟩:∃x,x=mX l k:=⟨_,rfl⟩;rw[<-hx]at ck F R;have f6:(bM (mX l) k).length<=32:=by unfold bM;simp;omega
    have b7:=Lib.hid R;have g2:=F.1;have g3:=F.2;clear R a6 hx F;go_wp2_with (at_builtin;refine bB rfl _ _ _ rfl 3 Tryz.underlying22 aG N.heap.size _ _ x wr.heap.size rfl rfl (aT wr #[.int .i64 x] 3 0 _ rfl) (HO.out.alloc _) ⟨by omega,by omega⟩ (by omega) (by simp;omega) ?_;intro v' w6 L c5 f7;obtain⟨av,nv,cv,rfl⟩:=L.shape3);have B6:Below N.heap.size N w6:=(B.alloc B.size (.cells #[.int .i64 x] 3)).grown c5 (by simp;omega) (fun q hq=>(HO.out.lt q hq).1);go_roundw
    case rel=>exact⟨k+1,av,nv,cv,by omega,rfl,by go_num,by rw[b7.out];exact L,B6⟩
    case measure=>simp[intOf];omega
   ·have c7:k=l.length:=by omega
    subst c7;have z:=z.keep B;have B7:=S.after B S.size;have G2:=z.cell;have F2:=z.frozen;have g7:=z.lt;go_wp2;refine aI ?_;intro Wf o;have O:aB Wf (w.heap.size+1) 32 #[.int .i64 n,.slice A M D]:=by
     rw[o];have:=(z.set 0 (.int .i64 n)).set 1 (.slice A M D);simpa using this
    have Bf:Below w.heap.size w Wf:=by rw[o];exact Below.setCell (Below.setCell B7 (by first|omega|(simp;done)|(simp;omega)) _) (by first|omega|(simp;done)|(simp;omega)) _
    have of:aC 3 w.heap.size Wf (.slice A M D) (bM (mX l) l.length):=by rw[o];exact((HO.out.setBelow (by first|omega|(simp;done)|(simp;omega)) _).setBelow (by first|omega|(simp;done)|(simp;omega)) _).mono (by first|omega|(simp;done)|(simp;omega))
    have Gf:=O.cell;clear o G1 G2 F2;exact bodyPost_ret (v:=.tuple #[.agg #[.int .i64 n,.slice A M D],.bool true]) (by simp[results,Tryz.results345,go_sem,Gf]) rfl ⟨A,M,D,by rw[HN.out,HF.out],by rw[HL.out];exact of,Bf⟩
theorem SE(n:Int)(l:List Int)(v:Value)(w:World)(K:aD w v l)(Y:l.length<=1048576):
  Calls Tryz.prog 300 #[.agg #[.int .i64 n,v]] w fun e w'=>e=.returned (.bool (oT n l))/\Below w.heap.size w w':=by
 obtain⟨a,c,rfl⟩:=K.shape;have U:=aB.new w 32 #[.int .i64 n,.slice a l.length c];go_enter Tryz.func300,Tryz.ntmps300;go_wp2_with fail;refine(V8 _ n _ l (K.alloc _) Y).mono ?_;rintro e w1 ⟨p1,Z,q1,rfl,R,z⟩;have M:=U.keep z;have F:Below w.heap.size w w1:=(aM _ _).after z (by simp);have y1:=F.size;have z1:=M.lt
 cases A:aN n l with
 |false=>
  have D:oT n l=false:=by unfold oT;rw[A];rfl
  have S:=Lib.hid D;clear D A;go_wp2;go_ret;exact⟨by rw[S.out];rfl,(by repeat(first|exact Below.refl _ _|(with_reducible refine Below.setCell ?_ (by first|omega|(simp;done)|(simp;omega)) _)|(with_reducible refine Below.alloc ?_ (by first|omega|(simp;done)|(simp;omega)) _)|(with_reducible refine Below.drewN' ?_ _)|(with_reducible refine Below.drew ?_)|(with_reducible assumption)|refine Below.trans ?_ (Below.mono (by assumption) (by first|omega|(simp;done)|(simp;omega)))))⟩
 |true=>
  have D:oT n l=decide (l=kP l):=by unfold oT;rw[A];rfl
  have O:sH n l=kP l:=by unfold sH;rw[A];rfl
  rw[O]at R;have o:=fun W (h1:aD W (.slice a l.length c) l) (h2:aD W (.slice p1 Z q1) (kP l))=>nY _ _ l (kP l) W h1 h2;simp only[<-D]at o;have I:=Lib.hid o;obtain⟨N,Q⟩:∃N,N=sT n l:=⟨_,rfl⟩;rw[<-Q];have L:=K.below F (Nat.le_refl _);clear D Q O o A;have G1:=M.cell;go_wp2_with (go_at_call 114;refine(I.out _ (L.alloc _) (R.alloc _).ints).mono ?_;rintro e w2 ⟨rfl,nn,rfl⟩);go_ret;exact⟨rfl,(F.alloc F.size _).drewN' _⟩
theorem AY(n:Int)(l:List Int)(v:Value)(w:World)(L:aD w v l)(M:l.length<=1048576):
  Calls Tryz.prog 199 #[.agg #[.int .i64 n,v]] w fun e w'=>e=.returned (.bool (eF n l))/\Below w.heap.size w w':=by
 obtain⟨a,c,rfl⟩:=L.shape;have I:=aB.new w 32 #[.int .i64 n,.slice a l.length c];have Q:=I.cell
 by_cases N:2<=n
 ·go_enter Tryz.func199,Tryz.ntmps199
  go_wp2_with fail;refine(iK n l _ _ (L.alloc _) M).mono ?_;rintro e S ⟨rfl,z⟩;have R:=I.keep z;have D:Below w.heap.size w S:=(aM _ _).after z (by simp);clear z I Q
  cases F:cY n l with
  |false=>
   have o:eF n l=false:=by unfold eF;rw[F];rfl
   have A:=Lib.hid o;clear o F;go_wp2;go_ret;exact⟨by rw[A.out];rfl,D⟩
  |true=>
   have o:eF n l=oT n l:=by unfold eF;rw[F,decide_eq_true N];simp
   have A:=Lib.hid o;clear F o;have U:=R.cell;go_wp2_with fail;refine(SE n l _ _ (L.below D (Nat.le_refl _)) M).mono ?_;rintro e w2 ⟨rfl,K⟩;have O:=D.after K D.size;go_wp2;go_ret;exact⟨by rw[A.out];rfl,O⟩
 ·have o:eF n l=false:=by unfold eF;rw[decide_eq_false N];simp
  have A:=Lib.hid o;clear o;go_enter Tryz.func199,Tryz.ntmps199;go_wp2;go_ret;exact⟨by rw[A.out];rfl,aM _ _⟩
theorem vI(w:World)(n:Int)(v:Value)(l:List Int)(hv:aD w v l)(hl:l.length<=1048576):
  Calls Tryz.prog 61 #[.agg #[.int .i64 n,v]] w fun e w'=>e=.returned (.tuple #[.int .i64 (gL n l),.int .i64 (gZ n l),.bool (eF n l)])/\Below w.heap.size w w':=by
 have a7:=hv;obtain⟨a,b,f5,c,rfl,c9,R,hc,hb⟩:=hv.view Tryz.prog 22 3 Tryz.underlying22 aG;have K0:=aB.new w 32 #[.int .i64 n,.slice a l.length c]
 cases A:eF n l with
 |false=>
  have O:gL n l=0:=by unfold gL;rw[A];rfl
  have Q:gZ n l=0:=by unfold gZ;rw[A];rfl
  have H:=Lib.hid (And.intro O Q);have HF:=Lib.hid A;clear O Q A hc;go_enter Tryz.func61,Tryz.ntmps61;go_wp2_with (go_at_call 199;refine(AY n l _ _ (a7.alloc _) hl).mono ?_;rintro e w1 ⟨rfl,o⟩;rw[HF.out]);go_ret3;exact⟨by rw[H.out.1,H.out.2];rfl,(aM _ _).after o (by simp)⟩
 |true=>
  obtain⟨h4,f2,D,f4,Y⟩:=zL A;have f3:0<=n:=by have:=(BN A).2;omega
  have O:gL n l=l.getD (gA l (l.length-1)) 0:=by unfold gL;rw[A];rfl
  have Q:gZ n l=(gA l (l.length-1):Int):=by unfold gZ;rw[A];rfl
  have H:=Lib.hid (And.intro O Q);have HF:=Lib.hid A;have e7:=Lib.hid Y;have HC:=Lib.hid hc;have I:=Lib.hid R;have L:=Lib.hid D;clear O Q A Y hc R D;go_enter Tryz.func61,Tryz.ntmps61;go_wp2_with fail;refine(AY n l _ _ (a7.alloc _) hl).mono ?_;rintro e w1 ⟨rfl,o⟩;rw[HF.out];have K1:=K0.keep o;have B1:Below w.heap.size w w1:=(aM _ _).after o (by simp);clear K0 o;go_wp2_with fail;go_loopw [5,6] (fun b5 i wr=>∃k:Nat,2<=k/\k<=l.length-1/\i=.int .i64 k/\b5=.int .i64 (gA l k:Int)/\Below w.heap.size w wr/\aB wr w.heap.size 32 #[.int .i64 n,.slice a l.length c]) (fun _ i _=>l.length-(intOf i).toNat)
  case atStart=>exact⟨2,by omega,by omega,rfl,rfl,B1,K1⟩
  case round=>
   obtain⟨k,S,hk,rfl,rfl,B,K⟩:=hrel;have G1:=K.cell;have b6:=vD l k S;obtain⟨p,hp⟩:∃p,p=gA l k:=⟨_,rfl⟩;rw[<-hp]at b6 ⊢;have cp:=HC.out p (by omega);have N:=aK HC.out hb B (Nat.le_refl _) p (by omega);have ip:=fun W=>I.out W p (by omega)
   by_cases hlt:k<l.length-1
   ·have z:=sP l k S
    rw[<-hp,aJ l k (by omega),aJ l p (by omega)]at z;have ck:=aK HC.out hb B (Nat.le_refl _) k (by omega);have ik:=fun W=>I.out W k (by omega);obtain⟨x,hx⟩:∃x,x=l[k]:=⟨_,rfl⟩;obtain⟨y,hy⟩:∃x,x=l[p]:=⟨_,rfl⟩;rw[<-hx]at ck z;rw[<-hy]at N z;have Z:(k:Int)<2^n.toNat-1:=by rw[<-L.out];omega
    have M:=Lib.hid z;clear z hp hx hy cp;have b9:IntKind.i64.wrap ((l.length:Int)-1)=(l.length:Int)-1:=by rw[IntKind.wrap_i64];omega
    have a1:(k:Int)<(l.length:Int)-1:=by omega
    have B3:=B;have K3:=K
    by_cases a8:x<y
    ·have F:=Lib.hid (M.out.trans (if_pos a8))
     go_wp2_with fail;go_quiet (fail);go_wp2;go_roundw
     case rel=>exact⟨k+1,by omega,by omega,by go_num,by rw[F.out],B3.drewN' _,K3.drewN _⟩
     case measure=>simp[intOf];omega
    ·have F:=Lib.hid (M.out.trans (if_neg a8))
     go_wp2_with fail;go_quiet (fail);go_wp2;go_roundw
     case rel=>exact⟨k+1,by omega,by omega,by go_num,by rw[F.out],B3.drewN' _,K3.drewN _⟩
     case measure=>simp[intOf];omega
   ·have U:k=l.length-1:=by omega
    have Z:¬(k:Int)<2^n.toNat-1:=by rw[<-L.out];omega
    have hg:l.getD p 0=l[p]:=aJ l p (by omega);obtain⟨y,hy⟩:∃x,x=l[p]:=⟨_,rfl⟩;rw[<-hy]at N hg;have HP:=Lib.hid hp;have HG:=Lib.hid hg;have b4:=Lib.hid U;clear hp hg U hy cp;have b9:IntKind.i64.wrap ((l.length:Int)-1)=(l.length:Int)-1:=by rw[IntKind.wrap_i64];omega
    have a1:¬(k:Int)<(l.length:Int)-1:=by omega
    have B3:=B;go_wp2;go_ret3;exact⟨by rw[H.out.1,H.out.2,<-b4.out,<-HP.out,HG.out];rfl,B3⟩
end
end Go.Proofs.YtipejodijbjpcaaGreatDoor
