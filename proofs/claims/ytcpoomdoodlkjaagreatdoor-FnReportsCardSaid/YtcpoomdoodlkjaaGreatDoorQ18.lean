/- Lemmas for CardReports. No condition. -/
import Derived.Test.YtcpoomdoodlkjaaGreatDoorQ17
import Derived.Deep.OwnRows
set_option maxRecDepth 100000
set_option maxHeartbeats 64000000
section
namespace Go.G5
open Go.RowKit
theorem S7{P:Program}(t E:TypeId)(ht:P.underlying t=some (.slice E))(K:IntElem P E)(n:Nat)(N:n<=17592186044416)(w:World):
  (Instr.makeSlice t (aM (n:Int)) (aM (n:Int))).run P w=.ok (aI (some ⟨w,0,none⟩) n n) (w.alloc (.cells (madeCells #[aJ] n) E))/\aP E w.heap.size (w.alloc (.cells (madeCells #[aJ] n) E)) (aI (some ⟨w,0,none⟩) n n) (List.replicate n 0):=by
 obtain⟨i,F,I,h1,D⟩:=K.get;obtain⟨w',z,J,O⟩:=run_make_full (P:=P) w w.heap.size t E i (aM 0) 1 ht F I h1 .i64 .i64 n (by rw[D];omega) (by unfold maxLen;omega) aO;have h2:=run_make_row (P:=P) t E i (aM 0) ht F I h1 rfl .i64 .i64 n (by rw[D];omega) aK w;refine⟨h2,?_⟩;rw[z]at h2;injection h2 with _ h3;subst h3;refine⟨?_,by intro y M;have:=List.eq_of_mem_replicate M;subst this;exact⟨by omega,by omega⟩⟩;have e:(madeCells (Value.int IntKind.i64 0).cells (n*1)).toList=(List.replicate n (0:Int)).map (Value.int .i64):=by rw[show(Value.int IntKind.i64 0).cells=#[Value.int .i64 0] from rfl,toList_madeCells_one];simp
 rw[e]at J;simpa using J
end Go.G5
namespace Go.Proofs.YtcpoomdoodlkjaaGreatDoor
open Go.RowKit Go.G5 Go.Proofs.Tryz
def xO(n:Int)(l:List Int):Bool:=gE n l&&gR n l
def wI(n:Int):List Int:=List.replicate n.toNat (-2000)
def yG(n:Int):List Int:=List.replicate n.toNat 0
def vA(n:Int)(l:List Int):Bool:=xO n l&&iV n l (wI n) (yG n)
def rH(n:Int)(l:List Int):List Int:=if xO n l then qX n l (wI n) (yG n) else []
theorem aaT(w:World)(n:Int)(v:Value)(l:List Int)(hv:aR w v l)(hl:l.length<=1048576):
  Calls prog 73 #[.agg #[n,v]] w fun e' w'=>∃ad i c,e'=.returned (.tuple #[aI ad i c,.bool (vA n l)])/\aP 3 w w' (aI ad i c) (rH n l)/\Below w w w':=by
 obtain⟨a,c,rfl⟩:=hv.shape;obtain⟨V,hV⟩:=aQ (w.alloc (.cells #[n,aI a l.length c] 26));have B:Below w w V:=fU hV;have K:aU V w 26 #[n,aI a l.length c]:=eJ hV;go_enter func73,ntmps73;go_wp2_with fail;rw[<-hV];clear hV;refine(yY n l _ V (hv.below B aO)).mono ?_;rintro e' w1 ⟨rfl,b1⟩;have K:=K.keep b1;have B:=B.after b1 B.size;have G:=K.cell
 cases hg:gE n l with
 |false=>
  have hd:xO n l=false:=by unfold xO;rw[hg];rfl
  have Y:vA n l=false:=by unfold vA;rw[hd];rfl
  have Z:rH n l=[]:=by unfold rH;rw[hd];rfl
  have R:=aN (And.intro Y Z);clear Y Z hg hd;go_wp2;go_ret2;exact⟨none,0,0,by rw[R.out.1];rfl,by rw[R.out.2];exact aP.nil _ _ _,B⟩
 |true=>
 go_wp2_with fail;clear G;refine(sD n l _ w1 (hv.below B aO) hl).mono ?_;rintro e' w2 ⟨rfl,b2⟩;have K:=K.keep b2;have B:=B.after b2 B.size;have G:=K.cell
 cases hs:gR n l with
 |false=>
  have hd:xO n l=false:=by unfold xO;rw[hs];simp
  have Y:vA n l=false:=by unfold vA;rw[hd];rfl
  have Z:rH n l=[]:=by unfold rH;rw[hd];rfl
  have R:=aN (And.intro Y Z);clear Y Z hg hd hs;go_wp2;go_ret2;exact⟨none,0,0,by rw[R.out.1];rfl,by rw[R.out.2];exact aP.nil _ _ _,B⟩
 |true=>
 have hd:xO n l=true:=by unfold xO;rw[hg,hs];rfl
 have Y:vA n l=iV n l (wI n) (yG n):=by unfold vA;rw[hd];rfl
 have Z:rH n l=qX n l (wI n) (yG n):=by unfold rH;rw[hd];rfl
 obtain⟨N,hN,g0⟩:∃N:Nat,n=N/\N<=5:=by obtain⟨N,h1,h2,_⟩:=cX (MS hg);exact⟨N,h1,h2⟩
 subst hN;have S:wI (N:Int)=List.replicate N (-2000):=by unfold wI;simp
 have a1:yG (N:Int)=List.replicate N 0:=by unfold yG;simp
 have R:=aN (And.intro Y (And.intro Z (And.intro S a1)));clear Y Z hd hg hs S a1;go_wp2_with (at_make;refine lA rfl _ _ _ rfl 3 underlying24 aS N _ _ rfl rfl rfl rfl aK ?_;intro w3 z b4);have b3:Below w2 w2 w3:=(Below.refl _ _).grown b4 aO (by simp);have zk:=K.lt;have K:=K.keep b3;have z:=z.mono (B':=w.heap.size+1) zk;have B:=B.after b3 B.size;obtain⟨g,b0⟩:=aQ w2.heap.size;rw[<-b0]at z ⊢;clear b0 b4 b3 G;obtain⟨F,hlo⟩:∃F:List Int,F=List.replicate N (-2000):=⟨_,rfl⟩;have M:F.length=N:=by rw[hlo];simp
 have a9:∀k,(h:k<F.length)->F[k]=-2000:=by subst hlo;intro k h;simp
 have e0:List.replicate N (0:Int)=F.take 0++List.replicate (F.length-0) 0:=by rw[M];simp
 rw[e0]at z;have D:=aN (And.intro hlo (And.intro M a9));clear hlo M a9 e0;go_loopw [19] (fun i wr=>∃k:Nat,k<=N/\i=aM k/\aP 3 (w.heap.size+1) wr (aI (some ⟨g,0,none⟩) N N) (F.take k++List.replicate (F.length-k) 0)/\aU wr w 26 #[(N:Int),aI a l.length c]/\Below w w wr) (fun i _=>N-(intOf i).toNat)
 case atStart=>exact⟨0,Nat.zero_le _,rfl,z,K,B⟩
 case round=>
  obtain⟨k,hk,rfl,o,Kr,Br⟩:=hrel;clear z K B;have HO:=aN o;clear o;have J:=adW F k (by rw[D.out.2.1];exact hk);rw[D.out.2.1]at J HO;by_cases hlt:k<N
  ·have b8:(k:Int)<(N:Int):=aK;have I:∃q,wr.cell? ⟨g,k,none⟩=some q:=⟨_,HO.out.cellAt J.symm k aK⟩;obtain⟨q,I⟩:=I;have g1:=HO.out.frozenAt J.symm k;have g2:=(HO.out.lt g rfl).1;have st:=HO.out.stored J.symm k (-2000) ⟨by omega,by omega⟩;have a6:k<F.length:=by rw[D.out.2.1];exact hlt
   have fs:=NY F k a6;rw[D.out.2.2 k a6,D.out.2.1]at fs;rw[fs]at st;have B1:=Br.grown st.2 Br.size kH;have K1:=Kr.far (p:=⟨g,k,none⟩) (by show w.heap.size≠g;omega) (aM (-2000));have e4:=aN st.1;clear st fs J a6;go_wp2;go_roundw
   case rel=>exact⟨k+1,by omega,by go_num,by rw[D.out.2.1];exact e4.out,K1,B1⟩
   case measure=>simp[intOf];omega
  ·have b8:¬(k:Int)<(N:Int):=aK;have b7:k=N:=aK;have o:=HO.out;rw[b7,Nat.sub_self,List.take_of_length_le (by rw[D.out.2.1];exact aO)]at o;simp only[List.replicate_zero,List.append_nil]at o;rw[D.out.1,<-R.out.2.2.1]at o;have od:aP 3 (w.heap.size+1) wr.drew (aI (some ⟨g,0,none⟩) N N) (wI (N:Int)):=o.drewN 1;have Kd:aU wr.drew w.heap.size 26 #[(N:Int),aI a l.length c]:=Kr;have Bd:Below w w wr.drew:=Br.drew;have e8:aR wr.drew (aI a l.length c) l:=hv.below Bd aO;have HZ:=aN R.out.2.2.2;have G:=Kr.cell;have Gd:=Kd.cell;have d8:=aN (fun(W:World) (t:Value) (h:Below wr.drew.heap.size wr.drew W) (ht:aR W t (yG (N:Int)))=>ZV W N _ l (e8.keep h) hl _ _ (od.keep h).ints t _ ht);obtain⟨O,hO⟩:=aQ (Obj.cells (madeCells #[aJ] N) 3);have g3:∀W,(Instr.makeSlice 24 (aM (N:Int)) (aM (N:Int))).run prog W=.ok (aI (some ⟨W,0,none⟩) N N) (W.alloc O):=by rw[hO];exact fun W=>(S7 24 3 underlying24 aS N aK W).1
   have b9:aP 3 wr (wr.alloc O) (aI (some ⟨wr,0,none⟩) N N) (List.replicate N 0):=by rw[hO];exact(S7 24 3 underlying24 aS N aK wr).2
   have d9:=aN (b9.drewN 1);have K5:aU (wr.alloc O) w.heap.size 26 #[(N:Int),aI a l.length c]:=Kr.alloc O;have G5:=K5.cell;have b5:Below wr.drew.heap.size wr.drew (wr.alloc O).drew:=bF wr.drew O;have B5:Below w w (wr.alloc O).drew:=Bd.after b5 Bd.size;clear o b7 hO b9;go_wp2_with fail;go_region_law
    (go_simp;go_at_call 185;refine(d8.out (wr.alloc O).drew _ b5 (by rw[HZ.out];exact d9.out.ints)).mono ?_;rintro e' w6 ⟨p6,i6,q6,rfl,o6,b6⟩)
   all_goals
    go_wp2;go_ret2;exact⟨p6,i6,q6,by rw[R.out.1];rfl,by rw[R.out.2.1];exact o6.mono B5.size,B5.after b6 B5.size⟩
theorem aaU(w:World)(n:Int)(v:Value)(l:List Int)(hv:aR w v l)(hl:l.length<=1048576):
  Calls prog 81 #[.agg #[n,v]] w fun e' w'=>∃ad i c,e'=.returned (.tuple #[aI ad i c,.bool (vA n l)])/\aP 3 w w' (aI ad i c) (rH n l)/\Below w w w':=by
 obtain⟨a,c,rfl⟩:=hv.shape;obtain⟨V,hV⟩:=aQ (w.alloc (.cells #[n,aI a l.length c] 26));have B:Below w w V:=fU hV;have K:aU V w 26 #[n,aI a l.length c]:=eJ hV;go_enter func81,ntmps81;go_wp2_with fail;rw[<-hV];clear hV;refine(yZ n l _ V (hv.below B aO)).mono ?_;rintro e' w1 ⟨rfl,b1⟩;have K:=K.keep b1;have B:=B.after b1 B.size;have G:=K.cell
 cases hg:gE n l with
 |false=>
  have hd:xO n l=false:=by unfold xO;rw[hg];rfl
  have O:vA n l=false:=by unfold vA;rw[hd];rfl
  have R:rH n l=[]:=by unfold rH;rw[hd];rfl
  have J:=aN (And.intro O R);clear O R hg hd;go_wp2;go_ret2;exact⟨some ⟨w1,0,none⟩,0,0,by rw[J.out.1];rfl,by rw[J.out.2];exact aP.lit0 _ B.size,B.after (bF _ _) B.size⟩
 |true=>
 go_wp2_with fail;clear G;refine(sE n l _ w1 (hv.below B aO) hl).mono ?_;rintro e' w2 ⟨rfl,b2⟩;have K:=K.keep b2;have B:=B.after b2 B.size;have G:=K.cell
 cases hs:gR n l with
 |false=>
  have hd:xO n l=false:=by unfold xO;rw[hs];simp
  have O:vA n l=false:=by unfold vA;rw[hd];rfl
  have R:rH n l=[]:=by unfold rH;rw[hd];rfl
  have J:=aN (And.intro O R);clear O R hg hd hs;go_wp2;go_ret2;exact⟨some ⟨w2,0,none⟩,0,0,by rw[J.out.1];rfl,by rw[J.out.2];exact aP.lit0 _ B.size,B.after (bF _ _) B.size⟩
 |true=>
 have hd:xO n l=true:=by unfold xO;rw[hg,hs];rfl
 have O:vA n l=iV n l (wI n) (yG n):=by unfold vA;rw[hd];rfl
 have R:rH n l=qX n l (wI n) (yG n):=by unfold rH;rw[hd];rfl
 obtain⟨N,hN,g3⟩:∃N:Nat,n=N/\N<=5:=by obtain⟨N,h1,h2,_⟩:=cX (MS hg);exact⟨N,h1,h2⟩
 subst hN;have M:wI (N:Int)=List.replicate N (-2000):=by unfold wI;simp
 have S:yG (N:Int)=List.replicate N 0:=by unfold yG;simp
 have J:=aN (And.intro O (And.intro R (And.intro M S)));clear O R hd hg hs M S;obtain⟨W0,F⟩:=aQ ((w2.alloc (.cells #[] 3)).alloc (.cells #[] 3));have b0:Below w2 w2 W0:=gD F;have zk:=K.lt;have ox:aP 3 (w.heap.size+1) W0 (aI (some ⟨w2,0,none⟩) 0 0) (List.replicate 0 (-2000)):=by rw[F];exact(aP.lit0 w2 zk).alloc _
 have oz:aP 3 (w.heap.size+1) W0 (aI (some ⟨w2.heap.size+1,0,none⟩) 0 0) (List.replicate 0 0):=by rw[F];exact(aP.lit0' w2 _).mono zk
 have ap:kB (aI (some ⟨w2,0,none⟩) 0 0) (aI (some ⟨w2.heap.size+1,0,none⟩) 0 0):=fun k h1 h2=>by have e1:w2.heap.size=k:=Option.some.inj h1;have e2:w2.heap.size+1=k:=Option.some.inj h2;omega
 have K:=K.keep b0;have B:=B.after b0 B.size;go_wp2_with fail;rw[<-F];clear F b0 G;go_loopw [4,5,6] (fun x z i wr=>∃(k:Nat) (a1:Option Addr) (n1 c1:Nat) (a2:Option Addr) (n2 c2:Nat),k<=N/\i=aM k/\x=aI a1 n1 c1/\z=aI a2 n2 c2/\aP 3 (w.heap.size+1) wr (aI a1 n1 c1) (List.replicate k (-2000))/\aP 3 (w.heap.size+1) wr (aI a2 n2 c2) (List.replicate k 0)/\kB (aI a1 n1 c1) (aI a2 n2 c2)/\aU wr w 26 #[(N:Int),aI a l.length c]/\Below w w wr) (fun _ _ i _=>N-(intOf i).toNat)
 case atStart=>exact⟨0,_,_,_,_,_,_,Nat.zero_le _,rfl,rfl,rfl,ox,oz,ap,K,B⟩
 case round=>
  obtain⟨k,a1,n1,c1,a2,n2,c2,hk,rfl,rfl,rfl,D,I,b3,Kr,Br⟩:=hrel;clear ox oz ap K B;have G:=Kr.cell;by_cases hlt:k<N
  ·have b5:(k:Int)<(N:Int):=aK;have h0:=Kr.lt;go_wp2_with (first
    |(at_builtin;refine dI rfl _ _ _ rfl 3 underlying24 aS (w.heap.size+1) (aI a1 n1 c1) (List.replicate k (-2000)) (-2000) _ rfl rfl (bB _ _ _ _ _ rfl) (D.alloc _) ⟨by omega,by omega⟩ aV aV ?_;intro v5 w5 o5 g5 h5;obtain⟨p5,i5,q5,rfl⟩:=o5.shape3;have a6:=(I.alloc (.cells #[aM (-2000)] 3)).growA g5 b3;have b4:=h5.apart b3 (fun q Z=>(((I.alloc (.cells #[aM (-2000)] 3))).lt q Z).2);have B5:=(Br.after (bF wr (.cells #[aM (-2000)] 3)) Br.size).grown g5 aV (fun q Z=>by have:=(D.lt q Z).1;omega);have K5:=(Kr.alloc (.cells #[aM (-2000)] 3)).grow g5 (fun e=>by have:=(D.lt _ e).1;omega);have z5:=K5.lt)
    |(at_builtin;refine dI rfl _ _ _ rfl 3 underlying24 aS (w.heap.size+1) (aI a2 n2 c2) (List.replicate k 0) 0 _ rfl rfl (bB _ _ _ _ _ rfl) (a6.alloc _) ⟨by omega,by omega⟩ aV aV ?_;intro v6 w6 o6 g6 h6;obtain⟨p6,i6,q6,rfl⟩:=o6.shape3))
   have e5:=(o5.alloc (.cells #[aJ] 3)).growA g6 b4.symm;have d6:=(h6.apart b4.symm (fun q Z=>((o5.alloc (.cells #[aJ] 3)).lt q Z).2)).symm;have B6:=(B5.after (bF w5 (.cells #[aJ] 3)) B5.size).grown g6 aV (fun q Z=>by have:=(a6.lt q Z).1;omega);have K6:=(K5.alloc (.cells #[aJ] 3)).grow g6 (fun e=>by have:=(a6.lt _ e).1;omega);go_roundw
   case rel=>exact⟨k+1,p5,i5,q5,p6,i6,q6,by omega,by go_num,rfl,rfl,by rw[List.replicate_succ'];exact e5,by rw[List.replicate_succ'];exact o6,d6,K6,B6⟩
   case measure=>simp[intOf];omega
  ·have b5:¬(k:Int)<(N:Int):=aK;have Y:k=N:=aK;rw[Y,<-J.out.2.2.1]at D;rw[Y,<-J.out.2.2.2]at I;have HO:=aN (And.intro D I);clear Y D I;have c9:=aN (ZW wr N _ l (hv.below Br aO) hl _ _ HO.out.1.ints _ _ HO.out.2.ints);go_wp2_with (go_at_call 189;refine c9.out.mono ?_;rintro e' w6 ⟨p6,i6,q6,rfl,o6,b6⟩);go_ret2;exact⟨p6,i6,q6,by rw[J.out.1];rfl,by rw[J.out.2.1];exact o6.mono Br.size,Br.after b6 Br.size⟩
end Go.Proofs.YtcpoomdoodlkjaaGreatDoor
end
namespace Go.Proofs.YtcpoomdoodlkjaaGreatDoor
section
open Go.RowKit Go.G5 Go.Proofs.Tryz
def cN(b x:List Int):List Int:=if b.length<x.length then x else b
def AG(s u:Int):Bool:=s != 0&&bK s u==0
def jQ:List Int->Int->List Int->List Int->List Int
 |[],_,_,b=>b
 |s::r,u,c,b=>if AG s u then jQ r u c (cN b (jQ r (fT u s) (c++[s]) (c++[s]))) else jQ r u c b
def kD:List Int->Int->List Int->List Int->List Int
 |[],_,_,b=>b
 |s::r,u,c,b=>if AG s u then kD r u c (kD r (fT u s) (c++[s]) (cN b (c++[s]))) else kD r u c b
theorem DI(a b c:List Int):cN (cN a b) c=cN a (cN b c):=by
 unfold cN;by_cases h1:a.length<b.length
 ·by_cases h2:b.length<c.length
  ·rw[if_pos h1,if_pos h2,if_pos aK]
  ·rw[if_pos h1,if_neg h2,if_pos h1]
 ·by_cases h2:b.length<c.length
  ·rw[if_neg h1,if_pos h2]
  ·rw[if_neg h1,if_neg h2,if_neg h1,if_neg aK]
theorem BJ:∀(r:List Int) (u:Int) (c b x:List Int),kD r u c (cN b x)=cN b (jQ r u c x)
 |[],_,_,_,_=>rfl
 |s::r,u,c,b,x=>by
  rw[kD,jQ]
  split
  ·rw[BJ r (fT u s) (c++[s]) (cN b x) (c++[s]),DI,BJ r u c b]
  ·exact BJ r u c b x
theorem uD(N:Nat):∀(r:List Int) (u:Int) (c b:List Int),c.length+r.length<=N->b.length<=N->(jQ r u c b).length<=N
 |[],_,_,_,_,h=>h
 |s::r,u,c,b,h1,h2=>by
  rw[List.length_cons]at h1;rw[jQ]
  split
  ·refine uD N r u c _ aK ?_;have h3:=uD N r (fT u s) (c++[s]) (c++[s]) aV aV;unfold cN
   split<;>assumption
  ·exact uD N r u c b aK h2
def sI(l:List Int):List Int:=jQ l 0 [] []
theorem acF(l:List Int):kD l 0 [] []=sI l:=by
 have h:=BJ l 0 [] [] [];have e:cN [] []=([]:List Int):=rfl;rw[e]at h;rw[h];unfold cN sI
 split
 ·rfl
 ·rename_i D;have z:(jQ l 0 [] []).length=0:=by simpa using D
  exact(List.eq_nil_of_length_eq_zero z).symm
def lI(g:Int)(l:List Int):List Int:=if bJ g l then sI l else []
def pV(a b:Int):Bool:=bK a b != 0&&cM a b != 0&&cM b a != 0
def IY(a b:Int):Bool:=bK a b != 0&&bK a b != a&&bK a b != b
def GV(l:List Int):Bool:=cJ (fun i=>cJ (fun j=>decide (j<=i)||!pV (l.getD i 0) (l.getD j 0)) l.length) l.length
def tR(g:Int)(l:List Int):Bool:=bJ g l&&GV l
def SY(l:List Int):Bool:=cJ (fun i=>cJ (fun k=>!IY (l.getD i 0) (l.getD k 0)) i) l.length
theorem QO{p:Nat->Bool}{n:Nat}(h:∀k,k<n->p k=true):cJ p n=true:=by
 induction n with
 |zero=>rfl
 |succ n ih=>exact dN (ih fun k hk=>h k aK) (h n aK)
theorem NR(a b:Int)(w:World)(D:0<=a/\a<64)(hb:0<=b/\b<64):
  Calls prog 283 #[a,b] w fun e w'=>e=.returned (.bool (pV a b))/\w=w':=by
 have M:=eG D.1 (show a<4611686018427387904 by omega) hb.1 aK;have hB:=lV D.1 D.2 hb.1 hb.2;have hC:=lV hb.1 hb.2 D.1 D.2;obtain⟨x,I⟩:=aQ (bK a b);obtain⟨y,J⟩:=aQ (cM a b);obtain⟨z,K⟩:=aQ (cM b a);rw[<-I]at M;rw[<-J]at hB;rw[<-K]at hC;have hr:pV a b=((x != 0)&&(y != 0)&&(z != 0)):=by unfold pV;rw[I,J,K]
 have F:=aN hr;clear hr I J K;go_enter func283,ntmps283
 cases h1:(x != 0) with
 |false=>go_wp2;go_ret;exact⟨aZ (by rw[F.out,h1];rfl),rfl⟩
 |true=>
  cases h2:(y != 0) with
  |false=>go_wp2;go_ret;exact⟨aZ (by rw[F.out,h1,h2];rfl),rfl⟩
  |true=>go_wp2;go_ret;exact⟨aZ (by rw[F.out,h1,h2];rfl),rfl⟩
theorem MJ(l:List Int)(v:Value)(w:World)(hv:aR w v l)(hm:∀x∈l,0<=x/\x<64):
  Calls prog 219 #[v] w fun e w'=>(∃x y,e=.returned (.tuple #[x,y,.bool (!GV l)]))/\w=w':=by
 obtain⟨a,b,a8,c,rfl,Y,a1,hc,hb⟩:=hv.view prog 24 3 underlying24 aS;have S:=aN hm;clear hm;go_enter func219,ntmps219;go_wp2;go_loop [10] (fun i=>∃k:Nat,k<=l.length/\i=aM k/\cJ (fun i=>cJ (fun j=>decide (j<=i)||!pV (l.getD i 0) (l.getD j 0)) l.length) k=true) (fun i=>l.length-(intOf i).toNat)
 case atStart=>exact⟨0,Nat.zero_le _,rfl,rfl⟩
 case round=>
  obtain⟨k,hk,rfl,D⟩:=hrel;have H:=aN D;clear D;by_cases hlt:k<l.length
  ·have N:=S.out _ (List.getElem_mem hlt);go_wp2;go_loop [7] (fun j=>∃q:Nat,k+1<=q/\q<=l.length/\j=aM q/\cJ (fun j=>decide (j<=k)||!pV (l.getD k 0) (l.getD j 0)) q=true) (fun j=>l.length-(intOf j).toNat)
   case atStart=>exact⟨k+1,by omega,by omega,by go_num,QO fun j hj=>by simp[show j<=k by omega]⟩
   case round=>
    obtain⟨q,a6,hq,rfl,F⟩:=hrel;have R:=aN F;clear F;by_cases z:q<l.length
    ·have O:=S.out _ (List.getElem_mem z);have hcl:=NR l[k] l[q] w N O
     cases K:pV l[k] l[q]with
     |true=>
      have I:(decide (q<=k)||!pV (l.getD k 0) (l.getD q 0))=false:=by rw[aX l k hlt,aX l q z,K];simp;omega
      have J:GV l=false:=dG (p:=fun i=>cJ (fun j=>decide (j<=i)||!pV (l.getD i 0) (l.getD j 0)) l.length) hlt (dG (p:=fun j=>decide (j<=k)||!pV (l.getD k 0) (l.getD j 0)) z I);have M:=aN J;clear I J;rw[K]at hcl;go_wp2_with (go_at_call 283;refine hcl.mono ?_;rintro e w' ⟨rfl,rfl⟩);refine bodyPost_ret (v:=.tuple #[k,q,.bool true]) (by simp[results,results219,go_sem]) rfl ⟨⟨_,_,by rw[M.out];rfl⟩,rfl⟩
     |false=>
      have I:(decide (q<=k)||!pV (l.getD k 0) (l.getD q 0))=true:=by rw[aX l k hlt,aX l q z,K];simp
      have Z:=aN I;clear I;rw[K]at hcl;go_wp2_with (go_at_call 283;refine hcl.mono ?_;rintro e w' ⟨rfl,rfl⟩);go_round
      case rel=>exact⟨q+1,by omega,by omega,by go_num,dN R.out Z.out⟩
      case measure=>simp[intOf];omega
    ·go_wp2
     go_round
     case rel=>exact⟨k+1,by omega,by go_num,dN H.out (by rw[show l.length=q by omega];exact R.out)⟩
     case measure=>simp[intOf];omega
  ·have J:GV l=true:=by unfold GV;rw[<-show k=l.length by omega];exact(show k=l.length by omega)▸H.out
   have M:=aN J;clear J;go_wp2;refine bodyPost_ret (v:=.tuple #[aJ,aJ,.bool false]) (by simp[results,results219,go_sem]) rfl ⟨⟨_,_,by rw[M.out];rfl⟩,rfl⟩
theorem P8(g:Int)(l:List Int)(v:Value)(w:World)(K:aR w v l):
  Calls prog 107 #[.agg #[g,v]] w fun e w'=>e=.returned (.bool (tR g l))/\Below w w w':=by
 obtain⟨a,c,rfl⟩:=K.shape;have N:=Box2.new w g (aI a l.length c) 31;go_enter func107,ntmps107;go_wp2_with fail;refine(dF g l _ _ (K.alloc _)).mono ?_;rintro e w1 ⟨rfl,z⟩;obtain⟨O,d1,F,R⟩:=N.after z;have M:=K.below F aO;clear z N
 cases J:bJ g l with
 |false=>
  have D:tR g l=false:=by unfold tR;rw[J];rfl
  have I:=aN D;clear D;go_wp2;go_ret;exact⟨by rw[I.out];rfl,F⟩
 |true=>
  have D:tR g l=GV l:=by unfold tR;rw[J];rfl
  have hcl:=MJ l _ w1 M (dY J);have I:=aN D;clear D;go_wp2_with (go_at_call 219;refine hcl.mono ?_;rintro e w' ⟨⟨x,y,rfl⟩,rfl⟩);go_ret;exact⟨aZ (by rw[I.out]),F⟩
theorem MU(l:List Int)(v:Value)(w:World)(hv:aR w v l)(hm:∀x∈l,0<=x/\x<64):
  Calls prog 231 #[v] w fun e w'=>e=.returned (.bool (SY l))/\Below w w w':=by
 obtain⟨a,b,a8,c,rfl,Z,a6,hc,hb⟩:=hv.view prog 24 3 underlying24 aS;have Y:=aN hm;clear hm;go_enter func231,ntmps231;go_wp2;go_loopw [3] (fun i wr=>∃k m:Nat,k<=l.length/\i=aM k/\wr=w.drewN m/\cJ (fun i=>cJ (fun k=>!IY (l.getD i 0) (l.getD k 0)) i) k=true) (fun i _=>l.length-(intOf i).toNat)
 case atStart=>exact⟨0,0,Nat.zero_le _,rfl,rfl,rfl⟩
 case round=>
  obtain⟨k,m,hk,rfl,rfl,D⟩:=hrel;have H:=aN D;clear D;by_cases hlt:k<l.length
  ·have O:=Y.out _ (List.getElem_mem hlt);go_wp2;go_loopw [4] (fun j wr=>∃q n:Nat,q<=k/\j=aM q/\wr=w.drewN n/\cJ (fun q=>!IY (l.getD k 0) (l.getD q 0)) q=true) (fun j _=>k-(intOf j).toNat)
   case atStart=>exact⟨0,m,by omega,rfl,rfl,rfl⟩
   case round=>
    obtain⟨q,n,hq,rfl,rfl,I⟩:=hrel;have K:=aN I;clear I;by_cases N:q<k
    ·have J:q<l.length:=aK;have R:=Y.out _ (List.getElem_mem J);have hA:=eG O.1 (show l[k]<4611686018427387904 by omega) R.1 (show l[q]<4611686018427387904 by omega);obtain⟨x,S⟩:=aQ (bK l[k] l[q]);rw[<-S]at hA;have hr:IY (l.getD k 0) (l.getD q 0)=((x != 0)&&(x != l[k])&&(x != l[q])):=by rw[aX l k hlt,aX l q J];unfold IY;rw[S]
     have M:=aN hr;clear hr S
     cases h1:(x != 0) with
     |false=>
      have z:(!IY (l.getD k 0) (l.getD q 0))=true:=by rw[M.out,h1];rfl
      have F:=aN z;clear z;go_wp2;go_quiet (fail);go_wp2;go_roundw
      case rel=>exact⟨q+1,n+nq,by omega,by go_num,by simp,dN K.out F.out⟩
      case measure=>simp[intOf];omega
     |true=>
      cases h2:(x != l[k]) with
      |false=>
       have z:(!IY (l.getD k 0) (l.getD q 0))=true:=by rw[M.out,h1,h2];rfl
       have F:=aN z;clear z;go_wp2;go_quiet (fail);go_wp2;go_roundw
       case rel=>exact⟨q+1,n+nq,by omega,by go_num,by simp,dN K.out F.out⟩
       case measure=>simp[intOf];omega
      |true=>
       cases h3:(x != l[q]) with
       |false=>
        have z:(!IY (l.getD k 0) (l.getD q 0))=true:=by rw[M.out,h1,h2,h3];rfl
        have F:=aN z;clear z;go_wp2;go_quiet (fail);go_wp2;go_roundw
        case rel=>exact⟨q+1,n+nq,by omega,by go_num,by simp,dN K.out F.out⟩
        case measure=>simp[intOf];omega
       |true=>
        have z:(!IY (l.getD k 0) (l.getD q 0))=false:=by rw[M.out,h1,h2,h3];rfl
        have F:=aN z;clear z;go_wp2;go_quiet (fail);go_wp2;go_ret;exact⟨aZ (dG (p:=fun i=>cJ (fun k=>!IY (l.getD i 0) (l.getD k 0)) i) hlt (dG (p:=fun q=>!IY (l.getD k 0) (l.getD q 0)) N F.out)).symm,(Below.refl _ _).drewN' _⟩
    ·go_wp2
     go_roundw
     case rel=>exact⟨k+1,n,by omega,by go_num,rfl,dN H.out (by rw[show k=q by omega];exact(show k=q by omega)▸K.out)⟩
     case measure=>simp[intOf];omega
  ·go_wp2;go_ret;exact⟨aZ (by unfold SY;rw[show l.length=k by omega,H.out]),(Below.refl _ _).drewN' _⟩
theorem JK{w:World}{a:Option Addr}{c:Nat}{l:List Int}(h:aR w (aI a l.length c) l)(P:Program)(T E:TypeId)(F:P.underlying T=some (.slice E)){b D:Nat}
  (I:∀(w':World) (k:Nat),k<l.length->(Instr.indexAt T (aI a l.length c) (aM (k:Int))).run P w'=.ok (.pointer (some ⟨b,D+k,none⟩)) w') (k:Nat) (hk:k<=l.length):
  ∀(w':World) (q:Nat),q<k->(Instr.indexAt T (aI a k c) (aM (q:Int))).run P w'=.ok (.pointer (some ⟨b,D+q,none⟩)) w':=by
 intro w' q S;have K:=I w' q aK;have M:P.elem T=E:=by simp[Program.elem,F]
 obtain⟨O,R,N,h1,h2,_,h4⟩:=h;simp only[Value.slice.injEq]at N;obtain⟨rfl,_,rfl⟩:=N;rcases h4 with rfl|⟨J,z,rfl,_,_⟩
 ·simp at hk;omega
 ·rw[run_indexAt_slice w' T ⟨J,z,none⟩ l.length c .i64 q (by rw[M];exact F),if_pos ⟨by omega,by omega⟩]at K;rw[run_indexAt_slice w' T ⟨J,z,none⟩ k c .i64 q (by rw[M];exact F),if_pos ⟨by omega,by omega⟩];exact K
def lG(a b:Int):Bool:=cM a b != 0&&cM b a != 0
def EG(l:List Int):Bool:=cJ (fun i=>cJ (fun j=>lG (l.getD i 0) (l.getD j 0)) i) l.length
def qT(g:Int)(l:List Int):Bool:=bJ g l&&EG l
def wW(l:List Int)(i:Nat):Bool:=cJ (fun k=>k==i||bK (l.getD k 0) (l.getD i 0) != l.getD k 0) l.length
def mF(l:List Int):Nat->List Int
 |0=>[]
 |k+1=>if wW l k then mF l k++[l.getD k 0] else mF l k
def tG(l:List Int):Bool:=(mF l l.length).length==l.length
theorem TA(l:List Int)(k:Nat):(mF l k).length<=k:=by
 induction k with
 |zero=>exact aO
 |succ k ih=>
  rw[mF]
  split
  ·rw[List.length_append];simp only[List.length_cons,List.length_nil];omega
  ·omega
theorem NO(a b:Int)(w:World)(D:0<=a/\a<64)(hb:0<=b/\b<64):
  Calls prog 221 #[a,b] w fun e w'=>e=.returned (.bool (lG a b))/\w=w':=by
 have hB:=lV D.1 D.2 hb.1 hb.2;have hC:=lV hb.1 hb.2 D.1 D.2;obtain⟨y,F⟩:=aQ (cM a b);obtain⟨z,I⟩:=aQ (cM b a);rw[<-F]at hB;rw[<-I]at hC;have hr:lG a b=((y != 0)&&(z != 0)):=by unfold lG;rw[F,I]
 have J:=aN hr;clear hr F I;go_enter func221,ntmps221
 cases h2:(y != 0) with
 |false=>go_wp2;go_ret;exact⟨aZ (by rw[J.out,h2];rfl),rfl⟩
 |true=>go_wp2;go_ret;exact⟨aZ (by rw[J.out,h2];rfl),rfl⟩
theorem Y8(g:Int)(l:List Int)(v:Value)(w:World)(N:aR w v l):
  Calls prog 110 #[.agg #[g,v]] w fun e w'=>e=.returned (.bool (qT g l))/\Below w w w':=by
 obtain⟨a,b,c5,c,rfl,b6,Y,hc,hb⟩:=N.view prog 24 3 underlying24 aS;have b4:=N.capLe;have X0:=Box2.new w g (aI a l.length c) 31;go_enter func110,ntmps110;go_wp2_with fail;refine(dF g l _ _ (N.alloc _)).mono ?_;rintro e w1 ⟨rfl,J⟩;obtain⟨d0,d1,I,z1⟩:=X0.after J;have b9:=aW hc hb I aO;have a9:=N.below I aO;clear hc hb J X0
 cases S:bJ g l with
 |false=>
  have D:qT g l=false:=by unfold qT;rw[S];rfl
  have M:=aN D;clear D;go_wp2;go_ret;exact⟨by rw[M.out];rfl,I⟩
 |true=>
  have hm:=dY S;have D:qT g l=EG l:=by unfold qT;rw[S];rfl
  have M:=aN D;have HM:=aN hm;clear D hm;go_wp2_with fail;go_loop [13] (fun i=>∃k:Nat,k<=l.length/\i=aM k/\cJ (fun i=>cJ (fun j=>lG (l.getD i 0) (l.getD j 0)) i) k=true) (fun i=>l.length-(intOf i).toNat)
  case atStart=>exact⟨0,Nat.zero_le _,rfl,rfl⟩
  case round=>
   obtain⟨k,hk,rfl,z⟩:=hrel;have H:=aN z;clear z;by_cases hlt:k<l.length
   ·have a6:=HM.out _ (List.getElem_mem hlt);have b5:=JK a9 prog 24 3 underlying24 Y k hk;go_wp2;go_loop [23] (fun j=>∃q:Nat,q<=k/\j=aM q/\cJ (fun j=>lG (l.getD k 0) (l.getD j 0)) q=true) (fun j=>k-(intOf j).toNat)
    case atStart=>exact⟨0,by omega,rfl,rfl⟩
    case round=>
     obtain⟨q,hq,rfl,K⟩:=hrel;have HI:=aN K;clear K;by_cases a8:q<k
     ·have F:q<l.length:=aK;have a7:=HM.out _ (List.getElem_mem F);have hcl:=NO l[k] l[q] w1 a6 a7
      cases O:lG l[k] l[q]with
      |false=>have D:EG l=false:=dG (p:=fun i=>cJ (fun j=>lG (l.getD i 0) (l.getD j 0)) i) hlt (dG (p:=fun j=>lG (l.getD k 0) (l.getD j 0)) a8 (by rw[aX l k hlt,aX l q F];exact O));have R:=aN D;clear D;rw[O]at hcl;go_wp2_with (go_at_call 221;refine hcl.mono ?_;rintro e w' ⟨rfl,rfl⟩);go_ret;exact⟨aZ (by rw[M.out,R.out]),I⟩
      |true=>
       have hp:lG (l.getD k 0) (l.getD q 0)=true:=by rw[aX l k hlt,aX l q F];exact O
       have HP:=aN hp;clear hp;rw[O]at hcl;go_wp2_with (go_at_call 221;refine hcl.mono ?_;rintro e w' ⟨rfl,rfl⟩);go_round
       case rel=>exact⟨q+1,by omega,by go_num,dN HI.out HP.out⟩
       case measure=>simp[intOf];omega
     ·have a1:k=q:=aK;go_wp2;go_round
      case rel=>exact⟨k+1,by omega,by go_num,dN H.out (by subst a1;exact HI.out)⟩
      case measure=>simp[intOf];omega
   ·have Z:l.length=k:=aK;go_wp2;go_ret;exact⟨aZ (by rw[M.out];unfold EG;rw[Z,H.out]),I⟩
theorem sF(l:List Int)(v:Value)(w:World)(hv:aR w v l)(hm:∀x∈l,0<=x/\x<64)(d6:l.length<=64):
  Calls prog 197 #[v] w fun e w'=>∃ad i I,e=.returned (aI ad i I)/\aP 3 w w' (aI ad i I) (mF l l.length)/\Below w w w':=by
 obtain⟨a,b,e4,c,rfl,b8,d5,hc,hb⟩:=hv.view prog 24 3 underlying24 aS;have HM:=aN hm;clear hm;have o0:=aP.lit0 (E:=3) (B:=w.heap.size) w aO;go_enter func197,ntmps197;go_wp2;go_loopw [3,4] (fun out i wr=>∃(k:Nat) (ad:Option Addr) (S I:Nat),k<=l.length/\out=aI ad S I/\i=aM k/\aP 3 w wr (aI ad S I) (mF l k)/\Below w w wr)
  (fun _ i _=>l.length-(intOf i).toNat)
 case atStart=>exact⟨0,_,_,_,Nat.zero_le _,rfl,rfl,o0,bF _ _⟩
 case round=>
  obtain⟨k,ad,S,I,hk,rfl,rfl,ho,B⟩:=hrel;have Y:=aN ho;clear ho;have d0:=aW hc hb B aO;by_cases hlt:k<l.length
  ·have b1:=HM.out _ (List.getElem_mem hlt);have J:mF l (k+1)=if wW l k then mF l k++[l[k]] else mF l k:=by rw[mF,aX l k hlt]
   have b4:=TA l k;have HN:=aN J;clear J;go_wp2;go_loopw [5,6] (fun f j w2=>∃(q n:Nat),q<=l.length/\j=aM q/\f=.bool (cJ (fun z=>z==k||bK (l.getD z 0) (l.getD k 0) != l.getD z 0) q)/\w2=wr.drewN n) (fun _ j _=>l.length-(intOf j).toNat)
   case atStart=>exact⟨0,0,Nat.zero_le _,rfl,rfl,rfl⟩
   case round=>
    obtain⟨q,n,hq,rfl,rfl,rfl⟩:=hrel;by_cases O:q<l.length
    ·have b3:=HM.out _ (List.getElem_mem O);have hA:=eG b3.1 (show l[q]<4611686018427387904 by omega) b1.1 (show l[k]<4611686018427387904 by omega);have hs:cJ (fun z=>z==k||bK (l.getD z 0) (l.getD k 0) != l.getD z 0) (q+1)=(cJ (fun z=>z==k||bK (l.getD z 0) (l.getD k 0) != l.getD z 0) q&&(q==k||bK l[q] l[k] != l[q])):=by rw[cJ,aX l k hlt,aX l q O]
     obtain⟨x,hx⟩:=aQ (bK l[q] l[k]);rw[<-hx]at hA hs;have HS:=aN hs;clear hs hx
     cases h0:cJ (fun z=>z==k||bK (l.getD z 0) (l.getD k 0) != l.getD z 0) q with
     |false=>
      have N:=aN h0;clear h0;go_wp2;go_quiet (fail);go_wp2;go_roundw
      case rel=>exact⟨q+1,n+nq,by omega,by go_num,by rw[HS.out,N.out];rfl,by simp⟩
      case measure=>simp[intOf];omega
     |true=>
      have N:=aN h0;clear h0;by_cases M:q=k
      ·have ht:((q:Int)==(k:Int))=true:=by simp[M]
       have F:(q==k)=true:=by simp[M]
       have Z:=aN F;clear F;go_wp2;go_quiet (fail);go_wp2;go_roundw
       case rel=>exact⟨q+1,n+nq,by omega,by go_num,by rw[HS.out,N.out,Z.out];rfl,by simp⟩
       case measure=>simp[intOf];omega
      ·have ht:((q:Int)==(k:Int))=false:=by simp;omega
       have F:(q==k)=false:=by simp[M]
       have Z:=aN F;clear F
       cases h3:(x != l[q]) with
       |false=>
        go_wp2;go_quiet (fail);go_wp2;go_roundw
        case rel=>exact⟨q+1,n+nq,by omega,by go_num,by rw[HS.out,N.out,Z.out,h3];rfl,by simp⟩
        case measure=>simp[intOf];omega
       |true=>
        go_wp2;go_quiet (fail);go_wp2;go_roundw
        case rel=>exact⟨q+1,n+nq,by omega,by go_num,by rw[HS.out,N.out,Z.out,h3];rfl,by simp⟩
        case measure=>simp[intOf];omega
    ·have R:q=l.length:=aK;subst R;have D:cJ (fun z=>z==k||bK (l.getD z 0) (l.getD k 0) != l.getD z 0) l.length=wW l k:=rfl;rw[D]
     cases hF:wW l k with
     |false=>
      have HF:=aN hF;clear hF D;go_wp2;go_roundw
      case rel=>exact⟨k+1,ad,S,I,by omega,rfl,by go_num,by rw[HN.out,HF.out];exact Y.out.drewN _,B.drewN' _⟩
      case measure=>simp[intOf];omega
     |true=>
      have HF:=aN hF;clear hF D;go_wp2_with (at_builtin;refine cZ rfl _ _ _ rfl 3 underlying24 aS w.heap.size _ _ l[k] wr.heap.size rfl rfl (bB (wr.drewN n) #[aM l[k]] 3 0 _ rfl) ((Y.out.drewN n).alloc (.cells #[aM l[k]] 3)) ⟨by omega,by omega⟩ aK (Nat.le_trans B.size (by simp)) ?_;intro v' w6 K a9;obtain⟨av,nv,cv,rfl⟩:=K.shape3);have B6:Below w w w6:=((B.drewN' n).alloc B.size (.cells #[aM l[k]] 3)).grown a9 (by have:=B.size;simp;omega) (fun p hp=>(Y.out.lt p hp).1);go_roundw
      case rel=>exact⟨k+1,av,nv,cv,by omega,rfl,by go_num,by rw[HN.out,HF.out];exact K,B6⟩
      case measure=>simp[intOf];omega
  ·have b0:k=l.length:=aK;go_wp2;go_ret;exact⟨ad,S,I,rfl,by subst b0;exact Y.out,B⟩
theorem FN(l:List Int)(v:Value)(w:World)(F:aR w v l)(hm:∀x∈l,0<=x/\x<64)(D:l.length<=64):
  Calls prog 234 #[v] w fun e w'=>e=.returned (.bool (tG l))/\Below w w w':=by
 obtain⟨a,c,rfl⟩:=F.shape;go_enter func234,ntmps234;go_wp2_with fail;refine(sF l _ w F hm D).mono ?_;rintro e w1 ⟨ad,i,K,rfl,J,z⟩;have I:=J.ints.capLe.1;go_wp2;go_ret;refine⟨aZ ?_,z⟩;unfold tG;rw[<-I,Bool.eq_iff_iff];simp only[beq_iff_eq];omega
theorem P6(l:List Int)(v:Value)(w:World)(Z:aR w v l)(c:FuncId)(he:∀args w,(callFunc c args).run prog w=.ok (.enter c args) w)(g:Nat)(P:Int->Bool)
  (hw:∀(t:Int) W',t∈l->Below w w W'->Calls prog c #[t,.pointer (some ⟨g,0,none⟩)] W' fun e w2=>e=.returned (.bool (P t))/\Below W' W' w2):
  Calls prog 284 #[v,.func (.func c) #[] #[.pointer (some ⟨g,0,none⟩)]] w fun e w'=>(∃i:Int,e=.returned i/\(0<=i↔l.any P=true)/\-1<=i/\i<=9223372036854775807)/\Below w w w':=by
 obtain⟨a,b,a1,cp,rfl,N,Y,hc,hb⟩:=Z.view prog 24 3 underlying24 aS;have R:=aN hw;clear hw;go_enter func284,ntmps284;go_wp2_with fail;go_loopw [8] (fun i wr=>∃k:Nat,k<=l.length/\i=aM k/\(l.take k).any P=false/\Below w w wr) (fun i _=>l.length-(intOf i).toNat)
 case atStart=>exact⟨0,Nat.zero_le _,rfl,by simp,Below.refl _ _⟩
 case round=>
  obtain⟨k,hk,rfl,z,B⟩:=hrel;have H:=aN z;clear z;by_cases hlt:k<l.length
  ·have S:=aW hc hb B aO k hlt;have hcl:=R.out l[k] wr (List.getElem_mem hlt) B;have J:(l.take (k+1)).any P=((l.take k).any P||P l[k]):=by rw[List.take_succ_eq_append_getElem hlt,List.any_append];simp
   have M:=aN J;clear J
   cases F:P l[k]with
   |true=>have I:l.any P=true:=List.any_eq_true.2 ⟨_,List.getElem_mem hlt,F⟩;have K:=aN I;rw[F]at hcl;clear I F;go_wp2_with (go_at_fn c;refine hcl.mono ?_;rintro e w2 ⟨rfl,D⟩);go_ret;exact⟨⟨k,rfl,by rw[K.out];simp,by omega,by omega⟩,B.after D B.size⟩
   |false=>
    have O:=aN F;rw[F]at hcl;clear F;go_wp2_with (go_at_fn c;refine hcl.mono ?_;rintro e w2 ⟨rfl,D⟩);go_roundw
    case rel=>exact⟨k+1,by omega,by go_num,by rw[M.out,H.out,O.out];rfl,B.after D B.size⟩
    case measure=>simp[intOf];omega
  ·have I:l.any P=false:=by have:=H.out;rw[List.take_of_length_le aK]at this;exact this
   have K:=aN I;clear I;go_wp2;go_ret;exact⟨⟨-1,rfl,by rw[K.out];simp,by omega,by omega⟩,B⟩
theorem xL(l:List Int)(v:Value)(w:World)(J:aR w v l)(c:FuncId)(F:∀args w,(callFunc c args).run prog w=.ok (.enter c args) w)(g:Nat)(P:Int->Bool)
  (hw:∀(t:Int) W',t∈l->Below w w W'->Calls prog c #[t,.pointer (some ⟨g,0,none⟩)] W' fun e w2=>e=.returned (.bool (P t))/\Below W' W' w2):
  Calls prog 223 #[v,.func (.func c) #[] #[.pointer (some ⟨g,0,none⟩)]] w fun e w'=>e=.returned (.bool (l.any P))/\Below w w w':=by
 have hcl:=P6 l v w J c F g P hw;clear hw F;obtain⟨a,N,rfl⟩:=J.shape;go_enter func223,ntmps223;go_wp2_with (go_at_call 284;refine hcl.mono ?_;rintro e w' ⟨⟨i,rfl,I,K,M⟩,hb⟩;have D:=aN I;clear I);go_ret;refine⟨aZ ?_,hb⟩
 cases z:l.any P with
 |true=>have:=D.out.2 z;simpa using this
 |false=>
  have h:¬0<=i:=fun h=>by rw[D.out.1 h]at z;cases z
  simpa using h
def nP(s t:Int):Bool:=t != s&&cM t s==0
def jC(l:List Int):List Int:=l.filter fun s=>!(l.any (nP s))
theorem ZK(w:World)(g:Nat)(t s:Int)(d:w.cell? ⟨g,0,none⟩=some (aM s))(ht:0<=t/\t<64)(F:0<=s/\s<64):
  Calls prog 288 #[t,.pointer (some ⟨g,0,none⟩)] w fun e w'=>e=.returned (.bool (nP s t))/\Below w w w':=by
 have I:=lV ht.1 ht.2 F.1 F.2
 cases h:(t != s) with
 |false=>
  have z:nP s t=false:=by unfold nP;rw[h];rfl
  have D:=aN z;clear z;go_enter func288,ntmps288;go_wp2;go_ret;exact⟨aZ D.out.symm,Below.refl _ _⟩
 |true=>
  have z:nP s t=(cM t s==0):=by unfold nP;rw[h];rfl
  have D:=aN z;clear z;go_enter func288,ntmps288;go_wp2;go_ret;exact⟨aZ D.out.symm,Below.refl _ _⟩
theorem FB:∀args w,(callFunc 288 args).run prog w=.ok (.enter 288 args) w:=enters_of func288 aT rfl
theorem CC(l:List Int)(v:Value)(w:World)(hv:aR w v l)(hm:∀x∈l,0<=x/\x<64)(hl:l.length<=1048576):
  Calls prog 241 #[v] w fun e w'=>∃ad i K,e=.returned (aI ad i K)/\aP 3 w w' (aI ad i K) (jC l)/\Below w w w':=by
 obtain⟨a,b,e8,c,rfl,c5,e0,hc,hb⟩:=hv.view prog 24 3 underlying24 aS;have HM:=aN hm;clear hm;obtain⟨F,hF⟩:∃F:Int->Bool,F=fun s=>!(l.any (nP s)):=⟨_,rfl⟩;have M:jC l=l.filter F:=by rw[hF];rfl
 rw[M];have HF:=aN hF;clear M hF;go_enter func241,ntmps241;go_wp2_with fail;go_loopw [3,9] (fun out i wr=>∃(k:Nat) (ad:Option Addr) (nn K:Nat),k<=l.length/\out=aI ad nn K/\i=aM k/\aP 3 w wr (aI ad nn K) ((l.take k).filter F)/\Below w w wr)
  (fun _ i _=>l.length-(intOf i).toNat)
 case atStart=>exact⟨0,none,0,0,Nat.zero_le _,rfl,rfl,aP.nil _ _ _,Below.refl _ _⟩
 case round=>
  obtain⟨k,ad,nn,K,hk,rfl,rfl,ho,B⟩:=hrel;have HO:=aN ho;clear ho;by_cases hlt:k<l.length
  ·have b6:=aW hc hb B aO k hlt;have I:=HM.out _ (List.getElem_mem hlt);have R:(l.take (k+1)).filter F=(l.take k).filter F++(if F l[k]=true then [l[k]] else []):=by rw[List.take_succ_eq_append_getElem hlt,List.filter_append,List.filter_cons,List.filter_nil]
   have D:F l[k]=!(l.any (nP l[k])):=by rw[HF.out]
   have d9:((l.take k).filter F).length<=1048576:=Nat.le_trans (List.length_filter_le _ _) aV;obtain⟨s,hs⟩:=aQ (l[k]);rw[<-hs]at b6 I R D;have a1:∀W,aR W (aI a l.length c) l->W.cell? ⟨wr.heap.size,0,none⟩=some (aM s)->Calls prog 223 #[aI a l.length c,.func (.func 288) #[] #[.pointer (some ⟨wr,0,none⟩)]] W fun e w'=>e=.returned (.bool (l.any (nP s)))/\Below W W w':=
    fun W hW hd=>xL l _ W hW 288 FB wr.heap.size (nP s) (fun t W' ht hB=>ZK W' wr.heap.size t s (keep hB hd) (HM.out t ht) I)
   have S:=aN a1;have Y:=aN R;have e5:=I.1;have e6:=I.2;clear hs R a1 I
   cases z:l.any (nP s) with
   |true=>
    have hf:F s=false:=by rw[D,z];rfl
    have O:=aN hf;have HA:=aN z;clear hf z D;go_wp2_with (go_at_call 223;refine(S.out _ (hv.below (B.alloc B.size _) aO) (bB _ _ _ _ _ rfl)).mono ?_;rintro e w4 ⟨rfl,J⟩;rw[HA.out]);have Z:Below wr wr w4:=(bF wr (.cells #[s] 3)).after J (by simp);go_roundw
    case rel=>exact⟨k+1,ad,nn,K,by omega,rfl,by go_num,by rw[Y.out,O.out];simpa using HO.out.keep Z,B.after Z B.size⟩
    case measure=>simp[intOf];omega
   |false=>
    have hf:F s=true:=by rw[D,z];rfl
    have O:=aN hf;have HA:=aN z;clear hf z D;go_wp2_with (first
     |(go_at_call 223;refine(S.out _ (hv.below (B.alloc B.size _) aO) (bB _ _ _ _ _ rfl)).mono ?_;rintro e w4 ⟨rfl,J⟩;rw[HA.out];have d4:=keep J (bB wr #[s] 3 0 _ rfl);have Z:Below wr wr w4:=(bF wr (.cells #[s] 3)).after J (by simp);have o4:=HO.out.keep Z;have B4:=B.after Z B.size;have z4:=B4.size)
     |(at_builtin;refine cZ rfl _ _ _ rfl 3 underlying24 aS w.heap.size _ _ s w4.heap.size rfl rfl (by simp) (o4.alloc _) ⟨by omega,by omega⟩ aK aV ?_;intro v' w6 N b7;obtain⟨av,nv,cv,rfl⟩:=N.shape3))
    have r4:=o4.lt;have B6:Below w w w6:=(B4.alloc B4.size (.cells #[s] 3)).grown b7 aV (fun q hq=>(r4 q hq).1);go_roundw
    case rel=>exact⟨k+1,av,nv,cv,by omega,rfl,by go_num,by rw[Y.out,O.out];exact N,B6⟩
    case measure=>simp[intOf];omega
  ·have a7:(l.take k).filter F=l.filter F:=by rw[List.take_of_length_le aK]
   have HK:=aN a7;clear a7;go_wp2;go_ret;exact⟨ad,nn,K,rfl,by rw[<-HK.out];exact HO.out,B⟩
theorem eK{p:Nat->Bool}{n:Nat}:cJ p n=true↔∀k,k<n->p k=true:=by
 constructor
 ·intro h k hk
  cases z:p k with
  |true=>rfl
  |false=>rw[dG hk z]at h;cases h
 ·exact QO
theorem adX(l:List Int)(M:l.Pairwise (· < ·))(hm:∀x∈l,0<=x)(i:Nat)(F:i<l.length):wW l i=!(l.any (nP l[i])):=by
 rw[Bool.eq_iff_iff];unfold wW;rw[eK,Bool.not_eq_true',List.any_eq_false];have D:∀t:Int,0<=t->(cM t l[i]=0↔bK t l[i]=t):=fun t ht=>by have h1:=hm _ (List.getElem_mem F);unfold cM bK cV;have:=@Nat.and_le_left t.toNat l[i].toNat;omega
 constructor
 ·intro h t ht;obtain⟨k,hk,rfl⟩:=List.getElem_of_mem ht;have z:=h k hk;rw[aX l k hk,aX l i F]at z;unfold nP;simp only[Bool.or_eq_true,beq_iff_eq,bne_iff_ne,ne_eq,Bool.and_eq_true,not_and]at z ⊢;intro J hid;rcases z with rfl|z
  ·exact J rfl
  ·exact z ((D _ (hm _ (List.getElem_mem hk))).1 hid)
 ·intro h k hk;rw[aX l k hk,aX l i F];have:=h _ (List.getElem_mem hk);unfold nP at this;simp only[Bool.or_eq_true,beq_iff_eq,bne_iff_ne,ne_eq,Bool.and_eq_true,not_and]at this ⊢;by_cases I:k=i
  ·exact .inl I
  ·right;intro hid;refine this (fun e=>?_) ((D _ (hm _ (List.getElem_mem hk))).2 hid);have K:=List.pairwise_iff_getElem.1 M;rcases Nat.lt_or_gt_of_ne I with h1|h1
   ·have:=K k i hk F h1;omega
   ·have:=K i k F hk h1;omega
theorem aeK(l:List Int)(z:l.Pairwise (· < ·))(hm:∀x∈l,0<=x):∀k,k<=l.length->mF l k=(l.take k).filter fun s=>!(l.any (nP s)):=by
 intro k
 induction k with
 |zero=>intro _;simp[mF]
 |succ k ih=>
  intro hk;have hlt:k<l.length:=aK;rw[mF,ih aK,List.take_succ_eq_append_getElem hlt,List.filter_append,List.filter_cons,List.filter_nil,adX l z hm k hlt,aX l k hlt]
  split<;>simp
theorem DL(l:List Int)(z:l.Pairwise (· < ·))(hm:∀x∈l,0<=x):mF l l.length=jC l:=by
 rw[aeK l z hm l.length aO,List.take_length];rfl
end
end Go.Proofs.YtcpoomdoodlkjaaGreatDoor
