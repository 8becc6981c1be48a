/- Lemmas for CardConsoleResults. No condition. -/
import Derived.Test.YtkdbkjjacgigiaaGreatDoorQ16
import Derived.Test.YtkdbkjjacgigiaaGreatDoorQ17
import Derived.Deep.OwnRows
set_option maxRecDepth 100000
set_option maxHeartbeats 64000000
section
namespace Go.G5
open Go.RowKit
theorem XC{P:Program}(t E:TypeId)(ht:P.underlying t=some (.slice E))(K:IntElem P E)(n:Nat)(N:n<=17592186044416)(w:World):
  (Instr.makeSlice t (aG (n:Int)) (aG (n:Int))).run P w=.ok (aA (some ⟨w,0,none⟩) n n) (w.alloc (.cells (madeCells #[aB] n) E))/\aM E w.heap.size (w.alloc (.cells (madeCells #[aB] n) E)) (aA (some ⟨w,0,none⟩) n n) (List.replicate n 0):=by
 obtain⟨i,F,I,h1,D⟩:=K.get;obtain⟨w',z,J,O⟩:=run_make_full (P:=P) w w.heap.size t E i (aG 0) 1 ht F I h1 .i64 .i64 n (by rw[D];omega) (by unfold maxLen;omega) aI;have h2:=run_make_row (P:=P) t E i (aG 0) ht F I h1 rfl .i64 .i64 n (by rw[D];omega) aD w;refine⟨h2,?_⟩;rw[z]at h2;injection h2 with _ h3;subst h3;refine⟨?_,by intro y M;have:=List.eq_of_mem_replicate M;subst this;exact⟨by omega,by omega⟩⟩;have e:(madeCells (Value.int IntKind.i64 0).cells (n*1)).toList=(List.replicate n (0:Int)).map (Value.int .i64):=by rw[show(Value.int IntKind.i64 0).cells=#[Value.int .i64 0] from rfl,toList_madeCells_one];simp
 rw[e]at J;simpa using J
end Go.G5
namespace Go.Proofs.YtkdbkjjacgigiaaGreatDoor
open Go.RowKit Go.G5 Go.Proofs.Tryz
def AF(n:Int)(l:List Int):Bool:=eD n l&&fO n l
def yL(n:Int):List Int:=List.replicate n.toNat (-2000)
def AZ(n:Int):List Int:=List.replicate n.toNat 0
def wJ(n:Int)(l:List Int):Bool:=AF n l&&iK n l (yL n) (AZ n)
def nM(n:Int)(l:List Int):List Int:=if AF n l then sB n l (yL n) (AZ n) else []
theorem GZ(w:World)(n:Int)(v:Value)(l:List Int)(hv:aK w v l)(hl:l.length<=1048576):
  Calls prog 199 #[.agg #[n,v]] w fun e' w'=>∃ad i c,e'=.returned (.tuple #[aA ad i c,.bool (wJ n l)])/\aM 3 w w' (aA ad i c) (nM n l)/\Below w w w':=by
 obtain⟨a,c,rfl⟩:=hv.shape;obtain⟨V,hV⟩:=aJ (w.alloc (.cells #[n,aA a l.length c] 27));have B:Below w w V:=gY hV;have K:aP V w 27 #[n,aA a l.length c]:=gJ hV;go_enter func199,ntmps199;go_wp2_with fail;rw[<-hV];clear hV;refine(xX n l _ V (hv.below B aI)).mono ?_;rintro e' w1 ⟨rfl,b1⟩;have K:=K.keep b1;have B:=B.after b1 B.size;have G:=K.cell
 cases hg:eD n l with
 |false=>
  have hd:AF n l=false:=by unfold AF;rw[hg];rfl
  have Y:wJ n l=false:=by unfold wJ;rw[hd];rfl
  have Z:nM n l=[]:=by unfold nM;rw[hd];rfl
  have R:=aH (And.intro Y Z);clear Y Z hg hd;go_wp2;go_ret2;exact⟨none,0,0,by rw[R.out.1];rfl,by rw[R.out.2];exact aM.nil _ _ _,B⟩
 |true=>
 go_wp2_with fail;clear G;refine(pX n l _ w1 (hv.below B aI) hl).mono ?_;rintro e' w2 ⟨rfl,b2⟩;have K:=K.keep b2;have B:=B.after b2 B.size;have G:=K.cell
 cases hs:fO n l with
 |false=>
  have hd:AF n l=false:=by unfold AF;rw[hs];simp
  have Y:wJ n l=false:=by unfold wJ;rw[hd];rfl
  have Z:nM n l=[]:=by unfold nM;rw[hd];rfl
  have R:=aH (And.intro Y Z);clear Y Z hg hd hs;go_wp2;go_ret2;exact⟨none,0,0,by rw[R.out.1];rfl,by rw[R.out.2];exact aM.nil _ _ _,B⟩
 |true=>
 have hd:AF n l=true:=by unfold AF;rw[hg,hs];rfl
 have Y:wJ n l=iK n l (yL n) (AZ n):=by unfold wJ;rw[hd];rfl
 have Z:nM n l=sB n l (yL n) (AZ n):=by unfold nM;rw[hd];rfl
 obtain⟨N,hN,g9⟩:∃N:Nat,n=N/\N<=5:=by obtain⟨N,h1,h2,_⟩:=cS (IE hg);exact⟨N,h1,h2⟩
 subst hN;have S:yL (N:Int)=List.replicate N (-2000):=by unfold yL;simp
 have a1:AZ (N:Int)=List.replicate N 0:=by unfold AZ;simp
 have R:=aH (And.intro Y (And.intro Z (And.intro S a1)));clear Y Z hd hg hs S a1;go_wp2_with (at_make;refine kZ rfl _ _ _ rfl 3 underlying25 aN N _ _ rfl rfl rfl rfl aD ?_;intro w3 z b4);have b3:Below w2 w2 w3:=(Below.refl _ _).grown b4 aI (by simp);have zk:=K.lt;have K:=K.keep b3;have z:=z.mono (B':=w.heap.size+1) zk;have B:=B.after b3 B.size;obtain⟨g,b0⟩:=aJ w2.heap.size;rw[<-b0]at z ⊢;clear b0 b4 b3 G;obtain⟨F,hlo⟩:∃F:List Int,F=List.replicate N (-2000):=⟨_,rfl⟩;have M:F.length=N:=by rw[hlo];simp
 have a9:∀k,(h:k<F.length)->F[k]=-2000:=by subst hlo;intro k h;simp
 have e0:List.replicate N (0:Int)=F.take 0++List.replicate (F.length-0) 0:=by rw[M];simp
 rw[e0]at z;have D:=aH (And.intro hlo (And.intro M a9));clear hlo M a9 e0;go_loopw [19] (fun i wr=>∃k:Nat,k<=N/\i=aG k/\aM 3 (w.heap.size+1) wr (aA (some ⟨g,0,none⟩) N N) (F.take k++List.replicate (F.length-k) 0)/\aP wr w 27 #[(N:Int),aA a l.length c]/\Below w w wr) (fun i _=>N-(intOf i).toNat)
 case atStart=>exact⟨0,Nat.zero_le _,rfl,z,K,B⟩
 case round=>
  obtain⟨k,hk,rfl,o,Kr,Br⟩:=hrel;clear z K B;have HO:=aH o;clear o;have J:=ak5 F k (by rw[D.out.2.1];exact hk);rw[D.out.2.1]at J HO;by_cases hlt:k<N
  ·have b8:(k:Int)<(N:Int):=aD;have I:∃q,wr.cell? ⟨g,k,none⟩=some q:=⟨_,HO.out.cellAt J.symm k aD⟩;obtain⟨q,I⟩:=I;have h0:=HO.out.frozenAt J.symm k;have h5:=(HO.out.lt g rfl).1;have st:=HO.out.stored J.symm k (-2000) ⟨by omega,by omega⟩;have a6:k<F.length:=by rw[D.out.2.1];exact hlt
   have fs:=RW F k a6;rw[D.out.2.2 k a6,D.out.2.1]at fs;rw[fs]at st;have B1:=Br.grown st.2 Br.size jI;have K1:=Kr.far (p:=⟨g,k,none⟩) (by show w.heap.size≠g;omega) (aG (-2000));have e9:=aH st.1;clear st fs J a6;go_wp2;go_roundw
   case rel=>exact⟨k+1,by omega,by go_num,by rw[D.out.2.1];exact e9.out,K1,B1⟩
   case measure=>simp[intOf];omega
  ·have b8:¬(k:Int)<(N:Int):=aD;have b7:k=N:=aD;have o:=HO.out;rw[b7,Nat.sub_self,List.take_of_length_le (by rw[D.out.2.1];exact aI)]at o;simp only[List.replicate_zero,List.append_nil]at o;rw[D.out.1,<-R.out.2.2.1]at o;have od:aM 3 (w.heap.size+1) wr.drew (aA (some ⟨g,0,none⟩) N N) (yL (N:Int)):=o.drewN 1;have Kd:aP wr.drew w.heap.size 27 #[(N:Int),aA a l.length c]:=Kr;have Bd:Below w w wr.drew:=Br.drew;have f4:aK wr.drew (aA a l.length c) l:=hv.below Bd aI;have HZ:=aH R.out.2.2.2;have G:=Kr.cell;have Gd:=Kd.cell;have e7:=aH (fun(W:World) (t:Value) (h:Below wr.drew.heap.size wr.drew W) (ht:aK W t (AZ (N:Int)))=>ad3 W N _ l (f4.keep h) hl _ _ (od.keep h).ints t _ ht);obtain⟨O,hO⟩:=aJ (Obj.cells (madeCells #[aB] N) 3);have h6:∀W,(Instr.makeSlice 25 (aG (N:Int)) (aG (N:Int))).run prog W=.ok (aA (some ⟨W,0,none⟩) N N) (W.alloc O):=by rw[hO];exact fun W=>(XC 25 3 underlying25 aN N aD W).1
   have b9:aM 3 wr (wr.alloc O) (aA (some ⟨wr,0,none⟩) N N) (List.replicate N 0):=by rw[hO];exact(XC 25 3 underlying25 aN N aD wr).2
   have e8:=aH (b9.drewN 1);have K5:aP (wr.alloc O) w.heap.size 27 #[(N:Int),aA a l.length c]:=Kr.alloc O;have G5:=K5.cell;have b5:Below wr.drew.heap.size wr.drew (wr.alloc O).drew:=bF wr.drew O;have B5:Below w w (wr.alloc O).drew:=Bd.after b5 Bd.size;clear o b7 hO b9;go_wp2_with fail;go_region_law
    (go_simp;go_at_call 274;refine(e7.out (wr.alloc O).drew _ b5 (by rw[HZ.out];exact e8.out.ints)).mono ?_;rintro e' w6 ⟨p6,i6,q6,rfl,o6,b6⟩)
   all_goals
    go_wp2;go_ret2;exact⟨p6,i6,q6,by rw[R.out.1];rfl,by rw[R.out.2.1];exact o6.mono B5.size,B5.after b6 B5.size⟩
theorem RQ(w:World)(n:Int)(v:Value)(l:List Int)(hv:aK w v l)(hl:l.length<=1048576):
  Calls prog 26 #[.agg #[n,v]] w fun e' w'=>∃ad i c,e'=.returned (.tuple #[aA ad i c,.bool (wJ n l)])/\aM 3 w w' (aA ad i c) (nM n l)/\Below w w w':=by
 obtain⟨a,c,rfl⟩:=hv.shape;obtain⟨V,hV⟩:=aJ (w.alloc (.cells #[n,aA a l.length c] 27));have B:Below w w V:=gY hV;have K:aP V w 27 #[n,aA a l.length c]:=gJ hV;go_enter func26,ntmps26;go_wp2_with fail;rw[<-hV];clear hV;refine(xY n l _ V (hv.below B aI)).mono ?_;rintro e' w1 ⟨rfl,b1⟩;have K:=K.keep b1;have B:=B.after b1 B.size;have G:=K.cell
 cases hg:eD n l with
 |false=>
  have hd:AF n l=false:=by unfold AF;rw[hg];rfl
  have D:wJ n l=false:=by unfold wJ;rw[hd];rfl
  have I:nM n l=[]:=by unfold nM;rw[hd];rfl
  have J:=aH (And.intro D I);clear D I hg hd;go_wp2;go_ret2;exact⟨some ⟨w1,0,none⟩,0,0,by rw[J.out.1];rfl,by rw[J.out.2];exact aM.lit0 _ B.size,B.after (bF _ _) B.size⟩
 |true=>
 go_wp2_with fail;clear G;refine(pY n l _ w1 (hv.below B aI) hl).mono ?_;rintro e' Y ⟨rfl,b2⟩;have K:=K.keep b2;have B:=B.after b2 B.size;have G:=K.cell
 cases hs:fO n l with
 |false=>
  have hd:AF n l=false:=by unfold AF;rw[hs];simp
  have D:wJ n l=false:=by unfold wJ;rw[hd];rfl
  have I:nM n l=[]:=by unfold nM;rw[hd];rfl
  have J:=aH (And.intro D I);clear D I hg hd hs;exact OI
 |true=>
 have hd:AF n l=true:=by unfold AF;rw[hg,hs];rfl
 have D:wJ n l=iK n l (yL n) (AZ n):=by unfold wJ;rw[hd];rfl
 have I:nM n l=sB n l (yL n) (AZ n):=by unfold nM;rw[hd];rfl
 obtain⟨N,hN,j5⟩:∃N:Nat,n=N/\N<=5:=by obtain⟨N,h1,h2,_⟩:=cS (IE hg);exact⟨N,h1,h2⟩
 subst hN;have h7:yL (N:Int)=List.replicate N (-2000):=by unfold yL;simp
 have h9:AZ (N:Int)=List.replicate N 0:=by unfold AZ;simp
 have J:=aH (And.intro D (And.intro I (And.intro h7 h9)));clear D I hd hg hs h7 h9;obtain⟨W0,e9⟩:=aJ ((Y.alloc (.cells #[] 3)).alloc (.cells #[] 3));have b0:Below Y Y W0:=gO e9;have zk:=K.lt;have ox:aM 3 (w.heap.size+1) W0 (aA (some ⟨Y,0,none⟩) 0 0) (List.replicate 0 (-2000)):=by rw[e9];exact(aM.lit0 Y zk).alloc _
 have oz:aM 3 (w.heap.size+1) W0 (aA (some ⟨Y.heap.size+1,0,none⟩) 0 0) (List.replicate 0 0):=by rw[e9];exact(aM.lit0' Y _).mono zk
 have ap:aV (aA (some ⟨Y,0,none⟩) 0 0) (aA (some ⟨Y.heap.size+1,0,none⟩) 0 0):=fun k h1 h2=>by have e1:Y.heap.size=k:=Option.some.inj h1;have e2:Y.heap.size+1=k:=Option.some.inj h2;omega
 have K:=K.keep b0;have B:=B.after b0 B.size;go_wp2_with fail;rw[<-e9];clear e9 b0 G;go_loopw [4,5,6] (fun x z i wr=>∃(k:Nat) (a1:Option Addr) (n1 c1:Nat) (a2:Option Addr) (n2 c2:Nat),k<=N/\i=aG k/\x=aA a1 n1 c1/\z=aA a2 n2 c2/\aM 3 (w.heap.size+1) wr (aA a1 n1 c1) (List.replicate k (-2000))/\aM 3 (w.heap.size+1) wr (aA a2 n2 c2) (List.replicate k 0)/\aV (aA a1 n1 c1) (aA a2 n2 c2)/\aP wr w 27 #[(N:Int),aA a l.length c]/\Below w w wr) (fun _ _ i _=>N-(intOf i).toNat)
 case atStart=>exact⟨0,_,_,_,_,_,_,Nat.zero_le _,rfl,rfl,rfl,ox,oz,ap,K,B⟩
 case round=>
  obtain⟨k,a1,n1,c1,a2,n2,c2,hk,rfl,rfl,rfl,e5,f9,k6,Kr,Br⟩:=hrel;clear ox oz ap K B;have G:=Kr.cell;by_cases hlt:k<N
  ·have c6:(k:Int)<(N:Int):=aD
   have s6:=Kr.lt;go_wp2_with (first
    |(at_builtin;refine fN rfl _ _ _ rfl 3 underlying25 aN (w.heap.size+1) (aA a1 n1 c1) (List.replicate k (-2000)) (-2000) _ rfl rfl (aZ _ _ _ _ _ rfl) (e5.alloc _) ⟨by omega,by omega⟩ aT aT ?_;intro v5 w5 o5 g5 h5;obtain⟨p5,i5,q5,rfl⟩:=o5.shape3;have k2:=(f9.alloc (.cells #[aG (-2000)] 3)).growA g5 k6;have k7:=h5.apart k6 (fun q hq=>(((f9.alloc (.cells #[aG (-2000)] 3))).lt q hq).2);have B5:=(Br.after (bF wr (.cells #[aG (-2000)] 3)) Br.size).grown g5 aT (fun q hq=>by have:=(e5.lt q hq).1;omega);have K5:=(Kr.alloc (.cells #[aG (-2000)] 3)).grow g5 (fun e=>by have:=(e5.lt _ e).1;omega);have z5:=K5.lt)
    |(at_builtin;refine fN rfl _ _ _ rfl 3 underlying25 aN (w.heap.size+1) (aA a2 n2 c2) (List.replicate k 0) 0 _ rfl rfl (aZ _ _ _ _ _ rfl) (k2.alloc _) ⟨by omega,by omega⟩ aT aT ?_;intro v6 w6 o6 g6 h6;obtain⟨p6,i6,q6,rfl⟩:=o6.shape3))
   have p9:=(o5.alloc (.cells #[aB] 3)).growA g6 k7.symm;have m2:=(h6.apart k7.symm (fun q hq=>((o5.alloc (.cells #[aB] 3)).lt q hq).2)).symm;have B6:=(B5.after (bF w5 (.cells #[aB] 3)) B5.size).grown g6 aT (fun q hq=>by have:=(k2.lt q hq).1;omega);have K6:=(K5.alloc (.cells #[aB] 3)).grow g6 (fun e=>by have:=(k2.lt _ e).1;omega);go_roundw
   case rel=>exact⟨k+1,p5,i5,q5,p6,i6,q6,by omega,by go_num,rfl,rfl,by rw[List.replicate_succ'];exact p9,by rw[List.replicate_succ'];exact o6,m2,K6,B6⟩
   case measure=>simp[intOf];omega
  ·have c6:¬(k:Int)<(N:Int):=aD;have j8:k=N:=aD;rw[j8,<-J.out.2.2.1]at e5;rw[j8,<-J.out.2.2.2]at f9;have HO:=aH (And.intro e5 f9);clear j8 e5 f9;have e6:=aH (ad4 wr N _ l (hv.below Br aI) hl _ _ HO.out.1.ints _ _ HO.out.2.ints);go_wp2_with (go_at_call 81;refine e6.out.mono ?_;rintro e' w6 ⟨p6,i6,q6,rfl,o6,b6⟩);go_ret2;exact⟨p6,i6,q6,by rw[J.out.1];rfl,by rw[J.out.2.1];exact o6.mono Br.size,Br.after b6 Br.size⟩
end Go.Proofs.YtkdbkjjacgigiaaGreatDoor
end
namespace Go.Proofs.YtkdbkjjacgigiaaGreatDoor
section
open Go.RowKit Go.G5 Go.Proofs.Tryz
def UN(n:Int)(l:List Int):Int:=if gK n l then 5 else 0
def UP(n:Int)(l:List Int):Int:=if gK n l then n else 0
def UO(n:Int)(l:List Int):List Int:=if gK n l then l else []
theorem uB(w:World)(n:Int)(v:Value)(l:List Int)(hv:aK w v l)(hl:l.length<=1048576):
  Calls prog 208 #[.agg #[n,v]] w fun e w'=>∃ad i cp,e=.returned (.agg #[n,aA ad i cp])/\aM 3 w w' (aA ad i cp) l/\Below w w w':=by
 obtain⟨a,c,rfl⟩:=hv.shape;have F:([]:List Int).length+l.length<=17592186044416:=by simp;omega
 have b5:=aH F;clear F;go_enter func208,ntmps208;go_wp2_with fail;obtain⟨V,D⟩:=aJ ((w.alloc (.cells #[n,aA a l.length c] 27)).alloc (.cells #[aB,()] 27));rw[<-D];have B:Below w w V:=gO D;have R:aP V w 27 #[n,aA a l.length c]:=gR D;have K2:aP V (w.heap.size+1) 27 #[aB,()]:=iP D;clear D;have Z:=hv.below B aI;have e1:V.cell? ⟨w.heap.size,0,none⟩=some (aG n):=R.cell 0;have e2:V.cell? ⟨w.heap.size,1,none⟩=some (aA a l.length c):=R.cell 1;have z2:=K2.lt;have z1:=R.lt;go_region_held3 (fun w'=>w'.cell? ⟨w.heap.size,0,none⟩=some (aG n)/\w'.cell? ⟨w.heap.size,1,none⟩=some (aA a l.length c)) (go_keep)
  (first
   |(go_at_call 287;refine(kR _ l _ ?_ hl).mono ?_;(with_reducible exact Z.drew');rintro b6 w7 ⟨J,I,K,rfl,a1,N⟩;have o7:aM 3 V w7 (aA J I K) l:=a1;have M:=(K2.drewN 1).keep N;have G2:=M.cell;have F2:=M.frozen;have z7:=M.lt;obtain⟨b8,b9⟩:=gN N V.heap.size aI))
 go_wp2;refine bN ?_;intro Wf z;have S:aP Wf (w.heap.size+1) 27 #[n,aA J I K]:=by rw[z];have:=(M.set 0 (aG n)).set 1 (aA J I K);simpa using this
 have hg:w7.grownBy Wf (some (w.heap.size+1)):=by rw[z];exact bQ (bQ (World.grownBy.refl _ _) 0 _) 1 _
 have O:Below w w w7:=by first|exact B.after N B.size|exact(B.drewN' 1).after N B.size
 have y7:=O.size;have yB:=B.size;have Bf:Below w w Wf:=O.grown hg O.size jI;have of:=(o7.grow hg (fun q hq Y=>by have:=Option.some.inj hq;have:=(o7.lt q Y).1;omega)).mono (B':=w.heap.size) aD;have Gf:=S.cell;clear z;exact bodyPost_ret (v:=.agg #[n,aA J I K]) (by simp[results,results208,go_sem,Gf]) rfl ⟨J,I,K,rfl,of,Bf⟩
theorem LA(w:World)(n:Int)(v:Value)(l:List Int)(hv:aK w v l)(hl:l.length<=1048576):
  Calls prog 25 #[.agg #[n,v]] w fun e w'=>∃ad i cp,e=.returned (.agg #[n,aA ad i cp])/\aM 3 w w' (aA ad i cp) l/\Below w w w':=by
 obtain⟨a,c,rfl⟩:=hv.shape;have F:([]:List Int).length+l.length<=17592186044416:=by simp;omega
 have R:=aH F;clear F;go_enter func25,ntmps25;go_wp2_with fail;obtain⟨V,D⟩:=aJ ((w.alloc (.cells #[n,aA a l.length c] 27)).alloc (.cells #[aB,()] 27));rw[<-D];have B:Below w w V:=gO D;have S:aP V w 27 #[n,aA a l.length c]:=gR D;have K2:aP V (w.heap.size+1) 27 #[aB,()]:=iP D;clear D;have a1:=hv.below B aI;have e1:V.cell? ⟨w.heap.size,0,none⟩=some (aG n):=S.cell 0;have e2:V.cell? ⟨w.heap.size,1,none⟩=some (aA a l.length c):=S.cell 1;have z2:=K2.lt;have z1:=S.lt;go_region_held3 (fun w'=>w'.cell? ⟨w.heap.size,0,none⟩=some (aG n)/\w'.cell? ⟨w.heap.size,1,none⟩=some (aA a l.length c)) (go_keep)
  (first
   |(refine gE rfl _ _ _ rfl 3 underlying25 aN V.heap.size (aA (some ⟨_,0,none⟩) 0 0) [] rfl (aA a l.length c) l rfl ?_ ?_ R.out V ?_ aI ?_;(with_reducible exact(aM.lit0 V aI).drew');(with_reducible exact(a1.alloc _).drew');(with_reducible exact(bF V _).drew);(intro v7 w7 o7 J _;obtain⟨M,K,N,rfl⟩:=o7.shape3;have I:=K2.keep J;have G2:=I.cell;have F2:=I.frozen;have z7:=I.lt;obtain⟨b5,b6⟩:=gN J V.heap.size aI)))
 go_wp2;refine bN ?_;intro Wf z;have Y:aP Wf (w.heap.size+1) 27 #[n,aA M K N]:=by rw[z];have:=(I.set 0 (aG n)).set 1 (aA M K N);simpa using this
 have hg:w7.grownBy Wf (some (w.heap.size+1)):=by rw[z];exact bQ (bQ (World.grownBy.refl _ _) 0 _) 1 _
 have O:Below w w w7:=by first|exact B.after J B.size|exact(B.drewN' 1).after J B.size
 have y7:=O.size;have yB:=B.size;have Bf:Below w w Wf:=O.grown hg O.size jI;have of:=(o7.grow hg (fun q hq Z=>by have:=Option.some.inj hq;have:=(o7.lt q Z).1;omega)).mono (B':=w.heap.size) aD;have Gf:=Y.cell;clear z;exact bodyPost_ret (v:=.agg #[n,aA M K N]) (by simp[results,results25,go_sem,Gf]) rfl ⟨M,K,N,rfl,of,Bf⟩
theorem uH{p:Prop}(h:p:=by
  rw[D];exact(bQ (bQ (bQ (bQ (bQ (bQ (bQ (bQ (bQ (bQ (World.grownBy.refl _ _) 0 _) 1 _) 2 _) 3 _) 4 _) 5 _) 6 _) 7 _) 8 _) 9 _)):p:=h
theorem ZJ(w:World)(n:Int)(v:Value)(l:List Int)(hv:aK w v l)(hl:l.length<=1048576):
  Calls prog 139 #[.agg #[n,v]] w fun e w'=>∃p0 i0 F p1 i1 q1 p2 i2 q2 p3 i3 q3,e=.returned (.tuple #[.agg #[(UN n l),(UP n l),aA p0 i0 F,aB,aA p1 i1 q1,aB,aA p2 i2 q2,(lO n l),(nZ n l),aA p3 i3 q3],.bool (gK n l)])/\bK 3 w.heap.size w' (aA p0 i0 F) (UO n l)/\bK 3 w.heap.size w' (aA p1 i1 q1) []/\bK 3 w.heap.size w' (aA p2 i2 q2) []/\bK 3 w.heap.size w' (aA p3 i3 q3) []/\(aV (aA p0 i0 F) (aA p1 i1 q1)/\aV (aA p0 i0 F) (aA p2 i2 q2)/\aV (aA p0 i0 F) (aA p3 i3 q3)/\aV (aA p1 i1 q1) (aA p2 i2 q2)/\aV (aA p1 i1 q1) (aA p3 i3 q3)/\aV (aA p2 i2 q2) (aA p3 i3 q3))/\Below w w w':=by
 obtain⟨a,c,rfl⟩:=hv.shape;go_enter func139,ntmps139;go_wp2_with fail;refine bU ?_;intro V hV;have B:Below w w V:=gO hV;have J:aP V w 27 #[n,aA a l.length c]:=gR hV;have K2:aP V (w.heap.size+1) 34 #[aB,aB,(),aB,(),aB,(),aB,aB,()]:=iP hV;clear hV;refine(SK _ n _ l (hv.below B aI) hl).mono ?_;rintro e w1 ⟨rfl,j4⟩;have J:=J.keep j4;have K2:=K2.keep j4;have B1:=B.after j4 B.size;have l4:=hv.below B1 aI;have z1:=J.lt;have z2:=K2.lt;clear j4 B
 cases z:gK n l with
 |false=>
  have K:UN n l=0:=by unfold UN;rw[z];rfl
  have hN:UP n l=0:=by unfold UP;rw[z];rfl
  have M:UO n l=[]:=by unfold UO;rw[z];rfl
  have tP:lO n l=0:=by unfold lO;rw[z];rfl
  have j6:nZ n l=0:=by unfold nZ;rw[z];rfl
  have H:=aH (And.intro K (And.intro hN (And.intro M (And.intro tP j6))));have HB:=aH z;clear K hN M tP j6 z;have G2:=K2.cell;have F2:=K2.frozen;go_wp2;refine bN ?_;intro Wf D;have k1:aP Wf (w.heap.size+1) 34 #[aB,aB,(),aB,(),aB,(),aB,aB,()]:=by rw[D];have:=(((((((((K2.set 0 (aG 0)).set 1 (aG 0)).set 2 (aA none 0 0)).set 3 (aG 0)).set 4 (aA none 0 0)).set 5 (aG 0)).set 6 (aA none 0 0)).set 7 (aG 0)).set 8 (aG 0)).set 9 (aA none 0 0);simpa using this
  have hg:w1.grownBy Wf (some (w.heap.size+1)):=by exact uH
  have Bf:Below w w Wf:=B1.grown hg B1.size jI;have Gf:=k1.cell;clear D G2 F2;obtain⟨K,hN,M,tP,j6⟩:=H.out;exact bodyPost_ret (v:=.tuple #[.agg #[aB,aB,(),aB,(),aB,(),aB,aB,()],.bool false]) (by simp[results,results139,go_sem,Gf]) rfl
   ⟨none,0,0,none,0,0,none,0,0,none,0,0,by rw[K,hN,tP,j6,HB.out],by rw[M];exact bK.nil _ _ _,bK.nil _ _ _,bK.nil _ _ _,bK.nil _ _ _,
    ⟨aV.nil _ _ _,aV.nil _ _ _,aV.nil _ _ _,aV.nil _ _ _,aV.nil _ _ _,aV.nil _ _ _⟩,Bf⟩
 |true=>
  have K:UN n l=5:=by unfold UN;rw[z];rfl
  have hN:UP n l=n:=by unfold UP;rw[z];rfl
  have M:UO n l=l:=by unfold UO;rw[z];rfl
  have H:=aH (And.intro K (And.intro hN M));have HB:=aH z;obtain⟨cn,l0⟩:=aJ (lO n l);obtain⟨cs,l1⟩:=aJ (nZ n l);rw[<-l0,<-l1];have r5:=aH l0;have r6:=aH l1;clear K hN M z l0 l1;have G1:=J.cell;go_wp2_with fail;refine(uB _ n _ l l4 hl).mono ?_;rintro e w7 ⟨p7,i7,q7,rfl,o7,k9⟩;have K7:=K2.keep k9;have B7:=B1.after k9 B1.size;have n2:=o7.toW.mono (B':=w.heap.size+2) aD;have G2:=K7.cell;have F2:=K7.frozen;have z7:=K7.lt;clear k9 G1 o7;go_wp2;refine bN ?_;intro Wf D;have k1:aP Wf (w.heap.size+1) 34 #[aG 5,n,aA p7 i7 q7,aB,(),aB,(),cn,cs,()]:=by rw[D];have:=(((((((((K7.set 0 (aG 5)).set 1 (aG n)).set 2 (aA p7 i7 q7)).set 3 (aG 0)).set 4 (aA none 0 0)).set 5 (aG 0)).set 6 (aA none 0 0)).set 7 (aG cn)).set 8 (aG cs)).set 9 (aA none 0 0);simpa using this
  have hg:w7.grownBy Wf (some (w.heap.size+1)):=by exact uH
  have y7:=B7.size;have Bf:Below w w Wf:=B7.grown hg B7.size jI;have f7:=(n2.grow hg (fun q hq O=>by have:=Option.some.inj hq;have:=(n2.lt q O).1;omega)).mono (B':=w.heap.size) aD;have Gf:=k1.cell;clear D;obtain⟨K,hN,M⟩:=H.out;exact bodyPost_ret (v:=.tuple #[.agg #[aG 5,n,aA p7 i7 q7,aB,(),aB,(),cn,cs,()],.bool true]) (by simp[results,results139,go_sem,Gf]) rfl
   ⟨p7,i7,q7,none,0,0,none,0,0,none,0,0,by rw[K,hN,r5.out,r6.out,HB.out],by rw[M];exact f7,bK.nil _ _ _,bK.nil _ _ _,bK.nil _ _ _,
    ⟨(aV.nil _ _ _).symm,(aV.nil _ _ _).symm,(aV.nil _ _ _).symm,aV.nil _ _ _,aV.nil _ _ _,aV.nil _ _ _⟩,Bf⟩
def rV(n:Int)(l:List Int):Int:=if eD n l then (if lC n l then 2 else 1) else 0
def rU(n:Int)(l:List Int):Int:=if eD n l then n else 0
def tO(n:Int)(l:List Int):List Int:=if eD n l then l else []
def rW(n:Int)(l:List Int):Int:=if eD n l then (if lC n l then 0 else eM l) else 0
def rX(n:Int)(l:List Int):Int:=if eD n l then (if lC n l then 0 else sL n l) else 0
def tN(n:Int)(l:List Int):List Int:=if eD n l then (if lC n l then lU n l else nM n l) else []
theorem ahI{p:Prop}(h:p:=by
  rw[D];have:=((((((((((f8.set 0 (aG 2)).set 1 (aG n)).set 2 (aA p5 i5 q5)).set 3 (aG 0)).set 4 (aA none 0 0)).set 5 (aG 0)).set 6 (aA none 0 0)).set 7 (aG 0)).set 8 (aG 0)).set 9 (aA p0 i0 F));simpa using this):p:=h
theorem ahJ{p:Prop}(h:p:=by
  rw[D];have:=((((((((((I.set 0 (aG 0)).set 1 (aG 0)).set 2 (aA none 0 0)).set 3 (aG 0)).set 4 (aA none 0 0)).set 5 (aG 0)).set 6 (aA none 0 0)).set 7 (aG 0)).set 8 (aG 0)).set 9 (aA none 0 0));simpa using this):p:=h
theorem ZK(w:World)(n:Int)(v:Value)(l:List Int)(hv:aK w v l)(hl:l.length<=1048576):
  Calls prog 138 #[.agg #[n,v]] w fun e w'=>∃p0 i0 F p1 i1 q1 p2 i2 q2 p3 i3 q3,e=.returned (.tuple #[.agg #[(rV n l),(rU n l),aA p0 i0 F,aB,aA p1 i1 q1,aB,aA p2 i2 q2,(rW n l),(rX n l),aA p3 i3 q3],.bool (eD n l)])/\bK 3 w.heap.size w' (aA p0 i0 F) (tO n l)/\bK 3 w.heap.size w' (aA p1 i1 q1) []/\bK 3 w.heap.size w' (aA p2 i2 q2) []/\bK 3 w.heap.size w' (aA p3 i3 q3) (tN n l)/\(aV (aA p0 i0 F) (aA p1 i1 q1)/\aV (aA p0 i0 F) (aA p2 i2 q2)/\aV (aA p0 i0 F) (aA p3 i3 q3)/\aV (aA p1 i1 q1) (aA p2 i2 q2)/\aV (aA p1 i1 q1) (aA p3 i3 q3)/\aV (aA p2 i2 q2) (aA p3 i3 q3))/\Below w w w':=by
 obtain⟨a,c,rfl⟩:=hv.shape;go_enter func138,ntmps138;go_wp2_with fail;refine bU ?_;intro V hV;have B:Below w w V:=gO hV;have J:aP V w 27 #[n,aA a l.length c]:=gR hV;have I:aP V (w.heap.size+1) 34 #[aB,aB,(),aB,(),aB,(),aB,aB,()]:=iP hV;clear hV;refine(xX n l _ V (hv.below B aI)).mono ?_;rintro e w1 ⟨rfl,b1⟩;have J:=J.keep b1;have I:=I.keep b1;have B:=B.after b1 B.size;have z3:w.heap.size+1<w1.heap.size:=I.lt
 cases z:eD n l with
 |false=>
  have K:rV n l=0:=by unfold rV;rw[z];rfl
  have Y:rU n l=0:=by unfold rU;rw[z];rfl
  have M:tO n l=[]:=by unfold tO;rw[z];rfl
  have hP:rW n l=0:=by unfold rW;rw[z];rfl
  have hS:rX n l=0:=by unfold rX;rw[z];rfl
  have Z:tN n l=[]:=by unfold tN;rw[z];rfl
  have H:=aH (And.intro K (And.intro Y (And.intro M (And.intro hP (And.intro hS (And.intro Z z))))));clear K Y M hP hS Z z;have G3:=I.cell;have F3:=I.frozen;go_wp2;refine bN ?_;intro Wf D;have a9:aP Wf (w.heap.size+1) 34 #[aB,aB,(),aB,(),aB,(),aB,aB,()]:=by exact ahJ
  have hg:w1.grownBy Wf (some (w.heap.size+1)):=by exact uH
  have Bf:Below w w Wf:=B.grown hg B.size jI;have Gf:=a9.cell;clear D;obtain⟨K,Y,M,hP,hS,Z,hB⟩:=H.out;exact bodyPost_ret (v:=.tuple #[.agg #[aB,aB,(),aB,(),aB,(),aB,aB,()],.bool false]) (by simp[results,results138,go_sem,Gf]) rfl
   ⟨none,0,0,none,0,0,none,0,0,none,0,0,by rw[K,Y,hP,hS,hB],by rw[M];exact bK.nil _ _ _,bK.nil _ _ _,bK.nil _ _ _,by rw[Z];exact bK.nil _ _ _,⟨aV.nil _ _ _,aV.nil _ _ _,aV.nil _ _ _,aV.nil _ _ _,aV.nil _ _ _,aV.nil _ _ _⟩,Bf⟩
 |true=>
 have G1:=J.cell;go_wp2_with fail;clear G1;refine(ab0 w1 n _ l (hv.below B aI) hl).mono ?_;rintro e wl ⟨p0,i0,F,rfl,o0,b2⟩;have J:=J.keep b2;have I:=I.keep b2;have B:=B.after b2 B.size;have o0:=o0.mono (B':=w.heap.size+1+1) z3;have z3:w.heap.size+1<wl.heap.size:=I.lt
 cases R:lC n l with
 |true=>
  have K:rV n l=2:=by unfold rV;rw[z,R];rfl
  have Y:rU n l=n:=by unfold rU;rw[z];rfl
  have M:tO n l=l:=by unfold tO;rw[z];rfl
  have hP:rW n l=0:=by unfold rW;rw[z,R];rfl
  have hS:rX n l=0:=by unfold rX;rw[z,R];rfl
  have Z:tN n l=lU n l:=by unfold tN;rw[z,R];rfl
  have H:=aH (And.intro K (And.intro Y (And.intro M (And.intro hP (And.intro hS (And.intro Z z))))));clear K Y M hP hS Z z R;have G1:=J.cell;go_wp2_with fail;clear G1;refine(uB wl n _ l (hv.below B aI) hl).mono ?_;rintro e w5 ⟨p5,i5,q5,rfl,o5,b5⟩;have f8:=I.keep b5;have r3:=f8.cell;have r1:=f8.frozen;have B5:=B.after b5 B.size;have x5:=o5.toW.mono (B':=w.heap.size+1+1) aD;have x0:bK 3 (w.heap.size+1+1) w5 (aA p0 i0 F) (lU n l):=o0.keep b5;have c7:aV (aA p5 i5 q5) (aA p0 i0 F):=(aV.of_lt o0 o5.toW aI).symm;go_wp2;refine bN ?_;intro Wf D;have a9:aP Wf (w.heap.size+1) 34 #[aG 2,n,aA p5 i5 q5,aB,(),aB,(),aB,aB,aA p0 i0 F]:=by exact ahI
  have hg:w5.grownBy Wf (some (w.heap.size+1)):=by exact uH
  have Bf:Below w w Wf:=B5.grown hg B5.size jI;have f5:=(x5.grow hg (fun q hq O=>by have:=Option.some.inj hq;have:=(x5.lt q O).1;omega)).mono (B':=w.heap.size) aD;have f0:=(x0.grow hg (fun q hq O=>by have:=Option.some.inj hq;have:=(x0.lt q O).1;omega)).mono (B':=w.heap.size) aD;have Gf:=a9.cell;clear D;obtain⟨K,Y,M,hP,hS,Z,hB⟩:=H.out;exact bodyPost_ret (v:=.tuple #[.agg #[aG 2,n,aA p5 i5 q5,aB,(),aB,(),aB,aB,aA p0 i0 F],.bool true]) (by simp[results,results138,go_sem,Gf]) rfl
   ⟨p5,i5,q5,none,0,0,none,0,0,p0,i0,F,by rw[K,Y,hP,hS,hB],by rw[M];exact f5,bK.nil _ _ _,bK.nil _ _ _,by rw[Z];exact f0,⟨(aV.nil _ _ _).symm,(aV.nil _ _ _).symm,c7,aV.nil _ _ _,aV.nil _ _ _,aV.nil _ _ _⟩,Bf⟩
 |false=>
  have K:rV n l=1:=by unfold rV;rw[z,R];rfl
  have Y:rU n l=n:=by unfold rU;rw[z];rfl
  have M:tO n l=l:=by unfold tO;rw[z];rfl
  have hP:rW n l=eM l:=by unfold rW;rw[z,R];rfl
  have hS:rX n l=sL n l:=by unfold rX;rw[z,R];rfl
  have Z:tN n l=nM n l:=by unfold tN;rw[z,R];rfl
  have H:=aH (And.intro K (And.intro Y (And.intro M (And.intro hP (And.intro hS (And.intro Z z))))));have n0:wT n l=eM l:=by unfold wT;rw[IE z];rfl
  clear K Y M hP hS Z z R;have G1:=J.cell;go_wp2_with fail;clear G1;refine(uB wl n _ l (hv.below B aI) hl).mono ?_;rintro e w5 ⟨p5,i5,q5,rfl,o5,b5⟩;have J:=J.keep b5;have I:=I.keep b5;have B:=B.after b5 B.size;have o5:=o5.mono (B':=w.heap.size+1+1) z3;have z5:w.heap.size+1<w5.heap.size:=I.lt;have t7:=o5;have G1:=(J.alloc (.cells #[aG 1,n,aA p5 i5 q5,aB,(),aB,(),aB,aB,()] 34)).cell;go_wp2_with fail;clear G1;refine bU ?_;intro V2 k6;obtain⟨gc,l2⟩:=aJ w5.heap.size;have KC:aP V2 gc 34 #[aG 1,n,aA p5 i5 q5,aB,(),aB,(),aB,aB,()]:=by rw[k6,l2];exact aP.new _ _ _
  have bv:Below w5 w5 V2:=gY k6;have J:=J.keep bv;have I:=I.keep bv;have B:=B.after bv B.size;have o5:=o5.keep bv;have zc:w.heap.size+1<gc:=aD;have l3:some gc≠(Value.slice p5 i5 q5).ownBlock:=fun h=>by have:=(t7.lt gc h.symm).2;omega
  rw[<-l2];clear k6 l2 z5;refine(AQ V2 n _ l (hv.below B aI)).mono ?_;rintro e w6 ⟨rfl,b6⟩;have J:=J.keep b6;have I:=I.keep b6;have KC:=KC.keep b6;have B:=B.after b6 B.size;have o5:=o5.keep b6;simp only[n0];clear n0;have G1:=(J.far (p:=⟨gc,7,none⟩) (by show w.heap.size≠gc;omega) (aG (eM l))).cell;have GC:=KC.cell;have FC:=KC.frozen;go_wp2_with fail;clear G1 GC FC;refine bU ?_;intro V3 k7;have bs:w6.grownBy V3 (some gc):=by rw[k7];exact bQ (World.grownBy.refl _ _) 7 _
  have J:=J.grow bs aT;have I:=I.grow bs aT;have KC:aP V3 gc 34 #[aG 1,n,aA p5 i5 q5,aB,(),aB,(),(eM l),aB,()]:=by rw[k7];have:=KC.set 7 (aG (eM l));simpa using this
  have B:=B.grown bs B.size jI;have o5:=o5.grow bs (fun k hk h=>l3 (by rw[h];exact hk));clear k7;refine(TU V3 n _ l (hv.below B aI) hl).mono ?_;rintro e w7 ⟨rfl,b7⟩;have J:=J.keep b7;have I:=I.keep b7;have KC:=KC.keep b7;have B:=B.after b7 B.size;have o5:=o5.keep b7;have G1:=(J.far (p:=⟨gc,8,none⟩) (by show w.heap.size≠gc;omega) (aG (sL n l))).cell;have GC:=KC.cell;have FC:=KC.frozen;go_wp2_with fail;clear G1 GC FC;refine bU ?_;intro V4 k8;have bs:w7.grownBy V4 (some gc):=by rw[k8];exact bQ (World.grownBy.refl _ _) 8 _
  have J:=J.grow bs aT;have I:=I.grow bs aT;have KC:aP V4 gc 34 #[aG 1,n,aA p5 i5 q5,aB,(),aB,(),(eM l),(sL n l),()]:=by rw[k8];have:=KC.set 8 (aG (sL n l));simpa using this
  have B:=B.grown bs B.size jI;have o5:=o5.grow bs (fun k hk h=>l3 (by rw[h];exact hk));clear k8;refine(GZ V4 n _ l (hv.below B aI) hl).mono ?_;rintro e w8 ⟨p0,i0,F,rfl,o0,b8⟩;have w4:gc<V4.heap.size:=KC.lt;have c7:aV (aA p5 i5 q5) (aA p0 i0 F):=aV.of_lt o5.toW o0.toW aI;have I:=I.keep b8;have KC:=KC.keep b8;have B:=B.after b8 B.size;have o5:=o5.keep b8;have m9:some gc≠(Value.slice p0 i0 F).ownBlock:=fun h=>by have:=(o0.lt gc h.symm).1;omega
  have o0:=o0.mono (B':=w.heap.size+1+1) aD;have K9:aP (w8.setCell ⟨gc,9,none⟩ (aA p0 i0 F)) gc 34 #[aG 1,n,aA p5 i5 q5,aB,(),aB,(),(eM l),(sL n l),aA p0 i0 F]:=by have:=KC.set 9 (aA p0 i0 F);simpa using this
  have k3:=I.far (p:=⟨gc,9,none⟩) (by show w.heap.size+1≠gc;omega) (aA p0 i0 F);have b9:w8.grownBy (w8.setCell ⟨gc,9,none⟩ (aA p0 i0 F)) (some gc):=bQ (World.grownBy.refl _ _) 9 _;have B9:=B.grown b9 B.size jI;have x5:=(o5.grow b9 (fun k hk h=>l3 (by rw[h];exact hk))).toW;have x0:=(o0.grow b9 (fun k hk h=>m9 (by rw[h];exact hk))).toW;have GC:=KC.cell;have FC:=KC.frozen;have G9:=K9.cell;have u9:=k3.cell;have u4:=k3.frozen;go_wp2;refine bN ?_;intro Wf D;have a9:aP Wf (w.heap.size+1) 34 #[aG 1,n,aA p5 i5 q5,aB,(),aB,(),(eM l),(sL n l),aA p0 i0 F]:=by rw[D];have:=((((((((((k3.set 0 (aG 1)).set 1 (aG n)).set 2 (aA p5 i5 q5)).set 3 (aG 0)).set 4 (aA none 0 0)).set 5 (aG 0)).set 6 (aA none 0 0)).set 7 (aG (eM l))).set 8 (aG (sL n l))).set 9 (aA p0 i0 F));simpa using this
  have hg:(w8.setCell ⟨gc,9,none⟩ (aA p0 i0 F)).grownBy Wf (some (w.heap.size+1)):=by exact uH
  have Bf:Below w w Wf:=B9.grown hg B9.size jI;have f5:=(x5.grow hg (fun q hq O=>by have:=Option.some.inj hq;have:=(x5.lt q O).1;omega)).mono (B':=w.heap.size) aD;have f0:=(x0.grow hg (fun q hq O=>by have:=Option.some.inj hq;have:=(x0.lt q O).1;omega)).mono (B':=w.heap.size) aD;have Gf:=a9.cell;clear D;obtain⟨K,Y,M,hP,hS,Z,hB⟩:=H.out;exact bodyPost_ret (v:=.tuple #[.agg #[aG 1,n,aA p5 i5 q5,aB,(),aB,(),(eM l),(sL n l),aA p0 i0 F],.bool true]) (by simp[results,results138,go_sem,Gf]) rfl
   ⟨p5,i5,q5,none,0,0,none,0,0,p0,i0,F,by rw[K,Y,hP,hS,hB],by rw[M];exact f5,bK.nil _ _ _,bK.nil _ _ _,by rw[Z];exact f0,⟨(aV.nil _ _ _).symm,(aV.nil _ _ _).symm,c7,aV.nil _ _ _,aV.nil _ _ _,aV.nil _ _ _⟩,Bf⟩
theorem ZL(w:World)(n:Int)(v:Value)(l:List Int)(hv:aK w v l)(hl:l.length<=1048576):
  Calls prog 10 #[.agg #[n,v]] w fun e w'=>∃p0 i0 F p1 i1 q1 p2 i2 q2 p3 i3 q3,e=.returned (.tuple #[.agg #[(rV n l),(rU n l),aA p0 i0 F,aB,aA p1 i1 q1,aB,aA p2 i2 q2,(rW n l),(rX n l),aA p3 i3 q3],.bool (eD n l)])/\bK 3 w.heap.size w' (aA p0 i0 F) (tO n l)/\bK 3 w.heap.size w' (aA p1 i1 q1) []/\bK 3 w.heap.size w' (aA p2 i2 q2) []/\bK 3 w.heap.size w' (aA p3 i3 q3) (tN n l)/\(aV (aA p0 i0 F) (aA p1 i1 q1)/\aV (aA p0 i0 F) (aA p2 i2 q2)/\aV (aA p0 i0 F) (aA p3 i3 q3)/\aV (aA p1 i1 q1) (aA p2 i2 q2)/\aV (aA p1 i1 q1) (aA p3 i3 q3)/\aV (aA p2 i2 q2) (aA p3 i3 q3))/\Below w w w':=by
 obtain⟨a,c,rfl⟩:=hv.shape;go_enter func10,ntmps10;go_wp2_with fail;refine bU ?_;intro V hV;have B:Below w w V:=gO hV;have J:aP V w 27 #[n,aA a l.length c]:=gR hV;have I:aP V (w.heap.size+1) 34 #[aB,aB,(),aB,(),aB,(),aB,aB,()]:=iP hV;clear hV;refine(xY n l _ V (hv.below B aI)).mono ?_;rintro e w1 ⟨rfl,b1⟩;have J:=J.keep b1;have I:=I.keep b1;have B:=B.after b1 B.size;have z3:w.heap.size+1<w1.heap.size:=I.lt
 cases z:eD n l with
 |false=>
  have K:rV n l=0:=by unfold rV;rw[z];rfl
  have Y:rU n l=0:=by unfold rU;rw[z];rfl
  have M:tO n l=[]:=by unfold tO;rw[z];rfl
  have hP:rW n l=0:=by unfold rW;rw[z];rfl
  have hS:rX n l=0:=by unfold rX;rw[z];rfl
  have Z:tN n l=[]:=by unfold tN;rw[z];rfl
  have H:=aH (And.intro K (And.intro Y (And.intro M (And.intro hP (And.intro hS (And.intro Z z))))));clear K Y M hP hS Z z;have G3:=I.cell;have F3:=I.frozen;go_wp2;refine bN ?_;intro Wf D;have a9:aP Wf (w.heap.size+1) 34 #[aB,aB,(),aB,(),aB,(),aB,aB,()]:=by exact ahJ
  have hg:w1.grownBy Wf (some (w.heap.size+1)):=by exact uH
  have Bf:Below w w Wf:=B.grown hg B.size jI;have Gf:=a9.cell;clear D;obtain⟨K,Y,M,hP,hS,Z,hB⟩:=H.out;exact bodyPost_ret (v:=.tuple #[.agg #[aB,aB,(),aB,(),aB,(),aB,aB,()],.bool false]) (by simp[results,results10,go_sem,Gf]) rfl
   ⟨none,0,0,none,0,0,none,0,0,none,0,0,by rw[K,Y,hP,hS,hB],by rw[M];exact bK.nil _ _ _,bK.nil _ _ _,bK.nil _ _ _,by rw[Z];exact bK.nil _ _ _,⟨aV.nil _ _ _,aV.nil _ _ _,aV.nil _ _ _,aV.nil _ _ _,aV.nil _ _ _,aV.nil _ _ _⟩,Bf⟩
 |true=>
 have G1:=J.cell;go_wp2_with fail;clear G1;refine(ab1 w1 n _ l (hv.below B aI) hl).mono ?_;rintro e wl ⟨p0,i0,F,rfl,o0,b2⟩;have J:=J.keep b2;have I:=I.keep b2;have B:=B.after b2 B.size;have o0:=o0.mono (B':=w.heap.size+1+1) z3;have z3:w.heap.size+1<wl.heap.size:=I.lt
 cases R:lC n l with
 |true=>
  have K:rV n l=2:=by unfold rV;rw[z,R];rfl
  have Y:rU n l=n:=by unfold rU;rw[z];rfl
  have M:tO n l=l:=by unfold tO;rw[z];rfl
  have hP:rW n l=0:=by unfold rW;rw[z,R];rfl
  have hS:rX n l=0:=by unfold rX;rw[z,R];rfl
  have Z:tN n l=lU n l:=by unfold tN;rw[z,R];rfl
  have H:=aH (And.intro K (And.intro Y (And.intro M (And.intro hP (And.intro hS (And.intro Z z))))));clear K Y M hP hS Z z R;have G1:=J.cell;go_wp2_with fail;clear G1;refine(LA wl n _ l (hv.below B aI) hl).mono ?_;rintro e w5 ⟨p5,i5,q5,rfl,o5,b5⟩;have f8:=I.keep b5;have r3:=f8.cell;have r1:=f8.frozen;have B5:=B.after b5 B.size;have x5:=o5.toW.mono (B':=w.heap.size+1+1) aD;have x0:bK 3 (w.heap.size+1+1) w5 (aA p0 i0 F) (lU n l):=o0.keep b5;have c7:aV (aA p5 i5 q5) (aA p0 i0 F):=(aV.of_lt o0 o5.toW aI).symm;go_wp2;refine bN ?_;intro Wf D;have a9:aP Wf (w.heap.size+1) 34 #[aG 2,n,aA p5 i5 q5,aB,(),aB,(),aB,aB,aA p0 i0 F]:=by exact ahI
  have hg:w5.grownBy Wf (some (w.heap.size+1)):=by exact uH
  have Bf:Below w w Wf:=B5.grown hg B5.size jI;have f5:=(x5.grow hg (fun q hq O=>by have:=Option.some.inj hq;have:=(x5.lt q O).1;omega)).mono (B':=w.heap.size) aD;have f0:=(x0.grow hg (fun q hq O=>by have:=Option.some.inj hq;have:=(x0.lt q O).1;omega)).mono (B':=w.heap.size) aD;have Gf:=a9.cell;clear D;obtain⟨K,Y,M,hP,hS,Z,hB⟩:=H.out;exact bodyPost_ret (v:=.tuple #[.agg #[aG 2,n,aA p5 i5 q5,aB,(),aB,(),aB,aB,aA p0 i0 F],.bool true]) (by simp[results,results10,go_sem,Gf]) rfl
   ⟨p5,i5,q5,none,0,0,none,0,0,p0,i0,F,by rw[K,Y,hP,hS,hB],by rw[M];exact f5,bK.nil _ _ _,bK.nil _ _ _,by rw[Z];exact f0,⟨(aV.nil _ _ _).symm,(aV.nil _ _ _).symm,c7,aV.nil _ _ _,aV.nil _ _ _,aV.nil _ _ _⟩,Bf⟩
 |false=>
  have K:rV n l=1:=by unfold rV;rw[z,R];rfl
  have Y:rU n l=n:=by unfold rU;rw[z];rfl
  have M:tO n l=l:=by unfold tO;rw[z];rfl
  have hP:rW n l=eM l:=by unfold rW;rw[z,R];rfl
  have hS:rX n l=sL n l:=by unfold rX;rw[z,R];rfl
  have Z:tN n l=nM n l:=by unfold tN;rw[z,R];rfl
  have H:=aH (And.intro K (And.intro Y (And.intro M (And.intro hP (And.intro hS (And.intro Z z))))));have n1:0<l.length:=by obtain⟨N,rfl,_,s9,_⟩:=cS (IE z);rw[s9];exact Nat.two_pow_pos N
  clear K Y M hP hS Z z R;have G1:=J.cell;go_wp2_with fail;clear G1;refine(RQ wl n _ l (hv.below B aI) hl).mono ?_;rintro e w2 ⟨p0,i0,F,rfl,o0,b2⟩;have J:=J.keep b2;have I:=I.keep b2;have B:=B.after b2 B.size;have o0:=o0.mono (B':=w.heap.size+1+1) z3;have G1:=J.cell;go_wp2_with fail;clear G1;refine(TV w2 n _ l (hv.below B aI) hl).mono ?_;rintro e w3 ⟨rfl,b3⟩;have J:=J.keep b3;have I:=I.keep b3;have B:=B.after b3 B.size;have o0:=o0.keep b3;have j7:aK w3.drew (aA a l.length c) l:=(hv.below B aI).keep (Below.refl _ _).drew;have k0:=aH (LA w3.drew n (aA a l.length c) l j7 hl);have h9:=aH (fun(W:World) (h:Below w3.drew.heap.size w3.drew W)=>AL W n _ l (j7.keep h) n1);have s1:aP w3.drew w.heap.size 27 #[n,aA a l.length c]:=J;have g9:aP w3.drew (w.heap.size+1) 34 #[aB,aB,(),aB,(),aB,(),aB,aB,()]:=I;have Bd:Below w w w3.drew:=B.drew;have zd:w.heap.size+1<w3.drew.heap.size:=g9.lt;have G1:=J.cell;go_wp2_with fail;go_region_law
   (first
    |(go_simp;go_at_call 25;with_reducible refine k0.out.mono ?_;rintro e w5 ⟨p5,i5,q5,rfl,o5,b5⟩;have s0:=s1.keep b5;have u5:=s0.cell)
    |(go_simp;go_at_call 28;with_reducible refine(h9.out w5 b5).mono ?_;rintro e w6 ⟨rfl,b6⟩;have g8:=(g9.keep b5).keep b6;have u7:=g8.cell;have u2:=g8.frozen))
  all_goals
   have B5:=Bd.after b5 Bd.size;have B6:=B5.after b6 B5.size;have x5:=(o5.toW.mono (B':=w.heap.size+1+1) aD).keep b6;have x0:bK 3 (w.heap.size+1+1) w6 (aA p0 i0 F) (nM n l):=((o0.drewN 1).toW.keep b5).keep b6;have c7:aV (aA p5 i5 q5) (aA p0 i0 F):=(aV.of_lt (o0.drewN 1).toW o5.toW aI).symm;go_wp2;refine bN ?_;intro Wf D;have a9:aP Wf (w.heap.size+1) 34 #[aG 1,n,aA p5 i5 q5,aB,(),aB,(),(eM l),(sL n l),aA p0 i0 F]:=by rw[D];have:=((((((((((g8.set 0 (aG 1)).set 1 (aG n)).set 2 (aA p5 i5 q5)).set 3 (aG 0)).set 4 (aA none 0 0)).set 5 (aG 0)).set 6 (aA none 0 0)).set 7 (aG (eM l))).set 8 (aG (sL n l))).set 9 (aA p0 i0 F));simpa using this
   have hg:w6.grownBy Wf (some (w.heap.size+1)):=by exact uH
   have Bf:Below w w Wf:=B6.grown hg B6.size jI;have f5:=(x5.grow hg (fun q hq O=>by have:=Option.some.inj hq;have:=(x5.lt q O).1;omega)).mono (B':=w.heap.size) aD;have f0:=(x0.grow hg (fun q hq O=>by have:=Option.some.inj hq;have:=(x0.lt q O).1;omega)).mono (B':=w.heap.size) aD;have Gf:=a9.cell;clear D;obtain⟨K,Y,M,hP,hS,Z,hB⟩:=H.out;exact bodyPost_ret (v:=.tuple #[.agg #[aG 1,n,aA p5 i5 q5,aB,(),aB,(),(eM l),(sL n l),aA p0 i0 F],.bool true]) (by simp[results,results10,go_sem,Gf]) rfl
    ⟨p5,i5,q5,none,0,0,none,0,0,p0,i0,F,by rw[K,Y,hP,hS,hB],by rw[M];exact f5,bK.nil _ _ _,bK.nil _ _ _,by rw[Z];exact f0,⟨(aV.nil _ _ _).symm,(aV.nil _ _ _).symm,c7,aV.nil _ _ _,aV.nil _ _ _,aV.nil _ _ _⟩,Bf⟩
end
end Go.Proofs.YtkdbkjjacgigiaaGreatDoor
