/- Lemmas for CardConsoleResults. No condition. -/
import Derived.Test.YtkdbkjjacgigiaaGreatDoorQ04
import Derived.Deep.CutRange
set_option maxRecDepth 100000
set_option maxHeartbeats 64000000
namespace Go.Proofs.YtkdbkjjacgigiaaGreatDoor
section
open Go.RowKit Go.G5 Go.Proofs.Tryz
end
end Go.Proofs.YtkdbkjjacgigiaaGreatDoor
section
namespace Go.G5
open Go Go.RowKit
structure GrownIn (w w':World) (P:Nat->Prop):Prop where
 os:w'.os=w.os
 tape:w'.tape=w.tape
 output:w'.output=w.output
 size:w.heap.size<=w'.heap.size
 block:∀b,b<w.heap.size->¬P b->w'.heap[b]?=w.heap[b]?
section
variable {w w' w'':World} {P:Nat->Prop}
theorem GrownIn.refl(w:World)(P:Nat->Prop):GrownIn w w P:=⟨rfl,rfl,rfl,aI,fun _ _ _=>rfl⟩
theorem GrownIn.trans(h:GrownIn w w' P)(k:GrownIn w' w'' P):GrownIn w w'' P:=
 ⟨k.os.trans h.os,k.tape.trans h.tape,k.output.trans h.output,Nat.le_trans h.size k.size,fun b hb hr=>(k.block b (Nat.lt_of_lt_of_le hb h.size) hr).trans (h.block b hb hr)⟩
theorem GrownIn.of_row{row:Option Nat}(h:w.grownBy w' row)(z:∀k,row=some k->P k):GrownIn w w' P:=⟨h.os,h.tape,h.output,h.size,fun b hb D=>h.block b hb (fun e=>D (z b e.symm))⟩
theorem GrownIn.of_below(h:Below w w w'):GrownIn w w' P:=⟨h.os,h.tape,h.output,h.size,fun b hb _=>h.block b hb⟩
theorem aP.growIn{g:Nat}{t:TypeId}{cs:Array Value}(h:aP w g t cs)(z:GrownIn w w' P)(D:¬P g):aP w' g t cs:=(z.block g h.lt D).trans h
theorem bK.growIn{E:TypeId}{B:Nat}{v:Value}{l:List Int}(h:bK E B w v l)(I:GrownIn w w' P)(J:∀k,v.ownBlock=some k->¬P k):bK E B w' v l:=by
 refine⟨h.1,?_⟩;rcases h.2 with h1|⟨g,cap,z,rfl,D,F,r⟩
 ·exact .inl h1
 ·refine .inr ⟨g,cap,z,rfl,D,?_,r⟩;rw[I.block g (Array.getElem?_eq_some_iff.1 F).1 (J g rfl)];exact F
theorem Below.growIn{B:Nat}{a:World}(h:Below B a w)(z:GrownIn w w' P)(hB:B<=w.heap.size)(D:∀k,P k->B<=k):Below B a w':=
 ⟨z.os.trans h.os,z.tape.trans h.tape,z.output.trans h.output,Nat.le_trans h.size z.size,fun b hb=>(z.block b aD (fun F=>by have:=D b F;omega)).trans (h.block b hb)⟩
end
end Go.G5
namespace Go.Proofs.YtkdbkjjacgigiaaGreatDoor
open Go.RowKit Go.G5 Go.Proofs.Tryz
end Go.Proofs.YtkdbkjjacgigiaaGreatDoor
end
namespace Go.Proofs.YtkdbkjjacgigiaaGreatDoor
section
open Go.RowKit Go.G5 Go.Proofs.Tryz
theorem yY(g:Int)(l:List Int)(v:Value)(w:World)(F:aK w v l):
  Calls prog 327 #[g,v] w fun e w'=>e=.returned (.bool (oJ g l))/\w=w':=by
 obtain⟨a,c,rfl⟩:=F.shape;by_cases h:l.length<=6
 ·have z:oJ g l=dZ g l:=by unfold oJ;rw[decide_eq_true h];rfl
  have I:(l.length:Int)<=6:=aD;have D:=aH z;clear z;go_enter func327,ntmps327;go_wp2_with (go_at_call 219;refine(rI g l _ _ F).mono ?_;rintro e w' ⟨rfl,rfl⟩);go_ret;exact⟨by rw[D.out];rfl,rfl⟩
 ·have z:oJ g l=false:=by unfold oJ;rw[decide_eq_false h];rfl
  have I:¬(l.length:Int)<=6:=aD;have D:=aH z;clear z;go_enter func327,ntmps327;go_wp2;go_ret;exact⟨by rw[D.out];rfl,rfl⟩
theorem ad6(w:World)(D z:Nat)(v:Value)(a:Option Addr)(n c:Nat)(hv:v=aA a n c)(Z:Array Value)(M:aP w D 25 #[()])(K:aP w z 4 #[.bool false])(I:D≠z)(_:Z=#[]):
  Calls prog 329 #[v,.pointer (some ⟨D,0,none⟩),.pointer (some ⟨z,0,none⟩)] w fun e w'=>e=.returned (.bool false)/\aP w' D 25 #[v]/\aP w' z 4 #[.bool true]/\GrownIn w w' (fun k=>k=D∨k=z):=by
 subst hv;have Go:=M.cell;have R:=K.cell;have O:=M.frozen;have N:=K.frozen;have zo:=M.lt;have zf:=K.lt;have J:¬z=D:=fun e=>I e.symm;go_enter func329,ntmps329;go_wp2;refine bN ?_;intro Wf F;have S:aP Wf D 25 #[aA a n c]:=by rw[F];have:=(M.set 0 (aA a n c)).far (p:=⟨z,0,none⟩) I (.bool true);simpa using this
 have Y:aP Wf z 4 #[.bool true]:=by rw[F];have:=(K.far (p:=⟨D,0,none⟩) J (aA a n c)).set 0 (.bool true);simpa using this
 have hg:GrownIn w Wf (fun k=>k=D∨k=z):=by rw[F];exact(GrownIn.of_row (jW w ⟨D,0,none⟩ _) (fun k hk=>.inl (Option.some.inj hk).symm)).trans (GrownIn.of_row (jW _ ⟨z,0,none⟩ _) (fun k hk=>.inr (Option.some.inj hk).symm))
 clear F Go R O N;go_ret;exact⟨rfl,S,Y,hg⟩
theorem KI:∀args w,(callFunc 329 args).run prog w=.ok (.enter 329 args) w:=enters_of func329 aO rfl
def DN(D z B:Nat)(w:World)(R:Option (List Int))(e:Ending)(w':World):Prop:=match R with
 |none=>e=.returned (.bool true)/\Below w w w'
 |some x=>e=.returned (.bool false)/\(∃ad i F,aM 3 B w' (aA ad i F) x/\aP w' D 25 #[aA ad i F])/\aP w' z 4 #[.bool true]/\GrownIn w w' (fun k=>k=D∨k=z)
theorem aj3(l:List Int)(lv:Value)(hm:∀x∈l,0<=x/\x<64)(o9:l.length<=6)(bo Z:Nat)(h7:bo≠Z):∀(n:Nat) (used:Int) (list:List Int) (v:Value) (w:World) (B:Nat),list.length+n=l.length->aK w lv l->aM 3 B w v list->B<=w.heap.size->bo<B->Z<B ->
  aP w bo 25 #[()]->aP w Z 4 #[.bool false]->0<=used/\used<64 ->
  Calls prog 328 #[lv,used,v,.func (.func 329) #[] #[.pointer (some ⟨bo,0,none⟩),.pointer (some ⟨Z,0,none⟩)]] w (DN bo Z B w (qW l n used list)):=by
 have HM:=aH hm;have he:=KI;clear hm;intro n
 induction n with
 |zero=>
  intro used list v w B hn a8 jS hB k7 k6 Ko Kf hu;obtain⟨a,c,rfl⟩:=a8.shape;obtain⟨av,cv,rfl⟩:=jS.shape;have ht:((list.length:Int)==(l.length:Int))=true:=by simp;omega
  have HN:=aH hn;have j4:=aH h7;clear hn h7;go_enter func328,ntmps328;go_wp2_with (go_at_fn 329;refine(ad6 _ bo Z _ _ _ _ rfl #[] Ko Kf j4.out rfl).mono ?_;rintro e w1 ⟨rfl,K1,K2,hg⟩);go_ret;refine⟨rfl,⟨av,list.length,cv,?_,K1⟩,K2,hg⟩;refine⟨?_,jS.2⟩;have h1:=jS.1;rcases h1.2 with h2|⟨g,cap,j9,h2,k2,g8,r⟩
  ·exact⟨h1.1,.inl h2⟩
  ·refine⟨h1.1,.inr ⟨g,cap,j9,h2,k2,?_,r⟩⟩;rw[hg.block g (Array.getElem?_eq_some_iff.1 g8).1 (by rintro(h|h)<;>omega)];exact g8
 |succ n ih=>
  intro used list v w B hn a8 jS hB k7 k6 Ko Kf hu;have h5:=a8;obtain⟨a,b,q3,c,rfl,m4,h0,hc,hb⟩:=a8.view prog 25 3 underlying25 aN;obtain⟨av,cv,rfl⟩:=jS.shape;have hlt:list.length<l.length:=aD;have ht:((list.length:Int)==(l.length:Int))=false:=by simp;omega
  have M:=HM.out _ (List.getElem_mem hlt);have k8:=hc list.length hlt;have m3:=fun W=>h0 W list.length hlt;have z:=ST l n used list;rw[aS l list.length hlt]at z;obtain⟨x,hx⟩:=aJ (l[list.length]);rw[<-hx]at M k8 z;have f9:=lA M.1 M.2 hu.1 hu.2;have c6:=mY x used 64 M.1 M.2;obtain⟨d,hd⟩:=aJ (cG x used);rw[<-hd]at f9 c6 z;have h9:=hu.1;have p8:=hu.2;obtain⟨F,hF⟩:∃F:Int->Option (List Int),F=I6 l n used list:=⟨_,rfl⟩;rw[<-hF]at z;have g2:=uS d;have N:=PV d;have HN:=aH hn;have HF:=aH hF;have IH:=aH ih;clear hn hx hd hF ih hc h0 hu M;go_enter func328,ntmps328;go_wp2_with fail;refine(kS d _ c6.1 c6.2).mono ?_;rintro e w1 ⟨p1,i1,q1,rfl,o1,k5⟩;have g9:i1=(eK d).length:=o1.ints.capLe.1;obtain⟨E,hE⟩:=aJ (eK d);rw[<-hE]at o1 g9 z g2 N;subst g9;have b0:=aH z;have j3:=aH N;clear hE z N;go_wp2_with fail;go_loopw [29] (fun i wr=>∃j:Nat,j<=E.length/\i=aG j/\(E.take j).findSome? F=none/\Below w w wr/\aM 3 w wr (aA p1 E.length q1) E) (fun i _=>E.length-(intOf i).toNat)
  case atStart=>exact⟨0,Nat.zero_le _,rfl,by simp,k5,o1⟩
  case round=>
   obtain⟨j,hj,rfl,Y,Bw,oE⟩:=hrel;have H:=aH Y;clear Y;have yw:=Bw.size;by_cases S:j<E.length
   ·have ol:=jS.keep Bw;obtain⟨a5,bj,m7,c5,g0,l0,b1,f7,_⟩:=oE.ints.view prog 25 3 underlying25 aN;simp only[Value.slice.injEq,true_and]at g0;obtain⟨rfl,rfl⟩:=g0;have O:=j3.out _ (List.getElem_mem S);have f8:=f7 j S;have k9:=fun W=>b1 W j S;have D:=FP F E j S;rw[H.out]at D;have I:=fun y=>VR F E j S y H.out;obtain⟨e,c7⟩:∃e:Nat,E[j]=(e:Int):=⟨E[j].toNat,by omega⟩;rw[c7]at f8 O D;simp only[c7]at I;have hp:=MR e O;have c9:(2:Int)^(e:Int).toNat=2^e:=by simp
    rw[c9]at hp;have l1:bits .or .i64 used (2^e)=eH used (2^e):=sJ h9 aD aD aD;have h8:=AJ used (2^e) 6 h9 aD aD aD;have f4:F (e:Int)=qW l n (eH used (2^e)) (list++[(e:Int)]):=by rw[HF.out];unfold I6;rw[c9]
    have J:∀(v6:Value) (w6:World),aM 3 wr w6 v6 (list++[(e:Int)])->Below wr wr w6 ->
      Calls prog 328 #[aA a l.length c,(eH used (2^e)),v6,.func (.func 329) #[] #[.pointer (some ⟨bo,0,none⟩),.pointer (some ⟨Z,0,none⟩)]] w6 (DN bo Z wr.heap.size w6 (F (e:Int))):=fun v6 w6 h1 h2=>by
     rw[f4];have BB:=Bw.after h2 Bw.size;exact IH.out _ _ v6 w6 wr.heap.size (by have:=HN.out;rw[List.length_append,List.length_singleton];omega) (h5.below BB aI) h1 h2.size aD aD (Ko.keep BB) (Kf.keep BB) h8
    obtain⟨R,hR⟩:=aJ (F (e:Int));rw[<-hR]at D;simp only[<-hR]at I J;obtain⟨u2,d0⟩:=aJ (eH used (2^e));rw[<-d0]at l1;simp only[<-d0]at J;have a9:=aH J;have f5:([]:List Int).length+list.length<=17592186044416:=by simp;omega
    have f6:([]++list).length<17592186044415:=by simp;omega
    have f3:dL (e:Int):=⟨by omega,by omega⟩;have e8:=aH f5;have e9:=aH f6;have e5:=aH f3;have e6:=aH I;have b9:=aH D;have j5:=aH oE;have p5:=hp.1;have p6:=hp.2;have o8:e<6:=aD;clear J f5 f6 f3 I D f4 d0 hR h8 c9 c7 O hp oE f7 b1
    cases R with
    |none=>
     go_wp2_with (first
 |(at_builtin;refine mD rfl _ _ _ rfl 3 underlying25 aN wr.heap.size (aA none 0 0) [] rfl (aM.nil _ _ _) (aA av list.length cv) list rfl ol.ints e8.out aI ?_;intro v5 w5 o5 g5 n5;have K:=(Below.refl wr.heap.size wr).grown g5 aI (fun q hq=>((aM.nil 3 wr.heap.size wr).lt q hq).1))
 |(at_builtin;refine fN rfl _ _ _ rfl 3 underlying25 aN wr.heap.size v5 ([]++list) (e:Int) w5.heap.size rfl rfl (aZ _ _ _ _ _ rfl) (o5.alloc _) e5.out e9.out (K.alloc K.size _).size ?_;intro v6 w6 o6 g6 n6;have b6:=(K.alloc K.size _).grown g6 (K.alloc K.size _).size (fun q hq=>(o5.lt q hq).1))
 |(go_at_call 328;refine(a9.out v6 w6 o6 b6).mono ?_;rintro e7 w7 ⟨rfl,b7⟩))
     have B6:=Bw.after b6 Bw.size;have B7:=B6.after b7 B6.size;go_roundw
     case rel=>exact⟨j+1,by omega,by go_num,by rw[b9.out];rfl,B7,(j5.out.keep b6).keep b7⟩
     case measure=>simp[intOf];omega
    |some y=>
     have b4:qW l (n+1) used list=some y:=by rw[b0.out];exact e6.out y rfl
     have f2:=aH b4;clear b4;go_wp2_with (first
 |(at_builtin;refine mD rfl _ _ _ rfl 3 underlying25 aN wr.heap.size (aA none 0 0) [] rfl (aM.nil _ _ _) (aA av list.length cv) list rfl ol.ints e8.out aI ?_;intro v5 w5 o5 g5 n5;have K:=(Below.refl wr.heap.size wr).grown g5 aI (fun q hq=>((aM.nil 3 wr.heap.size wr).lt q hq).1))
 |(at_builtin;refine fN rfl _ _ _ rfl 3 underlying25 aN wr.heap.size v5 ([]++list) (e:Int) w5.heap.size rfl rfl (aZ _ _ _ _ _ rfl) (o5.alloc _) e5.out e9.out (K.alloc K.size _).size ?_;intro v6 w6 o6 g6 n6;have b6:=(K.alloc K.size _).grown g6 (K.alloc K.size _).size (fun q hq=>(o5.lt q hq).1))
 |(go_at_call 328;refine(a9.out v6 w6 o6 b6).mono ?_;rintro e7 w7 ⟨rfl,⟨p7,i7,q7,o7,K7⟩,j7,g7⟩))
     go_ret;show DN bo Z B w (qW l (n+1) used list) _ _;rw[f2.out];exact⟨rfl,⟨p7,i7,q7,o7.mono aD,K7⟩,j7,(GrownIn.of_below (Bw.after b6 Bw.size)).trans g7⟩
   ·have b3:qW l (n+1) used list=none:=by rw[b0.out,<-List.take_of_length_le (show E.length<=j by omega),H.out]
    have f0:=aH b3;clear b3;go_wp2;go_ret;show DN bo Z B w (qW l (n+1) used list) _ _;rw[f0.out];exact⟨rfl,Bw⟩
theorem ah3{p:Prop}(h:p:=by
  go_wp2_with (go_at_call 327;refine(yY g l _ _ F).mono ?_;rintro e w1 ⟨rfl,rfl⟩;rw[HF.out]);go_ret2;exact⟨none,0,0,by rw[H.out.1];rfl,by rw[H.out.2];exact bK.nil _ _ _,Below.refl _ _⟩):p:=h
theorem aq9(w:World)(g:Int)(_:dL g)(v:Value)(l:List Int)(hv:aK w v l)(_:l.length<=1048576):
  Calls prog 243 #[g,v] w fun e w'=>∃ad i cp,e=.returned (.tuple #[aA ad i cp,.bool (mI g l)])/\bK 3 w.heap.size w' (aA ad i cp) (vZ g l)/\Below w w w':=by
 have F:=hv;obtain⟨a,c,rfl⟩:=hv.shape
 cases D:oJ g l with
 |false=>
  have hr:wY g l=none:=by unfold wY;rw[D];rfl
  have hB:mI g l=false:=by unfold mI;rw[hr];rfl
  have I:vZ g l=[]:=I5 hB;have H:=aH (And.intro hB I);have HF:=aH D;clear hr hB I D;go_enter func243,ntmps243;exact ah3
 |true=>
  have hr:wY g l=qW l l.length 0 []:=by unfold wY;rw[D];rfl
  obtain⟨O,_,_,_,hm⟩:=NP D;have HF:=aH D;have f6:∀(fn:Fn) (first cap:Array Value) (w:World),(Instr.makeFunc fn first cap).run prog w=.ok (.func fn first cap) w:=fun _ _ _ _=>rfl;have Y:∀V,Below w w V->w.heap.size+2<=V.heap.size->aP V w 25 #[()]->aP V (w.heap.size+1) 4 #[.bool false] ->
    Calls prog 328 #[aA a l.length c,aB,(),.func (.func 329) #[] #[.pointer (some ⟨w,0,none⟩),.pointer (some ⟨w.heap.size+1,0,none⟩)]] V (DN w.heap.size (w.heap.size+1) (w.heap.size+2) V (wY g l)):=fun V hB hz h1 h2=>by
   rw[hr];exact aj3 l _ hm O _ _ aD l.length 0 [] _ V (w.heap.size+2) (by simp) (F.below hB aI) (aM.nil _ _ _) hz aD aD h1 h2 aD
  obtain⟨R,J⟩:=aJ (wY g l);simp only[<-J]at Y;have HV:=aH Y;clear Y hr D hm O
  cases R with
  |none=>
   have hB:mI g l=false:=by unfold mI;rw[<-J];rfl
   have H:=aH (And.intro hB (I5 hB));clear hB J;go_enter func243,ntmps243;go_wp2_with (go_at_call 327;refine(yY g l _ _ F).mono ?_;rintro e w1 ⟨rfl,rfl⟩;rw[HF.out]);refine bU ?_;intro V hV;have B:Below w w V:=gO hV;have K1:aP V w 25 #[()]:=gR hV;have Z:aP V (w.heap.size+1) 4 #[.bool false]:=iP hV;have z2:=Z.lt;clear hV;refine(HV.out V B aD K1 Z).mono ?_;rintro e w3 ⟨rfl,b0⟩;have K1:=K1.keep b0;have Z:=Z.keep b0;have B3:=B.after b0 B.size;have G1:=K1.cell;have G2:=Z.cell;go_wp2_with fail;go_quiet (fail);go_wp2;go_ret2;exact⟨none,0,0,by rw[H.out.1];rfl,by rw[H.out.2];exact bK.nil _ _ _,B3.drewN' _⟩
  |some y=>
   have hB:mI g l=true:=by unfold mI;rw[<-J];rfl
   have I:vZ g l=y:=by unfold vZ;rw[<-J];rfl
   have H:=aH (And.intro hB I);clear hB J I;go_enter func243,ntmps243;go_wp2_with (go_at_call 327;refine(yY g l _ _ F).mono ?_;rintro e w1 ⟨rfl,rfl⟩;rw[HF.out]);refine bU ?_;intro V hV;have B:Below w w V:=gO hV;have K1:aP V w 25 #[()]:=gR hV;have Z:aP V (w.heap.size+1) 4 #[.bool false]:=iP hV;have z2:=Z.lt;clear hV;refine(HV.out V B aD K1 Z).mono ?_;rintro e w3 ⟨rfl,⟨p3,i3,q3,o3,K3⟩,K4,g3⟩;have B3:=Below.growIn B g3 B.size (by rintro k (h|h)<;>omega);have G1:=K3.cell;have G2:=K4.cell;clear K1 Z;go_wp2_with fail;go_quiet (fail);go_wp2;go_ret2;exact⟨p3,i3,q3,by rw[H.out.1];rfl,by rw[H.out.2];exact(o3.toW.mono aD).drewN _,B3.drewN' _⟩
theorem adI(l:List Int)(v:Value)(w:World)(hv:aK w v l)(hm:∀x∈l,0<=x/\x<64)(b4:l.length<=6)(code:Nat)(R:code<64):
  Calls prog 330 #[v,code] w fun e w'=>e=.returned (aG ((bY code:Int)-cT (dY l code l.length)))/\w=w':=by
 obtain⟨a,b,b8,c,rfl,a7,b3,hc,hb⟩:=hv.view prog 25 3 underlying25 aN;have O:=aH hm;clear hm;go_enter func330,ntmps330;go_wp2;go_loop [5,10] (fun u i=>∃k:Nat,k<=l.length/\i=aG k/\u=aG (dY l code k)) (fun _ i=>l.length-(intOf i).toNat)
 case atStart=>exact⟨0,Nat.zero_le _,rfl,rfl⟩
 case round=>
  obtain⟨k,hk,rfl,rfl⟩:=hrel;by_cases hlt:k<l.length
  ·have b1:=hc k hlt;have M:=O.out _ (List.getElem_mem hlt);have z:=tL l code O.out k hk;have Z:dY l code (k+1)=if cZ code k then eH (dY l code k) l[k] else dY l code k:=by rw[dY,aS l k hlt]
   have K:=jN (code:Int) k aD aD;have F:=oP code k;obtain⟨y,hy⟩:=aJ (dI (code:Int) k);rw[<-hy]at K F;have Y:=sJ z.1 (show dY l code k<4611686018427387904 by omega) M.1 (show l[k]<4611686018427387904 by omega);obtain⟨u,J⟩:=aJ (dY l code k);rw[<-J]at Y Z ⊢;have HS:=aH Z;clear Z hy J z M
   cases D:cZ code k with
   |false=>
    have a1:(y==1)=false:=by rw[F,D]
    have I:=aH D;clear D F;go_wp2;go_round
    case rel=>exact⟨k+1,by omega,by go_num,by rw[HS.out,I.out];rfl⟩
    case measure=>simp[intOf];omega
   |true=>
    have a1:(y==1)=true:=by rw[F,D]
    have I:=aH D;clear D F;go_wp2;go_round
    case rel=>exact⟨k+1,by omega,by go_num,by rw[HS.out,I.out,if_pos rfl]⟩
    case measure=>simp[intOf];omega
  ·have S:k=l.length:=aD
   subst S;have z:=tL l code O.out l.length aI;obtain⟨u,J⟩:=aJ (dY l code l.length);rw[<-J]at z ⊢;have b6:=wQ u aD;have b5:=vY code aD;have HU:=aH J;have N:=z.1;have a8:=z.2;clear J z;go_wp2_with (first
    |(go_at_call 214;refine(fH code _ aD).mono ?_;rintro e w1 ⟨rfl,rfl⟩)
    |(go_at_call 214;refine(sR u _ N aD).mono ?_;rintro e w1 ⟨rfl,rfl⟩))
   go_ret;exact⟨fL (by rw[<-HU.out]),rfl⟩
theorem arF(w:World)(g:Int)(_:dL g)(v:Value)(l:List Int)(hv:aK w v l)(_:l.length<=1048576):
  Calls prog 244 #[g,v] w fun e w'=>∃ad i cp,e=.returned (.tuple #[aA ad i cp,.bool (wD g l)])/\bK 3 w.heap.size w' (aA ad i cp) (sX g l)/\Below w w w':=by
 have F:=hv;obtain⟨a,c,rfl⟩:=hv.shape
 cases D:oJ g l with
 |false=>
  have hr:wE g l=none:=by unfold wE;rw[D];rfl
  have hB:wD g l=false:=by unfold wD;rw[hr];rfl
  have I:sX g l=[]:=by unfold sX;rw[hr]
  have H:=aH (And.intro hB I);have HF:=aH D;clear hr hB I D;go_enter func244,ntmps244;exact ah3
 |true=>
  have hr:wE g l=gP (EU l) (2^l.length) 0:=by unfold wE;rw[D];rfl
  obtain⟨O,_,_,_,hm⟩:=NP D;have HF:=aH D;have HM:=aH hm;have b8:(2:Nat)^l.length<=64:=Nat.pow_le_pow_right (n:=2) aQ O;have a7:((2^l.length:Nat):Int)=(2:Int)^l.length:=by simp
  have f8:(2:Int)^l.length<=64:=by rw[<-a7];exact_mod_cast b8
  have f9:=(cJ l.length 6 O).2;obtain⟨N,hN⟩:∃N:Nat,N=2^l.length:=⟨_,rfl⟩;rw[<-hN]at hr b8 a7;obtain⟨P,hP⟩:=aJ (EU l);rw[<-hP]at hr;have HR:=aH hr;have b4:=aH a7;have HP:=aH hP;clear hr D hm hN a7 hP;go_enter func244,ntmps244;go_wp2_with (go_at_call 327;refine(yY g l _ _ F).mono ?_;rintro e w1 ⟨rfl,rfl⟩;rw[HF.out]);go_loop [15] (fun i=>∃k:Nat,k<=N/\i=aG k/\gP P (N-k) k=gP P N 0) (fun i=>N-(intOf i).toNat)
  case atStart=>exact⟨0,Nat.zero_le _,rfl,rfl⟩
  case round=>
   obtain⟨k,hk,rfl,K⟩:=hrel;have H:=aH K;clear K;by_cases hlt:k<N
   ·have b7:(k:Int)<2^l.length:=by rw[<-b4.out];exact_mod_cast hlt
    have S:gP P (N-k) k=if P k then some k else gP P (N-(k+1)) (k+1):=by rw[show N-k=(N-(k+1))+1 by omega];rfl
    have z:P k=decide (cT (dY l k l.length)<(bY k:Int)):=by rw[HP.out];rfl
    have a6:=adI l _ w F HM.out O k aD;have e0:=tL l k HM.out l.length aI;have d0:=wQ (dY l k l.length) aD;have c9:=vY k aD;obtain⟨q,hq⟩:=aJ (cT (dY l k l.length));obtain⟨r,hr⟩:=aJ ((bY k:Int));rw[<-hq]at z a6 d0;rw[<-hr]at z a6;have g0:r<=8/\0<=r:=by rw[hr];omega
    have b3:=aH a6;have b5:=aH S;have e8:k<64:=aD;clear a6 S e0 hq hr c9
    cases M:P k with
    |false=>
     have f7:¬0<r-q:=by rw[M]at z;have:=of_decide_eq_false z.symm;omega
     have c6:=aH M;clear M z;go_wp2_with (go_at_call 330;refine b3.out.mono ?_;rintro e w1 ⟨rfl,rfl⟩);go_round
     case rel=>exact⟨k+1,by omega,by go_num,by rw[<-H.out,b5.out,c6.out];rfl⟩
     case measure=>simp[intOf];omega
    |true=>
     have g2:0<r-q:=by rw[M]at z;have:=of_decide_eq_true z.symm;omega
     have J:wE g l=some k:=by rw[HR.out,<-H.out,b5.out,M];rfl
     have hB:wD g l=true:=by unfold wD;rw[J];rfl
     have I:sX g l=eK (k:Int):=by unfold sX;rw[J]
     have HB:=aH (And.intro hB I);clear M z J hB I;go_wp2_with (first
      |(go_at_call 330;refine b3.out.mono ?_;rintro e w1 ⟨rfl,rfl⟩)
      |(go_at_call 215;refine(kS (k:Int) _ aD aD).mono ?_;rintro e w2 ⟨p2,i2,q2,rfl,o2,c8⟩))
     go_ret2;exact⟨p2,i2,q2,by rw[HB.out.1];rfl,by rw[HB.out.2];exact o2.toW,c8⟩
   ·have b7:¬(k:Int)<2^l.length:=by rw[<-b4.out];exact_mod_cast hlt
    have J:wE g l=none:=by rw[HR.out,<-H.out,show N-k=0 by omega];rfl
    have hB:wD g l=false:=by unfold wD;rw[J];rfl
    have I:sX g l=[]:=by unfold sX;rw[J]
    have HB:=aH (And.intro hB I);clear J hB I;go_wp2;go_ret2;exact⟨none,0,0,by rw[HB.out.1];rfl,by rw[HB.out.2];exact bK.nil _ _ _,Below.refl _ _⟩
theorem oN(g:Int)(l:List Int)(v:Value)(w:World)(hv:aK w v l):
  Calls prog 82 #[g,v] w fun e w'=>e=.returned (.bool (oJ g l))/\Below w w w':=by
 obtain⟨a,b,a7,c,rfl,Y,a1,hc,hb⟩:=hv.view prog 25 3 underlying25 aN
 cases I:dV g 0 6 with
 |false=>
  have F:oJ g l=false:=by unfold oJ dZ;rw[I];simp
  have J:=aH F;clear F hc;go_enter func82,ntmps82;go_wp2_with (go_at_call 77;refine(cP _ _ _ _).mono ?_;rintro e w' ⟨rfl,rfl⟩);go_ret;exact⟨by rw[J.out];rfl,Below.refl _ _⟩
 |true=>
  have O:=cR.1 I;obtain⟨G,rfl⟩:=Int.eq_ofNat_of_zero_le O.1;have hG:G<=6:=aD;by_cases M:l.length<=6
  ·have F:oJ G l=l.all (eB G):=by unfold oJ dZ;rw[I,decide_eq_true M];simp
   have R:¬(6:Int)<l.length:=aD;have J:=aH F;clear F O;go_enter func82,ntmps82;go_wp2_with (go_at_call 77;refine(cP _ _ _ _).mono ?_;rintro e w' ⟨rfl,rfl⟩);go_loopw [5] (fun i wr=>∃k m:Nat,k<=l.length/\i=aG k/\wr=w.drewN m/\(l.take k).all (eB G)=true) (fun i _=>l.length-(intOf i).toNat)
   case atStart=>exact⟨0,0,by omega,rfl,rfl,by simp⟩
   case round=>
    obtain⟨k,m,hk,rfl,rfl,D⟩:=hrel;have S:=aH D;clear D;by_cases hlt:k<l.length
    ·have Z:=hc k hlt
     cases N:eB G l[k]with
     |false=>
      have z:dV l[k] 0 (2^G-1)=false:=by rw[xZ];exact N
      have K:=aH z;clear z;go_wp2_with fail;go_quiet ((first|(go_at_call 78;first|exact gL (eO G _ aD)|exact jF (eO G _ aD))|(go_at_call 77;first|exact oT (cP _ _ _ _) K.out|exact sP (cP _ _ _ _) K.out)));go_wp2;go_ret;refine⟨aW ?_,((Below.refl _ _).drewN' _).drewN' _⟩;rw[J.out,jK _ _ _ hlt N]
     |true=>
      have z:dV l[k] 0 (2^G-1)=true:=by rw[xZ];exact N
      have K:=aH z;clear z;go_wp2_with fail;go_quiet ((first|(go_at_call 78;first|exact gL (eO G _ aD)|exact jF (eO G _ aD))|(go_at_call 77;first|exact oT (cP _ _ _ _) K.out|exact sP (cP _ _ _ _) K.out)));go_wp2;go_roundw
      case rel=>exact⟨k+1,m+nq,by omega,by go_num,by simp,by rw[iW _ _ _ hlt,S.out,N];rfl⟩
      case measure=>simp[intOf];omega
    ·go_wp2;go_ret;refine⟨aW ?_,(Below.refl _ _).drewN' _⟩;rw[J.out,<-kO (eB G) l k aD,S.out]
  ·have F:oJ G l=false:=by unfold oJ;rw[decide_eq_false M];rfl
   have R:(6:Int)<l.length:=aD;have J:=aH F;clear F hc O;go_enter func82,ntmps82;go_wp2_with (go_at_call 77;refine(cP _ _ _ _).mono ?_;rintro e w' ⟨rfl,rfl⟩);go_ret;exact⟨by rw[J.out];rfl,Below.refl _ _⟩
theorem aiU:∀x:Nat,x<64->∀u:Nat,u<64->∀e:Nat,e<6->cZ (cO x u) e=(cZ x e&&!cZ u e):=by decide +kernel
theorem UT(P Q:Nat->Bool)(n:Nat)(h:∀e,e<n->P e=Q e):cD P n=cD Q n:=by
 induction n with
 |zero=>rfl
 |succ n ih=>rw[fM,fM,ih (fun e z=>h e aD),h n aD]
theorem TK(P:Nat->Bool)(k n:Nat)(h:k<=n):cD P n=cD P k++(cD P n).drop (cD P k).length:=by
 induction n with
 |zero=>have:k=0:=aD;subst this;rfl
 |succ n ih=>
  by_cases hk:k=n+1
  ·subst hk;simp
  ·have:=ih aD;rw[fM]
   split
   ·rw[List.drop_append_of_le_length (by have:=congrArg List.length this;rw[List.length_append]at this;omega),<-List.append_assoc,<-this]
   ·exact this
theorem akY(x u G:Nat)(D:G<=6)(F:x<2^G)(I:u<64):eK (cG (x:Int) (u:Int))=cD (fun e=>cZ x e&&!cZ u e) G:=by
 have z:x<64:=Nat.lt_of_lt_of_le F (Nat.pow_le_pow_right (n:=2) aQ D);have hd:cO x u<2^G:=wU x u _ F;have e1:eK (cG (x:Int) (u:Int))=gT (cO x u) 6:=by unfold eK cG;rfl
 rw[e1,tB (cO x u) 6 G (Nat.lt_of_lt_of_le hd (Nat.pow_le_pow_right aQ D)) hd];unfold gT;exact UT _ _ G (fun e J=>aiU x z u I e aD)
theorem af5(c s:Nat):(dI (c:Int) s==0)=!cZ c s:=by
 have h:=oP c s;have h2:dI (c:Int) s=0∨dI (c:Int) s=1:=by unfold dI;omega
 rcases h2 with h2|h2
 ·rw[h2]at h ⊢;rw[<-h];rfl
 ·rw[h2]at h ⊢;rw[<-h];rfl
theorem acZ(l:List Int)(lv:Value)(G:Nat)(hG:G<=6)(hm:∀x∈l,0<=x/\x<2^G)(l2:l.length<=6):∀(n:Nat) (used:Nat) (list:List Int) (v:Value) (w:World) (B:Nat),list.length+n=l.length->aK w lv l->aM 3 B w v list->B<=w.heap.size->used<64 ->
  Calls prog 83 #[G,lv,v,used] w fun e w'=>∃ad i cp,e=.returned (.tuple #[aA ad i cp,.bool (qW l n used list).isSome])/\aM 3 B w' (aA ad i cp) ((qW l n used list).getD [])/\Below w w w':=by
 have HM:=aH hm;clear hm;intro n
 induction n with
 |zero=>
  intro used list v w B hn a7 jS hB hu;obtain⟨a,c,rfl⟩:=a7.shape;obtain⟨av,cv,rfl⟩:=jS.shape;have ht:((list.length:Int)==(l.length:Int))=true:=by simp;omega
  have HN:=aH hn;clear hn;go_enter func83,ntmps83;go_wp2_with fail;go_ret2;exact⟨av,list.length,cv,rfl,jS,Below.refl _ _⟩
 |succ n ih=>
  intro used list v w B hn a7 jS hB hu;have f2:=a7;obtain⟨a,b,i7,c,rfl,j3,f0,hc,hb⟩:=a7.view prog 25 3 underlying25 aN;obtain⟨av,cv,rfl⟩:=jS.shape;have hlt:list.length<l.length:=aD;have ht:((list.length:Int)==(l.length:Int))=false:=by simp;omega
  have c9:=HM.out _ (List.getElem_mem hlt);have J:=hc list.length hlt;have l0:b<w.heap.size:=World.block_lt_of_cell? _ _ J;have j2:=fun W=>f0 W list.length hlt;have D:=ST l n used list;rw[aS l list.length hlt]at D;obtain⟨x,hx⟩:∃x:Nat,l[list.length]=(x:Int):=⟨l[list.length].toNat,by omega⟩;rw[hx]at c9 J D;have c8:x<2^G:=by have:=c9.2;exact_mod_cast this
  have j6:x<64:=Nat.lt_of_lt_of_le c8 (Nat.pow_le_pow_right (n:=2) aQ hG);rw[akY x used G hG c8 hu]at D;obtain⟨P,hP⟩:∃P:Nat->Bool,P=fun e=>cZ x e&&!cZ used e:=⟨_,rfl⟩;obtain⟨F,hF⟩:∃F:Int->Option (List Int),F=I6 l n used list:=⟨_,rfl⟩;rw[<-hF,<-hP]at D;have HN:=aH hn;have HF:=aH hF;have HP:=aH hP;have IH:=aH ih;have b5:=aH D;clear hn hx hF hP ih hc f0 c9 D c8;go_enter func83,ntmps83;go_wp2_with fail;go_loopw [10] (fun i wr=>∃k:Nat,k<=G/\i=aG k/\(cD P k).findSome? F=none/\Below w w wr) (fun i _=>G-(intOf i).toNat)
  case atStart=>exact⟨0,Nat.zero_le _,rfl,rfl,Below.refl _ _⟩
  case round=>
   obtain⟨k,hk,rfl,S,I⟩:=hrel;have H:=aH S;clear S;have yw:=I.size;have l1:wr.cell? ⟨b,i7+list.length,none⟩=some (aG (x:Int)):=keep I J;by_cases h6:k<G
   ·have ol:=jS.keep I;have e9:=fM P k;have K:P k=(cZ x k&&!cZ used k):=by rw[HP.out]
    have h5:=jN (x:Int) k aD aD;have h0:=jN (used:Int) k aD aD;have N:=oP x k;have M:=af5 used k;obtain⟨y,hy⟩:=aJ (dI (x:Int) k);obtain⟨z,hz⟩:=aJ (dI (used:Int) k);rw[<-hy]at h5 N;rw[<-hz]at h0 M;have a6:=aH e9;clear hy hz e9
    cases h1:cZ x k with
    |false=>
     have h8:(y==1)=false:=by rw[N,h1]
     have Y:P k=false:=by rw[K,h1];rfl
     have b9:=aH Y;clear h1 N K Y M;go_wp2;go_roundw
     case rel=>exact⟨k+1,by omega,by go_num,by rw[a6.out,b9.out];exact H.out,I⟩
     case measure=>simp[intOf];omega
    |true=>
     have h8:(y==1)=true:=by rw[N,h1]
     cases h2:cZ used k with
     |true=>
      have i1:(z==0)=false:=by rw[M,h2];rfl
      have Y:P k=false:=by rw[K,h1,h2];rfl
      have b9:=aH Y;clear h1 h2 N K Y M;go_wp2;go_roundw
      case rel=>exact⟨k+1,by omega,by go_num,by rw[a6.out,b9.out];exact H.out,I⟩
      case measure=>simp[intOf];omega
     |false=>
      have i1:(z==0)=true:=by rw[M,h2];rfl
      have f5:P k=true:=by rw[K,h1,h2];rfl
      have e0:=aH f5;have hp:=MR (k:Int) aD;have c7:(2:Int)^(k:Int).toNat=2^k:=by simp
      rw[c7]at hp;have h7:bits .or .i64 (used:Int) (2^k)=eH used (2^k):=sJ aD aD aD aD;have f4:=AJ used (2^k) 6 aD aD aD aD;have c6:F (k:Int)=qW l n (eH used (2^k)) (list++[(k:Int)]):=by rw[HF.out];unfold I6;rw[c7]
      obtain⟨u2,f6⟩:∃u:Nat,eH used (2^k)=(u:Int):=⟨(eH used (2^k)).toNat,by omega⟩;rw[f6]at h7 f4 c6;have Z:∀(v2:Value) (w2:World),aM 3 wr w2 v2 (([]++list)++[(k:Int)])->Below wr wr w2 ->
        Calls prog 83 #[G,aA a l.length c,v2,(u2:Int)] w2 fun e w'=>∃ad i cp,e=.returned (.tuple #[aA ad i cp,.bool (F (k:Int)).isSome])/\aM 3 wr w' (aA ad i cp) ((F (k:Int)).getD [])/\Below w2 w2 w':=fun v2 w2 q1 q2=>by
       rw[c6];rw[List.nil_append]at q1;exact IH.out u2 _ v2 w2 wr.heap.size (by have:=HN.out;rw[List.length_append,List.length_singleton];omega) (f2.below (I.after q2 I.size) aI) q1 q2.size aD
      have O:∀y,F (k:Int)=some y->qW l (n+1) used list=some y:=fun y h9=>by rw[b5.out];have e1:cD P G=cD P (k+1)++(cD P G).drop (cD P (k+1)).length:=TK P (k+1) G h6;rw[e1,List.findSome?_append,a6.out,e0.out,if_pos rfl,List.findSome?_append,H.out];simp[h9]
      obtain⟨R,hR⟩:=aJ (F (k:Int));simp only[<-hR]at Z O;have b4:=aH Z;have d0:=aH O;have HR:=aH hR;have e6:([]:List Int).length+list.length<=17592186044416:=by simp;omega
      have e7:([]++list).length + [(k:Int)].length<=17592186044416:=by simp;omega
      have e8:dL (k:Int):=⟨by omega,by omega⟩;have a8:=aH e6;have a9:=aH e7;have e4:=aH e8;have l3:=hp.1;have l4:=hp.2;have l5:IntKind.i64.wrap ((2:Int)^k)=2^k:=by rw[IntKind.wrap_i64];omega
      clear Z O hR c6 f6 f4 c7 hp h1 h2 N K f5 M e6 e7 e8
      cases R with
      |none=>
       go_wp2_with fail;go_region_held3 (fun _=>True) (trivial)
        (first
         |(refine gE rfl _ _ _ rfl 3 underlying25 aN wr.heap.size (aA (some ⟨_,0,none⟩) 0 0) [] rfl (aA av list.length cv) list rfl ?_ ?_ a8.out wr ?_ aI ?_;(first|(with_reducible exact(aM.lit0 wr aI).drew')|(with_reducible exact((aM.lit0 wr aI).alloc _).drew')|(with_reducible exact(aM.lit0' wr _).drew'));(first|(with_reducible exact(ol.ints.alloc _).drew')|(with_reducible exact((ol.ints.alloc _).alloc _).drew'));(first|(with_reducible exact(bF wr _).drew)|(with_reducible exact(wI wr _ _).drew));(intro v1 w1 o1 b1 pc))
         |(refine gE rfl _ _ _ rfl 3 underlying25 aN wr.heap.size v1 ([]++list) rfl (aA (some ⟨_,0,none⟩) 1 1) [(k:Int)] rfl ?_ ?_ a9.out wr ?_ aI ?_;(first|(with_reducible exact o1)|(with_reducible exact o1.alloc _));(refine aK.one ?_ e4.out;first|(with_reducible exact aZ _ _ _ _ _ rfl)|(with_reducible exact pc _ _ (rJ _ _ _ _) (wW _ _ _))|(with_reducible exact pc _ _ (sZ _ _ _ _) (wX _ _ _)));(first|(with_reducible exact b1)|(with_reducible exact b1.alloc b1.size _));(intro v2 w2 o2 b2 _))
         |(go_at_call 83;with_reducible refine(b4.out v2 w2 o2 b2).mono ?_;rintro e3 w3 ⟨p3,i3,q3,rfl,o3,b3⟩)
        )
       all_goals
        go_wp2;go_roundw
        case rel=>exact⟨k+1,by omega,by go_num,by rw[a6.out,e0.out,if_pos rfl,List.findSome?_append,H.out];simp[<-HR.out],(I.after b2 I.size).after b3 (I.after b2 I.size).size⟩
        case measure=>simp[intOf];omega
      |some y=>
       have b8:=d0.out y rfl;have b6:=aH b8;clear b8;go_wp2_with fail;go_region_held3 (fun _=>True) (trivial)
        (first
         |(refine gE rfl _ _ _ rfl 3 underlying25 aN wr.heap.size (aA (some ⟨_,0,none⟩) 0 0) [] rfl (aA av list.length cv) list rfl ?_ ?_ a8.out wr ?_ aI ?_;(first|(with_reducible exact(aM.lit0 wr aI).drew')|(with_reducible exact((aM.lit0 wr aI).alloc _).drew')|(with_reducible exact(aM.lit0' wr _).drew'));(first|(with_reducible exact(ol.ints.alloc _).drew')|(with_reducible exact((ol.ints.alloc _).alloc _).drew'));(first|(with_reducible exact(bF wr _).drew)|(with_reducible exact(wI wr _ _).drew));(intro v1 w1 o1 b1 pc))
         |(refine gE rfl _ _ _ rfl 3 underlying25 aN wr.heap.size v1 ([]++list) rfl (aA (some ⟨_,0,none⟩) 1 1) [(k:Int)] rfl ?_ ?_ a9.out wr ?_ aI ?_;(first|(with_reducible exact o1)|(with_reducible exact o1.alloc _));(refine aK.one ?_ e4.out;first|(with_reducible exact aZ _ _ _ _ _ rfl)|(with_reducible exact pc _ _ (rJ _ _ _ _) (wW _ _ _))|(with_reducible exact pc _ _ (sZ _ _ _ _) (wX _ _ _)));(first|(with_reducible exact b1)|(with_reducible exact b1.alloc b1.size _));(intro v2 w2 o2 b2 _))
         |(go_at_call 83;with_reducible refine(b4.out v2 w2 o2 b2).mono ?_;rintro e3 w3 ⟨p3,i3,q3,rfl,o3,b3⟩)
        )
       all_goals
        go_wp2;go_ret2;exact⟨p3,i3,q3,by rw[b6.out];rfl,by rw[b6.out];exact o3.mono aD,(I.after b2 I.size).after b3 (I.after b2 I.size).size⟩
   ·have b7:qW l (n+1) used list=none:=by rw[b5.out,show G=k by omega];exact H.out
    have b0:=aH b7;clear b7;go_wp2;go_ret2;exact⟨_,0,0,by rw[b0.out];rfl,by rw[b0.out];exact(aM.lit0 wr aI).mono aD,I.alloc I.size _⟩
theorem arA(w:World)(g:Int)(_:dL g)(v:Value)(l:List Int)(Y:aK w v l)(_:l.length<=1048576):
  Calls prog 29 #[g,v] w fun e w'=>∃ad i J,e=.returned (.tuple #[aA ad i J,.bool (mI g l)])/\bK 3 w.heap.size w' (aA ad i J) (vZ g l)/\Below w w w':=by
 have I:=Y;obtain⟨a,c,rfl⟩:=Y.shape
 cases F:oJ g l with
 |false=>
  have hr:wY g l=none:=by unfold wY;rw[F];rfl
  have hB:mI g l=false:=by unfold mI;rw[hr];rfl
  have M:vZ g l=[]:=I5 hB;have H:=aH (And.intro hB M);have R:=aH F;clear hr hB M F;go_enter func29,ntmps29;go_wp2_with (go_at_call 82;refine(oN g l _ _ I).mono ?_;rintro e w1 ⟨rfl,z⟩;rw[R.out]);go_ret2;exact⟨_,0,0,by rw[H.out.1];rfl,by rw[H.out.2];exact((aM.lit0 w1 aI).mono z.size).toW,z.alloc z.size _⟩
 |true=>
  have hr:wY g l=qW l l.length 0 []:=by unfold wY;rw[F];rfl
  obtain⟨N,h0,h6,hm,_⟩:=NP F;obtain⟨G,rfl⟩:=Int.eq_ofNat_of_zero_le h0;have hG:G<=6:=aD;have O:∀x∈l,0<=x/\x<2^G:=fun x hx=>by have:=hm x hx;have e2:(G:Int).toNat=G:=aD;rw[e2]at this;exact this
  have R:=aH F;have hB:mI G l=(qW l l.length 0 []).isSome:=by unfold mI;rw[hr]
  have M:vZ G l=(qW l l.length 0 []).getD []:=by unfold vZ;rw[hr]
  have D:∀W u,Below w w W->aM 3 w W u []->Calls prog 83 #[G,aA a l.length c,u,aB] W fun e w'=>
    ∃ad i J,e=.returned (.tuple #[aA ad i J,.bool (mI G l)])/\aM 3 w w' (aA ad i J) (vZ G l)/\Below W W w':=fun W u K hu=>by
   rw[hB,M];exact acZ l _ G hG O N l.length 0 [] u W w.heap.size (by simp) (I.below K aI) hu K.size aD
  have S:=aH D;clear hr F hm N O hB M D;go_enter func29,ntmps29;go_wp2_with (first
   |(go_at_call 82;refine(oN G l _ _ I).mono ?_;rintro e w1 ⟨rfl,z⟩;rw[R.out])
   |(go_at_call 83;refine(S.out _ _ (z.alloc z.size _) (aM.lit0 w1 z.size)).mono ?_;rintro e w3 ⟨p3,i3,q3,rfl,o3,Z⟩))
  go_ret2;exact⟨p3,i3,q3,rfl,o3.toW,(z.alloc z.size _).after Z (z.alloc z.size _).size⟩
theorem WP(l:List Int)(v:Value)(w:World)(hv:aK w v l)(hm:∀x∈l,0<=x/\x<64)(b0:l.length<=6)(code:Nat)(M:code<64):
  Calls prog 85 #[v,code] w fun e w'=>e=.returned (dY l code l.length)/\w=w':=by
 obtain⟨a,b,b3,c,rfl,a1,a9,hc,hb⟩:=hv.view prog 25 3 underlying25 aN;have Y:=aH hm;clear hm;go_enter func85,ntmps85;go_wp2;go_loop [5,6] (fun u i=>∃k:Nat,k<=l.length/\i=aG k/\u=aG (dY l code k)) (fun _ i=>l.length-(intOf i).toNat)
 case atStart=>exact⟨0,Nat.zero_le _,rfl,rfl⟩
 case round=>
  obtain⟨k,hk,rfl,rfl⟩:=hrel;by_cases hlt:k<l.length
  ·have a8:=hc k hlt;have J:=Y.out _ (List.getElem_mem hlt);have K:=tL l code Y.out k hk;have R:dY l code (k+1)=if cZ code k then eH (dY l code k) l[k] else dY l code k:=by rw[dY,aS l k hlt]
   have I:=jN (code:Int) k aD aD;have D:=oP code k;obtain⟨y,hy⟩:=aJ (dI (code:Int) k);rw[<-hy]at I D;have O:=sJ K.1 (show dY l code k<4611686018427387904 by omega) J.1 (show l[k]<4611686018427387904 by omega);obtain⟨u,hu⟩:=aJ (dY l code k);rw[<-hu]at O R ⊢;have Z:=aH R;clear R hy hu K J
   cases z:cZ code k with
   |false=>
    have S:(y==1)=false:=by rw[D,z]
    have F:=aH z;clear z D;go_wp2;go_round
    case rel=>exact⟨k+1,by omega,by go_num,by rw[Z.out,F.out];rfl⟩
    case measure=>simp[intOf];omega
   |true=>
    have S:(y==1)=true:=by rw[D,z]
    have F:=aH z;clear z D;go_wp2;go_round
    case rel=>exact⟨k+1,by omega,by go_num,by rw[Z.out,F.out,if_pos rfl]⟩
    case measure=>simp[intOf];omega
  ·have N:k=l.length:=aD;subst N;go_wp2;go_ret;exact⟨rfl,rfl⟩
theorem arG(w:World)(g:Int)(_:dL g)(v:Value)(l:List Int)(hv:aK w v l)(_:l.length<=1048576):
  Calls prog 30 #[g,v] w fun e w'=>∃ad i cp,e=.returned (.tuple #[aA ad i cp,.bool (wD g l)])/\bK 3 w.heap.size w' (aA ad i cp) (sX g l)/\Below w w w':=by
 have K:=hv;obtain⟨a,c,rfl⟩:=hv.shape
 cases hf:oJ g l with
 |false=>
  have hr:wE g l=none:=by unfold wE;rw[hf];rfl
  have hB:wD g l=false:=by unfold wD;rw[hr];rfl
  have Z:sX g l=[]:=by unfold sX;rw[hr]
  have H:=aH (And.intro hB Z);have HF:=aH hf;clear hr hB Z hf;go_enter func30,ntmps30;go_wp2_with fail;go_loopw [6] (fun i wr=>i=aG 1/\Below w w wr) (fun _ _=>0)
  case atStart=>exact⟨rfl,Below.refl _ _⟩
  case round=>obtain⟨rfl,B⟩:=hrel;go_wp2_with (go_at_call 82;refine(oN g l _ _ (K.below B aI)).mono ?_;rintro e w1 ⟨rfl,D⟩;rw[HF.out]);have M:=B.after D B.size;go_ret2;exact⟨_,0,0,by rw[H.out.1];rfl,by rw[H.out.2];exact((aM.lit0 w1 aI).mono M.size).toW,M.alloc M.size _⟩
 |true=>
  obtain⟨a7,_,_,_,hm⟩:=NP hf;obtain⟨N,hN⟩:∃N:Nat,2^l.length=N+1:=⟨2^l.length-1,by have:=Nat.two_pow_pos l.length;omega⟩;have hr:wE g l=gP (EU l) N 1:=by unfold wE;rw[hf,if_pos rfl,hN];exact afS _ _ (agG l hm)
  have HF:=aH hf;have HM:=aH hm;have b9:(2:Nat)^l.length<=64:=Nat.pow_le_pow_right (n:=2) aQ a7;have R:((2^l.length:Nat):Int)=(2:Int)^l.length:=by simp
  have f2:(2:Int)^l.length<=64:=by rw[<-R];exact_mod_cast b9
  have f3:=(cJ l.length 6 a7).2;rw[hN]at R b9;obtain⟨P,hP⟩:=aJ (EU l);rw[<-hP]at hr;have HR:=aH hr;have b3:=aH R;have HP:=aH hP;clear hr hf hm hN R hP;go_enter func30,ntmps30;go_wp2_with fail;go_loopw [6] (fun i wr=>∃k:Nat,k<=N/\i=aG ((k:Int)+1)/\gP P (N-k) (k+1)=gP P N 1/\Below w w wr) (fun i _=>N+1-(intOf i).toNat)
  case atStart=>exact⟨0,Nat.zero_le _,rfl,rfl,Below.refl _ _⟩
  case round=>
   obtain⟨k,hk,rfl,I,B⟩:=hrel;have H:=aH I;clear I;by_cases hlt:k<N
   ·have b8:(k:Int)+1<2^l.length:=by rw[<-b3.out];omega
    have O:gP P (N-k) (k+1)=if P (k+1) then some (k+1) else gP P (N-(k+1)) (k+1+1):=by rw[show N-k=(N-(k+1))+1 by omega];rfl
    have z:P (k+1)=decide (cT (dY l (k+1) l.length)<(bY (k+1):Int)):=by rw[HP.out];rfl
    have Y:=fun W (hW:aK W (aA a l.length c) l)=>WP l _ W hW HM.out a7 (k+1) aD;have a9:=tL l (k+1) HM.out l.length aI;have F:((k+1:Nat):Int)=(k:Int)+1:=aD;simp only[F]at Y;obtain⟨u,hu⟩:=aJ (dY l (k+1) l.length);rw[<-hu]at z a9;simp only[<-hu]at Y;have a8:=fun W=>sK u W a9.1 aD;have S:=fun W=>lQ (k+1) W aD;simp only[F]at S;obtain⟨q,hq⟩:=aJ (cT u);obtain⟨r,hr⟩:=aJ ((bY (k+1):Int));rw[<-hq]at z;simp only[<-hq]at a8;rw[<-hr]at z;simp only[<-hr]at S;have b7:=aH Y;have b6:=aH a8;have b4:=aH S;have b5:=aH O;have e6:k+1<64:=aD;clear Y a8 S O a9 hu hq hr F
    cases J:P (k+1) with
    |false=>
     have f0:¬q<r:=by rw[J]at z;exact of_decide_eq_false z.symm
     have c5:=aH J;clear J z;go_wp2_with (first
      |(go_at_call 82;refine(oN g l _ _ (K.below B aI)).mono ?_;rintro e w1 ⟨rfl,D⟩;rw[HF.out])
      |(go_at_call 85;refine(b7.out _ (K.below (B.after D B.size) aI)).mono ?_;rintro e w2 ⟨rfl,rfl⟩)
      |(go_at_call 84;with_reducible refine(b6.out _).mono ?_;rintro e w3 ⟨rfl,rfl⟩)
      |(go_at_call 84;with_reducible refine(b4.out _).mono ?_;rintro e w4 ⟨rfl,rfl⟩))
     go_roundw
     case rel=>exact⟨k+1,by omega,by go_num,by rw[<-H.out,b5.out,c5.out];rfl,B.after D B.size⟩
     case measure=>simp[intOf];omega
    |true=>
     have f4:q<r:=by rw[J]at z;exact of_decide_eq_true z.symm
     have hR:wE g l=some (k+1):=by rw[HR.out,<-H.out,b5.out,J];rfl
     have hB:wD g l=true:=by unfold wD;rw[hR];rfl
     have Z:sX g l=eK ((k:Int)+1):=by unfold sX;rw[hR];show eK (((k+1:Nat):Int))=_;congr 1
     have HB:=aH (And.intro hB Z);clear J z hR hB Z;go_wp2_with (first
      |(go_at_call 82;refine(oN g l _ _ (K.below B aI)).mono ?_;rintro e w1 ⟨rfl,D⟩;rw[HF.out])
      |(go_at_call 85;refine(b7.out _ (K.below (B.after D B.size) aI)).mono ?_;rintro e w2 ⟨rfl,rfl⟩)
      |(go_at_call 84;with_reducible refine(b6.out _).mono ?_;rintro e w3 ⟨rfl,rfl⟩)
      |(go_at_call 84;with_reducible refine(b4.out _).mono ?_;rintro e w4 ⟨rfl,rfl⟩)
      |(go_at_call 79;refine(MF ((k:Int)+1) _ aD aD).mono ?_;rintro e w5 ⟨p5,i5,q5,rfl,o5,c8⟩))
     have M:=B.after D B.size;go_ret2;exact⟨p5,i5,q5,by rw[HB.out.1];rfl,by rw[HB.out.2];exact o5.toW.mono M.size,M.after c8 M.size⟩
   ·have b8:¬(k:Int)+1<2^l.length:=by rw[<-b3.out];omega
    have hR:wE g l=none:=by rw[HR.out,<-H.out,show N-k=0 by omega];rfl
    have hB:wD g l=false:=by unfold wD;rw[hR];rfl
    have Z:sX g l=[]:=by unfold sX;rw[hR]
    have HB:=aH (And.intro hB Z);clear hR hB Z;go_wp2_with (go_at_call 82;refine(oN g l _ _ (K.below B aI)).mono ?_;rintro e w1 ⟨rfl,D⟩;rw[HF.out]);have M:=B.after D B.size;go_ret2;exact⟨_,0,0,by rw[HB.out.1];rfl,by rw[HB.out.2];exact((aM.lit0 w1 aI).mono M.size).toW,M.alloc M.size _⟩
end
end Go.Proofs.YtkdbkjjacgigiaaGreatDoor
