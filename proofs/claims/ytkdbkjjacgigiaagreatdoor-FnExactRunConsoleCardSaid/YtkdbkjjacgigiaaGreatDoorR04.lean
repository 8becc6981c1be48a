/- Lemmas for CardRunConsole. No condition. -/
import Derived.Test.YtkdbkjjacgigiaaGreatDoorR03
import Derived.Deep.CutRange
set_option maxRecDepth 100000
set_option maxHeartbeats 64000000
namespace Go.Proofs.YtkdbkjjacgigiaaGreatDoor
section
open Go.RowKit Go.G5 Go.Proofs.Tryz
end
end Go.Proofs.YtkdbkjjacgigiaaGreatDoor
section
namespace Go.G5
open Go Go.RowKit
structure GrownIn (w w':World) (P:Nat->Prop):Prop where
 os:w'.os=w.os
 tape:w'.tape=w.tape
 output:w'.output=w.output
 size:w.heap.size<=w'.heap.size
 block:∀b,b<w.heap.size->¬P b->w'.heap[b]?=w.heap[b]?
section
variable {w w' w'':World} {P:Nat->Prop}
theorem GrownIn.refl(w:World)(P:Nat->Prop):GrownIn w w P:=⟨rfl,rfl,rfl,aU,fun _ _ _=>rfl⟩
theorem GrownIn.trans(h:GrownIn w w' P)(k:GrownIn w' w'' P):GrownIn w w'' P:=
 ⟨k.os.trans h.os,k.tape.trans h.tape,k.output.trans h.output,dC h.size k.size,fun b hb hr=>(k.block b (dX hb h.size) hr).trans (h.block b hb hr)⟩
theorem GrownIn.of_row{row:Option Nat}(h:w.grownBy w' row)(z:∀k,row=some k->P k):GrownIn w w' P:=⟨h.os,h.tape,h.output,h.size,fun b hb D=>h.block b hb (fun e=>D (z b e.symm))⟩
theorem GrownIn.of_below(h:Below w w w'):GrownIn w w' P:=⟨h.os,h.tape,h.output,h.size,fun b hb _=>h.block b hb⟩
theorem bK.growIn{g:Nat}{t:TypeId}{cs:Array Value}(h:bK w g t cs)(z:GrownIn w w' P)(D:¬P g):bK w' g t cs:=(z.block g h.lt D).trans h
theorem cY.growIn{E:TypeId}{B:Nat}{v:Value}{l:aI}(h:cY E B w v l)(I:GrownIn w w' P)(J:∀k,v.ownBlock=some k->¬P k):cY E B w' v l:=by
 refine⟨h.1,?_⟩;rcases h.2 with h1|⟨g,cap,z,rfl,D,F,r⟩
 .exact .inl h1
 .refine .inr ⟨g,cap,z,rfl,D,?_,r⟩;rw[I.block g (dU.1 F).1 (J g rfl)];exact F
theorem Below.growIn{B:Nat}{a:World}(h:Below B a w)(z:GrownIn w w' P)(hB:B<=w.heap.size)(D:∀k,P k->B<=k):Below B a w':=
 ⟨z.os.trans h.os,z.tape.trans h.tape,z.output.trans h.output,dC h.size z.size,fun b hb=>(z.block b aA (fun F=>by have:=D b F;omega)).trans (h.block b hb)⟩
end
end Go.G5
namespace Go.Proofs.YtkdbkjjacgigiaaGreatDoor
open Go.RowKit Go.G5 Go.Proofs.Tryz
end Go.Proofs.YtkdbkjjacgigiaaGreatDoor
end
namespace Go.Proofs.YtkdbkjjacgigiaaGreatDoor
section
open Go.RowKit Go.G5 Go.Proofs.Tryz
variable(w:World)(n:Int)(v:Value)(l:aI)
theorem CC(g:Int)(l:aI)(v:Value)(w:World)(F:Ints w v l):
  Calls prog 327 #[g,v] w fun e w'=>e=aQ (aG (tA g l))/\w=w':=by
 obtain⟨a,c,rfl⟩:=F.shape;by_cases h:l.length<=6
 .have z:tA g l=gE g l:=by unfold tA;rw[bH h];rfl
  have I:(l.length:Int)<=6:=aA;have D:=aT z;clear z;go_enter func327,ntmps327;go_wp2_with (go_at_call 219;refine aV (uL g l _ _ F) ?_;rintro w' rfl);go_ret;exact⟨by rw[D.out];rfl,rfl⟩
 .have z:tA g l=false:=by unfold tA;rw[bG h];rfl
  have I:¬(l.length:Int)<=6:=aA;have D:=aT z;clear z;go_enter func327,ntmps327;go_wp2;go_ret;exact⟨by rw[D.out];rfl,rfl⟩
theorem agB(D z:Nat)(v:Value)(a:Option Addr)(n c:Nat)(hv:v=aD a n c)(Z:Array Value)(M:bK w D 25 #[()])(K:bK w z 4 #[aG false])(I:D≠z)(_:Z=#[]):
  Calls prog 329 #[v,aP (some ⟨D,0,none⟩),aP (some ⟨z,0,none⟩)] w fun e w'=>e=aQ (aG false)/\bK w' D 25 #[v]/\bK w' z 4 #[aG true]/\GrownIn w w' (fun k=>k=D\/k=z):=by
 subst hv;have Go:=M.cell;have R:=K.cell;have O:=M.frozen;have N:=K.frozen;have zo:=M.lt;have zf:=K.lt;have J:¬z=D:=fun e=>I e.symm;go_enter func329,ntmps329;go_wp2;refine cT ?_;intro Wf F;have S:bK Wf D 25 #[aD a n c]:=by rw[F];have:=(M.set 0 (aD a n c)).far (p:=⟨z,0,none⟩) I (aG true);simpa using this
 have Y:bK Wf z 4 #[aG true]:=by rw[F];have:=(K.far (p:=⟨D,0,none⟩) J (aD a n c)).set 0 (aG true);simpa using this
 have hg:GrownIn w Wf (fun k=>k=D\/k=z):=by rw[F];exact(GrownIn.of_row (mK w ⟨D,0,none⟩ _) (fun k hk=>.inl (cI hk).symm)).trans (GrownIn.of_row (mK _ ⟨z,0,none⟩ _) (fun k hk=>.inr (cI hk).symm))
 clear F Go R O N;go_ret;exact⟨rfl,S,Y,hg⟩
theorem NT:∀args w,(callFunc 329 args).run prog w=.ok (.enter 329 args) w:=enters_of func329 bM rfl
def IA(D z B:Nat)(w:World)(R:Option (List Int))(e:Ending)(w':World):Prop:=match R with
 |none=>e=.returned (.bool true)/\Below w w w'
 |some x=>e=.returned (.bool false)/\(∃ad i F,bB 3 B w' (aD ad i F) x/\bK w' D 25 #[aD ad i F])/\bK w' z 4 #[.bool true]/\GrownIn w w' (fun k=>k=D\/k=z)
theorem amI(lv:Value)(hm:∀x∈l,0<=x/\x<64)(o4:l.length<=6)(bo Z:Nat)(h6:bo≠Z):∀(n:Nat) (used:Int) (list:aI) (v:Value) (w:World) (B:Nat),list.length+n=l.length->Ints w lv l->bB 3 B w v list->B<=w.heap.size->bo<B->Z<B ->
  bK w bo 25 #[()]->bK w Z 4 #[aG false]->0<=used/\used<64 ->
  Calls prog 328 #[lv,used,v,.func (.func 329) #[] #[aP (some ⟨bo,0,none⟩),aP (some ⟨Z,0,none⟩)]] w (IA bo Z B w (uC l n used list)):=by
 have HM:=aT hm;have he:=NT;clear hm;intro n
 induction n with
 |zero=>
  intro used list v w B hn a8 mF hB k6 k5 Ko Kf hu;obtain⟨a,c,rfl⟩:=a8.shape;obtain⟨av,cv,rfl⟩:=mF.shape;have ht:((list.length:Int)==(l.length:Int))=true:=bO;have HN:=aT hn;have j3:=aT h6;clear hn h6;go_enter func328,ntmps328;go_wp2_with (go_at_fn 329;refine aV (agB _ bo Z _ _ _ _ rfl #[] Ko Kf j3.out rfl) ?_;rintro w1 ⟨K1,K2,hg⟩);go_ret;refine⟨rfl,⟨av,list.length,cv,?_,K1⟩,K2,hg⟩;refine⟨?_,mF.2⟩;have h1:=mF.1;rcases h1.2 with h2|⟨g,cap,j8,h2,k1,g4,r⟩
  .exact⟨h1.1,.inl h2⟩
  .refine⟨h1.1,.inr ⟨g,cap,j8,h2,k1,?_,r⟩⟩;rw[hg.block g (dU.1 g4).1 (by rintro(h|h)<;>omega)];exact g4
 |succ n ih=>
  intro used list v w B hn a8 mF hB k6 k5 Ko Kf hu;have h0:=a8;obtain⟨a,b,q0,c,rfl,m3,g9,hc,hb⟩:=a8.vw;obtain⟨av,cv,rfl⟩:=mF.shape;have hlt:list.length<l.length:=aA;have ht:((list.length:Int)==(l.length:Int))=false:=bO;have M:=HM.out _ (aX hlt);have k7:=hc list.length hlt;have m2:=fun W=>g9 W list.length hlt;have z:=VR l n used list;rw[cJ l list.length hlt]at z;obtain⟨x,hx⟩:=aW (l[list.length]);rw[<-hx]at M k7 z;have f9:=nR M.1 M.2 hu.1 hu.2;have c6:=rK x used 64 M.1 M.2;obtain⟨d,hd⟩:=aW (dQ x used);rw[<-hd]at f9 c6 z;have h8:=hu.1;have p5:=hu.2;obtain⟨F,hF⟩:∃F:Int->Option aI,F=MA l n used list:=⟨_,rfl⟩;rw[<-hF]at z;have g2:=xQ d;have N:=SR d;have HN:=aT hn;have HF:=aT hF;have IH:=aT ih;clear hn hx hd hF ih hc g9 hu M;go_enter func328,ntmps328;go_wp2_with fail;refine(nJ d _ c6.1 c6.2).mono ?_;rintro e w1 ⟨p1,i1,q1,rfl,o1,k4⟩;have g8:i1=(iP d).length:=o1.ints.capLe.1;obtain⟨E,hE⟩:=aW (iP d);rw[<-hE]at o1 g8 z g2 N;subst g8;have b0:=aT z;have j2:=aT N;clear hE z N;go_wp2_with fail;go_loopw [29] (fun i wr=>∃j:Nat,j<=E/\i=aO j/\(E.take j).findSome? F=none/\Below w w wr/\bB 3 w wr (aD p1 E q1) E) (fun i _=>E.length-(intOf i).toNat)
  case atStart=>exact⟨0,aZ _,rfl,bF,k4,o1⟩
  case round=>
   obtain⟨j,hj,rfl,Y,Bw,oE⟩:=hrel;have H:=aT Y;clear Y;have yw:=Bw.size;by_cases S:j<E
   .have ol:=mF.keep Bw;obtain⟨a5,bj,m6,c5,g0,k9,b1,f7,_⟩:=oE.ints.vw;simp only[Value.slice.injEq,true_and]at g0;obtain⟨rfl,rfl⟩:=g0;have O:=j2.out _ (aX S);have f8:=f7 j S;have k8:=fun W=>b1 W j S;have D:=J3 F E j S;rw[H.out]at D;have I:=fun y=>YN F E j S y H.out;obtain⟨e,c7⟩:∃e:Nat,E[j]=(e:Int):=⟨E[j].toNat,aA⟩;rw[c7]at f8 O D;simp only[c7]at I;have hp:=JL e O;have c9:(2:Int)^(e:Int).toNat=2^e:=bF;rw[c9]at hp;have l0:bits .or .i64 used (2^e)=gO used (2^e):=vJ h8 aA aA aA;have h7:=DC used (2^e) 6 h8 aA aA aA;have f4:F (e:Int)=uC l n (gO used (2^e)) (list++[(e:Int)]):=by rw[HF.out];unfold MA;rw[c9]
    have J:∀(v6:Value) (w6:World),bB 3 wr w6 v6 (list++[(e:Int)])->Below wr wr w6 ->
      Calls prog 328 #[aD a l c,(gO used (2^e)),v6,.func (.func 329) #[] #[aP (some ⟨bo,0,none⟩),aP (some ⟨Z,0,none⟩)]] w6 (IA bo Z wr.heap.size w6 (F (e:Int))):=fun v6 w6 h1 h2=>by
     rw[f4];have BB:=Bw.after h2 Bw.size;exact IH.out _ _ v6 w6 wr.heap.size (by have:=HN.out;rw[bN,List.length_singleton];omega) (h0.below BB aU) h1 h2.size aA aA (Ko.keep BB) (Kf.keep BB) h7
    obtain⟨R,hR⟩:=aW (F (e:Int));rw[<-hR]at D;simp only[<-hR]at I J;obtain⟨u2,d0⟩:=aW (gO used (2^e));rw[<-d0]at l0;simp only[<-d0]at J;have a9:=aT J;have f5:([]:aI).length+list.length<=17592186044416:=bO;have f6:([]++list).length<17592186044415:=bO;have f3:fM (e:Int):=⟨aA,aA⟩;have e8:=aT f5;have e9:=aT f6;have e5:=aT f3;have e6:=aT I;have b9:=aT D;have j4:=aT oE;have o8:=hp.1;have o9:=hp.2;have o3:e<6:=aA;clear J f5 f6 f3 I D f4 d0 hR h7 c9 c7 O hp oE f7 b1
    cases R with
    |none=>
     go_wp2_with (first
 |(at_builtin;refine qH rfl _ _ _ rfl 3 underlying25 intElem wr.heap.size (aD none 0 0) [] rfl (bB.nil _ _ _) (aD av list cv) list rfl ol.ints e8.out aU ?_;intro v5 w5 o5 g5 n5;have K:=(bJ wr.heap.size wr).grown g5 aU (fun q hq=>((bB.nil 3 wr.heap.size wr).lt q hq).1))
 |(at_builtin;refine kX rfl _ _ _ rfl 3 underlying25 intElem wr.heap.size v5 ([]++list) (e:Int) w5.heap.size rfl rfl (cR _ _ _ _ _ rfl) (o5.alloc _) e5.out e9.out (K.alloc K.size _).size ?_;intro v6 w6 o6 g6 n6;have b6:=(K.alloc K.size _).grown g6 (K.alloc K.size _).size (fun q hq=>(o5.lt q hq).1))
 |(go_at_call 328;refine aV (a9.out v6 w6 o6 b6) ?_;intro w7 b7))
     have B6:=Bw.after b6 Bw.size;have B7:=B6.after b7 B6.size;go_roundw
     .exact⟨j+1,aA,cD,by rw[b9.out];rfl,B7,(j4.out.keep b6).keep b7⟩
     exact aY
    |some y=>
     have b4:uC l (n+1) used list=some y:=by rw[b0.out];exact e6.out y rfl
     have f2:=aT b4;clear b4;go_wp2_with (first
 |(at_builtin;refine qH rfl _ _ _ rfl 3 underlying25 intElem wr.heap.size (aD none 0 0) [] rfl (bB.nil _ _ _) (aD av list cv) list rfl ol.ints e8.out aU ?_;intro v5 w5 o5 g5 n5;have K:=(bJ wr.heap.size wr).grown g5 aU (fun q hq=>((bB.nil 3 wr.heap.size wr).lt q hq).1))
 |(at_builtin;refine kX rfl _ _ _ rfl 3 underlying25 intElem wr.heap.size v5 ([]++list) (e:Int) w5.heap.size rfl rfl (cR _ _ _ _ _ rfl) (o5.alloc _) e5.out e9.out (K.alloc K.size _).size ?_;intro v6 w6 o6 g6 n6;have b6:=(K.alloc K.size _).grown g6 (K.alloc K.size _).size (fun q hq=>(o5.lt q hq).1))
 |(go_at_call 328;refine(a9.out v6 w6 o6 b6).mono ?_;rintro e7 w7 ⟨rfl,⟨p7,i7,q7,o7,K7⟩,j6,g7⟩))
     go_ret;show IA bo Z B w (uC l (n+1) used list) _ _;rw[f2.out];exact⟨rfl,⟨p7,i7,q7,o7.mono aA,K7⟩,j6,(GrownIn.of_below (Bw.after b6 Bw.size)).trans g7⟩
   .have b3:uC l (n+1) used list=none:=by rw[b0.out,<-List.take_of_length_le (show E.length<=j from aA),H.out]
    have f0:=aT b3;clear b3;go_wp2;go_ret;show IA bo Z B w (uC l (n+1) used list) _ _;rw[f0.out];exact⟨rfl,Bw⟩
theorem akW{p:Prop}(h:p:=by
  go_wp2_with (go_at_call 327;refine aV (CC g l _ _ F) ?_;rintro w1 rfl;rw[HF.out]);go_ret2;exact⟨none,0,0,by rw[H.out.1];rfl,by rw[H.out.2];exact cY.nil _ _ _,bJ _ _⟩):p:=h
theorem atS(g:Int)(_:fM g)(v:Value)(l:aI)(hv:Ints w v l)(_:l.length<=1048576):
  Calls prog 243 #[g,v] w fun e w'=>∃ad i cp,e=aQ (aS #[aD ad i cp,aG (qT g l)])/\cY 3 w.heap.size w' (aD ad i cp) (yU g l)/\Below w w w':=by
 have F:=hv;obtain⟨a,c,rfl⟩:=hv.shape
 cases D:tA g l with
 |false=>
  have hr:zY g l=none:=by unfold zY;rw[D];rfl
  have hB:qT g l=false:=by unfold qT;rw[hr];rfl
  have I:yU g l=[]:=L2 hB;have H:=aT (And.intro hB I);have HF:=aT D;clear hr hB I D;go_enter func243,ntmps243;exact akW
 |true=>
  have hr:zY g l=uC l l.length 0 []:=by unfold zY;rw[D];rfl
  obtain⟨O,_,_,_,hm⟩:=P9 D;have HF:=aT D;have f6:∀(fn:Fn) (first cap:Array Value) (w:World),(Instr.makeFunc fn first cap).run prog w=.ok (.func fn first cap) w:=fun _ _ _ _=>rfl;have Y:∀V,Below w w V->w.heap.size+2<=V.heap.size->bK V w 25 #[()]->bK V (w+1) 4 #[aG false] ->
    Calls prog 328 #[aD a l c,aK,(),.func (.func 329) #[] #[aP (some ⟨w,0,none⟩),aP (some ⟨w+1,0,none⟩)]] V (IA w.heap.size (w.heap.size+1) (w.heap.size+2) V (zY g l)):=fun V hB hz h1 h2=>by
   rw[hr];exact amI l _ hm O _ _ aA l.length 0 [] _ V (w.heap.size+2) bF (F.below hB aU) (bB.nil _ _ _) hz aA aA h1 h2 aA
  obtain⟨R,J⟩:=aW (zY g l);simp only[<-J]at Y;have HV:=aT Y;clear Y hr D hm O
  cases R with
  |none=>
   have hB:qT g l=false:=by unfold qT;rw[<-J];rfl
   have H:=aT (And.intro hB (L2 hB));clear hB J;go_enter func243,ntmps243;go_wp2_with (go_at_call 327;refine aV (CC g l _ _ F) ?_;rintro w1 rfl;rw[HF.out]);refine cZ ?_;intro V hV;have B:Below w w V:=iJ hV;have K1:bK V w 25 #[()]:=iQ hV;have Z:bK V (w+1) 4 #[aG false]:=jL hV;have z2:=Z.lt;clear hV;refine aV (HV.out V B aA K1 Z) ?_;intro w3 b0;have K1:=K1.keep b0;have Z:=Z.keep b0;have B3:=B.after b0 B.size;have G1:=K1.cell;have G2:=Z.cell;go_wp2_with fail;go_quiet (fail);go_wp2;go_ret2;exact⟨none,0,0,by rw[H.out.1];rfl,by rw[H.out.2];exact cY.nil _ _ _,B3.drewN' _⟩
  |some y=>
   have hB:qT g l=true:=by unfold qT;rw[<-J];rfl
   have I:yU g l=y:=by unfold yU;rw[<-J];rfl
   have H:=aT (And.intro hB I);clear hB J I;go_enter func243,ntmps243;go_wp2_with (go_at_call 327;refine aV (CC g l _ _ F) ?_;rintro w1 rfl;rw[HF.out]);refine cZ ?_;intro V hV;have B:Below w w V:=iJ hV;have K1:bK V w 25 #[()]:=iQ hV;have Z:bK V (w+1) 4 #[aG false]:=jL hV;have z2:=Z.lt;clear hV;refine(HV.out V B aA K1 Z).mono ?_;rintro e w3 ⟨rfl,⟨p3,i3,q3,o3,K3⟩,K4,g3⟩;have B3:=Below.growIn B g3 B.size (by rintro k (h|h)<;>omega);have G1:=K3.cell;have G2:=K4.cell;clear K1 Z;go_wp2_with fail;go_quiet (fail);go_wp2;go_ret2;exact⟨p3,i3,q3,by rw[H.out.1];rfl,by rw[H.out.2];exact(o3.toW.mono aA).drewN _,B3.drewN' _⟩
theorem afP(v:Value)(w:World)(hv:Ints w v l)(hm:∀x∈l,0<=x/\x<64)(b4:l.length<=6)(code:Nat)(R:code<64):
  Calls prog 330 #[v,code] w fun e w'=>e=aQ (aO ((dG code:Int)-eO (gA l code l.length)))/\w=w':=by
 obtain⟨a,b,b8,c,rfl,a7,b3,hc,hb⟩:=hv.vw;have O:=aT hm;clear hm;go_enter func330,ntmps330;go_wp2;go_loop [5,10] (fun u i=>∃k:Nat,k<=l/\i=aO k/\u=aO (gA l code k)) (fun _ i=>l.length-(intOf i).toNat)
 .exact⟨0,aZ _,rfl,rfl⟩
 obtain⟨k,hk,rfl,rfl⟩:=hrel;by_cases hlt:k<l
 .have b1:=hc k hlt;have M:=O.out _ (aX hlt);have z:=wH l code O.out k hk;have Z:gA l code (k+1)=if eI code k then gO (gA l code k) l[k] else gA l code k:=by rw[gA,cJ l k hlt]
  have K:=lL (code:Int) k aA aA;have F:=rP code k;obtain⟨y,hy⟩:=aW (fE (code:Int) k);rw[<-hy]at K F;have Y:=vJ z.1 (show gA l code k<4611686018427387904 from aA) M.1 (show l[k]<4611686018427387904 from aA);obtain⟨u,J⟩:=aW (gA l code k);rw[<-J]at Y Z |-;have HS:=aT Z;clear Z hy J z M
  cases D:eI code k with
  |false=>
   have a1:(y==1)=false:=by rw[F,D]
   have I:=aT D;clear D F;go_wp2;go_round
   .exact⟨k+1,aA,cD,by rw[HS.out,I.out];rfl⟩
   exact aY
  |true=>
   have a1:(y==1)=true:=by rw[F,D]
   have I:=aT D;clear D F;go_wp2;go_round
   .exact⟨k+1,aA,cD,by rw[HS.out,I.out,if_pos rfl]⟩
   exact aY
 .have S:k=l.length:=aA
  subst S;have z:=wH l code O.out l.length aU;obtain⟨u,J⟩:=aW (gA l code l.length);rw[<-J]at z |-;have b6:=zP u aA;have b5:=xC code aA;have HU:=aT J;have N:=z.1;have a8:=z.2;clear J z;go_wp2_with (first
   |(go_at_call 214;refine aV (jF code _ aA) ?_;rintro w1 rfl)
   |(go_at_call 214;refine aV (vN u _ N aA) ?_;rintro w1 rfl))
  go_ret;exact⟨jK (by rw[<-HU.out]),rfl⟩
theorem atY(g:Int)(_:fM g)(v:Value)(l:aI)(hv:Ints w v l)(_:l.length<=1048576):
  Calls prog 244 #[g,v] w fun e w'=>∃ad i cp,e=aQ (aS #[aD ad i cp,aG (yY g l)])/\cY 3 w.heap.size w' (aD ad i cp) (vR g l)/\Below w w w':=by
 have F:=hv;obtain⟨a,c,rfl⟩:=hv.shape
 cases D:tA g l with
 |false=>
  have hr:yZ g l=none:=by unfold yZ;rw[D];rfl
  have hB:yY g l=false:=by unfold yY;rw[hr];rfl
  have I:vR g l=[]:=by unfold vR;rw[hr]
  have H:=aT (And.intro hB I);have HF:=aT D;clear hr hB I D;go_enter func244,ntmps244;exact akW
 |true=>
  have hr:yZ g l=kI (I8 l) (2^l.length) 0:=by unfold yZ;rw[D];rfl
  obtain⟨O,_,_,_,hm⟩:=P9 D;have HF:=aT D;have HM:=aT hm;have b8:(2:Nat)^l.length<=64:=bQ (n:=2) bZ O;have a7:((2^l.length:Nat):Int)=(2:Int)^l.length:=bF;have f8:(2:Int)^l.length<=64:=by rw[<-a7];exact_mod_cast b8
  have f9:=(dW l.length 6 O).2;obtain⟨N,hN⟩:∃N:Nat,N=2^l.length:=⟨_,rfl⟩;rw[<-hN]at hr b8 a7;obtain⟨P,hP⟩:=aW (I8 l);rw[<-hP]at hr;have HR:=aT hr;have b4:=aT a7;have HP:=aT hP;clear hr D hm hN a7 hP;go_enter func244,ntmps244;go_wp2_with (go_at_call 327;refine aV (CC g l _ _ F) ?_;rintro w1 rfl;rw[HF.out]);go_loop [15] (fun i=>∃k:Nat,k<=N/\i=aO k/\kI P (N-k) k=kI P N 0) (fun i=>N-(intOf i).toNat)
  .exact⟨0,aZ _,rfl,rfl⟩
  obtain⟨k,hk,rfl,K⟩:=hrel;have H:=aT K;clear K;by_cases hlt:k<N
  .have b7:(k:Int)<2^l.length:=by rw[<-b4.out];exact_mod_cast hlt
   have S:kI P (N-k) k=if P k then some k else kI P (N-(k+1)) (k+1):=by rw[show N-k=(N-(k+1))+1 from aA];rfl
   have z:P k=decide (eO (gA l k l.length)<(dG k:Int)):=by rw[HP.out];rfl
   have a6:=afP l _ w F HM.out O k aA;have e0:=wH l k HM.out l.length aU;have d0:=zP (gA l k l.length) aA;have c9:=xC k aA;obtain⟨q,hq⟩:=aW (eO (gA l k l.length));obtain⟨r,hr⟩:=aW ((dG k:Int));rw[<-hq]at z a6 d0;rw[<-hr]at z a6;have g0:r<=8/\0<=r:=by rw[hr];omega
   have b3:=aT a6;have b5:=aT S;have e8:k<64:=aA;clear a6 S e0 hq hr c9
   cases M:P k with
   |false=>
    have f7:¬0<r-q:=by rw[M]at z;have:=eZ z.symm;omega
    have c6:=aT M;clear M z;go_wp2_with (go_at_call 330;refine aV b3.out ?_;rintro w1 rfl);go_round
    .exact⟨k+1,aA,cD,by rw[<-H.out,b5.out,c6.out];rfl⟩
    exact aY
   |true=>
    have g2:0<r-q:=by rw[M]at z;have:=eD z.symm;omega
    have J:yZ g l=some k:=by rw[HR.out,<-H.out,b5.out,M];rfl
    have hB:yY g l=true:=by unfold yY;rw[J];rfl
    have I:vR g l=iP (k:Int):=by unfold vR;rw[J]
    have HB:=aT (And.intro hB I);clear M z J hB I;go_wp2_with (first
     |(go_at_call 330;refine aV b3.out ?_;rintro w1 rfl)
     |(go_at_call 215;refine(nJ (k:Int) _ aA aA).mono ?_;rintro e w2 ⟨p2,i2,q2,rfl,o2,c8⟩))
    go_ret2;exact⟨p2,i2,q2,by rw[HB.out.1];rfl,by rw[HB.out.2];exact o2.toW,c8⟩
  .have b7:¬(k:Int)<2^l.length:=by rw[<-b4.out];exact_mod_cast hlt
   have J:yZ g l=none:=by rw[HR.out,<-H.out,show N-k=0 from aA];rfl
   have hB:yY g l=false:=by unfold yY;rw[J];rfl
   have I:vR g l=[]:=by unfold vR;rw[J]
   have HB:=aT (And.intro hB I);clear J hB I;go_wp2;go_ret2;exact⟨none,0,0,by rw[HB.out.1];rfl,by rw[HB.out.2];exact cY.nil _ _ _,bJ _ _⟩
theorem tC(g:Int)(l:aI)(v:Value)(w:World)(hv:Ints w v l):
  aH 82 #[g,v] w (aG (tA g l)):=by
 obtain⟨a,b,a7,c,rfl,Y,a1,hc,hb⟩:=hv.vw
 cases I:fN g 0 6 with
 |false=>
  have F:tA g l=false:=by unfold tA gE;rw[I];simp
  have J:=aT F;clear F hc;go_enter func82,ntmps82;go_wp2_with (go_at_call 77;refine aV (eH _ _ _ _) ?_;rintro w' rfl);go_ret;exact⟨by rw[J.out];rfl,bJ _ _⟩
 |true=>
  have O:=eW.1 I;obtain⟨G,rfl⟩:=cN O.1;have hG:G<=6:=aA;by_cases M:l.length<=6
  .have F:tA G l=l.all (gL G):=by unfold tA gE;rw[I,bH M];simp
   have R:¬(6:Int)<l.length:=aA;have J:=aT F;clear F O;go_enter func82,ntmps82;go_wp2_with (go_at_call 77;refine aV (eH _ _ _ _) ?_;rintro w' rfl);go_loopw [5] (fun i wr=>∃k m:Nat,k<=l/\i=aO k/\wr=w.drewN m/\(l.take k).all (gL G)=true) (fun i _=>l.length-(intOf i).toNat)
   .exact⟨0,0,aA,rfl,rfl,bF⟩
   obtain⟨k,m,hk,rfl,rfl,D⟩:=hrel;have S:=aT D;clear D;by_cases hlt:k<l
   .have Z:=hc k hlt
    cases N:gL G l[k]with
    |false=>
     have z:fN l[k] 0 (2^G-1)=false:=by rw[BA];exact N
     have K:=aT z;clear z;go_wp2_with fail;go_quiet ((first|(go_at_call 78;first|exact kH (fZ G _ aA)|exact lO (fZ G _ aA))|(go_at_call 77;first|exact tE (eH _ _ _ _) K.out|exact vM (eH _ _ _ _) K.out)));go_wp2;go_ret;refine⟨cP ?_,((bJ _ _).drewN' _).drewN' _⟩;rw[J.out,lW _ _ _ hlt N]
    |true=>
     have z:fN l[k] 0 (2^G-1)=true:=by rw[BA];exact N
     have K:=aT z;clear z;go_wp2_with fail;go_quiet ((first|(go_at_call 78;first|exact kH (fZ G _ aA)|exact lO (fZ G _ aA))|(go_at_call 77;first|exact tE (eH _ _ _ _) K.out|exact vM (eH _ _ _ _) K.out)));go_wp2;go_roundw
     .exact⟨k+1,m+nq,aA,cD,bF,by rw[lG _ _ _ hlt,S.out,N];rfl⟩
     exact aY
   .go_wp2;go_ret;refine⟨cP ?_,(bJ _ _).drewN' _⟩;rw[J.out,<-nD (gL G) l k aA,S.out]
  .have F:tA G l=false:=by unfold tA;rw[bG M];rfl
   have R:(6:Int)<l.length:=aA;have J:=aT F;clear F hc O;go_enter func82,ntmps82;go_wp2_with (go_at_call 77;refine aV (eH _ _ _ _) ?_;rintro w' rfl);go_ret;exact⟨by rw[J.out];rfl,bJ _ _⟩
theorem alE:∀x:Nat,x<64->∀u:Nat,u<64->∀e:Nat,e<6->eI (dY x u) e=(eI x e&&!eI u e):=dS
theorem XS(P Q:Nat->Bool)(n:Nat)(h:∀e,e<n->P e=Q e):dE P n=dE Q n:=by
 induction n with
 |zero=>rfl
 |succ n ih=>rw[gV,gV,ih (fun e z=>h e aA),h n aA]
theorem WH(P:Nat->Bool)(k n:Nat)(h:k<=n):dE P n=dE P k++(dE P n).drop (dE P k).length:=by
 induction n with
 |zero=>have:k=0:=aA;subst this;rfl
 |succ n ih=>
  by_cases hk:k=n+1
  .subst hk;simp
  .have:=ih aA;rw[gV]
   split
   .rw[List.drop_append_of_le_length (by have:=congrArg List.length this;rw[bN]at this;omega),<-eY,<-this]
   .exact this
theorem anD(x u G:Nat)(D:G<=6)(F:x<2^G)(I:u<64):iP (dQ (x:Int) (u:Int))=dE (fun e=>eI x e&&!eI u e) G:=by
 have z:x<64:=dX F (bQ (n:=2) bZ D);have hd:dY x u<2^G:=zS x u _ F;have e1:iP (dQ (x:Int) (u:Int))=kN (dY x u) 6:=by unfold iP dQ;rfl
 rw[e1,vW (dY x u) 6 G (dX hd (bQ bZ D)) hd];unfold kN;exact XS _ _ G (fun e J=>alE x z u I e aA)
theorem aiE(c s:Nat):(fE (c:Int) s==0)=!eI c s:=by
 have h:=rP c s;have h2:fE (c:Int) s=0\/fE (c:Int) s=1:=by unfold fE;omega
 rcases h2 with h2|h2
 .rw[h2]at h |-;rw[<-h];rfl
 .rw[h2]at h |-;rw[<-h];rfl
theorem ae7(lv:Value)(G:Nat)(hG:G<=6)(hm:∀x∈l,0<=x/\x<2^G)(l0:l.length<=6):∀(n:Nat) (used:Nat) (list:aI) (v:Value) (w:World) (B:Nat),list.length+n=l.length->Ints w lv l->bB 3 B w v list->B<=w.heap.size->used<64 ->
  Calls prog 83 #[G,lv,v,used] w fun e w'=>∃ad i cp,e=aQ (aS #[aD ad i cp,aG (uC l n used list).isSome])/\bB 3 B w' (aD ad i cp) ((uC l n used list).getD [])/\Below w w w':=by
 have HM:=aT hm;clear hm;intro n
 induction n with
 |zero=>intro used list v w B hn a7 mF hB hu;obtain⟨a,c,rfl⟩:=a7.shape;obtain⟨av,cv,rfl⟩:=mF.shape;have ht:((list.length:Int)==(l.length:Int))=true:=bO;have HN:=aT hn;clear hn;go_enter func83,ntmps83;go_wp2_with fail;go_ret2;exact⟨av,list.length,cv,rfl,mF,bJ _ _⟩
 |succ n ih=>
  intro used list v w B hn a7 mF hB hu;have f2:=a7;obtain⟨a,b,i6,c,rfl,j1,f0,hc,hb⟩:=a7.vw;obtain⟨av,cv,rfl⟩:=mF.shape;have hlt:list.length<l.length:=aA;have ht:((list.length:Int)==(l.length:Int))=false:=bO;have c9:=HM.out _ (aX hlt);have J:=hc list.length hlt;have k8:b<w.heap.size:=World.block_lt_of_cell? _ _ J;have j0:=fun W=>f0 W list.length hlt;have D:=VR l n used list;rw[cJ l list.length hlt]at D;obtain⟨x,hx⟩:∃x:Nat,l[list.length]=(x:Int):=⟨l[list.length].toNat,aA⟩;rw[hx]at c9 J D;have c8:x<2^G:=by have:=c9.2;exact_mod_cast this
  have j4:x<64:=dX c8 (bQ (n:=2) bZ hG);rw[anD x used G hG c8 hu]at D;obtain⟨P,hP⟩:∃P:Nat->Bool,P=fun e=>eI x e&&!eI used e:=⟨_,rfl⟩;obtain⟨F,hF⟩:∃F:Int->Option aI,F=MA l n used list:=⟨_,rfl⟩;rw[<-hF,<-hP]at D;have HN:=aT hn;have HF:=aT hF;have HP:=aT hP;have IH:=aT ih;have b5:=aT D;clear hn hx hF hP ih hc f0 c9 D c8;go_enter func83,ntmps83;go_wp2_with fail;go_loopw [10] (fun i wr=>∃k:Nat,k<=G/\i=aO k/\(dE P k).findSome? F=none/\Below w w wr) (fun i _=>G-(intOf i).toNat)
  .exact⟨0,aZ _,rfl,rfl,bJ _ _⟩
  obtain⟨k,hk,rfl,S,I⟩:=hrel;have H:=aT S;clear S;have yw:=I.size;have k9:wr.cell? ⟨b,i6+list.length,none⟩=some (aO (x:Int)):=keep I J;by_cases h5:k<G
  .have ol:=mF.keep I;have e9:=gV P k;have K:P k=(eI x k&&!eI used k):=by rw[HP.out]
   have h0:=lL (x:Int) k aA aA;have g9:=lL (used:Int) k aA aA;have N:=rP x k;have M:=aiE used k;obtain⟨y,hy⟩:=aW (fE (x:Int) k);obtain⟨z,hz⟩:=aW (fE (used:Int) k);rw[<-hy]at h0 N;rw[<-hz]at g9 M;have a6:=aT e9;clear hy hz e9
   cases h1:eI x k with
   |false=>
    have h7:(y==1)=false:=by rw[N,h1]
    have Y:P k=false:=by rw[K,h1];rfl
    have b9:=aT Y;clear h1 N K Y M;go_wp2;go_roundw
    .exact⟨k+1,aA,cD,by rw[a6.out,b9.out];exact H.out,I⟩
    exact aY
   |true=>
    have h7:(y==1)=true:=by rw[N,h1]
    cases h2:eI used k with
    |true=>
     have h9:(z==0)=false:=by rw[M,h2];rfl
     have Y:P k=false:=by rw[K,h1,h2];rfl
     have b9:=aT Y;clear h1 h2 N K Y M;go_wp2;go_roundw
     .exact⟨k+1,aA,cD,by rw[a6.out,b9.out];exact H.out,I⟩
     exact aY
    |false=>
     have h9:(z==0)=true:=by rw[M,h2];rfl
     have f5:P k=true:=by rw[K,h1,h2];rfl
     have e0:=aT f5;have hp:=JL (k:Int) aA;have c7:(2:Int)^(k:Int).toNat=2^k:=bF;rw[c7]at hp;have h6:bits .or .i64 (used:Int) (2^k)=gO used (2^k):=vJ aA aA aA aA;have f4:=DC used (2^k) 6 aA aA aA aA;have c6:F (k:Int)=uC l n (gO used (2^k)) (list++[(k:Int)]):=by rw[HF.out];unfold MA;rw[c7]
     obtain⟨u2,f6⟩:∃u:Nat,gO used (2^k)=(u:Int):=⟨(gO used (2^k)).toNat,aA⟩;rw[f6]at h6 f4 c6;have Z:∀(v2:Value) (w2:World),bB 3 wr w2 v2 (([]++list)++[(k:Int)])->Below wr wr w2 ->
       Calls prog 83 #[G,aD a l c,v2,(u2:Int)] w2 fun e w'=>∃ad i cp,e=aQ (aS #[aD ad i cp,aG (F (k:Int)).isSome])/\bB 3 wr w' (aD ad i cp) ((F (k:Int)).getD [])/\Below w2 w2 w':=fun v2 w2 q1 q2=>by
      rw[c6];rw[List.nil_append]at q1;exact IH.out u2 _ v2 w2 wr.heap.size (by have:=HN.out;rw[bN,List.length_singleton];omega) (f2.below (I.after q2 I.size) aU) q1 q2.size aA
     have O:∀y,F (k:Int)=some y->uC l (n+1) used list=some y:=fun y h8=>by rw[b5.out];have e1:dE P G=dE P (k+1)++(dE P G).drop (dE P (k+1)).length:=WH P (k+1) G h5;rw[e1,List.findSome?_append,a6.out,e0.out,if_pos rfl,List.findSome?_append,H.out];simp[h8]
     obtain⟨R,hR⟩:=aW (F (k:Int));simp only[<-hR]at Z O;have b4:=aT Z;have d0:=aT O;have HR:=aT hR;have e6:([]:aI).length+list.length<=17592186044416:=bO;have e7:([]++list).length + [(k:Int)].length<=17592186044416:=bO;have e8:fM (k:Int):=⟨aA,aA⟩;have a8:=aT e6;have a9:=aT e7;have e4:=aT e8;have l1:=hp.1;have l2:=hp.2;have l3:IntKind.i64.wrap ((2:Int)^k)=2^k:=dV;clear Z O hR c6 f6 f4 c7 hp h1 h2 N K f5 M e6 e7 e8
     cases R with
     |none=>
      go_wp2_with fail;go_region_held3 (fun _=>True) (trivial)
       (first
        |(refine jT rfl _ _ _ rfl 3 underlying25 intElem wr.heap.size (aD (some ⟨_,0,none⟩) 0 0) [] rfl (aD av list cv) list rfl ?_ ?_ a8.out wr ?_ aU ?_;(first|(with_reducible exact(bB.lit0 wr aU).drew')|(with_reducible exact((bB.lit0 wr aU).alloc _).drew')|(with_reducible exact(bB.lit0' wr _).drew'));(first|(with_reducible exact(ol.ints.alloc _).drew')|(with_reducible exact((ol.ints.alloc _).alloc _).drew'));(first|(with_reducible exact(cQ wr _).drew)|(with_reducible exact(wU wr _ _).drew));(intro v1 w1 o1 b1 pc))
        |(refine jT rfl _ _ _ rfl 3 underlying25 intElem wr.heap.size v1 ([]++list) rfl (aD (some ⟨_,0,none⟩) 1 1) [(k:Int)] rfl ?_ ?_ a9.out wr ?_ aU ?_;(first|(with_reducible exact o1)|(with_reducible exact o1.alloc _));(refine Ints.one ?_ e4.out;first|(with_reducible exact cR _ _ _ _ _ rfl)|(with_reducible exact pc _ _ (uM _ _ _ _) (zW _ _ _))|(with_reducible exact pc _ _ (vT _ _ _ _) (zX _ _ _)));(first|(with_reducible exact b1)|(with_reducible exact b1.alloc b1.size _));(intro v2 w2 o2 b2 _))
        |(go_at_call 83;with_reducible refine(b4.out v2 w2 o2 b2).mono ?_;rintro e3 w3 ⟨p3,i3,q3,rfl,o3,b3⟩)
       )
      all_goals
       go_wp2;go_roundw
       .exact⟨k+1,aA,cD,by rw[a6.out,e0.out,if_pos rfl,List.findSome?_append,H.out];simp[<-HR.out],(I.after b2 I.size).after b3 (I.after b2 I.size).size⟩
       exact aY
     |some y=>
      have b8:=d0.out y rfl;have b6:=aT b8;clear b8;go_wp2_with fail;go_region_held3 (fun _=>True) (trivial)
       (first
        |(refine jT rfl _ _ _ rfl 3 underlying25 intElem wr.heap.size (aD (some ⟨_,0,none⟩) 0 0) [] rfl (aD av list cv) list rfl ?_ ?_ a8.out wr ?_ aU ?_;(first|(with_reducible exact(bB.lit0 wr aU).drew')|(with_reducible exact((bB.lit0 wr aU).alloc _).drew')|(with_reducible exact(bB.lit0' wr _).drew'));(first|(with_reducible exact(ol.ints.alloc _).drew')|(with_reducible exact((ol.ints.alloc _).alloc _).drew'));(first|(with_reducible exact(cQ wr _).drew)|(with_reducible exact(wU wr _ _).drew));(intro v1 w1 o1 b1 pc))
        |(refine jT rfl _ _ _ rfl 3 underlying25 intElem wr.heap.size v1 ([]++list) rfl (aD (some ⟨_,0,none⟩) 1 1) [(k:Int)] rfl ?_ ?_ a9.out wr ?_ aU ?_;(first|(with_reducible exact o1)|(with_reducible exact o1.alloc _));(refine Ints.one ?_ e4.out;first|(with_reducible exact cR _ _ _ _ _ rfl)|(with_reducible exact pc _ _ (uM _ _ _ _) (zW _ _ _))|(with_reducible exact pc _ _ (vT _ _ _ _) (zX _ _ _)));(first|(with_reducible exact b1)|(with_reducible exact b1.alloc b1.size _));(intro v2 w2 o2 b2 _))
        |(go_at_call 83;with_reducible refine(b4.out v2 w2 o2 b2).mono ?_;rintro e3 w3 ⟨p3,i3,q3,rfl,o3,b3⟩)
       )
      all_goals
       go_wp2;go_ret2;exact⟨p3,i3,q3,by rw[b6.out];rfl,by rw[b6.out];exact o3.mono aA,(I.after b2 I.size).after b3 (I.after b2 I.size).size⟩
  .have b7:uC l (n+1) used list=none:=by rw[b5.out,show G=k from aA];exact H.out
   have b0:=aT b7;clear b7;go_wp2;go_ret2;exact⟨_,0,0,by rw[b0.out];rfl,by rw[b0.out];exact(bB.lit0 wr aU).mono aA,I.alloc I.size _⟩
theorem atT(g:Int)(_:fM g)(v:Value)(l:aI)(Y:Ints w v l)(_:l.length<=1048576):
  Calls prog 29 #[g,v] w fun e w'=>∃ad i J,e=aQ (aS #[aD ad i J,aG (qT g l)])/\cY 3 w.heap.size w' (aD ad i J) (yU g l)/\Below w w w':=by
 have I:=Y;obtain⟨a,c,rfl⟩:=Y.shape
 cases F:tA g l with
 |false=>
  have hr:zY g l=none:=by unfold zY;rw[F];rfl
  have hB:qT g l=false:=by unfold qT;rw[hr];rfl
  have M:yU g l=[]:=L2 hB;have H:=aT (And.intro hB M);have R:=aT F;clear hr hB M F;go_enter func29,ntmps29;go_wp2_with (go_at_call 82;refine aV (tC g l _ _ I) ?_;intro w1 z;rw[R.out]);go_ret2;exact⟨_,0,0,by rw[H.out.1];rfl,by rw[H.out.2];exact((bB.lit0 w1 aU).mono z.size).toW,z.alloc z.size _⟩
 |true=>
  have hr:zY g l=uC l l.length 0 []:=by unfold zY;rw[F];rfl
  obtain⟨N,h0,h6,hm,_⟩:=P9 F;obtain⟨G,rfl⟩:=cN h0;have hG:G<=6:=aA;have O:∀x∈l,0<=x/\x<2^G:=fun x hx=>by have:=hm x hx;have e2:(G:Int).toNat=G:=aA;rw[e2]at this;exact this
  have R:=aT F;have hB:qT G l=(uC l l.length 0 []).isSome:=by unfold qT;rw[hr]
  have M:yU G l=(uC l l.length 0 []).getD []:=by unfold yU;rw[hr]
  have D:∀W u,Below w w W->bB 3 w W u []->Calls prog 83 #[G,aD a l c,u,aK] W fun e w'=>
    ∃ad i J,e=aQ (aS #[aD ad i J,aG (qT G l)])/\bB 3 w w' (aD ad i J) (yU G l)/\Below W W w':=fun W u K hu=>by
   rw[hB,M];exact ae7 l _ G hG O N l.length 0 [] u W w.heap.size bF (I.below K aU) hu K.size aA
  have S:=aT D;clear hr F hm N O hB M D;go_enter func29,ntmps29;go_wp2_with (first
   |(go_at_call 82;refine aV (tC G l _ _ I) ?_;intro w1 z;rw[R.out])
   |(go_at_call 83;refine(S.out _ _ (z.alloc z.size _) (bB.lit0 w1 z.size)).mono ?_;rintro e w3 ⟨p3,i3,q3,rfl,o3,Z⟩))
  go_ret2;exact⟨p3,i3,q3,rfl,o3.toW,(z.alloc z.size _).after Z (z.alloc z.size _).size⟩
theorem ZL(v:Value)(w:World)(hv:Ints w v l)(hm:∀x∈l,0<=x/\x<64)(b0:l.length<=6)(code:Nat)(M:code<64):
  Calls prog 85 #[v,code] w fun e w'=>e=aQ (gA l code l.length)/\w=w':=by
 obtain⟨a,b,b3,c,rfl,a1,a9,hc,hb⟩:=hv.vw;have Y:=aT hm;clear hm;go_enter func85,ntmps85;go_wp2;go_loop [5,6] (fun u i=>∃k:Nat,k<=l/\i=aO k/\u=aO (gA l code k)) (fun _ i=>l.length-(intOf i).toNat)
 .exact⟨0,aZ _,rfl,rfl⟩
 obtain⟨k,hk,rfl,rfl⟩:=hrel;by_cases hlt:k<l
 .have a8:=hc k hlt;have J:=Y.out _ (aX hlt);have K:=wH l code Y.out k hk;have R:gA l code (k+1)=if eI code k then gO (gA l code k) l[k] else gA l code k:=by rw[gA,cJ l k hlt]
  have I:=lL (code:Int) k aA aA;have D:=rP code k;obtain⟨y,hy⟩:=aW (fE (code:Int) k);rw[<-hy]at I D;have O:=vJ K.1 (show gA l code k<4611686018427387904 from aA) J.1 (show l[k]<4611686018427387904 from aA);obtain⟨u,hu⟩:=aW (gA l code k);rw[<-hu]at O R |-;have Z:=aT R;clear R hy hu K J
  cases z:eI code k with
  |false=>
   have S:(y==1)=false:=by rw[D,z]
   have F:=aT z;clear z D;go_wp2;go_round
   .exact⟨k+1,aA,cD,by rw[Z.out,F.out];rfl⟩
   exact aY
  |true=>
   have S:(y==1)=true:=by rw[D,z]
   have F:=aT z;clear z D;go_wp2;go_round
   .exact⟨k+1,aA,cD,by rw[Z.out,F.out,if_pos rfl]⟩
   exact aY
 .have N:k=l.length:=aA;subst N;go_wp2;go_ret;exact⟨rfl,rfl⟩
theorem atZ(g:Int)(_:fM g)(v:Value)(l:aI)(hv:Ints w v l)(_:l.length<=1048576):
  Calls prog 30 #[g,v] w fun e w'=>∃ad i cp,e=aQ (aS #[aD ad i cp,aG (yY g l)])/\cY 3 w.heap.size w' (aD ad i cp) (vR g l)/\Below w w w':=by
 have K:=hv;obtain⟨a,c,rfl⟩:=hv.shape
 cases hf:tA g l with
 |false=>
  have hr:yZ g l=none:=by unfold yZ;rw[hf];rfl
  have hB:yY g l=false:=by unfold yY;rw[hr];rfl
  have Z:vR g l=[]:=by unfold vR;rw[hr]
  have H:=aT (And.intro hB Z);have HF:=aT hf;clear hr hB Z hf;go_enter func30,ntmps30;go_wp2_with fail;go_loopw [6] (fun i wr=>i=aO 1/\Below w w wr) (fun _ _=>0)
  .exact⟨rfl,bJ _ _⟩
  obtain⟨rfl,B⟩:=hrel;go_wp2_with (go_at_call 82;refine aV (tC g l _ _ (K.below B aU)) ?_;intro w1 D;rw[HF.out]);have M:=B.after D B.size;go_ret2;exact⟨_,0,0,by rw[H.out.1];rfl,by rw[H.out.2];exact((bB.lit0 w1 aU).mono M.size).toW,M.alloc M.size _⟩
 |true=>
  obtain⟨a7,_,_,_,hm⟩:=P9 hf;obtain⟨N,hN⟩:∃N:Nat,2^l.length=N+1:=⟨2^l.length-1,by have:=dJ l.length;omega⟩;have hr:yZ g l=kI (I8 l) N 1:=by unfold yZ;rw[hf,if_pos rfl,hN];exact ahZ _ _ (aiR l hm)
  have HF:=aT hf;have HM:=aT hm;have b9:(2:Nat)^l.length<=64:=bQ (n:=2) bZ a7;have R:((2^l.length:Nat):Int)=(2:Int)^l.length:=bF;have f2:(2:Int)^l.length<=64:=by rw[<-R];exact_mod_cast b9
  have f3:=(dW l.length 6 a7).2;rw[hN]at R b9;obtain⟨P,hP⟩:=aW (I8 l);rw[<-hP]at hr;have HR:=aT hr;have b3:=aT R;have HP:=aT hP;clear hr hf hm hN R hP;go_enter func30,ntmps30;go_wp2_with fail;go_loopw [6] (fun i wr=>∃k:Nat,k<=N/\i=aO ((k:Int)+1)/\kI P (N-k) (k+1)=kI P N 1/\Below w w wr) (fun i _=>N+1-(intOf i).toNat)
  .exact⟨0,aZ _,rfl,rfl,bJ _ _⟩
  obtain⟨k,hk,rfl,I,B⟩:=hrel;have H:=aT I;clear I;by_cases hlt:k<N
  .have b8:(k:Int)+1<2^l.length:=by rw[<-b3.out];omega
   have O:kI P (N-k) (k+1)=if P (k+1) then some (k+1) else kI P (N-(k+1)) (k+1+1):=by rw[show N-k=(N-(k+1))+1 from aA];rfl
   have z:P (k+1)=decide (eO (gA l (k+1) l.length)<(dG (k+1):Int)):=by rw[HP.out];rfl
   have Y:=fun W (hW:Ints W (aD a l c) l)=>ZL l _ W hW HM.out a7 (k+1) aA;have a9:=wH l (k+1) HM.out l.length aU;have F:((k+1:Nat):Int)=(k:Int)+1:=aA;simp only[F]at Y;obtain⟨u,hu⟩:=aW (gA l (k+1) l.length);rw[<-hu]at z a9;simp only[<-hu]at Y;have a8:=fun W=>tT u W a9.1 aA;have S:=fun W=>iE (k+1) W aA;simp only[F]at S;obtain⟨q,hq⟩:=aW (eO u);obtain⟨r,hr⟩:=aW ((dG (k+1):Int));rw[<-hq]at z;simp only[<-hq]at a8;rw[<-hr]at z;simp only[<-hr]at S;have b7:=aT Y;have b6:=aT a8;have b4:=aT S;have b5:=aT O;have e6:k+1<64:=aA;clear Y a8 S O a9 hu hq hr F
   cases J:P (k+1) with
   |false=>
    have f0:¬q<r:=by rw[J]at z;exact eZ z.symm
    have c5:=aT J;clear J z;go_wp2_with (first
     |(go_at_call 82;refine aV (tC g l _ _ (K.below B aU)) ?_;intro w1 D;rw[HF.out])
     |(go_at_call 85;refine aV (b7.out _ (K.below (B.after D B.size) aU)) ?_;rintro w2 rfl)
     |(go_at_call 84;with_reducible refine aV (b6.out _) ?_;rintro w3 rfl)
     |(go_at_call 84;with_reducible refine aV (b4.out _) ?_;rintro w4 rfl))
    go_roundw
    .exact⟨k+1,aA,cD,by rw[<-H.out,b5.out,c5.out];rfl,B.after D B.size⟩
    exact aY
   |true=>
    have f4:q<r:=by rw[J]at z;exact eD z.symm
    have hR:yZ g l=some (k+1):=by rw[HR.out,<-H.out,b5.out,J];rfl
    have hB:yY g l=true:=by unfold yY;rw[hR];rfl
    have Z:vR g l=iP ((k:Int)+1):=by unfold vR;rw[hR];show iP (((k+1:Nat):Int))=_;congr 1
    have HB:=aT (And.intro hB Z);clear J z hR hB Z;go_wp2_with (first
     |(go_at_call 82;refine aV (tC g l _ _ (K.below B aU)) ?_;intro w1 D;rw[HF.out])
     |(go_at_call 85;refine aV (b7.out _ (K.below (B.after D B.size) aU)) ?_;rintro w2 rfl)
     |(go_at_call 84;with_reducible refine aV (b6.out _) ?_;rintro w3 rfl)
     |(go_at_call 84;with_reducible refine aV (b4.out _) ?_;rintro w4 rfl)
     |(go_at_call 79;refine(I7 ((k:Int)+1) _ aA aA).mono ?_;rintro e w5 ⟨p5,i5,q5,rfl,o5,c8⟩))
    have M:=B.after D B.size;go_ret2;exact⟨p5,i5,q5,by rw[HB.out.1];rfl,by rw[HB.out.2];exact o5.toW.mono M.size,M.after c8 M.size⟩
  .have b8:¬(k:Int)+1<2^l.length:=by rw[<-b3.out];omega
   have hR:yZ g l=none:=by rw[HR.out,<-H.out,show N-k=0 from aA];rfl
   have hB:yY g l=false:=by unfold yY;rw[hR];rfl
   have Z:vR g l=[]:=by unfold vR;rw[hR]
   have HB:=aT (And.intro hB Z);clear hR hB Z;go_wp2_with (go_at_call 82;refine aV (tC g l _ _ (K.below B aU)) ?_;intro w1 D;rw[HF.out]);have M:=B.after D B.size;go_ret2;exact⟨_,0,0,by rw[HB.out.1];rfl,by rw[HB.out.2];exact((bB.lit0 w1 aU).mono M.size).toW,M.alloc M.size _⟩
