/- Lemmas for CardRunConsole. No condition. -/
import Derived.Test.YtkdbkjjacgigiaaGreatDoorR24
import Derived.Test.YtkdbkjjacgigiaaGreatDoorR26
import Derived.Test.YtkdbkjjacgigiaaGreatDoorR27
set_option maxRecDepth 100000
set_option maxHeartbeats 64000000
namespace Go.Proofs.YtkdbkjjacgigiaaGreatDoor
section
open Go.RowKit Go.G5 Go.Proofs.Tryz
theorem aeH(c:aI)(v:Value)(s:Int)(w:World)(hv:Ints w v c)(hm:∀x∈c,0<=x/\x<64)(hs:0<=s/\s<64):
  Calls prog 320 #[v,s] w fun e w'=>e=aQ (aG (nH c s))/\w=w':=by
 obtain⟨a,b,b7,cp,rfl,a9,M,hc,hb⟩:=hv.vw;have HC:=aT hc;have Y:=aT M;have HM:=aT hm;obtain⟨R,Z⟩:=aW (nH c s);rw[<-Z];have HR:=aT Z;clear hc M hm Z;go_enter func320,ntmps320;go_wp2;go_loop [9] (fun iv=>∃j:Nat,j<=c.length/\iv=aO j/\dP (fun j=>oH s (c.getD j 0)) j=true) (fun iv=>c.length-(intOf iv).toNat)
 .exact⟨0,aZ _,rfl,rfl⟩
 obtain⟨j,hj,rfl,z⟩:=hrel;by_cases hlt:j<c.length
 .have N:(j:Int)<(c.length:Int):=aA;have ck:=HC.out j hlt;have ik:=fun W=>Y.out W j hlt;have O:=HM.out _ (aX hlt);have hg:c.getD j 0=c[j]:=cJ c j hlt;obtain⟨x,hx⟩:=aW (c[j]);rw[<-hx]at ck O hg;clear hx;have D:=UJ s x w hs O
  cases K:oH s x with
  |false=>
   rw[K]at D;have hr:R=false:=by rw[HR.out];exact eT hlt (by rw[hg];exact K)
   have I:=aT D;have J:=aT hr;clear D hr K;go_wp2_with (go_at_call 308;refine aV I.out ?_;rintro w' rfl);go_ret;exact⟨cP J.out.symm,rfl⟩
  |true=>
   rw[K]at D;have F:dP (fun j=>oH s (c.getD j 0)) (j+1)=true:=fJ z (by rw[hg];exact K);have I:=aT D;have S:=aT F;clear D F K z;go_wp2_with (go_at_call 308;refine aV I.out ?_;rintro w' rfl);go_round
   .exact⟨j+1,aA,cD,S.out⟩
   exact aY
 .have N:¬(j:Int)<(c.length:Int):=aA;have a6:j=c.length:=aA;subst a6;have hr:R=true:=by rw[HR.out];exact z
  have J:=aT hr;clear hr z;go_wp2;go_ret;exact⟨cP J.out.symm,rfl⟩
theorem WC:∀args w,(callFunc 320 args).run prog w=.ok (.enter 320 args) w:=enters_of func320 bM rfl
def Up(z:Nat)(v:Value)(l:List Int):Prop:=l≠[]->∀k,v.ownBlock=some k->z<k
def XC(z:Nat)(b:List Int)(w:World)(e:Ending)(w':World):Prop:=
 e=.returned (.tuple #[])/\∃v,bK w' z 204 #[v,.func (.func 320) #[] #[]]/\Ints w' v b/\Up z v b/\GrownIn w w' (fun k=>k=z)
theorem abK(J:Nat):∀(m:Nat) (sets:aI) (sv:Value) (F:aI) (lv:Value) (M:aI) (bv:Value) (w:World),sets.length=m->(∀x∈sets,0<=x/\x<64)->Ints w sv sets->JZ J sv sets->Ints w lv F->JZ J lv F->(∀x∈F,0<=x/\x<64) ->
  bK w J 204 #[bv,.func (.func 320) #[] #[]]->Ints w bv M->Up J bv M->F.length+m<=64->M.length<=64 ->
  Calls prog 359 #[aP (some ⟨J,0,none⟩),sv,lv] w (XC J (wT nH sets F (dT M F)) w):=by
 intro m
 induction m using Nat.strongRecOn with
 |ind m ih=>
 intro sets sv F lv M bv w hm i7 hs g9 hc l3 o4 K hb g8 o8 r8;have l9:=hs;have f9:=hc;have zo:=K.lt;obtain⟨a,n,s6,cp,rfl,e4,h5,j8,o3⟩:=hs.vw;obtain⟨av,cv,rfl⟩:=hc.shape;obtain⟨ab,cb,rfl⟩:=hb.shape;have q9:=aT h5;have f5:=aT i7;have n1:=aT o4;have IH:=aT ih;have G:=K.cell;have HM:=aT hm;have he:=WC;clear h5 i7 ih e4 hm o4;go_enter func359,ntmps359;go_upto_if 15 with fail;go_cut [16] (fun _ wx=>∃p q,bK wx J 204 #[.slice p (dT M F).length q,.func (.func 320) #[] #[]]/\Ints wx (.slice p (dT M F).length q) (dT M F)/\Up J (.slice p (dT M F).length q) (dT M F)/\GrownIn w wx (fun k=>k=J))
 case rest=>
  obtain⟨p,q,K1,c9,d0,g1⟩:=hcut;clear K hb g8 G;have h6:(dT M F).length<=64:=by unfold dT;split<;>omega
  obtain⟨b1,S⟩:=aW (dT M F);have HE:=aT S;rw[<-S]at K1 c9 d0 h6;clear S;go_wp2_with fail;go_loopw [23] (fun iv wr=>∃(j:Nat) (y:aI) (p:Option Addr) (q:Nat),j<=sets/\iv=aO j/\bK wr J 204 #[aD p y q,.func (.func 320) #[] #[]]/\Ints wr (aD p y q) y/\Up J (aD p y q) y/\y.length<=64/\wT nH (sets.drop j) F y=wT nH sets F b1/\GrownIn w wr (fun k=>k=J)) (fun iv _=>sets.length-(intOf iv).toNat)
  .exact⟨0,b1,p,q,aZ _,rfl,K1,c9,d0,h6,rfl,g1⟩
  obtain⟨j,y,p',q',hj,rfl,K2,hy,e0,j1,b4,g2⟩:=hrel;clear K1 c9 d0 g1;have G:=K2.cell;have l6:F.length+sets.length<=64:=by have:=HM.out;omega
  by_cases hlt:j<sets
  .have h7:(j:Int)<(sets.length:Int):=aA;have i1:=wX l9 g2 g9;have e6:=wX f9 g2 l3;obtain⟨a2,n2,q4,c2,r9,_,b3,g4,_⟩:=i1.vw;injection r9 with e1 _ e3;subst e1 e3;have l1:=g4 j hlt;have s0:=fun W=>b3 W j hlt;clear g4 b3;have b9:=f5.out _ (aX hlt);have g5:=List.drop_eq_getElem_cons hlt;have N:(sets.drop (j+1)).length=sets.length-(j+1):=List.length_drop ..;have I:wT nH (sets.drop j) F y=if F.length+((sets.drop (j+1)).length+1)<=y.length then y else if nH F sets[j] then wT nH (sets.drop (j+1)) F (wT nH (sets.drop (j+1)) (F++[sets[j]]) (dT y (F++[sets[j]]))) else wT nH (sets.drop (j+1)) F y:=by rw[g5,wT]
   rw[b4]at I;have yw:=g2.size;obtain⟨x,hx⟩:=aW (sets[j]);rw[<-hx]at l1 b9 I;clear hx b4 g5;have u9:IntKind.i64.wrap ((F.length:Int)+(sets.length:Int))=(F.length:Int)+(sets.length:Int):=dV;have v7:IntKind.i64.wrap ((F.length:Int)+(sets.length:Int)-(j:Int))=(F.length:Int)+(sets.length:Int)-(j:Int):=dV;by_cases h9:F.length+((sets.drop (j+1)).length+1)<=y.length
   .rw[if_pos h9]at I;have p8:(F.length:Int)+(sets.length:Int)-(j:Int)<=(y.length:Int):=aA;have a1:=aT I;clear I h9 N;go_wp2;exact bodyPost_end (v:=aS #[]) (results_none rfl _ _ _) rfl ⟨rfl,_,K2,by rw[<-HE.out,a1.out];exact hy,by rw[<-HE.out,a1.out];exact e0,g2⟩
   .rw[if_neg h9]at I;have p8:¬(F.length:Int)+(sets.length:Int)-(j:Int)<=(y.length:Int):=aA;have e7:=aeH F _ x wr e6 n1.out b9
    cases hT:nH F x with
    |false=>
     rw[hT,if_neg bF]at I;rw[hT]at e7;have a1:=aT I;have k5:=aT e7;clear I h9 N hT e7;go_wp2_with (go_at_fn 320;refine aV k5.out ?_;rintro w' rfl);go_roundw
     .exact⟨j+1,y,p',q',aA,cD,K2,hy,e0,j1,a1.out.symm,g2⟩
     exact aY
    |true=>
     rw[hT,if_pos rfl]at I;rw[hT]at e7;have l5:j+1<=sets.length:=hlt;have Y:(F++[x]).length=F.length+1:=bF;obtain⟨a3,c3,i8,i6,g6⟩:=QL i1 25 3 underlying25 intElem (j+1) l5;have b8:=fun W=>i8 .i64 W;rw[show((j+1:Nat):Int)=(j:Int)+1 from bF]at b8;have c8:∀e∈sets.drop (j+1),0<=e/\e<64:=fun e he=>f5.out e (List.mem_of_mem_drop he);have hcm:∀e∈F++[x],0<=e/\e<64:=fun e he=>by
      rcases dM.1 he with h|h
      .exact n1.out e h
      .rw[eM]at h;rw[h];exact b9
     obtain⟨D,hD⟩:=aW (sets.drop (j+1));rw[<-hD]at N i6 g6 c8;simp only[<-hD]at b8;have a6:=aT hD;have f7:wT nH (sets.drop (j+1)) (F++[x]) (dT y (F++[x]))=wT nH D (F++[x]) (dT y (F++[x])):=by rw[a6.out]
     clear hD i8;obtain⟨R,hR⟩:=aW (wT nH D (F++[x]) (dT y (F++[x])));have l0:R.length<=64:=by rw[hR];have h1:=ap0 nH D (F++[x]) (dT y (F++[x]));rw[CM,Y]at h1;omega
     have b7:∀(v6:Value) (w6:World),bB 3 wr w6 v6 (F++[x])->Below wr wr w6 ->
       Calls prog 359 #[aP (some ⟨J,0,none⟩),aD a3 D c3,v6] w6 (XC J R w6):=fun v6 w6 q1 q2=>by
      rw[hR];have zz:=K2.lt;exact IH.out D.length (by rw[N];have:=HM.out;omega) _ _ (F++[x]) v6 y _ w6 rfl c8 (i6.below q2 aU) (fun a8 k hk=>g9 (fun e=>a8 (by rw[a6.out,e];rfl)) k (g6 k hk)) q1.ints (fun _ k hk=>by have:=(q1.lt k hk).1;omega) hcm (K2.keep q2) (hy.below q2 aU) e0 (by rw[N,Y];omega) j1
     rw[f7,<-hR]at I;have f4:=aT b7;have a1:=aT I;have k5:=aT e7;have f6:F.length + [x].length<=17592186044416:=bO;have f8:fM x:=⟨aA,aA⟩;have s2:IntKind.i64.wrap ((j:Int)+1)=(j:Int)+1:=dV;have f3:=aT f6;have k6:=aT f8;have g0:F.length<=1048576:=aA;have o7:=aT N;clear b7 I hR f7 c8 f6 f8 N Y l6 hcm hT e7 h9;go_wp2_with (go_at_fn 320;refine aV k5.out ?_;rintro w' rfl);go_region_law
      (first
       |(go_simp;go_at_call 287;refine(nI _ F _ ?_ g0).mono ?_;(first|(with_reducible exact e6.drew')|(with_reducible exact(e6.alloc _).drew'));rintro e w5 ⟨p5,i5,q5,rfl,o5,b5⟩;have c5:=bB.mono (B':=wr.heap.size) o5 cK;first|(have a7:Below wr wr w5:=((cQ wr (.cells #[x] 3)).drewN' 1).after b5 cK;have j2:w5.cell? ⟨wr,0,none⟩=some (aO x):=keep b5 (D1 wr 3 (aO x)))|(have a7:Below wr wr w5:=((bJ wr.heap.size wr).drewN' 1).after b5 cK))
       |(refine jT rfl _ _ _ rfl 3 underlying25 intElem wr.heap.size (aD p5 i5 q5) F rfl (aD (some ⟨_,0,none⟩) 1 1) [x] rfl ?_ ?_ f3.out wr ?_ aU ?_;(first|(with_reducible exact c5.alloc _)|(with_reducible exact c5));(refine Ints.one ?_ k6.out;first|(with_reducible exact cR _ _ _ _ _ rfl)|(with_reducible exact j2));(first|(with_reducible exact a7.alloc a7.size _)|(with_reducible exact a7));intro v6 w6 o6 b6 _)
       |(go_simp;go_at_call 359;refine aV (f4.out _ w6 o6 b6) ?_;rintro w7 ⟨r4,K7,j0,l2,g7⟩))
     all_goals
      obtain⟨p7,c7,rfl⟩:=j0.shape;have k9:=g2.trans ((GrownIn.of_below (P:=fun k=>k=J) b6).trans g7);have b0:wT nH D F R=wT nH sets F b1:=by rw[a1.out,a6.out]
      have f2:=aT b0;clear b0 G;go_wp2;go_roundw
      .exact⟨j+1,R,p7,c7,aA,cD,K7,j0,l2,l0,by rw[<-a6.out];exact f2.out,k9⟩
      exact aY
  .have h7:¬(j:Int)<(sets.length:Int):=aA;have j9:j=sets.length:=aA;have h8:y=wT nH sets F (dT M F):=by rw[<-HE.out,<-b4,j9,List.drop_length];rfl
   exact akZ
 case first=>
  by_cases Z:M.length<F.length
  .have h0:(M.length:Int)<(F.length:Int):=aA;have hlo:dT M F=F:=by unfold dT;rw[if_pos Z]
   have O:=aT hlo;have a8:F≠[]:=by intro e;subst e;simp at Z
   have r0:=aT a8;clear hlo Z a8;go_wp2_with fail;refine(nI _ F w f9 aA).mono ?_;rintro e w1 ⟨pc,ic,qc,rfl,oc,bc⟩;have l4:ic=F.length:=oc.ints.capLe.1;subst l4;have K1:=K.keep bc;have G1:=K1.cell;have F1:=K1.frozen;have z1:=K1.lt;clear G;go_wp2;go_meet;have KF:bK (w1.setCell ⟨J,0,none⟩ (aD pc F qc)) J 204 #[aD pc F qc,.func (.func 320) #[] #[]]:=by have:=K1.set 0 (aD pc F qc);simpa using this
   have gF:w1.grownBy (w1.setCell ⟨J,0,none⟩ (aD pc F qc)) (some J):=cX (dO _ _) 0 _;have k3:Up J (aD pc F qc) F:=fun _ k hk=>by have:=(oc.lt k hk).1;omega
   exact ajZ
  .have h0:¬(M.length:Int)<(F.length:Int):=aA;have hlo:dT M F=M:=by unfold dT;rw[if_neg Z]
   have O:=aT hlo;clear hlo Z;go_wp2_with fail;go_meet;exact⟨ab,cb,by rw[O.out];exact K,by rw[O.out];exact hb,by rw[O.out];exact g8,GrownIn.refl _ _⟩
end
end Go.Proofs.YtkdbkjjacgigiaaGreatDoor
section
namespace Go.G5
open Go Go.RowKit
variable {P:Program} {w:World} {a:Addr} {m:Mode}
@[go_sem] theorem run_store_funcA (f : Fn) (x y : Array Value) : (store a (.func f x y) m).run P w = stored P w a (.func f x y) m := run_store P w a _ m rfl
end Go.G5
namespace Go.Proofs.YtkdbkjjacgigiaaGreatDoor
open Go.RowKit Go.G5 Go.Proofs.Tryz
theorem QZ(w:World)(v:Value)(l:aI)(O:Ints w v l)(hm:∀x∈l,0<=x/\x<64)(hl:l.length<=64):
  Calls prog 319 #[v,.func (.func 320) #[] #[]] w fun e w'=>∃ad i I,e=aQ (aD ad i I)/\Ints w' (aD ad i I) (kU nH l [] [])/\Up w.heap.size (aD ad i I) (kU nH l [] [])/\Below w w w':=by
 have F:=O;obtain⟨a,c,rfl⟩:=O.shape;have D:JZ w.heap.size (aD a l c) l:=fun N k hk e=>by have h1:=adS F N k hk;omega
 have z:∀V,Below w w V->bK V w 204 #[(),.func (.func 320) #[] #[]]->Calls prog 359 #[aP (some ⟨w,0,none⟩),aD a l c,()] V (XC w.heap.size (kU nH l [] []) V):=fun V hB hK=>by have h:=abK w.heap.size l.length l (aD a l c) [] (aD none 0 0) [] (aD none 0 0) V rfl hm (F.below hB aU) D (Ints.empty _ _ _ _ rfl bZ) (fun h=>absurd rfl h) bF hK (Ints.empty _ _ _ _ rfl bZ) (fun h=>absurd rfl h) (by simpa using hl) bF;have he:dT ([]:aI) []=[]:=rfl;rw[he,ap1]at h;exact h
 have S:=aT z;clear z;go_enter func319,ntmps319;go_wp2_with fail;refine cZ ?_;intro V J;have B:Below w w V:=jP J;have Y:bK V w 204 #[(),.func (.func 320) #[] #[]]:=jV J;clear J;refine aV (S.out V B Y) ?_;rintro w2 ⟨bv,K,hb,M,Z⟩;obtain⟨pb,qb,rfl⟩:=hb.shape;have R:Below w w w2:=Below.growIn B Z B.size (by rintro k rfl;exact aU);have G:=K.cell;go_wp2;go_ret;exact⟨_,_,_,rfl,hb,M,R⟩
theorem ajQ{p:Prop}(h:p:=by
  refine cT ?_;intro Wf D;obtain⟨Kf,Bf⟩:=key Wf D;have Gf:=Kf.cell;clear D Z G2 F2 key;exact bW (v:=aS #[aM #[aK,()],aG false]) (by simp[results,results238,go_sem,Gf]) rfl ⟨none,0,0,by rw[HN.out.1.1,HN.out.2],by rw[HN.out.1.2];exact Ints.empty _ _ _ _ rfl bZ,Bf⟩):p:=h
theorem amN(w:World)(g:Int)(v:Value)(l:aI)(hv:Ints w v l):
  Calls prog 238 #[aM #[g,v]] w fun e w'=>∃ad i cp,e=aQ (aS #[aM #[(OA g l),aD ad i cp],aG (yP g l)])/\Ints w' (aD ad i cp) (wK g l)/\Below w w w':=by
 have f0:=hv;obtain⟨a,c,rfl⟩:=hv.shape;go_enter func238,ntmps238;go_wp2_with fail;refine cZ ?_;intro V hV;have B:Below w w V:=iJ hV;have K1:bK V w 29 #[g,aD a l c]:=iQ hV;have K2:bK V (w+1) 29 #[aK,()]:=jL hV;clear hV;refine aV (eP g l _ _ (hv.below B aU)) ?_;intro w1 K;have I:=K1.keep K;have F:=K2.keep K;have Y:=B.after K B.size;have c7:=hv.below Y aU;clear K1 K2 B K;have Z:=I.cell;have z1:=I.lt;have z2:=F.lt
 cases z:yP g l with
 |false=>
  have S:=And.intro (aiQ z) z;have HN:=aT S;have c6:cO g l=false\/(cO g l=true/\¬l.length<=12):=by
   unfold yP at z
   cases M:cO g l with
   |false=>exact .inl rfl
   |true=>rw[M]at z;simp at z;exact .inr ⟨rfl,aA⟩
  clear S z;have G2:=F.cell;have F2:=F.frozen;have key:∀Wf,Wf=(w1.setCell ⟨w+1,0,none⟩ (aO 0)).setCell ⟨w+1,1,none⟩ (aD none 0 0)->bK Wf (w+1) 29 #[aK,()]/\Below w w Wf:=fun Wf D=>by refine⟨?_,by rw[D];exact bX (bX Y cK _) cK _⟩;rw[D];have:=(F.set 0 (aO 0)).set 1 (aD none 0 0);simpa using this
  rcases c6 with M|⟨M,e9⟩
  .rw[M];go_wp2;exact ajQ
  .rw[M];have e4:(12:Int)<(l.length:Int):=aA;go_wp2;exact ajQ
 |true=>
  have N:=And.intro (M4 z) z;have HY:=aT N;unfold yP at z;rw[fB,decide_eq_true_eq]at z;obtain⟨M,e8⟩:=z;have e0:¬(12:Int)<(l.length:Int):=aA;have R:=QZ w1 _ l c7 (fS M) aA;have b5:=aT R;rw[M];clear N M R;go_wp2_with fail;refine b5.out.mono ?_;rintro e w3 ⟨p3,i3,q3,rfl,o3,u3,b3⟩;have b8:=I.keep b3;have J:=F.keep b3;have B3:=Y.after b3 Y.size;have f5:=z2;clear Z z1 z2 I F b3;have Z:=b8.cell;have G2:=J.cell;have F2:=J.frozen;have z2:=J.lt;have O:kU nH l [] []≠[]->∀k,(Value.slice p3 i3 q3).ownBlock=some k->¬k=w.heap.size+1:=fun c5 k hk=>by have:=u3 c5 k hk;omega
  go_wp2;refine cT ?_;intro Wf D;have Kf:bK Wf (w+1) 29 #[g,aD p3 i3 q3]:=by rw[D];have:=(J.set 0 (aO g)).set 1 (aD p3 i3 q3);simpa using this
  have Bf:Below w w Wf:=by rw[D];exact bX (bX B3 cK _) cK _
  have gf:GrownIn w3 Wf (fun k=>k=w.heap.size+1):=by rw[D];exact(GrownIn.of_row (mK w3 ⟨w+1,0,none⟩ _) (fun k hk=>(cI hk).symm)).trans (GrownIn.of_row (mK _ ⟨w+1,1,none⟩ _) (fun k hk=>(cI hk).symm))
  have of:=wX o3 gf O;have Gf:=Kf.cell;clear D Z G2 F2;exact bW (v:=aS #[aM #[g,aD p3 i3 q3],aG true]) (by simp[results,results238,go_sem,Gf]) rfl ⟨_,_,_,by rw[HY.out.1.1,HY.out.2],by rw[HY.out.1.2];exact of,Bf⟩
end Go.Proofs.YtkdbkjjacgigiaaGreatDoor
end
namespace Go.Proofs.YtkdbkjjacgigiaaGreatDoor
section
open Go.RowKit Go.G5 Go.Proofs.Tryz
variable(w:World)(n:Int)(v:Value)(l:aI)
theorem ahG{w:World}{cs:Array Value}{T:TypeId}{n i:Nat}{u:Value}(z:w.heap.size=n)(h:cs[i]?=some u):(w.alloc (.cells cs T)).cell? ⟨n,i,none⟩=some u:=by
 subst z;exact cR w cs T i u h
theorem alK(g:Int)(v:Value)(l:aI)(hv:Ints w v l)(hl:l.length<=1048576)(hp:lA w):
  aH 149 #[aM #[g,v]] w (aR (yQ g l)):=by
 have b5:=hv;obtain⟨a,c,rfl⟩:=hv.shape;have K0:=bK.new w 29 #[g,aD a l c]
 cases hf:cO g l with
 |false=>have HX:=aT (TN hf);have HF:=aT hf;clear hf;go_enter func149,ntmps149;go_wp2_with fail;refine aV (eP g l _ _ (b5.alloc _)) ?_;intro w1 b1;rw[HF.out];go_wp2;go_ret;exact⟨dA HX.out.symm,(cQ _ _).after b1 bF⟩
 |true=>
  obtain⟨TT,m3⟩:=aW (yQ g l);have hx:dL fY (olL g l)=TT:=by rw[m3,JF hf];exact auQ g l
  have s1:TT.size<=10700:=by rw[m3,JF hf];exact Z8 g l
  unfold olL Z6 at hx;have hcl:=SH g l;have y9:=wD g l;have y8:=(LI g l).1;have m6:yP g l=true->OA g l=g:=fun h=>(M4 h).1;have q0:=fun(W:World) (h:Ints W (aD a l c) l)=>amX W g _ l h;have q1:=fun(W:World) (h:Ints W (aD a l c) l)=>aiU W g _ l h;have m4:=fun(W:World) (h:Ints W (aD a l c) l)=>amN W g _ l h;have p8:=fun(W:World) (h:Ints W (aD a l c) l)=>auK W g _ l h;have q2:=fun(W:World) (h:Ints W (aD a l c) l)=>QA W g _ l h hl 3 ⟨aA,aA⟩;have p9:=fun(W:World) (v:Value) (h:Ints W v (kK g l 3))=>acE (kK g l 3) v W h;obtain⟨bA,m5⟩:=aW (yP g l);obtain⟨bI,p5⟩:=aW (DD g l);obtain⟨bS,p6⟩:=aW (kG g l 3);rw[<-m5]at m6;rw[<-m5,<-p5,<-p6]at hx;simp only[hf]at q0 q1;simp only[<-m5]at m4;simp only[<-p5]at p8;simp only[<-p6]at q2;obtain⟨N0,s0⟩:=aW (OA g l);simp only[<-s0]at m4 m6;obtain⟨K3,r9⟩:=aW (rH (kK g l 3));simp only[<-r9]at p9 hx;have f4:=aT m3;have HX:=aT hx;have f3:=aT s1;have HF:=aT hf;have t8:=aT m6;have t9:=aT q0;have u0:=aT q1;have t1:=aT m4;have r2:=aT p8;have l4:=aT q2;have l3:=aT p9;clear hx hf m3 s1 m6 q0 q1 m4 p8 q2 p9 m5 p5 p6 s0 r9;go_enter func149,ntmps149;go_wp2_with fail;refine aV (eP g l _ _ (b5.alloc _)) ?_;intro w0 b1;rw[HF.out];have B:Below w w w0:=(cQ _ _).after b1 bF;have K:=K0.keep b1;clear K0 b1;have G:=K.cell;go_wp2_with fail;refine(t9.out _ (b5.below B aU)).mono ?_;rintro e w1 ⟨pC,iC,qC,rfl,oC,b2⟩;have u9:iC=(BY g l).length:=oC.ints.capLe.1;subst u9;have Ba:=B.after b2 B.size;have Ka:=K.keep b2;clear B K G b2 oC;have G:=Ka.cell;go_wp2_with fail;refine(u0.out _ (b5.below Ba aU)).mono ?_;rintro e w2 ⟨pL,qL,rfl,oL,b2⟩;have B1:=Ba.after b2 Ba.size;have K1:=Ka.keep b2;clear Ba Ka G b2 oL;obtain⟨bo,i6⟩:=aW w2.heap.size;have zb:w.heap.size<bo:=by rw[i6];exact K1.lt
  have zc:w2.heap.size<=bo:=aA;have L3:kE bo (w2.alloc (.cells #[()] 143)) []:=by rw[i6];exact kE.new w2
  have K2:bK w2 w 29 #[g,aD a l c]:=K1;have B3:=B1.alloc B1.size (.cells #[()] 143);have C3:Below bo w2 (w2.alloc (.cells #[()] 143)):=by rw[i6];exact cQ w2 _
  have t6:=aT (show(w2.alloc (.cells #[()] 143)).heap.size=bo+1 by rw[i6];simp);go_wp2_with fail;rw[<-i6];clear i6 K1;have s5:=L3.lt;refine aV (fH bo [] [(⟨#[111,114,100,101,114]⟩:aB)] (bo+1) 1 1 _ (L3.keep (cQ _ _)) rfl (D2 (ahG t6.out rfl)) (by simp only[List.length_cons,List.length_nil];omega)) ?_;rintro w11 ⟨o6,r4⟩;have o2:=(B3.alloc B3.size _).after r4 aA;have q9:=(C3.alloc (cM s5) _).after r4 aU;clear B3 C3 L3;obtain⟨o8,z⟩:=aW ([]++[(⟨#[111,114,100,101,114]⟩:aB)]);rw[<-z]at o6;have x4:o8.length<=1:=by rw[z,bN];exact xB
  go_wp2_with fail;refine aV (gX bo o8 (⟨#[99,104,97,105,110]⟩:aB) (((BY g l).length:Int)) ⟨aA,aA⟩ _ o6 (hp.keep o2) aA) ?_;rintro w12 ⟨o7,r5⟩;have o3:=o2.after r5 aA;have r0:=q9.after r5 aU;clear o2 q9 o6;obtain⟨o9,D⟩:=aW (o8++[(⟨#[99,104,97,105,110]⟩:aB),dB (((BY g l).length:Int))]);rw[<-D]at o7;have x5:o9.length<=3:=by rw[D,bN];exact xB
  go_wp2_with fail;refine aV (gX bo o9 (⟨#[108,101,118,101,108,115]⟩:aB) (((gG g l).length:Int)) ⟨aA,aA⟩ _ o7 (hp.keep o3) aA) ?_;rintro w13 ⟨l5,r6⟩;have l1:=o3.after r6 aA;have o4:=r0.after r6 aU;clear o3 r0 o7;obtain⟨b3,F⟩:=aW (o9++[(⟨#[108,101,118,101,108,115]⟩:aB),dB (((gG g l).length:Int))]);rw[<-F]at l5;have x6:b3.length<=5:=by rw[F,bN];exact xB
  have G:=(dN K2 o4 zb).cell;go_wp2_with fail;clear G;refine(t1.out _ (b5.below l1 aU)).mono ?_;rintro e w14 ⟨pA,iA,qA,rfl,hA,l8⟩;have h6:=l1.after l8 l1.size;have h7:=o4.after l8 (cM l5.lt);have i1:=l5.keep l8;clear l1 o4 l5 l8;have u8:iA=(wK g l).length:=hA.capLe.1;subst u8
  cases bA with
  |false=>
   have G:=(dN K2 h7 zb).cell;have zf:=(dN K2 h7 zb).lt;go_wp2_with fail;clear G zf;refine cZ ?_;intro e9 hV;have c8:Below w w e9:=by rw[hV];exact h6.alloc h6.size _
   have k8:=cM i1.lt;have j4:Below bo w2 e9:=by rw[hV];exact h7.alloc k8 _
   have f9:kE bo e9 b3:=by rw[hV];exact i1.keep (cQ _ _)
   have n2:Ints e9 (.slice pA (wK g l).length qA) (wK g l):=by rw[hV];exact hA.alloc _
   clear hV h6 h7 i1 hA;refine(r2.out _ (b5.below c8 aU)).mono ?_;rintro e s4 ⟨pI,iI,qI,rfl,oI,e4⟩;have a7:=c8.after e4 c8.size;have f2:=j4.after e4 (cM f9.lt);have c9:=f9.keep e4;clear c8 j4 f9 e4;have p7:iI=(tB g l).length:=oI.ints.capLe.1;subst p7
   cases bI with
   |false=>
    have G:=(dN K2 f2 zb).cell;go_wp2_with fail;clear G;refine(l4.out _ (b5.below a7 aU)).mono ?_;rintro e w4 ⟨pS,iS,qS,rfl,oS,g2⟩;have b6:=a7.after g2 a7.size;have h8:=f2.after g2 (cM c9.lt);have d0:=c9.keep g2;clear a7 f2 c9 g2
    cases bS with
    |false=>
     have Y:dL fY b3=TT:=by rw[F,D,z];exact HX.out
     have hz:=f3.out;rw[<-Y]at hz;have HT:=aT Y;clear Y z D F;obtain⟨lv,KL,oL⟩:=d0;have G:=KL.cell;go_wp2_with fail;clear G;refine aV (fG (bo+1) lv b3 _ oL aA aA) ?_;intro wz bz;go_wp2;go_ret;exact⟨dA (HT.out.trans f4.out),b6.after bz b6.size⟩
    |true=>
     go_wp2_with fail;refine aV (l3.out _ _ oS.ints) ?_;intro y5 h5;have g8:=b6.after h5 b6.size;have j2:=h8.after h5 (cM d0.lt);have j6:=d0.keep h5;clear b6 h8 d0 h5;have G:=(dN K2 j2 zb).cell;go_wp2_with fail;clear G;refine aV (iY g K3 _ (hp.keep g8)) ?_;intro o0 Z;have a6:=g8.after Z g8.size;have b9:=j2.after Z (cM j6.lt);have b0:=j6.keep Z;clear g8 j2 j6 Z;go_wp2_with fail;have q5:=b0.lt;refine aV (fH bo b3 [(⟨#[115,117,110,102,108,111,119,101,114]⟩:aB),dH g K3] o0.heap.size 2 2 _ (b0.keep (cQ _ _)) rfl (jC (cR _ _ _ _ _ rfl) (cR _ _ _ _ _ rfl)) (by simp only[List.length_cons,List.length_nil];omega)) ?_;rintro k5 ⟨O,I⟩;have M:=(a6.alloc a6.size _).after I aA;have a8:=(b9.alloc (cM q5) _).after I aU;clear a6 b9 b0;obtain⟨j8,e5⟩:=aW (b3++[(⟨#[115,117,110,102,108,111,119,101,114]⟩:aB),dH g K3]);rw[<-e5]at O;have u4:j8.length<=7:=by rw[e5,bN];exact xB
     have Y:dL fY j8=TT:=by rw[e5,F,D,z];exact HX.out
     have hz:=f3.out;rw[<-Y]at hz;have HT:=aT Y;clear Y z D F e5;obtain⟨lv,KL,oL⟩:=O;have G:=KL.cell;go_wp2_with fail;clear G;refine aV (fG (bo+1) lv j8 _ oL aA aA) ?_;intro wz bz;go_wp2;go_ret;exact⟨dA (HT.out.trans f4.out),M.after bz M.size⟩
   |true=>
    go_wp2_with fail;refine aV (nK bo b3 (⟨#[105,110,116,101,114,118,97,108,115]⟩:aB) _ (tB g l) _ oI.ints aA c9 (hp.keep a7) aA) ?_;rintro w4 ⟨d0,g2⟩;have b6:=a7.after g2 aA;have h8:=f2.after g2 aU;clear a7 f2 c9;obtain⟨k2,c6⟩:=aW (b3++[(⟨#[105,110,116,101,114,118,97,108,115]⟩:aB),gY (tB g l)]);rw[<-c6]at d0;have x8:k2.length<=7:=by rw[c6,bN];exact xB
    have G:=(dN K2 h8 zb).cell;go_wp2_with fail;clear G;refine(l4.out _ (b5.below b6 aU)).mono ?_;rintro e w98 ⟨pS,iS,qS,rfl,oS,m2⟩;have j1:=b6.after m2 b6.size;have r1:=h8.after m2 (cM d0.lt);have l7:=d0.keep m2;clear b6 h8 d0 m2
    cases bS with
    |false=>
     have Y:dL fY k2=TT:=by rw[c6,F,D,z];exact HX.out
     have hz:=f3.out;rw[<-Y]at hz;have HT:=aT Y;clear Y z D F c6;obtain⟨lv,KL,oL⟩:=l7;have G:=KL.cell;go_wp2_with fail;clear G;refine aV (fG (bo+1) lv k2 _ oL aA aA) ?_;intro wz bz;go_wp2;go_ret;exact⟨dA (HT.out.trans f4.out),j1.after bz j1.size⟩
    |true=>
     go_wp2_with fail;refine aV (l3.out _ _ oS.ints) ?_;intro o0 Z;have a6:=j1.after Z j1.size;have b9:=r1.after Z (cM l7.lt);have b0:=l7.keep Z;clear j1 r1 l7 Z;have G:=(dN K2 b9 zb).cell;go_wp2_with fail;clear G;refine aV (iY g K3 _ (hp.keep a6)) ?_;intro k5 I;have M:=a6.after I a6.size;have a8:=b9.after I (cM b0.lt);have O:=b0.keep I;clear a6 b9 b0 I;go_wp2_with fail;have q6:=O.lt;refine aV (fH bo k2 [(⟨#[115,117,110,102,108,111,119,101,114]⟩:aB),dH g K3] k5.heap.size 2 2 _ (O.keep (cQ _ _)) rfl (jC (cR _ _ _ _ _ rfl) (cR _ _ _ _ _ rfl)) (by simp only[List.length_cons,List.length_nil];omega)) ?_;rintro k6 ⟨R,J⟩;have N:=(M.alloc M.size _).after J aA;have a9:=(a8.alloc (cM q6) _).after J aU;clear M a8 O;obtain⟨j9,e6⟩:=aW (k2++[(⟨#[115,117,110,102,108,111,119,101,114]⟩:aB),dH g K3]);rw[<-e6]at R;have u5:j9.length<=9:=by rw[e6,bN];exact xB
     have Y:dL fY j9=TT:=by rw[e6,c6,F,D,z];exact HX.out
     have hz:=f3.out;rw[<-Y]at hz;have HT:=aT Y;clear Y z D F c6 e6;obtain⟨lv,KL,oL⟩:=R;have G:=KL.cell;go_wp2_with fail;clear G;refine aV (fG (bo+1) lv j9 _ oL aA aA) ?_;intro wz bz;go_wp2;go_ret;exact⟨dA (HT.out.trans f4.out),N.after bz N.size⟩
  |true=>
   have v6:=(t8.out rfl).symm;subst v6;go_wp2_with fail;refine cZ ?_;intro e9 hV;have c8:Below w w e9:=by rw[hV];exact h6.alloc h6.size _
   have k8:=cM i1.lt;have j4:Below bo w2 e9:=by rw[hV];exact h7.alloc k8 _
   have f9:kE bo e9 b3:=by rw[hV];exact i1.keep (cQ _ _)
   have n2:Ints e9 (.slice pA (wK g l).length qA) (wK g l):=by rw[hV];exact hA.alloc _
   clear hV h6 h7 i1 hA;refine aV (lU g (wK g l) _ _ n2 (hp.keep c8)) ?_;intro s4 e4;have a7:=c8.after e4 c8.size;have f2:=j4.after e4 (cM f9.lt);have c9:=f9.keep e4;clear c8 j4 f9 e4;go_wp2_with fail;have s6:=c9.lt;refine aV (fH bo b3 [(⟨#[97,110,116,105,99,104,97,105,110]⟩:aB),eG g (wK g l)] s4.heap.size 2 2 _ (c9.keep (cQ _ _)) rfl (jC (cR _ _ _ _ _ rfl) (cR _ _ _ _ _ rfl)) (by simp only[List.length_cons,List.length_nil];omega)) ?_;rintro w57 ⟨l6,r7⟩;have l2:=(a7.alloc a7.size _).after r7 aA;have o5:=(f2.alloc (cM s6) _).after r7 aU;clear a7 f2 c9;obtain⟨g0,S⟩:=aW (b3++[(⟨#[97,110,116,105,99,104,97,105,110]⟩:aB),eG g (wK g l)]);rw[<-S]at l6;have x7:g0.length<=7:=by rw[S,bN];exact xB
   have G:=(dN K2 o5 zb).cell;go_wp2_with fail;clear G;refine(r2.out _ (b5.below l2 aU)).mono ?_;rintro e w58 ⟨pI,iI,qI,rfl,oI,l9⟩;have f6:=l2.after l9 l2.size;have j5:=o5.after l9 (cM l6.lt);have j7:=l6.keep l9;clear l2 o5 l6 l9;have p7:iI=(tB g l).length:=oI.ints.capLe.1;subst p7
   cases bI with
   |false=>
    have G:=(dN K2 j5 zb).cell;go_wp2_with fail;clear G;refine(l4.out _ (b5.below f6 aU)).mono ?_;rintro e w5 ⟨pS,iS,qS,rfl,oS,g4⟩;have b7:=f6.after g4 f6.size;have h9:=j5.after g4 (cM j7.lt);have e0:=j7.keep g4;clear f6 j5 j7 g4
    cases bS with
    |false=>
     have Y:dL fY g0=TT:=by rw[S,F,D,z];exact HX.out
     have hz:=f3.out;rw[<-Y]at hz;have HT:=aT Y;clear Y z D F S;obtain⟨lv,KL,oL⟩:=e0;have G:=KL.cell;go_wp2_with fail;clear G;refine aV (fG (bo+1) lv g0 _ oL aA aA) ?_;intro wz bz;go_wp2;go_ret;exact⟨dA (HT.out.trans f4.out),b7.after bz b7.size⟩
    |true=>
     go_wp2_with fail;refine aV (l3.out _ _ oS.ints) ?_;intro k5 I;have M:=b7.after I b7.size;have a8:=h9.after I (cM e0.lt);have O:=e0.keep I;clear b7 h9 e0 I;have G:=(dN K2 a8 zb).cell;go_wp2_with fail;clear G;refine aV (iY g K3 _ (hp.keep M)) ?_;intro k6 J;have N:=M.after J M.size;have a9:=a8.after J (cM O.lt);have R:=O.keep J;clear M a8 O J;go_wp2_with fail;have q7:=R.lt;refine aV (fH bo g0 [(⟨#[115,117,110,102,108,111,119,101,114]⟩:aB),dH g K3] k6.heap.size 2 2 _ (R.keep (cQ _ _)) rfl (jC (cR _ _ _ _ _ rfl) (cR _ _ _ _ _ rfl)) (by simp only[List.length_cons,List.length_nil];omega)) ?_;rintro o1 ⟨c5,b4⟩;have b8:=(N.alloc N.size _).after b4 aA;have j3:=(a9.alloc (cM q7) _).after b4 aU;clear N a9 R;obtain⟨k0,e7⟩:=aW (g0++[(⟨#[115,117,110,102,108,111,119,101,114]⟩:aB),dH g K3]);rw[<-e7]at c5;have u6:k0.length<=9:=by rw[e7,bN];exact xB
     have Y:dL fY k0=TT:=by rw[e7,S,F,D,z];exact HX.out
     have hz:=f3.out;rw[<-Y]at hz;have HT:=aT Y;clear Y z D F S e7;obtain⟨lv,KL,oL⟩:=c5;have G:=KL.cell;go_wp2_with fail;clear G;refine aV (fG (bo+1) lv k0 _ oL aA aA) ?_;intro wz bz;go_wp2;go_ret;exact⟨dA (HT.out.trans f4.out),b8.after bz b8.size⟩
   |true=>
    go_wp2_with fail;refine aV (nK bo g0 (⟨#[105,110,116,101,114,118,97,108,115]⟩:aB) _ (tB g l) _ oI.ints aA j7 (hp.keep f6) aA) ?_;rintro w5 ⟨e0,g4⟩;have b7:=f6.after g4 aA;have h9:=j5.after g4 aU;clear f6 j5 j7;obtain⟨k3,c7⟩:=aW (g0++[(⟨#[105,110,116,101,114,118,97,108,115]⟩:aB),gY (tB g l)]);rw[<-c7]at e0;have x9:k3.length<=9:=by rw[c7,bN];exact xB
    have G:=(dN K2 h9 zb).cell;go_wp2_with fail;clear G;refine(l4.out _ (b5.below b7 aU)).mono ?_;rintro e y4 ⟨pS,iS,qS,rfl,oS,h0⟩;have f0:=b7.after h0 b7.size;have m9:=h9.after h0 (cM e0.lt);have g9:=e0.keep h0;clear b7 h9 e0 h0
    cases bS with
    |false=>
     have Y:dL fY k3=TT:=by rw[c7,S,F,D,z];exact HX.out
     have hz:=f3.out;rw[<-Y]at hz;have HT:=aT Y;clear Y z D F S c7;obtain⟨lv,KL,oL⟩:=g9;have G:=KL.cell;go_wp2_with fail;clear G;refine aV (fG (bo+1) lv k3 _ oL aA aA) ?_;intro wz bz;go_wp2;go_ret;exact⟨dA (HT.out.trans f4.out),f0.after bz f0.size⟩
    |true=>
     go_wp2_with fail;refine aV (l3.out _ _ oS.ints) ?_;intro k6 J;have N:=f0.after J f0.size;have a9:=m9.after J (cM g9.lt);have R:=g9.keep J;clear f0 m9 g9 J;have G:=(dN K2 a9 zb).cell;go_wp2_with fail;clear G;refine aV (iY g K3 _ (hp.keep N)) ?_;intro o1 b4;have b8:=N.after b4 N.size;have j3:=a9.after b4 (cM R.lt);have c5:=R.keep b4;clear N a9 R b4;go_wp2_with fail;have q8:=c5.lt;refine aV (fH bo k3 [(⟨#[115,117,110,102,108,111,119,101,114]⟩:aB),dH g K3] o1.heap.size 2 2 _ (c5.keep (cQ _ _)) rfl (jC (cR _ _ _ _ _ rfl) (cR _ _ _ _ _ rfl)) (by simp only[List.length_cons,List.length_nil];omega)) ?_;rintro y6 ⟨n0,n1⟩;have m8:=(b8.alloc b8.size _).after n1 aA;have w7:=(j3.alloc (cM q8) _).after n1 aU;clear b8 j3 c5;obtain⟨k1,e8⟩:=aW (k3++[(⟨#[115,117,110,102,108,111,119,101,114]⟩:aB),dH g K3]);rw[<-e8]at n0;have u7:k1.length<=11:=by rw[e8,bN];exact xB
     have Y:dL fY k1=TT:=by rw[e8,c7,S,F,D,z];exact HX.out
     have hz:=f3.out;rw[<-Y]at hz;have HT:=aT Y;clear Y z D F S c7 e8;obtain⟨lv,KL,oL⟩:=n0;have G:=KL.cell;go_wp2_with fail;clear G;refine aV (fG (bo+1) lv k1 _ oL aA aA) ?_;intro wz bz;go_wp2;go_ret;exact⟨dA (HT.out.trans f4.out),m8.after bz m8.size⟩
theorem ag0(c:aB)(n:Int)(v:Value)(l:aI)(Z:Ints w v l)(hl:l.length<=1048576)(N:lA w):
  aH 89 #[aR c,aM #[n,v]] w (aS #[aR ((nZ c n l).getD aN),aG (nZ c n l).isSome]):=by
 obtain⟨a,d,rfl⟩:=Z.shape;have D:Below w w (w.alloc (.cells #[n,aD a l d] 27)):=cQ _ _;have F:=Z.alloc (.cells #[n,aD a l d] 27);have z0:=D.size;have M:=N.keep D;by_cases c0:c=(⟨#[102,117,110,99,116,105,111,110]⟩:aB)
 .have z:nZ c n l=some (sL n l):=by unfold nZ;rw[if_pos c0]
  have t0:(c.toList==([102,117,110,99,116,105,111,110]:List UInt8))=true:=by rw[show([102,117,110,99,116,105,111,110]:List UInt8)=((⟨#[102,117,110,99,116,105,111,110]⟩:aB):aB).toList from dS,dR,bH c0]
  rw[z];clear z c0;have hC:=ah7 _ n _ l F hl M;have I:=aT hC;clear hC;go_enter func89,ntmps89;go_wp2_with fail;refine aV I.out ?_;intro w1 J;go_wp2;go_ret2;exact⟨rfl,D.after J D.size⟩
 have t0:(c.toList==([102,117,110,99,116,105,111,110]:List UInt8))=false:=by rw[show([102,117,110,99,116,105,111,110]:List UInt8)=((⟨#[102,117,110,99,116,105,111,110]⟩:aB):aB).toList from dS,dR,bG c0]
 by_cases c1:c=(⟨#[101,120,116,114,101,109,101]⟩:aB)
 .have z:nZ c n l=some (BS n l):=by unfold nZ;rw[if_neg c0,if_pos c1]
  have t1:(c.toList==([101,120,116,114,101,109,101]:List UInt8))=true:=by rw[show([101,120,116,114,101,109,101]:List UInt8)=((⟨#[101,120,116,114,101,109,101]⟩:aB):aB).toList from dS,dR,bH c1]
  rw[z];clear z c0 c1;have hC:=amL _ n _ l F hl M;have I:=aT hC;clear hC;go_enter func89,ntmps89;go_wp2_with fail;refine aV I.out ?_;intro w1 J;go_wp2;go_ret2;exact⟨rfl,D.after J D.size⟩
 have t1:(c.toList==([101,120,116,114,101,109,101]:List UInt8))=false:=by rw[show([101,120,116,114,101,109,101]:List UInt8)=((⟨#[101,120,116,114,101,109,101]⟩:aB):aB).toList from dS,dR,bG c1]
 by_cases c2:c=(⟨#[109,97,116,114,111,105,100]⟩:aB)
 .have z:nZ c n l=some (yR (zR n l)):=by unfold nZ;rw[if_neg c0,if_neg c1,if_pos c2]
  have t2:(c.toList==([109,97,116,114,111,105,100]:List UInt8))=true:=by rw[show([109,97,116,114,111,105,100]:List UInt8)=((⟨#[109,97,116,114,111,105,100]⟩:aB):aB).toList from dS,dR,bH c2]
  rw[z];clear z c0 c1 c2;have hC:=alC _ n _ l F hl M;have I:=aT hC;clear hC;go_enter func89,ntmps89;go_wp2_with fail;refine aV I.out ?_;intro w1 J;go_wp2_with fail;refine aV (VN _ w1) ?_;rintro w2 rfl;go_wp2;go_ret2;exact⟨rfl,D.after J D.size⟩
 have t2:(c.toList==([109,97,116,114,111,105,100]:List UInt8))=false:=by rw[show([109,97,116,114,111,105,100]:List UInt8)=((⟨#[109,97,116,114,111,105,100]⟩:aB):aB).toList from dS,dR,bG c2]
 by_cases c3:c=(⟨#[99,108,97,105,109]⟩:aB)
 .have z:nZ c n l=some (cfT n l):=by unfold nZ;rw[if_neg c0,if_neg c1,if_neg c2,if_pos c3]
  have t3:(c.toList==([99,108,97,105,109]:List UInt8))=true:=by rw[show([99,108,97,105,109]:List UInt8)=((⟨#[99,108,97,105,109]⟩:aB):aB).toList from dS,dR,bH c3]
  rw[z];clear z c0 c1 c2 c3;have hC:=abT _ n _ l F hl;have I:=aT hC;clear hC;go_enter func89,ntmps89;go_wp2_with fail;refine I.out.mono ?_;rintro e w1 ⟨p0,i0,q0,p1,i1,q1,p2,i2,q2,p3,i3,q3,rfl,O,R,S,Y,_,J⟩;have K:=D.after J D.size;go_wp2_with fail;refine aV (sW w1 (AS n l) (AQ n l) _ (AT n l) O.ints 0 _ [] R.ints 0 _ [] S.ints (AU n l) (AV n l) _ (AR n l) Y.ints (gP n l) (N.keep K)) ?_;intro w2 b2;go_wp2;go_ret2;exact⟨rfl,K.after b2 K.size⟩
 have t3:(c.toList==([99,108,97,105,109]:List UInt8))=false:=by rw[show([99,108,97,105,109]:List UInt8)=((⟨#[99,108,97,105,109]⟩:aB):aB).toList from dS,dR,bG c3]
 by_cases c4:c=(⟨#[99,117,116]⟩:aB)
 .have z:nZ c n l=some (ccT n l):=by unfold nZ;rw[if_neg c0,if_neg c1,if_neg c2,if_neg c3,if_pos c4]
  have t4:(c.toList==([99,117,116]:List UInt8))=true:=by rw[show([99,117,116]:List UInt8)=((⟨#[99,117,116]⟩:aB):aB).toList from dS,dR,bH c4]
  rw[z];clear z c0 c1 c2 c3 c4;have hC:=abR _ n _ l F hl;have I:=aT hC;clear hC;go_enter func89,ntmps89;go_wp2_with fail;refine I.out.mono ?_;rintro e w1 ⟨p0,i0,q0,p1,i1,q1,p2,i2,q2,p3,i3,q3,rfl,O,R,S,Y,_,J⟩;have K:=D.after J D.size;go_wp2_with fail;refine aV (sW w1 (E6 n l) (E8 n l) _ (E7 n l) O.ints 0 _ [] R.ints 0 _ [] S.ints (mA n l) (nU n l) _ [] Y.ints (jQ n l) (N.keep K)) ?_;intro w2 b2;go_wp2;go_ret2;exact⟨rfl,K.after b2 K.size⟩
 have t4:(c.toList==([99,117,116]:List UInt8))=false:=by rw[show([99,117,116]:List UInt8)=((⟨#[99,117,116]⟩:aB):aB).toList from dS,dR,bG c4]
 have z:nZ c n l=none:=by unfold nZ;rw[if_neg c0,if_neg c1,if_neg c2,if_neg c3,if_neg c4]
 rw[z];clear z c0 c1 c2 c3 c4;go_enter func89,ntmps89;go_wp2;go_ret2;exact⟨rfl,D⟩
theorem ag3(c:aB)(n:Int)(v:Value)(l:aI)(S:Ints w v l)(hl:l.length<=1048576)(m:Int)(u:Value)(k:aI)(R:Ints w u k)(hk:k.length<=1048576)(O:lA w):
  aH 90 #[aR c,aM #[n,v],aM #[m,u]] w (aS #[aR ((vB c n l m k).getD aN),aG (vB c n l m k).isSome]):=by
 obtain⟨a,d,rfl⟩:=S.shape;obtain⟨b,f,rfl⟩:=R.shape;have D:Below w w ((w.alloc (.cells #[n,aD a l d] 27)).alloc (.cells #[m,aD b k f] 27)):=wU _ _ _;have I:=(S.alloc (.cells #[n,aD a l d] 27)).alloc (.cells #[m,aD b k f] 27);have F:=(R.alloc (.cells #[n,aD a l d] 27)).alloc (.cells #[m,aD b k f] 27);have Y:=(bK.new w 27 #[n,aD a l d]).alloc (.cells #[m,aD b k f] 27);have Z:bK ((w.alloc (.cells #[n,aD a l d] 27)).alloc (.cells #[m,aD b k f] 27)) (w.heap.size+1) 27 #[m,aD b k f]:=by have:=bK.new (w.alloc (.cells #[n,aD a l d] 27)) 27 #[m,aD b k f];simpa using this
 have z0:=D.size;have G1:=Y.cell;have G2:=Z.cell;have N:=O.keep D;by_cases c0:c=(⟨#[112,97,105,114]⟩:aB)
 .have z:vB c n l m k=some (yR (BR n l m k)):=by unfold vB;rw[if_pos c0]
  have t0:(c.toList==([112,97,105,114]:List UInt8))=true:=by rw[show([112,97,105,114]:List UInt8)=((⟨#[112,97,105,114]⟩:aB):aB).toList from dS,dR,bH c0]
  rw[z];clear z c0;have hC:=alU _ n _ l I hl m _ k F hk N;have K:=aT hC;clear hC;go_enter func90,ntmps90;go_wp2_with fail;refine aV K.out ?_;intro w1 M;go_wp2_with fail;refine aV (VN _ w1) ?_;rintro w2 rfl;go_wp2;go_ret2;exact⟨rfl,D.after M D.size⟩
 have t0:(c.toList==([112,97,105,114]:List UInt8))=false:=by rw[show([112,97,105,114]:List UInt8)=((⟨#[112,97,105,114]⟩:aB):aB).toList from dS,dR,bG c0]
 by_cases c1:c=(⟨#[99,111,109,109,111,110]⟩:aB)
 .have z:vB c n l m k=some (cmT n l m k):=by unfold vB;rw[if_neg c0,if_pos c1]
  have t1:(c.toList==([99,111,109,109,111,110]:List UInt8))=true:=by rw[show([99,111,109,109,111,110]:List UInt8)=((⟨#[99,111,109,109,111,110]⟩:aB):aB).toList from dS,dR,bH c1]
  rw[z];clear z c0 c1;have hC:=abP _ n _ l I hl m _ k F hk;have K:=aT hC;clear hC;go_enter func90,ntmps90;go_wp2_with fail;refine K.out.mono ?_;rintro e w1 ⟨p0,i0,q0,p1,i1,q1,p2,i2,q2,p3,i3,q3,rfl,o0,o1,o2,o3,_,M⟩;have J:=D.after M D.size;go_wp2_with fail;refine aV (sW w1 (FE n l m k) (FA n l m k) _ (FG n l m k) o0.ints (FB n l m k) _ (FH n l m k) o1.ints 0 _ [] o2.ints (FI n l m k) (uU n l m k) _ (FD n l m k) o3.ints (fP n l m k) (O.keep J)) ?_;intro w2 b2;go_wp2;go_ret2;exact⟨rfl,J.after b2 J.size⟩
 have t1:(c.toList==([99,111,109,109,111,110]:List UInt8))=false:=by rw[show([99,111,109,109,111,110]:List UInt8)=((⟨#[99,111,109,109,111,110]⟩:aB):aB).toList from dS,dR,bG c1]
 have z:vB c n l m k=none:=by unfold vB;rw[if_neg c0,if_neg c1]
 rw[z];clear z c0 c1;go_enter func90,ntmps90;go_wp2;go_ret2;exact⟨rfl,D⟩
theorem ZX{p:Prop}(h:p:=by
  have K:=aT hC;clear hC;go_enter func93,ntmps93;go_wp2_with fail;refine aV K.out ?_;intro w1 M;go_wp2;go_ret2;exact⟨rfl,F.after M F.size⟩):p:=h
theorem UI(c:aB)(g:Int)(v:Value)(l:aI)(Z:Ints w v l)(hl:l.length<=1048576)(N:lA w):
  aH 93 #[aR c,aM #[g,v]] w (aS #[aR ((nQ c g l).getD aN),aG (nQ c g l).isSome]):=by
 obtain⟨a,d,rfl⟩:=Z.shape;have F:Below w w (w.alloc (.cells #[g,aD a l d] 29)):=cQ _ _;have D:=Z.alloc (.cells #[g,aD a l d] 29);have z0:=F.size;have J:=N.keep F;by_cases c0:c=(⟨#[102,97,109,105,108,121]⟩:aB)
 .have z:nQ c g l=some (BN g l):=by unfold nQ;rw[if_pos c0]
  have t0:(c.toList==([102,97,109,105,108,121]:List UInt8))=true:=by rw[show([102,97,109,105,108,121]:List UInt8)=((⟨#[102,97,109,105,108,121]⟩:aB):aB).toList from dS,dR,bH c0]
  rw[z];clear z c0;have hC:=ah3 _ g _ l D hl J;exact ZX
 have t0:(c.toList==([102,97,109,105,108,121]:List UInt8))=false:=by rw[show([102,97,109,105,108,121]:List UInt8)=((⟨#[102,97,109,105,108,121]⟩:aB):aB).toList from dS,dR,bG c0]
 by_cases c1:c=(⟨#[99,111,118,101,114]⟩:aB)
 .have z:nQ c g l=some (vV g l):=by unfold nQ;rw[if_neg c0,if_pos c1]
  have t1:(c.toList==([99,111,118,101,114]:List UInt8))=true:=by rw[show([99,111,118,101,114]:List UInt8)=((⟨#[99,111,118,101,114]⟩:aB):aB).toList from dS,dR,bH c1]
  rw[z];clear z c0 c1;have hC:=ae0 _ g _ l D hl J;exact ZX
 have t1:(c.toList==([99,111,118,101,114]:List UInt8))=false:=by rw[show([99,111,118,101,114]:List UInt8)=((⟨#[99,111,118,101,114]⟩:aB):aB).toList from dS,dR,bG c1]
 by_cases c2:c=(⟨#[111,114,100,101,114]⟩:aB)
 .have z:nQ c g l=some (yQ g l):=by unfold nQ;rw[if_neg c0,if_neg c1,if_pos c2]
  have t2:(c.toList==([111,114,100,101,114]:List UInt8))=true:=by rw[show([111,114,100,101,114]:List UInt8)=((⟨#[111,114,100,101,114]⟩:aB):aB).toList from dS,dR,bH c2]
  rw[z];clear z c0 c1 c2;have hC:=alK _ g _ l D hl J;exact ZX
 have t2:(c.toList==([111,114,100,101,114]:List UInt8))=false:=by rw[show([111,114,100,101,114]:List UInt8)=((⟨#[111,114,100,101,114]⟩:aB):aB).toList from dS,dR,bG c2]
 by_cases c3:c=(⟨#[104,97,108,108]⟩:aB)
 .have z:nQ c g l=some (chT g l):=by unfold nQ;rw[if_neg c0,if_neg c1,if_neg c2,if_pos c3]
  have t3:(c.toList==([104,97,108,108]:List UInt8))=true:=by rw[show([104,97,108,108]:List UInt8)=((⟨#[104,97,108,108]⟩:aB):aB).toList from dS,dR,bH c3]
  rw[z];clear z c0 c1 c2 c3;have hC:=XU _ g _ l D hl;have K:=aT hC;clear hC;go_enter func93,ntmps93;go_wp2_with fail;refine K.out.mono ?_;rintro e w1 ⟨p0,i0,q0,p1,i1,q1,p2,i2,q2,p3,i3,q3,rfl,O,R,S,Y,_,M⟩;have I:=F.after M F.size;go_wp2_with fail;refine aV (sW w1 (GV g l) 0 _ [] O.ints 0 _ [] R.ints (GU g l) _ (GT g l) S.ints (vI g l) 0 _ (wJ g l) Y.ints (rF g l) (N.keep I)) ?_;intro w2 b2;go_wp2;go_ret2;exact⟨rfl,I.after b2 I.size⟩
 have t3:(c.toList==([104,97,108,108]:List UInt8))=false:=by rw[show([104,97,108,108]:List UInt8)=((⟨#[104,97,108,108]⟩:aB):aB).toList from dS,dR,bG c3]
 by_cases c4:c=(⟨#[115,117,110,102,108,111,119,101,114]⟩:aB)
 .have z:nQ c g l=some (csT g l):=by unfold nQ;rw[if_neg c0,if_neg c1,if_neg c2,if_neg c3,if_pos c4]
  have t4:(c.toList==([115,117,110,102,108,111,119,101,114]:List UInt8))=true:=by rw[show([115,117,110,102,108,111,119,101,114]:List UInt8)=((⟨#[115,117,110,102,108,111,119,101,114]⟩:aB):aB).toList from dS,dR,bH c4]
  rw[z];clear z c0 c1 c2 c3 c4;have hC:=abV _ g _ l D hl 3 ⟨aA,aA⟩;have K:=aT hC;clear hC;go_enter func93,ntmps93;go_wp2_with fail;refine K.out.mono ?_;rintro e w1 ⟨p0,i0,q0,p1,i1,q1,p2,i2,q2,p3,i3,q3,rfl,O,R,S,Y,_,M⟩;have I:=F.after M F.size;go_wp2_with fail;refine aV (sW w1 (FP g l 3) 0 _ [] O.ints 0 _ [] R.ints (FO g l 3) _ (FN g l 3) S.ints (FQ g l 3) 0 _ (kK g l 3) Y.ints (kG g l 3) (N.keep I)) ?_;intro w2 b2;go_wp2;go_ret2;exact⟨rfl,I.after b2 I.size⟩
 have t4:(c.toList==([115,117,110,102,108,111,119,101,114]:List UInt8))=false:=by rw[show([115,117,110,102,108,111,119,101,114]:List UInt8)=((⟨#[115,117,110,102,108,111,119,101,114]⟩:aB):aB).toList from dS,dR,bG c4]
 have z:nQ c g l=none:=by unfold nQ;rw[if_neg c0,if_neg c1,if_neg c2,if_neg c3,if_neg c4]
 rw[z];clear z c0 c1 c2 c3 c4;go_enter func93,ntmps93;go_wp2;go_ret2;exact⟨rfl,F⟩
theorem CD{P:Program}{f:FuncId}{args:Array Value}{w:World}{R:Ending->World->Prop}(h:Calls P f args w R):∃e w',R e w':=by
 obtain⟨e,w',_,z,_⟩:=h [];exact⟨e,w',z⟩
theorem I4(h:∀x∈l,fM x)(hl:l.length<=1000):Ints (w.alloc (.cells (l.map (Value.int .i64)).toArray 3)) (aD (some ⟨w,0,none⟩) l l.length) l:=by
 have K:=bK.new w 3 (l.map (Value.int .i64)).toArray;refine⟨_,_,rfl,aU,by unfold maxLen;omega,h,.inr ⟨w.heap.size,0,rfl,K.lt,fun k hk=>?_⟩⟩;rw[K.cell];simp[hk]
theorem OW{n:Int}{l:aI}(h:cS n l=true):(∀x∈l,fM x)/\l.length<=1000:=by
 obtain⟨N,_,_,_,z,hb⟩:=eJ h;refine⟨fun x D=>?_,aA⟩;obtain⟨k,hk,rfl⟩:=List.mem_iff_getElem.1 D;have:=hb k hk;exact⟨aA,aA⟩
theorem anI{g:Int}{l:aI}(h:cO g l=true):(∀x∈l,fM x)/\l.length<=1000:=by
 have h1:=kZ h;obtain⟨_,_,hb⟩:=sZ h;refine⟨fun x z=>?_,aA⟩;obtain⟨k,hk,rfl⟩:=List.mem_iff_getElem.1 z;have:=hb k hk;exact⟨aA,aA⟩
theorem afT(w:World){n:Int}{l:aI}(h:cS n l=true):∀x∈iN n l,fM x:=by
 obtain⟨h1,h2⟩:=OW h;obtain⟨e,w',ad,i,c,_,o,_⟩:=CD (VD _ n _ l (I4 w l h1 h2) aA);exact o.ints.inR
theorem ao6(w:World){n:Int}{l:aI}(h:cS n l=true):∀x∈kR n l,fM x:=by
 obtain⟨h1,h2⟩:=OW h;obtain⟨e,w',ad,i,c,_,o,_⟩:=CD (ad8 _ n _ l (I4 w l h1 h2) aA);exact o.ints.inR
theorem asU(w:World){n:Int}{l:aI}(h:cS n l=true):∀x∈sG n l,fM x:=by
 obtain⟨h1,h2⟩:=OW h;obtain⟨e,w',ad,i,c,_,o,_⟩:=CD (KQ _ n _ l (I4 w l h1 h2) aA);exact o.ints.inR
theorem af7(w:World){g:Int}{l:aI}(h:cO g l=true):∀x∈gM g l,fM x:=by
 obtain⟨h1,h2⟩:=anI h;obtain⟨e,w',ad,i,c,_,o,_⟩:=CD (LZ _ g _ l (I4 w l h1 h2) aA);exact o.ints.inR
theorem vE:ByteArray.empty.size=0:=rfl
theorem anS(w:World)(n:Int)(l:aI):(sL n l).size<=200000:=by
 by_cases h:cS n l=true
 .have:=QH n l (afT w h) (ao6 w h);omega
 .unfold sL;rw[if_neg h,vE];omega
theorem asB(w:World)(n:Int)(l:aI):(BS n l).size<=200000:=by
 by_cases h:cS n l=true
 .have:=PQ h (asU w h);rw[DT h];omega
 .rw[UH (by simpa using h),vE];omega
theorem aq7:(zR n l).size<=200000:=by
 by_cases h:eX n l=true
 .have:=Z3 n l;rw[JB h];omega
 .rw[TL (by simpa using h),vE];omega
theorem arK(m:Int)(k:aI):(BR n l m k).size<=200000:=by
 by_cases h:fP n l m k=true
 .have:=PC n l m k;rw[DQ h];omega
 .rw[TR (by simpa using h),vE];omega
theorem aqV(g:Int)(l:aI):(BN g l).size<=200000:=by
 by_cases h:cO g l=true
 .have:=YS g l;rw[IK h];omega
 .rw[SW (by simpa using h),vE];omega
theorem aq9(g:Int)(l:aI):(yQ g l).size<=200000:=by
 by_cases h:cO g l=true
 .have:=Z8 g l;rw[JF h];omega
 .rw[TN (by simpa using h),vE];omega
theorem am4(w:World)(g:Int)(l:aI):(vV g l).size<=200000:=by
 by_cases h:cO g l=true
 .have:=UP g l (fun _=>af7 w h);rw[D4 h];omega
 .rw[OQ (by simpa using h),vE];omega
theorem adY(t:aB)(h:t.size<=200000):(yR t).size<=200000:=by
 unfold yR
 split
 .show 2<=200000;omega
 .exact h
theorem yK(ok:Bool)(k J:Int)(z:aI)(K:Int)(D:aI)(M:Int)(F:aI)(q N:Int)(I:aI):(JG ok (kY k J z K D M F q N I)).size<=200000:=by
 unfold JG
 split
 .have O:=KJ k J z K D M F q N I;have h:=CL eQ 10000 _ O.1;have e:eQ.size=1:=rfl;unfold kY
  split
  .rw[vE];omega
  .have h2:=O.2;rw[e]at h
   generalize (pX k J z K D M F q N I).length=m at h h2
   omega
 .show 2<=200000;omega
theorem asC(w:World)(c:aB)(n:Int)(l:aI):((nZ c n l).getD mT).size<=200000:=by
 unfold nZ
 split
 .exact anS w n l
 split
 .exact asB w n l
 split
 .exact adY _ (aq7 n l)
 split
 .exact yK _ _ _ _ _ _ _ _ _ _ _
 split
 .exact yK _ _ _ _ _ _ _ _ _ _ _
 .show 4<=200000;omega
theorem asE(c:aB)(n:Int)(l:aI)(m:Int)(k:aI):((vB c n l m k).getD mT).size<=200000:=by
 unfold vB
 split
 .exact adY _ (arK n l m k)
 split
 .exact yK _ _ _ _ _ _ _ _ _ _ _
 .show 4<=200000;omega
theorem asD(w:World)(c:aB)(g:Int)(l:aI):((nQ c g l).getD mT).size<=200000:=by
 unfold nQ
 split
 .exact aqV g l
 split
 .exact am4 w g l
 split
 .exact aq9 g l
 split
 .exact yK _ _ _ _ _ _ _ _ _ _ _
 split
 .exact yK _ _ _ _ _ _ _ _ _ _ _
 .show 4<=200000;omega
theorem UE:mT.size<=200000:=bZ
theorem agX(w:World)(s:aB):(sU s).size<=200000:=by
 unfold sU zE
 split
 .split
  .exact asC w _ _ _
  .exact UE
 split
 .cases h:SC (dK 32 s) with
  |none=>
   rw[Option.none_or];unfold XE
   split
   .exact asD w _ _ _
   .exact UE
  |some x=>
   rw[Option.some_or];unfold SC at h
   split at h
   .have:=asE ((dK 32 s).getD 0 aN) (sI ((dK 32 s).getD 1 aN)) (rW ((dK 32 s).getD 1 aN)) (sI ((dK 32 s).getD 2 aN)) (rW ((dK 32 s).getD 2 aN));rw[h]at this;exact this
   .cases h
 .exact UE
theorem ap5{s:aB}(h:(dK 32 s).length=2):sU s=if mC ((dK 32 s).getD 1 aN) then (nZ ((dK 32 s).getD 0 aN) (sI ((dK 32 s).getD 1 aN)) (rW ((dK 32 s).getD 1 aN))).getD mT else mT:=by
 unfold sU zE;rw[if_pos h]
 split<;>rfl
theorem agY{s:aB}(h2:(dK 32 s).length≠2)(h3:(dK 32 s).length≠3):sU s=mT:=by
 unfold sU zE;rw[if_neg h2,if_neg h3]
 rfl
theorem amQ{s:aB}(h:(dK 32 s).length=3)(hc:(dK 32 s).getD 0 aN=(⟨#[112,97,105,114]⟩:aB)\/(dK 32 s).getD 0 aN=(⟨#[99,111,109,109,111,110]⟩:aB)):
  sU s=if mC ((dK 32 s).getD 1 aN)&&mC ((dK 32 s).getD 2 aN) then (vB ((dK 32 s).getD 0 aN) (sI ((dK 32 s).getD 1 aN)) (rW ((dK 32 s).getD 1 aN)) (sI ((dK 32 s).getD 2 aN)) (rW ((dK 32 s).getD 2 aN))).getD mT else mT:=by
 have hm:XE (dK 32 s)=none:=by
  unfold XE
  split
  .unfold nQ;rcases hc with e|e
   .rw[e,if_neg bZ,if_neg bZ,if_neg bZ,if_neg bZ,if_neg bZ]
   .rw[e,if_neg bZ,if_neg bZ,if_neg bZ,if_neg bZ,if_neg bZ]
  .rfl
 unfold sU zE;rw[if_neg aA,if_pos h,hm,Option.or_none];unfold SC
 split<;>rfl
theorem ap4{s:aB}(h:(dK 32 s).length=3)(hc:(dK 32 s).getD 0 aN≠(⟨#[112,97,105,114]⟩:aB))(hd:(dK 32 s).getD 0 aN≠(⟨#[99,111,109,109,111,110]⟩:aB)):
  sU s=if pB ((dK 32 s).getD 1 aN)&&qX (pV ((dK 32 s).getD 1 aN)) ((dK 32 s).getD 2 aN) then (nQ ((dK 32 s).getD 0 aN) (BH (pV ((dK 32 s).getD 1 aN)) ((dK 32 s).getD 2 aN)) (zI (pV ((dK 32 s).getD 1 aN)) ((dK 32 s).getD 2 aN))).getD mT else mT:=by
 have hm:SC (dK 32 s)=none:=by
  unfold SC
  split
  .unfold vB;rw[if_neg hc,if_neg hd]
  .rfl
 unfold sU zE;rw[if_neg aA,if_pos h,hm,Option.none_or];unfold XE
 split<;>rfl
theorem akN{p:Prop}(h:p:=by
  exact bW (v:=aS #[aM #[aK,()],aG false]) (by simp[results,results88,go_sem,GF]) rfl ⟨none,0,0,by rw[K.out.1,K.out.2.1],by rw[K.out.2.2];exact t.2.1,t.2.2⟩):p:=h
theorem LX(s:aB)(w:World)(hs:s.size<=2000000)(hp:lA w)(hm:uP w):
  Calls prog 88 #[aR s] w fun e w'=>∃ad i c,e=aQ (aS #[aM #[(sI s),aD ad i c],aG (mC s)])/\bB 3 w w' (aD ad i c) (rW s)/\Below w w w':=by
 obtain⟨W1,N⟩:=aW (w.alloc (.cells #[aK,()] 27));have K0:bK W1 w 27 #[aK,()]:=jV N;have B0:Below w w W1:=jP N;have b9:W1.heap.size=w.heap.size+1:=by rw[N];simp
 by_cases i8:s.size<=200
 rotate_left
 .have z:=adM i8;have K:=aT (And.intro z (IJ z));have n2:(200:Int)<(s.size:Int):=aA;have G:=K0.cell;have F:=K0.frozen;clear z;go_enter func88,ntmps88;go_upto_region 1 with fail;rw[<-N];clear N;go_wp2;refine cT ?_;intro Wf J;have t:=kS (w:=w) (E:=27) (m:=0) (b:=aD none 0 0) K0 (bB.nil 3 (W1.heap.size) W1) aU aA B0 J;have GF:=t.1.cell;exact akN
 have n2:¬(200:Int)<(s.size:Int):=aA;obtain⟨V,hV⟩:=aW (W1.alloc (.cells #[aK,()] 27));have b3:bK V w 27 #[aK,()]:=by rw[hV];exact K0.alloc _
 have f5:bK V (w+1) 27 #[aK,()]:=by rw[hV,<-b9];exact bK.new _ _ _
 have BV:Below w w V:=by rw[hV];exact B0.alloc aA _
 have c5:V.heap.size=w.heap.size+2:=by rw[hV];simp;omega
 have HZ:=aT (And.intro b9 c5);have l8:w.heap.size+1<=W1.heap.size:=aA;have a1:=ahU (s:=s);have a6:=YL i8;have a9:=YM (s:=s);have g9:=xP 44 s;have O:=pJ 44 s;have b0:=H9 44 s V (hm.keep (by rw[hV,N];exact wU _ _ _)) aA;obtain⟨D,h5⟩:=aW (dK 44 s);rw[<-h5]at a1 a6 a9 g9 O b0;rw[c5]at b0;have f7:=aT a1;have f8:=aT a6;have g2:=aT a9;have c8:=aT O;have g0:=aT b0;clear a1 a6 a9 O b0 h5;go_enter func88,ntmps88;go_upto_region 1 with fail;rw[<-N];clear N;go_upto_region 4 with fail;rw[<-hV];clear hV b9 c5;go_wp2_with fail;refine aV g0.out ?_;rintro w1 rfl;have e5:bK (V.alloc (.cells (D.map Value.string).toArray 9)) (w.heap.size+2) 9 (D.map Value.string).toArray:=by rw[<-HZ.out.2];exact bK.new _ _ _
 have c9:=b3.alloc (.cells (D.map Value.string).toArray 9);have e4:=f5.alloc (.cells (D.map Value.string).toArray 9);have BU:=BV.alloc BV.size (.cells (D.map Value.string).toArray 9);have o0:=bB.nil 3 (w.heap.size+3) (V.alloc (.cells (D.map Value.string).toArray 9));have zU:w.heap.size+3<=(V.alloc (.cells (D.map Value.string).toArray 9)).heap.size:=by have:=HZ.out.2;simp;omega
 obtain⟨U,hU⟩:=aW (V.alloc (.cells (D.map Value.string).toArray 9));rw[<-hU]at e5 c9 e4 BU o0 zU |-;clear hU g0 b3 f5 BV K0 B0;go_wp2_with fail;go_loopw [16] (fun iv wr=>∃(k:Nat) (ad:Option Addr) (i c:Nat),k<=D/\iv=aO k/\(D.take k).all pB=true/\Below w w wr/\w.heap.size+3<=wr.heap.size/\bK wr w 27 #[aK,()]/\bK wr (w+1) 27 #[aK,aD ad i c]/\bK wr (w+2) 9 (D.map Value.string).toArray/\bB 3 (w.heap.size+3) wr (aD ad i c) ((D.take k).map pN)) (fun iv _=>D.length-(intOf iv).toNat)
 .exact⟨0,none,0,0,aZ _,rfl,rfl,BU,zU,c9,e4,e5,o0⟩
 obtain⟨k,ad,i,c,hk,rfl,M,Bw,zw,d0,b4,g5,ow⟩:=hrel;have b1:=aT M;clear M BU zU c9 e4 e5 o0;by_cases hlt:k<D
 .have h0:(k:Int)<(D.length:Int):=aA;have Y:=IG g5 k hlt;have h9:=fun W=>mE (w.heap.size+2) D.length D.length k hlt W;have k0:=c8.out _ (aX hlt);have R:(D.take (k+1)).all pB=pB D[k]:=by rw[cH hlt,List.all_append,b1.out];simp
  have a7:=uK pB D k hlt;have a8:=ad9 D k hlt;obtain⟨x,hx⟩:=aW (D[k]);rw[<-hx]at Y k0 R a7 a8;have S:=JJ x wr aA (hp.keep Bw);obtain⟨y,hy⟩:=aW (pN x);rw[<-hy]at a8;have h6:pB x=true->fM y/\pV x=y:=fun h=>by have h3:=af3 h;rw[<-hy]at h3;exact⟨⟨aA,aA⟩,by rw[hy];exact DP h⟩
  have e6:((D.take k).map pN).length<=2000001:=by rw[List.length_map,List.length_take];omega
  obtain⟨l,hl⟩:=aW ((D.take k).map pN);rw[<-hl]at ow a8 e6;have j4:=aT R;have f9:=aT a7;have k8:=aT a8;clear R a7 a8 hx hy hl
  cases z:pB x with
  |false=>rw[z,wE z]at S;have e7:=f7.out (f9.out z);have K:=aT (And.intro e7 (IJ e7));have f4:=aT S;clear S z e7 h6;go_wp2_with fail;refine aV f4.out ?_;intro w2 b2;have I:=d0.keep b2;have B2:=Bw.after b2 Bw.size;have G:=I.cell;have F:=I.frozen;clear Y h9;go_wp2;refine cT ?_;intro Wf J;have t:=kS (w:=w) (E:=27) (m:=0) (b:=aD none 0 0) I (bB.nil 3 (w2.heap.size) w2) aU I.lt B2 J;have GF:=t.1.cell;clear J G F;exact akN
  |true=>obtain⟨h6,l5⟩:=h6 z;rw[z,l5]at S;have R:=j4.out;rw[z]at R;have i6:=aT R;have f4:=aT S;clear S z R l5;exact ai1
 .have h0:¬(k:Int)<(D.length:Int):=aA;have g8:k=D.length:=aA;have M:=b1.out;rw[g8,List.take_length]at M ow;have b6:=f8.out M;have b8:=g2.out;have b7:=IJ (s:=s);have e6:(D.map pN).length<=201:=by rw[List.length_map];omega
  obtain⟨l,hl⟩:=aW (D.map pN);have l4:D.length=l.length:=by rw[hl,List.length_map]
  rw[<-hl,l4]at b6 b8;rw[<-hl]at ow e6;have j9:=ow.ints.capLe.1;subst j9;have n3:=as4 l.length aA;have h8:=fun W=>acX (l.length:Int) W aA aA;have l3:(Lib.bitLen ((l.length:Int)).toNat:Int)=BC l.length+1:=by unfold BC;rw[cA];omega
  simp only[l3]at h8;obtain⟨g,hg⟩:=aW (BC l.length);rw[<-hg]at b6 b8 n3;simp only[<-hg]at h8;have j5:=aT b8;have j3:=aT b7;have m3:=aT b6;have l9:=aT h8;have G1:=b4.cell;have F1:=b4.frozen;clear g8 M b6 b8 b7 hl l4 h8 l3 hg;go_wp2_with fail;refine aV (l9.out wr) ?_;rintro w5 rfl;go_wp2_with fail;refine cZ ?_;intro V5 g6;have m7:bK V5 (w+1) 27 #[g,aD ad l c]:=by rw[g6];have:=b4.set 0 (aO g);simpa using this
  have m5:bK V5 w 27 #[aK,()]:=by rw[g6];exact d0.far (by show w.heap.size≠w.heap.size+1;omega) _
  have o5:bB 3 (w.heap.size+3) V5 (aD ad l c) l:=by rw[g6];exact ow.setBelow (by show w.heap.size+1<w.heap.size+3;omega) _
  have B5:Below w w V5:=by rw[g6];exact bX Bw (by show w.heap.size<=w.heap.size+1;omega) _
  clear g6 G1 F1;refine aV (fO g l _ V5 o5.ints) ?_;intro w2 b2;rw[<-m3.out];have I:=m5.keep b2;have e0:=m7.keep b2;have o2:=o5.keep b2;have B2:=B5.after b2 B5.size;have G0:=I.cell;have F0:=I.frozen;have G1:=e0.cell
  cases z:mC s with
  |false=>have K:=aT (j3.out z);have Z:=aT z;clear z;go_wp2;refine cT ?_;intro Wf J;have t:=kS (w:=w) (E:=27) (m:=0) (b:=aD none 0 0) I (bB.nil 3 (w2.heap.size) w2) aU I.lt B2 J;have GF:=t.1.cell;clear J G0 F0 G1;exact bW (v:=aS #[aM #[aK,()],aG false]) (by simp[results,results88,go_sem,GF]) rfl ⟨none,0,0,by rw[K.out.1,Z.out],by rw[K.out.2];exact t.2.1,t.2.2⟩
  |true=>have K:=aT (j5.out z);have Z:=aT z;clear z;go_wp2;refine cT ?_;intro Wf J;have t:=kS (w:=w) (E:=27) (m:=g) (b:=aD ad l c) I o2 aU aA B2 J;have GF:=t.1.cell;clear J G0 F0 G1;exact bW (v:=aS #[aM #[g,aD ad l c],aG true]) (by simp[results,results88,go_sem,GF]) rfl ⟨_,_,_,by rw[K.out.1,Z.out],by rw[K.out.2];exact t.2.1,t.2.2⟩
theorem CR(s:aB):(rW s).length<=1048576:=by
 cases h:mC s with
 |true=>obtain⟨_,_,_,_,z,_⟩:=eJ (asX h);omega
 |false=>rw[(IJ h).2];simp
theorem ad1(s:aB):(zI n s).length<=1048576:=by
 cases h:qX n s with
 |true=>
  have e:BH n s=n:=by unfold BH;rw[if_pos h]
  have:=kZ (atQ h);omega
 |false=>unfold zI;rw[h];simp
theorem ap3{s:aB}{p0 p1:aB}(h:dK 32 s=[p0,p1]):zE s=if mC p1 then nZ p0 (sI p1) (rW p1) else none:=by
 unfold zE;rw[h]
 rfl
theorem agW{s:aB}{p0 p1 p2:aB}(h:dK 32 s=[p0,p1,p2]):
  zE s=(if mC p1&&mC p2 then vB p0 (sI p1) (rW p1) (sI p2) (rW p2) else none).or (if pB p1&&qX (pV p1) p2 then nQ p0 (BH (pV p1) p2) (zI (pV p1) p2) else none):=by
 unfold zE;rw[h]
 rfl
theorem amP{s:aB}(h2:(dK 32 s).length≠2)(h3:(dK 32 s).length≠3):zE s=none:=by
 unfold zE;rw[if_neg h2,if_neg h3]
theorem ZR{α:Type}(l:List α)(h:l.length=2):∃a b,l=[a,b]:=by
 match l,h with
 |[a,b],_=>exact⟨a,b,rfl⟩
theorem QX{α:Type}(l:List α)(h:l.length=3):∃a b c,l=[a,b,c]:=by
 match l,h with
 |[a,b,c],_=>exact⟨a,b,c,rfl⟩
theorem apS{p:Prop}(h:p:=by
  clear a8;go_wp2_with fail;refine cZ ?_;intro x hx;obtain rfl:x=V:=by rw[hx,F]
  clear hx F;refine aV (HQ.out x (hp.keep Bx)) ?_;intro y1 c1;have Ky:=N.keep c1;have By:=Bx.after c1 Bx.size;clear Gx N Bx;have Gy:=Ky.cell;go_wp2_with fail;refine(HR.out y1 (hp.keep By) (hm.keep By)).mono ?_;rintro e M ⟨ad,i,c,rfl,o,c2⟩;have Kz:=Ky.keep c2;have O:=By.after c2 By.size;have zz:=O.size;clear Gy Ky By
  cases Q with
  |false=>have D:=HA.out;go_wp2;go_ret2;exact⟨by rw[D];rfl,O.alloc zz _⟩
  |true=>
   cases R with
   |false=>have D:=HA.out;go_wp2;go_ret2;exact⟨by rw[D];rfl,O.alloc zz _⟩
   |true=>
    obtain⟨V,F⟩:=aW (M.alloc (.cells #[g,aD ad i c] 29));have KV:bK V w 9 #[aR p0,aR p1,aR p2]:=by rw[F];exact Kz.alloc _
    have KF:bK V M 29 #[g,aD ad i c]:=jV F;have oV:Ints V (aD ad i c) q:=by rw[F];exact o.ints.alloc _
    have BV:Below w w V:=by rw[F];exact O.alloc zz _
    have G0:=KV.cell 0;have F0:=KF.cell 0;have F1:=KF.cell 1;have e0:∀y:Ext V,y.w.cell? ⟨w,0,none⟩=some (aR p0):=fun y=>y.cell G0;have f0:∀y:Ext V,y.w.cell? ⟨M,0,none⟩=some (aO g):=fun y=>y.cell F0;have f1:∀y:Ext V,y.w.cell? ⟨M,1,none⟩=some (aD ad i c):=fun y=>y.cell F1;have HX:=aT (fun y:Ext V=>UI y.w p0 g _ q (y.ints oV) HL.out ((hp.keep BV).keep y.b));have D:=HA.out;rw[if_pos (show(true&&true)=true from rfl)]at D;clear G0 F0 F1 KV KF oV Kz O o c2;go_upto_region 17 with fail;rw[<-F];clear F;refine cW _ bM bM ?_
    repeat(first|go_big_quiet_skip|(go_big_quiet_want;go_big_quiet_op;first|go_big_quiet_on|(apply Exists.intro;refine⟨fun _=>?_,?_⟩;(go_at_call 93;exact dI (HX.out _));go_big_quiet_on)))
    refine wpQuiet_nil ?_;rintro w5 ⟨⟨w5,b5⟩,rfl⟩
    try dsimp only
    go_wp2;go_ret2;exact⟨by rw[D];simp,BV.after b5 BV.size⟩):p:=h
theorem XG(s:aB)(w:World)(hs:s.size<=2000)(hp:lA w)(hm:uP w):
  aH 35 #[aR s] w (aS #[aR ((zE s).getD aN),aG (zE s).isSome]):=by
 have a1:=H9 32 s w hm aA;have I:=pJ 32 s;have a2:=fun p0 p1=>ap3 (s:=s) (p0:=p0) (p1:=p1);have a3:=fun p0 p1 p2=>agW (s:=s) (p0:=p0) (p1:=p1) (p2:=p2);have an:=amP (s:=s);obtain⟨A,hA⟩:=aW (zE s);obtain⟨ps,g7⟩:=aW (dK 32 s);rw[<-hA]at an |-;simp only[<-hA]at a2 a3;rw[<-g7]at a1 I an;simp only[<-g7]at a2 a3;clear g7 hA;by_cases h2:ps.length=2
 .obtain⟨p0,p1,rfl⟩:=ZR ps h2;have D:=a2 p0 p1 rfl;have s1:=I p1 bF;have Y:=fun W (h1:lA W) (h2:uP W)=>LX p1 W aA h1 h2;have hL:=CR p1;obtain⟨n1,Z⟩:=aW (sI p1);obtain⟨l1,K⟩:=aW (rW p1);obtain⟨F1,S⟩:=aW (mC p1);rw[<-Z,<-K,<-S]at D;simp only[<-Z,<-K,<-S]at Y;rw[<-K]at hL;have f4:=aT Y;have HA:=aT D;have HL:=aT hL;have b3:=aT a1;have h9:=fun W=>mE w.heap.size 2 2 0 aA W;have i6:=fun W=>mE w.heap.size 2 2 1 aA W;clear Y D hL a2 a3 an I a1 Z K S h2;go_enter func35,ntmps35;go_wp2_with fail;refine aV b3.out ?_;intro w1 J;have N:bK w1 w 9 #[aR p0,aR p1]:=jV J;have Bx:Below w w w1:=jP J;clear J;have Gx:=N.cell;go_wp2_with fail;refine(f4.out w1 (hp.keep Bx) (hm.keep Bx)).mono ?_;rintro e M ⟨ad,i,c,rfl,o,c2⟩;have Kz:=N.keep c2;have O:=Bx.after c2 Bx.size;have zz:=O.size;clear Gx N Bx
  cases F1 with
  |false=>have D:=HA.out;go_wp2;go_ret2;exact⟨by rw[D];rfl,O.alloc zz _⟩
  |true=>
   obtain⟨V,F⟩:=aW (M.alloc (.cells #[n1,aD ad i c] 27));have KV:bK V w 9 #[aR p0,aR p1]:=by rw[F];exact Kz.alloc _
   have KF:bK V M 27 #[n1,aD ad i c]:=jV F;have oV:Ints V (aD ad i c) l1:=by rw[F];exact o.ints.alloc _
   have BV:Below w w V:=by rw[F];exact O.alloc zz _
   have G0:=KV.cell 0;have F0:=KF.cell 0;have F1:=KF.cell 1;have e0:∀y:Ext V,y.w.cell? ⟨w,0,none⟩=some (aR p0):=fun y=>y.cell G0;have f0:∀y:Ext V,y.w.cell? ⟨M,0,none⟩=some (aO n1):=fun y=>y.cell F0;have f1:∀y:Ext V,y.w.cell? ⟨M,1,none⟩=some (aD ad i c):=fun y=>y.cell F1;have HX:=aT (fun y:Ext V=>ag0 y.w p0 n1 _ l1 (y.ints oV) HL.out ((hp.keep BV).keep y.b));have D:=HA.out;rw[if_pos rfl]at D;clear G0 F0 F1 KV KF oV Kz O o c2;go_upto_region 6 with fail;rw[<-F];clear F;refine cW _ bM bM ?_
   repeat(first|go_big_quiet_skip|(go_big_quiet_want;go_big_quiet_op;first|go_big_quiet_on|(apply Exists.intro;refine⟨fun _=>?_,?_⟩;(go_at_call 89;exact dI (HX.out _));go_big_quiet_on)))
   refine wpQuiet_nil ?_;rintro w5 ⟨⟨w5,b5⟩,rfl⟩
   try dsimp only
   go_wp2;go_ret2;exact⟨by rw[D];rfl,BV.after b5 BV.size⟩
 by_cases h3:ps.length=3
 .obtain⟨p0,p1,p2,rfl⟩:=QX ps h3;have D:=a3 p0 p1 p2 rfl;have s1:=I p1 bF;have s2:=I p2 bF;have Y:=fun W (h1:lA W) (h2:uP W)=>LX p1 W aA h1 h2;have f9:=fun W (h1:lA W) (h2:uP W)=>LX p2 W aA h1 h2;have hQ:=fun W (h1:lA W)=>JJ p1 W aA h1;have hR:=fun W (h1:lA W) (h2:uP W)=>alS (pV p1) p2 W aA h1 h2;have f7:=CR p1;have f8:=CR p2;have hL:=ad1 (pV p1) p2;obtain⟨g,hg⟩:=aW (BH (pV p1) p2);obtain⟨q,hq⟩:=aW (zI (pV p1) p2);obtain⟨R,g4⟩:=aW (qX (pV p1) p2);rw[<-hg,<-hq,<-g4]at D;simp only[<-hg,<-hq,<-g4]at hR;rw[<-hq]at hL;clear hg hq g4;obtain⟨n1,Z⟩:=aW (sI p1);obtain⟨l1,K⟩:=aW (rW p1);obtain⟨F1,S⟩:=aW (mC p1);obtain⟨n2,g6⟩:=aW (sI p2);obtain⟨l2,c8⟩:=aW (rW p2);obtain⟨F2,f5⟩:=aW (mC p2);obtain⟨Q,g2⟩:=aW (pB p1);obtain⟨z,hz⟩:=aW (pV p1);rw[<-Z,<-K,<-S,<-g6,<-c8,<-f5,<-g2]at D;simp only[<-Z,<-K,<-S]at Y;simp only[<-g6,<-c8,<-f5]at f9;simp only[<-g2,<-hz]at hQ;simp only[<-hz]at hR;rw[<-K]at f7;rw[<-c8]at f8;have f4:=aT Y;have j9:=aT f9;have HQ:=aT hQ;have HR:=aT hR;have c6:=aT D;have HL:=aT hL;have j7:=aT f7;have j8:=aT f8;have b3:=aT a1;have h9:=fun W=>mE w.heap.size 3 3 0 aA W;have i6:=fun W=>mE w.heap.size 3 3 1 aA W;have l6:=fun W=>mE w.heap.size 3 3 2 aA W;clear Y f9 hQ hR D hL f7 f8 a2 a3 an I a1 Z K S g6 c8 f5 g2 hz h2 h3;go_enter func35,ntmps35;go_wp2_with fail;refine aV b3.out ?_;intro w1 J;have N:bK w1 w 9 #[aR p0,aR p1,aR p2]:=jV J;have Bx:Below w w w1:=jP J;clear J;have Gx:=N.cell;go_wp2_with fail;refine(f4.out w1 (hp.keep Bx) (hm.keep Bx)).mono ?_;rintro e y1 ⟨a7,i1,c1,rfl,o1,d1⟩;obtain⟨U,hU⟩:=aW (y1.alloc (.cells #[n1,aD a7 i1 c1] 27));have Ky:bK U w 9 #[aR p0,aR p1,aR p2]:=by rw[hU];exact(N.keep d1).alloc _
  have KA:bK U y1 27 #[n1,aD a7 i1 c1]:=jV hU;have oU:Ints U (aD a7 i1 c1) l1:=by rw[hU];exact o1.ints.alloc _
  have BU:Below w w U:=by rw[hU];exact(Bx.after d1 Bx.size).alloc (Bx.after d1 Bx.size).size _
  have K1:=N.keep d1;have G1:=K1.cell;have z1:=K1.lt;clear Gx N Bx o1 d1 K1;have Gx:=Ky.cell;go_wp2_with fail;refine cZ ?_;intro U' h8;obtain rfl:U'=U:=by rw[h8,hU]
  clear hU h8 G1 z1;refine(j9.out U' (hp.keep BU) (hm.keep BU)).mono ?_;rintro e M ⟨c7,i2,c2,rfl,o2,d2⟩;obtain⟨V,F⟩:=aW (M.alloc (.cells #[n2,aD c7 i2 c2] 27));have K2:=Ky.keep d2;have G2:=K2.cell;have z2:=K2.lt;clear K2;have N:bK V w 9 #[aR p0,aR p1,aR p2]:=by rw[F];exact(Ky.keep d2).alloc _
  have KA:bK V y1 27 #[n1,aD a7 i1 c1]:=by rw[F];exact(KA.keep d2).alloc _
  have KB:bK V M 27 #[n2,aD c7 i2 c2]:=jV F;have oA:Ints V (aD a7 i1 c1) l1:=by rw[F];exact(oU.keep d2).alloc _
  have oB:Ints V (aD c7 i2 c2) l2:=by rw[F];exact o2.ints.alloc _
  have Bx:Below w w V:=by rw[F];exact(BU.after d2 BU.size).alloc (BU.after d2 BU.size).size _
  clear Gx Ky oU BU o2 d2;by_cases a8:(F1&&F2)=true
  .have e0:∀y:Ext V,y.w.cell? ⟨w,0,none⟩=some (aR p0):=fun y=>y.cell (N.cell 0);have f0:∀y:Ext V,y.w.cell? ⟨y1,0,none⟩=some (aO n1):=fun y=>y.cell (KA.cell 0);have f1:∀y:Ext V,y.w.cell? ⟨y1,1,none⟩=some (aD a7 i1 c1):=fun y=>y.cell (KA.cell 1);have g0:∀y:Ext V,y.w.cell? ⟨M,0,none⟩=some (aO n2):=fun y=>y.cell (KB.cell 0);have g1:∀y:Ext V,y.w.cell? ⟨M,1,none⟩=some (aD c7 i2 c2):=fun y=>y.cell (KB.cell 1);have hX:=fun y:Ext V=>ag3 y.w p0 n1 _ l1 (y.ints oA) j7.out n2 _ l2 (y.ints oB) j8.out ((hp.keep Bx).keep y.b);have D:=c6.out;rw[if_pos a8]at D;obtain⟨X,g5⟩:=aW (vB p0 n1 l1 n2 l2);rw[<-g5]at D;simp only[<-g5]at hX;have HX:=aT hX;have f3:=aT D;rw[fB]at a8;obtain⟨rfl,rfl⟩:=a8;clear D hX g5 c6 KA KB oA oB;go_upto_region 11 with fail;rw[<-F];clear F;refine cW _ bM bM ?_
   repeat(first|go_big_quiet_skip|(go_big_quiet_want;go_big_quiet_op;first|go_big_quiet_on|(apply Exists.intro;refine⟨fun _=>?_,?_⟩;(go_at_call 90;exact dI (HX.out _));go_big_quiet_on)))
   refine wpQuiet_nil ?_;rintro x ⟨⟨x,b5⟩,rfl⟩
   try dsimp only
   have N:=(N.keep b5);have Bx:=Bx.after b5 Bx.size;clear e0 f0 f1 g0 g1 HX
   cases X with
   |some t=>have D:=f3.out;rw[Option.some_or]at D;go_wp2;go_ret2;exact⟨by rw[D];rfl,Bx⟩
   |none=>
    have D:=f3.out;rw[Option.none_or]at D;have HA:=aT D;clear D f3;have Gx:=N.cell;go_wp2_with fail;refine aV (HQ.out x (hp.keep Bx)) ?_;intro y1 c1;have Ky:=N.keep c1;have By:=Bx.after c1 Bx.size;clear Gx N Bx;have Gy:=Ky.cell;go_wp2_with fail;refine(HR.out y1 (hp.keep By) (hm.keep By)).mono ?_;rintro e M ⟨ad,i,c,rfl,o,c2⟩;have Kz:=Ky.keep c2;have O:=By.after c2 By.size;have zz:=O.size;clear Gy Ky By
    cases Q with
    |false=>have D:=HA.out;go_wp2;go_ret2;exact⟨by rw[D];rfl,O.alloc zz _⟩
    |true=>
     cases R with
     |false=>have D:=HA.out;go_wp2;go_ret2;exact⟨by rw[D];rfl,O.alloc zz _⟩
     |true=>
      obtain⟨V,F⟩:=aW (M.alloc (.cells #[g,aD ad i c] 29));have KV:bK V w 9 #[aR p0,aR p1,aR p2]:=by rw[F];exact Kz.alloc _
      have KF:bK V M 29 #[g,aD ad i c]:=jV F;have oV:Ints V (aD ad i c) q:=by rw[F];exact o.ints.alloc _
      have BV:Below w w V:=by rw[F];exact O.alloc zz _
      have G0:=KV.cell 0;have F0:=KF.cell 0;have F1:=KF.cell 1;have e0:∀y:Ext V,y.w.cell? ⟨w,0,none⟩=some (aR p0):=fun y=>y.cell G0;have f0:∀y:Ext V,y.w.cell? ⟨M,0,none⟩=some (aO g):=fun y=>y.cell F0;have f1:∀y:Ext V,y.w.cell? ⟨M,1,none⟩=some (aD ad i c):=fun y=>y.cell F1;have HX:=aT (fun y:Ext V=>UI y.w p0 g _ q (y.ints oV) HL.out ((hp.keep BV).keep y.b));have D:=HA.out;rw[if_pos (show(true&&true)=true from rfl)]at D;clear G0 F0 F1 KV KF oV Kz O o c2;go_upto_region 17 with fail;rw[<-F];clear F;refine cW _ bM bM ?_
      repeat(first|go_big_quiet_skip|(go_big_quiet_want;go_big_quiet_op;first|go_big_quiet_on|(apply Exists.intro;refine⟨fun _=>?_,?_⟩;(go_at_call 93;exact dI (HX.out _));go_big_quiet_on)))
      refine wpQuiet_nil ?_;rintro w5 ⟨⟨w5,b5⟩,rfl⟩
      try dsimp only
      go_wp2;go_ret2;exact⟨by rw[D];simp,BV.after b5 BV.size⟩
  .have D:=c6.out;rw[if_neg a8,Option.none_or]at D;have HA:=aT D;clear D c6 KA KB oA oB;have Gx:=N.cell
   cases F1 with
   |false=>exact apS
   |true=>
    cases F2 with
    |true=>exact absurd rfl a8
    |false=>exact apS
 .have D:=an h2 h3;have b3:=aT a1;have t2:((ps.length:Int)==2)=false:=by rw[dZ];omega
  have t3:((ps.length:Int)==3)=false:=by rw[dZ];omega
  clear a1 an a2 a3 I;go_enter func35,ntmps35;go_wp2_with fail;refine aV b3.out ?_;intro w1 J;have Bx:Below w w w1:=jP J;clear J;go_wp2;go_ret2;exact⟨by rw[D];rfl,Bx⟩
