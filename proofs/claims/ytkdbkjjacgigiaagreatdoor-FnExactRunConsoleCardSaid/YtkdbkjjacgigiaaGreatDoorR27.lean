/- Lemmas for CardRunConsole. No condition. -/
import Derived.Test.YtkdbkjjacgigiaaGreatDoorR17
import Derived.Test.YtkdbkjjacgigiaaGreatDoorR22
set_option maxRecDepth 100000
set_option maxHeartbeats 64000000
namespace Go.Proofs.YtkdbkjjacgigiaaGreatDoor
section
open Go.RowKit Go.G5 Go.Proofs.Tryz
def JZ(z:Nat)(v:Value)(l:List Int):Prop:=l≠[]->∀k,v.ownBlock=some k->k≠z
theorem wX{w w':World}{P:Nat->Prop}{v:Value}{l:aI}(h:Ints w v l)(F:GrownIn w w' P)(I:l≠[]->∀k,v.ownBlock=some k->¬P k):Ints w' v l:=by
 obtain⟨a,c,rfl,h1,h2,h3,h4⟩:=h;refine⟨a,c,rfl,h1,h2,h3,?_⟩;rcases h4 with h4|⟨b,D,rfl,hb,hc⟩
 .exact .inl h4
 .refine .inr ⟨b,D,rfl,dX hb F.size,fun k hk=>?_⟩;have e:=F.block b hb (I (by intro e;subst e;simp at hk) b rfl);have z:=hc k hk;unfold World.cell? at z |-;simp only at z |-;rw[e];exact z
theorem adS{w:World}{v:Value}{l:aI}(h:Ints w v l)(hl:l≠[]):∀k,v.ownBlock=some k->k<w.heap.size:=by
 obtain⟨a,c,rfl,h1,h2,h3,h4⟩:=h;intro k hk;rcases h4 with h4|⟨b,z,rfl,hb,_⟩
 .exact absurd h4 hl
 .have:b=k:=cI hk;omega
theorem QL{P:Program}{w:World}{a:Option Addr}{c:Nat}{l:aI}(h:Ints w (aD a l c) l)(T E:TypeId)(J:P.underlying T=some (.slice E))(K:IntElem P E)(k:Nat)(hk:k<=l):
  ∃D F,(∀(N:IntKind) (w':World),(Instr.slice T (aD a l c) (some (.int N (k:Int))) none none).run P w'=.ok (.slice D (l.drop k).length F) w')/\Ints w (.slice D (l.drop k).length F) (l.drop k) /\
   ∀q,(Value.slice D (l.drop k).length F).ownBlock=some q->(Value.slice a l.length c).ownBlock=some q:=by
 obtain⟨i,M,_,h1,_⟩:=K.get;have I:P.elem T=E:=by simp[Program.elem,J]
 obtain⟨hl,hcl,hcm⟩:=h.capLe;obtain⟨D,F,e1,e2⟩:=Ints.from h T E J K k hk
 refine⟨D,F,e1,e2,?_⟩;have e3:=e1 .i64 default;rw[run_slice_l default T a l.length c (by rw[I];exact J) .i64 k aA aA]at e3;simp[sizeOf,typeInfo,I,M,h1,Result.andThen,sliced,List.length_drop]at e3;obtain⟨rfl,_⟩:=e3;intro q z
 cases a with
 |none=>simp[Value.ownBlock]at z
 |some ad=>
  split at z
  .simpa[Value.ownBlock]using z
  .simp only[Option.map_some,Value.ownBlock,Addr.add]at z |-
   split at z
   .exact z
   .exact z
theorem EN(N:Nat):∀(r:aI) (u:Int) (c b:aI),c.length+r.length<=N->b.length<=N->(mR r u c b).length<=N
 |[],_,_,_,_,h=>h
 |s::r,u,c,b,h1,h2=>by
  rw[jZ]at h1;rw[mR]
  split
  .refine EN N r u c _ aA (EN N r (gO u s) (c++[s]) _ bO ?_);unfold dT
   split
   .simp;omega
   .exact h2
  .exact EN N r u c b aA h2
def PB(z:Nat)(b:List Int)(w:World)(e:Ending)(w':World):Prop:=
 e=.returned (.tuple #[])/\∃v,bK w' z 180 #[v]/\Ints w' v b/\JZ z v b/\GrownIn w w' (fun k=>k=z)
theorem ajZ{p:Prop}(h:p:=by
  have hI:=(oc.setFar ⟨J,0,none⟩ (fun e=>by have:=(oc.lt J e).1;omega) (aD pc F qc)).ints;exact⟨pc,qc,by rw[O.out];exact KF,by rw[O.out];exact hI,by rw[O.out];exact k3,(GrownIn.of_below bc).trans (GrownIn.of_row gF (fun k hk=>(cI hk).symm))⟩):p:=h
theorem akZ{p:Prop}(h:p:=by
  have o0:=aT h8;clear b4 h8 j9;go_wp2;exact bodyPost_end (v:=aS #[]) (results_none rfl _ _ _) rfl ⟨rfl,_,K2,by rw[<-o0.out];exact hy,by rw[<-o0.out];exact e0,g2⟩):p:=h
theorem ak1{p:Prop}(h:p:=by
  rw[l7]at I;have a1:=aT I;clear I l7 e8;go_wp2;go_roundw
  .exact⟨j+1,y,p',q',aA,cD,K2,hy,e0,j1,a1.out.symm,g2⟩
  exact aY):p:=h
theorem WW(J:Nat):∀(m:Nat) (sets:aI) (sv:Value) (u:Int) (F:aI) (lv:Value) (M:aI) (bv:Value) (w:World),sets.length=m->(∀x∈sets,0<=x/\x<64)->Ints w sv sets->JZ J sv sets->Ints w lv F->JZ J lv F ->
  bK w J 180 #[bv]->Ints w bv M->JZ J bv M->0<=u->u<64->F.length+m<=64->M.length<=64 ->
  Calls prog 313 #[aP (some ⟨J,0,none⟩),sv,u,lv] w (PB J (mR sets u F (dT M F)) w):=by
 intro m
 induction m using Nat.strongRecOn with
 |ind m ih=>
 intro sets sv u F lv M bv w hm i7 hs g9 hc l3 K hb g8 m2 u8 o8 r8;have l9:=hs;have f9:=hc;have zo:=K.lt;obtain⟨a,n,s6,cp,rfl,e4,h5,j8,o3⟩:=hs.vw;obtain⟨av,cv,rfl⟩:=hc.shape;obtain⟨ab,cb,rfl⟩:=hb.shape;have q9:=aT h5;have f5:=aT i7;have IH:=aT ih;have G:=K.cell;have HM:=aT hm;clear h5 i7 ih e4 hm;go_enter func313,ntmps313;go_upto_if 17 with fail;go_cut [18] (fun _ wx=>∃p q,bK wx J 180 #[.slice p (dT M F).length q]/\Ints wx (.slice p (dT M F).length q) (dT M F)/\JZ J (.slice p (dT M F).length q) (dT M F)/\GrownIn w wx (fun k=>k=J))
 case rest=>
  obtain⟨p,q,K1,c9,d0,g1⟩:=hcut;clear K hb g8 G;have h6:(dT M F).length<=64:=by unfold dT;split<;>omega
  obtain⟨b1,S⟩:=aW (dT M F);have HE:=aT S;rw[<-S]at K1 c9 d0 h6;clear S;go_wp2_with fail;go_loopw [25] (fun iv wr=>∃(j:Nat) (y:aI) (p:Option Addr) (q:Nat),j<=sets/\iv=aO j/\bK wr J 180 #[aD p y q]/\Ints wr (aD p y q) y/\JZ J (aD p y q) y/\y.length<=64/\mR (sets.drop j) u F y=mR sets u F b1/\GrownIn w wr (fun k=>k=J)) (fun iv _=>sets.length-(intOf iv).toNat)
  .exact⟨0,b1,p,q,aZ _,rfl,K1,c9,d0,h6,rfl,g1⟩
  obtain⟨j,y,p',q',hj,rfl,K2,hy,e0,j1,b4,g2⟩:=hrel;clear K1 c9 d0 g1;by_cases hlt:j<sets
  .have h7:(j:Int)<(sets.length:Int):=aA;have i1:=wX l9 g2 g9;have e6:=wX f9 g2 l3;obtain⟨a2,n2,q4,c2,he,_,b3,g4,_⟩:=i1.vw;injection he with e1 _ e3;subst e1 e3;have l1:=g4 j hlt;have s0:=fun W=>b3 W j hlt;clear g4 b3;have b9:=f5.out _ (aX hlt);have g5:=List.drop_eq_getElem_cons hlt;have I:mR (sets.drop j) u F y=if GW sets[j] u then mR (sets.drop (j+1)) u F (mR (sets.drop (j+1)) (gO u sets[j]) (F++[sets[j]]) (dT y (F++[sets[j]]))) else mR (sets.drop (j+1)) u F y:=by rw[g5,mR]
   rw[b4]at I;have yw:=g2.size;obtain⟨x,hx⟩:=aW (sets[j]);rw[<-hx]at l1 b9 I;have o2:bits .and .i64 x u=cU x u:=fV b9.1 aA m2 aA;have e8:GW x u=(x != 0&&cU x u==0):=rfl;obtain⟨z,hz⟩:=aW (cU x u);rw[<-hz]at o2 e8;clear hx hz b4 g5
   cases h1:x != 0 with
   |false=>
    have l7:GW x u=false:=by rw[e8,h1];rfl
    exact ak1
   |true=>
    cases h2:z==0 with
    |false=>
     have l7:GW x u=false:=by rw[e8,h1,h2];rfl
     exact ak1
    |true=>
     have k4:GW x u=true:=by rw[e8,h1,h2];rfl
     rw[k4,if_pos rfl]at I;have s1:bits .or .i64 u x=gO u x:=vJ m2 aA b9.1 aA;have l8:=DC u x 6 m2 b9.1 aA aA;obtain⟨u2,q0⟩:=aW (gO u x);rw[<-q0]at s1 l8 I;have o9:=l8.1;have p6:u2<64:=aA;have l5:j+1<=sets.length:=hlt;have N:(sets.drop (j+1)).length=sets.length-(j+1):=List.length_drop ..;have Y:(F++[x]).length=F.length+1:=bF;obtain⟨a3,c3,i8,i6,g6⟩:=QL i1 25 3 underlying25 intElem (j+1) l5;have b8:=fun W=>i8 .i64 W;rw[show((j+1:Nat):Int)=(j:Int)+1 from bF]at b8;have c8:∀e∈sets.drop (j+1),0<=e/\e<64:=fun e he=>f5.out e (List.mem_of_mem_drop he);obtain⟨D,hD⟩:=aW (sets.drop (j+1));rw[<-hD]at N i6 g6 c8;simp only[<-hD]at b8;have a6:=aT hD;have f7:mR (sets.drop (j+1)) u2 (F++[x]) (dT y (F++[x]))=mR D u2 (F++[x]) (dT y (F++[x])):=by rw[a6.out]
     clear hD i8;obtain⟨R,hR⟩:=aW (mR D u2 (F++[x]) (dT y (F++[x])));have l6:=HM.out;have l0:R.length<=64:=by rw[hR];exact EN 64 _ _ _ _ (by rw[N,Y];omega) (by unfold dT;split<;>omega)
     have b7:∀(v6:Value) (w6:World),bB 3 wr w6 v6 (F++[x])->Below wr wr w6 ->
       Calls prog 313 #[aP (some ⟨J,0,none⟩),aD a3 D c3,u2,v6] w6 (PB J R w6):=fun v6 w6 q1 q2=>by
      rw[hR];have zz:=K2.lt;exact IH.out D.length (by rw[N];omega) _ _ u2 (F++[x]) v6 y _ w6 rfl c8 (i6.below q2 aU) (fun a8 k hk=>g9 (fun e=>a8 (by rw[a6.out,e];rfl)) k (g6 k hk)) q1.ints (fun _ k hk=>by have:=(q1.lt k hk).1;omega) (K2.keep q2) (hy.below q2 aU) e0 o9 p6 (by rw[N,Y];omega) j1
     rw[f7,<-hR]at I;have f4:=aT b7;have a1:=aT I;have f6:F.length + [x].length<=17592186044416:=bO;have f8:fM x:=⟨aA,aA⟩;have s2:IntKind.i64.wrap ((j:Int)+1)=(j:Int)+1:=dV;have f3:=aT f6;have k6:=aT f8;have g0:F.length<=1048576:=aA;have o7:=aT N;clear b7 I hR f7 c8 q0 l8 k4 e8 f6 f8 N Y l6;go_wp2_with fail;go_region_law
      (first
       |(go_simp;go_at_call 287;refine(nI _ F _ ?_ g0).mono ?_;(first|(with_reducible exact e6.drew')|(with_reducible exact(e6.alloc _).drew'));rintro e w5 ⟨p5,i5,q5,rfl,o5,b5⟩;have c5:=bB.mono (B':=wr.heap.size) o5 cK;first|(have a7:Below wr wr w5:=((cQ wr (.cells #[x] 3)).drewN' 1).after b5 cK;have j2:w5.cell? ⟨wr,0,none⟩=some (aO x):=keep b5 (D1 wr 3 (aO x)))|(have a7:Below wr wr w5:=((bJ wr.heap.size wr).drewN' 1).after b5 cK))
       |(refine jT rfl _ _ _ rfl 3 underlying25 intElem wr.heap.size (aD p5 i5 q5) F rfl (aD (some ⟨_,0,none⟩) 1 1) [x] rfl ?_ ?_ f3.out wr ?_ aU ?_;(first|(with_reducible exact c5.alloc _)|(with_reducible exact c5));(refine Ints.one ?_ k6.out;first|(with_reducible exact cR _ _ _ _ _ rfl)|(with_reducible exact j2));(first|(with_reducible exact a7.alloc a7.size _)|(with_reducible exact a7));intro v6 w6 o6 b6 _)
       |(go_simp;go_at_call 313;refine aV (f4.out _ w6 o6 b6) ?_;rintro w7 ⟨r4,K7,j0,l2,g7⟩))
     all_goals
      obtain⟨p7,c7,rfl⟩:=j0.shape;have k9:=g2.trans ((GrownIn.of_below (P:=fun k=>k=J) b6).trans g7);have b0:mR D u F R=mR sets u F b1:=by rw[a1.out,a6.out]
      have f2:=aT b0;clear b0;go_wp2;go_roundw
      .exact⟨j+1,R,p7,c7,aA,cD,K7,j0,l2,l0,by rw[<-a6.out];exact f2.out,k9⟩
      exact aY
  .have h7:¬(j:Int)<(sets.length:Int):=aA;have j9:j=sets.length:=aA;have h8:y=mR sets u F (dT M F):=by rw[<-HE.out,<-b4,j9,List.drop_length];rfl
   exact akZ
 case first=>
  by_cases Z:M.length<F.length
  .have h0:(M.length:Int)<(F.length:Int):=aA;have hlo:dT M F=F:=by unfold dT;rw[if_pos Z]
   have O:=aT hlo;have a8:F≠[]:=by intro e;subst e;simp at Z
   have r0:=aT a8;clear hlo Z a8;go_wp2_with fail;refine(nI _ F w f9 aA).mono ?_;rintro e w1 ⟨pc,ic,qc,rfl,oc,bc⟩;have l4:ic=F.length:=oc.ints.capLe.1;subst l4;have K1:=K.keep bc;have G1:=K1.cell;have F1:=K1.frozen;have z1:=K1.lt;clear G;go_wp2;go_meet;have KF:bK (w1.setCell ⟨J,0,none⟩ (aD pc F qc)) J 180 #[aD pc F qc]:=by have:=K1.set 0 (aD pc F qc);simpa using this
   have gF:w1.grownBy (w1.setCell ⟨J,0,none⟩ (aD pc F qc)) (some J):=cX (dO _ _) 0 _;have k3:JZ J (aD pc F qc) F:=fun _ k hk=>by have:=(oc.lt k hk).1;omega
   exact ajZ
  .have h0:¬(M.length:Int)<(F.length:Int):=aA;have hlo:dT M F=M:=by unfold dT;rw[if_neg Z]
   have O:=aT hlo;clear hlo Z;go_wp2_with fail;go_meet;exact⟨ab,cb,by rw[O.out];exact K,by rw[O.out];exact hb,by rw[O.out];exact g8,GrownIn.refl _ _⟩
theorem aaD(w:World)(g:Int)(v:Value)(l:aI)(hv:Ints w v l):
  Calls prog 231 #[aM #[g,v]] w fun e w'=>∃ad i cp,e=aQ (aS #[aO ((oN g l).length:Int),aD ad i cp,aG (cO g l)])/\Ints w' (aD ad i cp) (oN g l)/\Below w w w':=by
 have D:=hv;obtain⟨a,c,rfl⟩:=hv.shape;have K0:=bK.new w 29 #[g,aD a l c]
 cases F:cO g l with
 |false=>
  have N:oN g l=[]:=by unfold oN;rw[F];rfl
  have M:=aT N;have S:=aT F;clear N F;go_enter func231,ntmps231;go_wp2_with fail;refine aV (eP g l _ _ (D.alloc _)) ?_;intro w1 z;rw[S.out];go_wp2;exact bW (v:=aS #[aK,(),aG false]) (by simp[results,results231,go_sem]) rfl ⟨none,0,0,by rw[M.out];rfl,by rw[M.out];exact Ints.empty _ _ _ _ rfl bZ,(cQ _ _).after z bF⟩
 |true=>
  have N:oN g l=wF l:=by unfold oN;rw[F];rfl
  have hm:=fS F;have R:=kZ F;have b7:(wF l).length<=64:=yC 64 l 0 [] [] (by simpa using R) bF;have I:∀K V,Ints V (aD a l c) l->JZ K (aD a l c) l->bK V K 180 #[()]->Calls prog 313 #[aP (some ⟨K,0,none⟩),aD a l c,aK,()] V (PB K (wF l) V):=fun K V h1 h2 h3=>by have h:=WW K l.length l _ 0 [] (aD none 0 0) [] (aD none 0 0) V rfl hm h1 h2 (Ints.empty _ _ _ _ rfl bZ) (fun h=>absurd rfl h) h3 (Ints.empty _ _ _ _ rfl bZ) (fun h=>absurd rfl h) aA aA (by simpa using R) bF;rw[<-alP];exact h
  have M:=aT N;have S:=aT F;have HV:=aT I;clear N F I hm;go_enter func231,ntmps231;go_wp2_with fail;refine aV (eP g l _ _ (D.alloc _)) ?_;intro w1 z;rw[S.out];have J:Below w w w1:=(cQ _ _).after z bF;have K1:=K0.keep z;have K2:=K1.alloc (.cells #[()] 180);have G1:=K2.cell;have Z:=(D.below J aU).alloc (.cells #[()] 180);have hz:=K1.lt;have O:JZ w1.heap.size (aD a l c) l:=fun Y k hk e=>by have h1:=adS D Y k hk;have h2:=J.size;omega
  clear z K0;go_wp2_with fail;refine aV (HV.out w1.heap.size _ Z O (bK.new _ _ _)) ?_;rintro w2 ⟨bv,K3,hb,b8,g2⟩;obtain⟨pb,qb,rfl⟩:=hb.shape;have B2:Below w w w2:=Below.growIn (J.alloc J.size _) g2 (J.alloc J.size _).size (by rintro k rfl;exact J.size);have G3:=K3.cell;go_wp2_with fail;go_quiet (fail);go_wp2;exact bW (v:=aS #[aO ((wF l).length:Int),.slice pb (wF l).length qb,aG true]) (by simp[results,results231,go_sem]) rfl ⟨pb,_,qb,by rw[M.out],by rw[M.out];exact hb.drewN _,B2.drewN' _⟩
theorem ahF{w:World}{cs:Array Value}{T:TypeId}{n i:Nat}{u:Value}(z:w.heap.size=n)(h:cs[i]?=some u):(w.alloc (.cells cs T)).cell? ⟨n,i,none⟩=some u:=by
 subst z;exact cR w cs T i u h
theorem ae0(w:World)(g:Int)(v:Value)(l:aI)(hv:Ints w v l)(hl:l.length<=1048576)(hp:lA w):
  aH 148 #[aM #[g,v]] w (aR (vV g l)):=by
 have S:=hv;obtain⟨a,c,rfl⟩:=hv.shape;have K0:=bK.new w 29 #[g,aD a l c]
 cases hf:cO g l with
 |false=>have HX:=aT (OQ hf);have HF:=aT hf;clear hf;go_enter func148,ntmps148;go_wp2_with fail;refine aV (eP g l _ _ (S.alloc _)) ?_;intro w1 b1;rw[HF.out];go_wp2;go_ret;exact⟨dA HX.out.symm,(cQ _ _).after b1 bF⟩
 |true=>
  obtain⟨TT,k4⟩:=aW (vV g l);have hx:dL fY (aeZ g l)=TT:=by rw[k4,D4 hf];exact asQ g l
  unfold aeZ at hx;have y8:=aaF g l;have y9:=L0 g l;have z6:=aa9 g l;obtain⟨bT,q0⟩:=aW (nN g l);obtain⟨bS,k5⟩:=aW (mH g l);rw[<-q0,<-k5]at hx;have e5:(bS=true->∀x∈gM g l,fM x)->TT.size<=11000:=fun h=>by rw[k4,D4 hf];exact UP g l (by rw[<-k5];exact h)
  have z1:=JV g l;have y7:=yN g l;have q7:=fun(W:World) (h:Ints W (aD a l c) l)=>ar1 W g _ l h hl;have q6:=fun(W:World) (h:Ints W (aD a l c) l)=>ac4 W g _ l h hl;simp only[<-q0]at q7;simp only[<-k5]at q6;have j1:=aT k4;have HX:=aT hx;have j0:=aT e5;have HF:=aT hf;have u1:=aT q7;have s0:=aT q6;clear hx hf q7 q6 k4 e5 q0 k5;go_enter func148,ntmps148;go_wp2_with fail;refine aV (eP g l _ _ (S.alloc _)) ?_;intro w1 b1;rw[HF.out];have B:Below w w w1:=(cQ _ _).after b1 bF;have K:=K0.keep b1;clear K0 b1;have G:=K.cell;go_wp2_with fail;refine(aaD _ g _ l (S.below B aU)).mono ?_;rintro e w2 ⟨p2,i2,q2,rfl,hP,b2⟩;have v6:i2=(oN g l).length:=hP.capLe.1;subst v6;have B1:=B.after b2 B.size;have K1:=K.keep b2;clear B K G b2;obtain⟨I,e4⟩:=aW w2.heap.size;have zb:w.heap.size<I:=by rw[e4];exact K1.lt
  have zc:w2.heap.size<=I:=aA;have L3:kE I (w2.alloc (.cells #[()] 143)) []:=by rw[e4];exact kE.new w2
  have K2:bK w2 w 29 #[g,aD a l c]:=K1;have B3:=B1.alloc B1.size (.cells #[()] 143);have C3:Below I w2 (w2.alloc (.cells #[()] 143)):=by rw[e4];exact cQ w2 _
  have t9:=aT (show(w2.alloc (.cells #[()] 143)).heap.size=I+1 by rw[e4];simp);go_wp2_with fail;rw[<-e4];clear e4 K1;have s9:=L3.lt;refine aV (fH I [] [(⟨#[99,111,118,101,114]⟩:aB)] (I+1) 1 1 _ (L3.keep (cQ _ _)) rfl (D2 (ahF t9.out rfl)) (by simp only[List.length_cons,List.length_nil];omega)) ?_;rintro w11 ⟨o3,s4⟩;have m6:=(B3.alloc B3.size _).after s4 aA;have r5:=(C3.alloc (cM s9) _).after s4 aU;clear B3 C3 L3;obtain⟨o7,z⟩:=aW ([]++[(⟨#[99,111,118,101,114]⟩:aB)]);rw[<-z]at o3;have x7:o7.length<=1:=by rw[z,bN];exact xB
  go_wp2_with fail;refine aV (gX I o7 (⟨#[112,97,99,107,105,110,103]⟩:aB) (((oN g l).length:Int)) ⟨aA,aA⟩ _ o3 (hp.keep m6) aA) ?_;rintro w12 ⟨j3,s5⟩;have h9:=m6.after s5 aA;have i8:=r5.after s5 aU;clear m6 r5 o3;obtain⟨o8,D⟩:=aW (o7++[(⟨#[112,97,99,107,105,110,103]⟩:aB),dB (((oN g l).length:Int))]);rw[<-D]at j3;have x8:o8.length<=3:=by rw[D,bN];exact xB
  have G:=(dN K2 i8 zb).cell;go_wp2_with fail;clear G;refine aV (lU g (oN g l) _ _ (hP.below i8 zc) (hp.keep h9)) ?_;intro w6 j8;have m7:=h9.after j8 h9.size;have r6:=i8.after j8 (cM j3.lt);have o4:=j3.keep j8;clear h9 i8 j3 j8;go_wp2_with fail;have t1:=o4.lt;refine aV (fH I o8 [(⟨#[111,102]⟩:aB),eG g (oN g l)] w6.heap.size 2 2 _ (o4.keep (cQ _ _)) rfl (jC (cR _ _ _ _ _ rfl) (cR _ _ _ _ _ rfl)) (by simp only[List.length_cons,List.length_nil];omega)) ?_;rintro w14 ⟨j4,s6⟩;have i1:=(m7.alloc m7.size _).after s6 aA;have n1:=(r6.alloc (cM t1) _).after s6 aU;clear m7 r6 o4;obtain⟨b8,F⟩:=aW (o8++[(⟨#[111,102]⟩:aB),eG g (oN g l)]);rw[<-F]at j4;have x9:b8.length<=5:=by rw[F,bN];exact xB
  have G:=(dN K2 n1 zb).cell;go_wp2_with fail;clear G;refine aV (u1.out _ (S.below i1 aU)) ?_;intro w15 j9;have b9:=i1.after j9 i1.size;have f3:=n1.after j9 (cM j4.lt);have f5:=j4.keep j9;clear i1 n1 j4 j9
  cases bT with
  |false=>
   have G:=(dN K2 f3 zb).cell;go_wp2_with fail;clear G;refine(s0.out _ (S.below b9 aU)).mono ?_;rintro e w7 ⟨pS,iS,qS,rfl,oS,c6⟩;have N:=b9.after c6 b9.size;have c5:=f3.after c6 (cM f5.lt);have a8:=f5.keep c6;clear b9 f3 f5 c6;have q4:iS=(iV g l).length:=oS.ints.capLe.1;subst q4
   cases bS with
   |false=>
    have hT:dL fY b8=TT:=by rw[F,D,z];exact HX.out
    have hz:=j0.out (fun h=>by cases h);rw[<-hT]at hz;have HT:=aT hT;clear hT z D F;obtain⟨lv,KL,oL⟩:=a8;have G:=KL.cell;go_wp2_with fail;clear G;refine aV (fG (I+1) lv b8 _ oL aA aA) ?_;intro wz bz;go_wp2;go_ret;exact⟨dA (HT.out.trans j1.out),N.after bz N.size⟩
   |true=>
    have G:=(dN K2 c5 zb).cell;go_wp2_with fail;clear G;refine(LD _ g _ l (S.below N aU) hl).mono ?_;rintro e w97 ⟨pG,iG,qG,rfl,oG,k2⟩;have i7:=N.after k2 N.size;have o0:=c5.after k2 (cM a8.lt);have j7:=a8.keep k2;clear N c5 a8 k2;have q3:iG=(fC g l).length:=oG.ints.capLe.1;subst q3;have G:=(dN K2 o0 zb).cell;go_wp2_with fail;clear G;refine(LZ _ g _ l (S.below i7 aU) hl).mono ?_;rintro e r1 ⟨pR,iR,qR,rfl,oR,k3⟩;have m9:=i7.after k3 i7.size;have r8:=o0.after k3 (cM j7.lt);have v9:=j7.lt;have b6:=oR.lt;have q5:=oR.ints.inR;have s1:xF I (aD pR iR qR) r1 b8:=j7.far k3 (fun k hk=>(b6 k hk).1);have l8:∀k,(Value.slice pR iR qR).ownBlock=some k->I<k/\k<r1.heap.size:=fun k hk=>⟨by have:=(b6 k hk).1;omega,(b6 k hk).2⟩;have l5:=oR.ints;clear i7 o0 j7 k3 oR b6;go_wp2_with fail;have HU:=aT l8;clear l8;refine aV (EF I (aD pR iR qR) b8 (⟨#[115,109,97,108,108,101,115,116]⟩:aB) (((iV g l).length:Int)) ⟨aA,aA⟩ _ s1 HU.out (hp.keep m9) aA) ?_;rintro r2 ⟨o6,p6,s8⟩;have n0:=m9.after p6 aA;have r9:=r8.after p6 aU;clear m9 r8 s1;obtain⟨p5,c8⟩:=aW (b8++[(⟨#[115,109,97,108,108,101,115,116]⟩:aB),dB (((iV g l).length:Int))]);rw[<-c8]at o6;have y2:p5.length<=7:=by rw[c8,bN];exact xB
    have l7:r1.heap.size<=r2.heap.size:=p6.size;have l9:∀k,(Value.slice pR iR qR).ownBlock=some k->I<k/\k<r2.heap.size:=fun k hk=>⟨(HU.out k hk).1,dX (HU.out k hk).2 l7⟩;have l6:=EE l5 l7 s8;clear l5 s8 HU;go_wp2_with fail;have HU:=aT l9;clear l9;refine aV (EF I (aD pR iR qR) p5 (⟨#[103,114,101,101,100,121]⟩:aB) (((fC g l).length:Int)) ⟨aA,aA⟩ _ o6 HU.out (hp.keep n0) aA) ?_;rintro h6 ⟨O,M,m2⟩;have J:=n0.after M aA;have Z:=r9.after M aU;clear n0 r9 o6;obtain⟨f6,a9⟩:=aW (p5++[(⟨#[103,114,101,101,100,121]⟩:aB),dB (((fC g l).length:Int))]);rw[<-a9]at O;have u5:f6.length<=9:=by rw[a9,bN];exact xB
    have g7:r2.heap.size<=h6.heap.size:=M.size;have v7:∀k,(Value.slice pR iR qR).ownBlock=some k->I<k/\k<h6.heap.size:=fun k hk=>⟨(HU.out k hk).1,dX (HU.out k hk).2 g7⟩;have p8:=EE l6 g7 m2;clear l6 m2 HU;go_wp2_with fail;have LL:=O.line;refine aV (nK I f6 (⟨#[112,114,105,99,101,115]⟩:aB) _ (gM g l) _ p8 aA LL (hp.keep J) aA) ?_;rintro c9 ⟨b7,R⟩;have Y:=J.after R aA;have f2:=Z.after R aU;clear J Z LL;obtain⟨f7,b0⟩:=aW (f6++[(⟨#[112,114,105,99,101,115]⟩:aB),gY (gM g l)]);rw[<-b0]at b7;have u6:f7.length<=11:=by rw[b0,bN];exact xB
    have e5:=j0.out (fun _=>q5);have hT:dL fY f7=TT:=by rw[b0,a9,c8,F,D,z];exact HX.out
    have hz:=e5;rw[<-hT]at hz;have HT:=aT hT;clear hT z D F c8 a9 b0;obtain⟨lv,KL,oL⟩:=b7;have G:=KL.cell;go_wp2_with fail;clear G;refine aV (fG (I+1) lv f7 _ oL aA aA) ?_;intro wz bz;go_wp2;go_ret;exact⟨dA (HT.out.trans j1.out),Y.after bz Y.size⟩
  |true=>
   go_wp2_with fail;refine aV (gX I b8 (⟨#[116,114,97,110,115,118,101,114,115,97,108]⟩:aB) (xD g l) ⟨aA,aA⟩ _ f5 (hp.keep b9) aA) ?_;rintro w7 ⟨a8,c6⟩;have N:=b9.after c6 aA;have c5:=f3.after c6 aU;clear b9 f3 f5;obtain⟨o9,a1⟩:=aW (b8++[(⟨#[116,114,97,110,115,118,101,114,115,97,108]⟩:aB),dB (xD g l)]);rw[<-a1]at a8;have y0:o9.length<=7:=by rw[a1,bN];exact xB
   have G:=(dN K2 c5 zb).cell;go_wp2_with fail;clear G;refine aV (iY g (qY g l) _ (hp.keep N)) ?_;intro w8 k0;have m8:=N.after k0 N.size;have r7:=c5.after k0 (cM a8.lt);have o5:=a8.keep k0;clear N c5 a8 k0;go_wp2_with fail;have t6:=o5.lt;refine aV (fH I o9 [(⟨#[98,121]⟩:aB),dH g (qY g l)] w8.heap.size 2 2 _ (o5.keep (cQ _ _)) rfl (jC (cR _ _ _ _ _ rfl) (cR _ _ _ _ _ rfl)) (by simp only[List.length_cons,List.length_nil];omega)) ?_;rintro w58 ⟨j5,s7⟩;have i6:=(m8.alloc m8.size _).after s7 aA;have n2:=(r7.alloc (cM t6) _).after s7 aU;clear m8 r7 o5;obtain⟨e0,a6⟩:=aW (o9++[(⟨#[98,121]⟩:aB),dH g (qY g l)]);rw[<-a6]at j5;have y1:e0.length<=9:=by rw[a6,bN];exact xB
   have G:=(dN K2 n2 zb).cell;go_wp2_with fail;clear G;refine(s0.out _ (S.below i6 aU)).mono ?_;rintro e w59 ⟨pS,iS,qS,rfl,oS,k1⟩;have d0:=i6.after k1 i6.size;have n3:=n2.after k1 (cM j5.lt);have j6:=j5.keep k1;clear i6 n2 j5 k1;have q4:iS=(iV g l).length:=oS.ints.capLe.1;subst q4
   cases bS with
   |false=>
    have hT:dL fY e0=TT:=by rw[a6,a1,F,D,z];exact HX.out
    have hz:=j0.out (fun h=>by cases h);rw[<-hT]at hz;have HT:=aT hT;clear hT z D F a1 a6;obtain⟨lv,KL,oL⟩:=j6;have G:=KL.cell;go_wp2_with fail;clear G;refine aV (fG (I+1) lv e0 _ oL aA aA) ?_;intro wz bz;go_wp2;go_ret;exact⟨dA (HT.out.trans j1.out),d0.after bz d0.size⟩
   |true=>
    have G:=(dN K2 n3 zb).cell;go_wp2_with fail;clear G;refine(LD _ g _ l (S.below d0 aU) hl).mono ?_;rintro e h6 ⟨pG,iG,qG,rfl,oG,M⟩;have J:=d0.after M d0.size;have Z:=n3.after M (cM j6.lt);have O:=j6.keep M;clear d0 n3 j6 M;have q3:iG=(fC g l).length:=oG.ints.capLe.1;subst q3;have G:=(dN K2 Z zb).cell;go_wp2_with fail;clear G;refine(LZ _ g _ l (S.below J aU) hl).mono ?_;rintro e c9 ⟨pR,iR,qR,rfl,oR,R⟩;have Y:=J.after R J.size;have f2:=Z.after R (cM O.lt);have v9:=O.lt;have b6:=oR.lt;have q5:=oR.ints.inR;have b7:xF I (aD pR iR qR) c9 e0:=O.far R (fun k hk=>(b6 k hk).1);have h0:∀k,(Value.slice pR iR qR).ownBlock=some k->I<k/\k<c9.heap.size:=fun k hk=>⟨by have:=(b6 k hk).1;omega,(b6 k hk).2⟩;have g5:=oR.ints;clear J Z O R oR b6;go_wp2_with fail;have HU:=aT h0;clear h0;refine aV (EF I (aD pR iR qR) e0 (⟨#[115,109,97,108,108,101,115,116]⟩:aB) (((iV g l).length:Int)) ⟨aA,aA⟩ _ b7 HU.out (hp.keep Y) aA) ?_;rintro h7 ⟨f4,g2,m3⟩;have e9:=Y.after g2 aA;have l0:=f2.after g2 aU;clear Y f2 b7;obtain⟨f8,b3⟩:=aW (e0++[(⟨#[115,109,97,108,108,101,115,116]⟩:aB),dB (((iV g l).length:Int))]);rw[<-b3]at f4;have u7:f8.length<=11:=by rw[b3,bN];exact xB
    have g8:c9.heap.size<=h7.heap.size:=g2.size;have h5:∀k,(Value.slice pR iR qR).ownBlock=some k->I<k/\k<h7.heap.size:=fun k hk=>⟨(HU.out k hk).1,dX (HU.out k hk).2 g8⟩;have g6:=EE g5 g8 m3;clear g5 m3 HU;go_wp2_with fail;have HU:=aT h5;clear h5;refine aV (EF I (aD pR iR qR) f8 (⟨#[103,114,101,101,100,121]⟩:aB) (((fC g l).length:Int)) ⟨aA,aA⟩ _ f4 HU.out (hp.keep e9) aA) ?_;rintro m5 ⟨l2,g4,m4⟩;have f0:=e9.after g4 aA;have l1:=l0.after g4 aU;clear e9 l0 f4;obtain⟨f9,b4⟩:=aW (f8++[(⟨#[103,114,101,101,100,121]⟩:aB),dB (((fC g l).length:Int))]);rw[<-b4]at l2;have u8:f9.length<=13:=by rw[b4,bN];exact xB
    have g9:h7.heap.size<=m5.heap.size:=g4.size;have v8:∀k,(Value.slice pR iR qR).ownBlock=some k->I<k/\k<m5.heap.size:=fun k hk=>⟨(HU.out k hk).1,dX (HU.out k hk).2 g9⟩;have p9:=EE g6 g9 m4;clear g6 m4 HU;go_wp2_with fail;have LL:=l2.line;refine aV (nK I f9 (⟨#[112,114,105,99,101,115]⟩:aB) _ (gM g l) _ p9 aA LL (hp.keep f0) aA) ?_;rintro y5 ⟨l3,l4⟩;have k9:=f0.after l4 aA;have x4:=l1.after l4 aU;clear f0 l1 LL;obtain⟨g0,b5⟩:=aW (f9++[(⟨#[112,114,105,99,101,115]⟩:aB),gY (gM g l)]);rw[<-b5]at l3;have u9:g0.length<=15:=by rw[b5,bN];exact xB
    have e5:=j0.out (fun _=>q5);have hT:dL fY g0=TT:=by rw[b5,b4,b3,a6,a1,F,D,z];exact HX.out
    have hz:=e5;rw[<-hT]at hz;have HT:=aT hT;clear hT z D F a1 a6 b3 b4 b5;obtain⟨lv,KL,oL⟩:=l3;have G:=KL.cell;go_wp2_with fail;clear G;refine aV (fG (I+1) lv g0 _ oL aA aA) ?_;intro wz bz;go_wp2;go_ret;exact⟨dA (HT.out.trans j1.out),k9.after bz k9.size⟩
end
section
open Go.Proofs.Tryz
open Go.Shelf
set_option maxRecDepth 100000
def T8:Go.Shelf.Ren:=⟨fun|112=>316|n=>n,fun|28=>25|3=>3|4=>4|0=>0|n=>n,fun|n=>n⟩
theorem RK:Go.Proofs.Lays.n112 prog T8:={
 mixed:=bM
 f112:=func316.trans (congrArg some bM)
 t0:=underlying0
 a0:=Tryz.isAgg0
 z0:=Tryz.sizeOf0
 v0:=Tryz.zeroValue0
 t3:=underlying3
 a3:=Tryz.isAgg3
 z3:=Tryz.sizeOf3
 v3:=Tryz.zeroValue3
 t4:=underlying4
 a4:=Tryz.isAgg4
 z4:=Tryz.sizeOf4
 v4:=Tryz.zeroValue4
 t28:=underlying25
 a28:=Tryz.isAgg25
 z28:=Tryz.sizeOf25
 v28:=Tryz.zeroValue25 }
open Go.RowKit Go.Lib Go.Sort in
theorem H0(z D cap:Nat)(F:aI)(w:World)(J:Holds (Value.int .i64) w z D F.toArray)(I:F.length<=9223372036854775807):
 Calls prog 316 #[aD (some ⟨z,D,none⟩) F cap] w fun e w'=>e=aQ (aS #[])/\∃n,w'=putRow (Value.int .i64) (Sort.ahead w n) z D F.reverse.toArray:=Any.slices_Reverse_int RK z D cap F w J I
open Go.RowKit Go.Lib Go.Sort in
theorem BK(a:Option Addr)(cap:Nat)(w:World):
 Calls prog 316 #[aD a 0 cap] w fun e w'=>e=aQ (aS #[])/\w'=w:=Any.slices_Reverse_int_empty RK a cap w
open Go.RowKit Go.G5 in
theorem acT(B:Nat)(v:Value)(l:aI)(w:World)(h:bB 3 B w v l)(hl:l.length<=1048576):
  Calls prog 316 #[v] w fun e w'=>e=aQ (aS #[])/\bB 3 B w' v l.reverse/\w.grownBy w' v.ownBlock:=by
 have hr:∀x∈l.reverse,fM x:=fun x F=>h.2 x (List.mem_reverse.1 F);rcases h.cases with⟨rfl,rfl⟩|⟨g,cap,rfl,hB,I⟩
 .refine(BK none 0 w).mono ?_;rintro e w' ⟨z,rfl⟩;exact⟨z,h,dO _ _⟩
 .refine(H0 g 0 cap l w (h.holds rfl) aA).mono ?_;rintro e w' ⟨z,n,rfl⟩;have D:=h.put l.reverse List.length_reverse hr n #[];rw[Go.Sort.grow_empty]at D;exact⟨z,D.1,D.2⟩
end
section
open Go.RowKit Go.G5 Go.Proofs.Tryz
theorem aoZ(x:Int)(r:aI)(h:(x::r).reverse.length-1<(x::r).reverse.length):(x::r).reverse[(x::r).reverse.length-1]=x:=by
 simp
theorem amX(w:World)(g:Int)(v:Value)(l:aI)(hv:Ints w v l):
  Calls prog 236 #[aM #[g,v]] w fun e w'=>∃ad i cp,e=aQ (aS #[aD ad i cp,aG (cO g l)])/\bB 3 w w' (aD ad i cp) (BY g l)/\Below w w w':=by
 have j5:=hv;obtain⟨a,c,rfl⟩:=hv.shape;obtain⟨T,hT⟩:=aW (BY g l);have b1:=wD g l;have R:=QW g l;have Z:T=BW (gG g l) (gG g l).length []:=hT;have a7:=aiU (w.alloc (.cells #[g,aD a l c] 29)) g _ l (j5.alloc _);have J:cO g l=false->T=[]:=fun h=>by rw[Z];unfold gG;rw[h];rfl
 rw[<-hT];obtain⟨Y,f0⟩:=aW (gG g l);rw[<-f0]at b1 R Z a7;obtain⟨bf,e6⟩:=aW (cO g l);rw[<-e6]at a7 J |-;have h8:=aT Z;have HM:=aT R;have g6:=aT a7;have h6:=aT J;clear hT Z R a7 J f0 e6;go_enter func236,ntmps236;go_wp2_with fail;refine g6.out.mono ?_;rintro e K ⟨ad,cp,rfl,e8,b2⟩;have B2:Below w w K:=(cQ _ _).after b2 bF;have g5:=aT (e8.mono (show w.heap.size<=_ from bF));clear b2 e8
 cases bf with
 |false=>have hx:=h6.out rfl;have HX:=aT hx;clear hx;go_wp2;go_ret2;exact⟨_,_,_,rfl,by rw[HX.out];exact bB.nil _ _ _,B2⟩
 |true=>
  have m4:IntKind.i64.wrap ((Y.length:Int)-1)=(Y.length:Int)-1:=dV;go_wp2_with fail;go_loopw [6,7] (fun ov iv wr=>∃(i:Nat) (out:aI) (p:Option Addr) (q:Nat),i<=Y.length/\iv=aO ((i:Int)-1)/\ov=aD p out q/\bB 3 K wr (aD p out q) out.reverse/\out.length+i<=64/\BW Y i out=T/\(∀x∈out,0<=x/\x<64)/\Below K K wr) (fun _ iv _=>(intOf iv+1).toNat)
  .exact⟨Y.length,[],_,_,aU,rfl,rfl,bB.nil _ _ _,by simpa using b1,h8.out.symm,bF,bJ _ _⟩
  obtain⟨i,out,p,q,hi,rfl,rfl,ho,c5,a1,f5,N⟩:=hrel;obtain⟨wo,rfl⟩:∃z:World,z=wr:=⟨_,rfl⟩
  cases i with
  |zero=>have F:out=T:=a1;subst F;have k4:¬(0:Int)<=((0:Nat):Int)-1:=aA;have HO:=aT ho;have c6:=acT K.heap.size _ _ wo ho bO;rw[List.reverse_reverse]at c6;have h7:=aT c6;have hlt:=ho.lt;clear c6 ho a1;go_wp2_with fail;refine aV h7.out ?_;rintro w3 ⟨o3,g3⟩;have B3:Below K K w3:=N.grown g3 N.size (fun k hk=>(hlt k hk).1);go_wp2;go_ret2;exact⟨_,_,_,rfl,o3.mono B2.size,B2.after B3 B2.size⟩
  |succ i=>
   have j2:((i+1:Nat):Int)-1=(i:Int):=aA;rw[j2];have hlt:i<Y.length:=aA;have m3:IntKind.i64.wrap ((i:Int)-1)=(i:Int)-1:=dV;have F:=ahI Y i hlt out;rw[a1]at F;obtain⟨gg,u,l7,l6,a8⟩:=(g5.out.keep N).view prog 77 underlying77 pU i hlt;have hM:=HM.out Y[i] (aX hlt);obtain⟨M,e5⟩:=aW (Y[i]);rw[<-e5]at F a8 hM;obtain⟨am,cm,rfl⟩:=a8.shape;obtain⟨_,mb,k7,_,c7,_,b3,f2,l8⟩:=a8.ints.vw;injection c7 with x1 _ x3;subst x1 x3;have g7:=aT f2;have g9:=aT b3;have g8:=aT hM.2;have d0:=aT F;have HO:=aT ho;have b7:=aT f5;clear f2 b3 hM a1 F ho f5 e5 a8;go_wp2_with fail;go_loop [6,29] (fun ov iv=>∃j:Nat,j<=M/\ov=aD p out q/\iv=aO j/\oX (M.drop j) out=oX M out) (fun _ iv=>M.length-(intOf iv).toNat)
   .exact⟨0,aZ _,rfl,rfl,rfl⟩
   obtain⟨j,hj,rfl,rfl,S⟩:=hrel;by_cases a6:j<M
   .have e7:(j:Int)<(M.length:Int):=aA;have ck:=g7.out j a6;have ik:=fun W=>g9.out W j a6;have b0:=g8.out M[j] (aX a6);have O:=aa3 M j a6 out;rw[S]at O;obtain⟨x,hx⟩:=aW (M[j]);rw[<-hx]at ck b0 O;clear hx S;have b5:KU out x=true->BW Y i (x::out)=T:=fun h=>by rw[d0.out,O,h];rfl
    have J:KU out x=false->oX (M.drop (j+1)) out=oX M out:=fun h=>by rw[O,h];rfl
    have HY:=aT b5;have HN:=aT J;have f8:∀y∈x::out,0<=y/\y<64:=fun y hy=>by
     rcases fK.1 hy with e|h
     .rw[e];exact b0
     .exact b7.out y h
    have e4:=aT f8;have e9:(x::out).reverse=out.reverse++[x]:=bF;have e0:=aT e9;clear O b5 J f8 e9
    cases out with
    |nil=>
     go_wp2_with (at_builtin;refine eF rfl _ _ _ rfl 3 underlying25 intElem K.heap.size _ _ x wo.heap.size rfl rfl (cR wo #[x] 3 0 _ rfl) (HO.out.alloc _) ⟨aA,aA⟩ bF (by have:=N.size;simp;omega) ?_;intro v' w6 D b8;obtain⟨av,nv,cv,rfl⟩:=D.shape3);have B6:Below K K w6:=(N.alloc N.size (.cells #[x] 3)).grown b8 (by have:=N.size;simp;omega) (fun q hq=>(HO.out.lt q hq).1);have b9:nv=1:=by have:=D.ints.capLe.1;simpa using this
     subst b9;go_roundw
     .exact⟨i,[x],av,cv,aA,cD,rfl,by rw[e0.out];exact D,bO,HY.out rfl,e4.out,B6⟩
     simp[intOf]
    |cons y r=>
     have a9:(y::r).reverse.length=r.length+1:=bF;have f9:=b7.out y bF;obtain⟨_,ob,k8,_,c7,_,b4,f3,m2⟩:=HO.out.ints.vw;injection c7 with x1 _ x3;subst x1 x3;have hk:(y::r).reverse.length-1<(y::r).reverse.length:=by rw[a9];omega
     have oc:=f3 _ hk;rw[aoZ y r hk]at oc;have oi:=fun W=>b4 W _ hk;rw[a9]at oc;simp only[a9]at oi;have f6:r.length+1-1=r.length:=aA;rw[f6]at oc;simp only[f6]at oi;have m7:((y::r).length:Int)=(r.length:Int)+1:=bF;have m5:IntKind.i64.wrap ((r.length:Int)+1-1)=(r.length:Int):=by rw[oJ];simp at c5;omega
     have l9:((r.length:Int)+1==0)=false:=bO;have j1:=nR b0.1 b0.2 f9.1 f9.2;have I:KU (y::r) x=(dQ x y==0):=rfl;obtain⟨z,hz⟩:=aW (dQ x y);rw[<-hz]at j1 I;clear hz f3 b4 hk
     cases h0:z==0 with
     |false=>
      have hN:=HN.out (by rw[I,h0]);have h5:=aT hN;clear hN I;go_wp2;go_round
      .exact⟨j+1,aA,rfl,cD,h5.out⟩
      exact aY
     |true=>
      have hY:=HY.out (by rw[I,h0]);have h9:=aT hY;have f4:(y::r).reverse.length<17592186044416:=by rw[a9];simp at c5;omega
      clear hY I;go_wp2_with (at_builtin;refine eF rfl _ _ _ rfl 3 underlying25 intElem K.heap.size _ _ x wo.heap.size rfl rfl (cR wo #[x] 3 0 _ rfl) (HO.out.alloc _) ⟨aA,aA⟩ f4 (by have:=N.size;simp;omega) ?_;intro v' w6 D b8;obtain⟨av,nv,cv,rfl⟩:=D.shape3);have B6:Below K K w6:=(N.alloc N.size (.cells #[x] 3)).grown b8 (by have:=N.size;simp;omega) (fun q hq=>(HO.out.lt q hq).1);have b9:nv=(x::y::r).length:=by have:=D.ints.capLe.1;simpa using this
      subst b9;go_roundw
      .exact⟨i,x::y::r,av,cv,aA,cD,rfl,by rw[e0.out];exact D,by simp at c5 |-;omega,h9.out,e4.out,B6⟩
      simp[intOf]
   .have e7:¬(j:Int)<(M.length:Int):=aA;have j3:j=M.length:=aA;subst j3;rw[VY]at S;have hC:BW Y i out=T:=by rw[d0.out,<-S]
    have HC:=aT hC;clear hC S;go_wp2;go_roundw
    .exact⟨i,out,p,q,aA,cD,rfl,HO.out,aA,HC.out,b7.out,N⟩
    simp[intOf]
