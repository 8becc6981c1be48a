/- Lemmas for CardReports. No condition. -/
import Derived.Test.YtcpoomdoodlkjaaGreatDoorQ25
import Derived.Test.YtcpoomdoodlkjaaGreatDoorQ36
set_option maxRecDepth 100000
set_option maxHeartbeats 64000000
namespace Go.Proofs.YtcpoomdoodlkjaaGreatDoor
section
open Go.RowKit Go.G5 Go.Proofs.Tryz
def CA(z:Nat)(v:Value)(l:List Int):Prop:=l≠[]->∀k,v.ownBlock=some k->k≠z
theorem tA{w w':World}{P:Nat->Prop}{v:Value}{l:List Int}(h:aR w v l)(F:GrownIn w w' P)(I:l≠[]->∀k,v.ownBlock=some k->¬P k):aR w' v l:=by
 obtain⟨a,c,rfl,h1,h2,h3,h4⟩:=h;refine⟨a,c,rfl,h1,h2,h3,?_⟩;rcases h4 with h4|⟨b,D,rfl,hb,hc⟩
 ·exact .inl h4
 ·refine .inr ⟨b,D,rfl,Nat.lt_of_lt_of_le hb F.size,fun k hk=>?_⟩;have e:=F.block b hb (I (by intro e;subst e;simp at hk) b rfl);have z:=hc k hk;unfold World.cell? at z ⊢;simp only at z ⊢;rw[e];exact z
theorem XA{w:World}{v:Value}{l:List Int}(h:aR w v l)(hl:l≠[]):∀k,v.ownBlock=some k->k<w.heap.size:=by
 obtain⟨a,c,rfl,h1,h2,h3,h4⟩:=h;intro k hk;rcases h4 with h4|⟨b,z,rfl,hb,_⟩
 ·exact absurd h4 hl
 ·have:b=k:=Option.some.inj hk;omega
theorem JM{P:Program}{w:World}{a:Option Addr}{c:Nat}{l:List Int}(h:aR w (aI a l.length c) l)(T E:TypeId)(J:P.underlying T=some (.slice E))(K:IntElem P E)(k:Nat)(hk:k<=l.length):
  ∃D F,(∀(N:IntKind) (w':World),(Instr.slice T (aI a l.length c) (some (.int N (k:Int))) none none).run P w'=.ok (.slice D (l.drop k).length F) w')/\aR w (.slice D (l.drop k).length F) (l.drop k) /\
   ∀q,(Value.slice D (l.drop k).length F).ownBlock=some q->(Value.slice a l.length c).ownBlock=some q:=by
 obtain⟨i,M,_,h1,_⟩:=K.get;have I:P.elem T=E:=by simp[Program.elem,J]
 obtain⟨hl,hcl,hcm⟩:=h.capLe;obtain⟨D,F,e1,e2⟩:=aR.from h T E J K k hk
 refine⟨D,F,e1,e2,?_⟩;have e3:=e1 .i64 default;rw[run_slice_l default T a l.length c (by rw[I];exact J) .i64 k aK aK]at e3;simp[sizeOf,typeInfo,I,M,h1,Result.andThen,sliced,List.length_drop]at e3;obtain⟨rfl,_⟩:=e3;intro q z
 cases a with
 |none=>simp[Value.ownBlock]at z
 |some ad=>
  split at z
  ·simpa[Value.ownBlock]using z
  ·simp only[Option.map_some,Value.ownBlock,Addr.add]at z ⊢
   split at z
   ·exact z
   ·exact z
theorem zM(N:Nat):∀(r:List Int) (u:Int) (c b:List Int),c.length+r.length<=N->b.length<=N->(kD r u c b).length<=N
 |[],_,_,_,_,h=>h
 |s::r,u,c,b,h1,h2=>by
  rw[List.length_cons]at h1;rw[kD]
  split
  ·refine zM N r u c _ aK (zM N r (fT u s) (c++[s]) _ aV ?_);unfold cN
   split
   ·simp;omega
   ·exact h2
  ·exact zM N r u c b aK h2
def IA(z:Nat)(b:List Int)(w:World)(e:Ending)(w':World):Prop:=
 e=.returned (.tuple #[])/\∃v,aU w' z 141 #[v]/\aR w' v b/\CA z v b/\GrownIn w w' (fun k=>k=z)
theorem QD(J:Nat):∀(m:Nat) (sets:List Int) (sv:Value) (u:Int) (F:List Int) (lv:Value) (M:List Int) (bv:Value) (w:World),sets.length=m->(∀x∈sets,0<=x/\x<64)->aR w sv sets->CA J sv sets->aR w lv F->CA J lv F ->
  aU w J 141 #[bv]->aR w bv M->CA J bv M->0<=u->u<64->F.length+m<=64->M.length<=64 ->
  Calls prog 235 #[.pointer (some ⟨J,0,none⟩),sv,u,lv] w (IA J (kD sets u F (cN M F)) w):=by
 intro m
 induction m using Nat.strongRecOn with
 |ind m ih=>
 intro sets sv u F lv M bv w hm j4 hs h8 hc l6 K hb h7 e6 r3 n3 r1;have m2:=hs;have g5:=hc;have zo:=K.lt;obtain⟨a,n,r8,cp,rfl,e5,i1,k3,n0⟩:=hs.view prog 24 3 underlying24 aS;obtain⟨av,cv,rfl⟩:=hc.shape;obtain⟨ab,cb,rfl⟩:=hb.shape;have p0:=aN i1;have f7:=aN j4;have IH:=aN ih;have G:=K.cell;have HM:=aN hm;clear i1 j4 ih e5 hm;go_enter func235,ntmps235;go_upto_if 17 with fail;go_cut [18] (fun _ wx=>∃p q,aU wx J 141 #[.slice p (cN M F).length q]/\aR wx (.slice p (cN M F).length q) (cN M F)/\CA J (.slice p (cN M F).length q) (cN M F)/\GrownIn w wx (fun k=>k=J))
 case rest=>
  obtain⟨p,q,K1,d9,e0,g1⟩:=hcut;clear K hb h7 G;have i7:(cN M F).length<=64:=by unfold cN;split<;>omega
  obtain⟨b1,Z⟩:=aQ (cN M F);have HE:=aN Z;rw[<-Z]at K1 d9 e0 i7;clear Z;go_wp2_with fail;go_loopw [25] (fun iv wr=>∃(j:Nat) (y:List Int) (p:Option Addr) (q:Nat),j<=sets.length/\iv=aM j/\aU wr J 141 #[aI p y.length q]/\aR wr (aI p y.length q) y/\CA J (aI p y.length q) y/\y.length<=64/\kD (sets.drop j) u F y=kD sets u F b1/\GrownIn w wr (fun k=>k=J)) (fun iv _=>sets.length-(intOf iv).toNat)
  case atStart=>exact⟨0,b1,p,q,Nat.zero_le _,rfl,K1,d9,e0,i7,rfl,g1⟩
  case round=>
   obtain⟨j,y,p',q',hj,rfl,K2,hy,b0,e8,b4,g2⟩:=hrel;clear K1 d9 e0 g1;by_cases hlt:j<sets.length
   ·have i8:(j:Int)<(sets.length:Int):=aK;have j2:=tA m2 g2 h8;have g6:=tA g5 g2 l6;obtain⟨a2,n2,o3,c2,he,_,c5,g9,_⟩:=j2.view prog 24 3 underlying24 aS;injection he with e1 _ e3;subst e1 e3;have l3:=g9 j hlt;have r2:=fun W=>c5 W j hlt;clear g9 c5;have b7:=f7.out _ (List.getElem_mem hlt);have h0:=List.drop_eq_getElem_cons hlt;have I:kD (sets.drop j) u F y=if AG sets[j] u then kD (sets.drop (j+1)) u F (kD (sets.drop (j+1)) (fT u sets[j]) (F++[sets[j]]) (cN y (F++[sets[j]]))) else kD (sets.drop (j+1)) u F y:=by rw[h0,kD]
    rw[b4]at I;have yw:=g2.size;obtain⟨x,hx⟩:=aQ (sets[j]);rw[<-hx]at l3 b7 I;have g4:bits .and .i64 x u=bK x u:=eG b7.1 aK e6 aK;have O:AG x u=(x != 0&&bK x u==0):=rfl;obtain⟨z,hz⟩:=aQ (bK x u);rw[<-hz]at g4 O;clear hx hz b4 h0
    cases h1:x != 0 with
    |false=>
     have a7:AG x u=false:=by rw[O,h1];rfl
     rw[a7]at I;have Y:=aN I;clear I a7 O;go_wp2;go_roundw
     case rel=>exact⟨j+1,y,p',q',by omega,by go_num,K2,hy,b0,e8,Y.out.symm,g2⟩
     case measure=>simp[intOf];omega
    |true=>
     cases h2:z==0 with
     |false=>
      have a7:AG x u=false:=by rw[O,h1,h2];rfl
      rw[a7]at I;have Y:=aN I;clear I a7 O;go_wp2;go_roundw
      case rel=>exact⟨j+1,y,p',q',by omega,by go_num,K2,hy,b0,e8,Y.out.symm,g2⟩
      case measure=>simp[intOf];omega
     |true=>
      have d0:AG x u=true:=by rw[O,h1,h2];rfl
      rw[d0,if_pos rfl]at I;have m1:bits .or .i64 u x=fT u x:=xQ e6 aK b7.1 aK;have e4:=JN u x 6 e6 b7.1 aK aK;obtain⟨u2,j6⟩:=aQ (fT u x);rw[<-j6]at m1 e4 I;have j0:=e4.1;have j1:u2<64:=aK;have l8:j+1<=sets.length:=hlt;have S:(sets.drop (j+1)).length=sets.length-(j+1):=List.length_drop ..;have a1:(F++[x]).length=F.length+1:=by simp
      obtain⟨a3,c3,j5,j3,h5⟩:=JM j2 24 3 underlying24 aS (j+1) l8;have c9:=fun W=>j5 .i64 W;rw[show((j+1:Nat):Int)=(j:Int)+1 by simp]at c9;have d8:∀e∈sets.drop (j+1),0<=e/\e<64:=fun e he=>f7.out e (List.mem_of_mem_drop he);obtain⟨D,hD⟩:=aQ (sets.drop (j+1));rw[<-hD]at S j3 h5 d8;simp only[<-hD]at c9;have a8:=aN hD;have g0:kD (sets.drop (j+1)) u2 (F++[x]) (cN y (F++[x]))=kD D u2 (F++[x]) (cN y (F++[x])):=by rw[a8.out]
      clear hD j5;obtain⟨R,hR⟩:=aQ (kD D u2 (F++[x]) (cN y (F++[x])));have l9:=HM.out;have l2:R.length<=64:=by rw[hR];exact zM 64 _ _ _ _ (by rw[S,a1];omega) (by unfold cN;split<;>omega)
      have c8:∀(v6:Value) (w6:World),aP 3 wr w6 v6 (F++[x])->Below wr wr w6 ->
        Calls prog 235 #[.pointer (some ⟨J,0,none⟩),aI a3 D.length c3,u2,v6] w6 (IA J R w6):=fun v6 w6 q1 q2=>by
       rw[hR];have zz:=K2.lt;exact IH.out D.length (by rw[S];omega) _ _ u2 (F++[x]) v6 y _ w6 rfl d8 (j3.below q2 aO) (fun b3 k hk=>h8 (fun e=>b3 (by rw[a8.out,e];rfl)) k (h5 k hk)) q1.ints (fun _ k hk=>by have:=(q1.lt k hk).1;omega) (K2.keep q2) (hy.below q2 aO) b0 j0 j1 (by rw[S,a1];omega) e8
      rw[g0,<-hR]at I;have f6:=aN c8;have Y:=aN I;have f9:F.length + [x].length<=17592186044416:=by simp;omega
      have g3:dD x:=⟨by omega,by omega⟩;have r4:IntKind.i64.wrap ((j:Int)+1)=(j:Int)+1:=by rw[IntKind.wrap_i64];omega
      have f4:=aN f9;have k8:=aN g3;have g8:F.length<=1048576:=aK;have n1:=aN S;clear c8 I hR g0 d8 j6 e4 d0 O f9 g3 S a1 l9;go_wp2_with fail;go_region_law
       (first
        |(go_simp;go_at_call 260;refine(kW _ F _ ?_ g8).mono ?_;(first|(with_reducible exact g6.drew')|(with_reducible exact(g6.alloc _).drew'));rintro e w5 ⟨p5,i5,q5,rfl,o5,b5⟩;have d5:=aP.mono (B':=wr.heap.size) o5 (by first|omega|(simp;done)|(simp;omega));first|(have a9:Below wr wr w5:=((bF wr (.cells #[x] 3)).drewN' 1).after b5 (by first|omega|(simp;done)|(simp;omega));have j8:w5.cell? ⟨wr.heap.size,0,none⟩=some (aM x):=keep b5 (yL wr 3 (aM x)))|(have a9:Below wr wr w5:=((Below.refl wr.heap.size wr).drewN' 1).after b5 (by first|omega|(simp;done)|(simp;omega))))
        |(refine iT rfl _ _ _ rfl 3 underlying24 aS wr.heap.size (aI p5 i5 q5) F rfl (aI (some ⟨_,0,none⟩) 1 1) [x] rfl ?_ ?_ f4.out wr ?_ aO ?_;(first|(with_reducible exact d5.alloc _)|(with_reducible exact d5));(refine aR.one ?_ k8.out;first|(with_reducible exact bB _ _ _ _ _ rfl)|(with_reducible exact j8));(first|(with_reducible exact a9.alloc a9.size _)|(with_reducible exact a9));intro v6 w6 o6 b6 _)
        |(go_simp;go_at_call 235;refine(f6.out _ w6 o6 b6).mono ?_;rintro e7 w7 ⟨rfl,q4,K7,j7,l5,g7⟩))
      all_goals
       obtain⟨p7,c7,rfl⟩:=j7.shape;have l1:=g2.trans ((GrownIn.of_below (P:=fun k=>k=J) b6).trans g7);have b9:kD D u F R=kD sets u F b1:=by rw[Y.out,a8.out]
       have f3:=aN b9;clear b9;go_wp2;go_roundw
       case rel=>exact⟨j+1,R,p7,c7,by omega,by go_num,K7,j7,l5,l2,by rw[<-a8.out];exact f3.out,l1⟩
       case measure=>simp[intOf];omega
   ·have i8:¬(j:Int)<(sets.length:Int):=aK;have i6:j=sets.length:=aK;have c6:y=kD sets u F (cN M F):=by rw[<-HE.out,<-b4,i6,List.drop_length];rfl
    have f5:=aN c6;clear b4 c6 i6;go_wp2;exact bodyPost_end (v:=.tuple #[]) (results_none rfl _ _ _) rfl ⟨rfl,_,K2,by rw[<-f5.out];exact hy,by rw[<-f5.out];exact b0,g2⟩
 case first=>
  by_cases a6:M.length<F.length
  ·have h9:(M.length:Int)<(F.length:Int):=aK;have hlo:cN M F=F:=by unfold cN;rw[if_pos a6]
   have N:=aN hlo;have b3:F≠[]:=by intro e;subst e;simp at a6
   have p6:=aN b3;clear hlo a6 b3;go_wp2_with fail;refine(kW _ F w g5 aK).mono ?_;rintro e w1 ⟨pc,ic,qc,rfl,oc,bc⟩;have l7:ic=F.length:=oc.ints.capLe.1;subst l7;have K1:=K.keep bc;have G1:=K1.cell;have F1:=K1.frozen;have z1:=K1.lt;clear G;go_wp2;go_meet;have KF:aU (w1.setCell ⟨J,0,none⟩ (aI pc F.length qc)) J 141 #[aI pc F.length qc]:=by have:=K1.set 0 (aI pc F.length qc);simpa using this
   have gF:w1.grownBy (w1.setCell ⟨J,0,none⟩ (aI pc F.length qc)) (some J):=dW (World.grownBy.refl _ _) 0 _;have h6:CA J (aI pc F.length qc) F:=fun _ k hk=>by have:=(oc.lt k hk).1;omega
   have hI:=(oc.setFar ⟨J,0,none⟩ (fun e=>by have:=(oc.lt J e).1;omega) (aI pc F.length qc)).ints;exact⟨pc,qc,by rw[N.out];exact KF,by rw[N.out];exact hI,by rw[N.out];exact h6,(GrownIn.of_below bc).trans (GrownIn.of_row gF (fun k hk=>(Option.some.inj hk).symm))⟩
  ·have h9:¬(M.length:Int)<(F.length:Int):=aK;have hlo:cN M F=M:=by unfold cN;rw[if_neg a6]
   have N:=aN hlo;clear hlo a6;go_wp2_with fail;go_meet;exact⟨ab,cb,by rw[N.out];exact K,by rw[N.out];exact hb,by rw[N.out];exact h7,GrownIn.refl _ _⟩
theorem TH(w:World)(g:Int)(v:Value)(l:List Int)(hv:aR w v l):
  Calls prog 125 #[.agg #[g,v]] w fun e w'=>∃ad i cp,e=.returned (.tuple #[aM ((lI g l).length:Int),aI ad i cp,.bool (bJ g l)])/\aR w' (aI ad i cp) (lI g l)/\Below w w w':=by
 have D:=hv;obtain⟨a,c,rfl⟩:=hv.shape;have K0:=aU.new w 31 #[g,aI a l.length c]
 cases F:bJ g l with
 |false=>
  have N:lI g l=[]:=by unfold lI;rw[F];rfl
  have M:=aN N;have S:=aN F;clear N F;go_enter func125,ntmps125;go_wp2_with fail;refine(dF g l _ _ (D.alloc _)).mono ?_;rintro e w1 ⟨rfl,z⟩;rw[S.out];go_wp2;exact bodyPost_ret (v:=.tuple #[aJ,(),.bool false]) (by simp[results,results125,go_sem]) rfl ⟨none,0,0,by rw[M.out];rfl,by rw[M.out];exact aR.empty _ _ _ _ rfl aY,(bF _ _).after z (by simp)⟩
 |true=>
  have N:lI g l=sI l:=by unfold lI;rw[F];rfl
  have hm:=dY F;have R:=jT F;have b7:(sI l).length<=64:=uD 64 l 0 [] [] (by simpa using R) (by simp);have I:∀K V,aR V (aI a l.length c) l->CA K (aI a l.length c) l->aU V K 141 #[()]->Calls prog 235 #[.pointer (some ⟨K,0,none⟩),aI a l.length c,aJ,()] V (IA K (sI l) V):=fun K V h1 h2 h3=>by have h:=QD K l.length l _ 0 [] (aI none 0 0) [] (aI none 0 0) V rfl hm h1 h2 (aR.empty _ _ _ _ rfl aY) (fun h=>absurd rfl h) h3 (aR.empty _ _ _ _ rfl aY) (fun h=>absurd rfl h) aK aK (by simpa using R) (by simp);rw[<-acF];exact h
  have M:=aN N;have S:=aN F;have HV:=aN I;clear N F I hm;go_enter func125,ntmps125;go_wp2_with fail;refine(dF g l _ _ (D.alloc _)).mono ?_;rintro e w1 ⟨rfl,z⟩;rw[S.out];have J:Below w w w1:=(bF _ _).after z (by simp);have K1:=K0.keep z;have K2:=K1.alloc (.cells #[()] 141);have G1:=K2.cell;have Z:=(D.below J aO).alloc (.cells #[()] 141);have hz:=K1.lt;have O:CA w1.heap.size (aI a l.length c) l:=fun Y k hk e=>by have h1:=XA D Y k hk;have h2:=J.size;omega
  clear z K0;go_wp2_with fail;refine(HV.out w1.heap.size _ Z O (aU.new _ _ _)).mono ?_;rintro e w2 ⟨rfl,bv,K3,hb,b8,g2⟩;obtain⟨pb,qb,rfl⟩:=hb.shape;have B2:Below w w w2:=Below.growIn (J.alloc J.size _) g2 (J.alloc J.size _).size (by rintro k rfl;exact J.size);have G3:=K3.cell;go_wp2_with fail;go_quiet (fail);go_wp2;exact bodyPost_ret (v:=.tuple #[aM ((sI l).length:Int),.slice pb (sI l).length qb,.bool true]) (by simp[results,results125,go_sem]) rfl ⟨pb,_,qb,by rw[M.out],by rw[M.out];exact hb.drewN _,B2.drewN' _⟩
theorem aaK{w:World}{cs:Array Value}{T:TypeId}{n i:Nat}{u:Value}(z:w.heap.size=n)(h:cs[i]?=some u):(w.alloc (.cells cs T)).cell? ⟨n,i,none⟩=some u:=by
 subst z;exact bB w cs T i u h
theorem YL(w:World)(g:Int)(v:Value)(l:List Int)(hv:aR w v l)(hl:l.length<=1048576)(hp:sV w):
  Calls prog 22 #[.agg #[g,v]] w fun e w'=>e=.returned (.string (wU g l))/\Below w w w':=by
 have S:=hv;obtain⟨a,c,rfl⟩:=hv.shape;have K0:=aU.new w 31 #[g,aI a l.length c]
 cases hf:bJ g l with
 |false=>have HX:=aN (Q9 hf);have HF:=aN hf;clear hf;go_enter func22,ntmps22;go_wp2_with fail;refine(dF g l _ _ (S.alloc _)).mono ?_;rintro e w1 ⟨rfl,b1⟩;rw[HF.out];go_wp2;go_ret;exact⟨cI HX.out.symm,(bF _ _).after b1 (by simp)⟩
 |true=>
  obtain⟨TT,j7⟩:=aQ (wU g l);have hx:cK eH (YK g l)=TT:=by rw[j7,CL hf];exact ahR g l
  unfold YK at hx;have x5:=TJ g l;have x6:=DT g l;have x8:=UG g l;obtain⟨bT,o6⟩:=aQ (kY g l);obtain⟨bS,j8⟩:=aQ (jR g l);rw[<-o6,<-j8]at hx;have d7:(bS=true->∀x∈eT g l,dD x)->TT.size<=11000:=fun h=>by rw[j7,CL hf];exact aaQ g l (by rw[<-j8];exact h)
  have x7:=BR g l;have x4:=uR g l;have p5:=fun(W:World) (h:aR W (aI a l.length c) l)=>ahA W g _ l h hl;have p1:=fun(W:World) (h:aR W (aI a l.length c) l)=>WF W g _ l h hl;simp only[<-o6]at p5;simp only[<-j8]at p1;have h8:=aN j7;have HX:=aN hx;have h7:=aN d7;have HF:=aN hf;have s5:=aN p5;have q9:=aN p1;clear hx hf p5 p1 j7 d7 o6 j8;go_enter func22,ntmps22;go_wp2_with fail;refine(dF g l _ _ (S.alloc _)).mono ?_;rintro e w1 ⟨rfl,b1⟩;rw[HF.out];have B:Below w w w1:=(bF _ _).after b1 (by simp);have K:=K0.keep b1;clear K0 b1;have G:=K.cell;go_wp2_with fail;refine(TH _ g _ l (S.below B aO)).mono ?_;rintro e w2 ⟨p2,i2,q2,rfl,hP,b2⟩;have t9:i2=(lI g l).length:=hP.capLe.1;subst t9;have B1:=B.after b2 B.size;have K1:=K.keep b2;clear B K G b2;obtain⟨I,d6⟩:=aQ w2.heap.size;have zb:w.heap.size<I:=by rw[d6];exact K1.lt
  have zc:w2.heap.size<=I:=aK;have L3:gT I (w2.alloc (.cells #[()] 45)) []:=by rw[d6];exact gT.new w2
  have K2:aU w2 w 31 #[g,aI a l.length c]:=K1;have B3:=B1.alloc B1.size (.cells #[()] 45);have C3:Below I w2 (w2.alloc (.cells #[()] 45)):=by rw[d6];exact bF w2 _
  have s3:=aN (show(w2.alloc (.cells #[()] 45)).heap.size=I+1 by rw[d6];simp);go_wp2_with fail;rw[<-d6];clear d6 K1;have r8:=L3.lt;refine(dQ I [] [(⟨#[99,111,118,101,114]⟩:ByteArray)] (I+1) 1 1 _ (L3.keep (bF _ _)) rfl (yM (aaK s3.out rfl)) (by simp only[List.length_cons,List.length_nil];omega)).mono ?_;rintro e y3 ⟨rfl,m8,r3⟩;have l6:=(B3.alloc B3.size _).after r3 aK;have q4:=(C3.alloc (Nat.le_of_lt r8) _).after r3 aO;clear B3 C3 L3;obtain⟨n2,z⟩:=aQ ([]++[(⟨#[99,111,118,101,114]⟩:ByteArray)]);rw[<-z]at m8;have w0:n2.length<=1:=by rw[z,List.length_append];first|(simp only[List.length_cons,List.length_nil];omega)|(have:=cT _ _;omega)|(simp[eB];omega)
  go_wp2_with fail;refine(eW I n2 (⟨#[112,97,99,107,105,110,103]⟩:ByteArray) (((lI g l).length:Int)) ⟨by omega,by omega⟩ _ m8 (hp.keep l6) aK).mono ?_;rintro e y4 ⟨rfl,i1,r4⟩;have g8:=l6.after r4 aK;have h6:=q4.after r4 aO;clear l6 q4 m8;obtain⟨n3,D⟩:=aQ (n2++[(⟨#[112,97,99,107,105,110,103]⟩:ByteArray),bQ (((lI g l).length:Int))]);rw[<-D]at i1;have w3:n3.length<=3:=by rw[D,List.length_append];first|(simp only[List.length_cons,List.length_nil];omega)|(have:=cT _ _;omega)|(simp[eB];omega)
  have G:=(bY K2 h6 zb).cell;go_wp2_with fail;clear G;refine(kQ g (lI g l) _ _ (hP.below h6 zc) (hp.keep g8)).mono ?_;rintro e u7 ⟨rfl,j1⟩;have l7:=g8.after j1 g8.size;have q5:=h6.after j1 (Nat.le_of_lt i1.lt);have m9:=i1.keep j1;clear g8 h6 i1 j1;go_wp2_with fail;have r9:=m9.lt;refine(dQ I n3 [(⟨#[111,102]⟩:ByteArray),dB g (lI g l)] u7.heap.size 2 2 _ (m9.keep (bF _ _)) rfl (fR (bB _ _ _ _ _ rfl) (bB _ _ _ _ _ rfl)) (by simp only[List.length_cons,List.length_nil];omega)).mono ?_;rintro e y5 ⟨rfl,i6,r5⟩;have g9:=(l7.alloc l7.size _).after r5 aK;have m2:=(q5.alloc (Nat.le_of_lt r9) _).after r5 aO;clear l7 q5 m9;obtain⟨b8,F⟩:=aQ (n3++[(⟨#[111,102]⟩:ByteArray),dB g (lI g l)]);rw[<-F]at i6;have w4:b8.length<=5:=by rw[F,List.length_append];first|(simp only[List.length_cons,List.length_nil];omega)|(have:=cT _ _;omega)|(simp[eB];omega)
  have G:=(bY K2 m2 zb).cell;go_wp2_with fail;clear G;refine(s5.out _ (S.below g9 aO)).mono ?_;rintro e y6 ⟨rfl,j2⟩;have b9:=g9.after j2 g9.size;have e7:=m2.after j2 (Nat.le_of_lt i6.lt);have e9:=i6.keep j2;clear g9 m2 i6 j2
  cases bT with
  |false=>
   have G:=(bY K2 e7 zb).cell;go_wp2_with fail;clear G;refine(q9.out _ (S.below b9 aO)).mono ?_;rintro e u8 ⟨pS,iS,qS,rfl,oS,c6⟩;have N:=b9.after c6 b9.size;have c5:=e7.after c6 (Nat.le_of_lt e9.lt);have a8:=e9.keep c6;clear b9 e7 e9 c6;have o9:iS=(fK g l).length:=oS.ints.capLe.1;subst o9
   cases bS with
   |false=>
    have hT:cK eH b8=TT:=by rw[F,D,z];exact HX.out
    have hz:=h7.out (fun h=>by cases h);rw[<-hT]at hz;have HT:=aN hT;clear hT z D F;obtain⟨lv,KL,oL⟩:=a8;have G:=KL.cell;go_wp2_with fail;clear G;refine(dP (I+1) lv b8 _ oL aK aK).mono ?_;rintro e wz ⟨rfl,bz⟩;go_wp2;go_ret;exact⟨cI (HT.out.trans h8.out),N.after bz N.size⟩
   |true=>
    have G:=(bY K2 c5 zb).cell;go_wp2_with fail;clear G;refine(CY _ g _ l (S.below N aO) hl).mono ?_;rintro e y9 ⟨pG,iG,qG,rfl,oG,j5⟩;have h5:=N.after j5 N.size;have m5:=c5.after j5 (Nat.le_of_lt a8.lt);have j0:=a8.keep j5;clear N c5 a8 j5;have o8:iG=(dM g l).length:=oG.ints.capLe.1;subst o8;have G:=(bY K2 m5 zb).cell;go_wp2_with fail;clear G;refine(OR _ g _ l (S.below h5 aO) hl).mono ?_;rintro e p9 ⟨pR,iR,qR,rfl,oR,j6⟩;have l9:=h5.after j6 h5.size;have q7:=m5.after j6 (Nat.le_of_lt j0.lt);have u2:=j0.lt;have b6:=oR.lt;have p0:=oR.ints.inR;have r0:tE I (aI pR iR qR) p9 b8:=j0.far j6 (fun k hk=>(b6 k hk).1);have l0:∀k,(Value.slice pR iR qR).ownBlock=some k->I<k/\k<p9.heap.size:=fun k hk=>⟨by have:=(b6 k hk).1;omega,(b6 k hk).2⟩;have k7:=oR.ints;clear h5 m5 j0 j6 oR b6;go_wp2_with fail;have HU:=aN l0;clear l0;refine(zD I (aI pR iR qR) b8 (⟨#[115,109,97,108,108,101,115,116]⟩:ByteArray) (((fK g l).length:Int)) ⟨by omega,by omega⟩ _ r0 HU.out (hp.keep l9) aK).mono ?_;rintro e q0 ⟨rfl,n1,o2,r7⟩;have m1:=l9.after o2 aK;have q8:=q7.after o2 aO;clear l9 q7 r0;obtain⟨o1,c8⟩:=aQ (b8++[(⟨#[115,109,97,108,108,101,115,116]⟩:ByteArray),bQ (((fK g l).length:Int))]);rw[<-c8]at n1;have w7:o1.length<=7:=by rw[c8,List.length_append];first|(simp only[List.length_cons,List.length_nil];omega)|(have:=cT _ _;omega)|(simp[eB];omega)
    have k9:p9.heap.size<=q0.heap.size:=o2.size;have l1:∀k,(Value.slice pR iR qR).ownBlock=some k->I<k/\k<q0.heap.size:=fun k hk=>⟨(HU.out k hk).1,Nat.lt_of_lt_of_le (HU.out k hk).2 k9⟩;have k8:=yX k7 k9 r7;clear k7 r7 HU;go_wp2_with fail;have HU:=aN l1;clear l1;refine(zD I (aI pR iR qR) o1 (⟨#[103,114,101,101,100,121]⟩:ByteArray) (((dM g l).length:Int)) ⟨by omega,by omega⟩ _ n1 HU.out (hp.keep m1) aK).mono ?_;rintro e g5 ⟨rfl,O,M,l2⟩;have J:=m1.after M aK;have Z:=q8.after M aO;clear m1 q8 n1;obtain⟨f0,a9⟩:=aQ (o1++[(⟨#[103,114,101,101,100,121]⟩:ByteArray),bQ (((dM g l).length:Int))]);rw[<-a9]at O;have s9:f0.length<=9:=by rw[a9,List.length_append];first|(simp only[List.length_cons,List.length_nil];omega)|(have:=cT _ _;omega)|(simp[eB];omega)
    have g0:q0.heap.size<=g5.heap.size:=M.size;have u0:∀k,(Value.slice pR iR qR).ownBlock=some k->I<k/\k<g5.heap.size:=fun k hk=>⟨(HU.out k hk).1,Nat.lt_of_lt_of_le (HU.out k hk).2 g0⟩;have o4:=yX k8 g0 l2;clear k8 l2 HU;go_wp2_with fail;have LL:=O.line;refine(kX I f0 (⟨#[112,114,105,99,101,115]⟩:ByteArray) _ (eT g l) _ o4 aK LL (hp.keep J) aK).mono ?_;rintro e c9 ⟨rfl,b7,R⟩;have Y:=J.after R aK;have e6:=Z.after R aO;clear J Z LL;obtain⟨f2,b0⟩:=aQ (f0++[(⟨#[112,114,105,99,101,115]⟩:ByteArray),eX (eT g l)]);rw[<-b0]at b7;have t1:f2.length<=11:=by rw[b0,List.length_append];first|(simp only[List.length_cons,List.length_nil];omega)|(have:=cT _ _;omega)|(simp[eB];omega)
    have d7:=h7.out (fun _=>p0);have hT:cK eH f2=TT:=by rw[b0,a9,c8,F,D,z];exact HX.out
    have hz:=d7;rw[<-hT]at hz;have HT:=aN hT;clear hT z D F c8 a9 b0;obtain⟨lv,KL,oL⟩:=b7;have G:=KL.cell;go_wp2_with fail;clear G;refine(dP (I+1) lv f2 _ oL aK aK).mono ?_;rintro e wz ⟨rfl,bz⟩;go_wp2;go_ret;exact⟨cI (HT.out.trans h8.out),Y.after bz Y.size⟩
  |true=>
   go_wp2_with fail;refine(eW I b8 (⟨#[116,114,97,110,115,118,101,114,115,97,108]⟩:ByteArray) (tC g l) ⟨by omega,by omega⟩ _ e9 (hp.keep b9) aK).mono ?_;rintro e u8 ⟨rfl,a8,c6⟩;have N:=b9.after c6 aK;have c5:=e7.after c6 aO;clear b9 e7 e9;obtain⟨o0,a1⟩:=aQ (b8++[(⟨#[116,114,97,110,115,118,101,114,115,97,108]⟩:ByteArray),bQ (tC g l)]);rw[<-a1]at a8;have w5:o0.length<=7:=by rw[a1,List.length_append];first|(simp only[List.length_cons,List.length_nil];omega)|(have:=cT _ _;omega)|(simp[eB];omega)
   have G:=(bY K2 c5 zb).cell;go_wp2_with fail;clear G;refine(gM g (mH g l) _ (hp.keep N)).mono ?_;rintro e u9 ⟨rfl,j3⟩;have l8:=N.after j3 N.size;have q6:=c5.after j3 (Nat.le_of_lt a8.lt);have n0:=a8.keep j3;clear N c5 a8 j3;go_wp2_with fail;have s0:=n0.lt;refine(dQ I o0 [(⟨#[98,121]⟩:ByteArray),bZ g (mH g l)] u9.heap.size 2 2 _ (n0.keep (bF _ _)) rfl (fR (bB _ _ _ _ _ rfl) (bB _ _ _ _ _ rfl)) (by simp only[List.length_cons,List.length_nil];omega)).mono ?_;rintro e y7 ⟨rfl,i7,r6⟩;have h0:=(l8.alloc l8.size _).after r6 aK;have m3:=(q6.alloc (Nat.le_of_lt s0) _).after r6 aO;clear l8 q6 n0;obtain⟨d5,a6⟩:=aQ (o0++[(⟨#[98,121]⟩:ByteArray),bZ g (mH g l)]);rw[<-a6]at i7;have w6:d5.length<=9:=by rw[a6,List.length_append];first|(simp only[List.length_cons,List.length_nil];omega)|(have:=cT _ _;omega)|(simp[eB];omega)
   have G:=(bY K2 m3 zb).cell;go_wp2_with fail;clear G;refine(q9.out _ (S.below h0 aO)).mono ?_;rintro e y8 ⟨pS,iS,qS,rfl,oS,j4⟩;have d0:=h0.after j4 h0.size;have m4:=m3.after j4 (Nat.le_of_lt i7.lt);have i8:=i7.keep j4;clear h0 m3 i7 j4;have o9:iS=(fK g l).length:=oS.ints.capLe.1;subst o9
   cases bS with
   |false=>
    have hT:cK eH d5=TT:=by rw[a6,a1,F,D,z];exact HX.out
    have hz:=h7.out (fun h=>by cases h);rw[<-hT]at hz;have HT:=aN hT;clear hT z D F a1 a6;obtain⟨lv,KL,oL⟩:=i8;have G:=KL.cell;go_wp2_with fail;clear G;refine(dP (I+1) lv d5 _ oL aK aK).mono ?_;rintro e wz ⟨rfl,bz⟩;go_wp2;go_ret;exact⟨cI (HT.out.trans h8.out),d0.after bz d0.size⟩
   |true=>
    have G:=(bY K2 m4 zb).cell;go_wp2_with fail;clear G;refine(CY _ g _ l (S.below d0 aO) hl).mono ?_;rintro e g5 ⟨pG,iG,qG,rfl,oG,M⟩;have J:=d0.after M d0.size;have Z:=m4.after M (Nat.le_of_lt i8.lt);have O:=i8.keep M;clear d0 m4 i8 M;have o8:iG=(dM g l).length:=oG.ints.capLe.1;subst o8;have G:=(bY K2 Z zb).cell;go_wp2_with fail;clear G;refine(OR _ g _ l (S.below J aO) hl).mono ?_;rintro e c9 ⟨pR,iR,qR,rfl,oR,R⟩;have Y:=J.after R J.size;have e6:=Z.after R (Nat.le_of_lt O.lt);have u2:=O.lt;have b6:=oR.lt;have p0:=oR.ints.inR;have b7:tE I (aI pR iR qR) c9 d5:=O.far R (fun k hk=>(b6 k hk).1);have g3:∀k,(Value.slice pR iR qR).ownBlock=some k->I<k/\k<c9.heap.size:=fun k hk=>⟨by have:=(b6 k hk).1;omega,(b6 k hk).2⟩;have f8:=oR.ints;clear J Z O R oR b6;go_wp2_with fail;have HU:=aN g3;clear g3;refine(zD I (aI pR iR qR) d5 (⟨#[115,109,97,108,108,101,115,116]⟩:ByteArray) (((fK g l).length:Int)) ⟨by omega,by omega⟩ _ b7 HU.out (hp.keep Y) aK).mono ?_;rintro e g6 ⟨rfl,e8,f6,l3⟩;have e4:=Y.after f6 aK;have k2:=e6.after f6 aO;clear Y e6 b7;obtain⟨f3,b3⟩:=aQ (d5++[(⟨#[115,109,97,108,108,101,115,116]⟩:ByteArray),bQ (((fK g l).length:Int))]);rw[<-b3]at e8;have t6:f3.length<=11:=by rw[b3,List.length_append];first|(simp only[List.length_cons,List.length_nil];omega)|(have:=cT _ _;omega)|(simp[eB];omega)
    have g1:c9.heap.size<=g6.heap.size:=f6.size;have g4:∀k,(Value.slice pR iR qR).ownBlock=some k->I<k/\k<g6.heap.size:=fun k hk=>⟨(HU.out k hk).1,Nat.lt_of_lt_of_le (HU.out k hk).2 g1⟩;have f9:=yX f8 g1 l3;clear f8 l3 HU;go_wp2_with fail;have HU:=aN g4;clear g4;refine(zD I (aI pR iR qR) f3 (⟨#[103,114,101,101,100,121]⟩:ByteArray) (((dM g l).length:Int)) ⟨by omega,by omega⟩ _ e8 HU.out (hp.keep e4) aK).mono ?_;rintro e l5 ⟨rfl,k4,f7,l4⟩;have e5:=e4.after f7 aK;have k3:=k2.after f7 aO;clear e4 k2 e8;obtain⟨f4,b4⟩:=aQ (f3++[(⟨#[103,114,101,101,100,121]⟩:ByteArray),bQ (((dM g l).length:Int))]);rw[<-b4]at k4;have t7:f4.length<=13:=by rw[b4,List.length_append];first|(simp only[List.length_cons,List.length_nil];omega)|(have:=cT _ _;omega)|(simp[eB];omega)
    have g2:g6.heap.size<=l5.heap.size:=f7.size;have u1:∀k,(Value.slice pR iR qR).ownBlock=some k->I<k/\k<l5.heap.size:=fun k hk=>⟨(HU.out k hk).1,Nat.lt_of_lt_of_le (HU.out k hk).2 g2⟩;have o5:=yX f9 g2 l4;clear f9 l4 HU;go_wp2_with fail;have LL:=k4.line;refine(kX I f4 (⟨#[112,114,105,99,101,115]⟩:ByteArray) _ (eT g l) _ o5 aK LL (hp.keep e5) aK).mono ?_;rintro e x0 ⟨rfl,k5,k6⟩;have k1:=e5.after k6 aK;have v7:=k3.after k6 aO;clear e5 k3 LL;obtain⟨f5,b5⟩:=aQ (f4++[(⟨#[112,114,105,99,101,115]⟩:ByteArray),eX (eT g l)]);rw[<-b5]at k5;have t8:f5.length<=15:=by rw[b5,List.length_append];first|(simp only[List.length_cons,List.length_nil];omega)|(have:=cT _ _;omega)|(simp[eB];omega)
    have d7:=h7.out (fun _=>p0);have hT:cK eH f5=TT:=by rw[b5,b4,b3,a6,a1,F,D,z];exact HX.out
    have hz:=d7;rw[<-hT]at hz;have HT:=aN hT;clear hT z D F a1 a6 b3 b4 b5;obtain⟨lv,KL,oL⟩:=k5;have G:=KL.cell;go_wp2_with fail;clear G;refine(dP (I+1) lv f5 _ oL aK aK).mono ?_;rintro e wz ⟨rfl,bz⟩;go_wp2;go_ret;exact⟨cI (HT.out.trans h8.out),k1.after bz k1.size⟩
end
end Go.Proofs.YtcpoomdoodlkjaaGreatDoor
