/- Lemmas for CardReports. No condition. -/
import Derived.Test.YtcpoomdoodlkjaaGreatDoorQ24
import Derived.Test.YtcpoomdoodlkjaaGreatDoorQ27
import Derived.Test.YtcpoomdoodlkjaaGreatDoorQ36
set_option maxRecDepth 100000
set_option maxHeartbeats 64000000
namespace Go.Proofs.YtcpoomdoodlkjaaGreatDoor
section
open Go.RowKit Go.G5 Go.Proofs.Tryz
theorem ah6(s u:Int):AG s u=(!(bK s u != 0)&&!(s==0)):=by
 unfold AG
 cases h1:bK s u==0<;>cases h2:s==0<;>simp_all
theorem agU(l:List Int)(j:Nat)(h:j<l.length)(u:Int)(c b:List Int):jQ (l.drop j) u c b=if AG l[j] u then jQ (l.drop (j+1)) u c (cN b (jQ (l.drop (j+1)) (fT u l[j]) (c++[l[j]]) (c++[l[j]]))) else jQ (l.drop (j+1)) u c b:=by
 rw[List.drop_eq_getElem_cons h,jQ]
theorem VO(l:List Int)(lv:Value)(hm:∀x∈l,0<=x/\x<64)(hl:l.length<=64):∀(m k:Nat) (u:Int) (F:List Int) (v:Value) (w:World) (B:Nat),k+m=l.length->aR w lv l->aP 3 B w v F->B<=w.heap.size->0<=u->u<64->F.length+m<=64 ->
  Calls prog 238 #[lv,k,u,v] w fun e w'=>∃a i q,e=.returned (aI a i q)/\aP 3 B w' (aI a i q) (jQ (l.drop k) u F F)/\Below w w w':=by
 have HM:=aN hm;clear hm;intro m
 induction m using Nat.strongRecOn with
 |ind m ih=>
 intro k u F v w B j1 d5 own hB b5 j5 hcm;have d6:=d5;obtain⟨a,b,f8,cp,rfl,d0,c9,hc,hb⟩:=d5.view prog 24 3 underlying24 aS;obtain⟨av,cv,rfl⟩:=own.shape;have HC:=aN hc;have e7:=aN c9;have IH:=aN ih;clear hc c9 ih d0;go_enter func238,ntmps238;go_wp2_with fail;go_loopw [9,10] (fun bv iv wr=>∃(j:Nat) (x:List Int) (p:Option Addr) (n q:Nat),k<=j/\j<=l.length/\iv=aM j/\bv=aI p n q/\aP 3 B wr (aI p n q) x/\x.length<=64/\jQ (l.drop j) u F x=jQ (l.drop k) u F F/\Below w w wr) (fun _ iv _=>l.length-(intOf iv).toNat)
 case atStart=>exact⟨k,F,_,_,_,aO,by omega,rfl,rfl,own,by omega,rfl,Below.refl _ _⟩
 case round=>
  obtain⟨j,y,p,n,q,j0,hj,rfl,rfl,ox,O,a1,S⟩:=hrel;have f4:=ox.ints.capLe.1;subst f4;by_cases hlt:j<l.length
  ·have g1:(j:Int)<(l.length:Int):=aK;have Y:=aW HC.out hb S aO j hlt;have i8:=fun W=>e7.out W j hlt;have a6:=HM.out _ (List.getElem_mem hlt);have D:=agU l j hlt u F y;rw[a1]at D;have yw:=S.size;have ol:=own.keep S;obtain⟨x,hx⟩:=aQ (l[j]);rw[<-hx]at Y a6 D;have c7:bits .and .i64 x u=bK x u:=eG a6.1 aK b5 aK;have J:=ah6 x u;obtain⟨z,hz⟩:=aQ (bK x u);rw[<-hz]at c7 J;clear hx hz a1
   cases h1:z != 0 with
   |true=>
    have N:AG x u=false:=by rw[J,h1];rfl
    rw[N]at D;have K:=aN D;clear D N J;go_wp2;go_roundw
    case rel=>exact⟨j+1,y,p,_,q,by omega,by omega,by go_num,rfl,ox,O,K.out.symm,S⟩
    case measure=>simp[intOf];omega
   |false=>
    cases h2:x==0 with
    |true=>
     have N:AG x u=false:=by rw[J,h1,h2];rfl
     rw[N]at D;have K:=aN D;clear D N J;go_wp2;go_roundw
     case rel=>exact⟨j+1,y,p,_,q,by omega,by omega,by go_num,rfl,ox,O,K.out.symm,S⟩
     case measure=>simp[intOf];omega
    |false=>
     have a9:AG x u=true:=by rw[J,h1,h2];rfl
     rw[a9,if_pos rfl]at D;have f5:bits .or .i64 u x=fT u x:=xQ b5 aK a6.1 aK;have b4:=JN u x 6 b5 a6.1 aK aK;obtain⟨u2,d9⟩:=aQ (fT u x);rw[<-d9]at f5 b4 D;have d7:=b4.1;have d8:u2<64:=aK;obtain⟨R,hR⟩:=aQ (jQ (l.drop (j+1)) u2 (F++[x]) (F++[x]));have f0:R.length<=64:=by rw[hR];exact uD 64 _ _ _ _ aV aV
     have a8:∀(v2:Value) (w2:World),aP 3 wr w2 v2 (([]++F)++[x])->Below wr wr w2 ->
       Calls prog 238 #[aI a l.length cp,aM ((j:Int)+1),u2,v2] w2 fun e w'=>∃ad i q,e=.returned (aI ad i q)/\aP 3 wr w' (aI ad i q) R/\Below w2 w2 w':=fun v2 w2 q1 q2=>by
      rw[hR,show(j:Int)+1=((j+1:Nat):Int) by simp];rw[List.nil_append]at q1;exact IH.out (l.length-(j+1)) aK (j+1) u2 _ v2 w2 wr.heap.size aK (d6.below (S.after q2 S.size) aO) q1 q2.size d7 d8 (by rw[List.length_append,List.length_singleton];omega)
     rw[<-hR]at D;have b8:=aN a8;have K:=aN D;have b9:([]:List Int).length+F.length<=17592186044416:=by simp;omega
     have c5:([]++F).length + [x].length<=17592186044416:=by simp;omega
     have c6:dD x:=⟨by omega,by omega⟩;have j6:IntKind.i64.wrap ((j:Int)+1)=(j:Int)+1:=by rw[IntKind.wrap_i64];omega
     have b6:=aN b9;have b7:=aN c5;have e9:=aN c6;clear a8 D hR d9 b4 a9 J b9 c5 c6;go_wp2_with fail;go_region_held3 (fun w'=>w'.cell? ⟨b,f8+j,none⟩=some (aM x)) (go_keep)
      (first
       |(refine iT rfl _ _ _ rfl 3 underlying24 aS wr.heap.size (aI (some ⟨_,0,none⟩) 0 0) [] rfl (aI av F.length cv) F rfl ?_ ?_ b6.out wr ?_ aO ?_;(first|(with_reducible exact(aP.lit0 wr aO).drew')|(with_reducible exact((aP.lit0 wr aO).alloc _).drew')|(with_reducible exact(aP.lit0' wr _).drew'));(first|(with_reducible exact(ol.ints.alloc _).drew')|(with_reducible exact((ol.ints.alloc _).alloc _).drew'));(first|(with_reducible exact(bF wr _).drew)|(with_reducible exact(wM wr _ _).drew));(intro v1 w1 o1 b1 pc;have j2:=keep b1 Y))
       |(refine iT rfl _ _ _ rfl 3 underlying24 aS wr.heap.size v1 ([]++F) rfl (aI (some ⟨_,0,none⟩) 1 1) [x] rfl ?_ ?_ b7.out wr ?_ aO ?_;(first|(with_reducible exact o1)|(with_reducible exact o1.alloc _));(refine aR.one ?_ e9.out;first|(with_reducible exact bB _ _ _ _ _ rfl)|(with_reducible exact pc _ _ (sY _ _ _ _) (AJ _ _ _))|(with_reducible exact pc _ _ (uL _ _ _ _) (AK _ _ _)));(first|(with_reducible exact b1)|(with_reducible exact b1.alloc b1.size _));(intro v2 w2 o2 b2 _;have j3:=keep b2 Y))
       |(go_at_call 238;with_reducible refine(b8.out v2 w2 o2 b2).mono ?_;rintro e3 w3 ⟨p3,i3,q3,rfl,o3,b3⟩;have b0:=b2.after b3 b2.size;have j4:=keep b0 Y)
      )
     all_goals
      have f2:i3=R.length:=o3.ints.capLe.1;subst f2;have B3:Below w w w3:=S.after b0 S.size;have f9:=ox.keep b0;by_cases Z:y.length<R.length
      ·have c8:(y.length:Int)<(R.length:Int):=aK;have hlo:cN y R=R:=by unfold cN;rw[if_pos Z]
       have I:jQ (l.drop (j+1)) u F R=jQ (l.drop k) u F F:=by rw[K.out,hlo]
       have M:=aN I;have f7:=o3.mono (B':=B) aK;clear hlo I Z;go_wp2;go_roundw
       case rel=>exact⟨j+1,R,p3,_,q3,by omega,by omega,by go_num,rfl,f7,f0,M.out,B3⟩
       case measure=>simp[intOf];omega
      ·have c8:¬(y.length:Int)<(R.length:Int):=aK;have hlo:cN y R=y:=by unfold cN;rw[if_neg Z]
       have I:jQ (l.drop (j+1)) u F y=jQ (l.drop k) u F F:=by rw[K.out,hlo]
       have M:=aN I;clear hlo I Z;go_wp2;go_roundw
       case rel=>exact⟨j+1,y,p,_,q,by omega,by omega,by go_num,rfl,f9,O,M.out,B3⟩
       case measure=>simp[intOf];omega
  ·have f3:j=l.length:=aK;have a7:y=jQ (l.drop k) u F F:=by rw[<-a1,f3,List.drop_length];rfl
   have e8:=aN a7;clear a1 a7;go_wp2;go_ret;exact⟨_,_,_,rfl,by rw[<-e8.out];exact ox,S⟩
theorem TI(w:World)(g:Int)(v:Value)(l:List Int)(hv:aR w v l):
  Calls prog 130 #[.agg #[g,v]] w fun e w'=>∃ad i Z,e=.returned (.tuple #[aM ((lI g l).length:Int),aI ad i Z,.bool (bJ g l)])/\aR w' (aI ad i Z) (lI g l)/\Below w w w':=by
 have I:=hv;obtain⟨a,c,rfl⟩:=hv.shape;have S:=aU.new w 31 #[g,aI a l.length c]
 cases F:bJ g l with
 |false=>
  have K:lI g l=[]:=by unfold lI;rw[F];rfl
  have J:=aN K;have N:=aN F;clear K F;go_enter func130,ntmps130;go_wp2_with fail;refine(cS g l _ _ (I.alloc _)).mono ?_;rintro e w1 ⟨rfl,z⟩;rw[N.out];have D:Below w w w1:=(bF _ _).after z (by simp);go_wp2;exact bodyPost_ret (v:=.tuple #[aJ,aI (some ⟨w1,0,none⟩) 0 0,.bool false]) (by simp[results,results130,go_sem]) rfl ⟨_,0,0,by rw[J.out];rfl,by rw[J.out];exact aR.empty _ _ _ _ rfl aY,D.alloc D.size _⟩
 |true=>
  have K:lI g l=sI l:=by unfold lI;rw[F];rfl
  have hm:=dY F;have M:=jT F;have hp:∀W v,aR W (aI a l.length c) l->aP 3 W (W.alloc (.cells #[] 3)) v []->Calls prog 238 #[aI a l.length c,aJ,aJ,v] (W.alloc (.cells #[] 3)) fun e w'=>∃a i q,e=.returned (aI a i q)/\aP 3 W w' (aI a i q) (sI l)/\Below (W.alloc (.cells #[] 3)).heap.size (W.alloc (.cells #[] 3)) w':=fun W v h1 h2=>by exact VO l _ hm M l.length 0 0 [] v _ W.heap.size aK (h1.alloc _) h2 (by simp) aK aK (by simpa using M)
  have J:=aN K;have N:=aN F;have HP:=aN hp;clear K F hp hm;go_enter func130,ntmps130;go_wp2_with fail;refine(cS g l _ _ (I.alloc _)).mono ?_;rintro e w1 ⟨rfl,z⟩;rw[N.out];have D:Below w w w1:=(bF _ _).after z (by simp);have Y:=S.keep z;have G1:=Y.cell;have z1:=Y.lt;have R:=I.below D aO;clear z S;go_wp2_with fail;refine(HP.out w1 _ R (aP.lit0 w1 aO)).mono ?_;rintro e w2 ⟨p2,i2,q2,rfl,o2,b2⟩;have O:i2=(sI l).length:=o2.ints.capLe.1;subst O;have B2:Below w w w2:=(D.alloc D.size _).after b2 (D.alloc D.size _).size;go_wp2;exact bodyPost_ret (v:=.tuple #[aM ((sI l).length:Int),.slice p2 (sI l).length q2,.bool true]) (by simp[results,results130,go_sem]) rfl ⟨p2,_,q2,by rw[J.out],by rw[J.out];exact o2.ints,B2⟩
theorem YM(w:World)(g:Int)(v:Value)(l:List Int)(hv:aR w v l)(hl:l.length<=1048576):
  Calls prog 23 #[.agg #[g,v]] w fun e w'=>e=.returned (.string (wU g l))/\Below w w w':=by
 have D:=hv;obtain⟨a,c,rfl⟩:=hv.shape;have K0:=aU.new w 31 #[g,aI a l.length c]
 cases hf:bJ g l with
 |false=>have HX:=aN (Q9 hf);have HF:=aN hf;clear hf;go_enter func23,ntmps23;go_wp2_with fail;refine(cS g l _ _ (D.alloc _)).mono ?_;rintro e w1 ⟨rfl,b1⟩;rw[HF.out];go_wp2;go_ret;exact⟨cI HX.out.symm,(bF _ _).after b1 (by simp)⟩
 |true=>
  have d0:=aN (CL hf);have k8:=TJ g l;have k9:=DT g l;have l1:=UG g l;have l0:=BR g l;have k7:=uR g l;have e4:=cW ((lI g l).length:Int) ⟨by omega,by omega⟩;have e0:=fC g (lI g l);have e5:=fF g (mH g l);have e6:=cW (tC g l) ⟨by omega,by omega⟩;obtain⟨bT,b0⟩:=aQ (kY g l);obtain⟨bS,a9⟩:=aQ (jR g l);have c6:=fun(W:World) (h:aR W (aI a l.length c) l)=>ahB W g _ l h hl;have c5:=fun(W:World) (h:aR W (aI a l.length c) l)=>WG W g _ l h hl;simp only[<-b0]at c6;simp only[<-a9]at c5;have HF:=aN hf;have f7:=aN c6;have f6:=aN c5;have J:=aN (And.intro b0 a9);clear hf c6 c5 b0 a9;go_enter func23,ntmps23;go_wp2_with fail;refine(cS g l _ _ (D.alloc _)).mono ?_;rintro e w1 ⟨rfl,b1⟩;rw[HF.out];have B:Below w w w1:=(bF _ _).after b1 (by simp);have K:=K0.keep b1;clear K0 b1;have G:=K.cell;go_wp2_with fail;refine(TI _ g _ l (D.below B aO)).mono ?_;rintro e w2 ⟨p2,i2,q2,rfl,hP,b2⟩;have i6:i2=(lI g l).length:=hP.capLe.1;subst i6;have B1:=B.after b2 B.size;have K1:=K.keep b2;clear B K G b2;obtain⟨N,hN⟩:=aQ (bQ ((lI g l).length:Int));obtain⟨A,hA⟩:=aQ (dB g (lI g l));rw[<-hN]at e4;rw[<-hA]at e0;have I:=aN (And.intro hN hA);clear hN hA;go_upto_region 4 with fail;go_cut [6] (fun v wx=>∃X,v=.string X/\X=EL N A/\Below w2 w2 wx)
  case rest=>
   obtain⟨X,rfl,hX,b3⟩:=hcut;have i1:X.size<=10100:=by rw[hX];exact I2 N A e4 e0
   have HX:=aN hX;have B3:=B1.after b3 B1.size;have K3:=K1.keep b3;clear hX b3 B1 K1 hP;have G:=K3.cell;go_wp2_with fail;refine(f7.out _ (D.below B3 aO)).mono ?_;rintro e w4 ⟨rfl,b4⟩;have B4:=B3.after b4 B3.size;have K4:=K3.keep b4;clear B3 K3 G b4;obtain⟨M,hM⟩:=aQ (bQ (tC g l));obtain⟨S,hS⟩:=aQ (bZ g (mH g l));rw[<-hM]at e6;rw[<-hS]at e5;have F:=aN (And.intro hM hS);clear hM hS;go_upto_if 41 with fail;go_cut [6] (fun v wx=>∃X2,v=.string X2/\X2=EM bT X M S/\Below w4 w4 wx)
   case rest=>
    obtain⟨X2,rfl,a8,b5⟩:=hcut;have j7:X2.size<=10300:=by rw[a8];exact I3 bT X M S i1 e6 e5
    have d5:=aN a8;have B5:=B4.after b5 B4.size;have K5:=K4.keep b5;clear a8 b5 B4 K4;have G:=K5.cell;go_wp2_with fail;refine(f6.out _ (D.below B5 aO)).mono ?_;rintro e w6 ⟨pS,iS,qS,rfl,oS,b6⟩;have i8:iS=(fK g l).length:=oS.ints.capLe.1;subst i8;have B6:=B5.after b6 B5.size;have K6:=K5.keep b6;clear B5 K5 G b6
    cases bS with
    |false=>
     have z:X2=wU g l:=by rw[d0.out];unfold CM;rw[<-J.out.1,<-J.out.2,d5.out,HX.out,F.out.1,F.out.2,I.out.1,I.out.2];rfl
     have Y:=aN z;clear z;go_wp2;go_ret;exact⟨cI Y.out,B6⟩
    |true=>
     have G:=K6.cell;go_wp2_with fail;refine(N7 _ g _ l (D.below B6 aO) hl).mono ?_;rintro e w7 ⟨pG,iG,qG,rfl,oG,b7⟩;have i7:iG=(dM g l).length:=oG.ints.capLe.1;subst i7;have B7:=B6.after b7 B6.size;have K7:=K6.keep b7;clear B6 K6 G b7;have G:=K7.cell;go_wp2_with fail;refine(acN _ g _ l (D.below B7 aO) hl).mono ?_;rintro e w8 ⟨pR,iR,qR,rfl,oR,b8⟩;have B8:=B7.after b8 B7.size;have h7:=oR.ints.inR;clear B7 K7 G b8;have h1:=fX ((fK g l).length:Int) ⟨by omega,by omega⟩ w8;have s1:=cW ((fK g l).length:Int) ⟨by omega,by omega⟩;have h2:=fun W:World=>fX ((dM g l).length:Int) ⟨by omega,by omega⟩ W;have s2:=cW ((dM g l).length:Int) ⟨by omega,by omega⟩;have h3:=fun(W:World) (hb:Below w8 w8 W)=>vJ (eT g l) _ W (oR.ints.below hb aO) aK;have s3:(eX (eT g l)).size<=200:=by have:=lP _ h7;omega
     obtain⟨A1,a1⟩:=aQ (bQ ((fK g l).length:Int));obtain⟨A2,a6⟩:=aQ (bQ ((dM g l).length:Int));obtain⟨A3,a7⟩:=aQ (eX (eT g l));rw[<-a1]at h1 s1;simp only[<-a6]at h2 s2;simp only[<-a7]at h3 s3;have z:EN true X2 A1 A2 A3=wU g l:=by rw[d0.out];unfold CM;rw[<-J.out.1,<-J.out.2,d5.out,HX.out,F.out.1,F.out.2,I.out.1,I.out.2,a1,a6,a7]
     have Y:=aN z;have H1:=aN h1;have H2:=aN h2;have H3:=aN h3;clear z h1 h2 h3 a1 a6 a7;have e1:(⟨#[32,115,109,97,108,108,101,115,116,32]⟩:ByteArray).size=10:=rfl;have e2:(⟨#[32,103,114,101,101,100,121,32]⟩:ByteArray).size=8:=rfl;have e3:(⟨#[32,112,114,105,99,101,115,32]⟩:ByteArray).size=8:=rfl;go_wp2_with fail;refine H1.out.mono ?_;rintro e w9 ⟨rfl,b9⟩;go_wp2_with fail;refine(H2.out w9).mono ?_;rintro e wa ⟨rfl,ba⟩;have ba:=b9.after ba b9.size;go_wp2_with fail;refine(H3.out wa ba).mono ?_;rintro e wb ⟨rfl,bb⟩;have bb:=ba.after bb ba.size;go_wp2;go_ret;exact⟨cI Y.out,B8.after bb B8.size⟩
   case first=>
    cases bT with
    |false=>go_wp2_with fail;go_meet;exact⟨X,rfl,rfl,Below.refl _ _⟩
    |true=>
     have G:=K4.cell;have Z:=G 0;simp only[List.getElem?_toArray,List.getElem?_cons_zero]at Z;have q0:∀y:Ext w4,y.w.cell? ⟨w.heap.size,0,none⟩=some (aM g):=fun y=>y.cell Z;have O:=fun y:Ext w4=>fX (tC g l) ⟨by omega,by omega⟩ y.w;have R:=fun y:Ext w4=>kS g (mH g l) y.w;simp only[<-F.out.1]at O;simp only[<-F.out.2]at R;have O:=aN O;have R:=aN R;clear G Z;go_wp2_with fail;refine bN _ aT aT ?_
     repeat(first|go_big_quiet_skip|(go_big_quiet_want;go_big_quiet_op;first|go_big_quiet_on|(apply Exists.intro;refine⟨fun _=>?_,?_⟩;(first|(go_at_call 54;with_reducible exact bO (O.out _))|(go_at_call 80;with_reducible exact bO (R.out _)));go_big_quiet_on)))
     refine wpQuiet_nil ?_;rintro w5 ⟨⟨w5,b5⟩,rfl⟩
     try dsimp only
     go_wp2_with fail;go_meet;exact⟨_,rfl,rfl,b5⟩
  case first=>
   have G:=K1.cell;have Z:=G 0;simp only[List.getElem?_toArray,List.getElem?_cons_zero]at Z;have q0:∀y:Ext w2,y.w.cell? ⟨w.heap.size,0,none⟩=some (aM g):=fun y=>y.cell Z;have O:=fun y:Ext w2=>fX ((lI g l).length:Int) ⟨by omega,by omega⟩ y.w;have R:=fun y:Ext w2=>kR g (lI g l) _ y.w (hP.keep y.b);simp only[<-I.out.1]at O;simp only[<-I.out.2]at R;have O:=aN O;have R:=aN R;clear G Z;refine bN _ aT aT ?_
   repeat(first|go_big_quiet_skip|(go_big_quiet_want;go_big_quiet_op;first|go_big_quiet_on|(apply Exists.intro;refine⟨fun _=>?_,?_⟩;(first|(go_at_call 54;with_reducible exact bO (O.out _))|(go_at_call 79;with_reducible exact bO (R.out _)));go_big_quiet_on)))
   refine wpQuiet_nil ?_;rintro w3 ⟨⟨w3,b3⟩,rfl⟩
   try dsimp only
   go_wp2_with fail;go_meet;exact⟨_,rfl,rfl,b3⟩
def TC(N M:ByteArray):List ByteArray:=[(⟨#[111,114,100,101,114]⟩:ByteArray),(⟨#[99,104,97,105,110]⟩:ByteArray),N,(⟨#[108,101,118,101,108,115]⟩:ByteArray),M]
def H8(N M:ByteArray):ByteArray:=(⟨#[111,114,100,101,114,32,99,104,97,105,110,32]⟩:ByteArray)++N++(⟨#[32,108,101,118,101,108,115,32]⟩:ByteArray)++M
theorem ah7(N M:ByteArray):cK dS (TC N M)=H8 N M:=by
 unfold TC H8;simp only[mY,oK];refine eV ?_;simp[dS]
theorem ab8(N M:ByteArray)(h1:N.size<=21)(h2:M.size<=21):(H8 N M).size<=100:=by
 unfold H8;simp only[ByteArray.size_append];have e1:(⟨#[111,114,100,101,114,32,99,104,97,105,110,32]⟩:ByteArray).size=12:=rfl;have e2:(⟨#[32,108,101,118,101,108,115,32]⟩:ByteArray).size=8:=rfl;omega
def olB(W:ByteArray)(b:Bool)(N:ByteArray):List ByteArray:=if b then [W,N] else []
def AB(W:ByteArray)(b:Bool)(X N:ByteArray):ByteArray:=if b then X++(dS++W++dS)++N else X
theorem TD(W:ByteArray)(b:Bool)(X N:ByteArray):X++mG (olB W b N)=AB W b X N:=by
 cases b with
 |false=>exact eV (by rw[kE];show X.data.toList++[]=X.data.toList;simp)
 |true=>refine eV ?_;simp[olB,AB,mG,dS]
theorem DQ(W:ByteArray)(b:Bool)(X N:ByteArray)(k m:Nat)(D:W.size<=20)(F:X.size<=k)(z:N.size<=m):(AB W b X N).size<=k+m+22:=by
 cases b with
 |false=>show X.size<=_;omega
 |true=>unfold AB;rw[if_pos rfl];simp only[ByteArray.size_append];have e1:dS.size=1:=rfl;omega
theorem T7:dS++(⟨#[97,110,116,105,99,104,97,105,110]⟩:ByteArray)++dS=(⟨#[32,97,110,116,105,99,104,97,105,110,32]⟩:ByteArray):=rfl
theorem T8:dS++(⟨#[105,110,116,101,114,118,97,108,115]⟩:ByteArray)++dS=(⟨#[32,105,110,116,101,114,118,97,108,115,32]⟩:ByteArray):=rfl
theorem T9:dS++(⟨#[115,117,110,102,108,111,119,101,114]⟩:ByteArray)++dS=(⟨#[32,115,117,110,102,108,111,119,101,114,32]⟩:ByteArray):=rfl
def olL(g:Int)(l:List Int):List ByteArray:=((TC (bQ ((wO g l).length:Int)) (bQ ((eM g l).length:Int))++olB (⟨#[97,110,116,105,99,104,97,105,110]⟩:ByteArray) (uU g l) (dB g (sL g l)))++olB (⟨#[105,110,116,101,114,118,97,108,115]⟩:ByteArray) (xS g l) (eX (nU g l)))++olB (⟨#[115,117,110,102,108,111,119,101,114]⟩:ByteArray) (nK g l 3) (bZ g (mO (kA g l 3)))
def M8(g:Int)(l:List Int):ByteArray:=H8 (bQ ((wO g l).length:Int)) (bQ ((eM g l).length:Int))
def M9(g:Int)(l:List Int):ByteArray:=AB (⟨#[97,110,116,105,99,104,97,105,110]⟩:ByteArray) (uU g l) (M8 g l) (dB g (sL g l))
def NA(g:Int)(l:List Int):ByteArray:=AB (⟨#[105,110,116,101,114,118,97,108,115]⟩:ByteArray) (xS g l) (M9 g l) (eX (nU g l))
def olT(g:Int)(l:List Int):ByteArray:=AB (⟨#[115,117,110,102,108,111,119,101,114]⟩:ByteArray) (nK g l 3) (NA g l) (bZ g (mO (kA g l 3)))
theorem ai5(g:Int)(l:List Int):cK dS (olL g l)=olT g l:=by
 unfold olL olT NA M9 M8;rw[oT _ _ (by simp[TC]),oT _ _ (by simp[TC]),oT _ _ (by simp[TC]),ah7,TD,TD,TD]
def AC(g:Int)(l:List Int):ByteArray:=if bJ g l then olT g l else ByteArray.empty
theorem H9{g:Int}{l:List Int}(h:bJ g l=true):AC g l=olT g l:=by unfold AC;rw[if_pos h]
theorem XI{g:Int}{l:List Int}(h:bJ g l=false):AC g l=ByteArray.empty:=by unfold AC;rw[h];rfl
theorem OL(g:Int)(l:List Int):(M8 g l).size<=100:=by
 have h1:=LT g l;have h2:=sH g l;exact ab8 _ _ (cW _ ⟨by omega,by omega⟩) (cW _ ⟨by omega,by omega⟩)
theorem OM(g:Int)(l:List Int):(M9 g l).size<=10130:=Nat.le_trans (DQ (⟨#[97,110,116,105,99,104,97,105,110]⟩:ByteArray) _ _ _ 100 10000 aY (OL g l) (fC _ _)) aY
theorem JP(g:Int)(l:List Int):(eX (nU g l)).size<=200:=by
 have h:=DD g l;have h2:=lP (nU g l) (fun x z=>by have:=h.2 x z;exact⟨by omega,by omega⟩);omega
theorem ON(g:Int)(l:List Int):(NA g l).size<=10400:=Nat.le_trans (DQ (⟨#[105,110,116,101,114,118,97,108,115]⟩:ByteArray) _ _ _ 10130 200 aY (OM g l) (JP g l)) aY
theorem aeR(g:Int)(l:List Int):(olT g l).size<=10700:=Nat.le_trans (DQ (⟨#[115,117,110,102,108,111,119,101,114]⟩:ByteArray) _ _ _ 10400 132 aY (ON g l) (fF _ _)) aY
end
section
open Go.Proofs.Tryz
open Go.Shelf
set_option maxRecDepth 100000
def NE:Go.Shelf.Ren:=⟨fun|112=>240|n=>n,fun|28=>24|3=>3|4=>4|0=>0|n=>n,fun|n=>n⟩
theorem KI:Go.Proofs.Lays.n112 prog NE:={
 mixed:=aT
 f112:=func240.trans (congrArg some aT)
 t0:=underlying0
 a0:=Tryz.isAgg0
 z0:=Tryz.sizeOf0
 v0:=Tryz.zeroValue0
 t3:=underlying3
 a3:=Tryz.isAgg3
 z3:=Tryz.sizeOf3
 v3:=Tryz.zeroValue3
 t4:=underlying4
 a4:=Tryz.isAgg4
 z4:=Tryz.sizeOf4
 v4:=Tryz.zeroValue4
 t28:=underlying24
 a28:=Tryz.isAgg24
 z28:=Tryz.sizeOf24
 v28:=Tryz.zeroValue24 }
open Go.RowKit Go.Lib Go.Sort in
theorem AN(z D cap:Nat)(F:List Int)(w:World)(J:Holds (Value.int .i64) w z D F.toArray)(I:F.length<=9223372036854775807):
 Calls prog 240 #[aI (some ⟨z,D,none⟩) F.length cap] w fun e w'=>e=.returned (.tuple #[])/\∃n,w'=putRow (Value.int .i64) (Sort.ahead w n) z D F.reverse.toArray:=Any.slices_Reverse_int KI z D cap F w J I
open Go.RowKit Go.Lib Go.Sort in
theorem wE(a:Option Addr)(cap:Nat)(w:World):
 Calls prog 240 #[aI a 0 cap] w fun e w'=>e=.returned (.tuple #[])/\w'=w:=Any.slices_Reverse_int_empty KI a cap w
open Go.RowKit Go.G5 in
theorem VZ(B:Nat)(v:Value)(l:List Int)(w:World)(h:aP 3 B w v l)(hl:l.length<=1048576):
  Calls prog 240 #[v] w fun e w'=>e=.returned (.tuple #[])/\aP 3 B w' v l.reverse/\w.grownBy w' v.ownBlock:=by
 have hr:∀x∈l.reverse,dD x:=fun x F=>h.2 x (List.mem_reverse.1 F);rcases h.cases with⟨rfl,rfl⟩|⟨g,cap,rfl,hB,I⟩
 ·refine(wE none 0 w).mono ?_;rintro e w' ⟨z,rfl⟩;exact⟨z,h,World.grownBy.refl _ _⟩
 ·refine(AN g 0 cap l w (h.holds rfl) aK).mono ?_;rintro e w' ⟨z,n,rfl⟩;have D:=h.put l.reverse List.length_reverse hr n #[];rw[Go.Sort.grow_empty]at D;exact⟨z,D.1,D.2⟩
end
section
open Go.RowKit Go.G5 Go.Proofs.Tryz
theorem ae3(x:Int)(r:List Int)(h:(x::r).reverse.length-1<(x::r).reverse.length):(x::r).reverse[(x::r).reverse.length-1]=x:=by
 simp
theorem adK(w:World)(g:Int)(v:Value)(l:List Int)(hv:aR w v l):
  Calls prog 135 #[.agg #[g,v]] w fun e w'=>∃ad i cp,e=.returned (.tuple #[aI ad i cp,.bool (bJ g l)])/\aP 3 w w' (aI ad i cp) (wO g l)/\Below w w w':=by
 have i7:=hv;obtain⟨a,c,rfl⟩:=hv.shape;obtain⟨T,hT⟩:=aQ (wO g l);have b0:=sH g l;have O:=JX g l;have Y:T=wN (eM g l) (eM g l).length []:=hT;have a6:=abS (w.alloc (.cells #[g,aI a l.length c] 31)) g _ l (i7.alloc _);have J:bJ g l=false->T=[]:=fun h=>by rw[Y];unfold eM;rw[h];rfl
 rw[<-hT];obtain⟨S,e4⟩:=aQ (eM g l);rw[<-e4]at b0 O Y a6;obtain⟨bf,d7⟩:=aQ (bJ g l);rw[<-d7]at a6 J ⊢;have g6:=aN Y;have HM:=aN O;have f8:=aN a6;have g4:=aN J;clear hT Y O a6 J e4 d7;go_enter func135,ntmps135;go_wp2_with fail;refine f8.out.mono ?_;rintro e w2 ⟨ad,cp,rfl,d9,b2⟩;have B2:Below w w w2:=(bF _ _).after b2 (by simp);have f7:=aN (d9.mono (show w.heap.size<=_ by simp));clear b2 d9
 cases bf with
 |false=>have hx:=g4.out rfl;have HX:=aN hx;clear hx;go_wp2;go_ret2;exact⟨_,_,_,rfl,by rw[HX.out];exact aP.nil _ _ _,B2⟩
 |true=>
  have l6:IntKind.i64.wrap ((S.length:Int)-1)=(S.length:Int)-1:=by rw[IntKind.wrap_i64];omega
  go_wp2_with fail;go_loopw [6,7] (fun ov iv wr=>∃(i:Nat) (out:List Int) (p:Option Addr) (q:Nat),i<=S.length/\iv=aM ((i:Int)-1)/\ov=aI p out.length q/\aP 3 w2 wr (aI p out.length q) out.reverse/\out.length+i<=64/\wN S i out=T/\(∀x∈out,0<=x/\x<64)/\Below w2 w2 wr) (fun _ iv _=>(intOf iv+1).toNat)
  case atStart=>exact⟨S.length,[],_,_,aO,rfl,rfl,aP.nil _ _ _,by simpa using b0,g6.out.symm,by simp,Below.refl _ _⟩
  case round=>
   obtain⟨i,out,p,q,hi,rfl,rfl,ho,b9,Z,e8,K⟩:=hrel;obtain⟨wo,rfl⟩:∃z:World,z=wr:=⟨_,rfl⟩
   cases i with
   |zero=>have F:out=T:=Z;subst F;have j7:¬(0:Int)<=((0:Nat):Int)-1:=aK;have HO:=aN ho;have c5:=VZ w2.heap.size _ _ wo ho aV;rw[List.reverse_reverse]at c5;have g5:=aN c5;have hlt:=ho.lt;clear c5 ho Z;go_wp2_with fail;refine g5.out.mono ?_;rintro e w3 ⟨rfl,o3,g3⟩;have B3:Below w2 w2 w3:=K.grown g3 K.size (fun k hk=>(hlt k hk).1);go_wp2;go_ret2;exact⟨_,_,_,rfl,o3.mono B2.size,B2.after B3 B2.size⟩
   |succ i=>
    have h9:((i+1:Nat):Int)-1=(i:Int):=aK;rw[h9];have hlt:i<S.length:=aK;have l5:IntKind.i64.wrap ((i:Int)-1)=(i:Int)-1:=by rw[IntKind.wrap_i64];omega
    have F:=aaN S i hlt out;rw[Z]at F;obtain⟨gg,u,l1,l0,a7⟩:=(f7.out.keep K).view prog 77 underlying77 jV i hlt;have hM:=HM.out S[i] (List.getElem_mem hlt);obtain⟨M,d6⟩:=aQ (S[i]);rw[<-d6]at F a7 hM;obtain⟨am,cm,rfl⟩:=a7.shape;obtain⟨_,mb,k0,_,c6,_,b1,e5,l2⟩:=a7.ints.view prog 24 3 underlying24 aS;injection c6 with x1 _ x3;subst x1 x3;have f9:=aN e5;have g1:=aN b1;have g0:=aN hM.2;have c9:=aN F;have HO:=aN ho;have b6:=aN e8;clear e5 b1 hM Z F ho e8 d6 a7;go_wp2_with fail;go_loop [6,29] (fun ov iv=>∃j:Nat,j<=M.length/\ov=aI p out.length q/\iv=aM j/\lM (M.drop j) out=lM M out) (fun _ iv=>M.length-(intOf iv).toNat)
    case atStart=>exact⟨0,Nat.zero_le _,rfl,rfl,rfl⟩
    case round=>
     obtain⟨j,hj,rfl,rfl,R⟩:=hrel;by_cases a1:j<M.length
     ·have d8:(j:Int)<(M.length:Int):=aK;have ck:=f9.out j a1;have ik:=fun W=>g1.out W j a1;have a9:=g0.out M[j] (List.getElem_mem a1);have N:=UB M j a1 out;rw[R]at N;obtain⟨x,hx⟩:=aQ (M[j]);rw[<-hx]at ck a9 N;clear hx R;have b4:CR out x=true->wN S i (x::out)=T:=fun h=>by rw[c9.out,N,h];rfl
      have J:CR out x=false->lM (M.drop (j+1)) out=lM M out:=fun h=>by rw[N,h];rfl
      have HY:=aN b4;have HN:=aN J;have f2:∀y∈x::out,0<=y/\y<64:=fun y hy=>by
       rcases List.mem_cons.1 hy with e|h
       ·rw[e];exact a9
       ·exact b6.out y h
      have d5:=aN f2;have e0:(x::out).reverse=out.reverse++[x]:=by simp
      have d0:=aN e0;clear N b4 J f2 e0
      cases out with
      |nil=>
       go_wp2_with (at_builtin;refine cZ rfl _ _ _ rfl 3 underlying24 aS w2.heap.size _ _ x wo.heap.size rfl rfl (bB wo #[x] 3 0 _ rfl) (HO.out.alloc _) ⟨by omega,by omega⟩ (by simp) (by have:=K.size;simp;omega) ?_;intro v' w6 D b7;obtain⟨av,nv,cv,rfl⟩:=D.shape3);have B6:Below w2 w2 w6:=(K.alloc K.size (.cells #[x] 3)).grown b7 (by have:=K.size;simp;omega) (fun q hq=>(HO.out.lt q hq).1);have b8:nv=1:=by have:=D.ints.capLe.1;simpa using this
       subst b8;go_roundw
       case rel=>exact⟨i,[x],av,cv,by omega,by go_num,rfl,by rw[d0.out];exact D,by simp;omega,HY.out rfl,d5.out,B6⟩
       case measure=>simp[intOf]
      |cons y r=>
       have a8:(y::r).reverse.length=r.length+1:=by simp
       have f3:=b6.out y (by simp);obtain⟨_,ob,k1,_,c6,_,b3,e6,l4⟩:=HO.out.ints.view prog 24 3 underlying24 aS;injection c6 with x1 _ x3;subst x1 x3;have hk:(y::r).reverse.length-1<(y::r).reverse.length:=by rw[a8];omega
       have oc:=e6 _ hk;rw[ae3 y r hk]at oc;have oi:=fun W=>b3 W _ hk;rw[a8]at oc;simp only[a8]at oi;have e9:r.length+1-1=r.length:=aK;rw[e9]at oc;simp only[e9]at oi;have l9:((y::r).length:Int)=(r.length:Int)+1:=by simp
       have l7:IntKind.i64.wrap ((r.length:Int)+1-1)=(r.length:Int):=by rw[IntKind.wrap_i64];simp at b9;omega
       have l3:((r.length:Int)+1==0)=false:=by simp;omega
       have h8:=lV a9.1 a9.2 f3.1 f3.2;have I:CR (y::r) x=(cM x y==0):=rfl;obtain⟨z,hz⟩:=aQ (cM x y);rw[<-hz]at h8 I;clear hz e6 b3 hk
       cases h0:z==0 with
       |false=>
        have hN:=HN.out (by rw[I,h0]);have g2:=aN hN;clear hN I;go_wp2;go_round
        case rel=>exact⟨j+1,by omega,rfl,by go_num,g2.out⟩
        case measure=>simp[intOf];omega
       |true=>
        have hY:=HY.out (by rw[I,h0]);have g7:=aN hY;have e7:(y::r).reverse.length<17592186044416:=by rw[a8];simp at b9;omega
        clear hY I;go_wp2_with (at_builtin;refine cZ rfl _ _ _ rfl 3 underlying24 aS w2.heap.size _ _ x wo.heap.size rfl rfl (bB wo #[x] 3 0 _ rfl) (HO.out.alloc _) ⟨by omega,by omega⟩ e7 (by have:=K.size;simp;omega) ?_;intro v' w6 D b7;obtain⟨av,nv,cv,rfl⟩:=D.shape3);have B6:Below w2 w2 w6:=(K.alloc K.size (.cells #[x] 3)).grown b7 (by have:=K.size;simp;omega) (fun q hq=>(HO.out.lt q hq).1);have b8:nv=(x::y::r).length:=by have:=D.ints.capLe.1;simpa using this
        subst b8;go_roundw
        case rel=>exact⟨i,x::y::r,av,cv,by omega,by go_num,rfl,by rw[d0.out];exact D,by simp at b9 ⊢;omega,g7.out,d5.out,B6⟩
        case measure=>simp[intOf]
     ·have d8:¬(j:Int)<(M.length:Int):=aK;have i1:j=M.length:=aK;subst i1;rw[OY]at R;have hC:wN S i out=T:=by rw[c9.out,<-R]
      have HC:=aN hC;clear hC R;go_wp2;go_roundw
      case rel=>exact⟨i,out,p,q,by omega,by go_num,rfl,HO.out,by omega,HC.out,b6.out,K⟩
      case measure=>simp[intOf]
end
end Go.Proofs.YtcpoomdoodlkjaaGreatDoor
