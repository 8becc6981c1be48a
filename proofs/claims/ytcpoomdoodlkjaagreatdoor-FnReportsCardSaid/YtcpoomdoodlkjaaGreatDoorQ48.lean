/- Lemmas for CardReports. No condition. -/
import Derived.Test.YtcpoomdoodlkjaaGreatDoorQ46
import Derived.Test.YtcpoomdoodlkjaaGreatDoorQ47
set_option maxRecDepth 100000
set_option maxHeartbeats 64000000
namespace Go.Proofs.YtcpoomdoodlkjaaGreatDoor
section
open Go.RowKit Go.G5 Go.Proofs.Tryz
theorem XU(c:List Int)(v:Value)(s:Int)(w:World)(hv:aR w v c)(hm:∀x∈c,0<=x/\x<64)(hs:0<=s/\s<64):
  Calls prog 244 #[v,s] w fun e w'=>e=.returned (.bool (kV c s))/\w=w':=by
 obtain⟨a,b,b7,cp,rfl,a9,M,hc,hb⟩:=hv.view prog 24 3 underlying24 aS;have HC:=aN hc;have Y:=aN M;have HM:=aN hm;obtain⟨R,Z⟩:=aQ (kV c s);rw[<-Z];have HR:=aN Z;clear hc M hm Z;go_enter func244,ntmps244;go_wp2;go_loop [9] (fun iv=>∃j:Nat,j<=c.length/\iv=aM j/\cJ (fun j=>lG s (c.getD j 0)) j=true) (fun iv=>c.length-(intOf iv).toNat)
 case atStart=>exact⟨0,Nat.zero_le _,rfl,rfl⟩
 case round=>
  obtain⟨j,hj,rfl,z⟩:=hrel;by_cases hlt:j<c.length
  ·have N:(j:Int)<(c.length:Int):=aK;have ck:=HC.out j hlt;have ik:=fun W=>Y.out W j hlt;have O:=HM.out _ (List.getElem_mem hlt);have hg:c.getD j 0=c[j]:=aX c j hlt;obtain⟨x,hx⟩:=aQ (c[j]);rw[<-hx]at ck O hg;clear hx;have D:=NO s x w hs O
   cases K:lG s x with
   |false=>
    rw[K]at D;have hr:R=false:=by rw[HR.out];exact dG hlt (by rw[hg];exact K)
    have I:=aN D;have J:=aN hr;clear D hr K;go_wp2_with (go_at_call 221;refine I.out.mono ?_;rintro e w' ⟨rfl,rfl⟩);go_ret;exact⟨aZ J.out.symm,rfl⟩
   |true=>
    rw[K]at D;have F:cJ (fun j=>lG s (c.getD j 0)) (j+1)=true:=dN z (by rw[hg];exact K);have I:=aN D;have S:=aN F;clear D F K z;go_wp2_with (go_at_call 221;refine I.out.mono ?_;rintro e w' ⟨rfl,rfl⟩);go_round
    case rel=>exact⟨j+1,by omega,by go_num,S.out⟩
    case measure=>simp[intOf];omega
  ·have N:¬(j:Int)<(c.length:Int):=aK;have a6:j=c.length:=aK;subst a6;have hr:R=true:=by rw[HR.out];exact z
   have J:=aN hr;clear hr z;go_wp2;go_ret;exact⟨aZ J.out.symm,rfl⟩
theorem O9:∀args w,(callFunc 244 args).run prog w=.ok (.enter 244 args) w:=enters_of func244 aT rfl
def Up(z:Nat)(v:Value)(l:List Int):Prop:=l≠[]->∀k,v.ownBlock=some k->z<k
def QN(z:Nat)(b:List Int)(w:World)(e:Ending)(w':World):Prop:=
 e=.returned (.tuple #[])/\∃v,aU w' z 175 #[v,.func (.func 244) #[] #[]]/\aR w' v b/\Up z v b/\GrownIn w w' (fun k=>k=z)
theorem UT(I:Nat):∀(m:Nat) (sets:List Int) (sv:Value) (z:List Int) (lv:Value) (J:List Int) (bv:Value) (w:World),sets.length=m->(∀x∈sets,0<=x/\x<64)->aR w sv sets->CA I sv sets->aR w lv z->CA I lv z->(∀x∈z,0<=x/\x<64) ->
  aU w I 175 #[bv,.func (.func 244) #[] #[]]->aR w bv J->Up I bv J->z.length+m<=64->J.length<=64 ->
  Calls prog 290 #[.pointer (some ⟨I,0,none⟩),sv,lv] w (QN I (sW kV sets z (cN J z)) w):=by
 intro m
 induction m using Nat.strongRecOn with
 |ind m ih=>
 intro sets sv z lv J bv w hm j0 hs h5 hc l4 g3 K hb h0 n0 q3;have l8:=hs;have g0:=hc;have zo:=K.lt;obtain⟨a,n,r2,cp,rfl,e0,h7,j9,m8⟩:=hs.view prog 24 3 underlying24 aS;obtain⟨av,cv,rfl⟩:=hc.shape;obtain⟨ab,cb,rfl⟩:=hb.shape;have o2:=aN h7;have f6:=aN j0;have f2:=aN g3;have IH:=aN ih;have G:=K.cell;have HM:=aN hm;have he:=O9;clear h7 j0 ih e0 hm g3;go_enter func290,ntmps290;go_upto_if 15 with fail;go_cut [16] (fun _ wx=>∃p q,aU wx I 175 #[.slice p (cN J z).length q,.func (.func 244) #[] #[]]/\aR wx (.slice p (cN J z).length q) (cN J z)/\Up I (.slice p (cN J z).length q) (cN J z)/\GrownIn w wx (fun k=>k=I))
 case rest=>
  obtain⟨p,q,K1,d7,d9,g1⟩:=hcut;clear K hb h0 G;have h9:(cN J z).length<=64:=by unfold cN;split<;>omega
  obtain⟨b1,Y⟩:=aQ (cN J z);have HE:=aN Y;rw[<-Y]at K1 d7 d9 h9;clear Y;go_wp2_with fail;go_loopw [23] (fun iv wr=>∃(j:Nat) (y:List Int) (p:Option Addr) (q:Nat),j<=sets.length/\iv=aM j/\aU wr I 175 #[aI p y.length q,.func (.func 244) #[] #[]]/\aR wr (aI p y.length q) y/\Up I (aI p y.length q) y/\y.length<=64/\sW kV (sets.drop j) z y=sW kV sets z b1/\GrownIn w wr (fun k=>k=I)) (fun iv _=>sets.length-(intOf iv).toNat)
  case atStart=>exact⟨0,b1,p,q,Nat.zero_le _,rfl,K1,d7,d9,h9,rfl,g1⟩
  case round=>
   obtain⟨j,y,p',q',hj,rfl,K2,hy,a9,j3,b3,g2⟩:=hrel;clear K1 d7 d9 g1;have G:=K2.cell;have l7:z.length+sets.length<=64:=by have:=HM.out;omega
   by_cases hlt:j<sets.length
   ·have i1:(j:Int)<(sets.length:Int):=aK;have i7:=tA l8 g2 h5;have d8:=tA g0 g2 l4;obtain⟨a2,n2,o0,c2,l2,_,b8,g5,_⟩:=i7.view prog 24 3 underlying24 aS;injection l2 with e1 _ e3;subst e1 e3;have l1:=g5 j hlt;have q4:=fun W=>b8 W j hlt;clear g5 b8;have e4:=f6.out _ (List.getElem_mem hlt);have g6:=List.drop_eq_getElem_cons hlt;have N:(sets.drop (j+1)).length=sets.length-(j+1):=List.length_drop ..;have F:sW kV (sets.drop j) z y=if z.length+((sets.drop (j+1)).length+1)<=y.length then y else if kV z sets[j] then sW kV (sets.drop (j+1)) z (sW kV (sets.drop (j+1)) (z++[sets[j]]) (cN y (z++[sets[j]]))) else sW kV (sets.drop (j+1)) z y:=by rw[g6,sW]
    rw[b3]at F;have yw:=g2.size;obtain⟨x,hx⟩:=aQ (sets[j]);rw[<-hx]at l1 e4 F;clear hx b3 g6;have q6:IntKind.i64.wrap ((z.length:Int)+(sets.length:Int))=(z.length:Int)+(sets.length:Int):=by rw[IntKind.wrap_i64];omega
    have q7:IntKind.i64.wrap ((z.length:Int)+(sets.length:Int)-(j:Int))=(z.length:Int)+(sets.length:Int)-(j:Int):=by rw[IntKind.wrap_i64];omega
    by_cases a6:z.length+((sets.drop (j+1)).length+1)<=y.length
    ·rw[if_pos a6]at F;have i6:(z.length:Int)+(sets.length:Int)-(j:Int)<=(y.length:Int):=aK;have O:=aN F;clear F a6 N;go_wp2;exact bodyPost_end (v:=.tuple #[]) (results_none rfl _ _ _) rfl ⟨rfl,_,K2,by rw[<-HE.out,O.out];exact hy,by rw[<-HE.out,O.out];exact a9,g2⟩
    ·rw[if_neg a6]at F;have i6:¬(z.length:Int)+(sets.length:Int)-(j:Int)<=(y.length:Int):=aK;have S:=XU z _ x wr d8 f2.out e4
     cases hT:kV z x with
     |false=>
      rw[hT,if_neg (by simp)]at F;rw[hT]at S;have O:=aN F;have d0:=aN S;clear F a6 N hT S;go_wp2_with (go_at_fn 244;refine d0.out.mono ?_;rintro e w' ⟨rfl,rfl⟩);go_roundw
      case rel=>exact⟨j+1,y,p',q',by omega,by go_num,K2,hy,a9,j3,O.out.symm,g2⟩
      case measure=>simp[intOf];omega
     |true=>
      rw[hT,if_pos rfl]at F;rw[hT]at S;have l6:j+1<=sets.length:=hlt;have Z:(z++[x]).length=z.length+1:=by simp
      obtain⟨a3,c3,j1,i8,g8⟩:=JM i7 24 3 underlying24 aS (j+1) l6;have c6:=fun W=>j1 .i64 W;rw[show((j+1:Nat):Int)=(j:Int)+1 by simp]at c6;have d6:∀e∈sets.drop (j+1),0<=e/\e<64:=fun e he=>f6.out e (List.mem_of_mem_drop he);have hcm:∀e∈z++[x],0<=e/\e<64:=fun e he=>by
       rcases List.mem_append.1 he with h|h
       ·exact f2.out e h
       ·rw[List.mem_singleton]at h;rw[h];exact e4
      obtain⟨D,hD⟩:=aQ (sets.drop (j+1));rw[<-hD]at N i8 g8 d6;simp only[<-hD]at c6;have a7:=aN hD;have f8:sW kV (sets.drop (j+1)) (z++[x]) (cN y (z++[x]))=sW kV D (z++[x]) (cN y (z++[x])):=by rw[a7.out]
      clear hD j1;obtain⟨R,hR⟩:=aQ (sW kV D (z++[x]) (cN y (z++[x])));have l0:R.length<=64:=by rw[hR];have h1:=afQ kV D (z++[x]) (cN y (z++[x]));rw[wZ,Z]at h1;omega
      have c5:∀(v6:Value) (w6:World),aP 3 wr w6 v6 (z++[x])->Below wr wr w6 ->
        Calls prog 290 #[.pointer (some ⟨I,0,none⟩),aI a3 D.length c3,v6] w6 (QN I R w6):=fun v6 w6 q1 q2=>by
       rw[hR];have zz:=K2.lt;exact IH.out D.length (by rw[N];have:=HM.out;omega) _ _ (z++[x]) v6 y _ w6 rfl d6 (i8.below q2 aO) (fun b0 k hk=>h5 (fun e=>b0 (by rw[a7.out,e];rfl)) k (g8 k hk)) q1.ints (fun _ k hk=>by have:=(q1.lt k hk).1;omega) hcm (K2.keep q2) (hy.below q2 aO) a9 (by rw[N,Z];omega) j3
      rw[f8,<-hR]at F;have f5:=aN c5;have O:=aN F;have d0:=aN S;have f7:z.length + [x].length<=17592186044416:=by simp;omega
      have f9:dD x:=⟨by omega,by omega⟩;have q8:IntKind.i64.wrap ((j:Int)+1)=(j:Int)+1:=by rw[IntKind.wrap_i64];omega
      have f3:=aN f7;have k6:=aN f9;have g4:z.length<=1048576:=aK;have m9:=aN N;clear c5 F hR f8 d6 f7 f9 N Z l7 hcm hT S a6;go_wp2_with (go_at_fn 244;refine d0.out.mono ?_;rintro e w' ⟨rfl,rfl⟩);go_region_law
       (first
        |(go_simp;go_at_call 260;refine(kW _ z _ ?_ g4).mono ?_;(first|(with_reducible exact d8.drew')|(with_reducible exact(d8.alloc _).drew'));rintro e w5 ⟨p5,i5,q5,rfl,o5,b5⟩;have c8:=aP.mono (B':=wr.heap.size) o5 (by first|omega|(simp;done)|(simp;omega));first|(have a8:Below wr wr w5:=((bF wr (.cells #[x] 3)).drewN' 1).after b5 (by first|omega|(simp;done)|(simp;omega));have j4:w5.cell? ⟨wr.heap.size,0,none⟩=some (aM x):=keep b5 (yL wr 3 (aM x)))|(have a8:Below wr wr w5:=((Below.refl wr.heap.size wr).drewN' 1).after b5 (by first|omega|(simp;done)|(simp;omega))))
        |(refine iT rfl _ _ _ rfl 3 underlying24 aS wr.heap.size (aI p5 i5 q5) z rfl (aI (some ⟨_,0,none⟩) 1 1) [x] rfl ?_ ?_ f3.out wr ?_ aO ?_;(first|(with_reducible exact c8.alloc _)|(with_reducible exact c8));(refine aR.one ?_ k6.out;first|(with_reducible exact bB _ _ _ _ _ rfl)|(with_reducible exact j4));(first|(with_reducible exact a8.alloc a8.size _)|(with_reducible exact a8));intro v6 w6 o6 b6 _)
        |(go_simp;go_at_call 290;refine(f5.out _ w6 o6 b6).mono ?_;rintro e7 w7 ⟨rfl,p0,K7,j2,l3,g7⟩))
      all_goals
       obtain⟨p7,c7,rfl⟩:=j2.shape;have k9:=g2.trans ((GrownIn.of_below (P:=fun k=>k=I) b6).trans g7);have b7:sW kV D z R=sW kV sets z b1:=by rw[O.out,a7.out]
       have f0:=aN b7;clear b7 G;go_wp2;go_roundw
       case rel=>exact⟨j+1,R,p7,c7,by omega,by go_num,K7,j2,l3,l0,by rw[<-a7.out];exact f0.out,k9⟩
       case measure=>simp[intOf];omega
   ·have i1:¬(j:Int)<(sets.length:Int):=aK;have h8:j=sets.length:=aK;have b9:y=sW kV sets z (cN J z):=by rw[<-HE.out,<-b3,h8,List.drop_length];rfl
    have f4:=aN b9;clear b3 b9 h8;go_wp2;exact bodyPost_end (v:=.tuple #[]) (results_none rfl _ _ _) rfl ⟨rfl,_,K2,by rw[<-f4.out];exact hy,by rw[<-f4.out];exact a9,g2⟩
 case first=>
  by_cases a1:J.length<z.length
  ·have h6:(J.length:Int)<(z.length:Int):=aK;have hlo:cN J z=z:=by unfold cN;rw[if_pos a1]
   have M:=aN hlo;have b0:z≠[]:=by intro e;subst e;simp at a1
   have o3:=aN b0;clear hlo a1 b0;go_wp2_with fail;refine(kW _ z w g0 aK).mono ?_;rintro e w1 ⟨pc,ic,qc,rfl,oc,bc⟩;have l5:ic=z.length:=oc.ints.capLe.1;subst l5;have K1:=K.keep bc;have G1:=K1.cell;have F1:=K1.frozen;have z1:=K1.lt;clear G;go_wp2;go_meet;have KF:aU (w1.setCell ⟨I,0,none⟩ (aI pc z.length qc)) I 175 #[aI pc z.length qc,.func (.func 244) #[] #[]]:=by have:=K1.set 0 (aI pc z.length qc);simpa using this
   have gF:w1.grownBy (w1.setCell ⟨I,0,none⟩ (aI pc z.length qc)) (some I):=dW (World.grownBy.refl _ _) 0 _;have g9:Up I (aI pc z.length qc) z:=fun _ k hk=>by have:=(oc.lt k hk).1;omega
   have hI:=(oc.setFar ⟨I,0,none⟩ (fun e=>by have:=(oc.lt I e).1;omega) (aI pc z.length qc)).ints;exact⟨pc,qc,by rw[M.out];exact KF,by rw[M.out];exact hI,by rw[M.out];exact g9,(GrownIn.of_below bc).trans (GrownIn.of_row gF (fun k hk=>(Option.some.inj hk).symm))⟩
  ·have h6:¬(J.length:Int)<(z.length:Int):=aK;have hlo:cN J z=J:=by unfold cN;rw[if_neg a1]
   have M:=aN hlo;clear hlo a1;go_wp2_with fail;go_meet;exact⟨ab,cb,by rw[M.out];exact K,by rw[M.out];exact hb,by rw[M.out];exact h0,GrownIn.refl _ _⟩
end
end Go.Proofs.YtcpoomdoodlkjaaGreatDoor
section
namespace Go.G5
open Go Go.RowKit
variable {P:Program} {w:World} {a:Addr} {m:Mode}
@[go_sem] theorem run_store_funcA (f : Fn) (x y : Array Value) : (store a (.func f x y) m).run P w = stored P w a (.func f x y) m := run_store P w a _ m rfl
end Go.G5
namespace Go.Proofs.YtcpoomdoodlkjaaGreatDoor
open Go.RowKit Go.G5 Go.Proofs.Tryz
theorem JZ(w:World)(v:Value)(l:List Int)(O:aR w v l)(hm:∀x∈l,0<=x/\x<64)(hl:l.length<=64):
  Calls prog 243 #[v,.func (.func 244) #[] #[]] w fun e w'=>∃ad i I,e=.returned (aI ad i I)/\aR w' (aI ad i I) (iU kV l [] [])/\Up w.heap.size (aI ad i I) (iU kV l [] [])/\Below w w w':=by
 have F:=O;obtain⟨a,c,rfl⟩:=O.shape;have D:CA w.heap.size (aI a l.length c) l:=fun N k hk e=>by have h1:=XA F N k hk;omega
 have z:∀V,Below w w V->aU V w 175 #[(),.func (.func 244) #[] #[]]->Calls prog 290 #[.pointer (some ⟨w,0,none⟩),aI a l.length c,()] V (QN w.heap.size (iU kV l [] []) V):=fun V hB hK=>by have h:=UT w.heap.size l.length l (aI a l.length c) [] (aI none 0 0) [] (aI none 0 0) V rfl hm (F.below hB aO) D (aR.empty _ _ _ _ rfl aY) (fun h=>absurd rfl h) (by simp) hK (aR.empty _ _ _ _ rfl aY) (fun h=>absurd rfl h) (by simpa using hl) (by simp);have he:cN ([]:List Int) []=[]:=rfl;rw[he,afR]at h;exact h
 have S:=aN z;clear z;go_enter func243,ntmps243;go_wp2_with fail;refine bH ?_;intro V J;have B:Below w w V:=fU J;have Y:aU V w 175 #[(),.func (.func 244) #[] #[]]:=eJ J;clear J;refine(S.out V B Y).mono ?_;rintro e w2 ⟨rfl,bv,K,hb,M,Z⟩;obtain⟨pb,qb,rfl⟩:=hb.shape;have R:Below w w w2:=Below.growIn B Z B.size (by rintro k rfl;exact aO);have G:=K.cell;go_wp2;go_ret;exact⟨_,_,_,rfl,hb,M,R⟩
theorem adB(w:World)(g:Int)(v:Value)(l:List Int)(hv:aR w v l):
  Calls prog 137 #[.agg #[g,v]] w fun e w'=>∃ad i cp,e=.returned (.tuple #[.agg #[(FP g l),aI ad i cp],.bool (uU g l)])/\aR w' (aI ad i cp) (sL g l)/\Below w w w':=by
 have e5:=hv;obtain⟨a,c,rfl⟩:=hv.shape;go_enter func137,ntmps137;go_wp2_with fail;refine bH ?_;intro V hV;have B:Below w w V:=gD hV;have K1:aU V w 31 #[g,aI a l.length c]:=gO hV;have K2:aU V (w.heap.size+1) 31 #[aJ,()]:=gY hV;clear hV;refine(dF g l _ _ (hv.below B aO)).mono ?_;rintro e w1 ⟨rfl,K⟩;have I:=K1.keep K;have F:=K2.keep K;have B1:=B.after K B.size;have c7:=hv.below B1 aO;clear K1 K2 B K;have Y:=I.cell;have z1:=I.lt;have z2:=F.lt
 cases D:uU g l with
 |false=>
  have a7:=And.intro (abQ D) D;have R:=aN a7;have c6:bJ g l=false∨(bJ g l=true/\¬l.length<=12):=by
   unfold uU at D
   cases M:bJ g l with
   |false=>exact .inl rfl
   |true=>rw[M]at D;simp at D;exact .inr ⟨rfl,by omega⟩
  clear a7 D;have G2:=F.cell;have F2:=F.frozen;have key:∀Wf,Wf=(w1.setCell ⟨w.heap.size+1,0,none⟩ (aM 0)).setCell ⟨w.heap.size+1,1,none⟩ (aI none 0 0)->aU Wf (w.heap.size+1) 31 #[aJ,()]/\Below w w Wf:=fun Wf z=>by refine⟨?_,by rw[z];exact Below.setCell (Below.setCell B1 (by first|omega|(simp;done)|(simp;omega)) _) (by first|omega|(simp;done)|(simp;omega)) _⟩;rw[z];have:=(F.set 0 (aM 0)).set 1 (aI none 0 0);simpa using this
  rcases c6 with M|⟨M,e4⟩
  ·rw[M];go_wp2;refine bG ?_;intro Wf z;obtain⟨Kf,S⟩:=key Wf z;have Z:=Kf.cell;clear z Y G2 F2 key;exact bodyPost_ret (v:=.tuple #[.agg #[aJ,()],.bool false]) (by simp[results,results137,go_sem,Z]) rfl ⟨none,0,0,by rw[R.out.1.1,R.out.2],by rw[R.out.1.2];exact aR.empty _ _ _ _ rfl aY,S⟩
  ·rw[M];have d6:(12:Int)<(l.length:Int):=aK;go_wp2;refine bG ?_;intro Wf z;obtain⟨Kf,S⟩:=key Wf z;have Z:=Kf.cell;clear z Y G2 F2 key;exact bodyPost_ret (v:=.tuple #[.agg #[aJ,()],.bool false]) (by simp[results,results137,go_sem,Z]) rfl ⟨none,0,0,by rw[R.out.1.1,R.out.2],by rw[R.out.1.2];exact aR.empty _ _ _ _ rfl aY,S⟩
 |true=>
  have N:=And.intro (ES D) D;have HY:=aN N;unfold uU at D;rw[Bool.and_eq_true,decide_eq_true_eq]at D;obtain⟨M,e0⟩:=D;have d5:¬(12:Int)<(l.length:Int):=aK;have a6:=JZ w1 _ l c7 (dY M) aK;have b7:=aN a6;rw[M];clear N M a6;go_wp2_with fail;refine b7.out.mono ?_;rintro e w3 ⟨p3,i3,q3,rfl,o3,u3,b3⟩;have b9:=I.keep b3;have J:=F.keep b3;have B3:=B1.after b3 B1.size;have e9:=z2;clear Y z1 z2 I F b3;have Y:=b9.cell;have G2:=J.cell;have F2:=J.frozen;have z2:=J.lt;have O:iU kV l [] []≠[]->∀k,(Value.slice p3 i3 q3).ownBlock=some k->¬k=w.heap.size+1:=fun c5 k hk=>by have:=u3 c5 k hk;omega
  go_wp2;refine bG ?_;intro Wf z;have Kf:aU Wf (w.heap.size+1) 31 #[g,aI p3 i3 q3]:=by rw[z];have:=(J.set 0 (aM g)).set 1 (aI p3 i3 q3);simpa using this
  have S:Below w w Wf:=by rw[z];exact Below.setCell (Below.setCell B3 (by first|omega|(simp;done)|(simp;omega)) _) (by first|omega|(simp;done)|(simp;omega)) _
  have gf:GrownIn w3 Wf (fun k=>k=w.heap.size+1):=by rw[z];exact(GrownIn.of_row (fH w3 ⟨w.heap.size+1,0,none⟩ _) (fun k hk=>(Option.some.inj hk).symm)).trans (GrownIn.of_row (fH _ ⟨w.heap.size+1,1,none⟩ _) (fun k hk=>(Option.some.inj hk).symm))
  have of:=tA o3 gf O;have Z:=Kf.cell;clear z Y G2 F2;exact bodyPost_ret (v:=.tuple #[.agg #[g,aI p3 i3 q3],.bool true]) (by simp[results,results137,go_sem,Z]) rfl ⟨_,_,_,by rw[HY.out.1.1,HY.out.2],by rw[HY.out.1.2];exact of,S⟩
end Go.Proofs.YtcpoomdoodlkjaaGreatDoor
end
namespace Go.Proofs.YtcpoomdoodlkjaaGreatDoor
section
open Go.RowKit Go.G5 Go.Proofs.Tryz
theorem aaL{w:World}{cs:Array Value}{T:TypeId}{n i:Nat}{u:Value}(z:w.heap.size=n)(h:cs[i]?=some u):(w.alloc (.cells cs T)).cell? ⟨n,i,none⟩=some u:=by
 subst z;exact bB w cs T i u h
theorem acA(w:World)(g:Int)(v:Value)(l:List Int)(hv:aR w v l)(hl:l.length<=1048576)(hp:sV w):
  Calls prog 24 #[.agg #[g,v]] w fun e w'=>e=.returned (.string (AC g l))/\Below w w w':=by
 have b5:=hv;obtain⟨a,c,rfl⟩:=hv.shape;have K0:=aU.new w 31 #[g,aI a l.length c]
 cases hf:bJ g l with
 |false=>have HX:=aN (XI hf);have HF:=aN hf;clear hf;go_enter func24,ntmps24;go_wp2_with fail;refine(dF g l _ _ (b5.alloc _)).mono ?_;rintro e w1 ⟨rfl,b1⟩;rw[HF.out];go_wp2;go_ret;exact⟨cI HX.out.symm,(bF _ _).after b1 (by simp)⟩
 |true=>
  obtain⟨TT,l3⟩:=aQ (AC g l);have hx:cK eH (olL g l)=TT:=by rw[l3,H9 hf];exact ai5 g l
  have r0:TT.size<=10700:=by rw[l3,H9 hf];exact aeR g l
  unfold olL TC at hx;have hcl:=LT g l;have x6:=sH g l;have x5:=(DD g l).1;have l6:uU g l=true->FP g l=g:=fun h=>(ES h).1;have o6:=fun(W:World) (h:aR W (aI a l.length c) l)=>adK W g _ l h;have o7:=fun(W:World) (h:aR W (aI a l.length c) l)=>abS W g _ l h;have l4:=fun(W:World) (h:aR W (aI a l.length c) l)=>adB W g _ l h;have o4:=fun(W:World) (h:aR W (aI a l.length c) l)=>ai0 W g _ l h;have o8:=fun(W:World) (h:aR W (aI a l.length c) l)=>YT W g _ l h hl 3 ⟨by omega,by omega⟩;have o5:=fun(W:World) (v:Value) (h:aR W v (kA g l 3))=>VJ (kA g l 3) v W h;obtain⟨bA,l5⟩:=aQ (uU g l);obtain⟨bI,o1⟩:=aQ (xS g l);obtain⟨bS,o2⟩:=aQ (nK g l 3);rw[<-l5]at l6;rw[<-l5,<-o1,<-o2]at hx;simp only[hf]at o6 o7;simp only[<-l5]at l4;simp only[<-o1]at o4;simp only[<-o2]at o8;obtain⟨N0,q9⟩:=aQ (FP g l);simp only[<-q9]at l4 l6;obtain⟨K3,q8⟩:=aQ (mO (kA g l 3));simp only[<-q8]at o5 hx;have e8:=aN l3;have HX:=aN hx;have e7:=aN r0;have HF:=aN hf;have s2:=aN l6;have s3:=aN o6;have s4:=aN o7;have r9:=aN l4;have q1:=aN o4;have k6:=aN o8;have k5:=aN o5;clear hx hf l3 r0 l6 o6 o7 l4 o4 o8 o5 l5 o1 o2 q9 q8;go_enter func24,ntmps24;go_wp2_with fail;refine(dF g l _ _ (b5.alloc _)).mono ?_;rintro e w0 ⟨rfl,b1⟩;rw[HF.out];have B:Below w w w0:=(bF _ _).after b1 (by simp);have K:=K0.keep b1;clear K0 b1;have G:=K.cell;go_wp2_with fail;refine(s3.out _ (b5.below B aO)).mono ?_;rintro e w1 ⟨pC,iC,qC,rfl,oC,b2⟩;have t8:iC=(wO g l).length:=oC.ints.capLe.1;subst t8;have Ba:=B.after b2 B.size;have Ka:=K.keep b2;clear B K G b2 oC;have G:=Ka.cell;go_wp2_with fail;refine(s4.out _ (b5.below Ba aO)).mono ?_;rintro e w2 ⟨pL,qL,rfl,oL,b2⟩;have B1:=Ba.after b2 Ba.size;have K1:=Ka.keep b2;clear Ba Ka G b2 oL;obtain⟨bo,h0⟩:=aQ w2.heap.size;have zb:w.heap.size<bo:=by rw[h0];exact K1.lt
  have zc:w2.heap.size<=bo:=aK;have L3:gT bo (w2.alloc (.cells #[()] 45)) []:=by rw[h0];exact gT.new w2
  have K2:aU w2 w 31 #[g,aI a l.length c]:=K1;have B3:=B1.alloc B1.size (.cells #[()] 45);have C3:Below bo w2 (w2.alloc (.cells #[()] 45)):=by rw[h0];exact bF w2 _
  have s0:=aN (show(w2.alloc (.cells #[()] 45)).heap.size=bo+1 by rw[h0];simp);go_wp2_with fail;rw[<-h0];clear h0 K1;have r4:=L3.lt;refine(dQ bo [] [(⟨#[111,114,100,101,114]⟩:ByteArray)] (bo+1) 1 1 _ (L3.keep (bF _ _)) rfl (yM (aaL s0.out rfl)) (by simp only[List.length_cons,List.length_nil];omega)).mono ?_;rintro e y2 ⟨rfl,n1,q3⟩;have m7:=(B3.alloc B3.size _).after q3 aK;have p8:=(C3.alloc (Nat.le_of_lt r4) _).after q3 aO;clear B3 C3 L3;obtain⟨n3,z⟩:=aQ ([]++[(⟨#[111,114,100,101,114]⟩:ByteArray)]);rw[<-z]at n1;have v6:n3.length<=1:=by rw[z,List.length_append];first|(simp only[List.length_cons,List.length_nil];omega)|(have:=cT _ _;omega)|(simp[eB];omega)
  go_wp2_with fail;refine(eW bo n3 (⟨#[99,104,97,105,110]⟩:ByteArray) (((wO g l).length:Int)) ⟨by omega,by omega⟩ _ n1 (hp.keep m7) aK).mono ?_;rintro e y3 ⟨rfl,n2,q4⟩;have m8:=m7.after q4 aK;have p9:=p8.after q4 aO;clear m7 p8 n1;obtain⟨o0,D⟩:=aQ (n3++[(⟨#[99,104,97,105,110]⟩:ByteArray),bQ (((wO g l).length:Int))]);rw[<-D]at n2;have v7:o0.length<=3:=by rw[D,List.length_append];first|(simp only[List.length_cons,List.length_nil];omega)|(have:=cT _ _;omega)|(simp[eB];omega)
  go_wp2_with fail;refine(eW bo o0 (⟨#[108,101,118,101,108,115]⟩:ByteArray) (((eM g l).length:Int)) ⟨by omega,by omega⟩ _ n2 (hp.keep m8) aK).mono ?_;rintro e y4 ⟨rfl,k7,q5⟩;have k3:=m8.after q5 aK;have m9:=p9.after q5 aO;clear m8 p9 n2;obtain⟨b3,F⟩:=aQ (o0++[(⟨#[108,101,118,101,108,115]⟩:ByteArray),bQ (((eM g l).length:Int))]);rw[<-F]at k7;have v8:b3.length<=5:=by rw[F,List.length_append];first|(simp only[List.length_cons,List.length_nil];omega)|(have:=cT _ _;omega)|(simp[eB];omega)
  have G:=(bY K2 m9 zb).cell;go_wp2_with fail;clear G;refine(r9.out _ (b5.below k3 aO)).mono ?_;rintro e y5 ⟨pA,iA,qA,rfl,hA,l0⟩;have g5:=k3.after l0 k3.size;have g6:=m9.after l0 (Nat.le_of_lt k7.lt);have g9:=k7.keep l0;clear k3 m9 k7 l0;have t7:iA=(sL g l).length:=hA.capLe.1;subst t7
  cases bA with
  |false=>
   have G:=(bY K2 g6 zb).cell;have zf:=(bY K2 g6 zb).lt;go_wp2_with fail;clear G zf;refine bH ?_;intro e4 hV;have c8:Below w w e4:=by rw[hV];exact g5.alloc g5.size _
   have k0:=Nat.le_of_lt g9.lt;have i6:Below bo w2 e4:=by rw[hV];exact g6.alloc k0 _
   have f4:gT bo e4 b3:=by rw[hV];exact g9.keep (bF _ _)
   have m3:aR e4 (.slice pA (sL g l).length qA) (sL g l):=by rw[hV];exact hA.alloc _
   clear hV g5 g6 g9 hA;refine(q1.out _ (b5.below c8 aO)).mono ?_;rintro e r3 ⟨pI,iI,qI,rfl,oI,d6⟩;have a7:=c8.after d6 c8.size;have e6:=i6.after d6 (Nat.le_of_lt f4.lt);have c9:=f4.keep d6;clear c8 i6 f4 d6;have o3:iI=(nU g l).length:=oI.ints.capLe.1;subst o3
   cases bI with
   |false=>
    have G:=(bY K2 e6 zb).cell;go_wp2_with fail;clear G;refine(k6.out _ (b5.below a7 aO)).mono ?_;rintro e u4 ⟨pS,iS,qS,rfl,oS,f6⟩;have b6:=a7.after f6 a7.size;have g7:=e6.after f6 (Nat.le_of_lt c9.lt);have d0:=c9.keep f6;clear a7 e6 c9 f6
    cases bS with
    |false=>
     have Y:cK eH b3=TT:=by rw[F,D,z];exact HX.out
     have hz:=e7.out;rw[<-Y]at hz;have HT:=aN Y;clear Y z D F;obtain⟨lv,KL,oL⟩:=d0;have G:=KL.cell;go_wp2_with fail;clear G;refine(dP (bo+1) lv b3 _ oL aK aK).mono ?_;rintro e wz ⟨rfl,bz⟩;go_wp2;go_ret;exact⟨cI (HT.out.trans e8.out),b6.after bz b6.size⟩
    |true=>
     go_wp2_with fail;refine(k5.out _ _ oS.ints).mono ?_;rintro e x0 ⟨rfl,g4⟩;have g1:=b6.after g4 b6.size;have h9:=g7.after g4 (Nat.le_of_lt d0.lt);have i8:=d0.keep g4;clear b6 g7 d0 g4;have G:=(bY K2 h9 zb).cell;go_wp2_with fail;clear G;refine(gM g K3 _ (hp.keep g1)).mono ?_;rintro e m5 ⟨rfl,Z⟩;have a6:=g1.after Z g1.size;have b9:=h9.after Z (Nat.le_of_lt i8.lt);have b0:=i8.keep Z;clear g1 h9 i8 Z;go_wp2_with fail;have p1:=b0.lt;refine(dQ bo b3 [(⟨#[115,117,110,102,108,111,119,101,114]⟩:ByteArray),bZ g K3] m5.heap.size 2 2 _ (b0.keep (bF _ _)) rfl (fR (bB _ _ _ _ _ rfl) (bB _ _ _ _ _ rfl)) (by simp only[List.length_cons,List.length_nil];omega)).mono ?_;rintro e j8 ⟨rfl,O,I⟩;have M:=(a6.alloc a6.size _).after I aK;have a8:=(b9.alloc (Nat.le_of_lt p1) _).after I aO;clear a6 b9 b0;obtain⟨j1,d7⟩:=aQ (b3++[(⟨#[115,117,110,102,108,111,119,101,114]⟩:ByteArray),bZ g K3]);rw[<-d7]at O;have s8:j1.length<=7:=by rw[d7,List.length_append];first|(simp only[List.length_cons,List.length_nil];omega)|(have:=cT _ _;omega)|(simp[eB];omega)
     have Y:cK eH j1=TT:=by rw[d7,F,D,z];exact HX.out
     have hz:=e7.out;rw[<-Y]at hz;have HT:=aN Y;clear Y z D F d7;obtain⟨lv,KL,oL⟩:=O;have G:=KL.cell;go_wp2_with fail;clear G;refine(dP (bo+1) lv j1 _ oL aK aK).mono ?_;rintro e wz ⟨rfl,bz⟩;go_wp2;go_ret;exact⟨cI (HT.out.trans e8.out),M.after bz M.size⟩
   |true=>
    go_wp2_with fail;refine(kX bo b3 (⟨#[105,110,116,101,114,118,97,108,115]⟩:ByteArray) _ (nU g l) _ oI.ints aK c9 (hp.keep a7) aK).mono ?_;rintro e u4 ⟨rfl,d0,f6⟩;have b6:=a7.after f6 aK;have g7:=e6.after f6 aO;clear a7 e6 c9;obtain⟨j5,c6⟩:=aQ (b3++[(⟨#[105,110,116,101,114,118,97,108,115]⟩:ByteArray),eX (nU g l)]);rw[<-c6]at d0;have w3:j5.length<=7:=by rw[c6,List.length_append];first|(simp only[List.length_cons,List.length_nil];omega)|(have:=cT _ _;omega)|(simp[eB];omega)
    have G:=(bY K2 g7 zb).cell;go_wp2_with fail;clear G;refine(k6.out _ (b5.below b6 aO)).mono ?_;rintro e y8 ⟨pS,iS,qS,rfl,oS,l2⟩;have h8:=b6.after l2 b6.size;have q0:=g7.after l2 (Nat.le_of_lt d0.lt);have k9:=d0.keep l2;clear b6 g7 d0 l2
    cases bS with
    |false=>
     have Y:cK eH j5=TT:=by rw[c6,F,D,z];exact HX.out
     have hz:=e7.out;rw[<-Y]at hz;have HT:=aN Y;clear Y z D F c6;obtain⟨lv,KL,oL⟩:=k9;have G:=KL.cell;go_wp2_with fail;clear G;refine(dP (bo+1) lv j5 _ oL aK aK).mono ?_;rintro e wz ⟨rfl,bz⟩;go_wp2;go_ret;exact⟨cI (HT.out.trans e8.out),h8.after bz h8.size⟩
    |true=>
     go_wp2_with fail;refine(k5.out _ _ oS.ints).mono ?_;rintro e m5 ⟨rfl,Z⟩;have a6:=h8.after Z h8.size;have b9:=q0.after Z (Nat.le_of_lt k9.lt);have b0:=k9.keep Z;clear h8 q0 k9 Z;have G:=(bY K2 b9 zb).cell;go_wp2_with fail;clear G;refine(gM g K3 _ (hp.keep a6)).mono ?_;rintro e j8 ⟨rfl,I⟩;have M:=a6.after I a6.size;have a8:=b9.after I (Nat.le_of_lt b0.lt);have O:=b0.keep I;clear a6 b9 b0 I;go_wp2_with fail;have p5:=O.lt;refine(dQ bo j5 [(⟨#[115,117,110,102,108,111,119,101,114]⟩:ByteArray),bZ g K3] j8.heap.size 2 2 _ (O.keep (bF _ _)) rfl (fR (bB _ _ _ _ _ rfl) (bB _ _ _ _ _ rfl)) (by simp only[List.length_cons,List.length_nil];omega)).mono ?_;rintro e j9 ⟨rfl,R,J⟩;have N:=(M.alloc M.size _).after J aK;have a9:=(a8.alloc (Nat.le_of_lt p5) _).after J aO;clear M a8 O;obtain⟨j2,d8⟩:=aQ (j5++[(⟨#[115,117,110,102,108,111,119,101,114]⟩:ByteArray),bZ g K3]);rw[<-d8]at R;have s9:j2.length<=9:=by rw[d8,List.length_append];first|(simp only[List.length_cons,List.length_nil];omega)|(have:=cT _ _;omega)|(simp[eB];omega)
     have Y:cK eH j2=TT:=by rw[d8,c6,F,D,z];exact HX.out
     have hz:=e7.out;rw[<-Y]at hz;have HT:=aN Y;clear Y z D F c6 d8;obtain⟨lv,KL,oL⟩:=R;have G:=KL.cell;go_wp2_with fail;clear G;refine(dP (bo+1) lv j2 _ oL aK aK).mono ?_;rintro e wz ⟨rfl,bz⟩;go_wp2;go_ret;exact⟨cI (HT.out.trans e8.out),N.after bz N.size⟩
  |true=>
   have t9:=(s2.out rfl).symm;subst t9;go_wp2_with fail;refine bH ?_;intro e4 hV;have c8:Below w w e4:=by rw[hV];exact g5.alloc g5.size _
   have k0:=Nat.le_of_lt g9.lt;have i6:Below bo w2 e4:=by rw[hV];exact g6.alloc k0 _
   have f4:gT bo e4 b3:=by rw[hV];exact g9.keep (bF _ _)
   have m3:aR e4 (.slice pA (sL g l).length qA) (sL g l):=by rw[hV];exact hA.alloc _
   clear hV g5 g6 g9 hA;refine(kQ g (sL g l) _ _ m3 (hp.keep c8)).mono ?_;rintro e r3 ⟨rfl,d6⟩;have a7:=c8.after d6 c8.size;have e6:=i6.after d6 (Nat.le_of_lt f4.lt);have c9:=f4.keep d6;clear c8 i6 f4 d6;go_wp2_with fail;have r5:=c9.lt;refine(dQ bo b3 [(⟨#[97,110,116,105,99,104,97,105,110]⟩:ByteArray),dB g (sL g l)] r3.heap.size 2 2 _ (c9.keep (bF _ _)) rfl (fR (bB _ _ _ _ _ rfl) (bB _ _ _ _ _ rfl)) (by simp only[List.length_cons,List.length_nil];omega)).mono ?_;rintro e y6 ⟨rfl,k8,q6⟩;have k4:=(a7.alloc a7.size _).after q6 aK;have n0:=(e6.alloc (Nat.le_of_lt r5) _).after q6 aO;clear a7 e6 c9;obtain⟨f5,S⟩:=aQ (b3++[(⟨#[97,110,116,105,99,104,97,105,110]⟩:ByteArray),dB g (sL g l)]);rw[<-S]at k8;have v9:f5.length<=7:=by rw[S,List.length_append];first|(simp only[List.length_cons,List.length_nil];omega)|(have:=cT _ _;omega)|(simp[eB];omega)
   have G:=(bY K2 n0 zb).cell;go_wp2_with fail;clear G;refine(q1.out _ (b5.below k4 aO)).mono ?_;rintro e y7 ⟨pI,iI,qI,rfl,oI,l1⟩;have f0:=k4.after l1 k4.size;have i7:=n0.after l1 (Nat.le_of_lt k8.lt);have j0:=k8.keep l1;clear k4 n0 k8 l1;have o3:iI=(nU g l).length:=oI.ints.capLe.1;subst o3
   cases bI with
   |false=>
    have G:=(bY K2 i7 zb).cell;go_wp2_with fail;clear G;refine(k6.out _ (b5.below f0 aO)).mono ?_;rintro e u5 ⟨pS,iS,qS,rfl,oS,f7⟩;have b7:=f0.after f7 f0.size;have g8:=i7.after f7 (Nat.le_of_lt j0.lt);have d5:=j0.keep f7;clear f0 i7 j0 f7
    cases bS with
    |false=>
     have Y:cK eH f5=TT:=by rw[S,F,D,z];exact HX.out
     have hz:=e7.out;rw[<-Y]at hz;have HT:=aN Y;clear Y z D F S;obtain⟨lv,KL,oL⟩:=d5;have G:=KL.cell;go_wp2_with fail;clear G;refine(dP (bo+1) lv f5 _ oL aK aK).mono ?_;rintro e wz ⟨rfl,bz⟩;go_wp2;go_ret;exact⟨cI (HT.out.trans e8.out),b7.after bz b7.size⟩
    |true=>
     go_wp2_with fail;refine(k5.out _ _ oS.ints).mono ?_;rintro e j8 ⟨rfl,I⟩;have M:=b7.after I b7.size;have a8:=g8.after I (Nat.le_of_lt d5.lt);have O:=d5.keep I;clear b7 g8 d5 I;have G:=(bY K2 a8 zb).cell;go_wp2_with fail;clear G;refine(gM g K3 _ (hp.keep M)).mono ?_;rintro e j9 ⟨rfl,J⟩;have N:=M.after J M.size;have a9:=a8.after J (Nat.le_of_lt O.lt);have R:=O.keep J;clear M a8 O J;go_wp2_with fail;have p6:=R.lt;refine(dQ bo f5 [(⟨#[115,117,110,102,108,111,119,101,114]⟩:ByteArray),bZ g K3] j9.heap.size 2 2 _ (R.keep (bF _ _)) rfl (fR (bB _ _ _ _ _ rfl) (bB _ _ _ _ _ rfl)) (by simp only[List.length_cons,List.length_nil];omega)).mono ?_;rintro e m6 ⟨rfl,c5,b4⟩;have b8:=(N.alloc N.size _).after b4 aK;have i1:=(a9.alloc (Nat.le_of_lt p6) _).after b4 aO;clear N a9 R;obtain⟨j3,d9⟩:=aQ (f5++[(⟨#[115,117,110,102,108,111,119,101,114]⟩:ByteArray),bZ g K3]);rw[<-d9]at c5;have t1:j3.length<=9:=by rw[d9,List.length_append];first|(simp only[List.length_cons,List.length_nil];omega)|(have:=cT _ _;omega)|(simp[eB];omega)
     have Y:cK eH j3=TT:=by rw[d9,S,F,D,z];exact HX.out
     have hz:=e7.out;rw[<-Y]at hz;have HT:=aN Y;clear Y z D F S d9;obtain⟨lv,KL,oL⟩:=c5;have G:=KL.cell;go_wp2_with fail;clear G;refine(dP (bo+1) lv j3 _ oL aK aK).mono ?_;rintro e wz ⟨rfl,bz⟩;go_wp2;go_ret;exact⟨cI (HT.out.trans e8.out),b8.after bz b8.size⟩
   |true=>
    go_wp2_with fail;refine(kX bo f5 (⟨#[105,110,116,101,114,118,97,108,115]⟩:ByteArray) _ (nU g l) _ oI.ints aK j0 (hp.keep f0) aK).mono ?_;rintro e u5 ⟨rfl,d5,f7⟩;have b7:=f0.after f7 aK;have g8:=i7.after f7 aO;clear f0 i7 j0;obtain⟨j6,c7⟩:=aQ (f5++[(⟨#[105,110,116,101,114,118,97,108,115]⟩:ByteArray),eX (nU g l)]);rw[<-c7]at d5;have w4:j6.length<=9:=by rw[c7,List.length_append];first|(simp only[List.length_cons,List.length_nil];omega)|(have:=cT _ _;omega)|(simp[eB];omega)
    have G:=(bY K2 g8 zb).cell;go_wp2_with fail;clear G;refine(k6.out _ (b5.below b7 aO)).mono ?_;rintro e w9 ⟨pS,iS,qS,rfl,oS,g3⟩;have e5:=b7.after g3 b7.size;have l9:=g8.after g3 (Nat.le_of_lt d5.lt);have g2:=d5.keep g3;clear b7 g8 d5 g3
    cases bS with
    |false=>
     have Y:cK eH j6=TT:=by rw[c7,S,F,D,z];exact HX.out
     have hz:=e7.out;rw[<-Y]at hz;have HT:=aN Y;clear Y z D F S c7;obtain⟨lv,KL,oL⟩:=g2;have G:=KL.cell;go_wp2_with fail;clear G;refine(dP (bo+1) lv j6 _ oL aK aK).mono ?_;rintro e wz ⟨rfl,bz⟩;go_wp2;go_ret;exact⟨cI (HT.out.trans e8.out),e5.after bz e5.size⟩
    |true=>
     go_wp2_with fail;refine(k5.out _ _ oS.ints).mono ?_;rintro e j9 ⟨rfl,J⟩;have N:=e5.after J e5.size;have a9:=l9.after J (Nat.le_of_lt g2.lt);have R:=g2.keep J;clear e5 l9 g2 J;have G:=(bY K2 a9 zb).cell;go_wp2_with fail;clear G;refine(gM g K3 _ (hp.keep N)).mono ?_;rintro e m6 ⟨rfl,b4⟩;have b8:=N.after b4 N.size;have i1:=a9.after b4 (Nat.le_of_lt R.lt);have c5:=R.keep b4;clear N a9 R b4;go_wp2_with fail;have p7:=c5.lt;refine(dQ bo j6 [(⟨#[115,117,110,102,108,111,119,101,114]⟩:ByteArray),bZ g K3] m6.heap.size 2 2 _ (c5.keep (bF _ _)) rfl (fR (bB _ _ _ _ _ rfl) (bB _ _ _ _ _ rfl)) (by simp only[List.length_cons,List.length_nil];omega)).mono ?_;rintro e x2 ⟨rfl,m1,m2⟩;have l8:=(b8.alloc b8.size _).after m2 aK;have u7:=(i1.alloc (Nat.le_of_lt p7) _).after m2 aO;clear b8 i1 c5;obtain⟨j4,e0⟩:=aQ (j6++[(⟨#[115,117,110,102,108,111,119,101,114]⟩:ByteArray),bZ g K3]);rw[<-e0]at m1;have t6:j4.length<=11:=by rw[e0,List.length_append];first|(simp only[List.length_cons,List.length_nil];omega)|(have:=cT _ _;omega)|(simp[eB];omega)
     have Y:cK eH j4=TT:=by rw[e0,c7,S,F,D,z];exact HX.out
     have hz:=e7.out;rw[<-Y]at hz;have HT:=aN Y;clear Y z D F S c7 e0;obtain⟨lv,KL,oL⟩:=m1;have G:=KL.cell;go_wp2_with fail;clear G;refine(dP (bo+1) lv j4 _ oL aK aK).mono ?_;rintro e wz ⟨rfl,bz⟩;go_wp2;go_ret;exact⟨cI (HT.out.trans e8.out),l8.after bz l8.size⟩
end
end Go.Proofs.YtcpoomdoodlkjaaGreatDoor
