/- Lemmas for CardReports. No condition. -/
import Derived.Test.YtcpoomdoodlkjaaGreatDoorQ46
import Derived.Test.YtcpoomdoodlkjaaGreatDoorQ47
set_option maxRecDepth 100000
set_option maxHeartbeats 64000000
namespace Go.Proofs.YtcpoomdoodlkjaaGreatDoor
section
open Go.RowKit Go.G5 Go.Proofs.Tryz
theorem XQ(c:List Int)(v:Value)(s:Int)(w:World)(hv:aO w v c)(hm:∀x∈c,0<=x/\x<64)(hs:0<=s/\s<64):
  Calls prog 244 #[v,s] w fun e w'=>e=.returned (.bool (kS c s))/\w=w':=by
 obtain⟨a,b,b7,cp,rfl,a9,M,hc,hb⟩:=hv.view prog 24 3 underlying24 aP;have HC:=aJ hc;have Y:=aJ M;have HM:=aJ hm;obtain⟨R,Z⟩:=aN (kS c s);rw[<-Z];have HR:=aJ Z;clear hc M hm Z;go_enter func244,ntmps244;go_wp2;go_loop [9] (fun iv=>∃j:Nat,j<=c.length/\iv=ajJ j/\bY (fun j=>lD s (c.getD j 0)) j=true) (fun iv=>c.length-(intOf iv).toNat)
 case atStart=>exact⟨0,Nat.zero_le _,rfl,rfl⟩
 case round=>
  obtain⟨j,hj,rfl,z⟩:=hrel;by_cases hlt:j<c.length
  ·have N:(j:Int)<(c.length:Int):=aI;have ck:=HC.out j hlt;have ik:=fun W=>Y.out W j hlt;have O:=HM.out _ (List.getElem_mem hlt);have hg:c.getD j 0=c[j]:=aU c j hlt;obtain⟨x,hx⟩:=aN (c[j]);rw[<-hx]at ck O hg;clear hx;have D:=NK s x w hs O
   cases K:lD s x with
   |false=>
    rw[K]at D;have hr:R=false:=by rw[HR.out];exact dD hlt (by rw[hg];exact K)
    have I:=aJ D;have J:=aJ hr;clear D hr K;go_wp2_with (go_at_call 221;refine I.out.mono ?_;rintro e w' ⟨rfl,rfl⟩);go_ret;exact⟨aW J.out.symm,rfl⟩
   |true=>
    rw[K]at D;have F:bY (fun j=>lD s (c.getD j 0)) (j+1)=true:=dK z (by rw[hg];exact K);have I:=aJ D;have S:=aJ F;clear D F K z;go_wp2_with (go_at_call 221;refine I.out.mono ?_;rintro e w' ⟨rfl,rfl⟩);go_round
    case rel=>exact⟨j+1,by omega,by go_num,S.out⟩
    case measure=>simp[intOf];omega
  ·have N:¬(j:Int)<(c.length:Int):=aI;have a6:j=c.length:=aI;subst a6;have hr:R=true:=by rw[HR.out];exact z
   have J:=aJ hr;clear hr z;go_wp2;go_ret;exact⟨aW J.out.symm,rfl⟩
theorem O4:∀args w,(callFunc 244 args).run prog w=.ok (.enter 244 args) w:=enters_of func244 aQ rfl
def Up(z:Nat)(v:Value)(l:List Int):Prop:=l≠[]->∀k,v.ownBlock=some k->z<k
def QJ(z:Nat)(b:List Int)(w:World)(e:Ending)(w':World):Prop:=
 e=.returned (.tuple #[])/\∃v,aR w' z 175 #[v,.func (.func 244) #[] #[]]/\aO w' v b/\Up z v b/\GrownIn w w' (fun k=>k=z)
theorem UP(I:Nat):∀(m:Nat) (sets:List Int) (sv:Value) (z:List Int) (lv:Value) (J:List Int) (bv:Value) (w:World),sets.length=m->(∀x∈sets,0<=x/\x<64)->aO w sv sets->BS I sv sets->aO w lv z->BS I lv z->(∀x∈z,0<=x/\x<64) ->
  aR w I 175 #[bv,.func (.func 244) #[] #[]]->aO w bv J->Up I bv J->z.length+m<=64->J.length<=64 ->
  Calls prog 290 #[.pointer (some ⟨I,0,none⟩),sv,lv] w (QJ I (sT kS sets z (cJ J z)) w):=by
 intro m
 induction m using Nat.strongRecOn with
 |ind m ih=>
 intro sets sv z lv J bv w hm j0 hs h5 hc l4 g3 K hb h0 n0 q3;have l8:=hs;have g0:=hc;have zo:=K.lt;obtain⟨a,n,r2,cp,rfl,e0,h7,j9,m8⟩:=hs.view prog 24 3 underlying24 aP;obtain⟨av,cv,rfl⟩:=hc.shape;obtain⟨ab,cb,rfl⟩:=hb.shape;have o2:=aJ h7;have f6:=aJ j0;have f2:=aJ g3;have IH:=aJ ih;have G:=K.cell;have HM:=aJ hm;have he:=O4;clear h7 j0 ih e0 hm g3;go_enter func290,ntmps290;go_upto_if 15 with fail;go_cut [16] (fun _ wx=>∃p q,aR wx I 175 #[.slice p (cJ J z).length q,.func (.func 244) #[] #[]]/\aO wx (.slice p (cJ J z).length q) (cJ J z)/\Up I (.slice p (cJ J z).length q) (cJ J z)/\GrownIn w wx (fun k=>k=I))
 case rest=>
  obtain⟨p,q,K1,d7,d9,g1⟩:=hcut;clear K hb h0 G;have h9:(cJ J z).length<=64:=by unfold cJ;split<;>omega
  obtain⟨b1,Y⟩:=aN (cJ J z);have HE:=aJ Y;rw[<-Y]at K1 d7 d9 h9;clear Y;go_wp2_with fail;go_loopw [23] (fun iv wr=>∃(j:Nat) (y:List Int) (p:Option Addr) (q:Nat),j<=sets.length/\iv=ajJ j/\aR wr I 175 #[ajH p y.length q,.func (.func 244) #[] #[]]/\aO wr (ajH p y.length q) y/\Up I (ajH p y.length q) y/\y.length<=64/\sT kS (sets.drop j) z y=sT kS sets z b1/\GrownIn w wr (fun k=>k=I)) (fun iv _=>sets.length-(intOf iv).toNat)
  case atStart=>exact⟨0,b1,p,q,Nat.zero_le _,rfl,K1,d7,d9,h9,rfl,g1⟩
  case round=>
   obtain⟨j,y,p',q',hj,rfl,K2,hy,a9,j3,b3,g2⟩:=hrel;clear K1 d7 d9 g1;have G:=K2.cell;have l7:z.length+sets.length<=64:=by have:=HM.out;omega
   by_cases hlt:j<sets.length
   ·have i1:(j:Int)<(sets.length:Int):=aI;have i7:=sX l8 g2 h5;have d8:=sX g0 g2 l4;obtain⟨a2,n2,o0,c2,l2,_,b8,g5,_⟩:=i7.view prog 24 3 underlying24 aP;injection l2 with e1 _ e3;subst e1 e3;have l1:=g5 j hlt;have q4:=fun W=>b8 W j hlt;clear g5 b8;have e4:=f6.out _ (List.getElem_mem hlt);have g6:=List.drop_eq_getElem_cons hlt;have N:(sets.drop (j+1)).length=sets.length-(j+1):=List.length_drop ..;have F:sT kS (sets.drop j) z y=if z.length+((sets.drop (j+1)).length+1)<=y.length then y else if kS z sets[j] then sT kS (sets.drop (j+1)) z (sT kS (sets.drop (j+1)) (z++[sets[j]]) (cJ y (z++[sets[j]]))) else sT kS (sets.drop (j+1)) z y:=by rw[g6,sT]
    rw[b3]at F;have yw:=g2.size;obtain⟨x,hx⟩:=aN (sets[j]);rw[<-hx]at l1 e4 F;clear hx b3 g6;have q6:IntKind.i64.wrap ((z.length:Int)+(sets.length:Int))=(z.length:Int)+(sets.length:Int):=by rw[IntKind.wrap_i64];omega
    have q7:IntKind.i64.wrap ((z.length:Int)+(sets.length:Int)-(j:Int))=(z.length:Int)+(sets.length:Int)-(j:Int):=by rw[IntKind.wrap_i64];omega
    by_cases a6:z.length+((sets.drop (j+1)).length+1)<=y.length
    ·rw[if_pos a6]at F;have i6:(z.length:Int)+(sets.length:Int)-(j:Int)<=(y.length:Int):=aI;have O:=aJ F;clear F a6 N;go_wp2;exact bodyPost_end (v:=.tuple #[]) (results_none rfl _ _ _) rfl ⟨rfl,_,K2,by rw[<-HE.out,O.out];exact hy,by rw[<-HE.out,O.out];exact a9,g2⟩
    ·rw[if_neg a6]at F;have i6:¬(z.length:Int)+(sets.length:Int)-(j:Int)<=(y.length:Int):=aI;have S:=XQ z _ x wr d8 f2.out e4
     cases hT:kS z x with
     |false=>
      rw[hT,if_neg (by simp)]at F;rw[hT]at S;have O:=aJ F;have d0:=aJ S;clear F a6 N hT S;go_wp2_with (go_at_fn 244;refine d0.out.mono ?_;rintro e w' ⟨rfl,rfl⟩);go_roundw
      case rel=>exact⟨j+1,y,p',q',by omega,by go_num,K2,hy,a9,j3,O.out.symm,g2⟩
      case measure=>simp[intOf];omega
     |true=>
      rw[hT,if_pos rfl]at F;rw[hT]at S;have l6:j+1<=sets.length:=hlt;have Z:(z++[x]).length=z.length+1:=by simp
      obtain⟨a3,c3,j1,i8,g8⟩:=JI i7 24 3 underlying24 aP (j+1) l6;have c6:=fun W=>j1 .i64 W;rw[show((j+1:Nat):Int)=(j:Int)+1 by simp]at c6;have d6:∀e∈sets.drop (j+1),0<=e/\e<64:=fun e he=>f6.out e (List.mem_of_mem_drop he);have hcm:∀e∈z++[x],0<=e/\e<64:=fun e he=>by
       rcases List.mem_append.1 he with h|h
       ·exact f2.out e h
       ·rw[List.mem_singleton]at h;rw[h];exact e4
      obtain⟨D,hD⟩:=aN (sets.drop (j+1));rw[<-hD]at N i8 g8 d6;simp only[<-hD]at c6;have a7:=aJ hD;have f8:sT kS (sets.drop (j+1)) (z++[x]) (cJ y (z++[x]))=sT kS D (z++[x]) (cJ y (z++[x])):=by rw[a7.out]
      clear hD j1;obtain⟨R,hR⟩:=aN (sT kS D (z++[x]) (cJ y (z++[x])));have l0:R.length<=64:=by rw[hR];have h1:=afM kS D (z++[x]) (cJ y (z++[x]));rw[wW,Z]at h1;omega
      have c5:∀(v6:Value) (w6:World),aM 3 wr w6 v6 (z++[x])->Below wr wr w6 ->
        Calls prog 290 #[.pointer (some ⟨I,0,none⟩),ajH a3 D.length c3,v6] w6 (QJ I R w6):=fun v6 w6 q1 q2=>by
       rw[hR];have zz:=K2.lt;exact IH.out D.length (by rw[N];have:=HM.out;omega) _ _ (z++[x]) v6 y _ w6 rfl d6 (i8.below q2 aK) (fun b0 k hk=>h5 (fun e=>b0 (by rw[a7.out,e];rfl)) k (g8 k hk)) q1.ints (fun _ k hk=>by have:=(q1.lt k hk).1;omega) hcm (K2.keep q2) (hy.below q2 aK) a9 (by rw[N,Z];omega) j3
      rw[f8,<-hR]at F;have f5:=aJ c5;have O:=aJ F;have d0:=aJ S;have f7:z.length + [x].length<=17592186044416:=by simp;omega
      have f9:dA x:=⟨by omega,by omega⟩;have q8:IntKind.i64.wrap ((j:Int)+1)=(j:Int)+1:=by rw[IntKind.wrap_i64];omega
      have f3:=aJ f7;have k6:=aJ f9;have g4:z.length<=1048576:=aI;have m9:=aJ N;clear c5 F hR f8 d6 f7 f9 N Z l7 hcm hT S a6;go_wp2_with (go_at_fn 244;refine d0.out.mono ?_;rintro e w' ⟨rfl,rfl⟩);go_region_law
       (first
        |(go_simp;go_at_call 260;refine(kT _ z _ ?_ g4).mono ?_;(first|(with_reducible exact d8.drew')|(with_reducible exact(d8.alloc _).drew'));rintro e w5 ⟨p5,i5,q5,rfl,o5,b5⟩;have c8:=aM.mono (B':=wr.heap.size) o5 (by first|omega|(simp;done)|(simp;omega));first|(have a8:Below wr wr w5:=((aY wr (.cells #[x] 3)).drewN' 1).after b5 (by first|omega|(simp;done)|(simp;omega));have j4:w5.cell? ⟨wr.heap.size,0,none⟩=some (ajJ x):=keep b5 (yH wr 3 (ajJ x)))|(have a8:Below wr wr w5:=((Below.refl wr.heap.size wr).drewN' 1).after b5 (by first|omega|(simp;done)|(simp;omega))))
        |(refine iN rfl _ _ _ rfl 3 underlying24 aP wr.heap.size (ajH p5 i5 q5) z rfl (ajH (some ⟨_,0,none⟩) 1 1) [x] rfl ?_ ?_ f3.out wr ?_ aK ?_;(first|(with_reducible exact c8.alloc _)|(with_reducible exact c8));(refine aO.one ?_ k6.out;first|(with_reducible exact aX _ _ _ _ _ rfl)|(with_reducible exact j4));(first|(with_reducible exact a8.alloc a8.size _)|(with_reducible exact a8));intro v6 w6 o6 b6 _)
        |(go_simp;go_at_call 290;refine(f5.out _ w6 o6 b6).mono ?_;rintro e7 w7 ⟨rfl,p0,K7,j2,l3,g7⟩))
      all_goals
       obtain⟨p7,c7,rfl⟩:=j2.shape;have k9:=g2.trans ((GrownIn.of_below (P:=fun k=>k=I) b6).trans g7);have b7:sT kS D z R=sT kS sets z b1:=by rw[O.out,a7.out]
       have f0:=aJ b7;clear b7 G;go_wp2;go_roundw
       case rel=>exact⟨j+1,R,p7,c7,by omega,by go_num,K7,j2,l3,l0,by rw[<-a7.out];exact f0.out,k9⟩
       case measure=>simp[intOf];omega
   ·have i1:¬(j:Int)<(sets.length:Int):=aI;have h8:j=sets.length:=aI;have b9:y=sT kS sets z (cJ J z):=by rw[<-HE.out,<-b3,h8,List.drop_length];rfl
    have f4:=aJ b9;clear b3 b9 h8;go_wp2;exact bodyPost_end (v:=.tuple #[]) (results_none rfl _ _ _) rfl ⟨rfl,_,K2,by rw[<-f4.out];exact hy,by rw[<-f4.out];exact a9,g2⟩
 case first=>
  by_cases a1:J.length<z.length
  ·have h6:(J.length:Int)<(z.length:Int):=aI;have hlo:cJ J z=z:=by unfold cJ;rw[if_pos a1]
   have M:=aJ hlo;have b0:z≠[]:=by intro e;subst e;simp at a1
   have o3:=aJ b0;clear hlo a1 b0;go_wp2_with fail;refine(kT _ z w g0 aI).mono ?_;rintro e w1 ⟨pc,ic,qc,rfl,oc,bc⟩;have l5:ic=z.length:=oc.ints.capLe.1;subst l5;have K1:=K.keep bc;have G1:=K1.cell;have F1:=K1.frozen;have z1:=K1.lt;clear G;go_wp2;go_meet;have KF:aR (w1.setCell ⟨I,0,none⟩ (ajH pc z.length qc)) I 175 #[ajH pc z.length qc,.func (.func 244) #[] #[]]:=by have:=K1.set 0 (ajH pc z.length qc);simpa using this
   have gF:w1.grownBy (w1.setCell ⟨I,0,none⟩ (ajH pc z.length qc)) (some I):=dT (World.grownBy.refl _ _) 0 _;have g9:Up I (ajH pc z.length qc) z:=fun _ k hk=>by have:=(oc.lt k hk).1;omega
   have hI:=(oc.setFar ⟨I,0,none⟩ (fun e=>by have:=(oc.lt I e).1;omega) (ajH pc z.length qc)).ints;exact⟨pc,qc,by rw[M.out];exact KF,by rw[M.out];exact hI,by rw[M.out];exact g9,(GrownIn.of_below bc).trans (GrownIn.of_row gF (fun k hk=>(Option.some.inj hk).symm))⟩
  ·have h6:¬(J.length:Int)<(z.length:Int):=aI;have hlo:cJ J z=J:=by unfold cJ;rw[if_neg a1]
   have M:=aJ hlo;clear hlo a1;go_wp2_with fail;go_meet;exact⟨ab,cb,by rw[M.out];exact K,by rw[M.out];exact hb,by rw[M.out];exact h0,GrownIn.refl _ _⟩
end
end Go.Proofs.YtcpoomdoodlkjaaGreatDoor
section
namespace Go.G5
open Go Go.RowKit
variable {P:Program} {w:World} {a:Addr} {m:Mode}
@[go_sem] theorem run_store_funcA (f : Fn) (x y : Array Value) : (store a (.func f x y) m).run P w = stored P w a (.func f x y) m := run_store P w a _ m rfl
end Go.G5
namespace Go.Proofs.YtcpoomdoodlkjaaGreatDoor
open Go.RowKit Go.G5 Go.Proofs.Tryz
theorem JV(w:World)(v:Value)(l:List Int)(O:aO w v l)(hm:∀x∈l,0<=x/\x<64)(hl:l.length<=64):
  Calls prog 243 #[v,.func (.func 244) #[] #[]] w fun e w'=>∃ad i I,e=.returned (ajH ad i I)/\aO w' (ajH ad i I) (iP kS l [] [])/\Up w.heap.size (ajH ad i I) (iP kS l [] [])/\Below w w w':=by
 have F:=O;obtain⟨a,c,rfl⟩:=O.shape;have D:BS w.heap.size (ajH a l.length c) l:=fun N k hk e=>by have h1:=WZ F N k hk;omega
 have z:∀V,Below w w V->aR V w 175 #[(),.func (.func 244) #[] #[]]->Calls prog 290 #[.pointer (some ⟨w,0,none⟩),ajH a l.length c,()] V (QJ w.heap.size (iP kS l [] []) V):=fun V hB hK=>by have h:=UP w.heap.size l.length l (ajH a l.length c) [] (ajH none 0 0) [] (ajH none 0 0) V rfl hm (F.below hB aK) D (aO.empty _ _ _ _ rfl aV) (fun h=>absurd rfl h) (by simp) hK (aO.empty _ _ _ _ rfl aV) (fun h=>absurd rfl h) (by simpa using hl) (by simp);have he:cJ ([]:List Int) []=[]:=rfl;rw[he,afN]at h;exact h
 have S:=aJ z;clear z;go_enter func243,ntmps243;go_wp2_with fail;refine bB ?_;intro V J;have B:Below w w V:=fR J;have Y:aR V w 175 #[(),.func (.func 244) #[] #[]]:=eG J;clear J;refine(S.out V B Y).mono ?_;rintro e w2 ⟨rfl,bv,K,hb,M,Z⟩;obtain⟨pb,qb,rfl⟩:=hb.shape;have R:Below w w w2:=Below.growIn B Z B.size (by rintro k rfl;exact aK);have G:=K.cell;go_wp2;go_ret;exact⟨_,_,_,rfl,hb,M,R⟩
theorem ac7(w:World)(g:Int)(v:Value)(l:List Int)(hv:aO w v l):
  Calls prog 137 #[.agg #[g,v]] w fun e w'=>∃ad i cp,e=.returned (.tuple #[.agg #[(FM g l),ajH ad i cp],.bool (uR g l)])/\aO w' (ajH ad i cp) (sI g l)/\Below w w w':=by
 have e5:=hv;obtain⟨a,c,rfl⟩:=hv.shape;go_enter func137,ntmps137;go_wp2_with fail;refine bB ?_;intro V hV;have B:Below w w V:=fY hV;have K1:aR V w 31 #[g,ajH a l.length c]:=gL hV;have K2:aR V (w.heap.size+1) 31 #['0',()]:=gV hV;clear hV;refine(dC g l _ _ (hv.below B aK)).mono ?_;rintro e w1 ⟨rfl,K⟩;have I:=K1.keep K;have F:=K2.keep K;have B1:=B.after K B.size;have c7:=hv.below B1 aK;clear K1 K2 B K;have Y:=I.cell;have z1:=I.lt;have z2:=F.lt
 cases D:uR g l with
 |false=>
  have a7:=And.intro (abM D) D;have R:=aJ a7;have c6:bF g l=false∨(bF g l=true/\¬l.length<=12):=by
   unfold uR at D
   cases M:bF g l with
   |false=>exact .inl rfl
   |true=>rw[M]at D;simp at D;exact .inr ⟨rfl,by omega⟩
  clear a7 D;have G2:=F.cell;have F2:=F.frozen;have key:∀Wf,Wf=(w1.setCell ⟨w.heap.size+1,0,none⟩ (ajJ 0)).setCell ⟨w.heap.size+1,1,none⟩ (ajH none 0 0)->aR Wf (w.heap.size+1) 31 #['0',()]/\Below w w Wf:=fun Wf z=>by refine⟨?_,by rw[z];exact Below.setCell (Below.setCell B1 (by first|omega|(simp;done)|(simp;omega)) _) (by first|omega|(simp;done)|(simp;omega)) _⟩;rw[z];have:=(F.set 0 (ajJ 0)).set 1 (ajH none 0 0);simpa using this
  rcases c6 with M|⟨M,e4⟩
  ·rw[M];go_wp2;refine aZ ?_;intro Wf z;obtain⟨Kf,S⟩:=key Wf z;have Z:=Kf.cell;clear z Y G2 F2 key;exact bodyPost_ret (v:=.tuple #[.agg #['0',()],.bool false]) (by simp[results,results137,go_sem,Z]) rfl ⟨none,0,0,by rw[R.out.1.1,R.out.2],by rw[R.out.1.2];exact aO.empty _ _ _ _ rfl aV,S⟩
  ·rw[M];have d6:(12:Int)<(l.length:Int):=aI;go_wp2;refine aZ ?_;intro Wf z;obtain⟨Kf,S⟩:=key Wf z;have Z:=Kf.cell;clear z Y G2 F2 key;exact bodyPost_ret (v:=.tuple #[.agg #['0',()],.bool false]) (by simp[results,results137,go_sem,Z]) rfl ⟨none,0,0,by rw[R.out.1.1,R.out.2],by rw[R.out.1.2];exact aO.empty _ _ _ _ rfl aV,S⟩
 |true=>
  have N:=And.intro (EP D) D;have HY:=aJ N;unfold uR at D;rw[Bool.and_eq_true,decide_eq_true_eq]at D;obtain⟨M,e0⟩:=D;have d5:¬(12:Int)<(l.length:Int):=aI;have a6:=JV w1 _ l c7 (dV M) aI;have b7:=aJ a6;rw[M];clear N M a6;go_wp2_with fail;refine b7.out.mono ?_;rintro e w3 ⟨p3,i3,q3,rfl,o3,u3,b3⟩;have b9:=I.keep b3;have J:=F.keep b3;have B3:=B1.after b3 B1.size;have e9:=z2;clear Y z1 z2 I F b3;have Y:=b9.cell;have G2:=J.cell;have F2:=J.frozen;have z2:=J.lt;have O:iP kS l [] []≠[]->∀k,(Value.slice p3 i3 q3).ownBlock=some k->¬k=w.heap.size+1:=fun c5 k hk=>by have:=u3 c5 k hk;omega
  go_wp2;refine aZ ?_;intro Wf z;have Kf:aR Wf (w.heap.size+1) 31 #[g,ajH p3 i3 q3]:=by rw[z];have:=(J.set 0 (ajJ g)).set 1 (ajH p3 i3 q3);simpa using this
  have S:Below w w Wf:=by rw[z];exact Below.setCell (Below.setCell B3 (by first|omega|(simp;done)|(simp;omega)) _) (by first|omega|(simp;done)|(simp;omega)) _
  have gf:GrownIn w3 Wf (fun k=>k=w.heap.size+1):=by rw[z];exact(GrownIn.of_row (fE w3 ⟨w.heap.size+1,0,none⟩ _) (fun k hk=>(Option.some.inj hk).symm)).trans (GrownIn.of_row (fE _ ⟨w.heap.size+1,1,none⟩ _) (fun k hk=>(Option.some.inj hk).symm))
  have of:=sX o3 gf O;have Z:=Kf.cell;clear z Y G2 F2;exact bodyPost_ret (v:=.tuple #[.agg #[g,ajH p3 i3 q3],.bool true]) (by simp[results,results137,go_sem,Z]) rfl ⟨_,_,_,by rw[HY.out.1.1,HY.out.2],by rw[HY.out.1.2];exact of,S⟩
end Go.Proofs.YtcpoomdoodlkjaaGreatDoor
end
namespace Go.Proofs.YtcpoomdoodlkjaaGreatDoor
section
open Go.RowKit Go.G5 Go.Proofs.Tryz
theorem aaH{w:World}{cs:Array Value}{T:TypeId}{n i:Nat}{u:Value}(z:w.heap.size=n)(h:cs[i]?=some u):(w.alloc (.cells cs T)).cell? ⟨n,i,none⟩=some u:=by
 subst z;exact aX w cs T i u h
theorem ab6(w:World)(g:Int)(v:Value)(l:List Int)(hv:aO w v l)(hl:l.length<=1048576)(hp:sR w):
  Calls prog 24 #[.agg #[g,v]] w fun e w'=>e=.returned (.string (zZ g l))/\Below w w w':=by
 have b5:=hv;obtain⟨a,c,rfl⟩:=hv.shape;have K0:=aR.new w 31 #[g,ajH a l.length c]
 cases hf:bF g l with
 |false=>have HX:=aJ (XE hf);have HF:=aJ hf;clear hf;go_enter func24,ntmps24;go_wp2_with fail;refine(dC g l _ _ (b5.alloc _)).mono ?_;rintro e w1 ⟨rfl,b1⟩;rw[HF.out];go_wp2;go_ret;exact⟨bX HX.out.symm,(aY _ _).after b1 (by simp)⟩
 |true=>
  obtain⟨TT,l3⟩:=aN (zZ g l);have hx:bZ eD (olL g l)=TT:=by rw[l3,G9 hf];exact ai1 g l
  have r0:TT.size<=10700:=by rw[l3,G9 hf];exact aeN g l
  unfold olL S8 at hx;have hcl:=LP g l;have x6:=sE g l;have x5:=(DA g l).1;have l6:uR g l=true->FM g l=g:=fun h=>(EP h).1;have o6:=fun(W:World) (h:aO W (ajH a l.length c) l)=>adG W g _ l h;have o7:=fun(W:World) (h:aO W (ajH a l.length c) l)=>abO W g _ l h;have l4:=fun(W:World) (h:aO W (ajH a l.length c) l)=>ac7 W g _ l h;have o4:=fun(W:World) (h:aO W (ajH a l.length c) l)=>aiW W g _ l h;have o8:=fun(W:World) (h:aO W (ajH a l.length c) l)=>YP W g _ l h hl 3 ⟨by omega,by omega⟩;have o5:=fun(W:World) (v:Value) (h:aO W v (jX g l 3))=>VF (jX g l 3) v W h;obtain⟨bA,l5⟩:=aN (uR g l);obtain⟨bI,o1⟩:=aN (xP g l);obtain⟨bS,o2⟩:=aN (mZ g l 3);rw[<-l5]at l6;rw[<-l5,<-o1,<-o2]at hx;simp only[hf]at o6 o7;simp only[<-l5]at l4;simp only[<-o1]at o4;simp only[<-o2]at o8;obtain⟨N0,q9⟩:=aN (FM g l);simp only[<-q9]at l4 l6;obtain⟨K3,q8⟩:=aN (mL (jX g l 3));simp only[<-q8]at o5 hx;have e8:=aJ l3;have HX:=aJ hx;have e7:=aJ r0;have HF:=aJ hf;have s2:=aJ l6;have s3:=aJ o6;have s4:=aJ o7;have r9:=aJ l4;have q1:=aJ o4;have k6:=aJ o8;have k5:=aJ o5;clear hx hf l3 r0 l6 o6 o7 l4 o4 o8 o5 l5 o1 o2 q9 q8;go_enter func24,ntmps24;go_wp2_with fail;refine(dC g l _ _ (b5.alloc _)).mono ?_;rintro e w0 ⟨rfl,b1⟩;rw[HF.out];have B:Below w w w0:=(aY _ _).after b1 (by simp);have K:=K0.keep b1;clear K0 b1;have G:=K.cell;go_wp2_with fail;refine(s3.out _ (b5.below B aK)).mono ?_;rintro e w1 ⟨pC,iC,qC,rfl,oC,b2⟩;have t8:iC=(wL g l).length:=oC.ints.capLe.1;subst t8;have Ba:=B.after b2 B.size;have Ka:=K.keep b2;clear B K G b2 oC;have G:=Ka.cell;go_wp2_with fail;refine(s4.out _ (b5.below Ba aK)).mono ?_;rintro e w2 ⟨pL,qL,rfl,oL,b2⟩;have B1:=Ba.after b2 Ba.size;have K1:=Ka.keep b2;clear Ba Ka G b2 oL;obtain⟨bo,h0⟩:=aN w2.heap.size;have zb:w.heap.size<bo:=by rw[h0];exact K1.lt
  have zc:w2.heap.size<=bo:=aI;have L3:gQ bo (w2.alloc (.cells #[()] 45)) []:=by rw[h0];exact gQ.new w2
  have K2:aR w2 w 31 #[g,ajH a l.length c]:=K1;have B3:=B1.alloc B1.size (.cells #[()] 45);have C3:Below bo w2 (w2.alloc (.cells #[()] 45)):=by rw[h0];exact aY w2 _
  have s0:=aJ (show(w2.alloc (.cells #[()] 45)).heap.size=bo+1 by rw[h0];simp);go_wp2_with fail;rw[<-h0];clear h0 K1;have r4:=L3.lt;refine(dN bo [] [(⟨#[111,114,100,101,114]⟩:ByteArray)] (bo+1) 1 1 _ (L3.keep (aY _ _)) rfl (yI (aaH s0.out rfl)) (by simp only[List.length_cons,List.length_nil];omega)).mono ?_;rintro e y2 ⟨rfl,n1,q3⟩;have m7:=(B3.alloc B3.size _).after q3 aI;have p8:=(C3.alloc (Nat.le_of_lt r4) _).after q3 aK;clear B3 C3 L3;obtain⟨n3,z⟩:=aN ([]++[(⟨#[111,114,100,101,114]⟩:ByteArray)]);rw[<-z]at n1;have v6:n3.length<=1:=by rw[z,List.length_append];first|(simp only[List.length_cons,List.length_nil];omega)|(have:=cQ _ _;omega)|(simp[dY];omega)
  go_wp2_with fail;refine(eT bo n3 (⟨#[99,104,97,105,110]⟩:ByteArray) (((wL g l).length:Int)) ⟨by omega,by omega⟩ _ n1 (hp.keep m7) aI).mono ?_;rintro e y3 ⟨rfl,n2,q4⟩;have m8:=m7.after q4 aI;have p9:=p8.after q4 aK;clear m7 p8 n1;obtain⟨o0,D⟩:=aN (n3++[(⟨#[99,104,97,105,110]⟩:ByteArray),bM (((wL g l).length:Int))]);rw[<-D]at n2;have v7:o0.length<=3:=by rw[D,List.length_append];first|(simp only[List.length_cons,List.length_nil];omega)|(have:=cQ _ _;omega)|(simp[dY];omega)
  go_wp2_with fail;refine(eT bo o0 (⟨#[108,101,118,101,108,115]⟩:ByteArray) (((eI g l).length:Int)) ⟨by omega,by omega⟩ _ n2 (hp.keep m8) aI).mono ?_;rintro e y4 ⟨rfl,k7,q5⟩;have k3:=m8.after q5 aI;have m9:=p9.after q5 aK;clear m8 p9 n2;obtain⟨b3,F⟩:=aN (o0++[(⟨#[108,101,118,101,108,115]⟩:ByteArray),bM (((eI g l).length:Int))]);rw[<-F]at k7;have v8:b3.length<=5:=by rw[F,List.length_append];first|(simp only[List.length_cons,List.length_nil];omega)|(have:=cQ _ _;omega)|(simp[dY];omega)
  have G:=(bU K2 m9 zb).cell;go_wp2_with fail;clear G;refine(r9.out _ (b5.below k3 aK)).mono ?_;rintro e y5 ⟨pA,iA,qA,rfl,hA,l0⟩;have g5:=k3.after l0 k3.size;have g6:=m9.after l0 (Nat.le_of_lt k7.lt);have g9:=k7.keep l0;clear k3 m9 k7 l0;have t7:iA=(sI g l).length:=hA.capLe.1;subst t7
  cases bA with
  |false=>
   have G:=(bU K2 g6 zb).cell;have zf:=(bU K2 g6 zb).lt;go_wp2_with fail;clear G zf;refine bB ?_;intro e4 hV;have c8:Below w w e4:=by rw[hV];exact g5.alloc g5.size _
   have k0:=Nat.le_of_lt g9.lt;have i6:Below bo w2 e4:=by rw[hV];exact g6.alloc k0 _
   have f4:gQ bo e4 b3:=by rw[hV];exact g9.keep (aY _ _)
   have m3:aO e4 (.slice pA (sI g l).length qA) (sI g l):=by rw[hV];exact hA.alloc _
   clear hV g5 g6 g9 hA;refine(q1.out _ (b5.below c8 aK)).mono ?_;rintro e r3 ⟨pI,iI,qI,rfl,oI,d6⟩;have a7:=c8.after d6 c8.size;have e6:=i6.after d6 (Nat.le_of_lt f4.lt);have c9:=f4.keep d6;clear c8 i6 f4 d6;have o3:iI=(nR g l).length:=oI.ints.capLe.1;subst o3
   cases bI with
   |false=>
    have G:=(bU K2 e6 zb).cell;go_wp2_with fail;clear G;refine(k6.out _ (b5.below a7 aK)).mono ?_;rintro e u4 ⟨pS,iS,qS,rfl,oS,f6⟩;have b6:=a7.after f6 a7.size;have g7:=e6.after f6 (Nat.le_of_lt c9.lt);have d0:=c9.keep f6;clear a7 e6 c9 f6
    cases bS with
    |false=>
     have Y:bZ eD b3=TT:=by rw[F,D,z];exact HX.out
     have hz:=e7.out;rw[<-Y]at hz;have HT:=aJ Y;clear Y z D F;obtain⟨lv,KL,oL⟩:=d0;have G:=KL.cell;go_wp2_with fail;clear G;refine(dM (bo+1) lv b3 _ oL aI aI).mono ?_;rintro e wz ⟨rfl,bz⟩;go_wp2;go_ret;exact⟨bX (HT.out.trans e8.out),b6.after bz b6.size⟩
    |true=>
     go_wp2_with fail;refine(k5.out _ _ oS.ints).mono ?_;rintro e x0 ⟨rfl,g4⟩;have g1:=b6.after g4 b6.size;have h9:=g7.after g4 (Nat.le_of_lt d0.lt);have i8:=d0.keep g4;clear b6 g7 d0 g4;have G:=(bU K2 h9 zb).cell;go_wp2_with fail;clear G;refine(gJ g K3 _ (hp.keep g1)).mono ?_;rintro e m5 ⟨rfl,Z⟩;have a6:=g1.after Z g1.size;have b9:=h9.after Z (Nat.le_of_lt i8.lt);have b0:=i8.keep Z;clear g1 h9 i8 Z;go_wp2_with fail;have p1:=b0.lt;refine(dN bo b3 [(⟨#[115,117,110,102,108,111,119,101,114]⟩:ByteArray),bW g K3] m5.heap.size 2 2 _ (b0.keep (aY _ _)) rfl (fO (aX _ _ _ _ _ rfl) (aX _ _ _ _ _ rfl)) (by simp only[List.length_cons,List.length_nil];omega)).mono ?_;rintro e j8 ⟨rfl,O,I⟩;have M:=(a6.alloc a6.size _).after I aI;have a8:=(b9.alloc (Nat.le_of_lt p1) _).after I aK;clear a6 b9 b0;obtain⟨j1,d7⟩:=aN (b3++[(⟨#[115,117,110,102,108,111,119,101,114]⟩:ByteArray),bW g K3]);rw[<-d7]at O;have s8:j1.length<=7:=by rw[d7,List.length_append];first|(simp only[List.length_cons,List.length_nil];omega)|(have:=cQ _ _;omega)|(simp[dY];omega)
     have Y:bZ eD j1=TT:=by rw[d7,F,D,z];exact HX.out
     have hz:=e7.out;rw[<-Y]at hz;have HT:=aJ Y;clear Y z D F d7;obtain⟨lv,KL,oL⟩:=O;have G:=KL.cell;go_wp2_with fail;clear G;refine(dM (bo+1) lv j1 _ oL aI aI).mono ?_;rintro e wz ⟨rfl,bz⟩;go_wp2;go_ret;exact⟨bX (HT.out.trans e8.out),M.after bz M.size⟩
   |true=>
    go_wp2_with fail;refine(kU bo b3 (⟨#[105,110,116,101,114,118,97,108,115]⟩:ByteArray) _ (nR g l) _ oI.ints aI c9 (hp.keep a7) aI).mono ?_;rintro e u4 ⟨rfl,d0,f6⟩;have b6:=a7.after f6 aI;have g7:=e6.after f6 aK;clear a7 e6 c9;obtain⟨j5,c6⟩:=aN (b3++[(⟨#[105,110,116,101,114,118,97,108,115]⟩:ByteArray),eU (nR g l)]);rw[<-c6]at d0;have w3:j5.length<=7:=by rw[c6,List.length_append];first|(simp only[List.length_cons,List.length_nil];omega)|(have:=cQ _ _;omega)|(simp[dY];omega)
    have G:=(bU K2 g7 zb).cell;go_wp2_with fail;clear G;refine(k6.out _ (b5.below b6 aK)).mono ?_;rintro e y8 ⟨pS,iS,qS,rfl,oS,l2⟩;have h8:=b6.after l2 b6.size;have q0:=g7.after l2 (Nat.le_of_lt d0.lt);have k9:=d0.keep l2;clear b6 g7 d0 l2
    cases bS with
    |false=>
     have Y:bZ eD j5=TT:=by rw[c6,F,D,z];exact HX.out
     have hz:=e7.out;rw[<-Y]at hz;have HT:=aJ Y;clear Y z D F c6;obtain⟨lv,KL,oL⟩:=k9;have G:=KL.cell;go_wp2_with fail;clear G;refine(dM (bo+1) lv j5 _ oL aI aI).mono ?_;rintro e wz ⟨rfl,bz⟩;go_wp2;go_ret;exact⟨bX (HT.out.trans e8.out),h8.after bz h8.size⟩
    |true=>
     go_wp2_with fail;refine(k5.out _ _ oS.ints).mono ?_;rintro e m5 ⟨rfl,Z⟩;have a6:=h8.after Z h8.size;have b9:=q0.after Z (Nat.le_of_lt k9.lt);have b0:=k9.keep Z;clear h8 q0 k9 Z;have G:=(bU K2 b9 zb).cell;go_wp2_with fail;clear G;refine(gJ g K3 _ (hp.keep a6)).mono ?_;rintro e j8 ⟨rfl,I⟩;have M:=a6.after I a6.size;have a8:=b9.after I (Nat.le_of_lt b0.lt);have O:=b0.keep I;clear a6 b9 b0 I;go_wp2_with fail;have p5:=O.lt;refine(dN bo j5 [(⟨#[115,117,110,102,108,111,119,101,114]⟩:ByteArray),bW g K3] j8.heap.size 2 2 _ (O.keep (aY _ _)) rfl (fO (aX _ _ _ _ _ rfl) (aX _ _ _ _ _ rfl)) (by simp only[List.length_cons,List.length_nil];omega)).mono ?_;rintro e j9 ⟨rfl,R,J⟩;have N:=(M.alloc M.size _).after J aI;have a9:=(a8.alloc (Nat.le_of_lt p5) _).after J aK;clear M a8 O;obtain⟨j2,d8⟩:=aN (j5++[(⟨#[115,117,110,102,108,111,119,101,114]⟩:ByteArray),bW g K3]);rw[<-d8]at R;have s9:j2.length<=9:=by rw[d8,List.length_append];first|(simp only[List.length_cons,List.length_nil];omega)|(have:=cQ _ _;omega)|(simp[dY];omega)
     have Y:bZ eD j2=TT:=by rw[d8,c6,F,D,z];exact HX.out
     have hz:=e7.out;rw[<-Y]at hz;have HT:=aJ Y;clear Y z D F c6 d8;obtain⟨lv,KL,oL⟩:=R;have G:=KL.cell;go_wp2_with fail;clear G;refine(dM (bo+1) lv j2 _ oL aI aI).mono ?_;rintro e wz ⟨rfl,bz⟩;go_wp2;go_ret;exact⟨bX (HT.out.trans e8.out),N.after bz N.size⟩
  |true=>
   have t9:=(s2.out rfl).symm;subst t9;go_wp2_with fail;refine bB ?_;intro e4 hV;have c8:Below w w e4:=by rw[hV];exact g5.alloc g5.size _
   have k0:=Nat.le_of_lt g9.lt;have i6:Below bo w2 e4:=by rw[hV];exact g6.alloc k0 _
   have f4:gQ bo e4 b3:=by rw[hV];exact g9.keep (aY _ _)
   have m3:aO e4 (.slice pA (sI g l).length qA) (sI g l):=by rw[hV];exact hA.alloc _
   clear hV g5 g6 g9 hA;refine(kN g (sI g l) _ _ m3 (hp.keep c8)).mono ?_;rintro e r3 ⟨rfl,d6⟩;have a7:=c8.after d6 c8.size;have e6:=i6.after d6 (Nat.le_of_lt f4.lt);have c9:=f4.keep d6;clear c8 i6 f4 d6;go_wp2_with fail;have r5:=c9.lt;refine(dN bo b3 [(⟨#[97,110,116,105,99,104,97,105,110]⟩:ByteArray),cY g (sI g l)] r3.heap.size 2 2 _ (c9.keep (aY _ _)) rfl (fO (aX _ _ _ _ _ rfl) (aX _ _ _ _ _ rfl)) (by simp only[List.length_cons,List.length_nil];omega)).mono ?_;rintro e y6 ⟨rfl,k8,q6⟩;have k4:=(a7.alloc a7.size _).after q6 aI;have n0:=(e6.alloc (Nat.le_of_lt r5) _).after q6 aK;clear a7 e6 c9;obtain⟨f5,S⟩:=aN (b3++[(⟨#[97,110,116,105,99,104,97,105,110]⟩:ByteArray),cY g (sI g l)]);rw[<-S]at k8;have v9:f5.length<=7:=by rw[S,List.length_append];first|(simp only[List.length_cons,List.length_nil];omega)|(have:=cQ _ _;omega)|(simp[dY];omega)
   have G:=(bU K2 n0 zb).cell;go_wp2_with fail;clear G;refine(q1.out _ (b5.below k4 aK)).mono ?_;rintro e y7 ⟨pI,iI,qI,rfl,oI,l1⟩;have f0:=k4.after l1 k4.size;have i7:=n0.after l1 (Nat.le_of_lt k8.lt);have j0:=k8.keep l1;clear k4 n0 k8 l1;have o3:iI=(nR g l).length:=oI.ints.capLe.1;subst o3
   cases bI with
   |false=>
    have G:=(bU K2 i7 zb).cell;go_wp2_with fail;clear G;refine(k6.out _ (b5.below f0 aK)).mono ?_;rintro e u5 ⟨pS,iS,qS,rfl,oS,f7⟩;have b7:=f0.after f7 f0.size;have g8:=i7.after f7 (Nat.le_of_lt j0.lt);have d5:=j0.keep f7;clear f0 i7 j0 f7
    cases bS with
    |false=>
     have Y:bZ eD f5=TT:=by rw[S,F,D,z];exact HX.out
     have hz:=e7.out;rw[<-Y]at hz;have HT:=aJ Y;clear Y z D F S;obtain⟨lv,KL,oL⟩:=d5;have G:=KL.cell;go_wp2_with fail;clear G;refine(dM (bo+1) lv f5 _ oL aI aI).mono ?_;rintro e wz ⟨rfl,bz⟩;go_wp2;go_ret;exact⟨bX (HT.out.trans e8.out),b7.after bz b7.size⟩
    |true=>
     go_wp2_with fail;refine(k5.out _ _ oS.ints).mono ?_;rintro e j8 ⟨rfl,I⟩;have M:=b7.after I b7.size;have a8:=g8.after I (Nat.le_of_lt d5.lt);have O:=d5.keep I;clear b7 g8 d5 I;have G:=(bU K2 a8 zb).cell;go_wp2_with fail;clear G;refine(gJ g K3 _ (hp.keep M)).mono ?_;rintro e j9 ⟨rfl,J⟩;have N:=M.after J M.size;have a9:=a8.after J (Nat.le_of_lt O.lt);have R:=O.keep J;clear M a8 O J;go_wp2_with fail;have p6:=R.lt;refine(dN bo f5 [(⟨#[115,117,110,102,108,111,119,101,114]⟩:ByteArray),bW g K3] j9.heap.size 2 2 _ (R.keep (aY _ _)) rfl (fO (aX _ _ _ _ _ rfl) (aX _ _ _ _ _ rfl)) (by simp only[List.length_cons,List.length_nil];omega)).mono ?_;rintro e m6 ⟨rfl,c5,b4⟩;have b8:=(N.alloc N.size _).after b4 aI;have i1:=(a9.alloc (Nat.le_of_lt p6) _).after b4 aK;clear N a9 R;obtain⟨j3,d9⟩:=aN (f5++[(⟨#[115,117,110,102,108,111,119,101,114]⟩:ByteArray),bW g K3]);rw[<-d9]at c5;have t1:j3.length<=9:=by rw[d9,List.length_append];first|(simp only[List.length_cons,List.length_nil];omega)|(have:=cQ _ _;omega)|(simp[dY];omega)
     have Y:bZ eD j3=TT:=by rw[d9,S,F,D,z];exact HX.out
     have hz:=e7.out;rw[<-Y]at hz;have HT:=aJ Y;clear Y z D F S d9;obtain⟨lv,KL,oL⟩:=c5;have G:=KL.cell;go_wp2_with fail;clear G;refine(dM (bo+1) lv j3 _ oL aI aI).mono ?_;rintro e wz ⟨rfl,bz⟩;go_wp2;go_ret;exact⟨bX (HT.out.trans e8.out),b8.after bz b8.size⟩
   |true=>
    go_wp2_with fail;refine(kU bo f5 (⟨#[105,110,116,101,114,118,97,108,115]⟩:ByteArray) _ (nR g l) _ oI.ints aI j0 (hp.keep f0) aI).mono ?_;rintro e u5 ⟨rfl,d5,f7⟩;have b7:=f0.after f7 aI;have g8:=i7.after f7 aK;clear f0 i7 j0;obtain⟨j6,c7⟩:=aN (f5++[(⟨#[105,110,116,101,114,118,97,108,115]⟩:ByteArray),eU (nR g l)]);rw[<-c7]at d5;have w4:j6.length<=9:=by rw[c7,List.length_append];first|(simp only[List.length_cons,List.length_nil];omega)|(have:=cQ _ _;omega)|(simp[dY];omega)
    have G:=(bU K2 g8 zb).cell;go_wp2_with fail;clear G;refine(k6.out _ (b5.below b7 aK)).mono ?_;rintro e w9 ⟨pS,iS,qS,rfl,oS,g3⟩;have e5:=b7.after g3 b7.size;have l9:=g8.after g3 (Nat.le_of_lt d5.lt);have g2:=d5.keep g3;clear b7 g8 d5 g3
    cases bS with
    |false=>
     have Y:bZ eD j6=TT:=by rw[c7,S,F,D,z];exact HX.out
     have hz:=e7.out;rw[<-Y]at hz;have HT:=aJ Y;clear Y z D F S c7;obtain⟨lv,KL,oL⟩:=g2;have G:=KL.cell;go_wp2_with fail;clear G;refine(dM (bo+1) lv j6 _ oL aI aI).mono ?_;rintro e wz ⟨rfl,bz⟩;go_wp2;go_ret;exact⟨bX (HT.out.trans e8.out),e5.after bz e5.size⟩
    |true=>
     go_wp2_with fail;refine(k5.out _ _ oS.ints).mono ?_;rintro e j9 ⟨rfl,J⟩;have N:=e5.after J e5.size;have a9:=l9.after J (Nat.le_of_lt g2.lt);have R:=g2.keep J;clear e5 l9 g2 J;have G:=(bU K2 a9 zb).cell;go_wp2_with fail;clear G;refine(gJ g K3 _ (hp.keep N)).mono ?_;rintro e m6 ⟨rfl,b4⟩;have b8:=N.after b4 N.size;have i1:=a9.after b4 (Nat.le_of_lt R.lt);have c5:=R.keep b4;clear N a9 R b4;go_wp2_with fail;have p7:=c5.lt;refine(dN bo j6 [(⟨#[115,117,110,102,108,111,119,101,114]⟩:ByteArray),bW g K3] m6.heap.size 2 2 _ (c5.keep (aY _ _)) rfl (fO (aX _ _ _ _ _ rfl) (aX _ _ _ _ _ rfl)) (by simp only[List.length_cons,List.length_nil];omega)).mono ?_;rintro e x2 ⟨rfl,m1,m2⟩;have l8:=(b8.alloc b8.size _).after m2 aI;have u7:=(i1.alloc (Nat.le_of_lt p7) _).after m2 aK;clear b8 i1 c5;obtain⟨j4,e0⟩:=aN (j6++[(⟨#[115,117,110,102,108,111,119,101,114]⟩:ByteArray),bW g K3]);rw[<-e0]at m1;have t6:j4.length<=11:=by rw[e0,List.length_append];first|(simp only[List.length_cons,List.length_nil];omega)|(have:=cQ _ _;omega)|(simp[dY];omega)
     have Y:bZ eD j4=TT:=by rw[e0,c7,S,F,D,z];exact HX.out
     have hz:=e7.out;rw[<-Y]at hz;have HT:=aJ Y;clear Y z D F S c7 e0;obtain⟨lv,KL,oL⟩:=m1;have G:=KL.cell;go_wp2_with fail;clear G;refine(dM (bo+1) lv j4 _ oL aI aI).mono ?_;rintro e wz ⟨rfl,bz⟩;go_wp2;go_ret;exact⟨bX (HT.out.trans e8.out),l8.after bz l8.size⟩
end
end Go.Proofs.YtcpoomdoodlkjaaGreatDoor
