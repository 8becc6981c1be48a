/- Lemmas for CardClaims, part 19 of 52. No condition. -/
import Derived.Test.YtipejodijbjpcaaGreatDoorQ02
import Derived.Test.YtipejodijbjpcaaGreatDoorQ03
import Derived.Test.YtipejodijbjpcaaGreatDoorQ13
import Derived.Test.YtipejodijbjpcaaGreatDoorQ18
import Derived.Deep.CutRange
import Derived.Deep.Light
set_option maxRecDepth 100000
set_option maxHeartbeats 64000000
namespace Go.Proofs.YtipejodijbjpcaaGreatDoor
section
open Go.RowKit Go.G5
theorem A6(l:List Int)(v:Value)(w:World)(hv:aD w v l)(hm:∀x∈l,0<=x/\x<64):
  Calls Tryz.prog 201 #[v] w fun e w'=>e=.returned (.bool (jX l))/\Below w.heap.size w w':=by
 obtain⟨a,b,b3,c,rfl,e7,a6,hc,hb⟩:=hv.view Tryz.prog 22 3 Tryz.underlying22 aG;obtain⟨F,hF⟩:∃F:Nat->Bool,F=fun i=>bX (qJ l i) i:=⟨_,rfl⟩;have D:jX l=bX F l.length:=by rw[hF];rfl
 have HS:=Lib.hid D;have HF:=Lib.hid hF;have HC:=Lib.hid hc;have HX:=Lib.hid a6;have HM:=Lib.hid hm;clear D hF hc a6 hm;go_enter Tryz.func201,Tryz.ntmps201;go_wp2;go_loopw [3] (fun i wr=>∃k n:Nat,k<=l.length/\i=.int .i64 k/\bX F k=true/\wr=w.drewN n) (fun i _=>l.length-(intOf i).toNat)
 case atStart=>exact⟨0,0,Nat.zero_le _,rfl,rfl,rfl⟩
 case round=>
  obtain⟨k,n,hk,rfl,z,rfl⟩:=hrel;have H:=Lib.hid z;clear z
  by_cases hlt:k<l.length
  ·have Y:F k=bX (qJ l k) k:=by rw[HF.out]
   have bad:F k=false->jX l=false:=fun h=>by rw[HS.out];exact cL hlt h
   have O:=Lib.hid bad;have Q:=Lib.hid Y;clear bad Y;go_wp2;go_loopw [4] (fun i wr=>∃j n':Nat,j<=k/\i=.int .i64 j/\bX (qJ l k) j=true/\wr=w.drewN n') (fun i _=>k-(intOf i).toNat)
   case atStart=>exact⟨0,n,Nat.zero_le _,rfl,rfl,rfl⟩
   case round=>
    obtain⟨j,n',hj,rfl,a1,rfl⟩:=hrel;have R:=Lib.hid a1;clear a1
    by_cases c7:j<k
    ·have c6:=HC.out k hlt
     have c5:=HC.out j (by omega);have Z:=HC.out 0 (by omega);have b9:=HC.out 1 (by omega);rw[Nat.add_zero]at Z;have e6:=fun W=>HX.out W k hlt;have e5:=fun W=>HX.out W j (by omega);have e0:∀w',(Instr.indexAt 22 (.slice a l.length c) (.int .i64 0)).run Tryz.prog w'=.ok (.pointer (some ⟨b,b3,none⟩)) w':=fun w'=>by have:=HX.out w' 0 (by omega);simpa using this
     have e4:∀w',(Instr.indexAt 22 (.slice a l.length c) (.int .i64 1)).run Tryz.prog w'=.ok (.pointer (some ⟨b,b3+1,none⟩)) w':=fun w'=>by have:=HX.out w' 1 (by omega);simpa using this
     have M:=HM.out _ (List.getElem_mem hlt);have L:=HM.out _ (List.getElem_mem (show j<l.length by omega));have I:=HM.out _ (List.getElem_mem (show 0<l.length by omega));have K:=HM.out _ (List.getElem_mem (show 1<l.length by omega));have o:qJ l k j=(cQ l[k] l[j]==cQ l[0] l[1]):=by
      unfold qJ;rw[aJ l k hlt,aJ l j (by omega),aJ l 0 (by omega),aJ l 1 (by omega)]
     obtain⟨tk,a9⟩:∃t,t=l[k]:=⟨_,rfl⟩;obtain⟨tj,a7⟩:∃t,t=l[j]:=⟨_,rfl⟩;obtain⟨t0,S⟩:∃t,t=l[0]:=⟨_,rfl⟩;obtain⟨t1,U⟩:∃t,t=l[1]:=⟨_,rfl⟩;rw[<-a9]at c6 M o;rw[<-a7]at c5 L o;rw[<-S]at Z I o;rw[<-U]at b9 K o;have b1:=oO M.1 (show tk<4611686018427387904 by omega) L.1 (show tj<4611686018427387904 by omega);have b2:=oO I.1 (show t0<4611686018427387904 by omega) K.1 (show t1<4611686018427387904 by omega);obtain⟨q,hq⟩:∃q,q=cQ tk tj:=⟨_,rfl⟩;obtain⟨q0,b0⟩:∃q,q=cQ t0 t1:=⟨_,rfl⟩;rw[<-hq]at b1 o;rw[<-b0]at b2 o;clear a9 a7 S U hq b0 M L I K
     cases N:qJ l k j with
     |false=>
      have ht:(q != q0)=true:=by rw[N]at o;have:=o.symm;simpa using this
      have A:=O.out (by rw[Q.out];exact cL c7 N);have HB:=Lib.hid A;clear o N A;go_wp2_with fail;go_quiet (fail);go_wp2;go_ret;exact⟨aE HB.out.symm,((Below.refl _ _).drewN' _).drewN' _⟩
     |true=>
      have ht:(q != q0)=false:=by rw[N]at o;have:=o.symm;simpa using this
      have HP:=Lib.hid N;clear o N;go_wp2_with fail;go_quiet (fail);go_wp2;go_roundw
      case rel=>exact⟨j+1,n'+nq,by omega,by go_num,dM R.out HP.out,by simp⟩
      case measure=>simp[intOf];omega
    ·have a8:j=k:=by omega
     subst a8;go_wp2;go_roundw
     case rel=>exact⟨j+1,n',by omega,by go_num,dM H.out (by rw[Q.out];exact R.out),rfl⟩
     case measure=>simp[intOf];omega
  ·have c8:k=l.length:=by omega
   subst c8;go_wp2;go_ret;exact⟨aE (by rw[HS.out,H.out]),(Below.refl _ _).drewN' _⟩
end
section
open Go.RowKit Go.G5
def mY(l:List Int)(s:Int):Bool:=jX (l++[s])
theorem PC(sets:List Int)(sv:Value)(K:Int)(c7:∀x∈sets,0<=x/\x<64)(_:bA K):∀(n f:Nat) (l:List Int) (lv:Value) (w:World) (B:Nat),f+n=sets.length->aD w sv sets->aC 3 B w lv l->B<=w.heap.size->(∀x∈l,0<=x/\x<64)->l.length+sets.length<=100+f ->
  Calls Tryz.prog 291 #[sv,.int .i64 f,lv,.int .i64 K] w fun e w'=>∃U i Y,e=.returned (.tuple #[.slice U i Y,.bool (cU mY (sets.drop f) l K).isSome])/\aC 3 B w' (.slice U i Y) ((cU mY (sets.drop f) l K).getD [])/\Below w.heap.size w w':=by
 have e5:=Lib.hid c7;clear c7;intro n
 induction n using Nat.strongRecOn with
 |_ n ih=>
  intro f l lv w B hn hv own hB c5 g0;have f4:=hv;obtain⟨a,b,f6,c,rfl,f3,f2,hc,hb⟩:=hv.view Tryz.prog 22 3 Tryz.underlying22 aG;obtain⟨al,cl,rfl⟩:=own.shape;have hf:f<=sets.length:=by omega
  have HN:=Lib.hid hn;clear hn
  by_cases hk:(l.length:Int)=K
  ·have ht:((l.length:Int)==K)=true:=by simpa using hk
   have hr:=gT mY (sets.drop f) l K hk;have HR:=Lib.hid hr;clear hr hk;go_enter Tryz.func291,Tryz.ntmps291;go_wp2;go_ret2;exact⟨al,l.length,cl,by rw[HR.out];rfl,by rw[HR.out];exact own,Below.refl _ _⟩
  ·have ht:((l.length:Int)==K)=false:=by simpa using hk
   have HK:=Lib.hid hk;have IH:=Lib.hid ih;have e0:=Lib.hid c5;clear hk ih c5;go_enter Tryz.func291,Tryz.ntmps291;go_wp2_with fail;go_loopw [10] (fun i wr=>∃k:Nat,f<=k/\k<=sets.length/\i=.int .i64 k/\cU mY (sets.drop k) l K=cU mY (sets.drop f) l K/\Below w.heap.size w wr) (fun i _=>sets.length-(intOf i).toNat)
   case atStart=>exact⟨f,Nat.le_refl _,hf,rfl,rfl,Below.refl _ _⟩
   case round=>
    obtain⟨k,j0,hk,rfl,O,Q⟩:=hrel;have H:=Lib.hid O;clear O;have o:=own.keep Q
    by_cases hlt:k<sets.length
    ·have a1:=aK hc hb Q (Nat.le_refl _) k hlt
     have h7:b<wr.heap.size:=World.block_lt_of_cell? _ _ a1;have b9:=e5.out _ (List.getElem_mem hlt);have L:sets.drop k=sets[k]::sets.drop (k+1):=List.drop_eq_getElem_cons hlt;have z:=lZ mY sets[k] (sets.drop (k+1)) l K HK.out;rw[<-L,H.out]at z;obtain⟨x,hx⟩:∃x,x=sets[k]:=⟨_,rfl⟩;rw[<-hx]at a1 b9 z;have f9:=fun W=>f2 W k hlt;have M:∀y∈l++[x],0<=y/\y<64:=by
      intro y hy
      rcases List.mem_append.1 hy with hy|hy
      ·exact e0.out y hy
      ·rw[List.mem_singleton]at hy;rw[hy];exact b9
     have b7:([]:List Int).length+l.length<=17592186044416:=by simp;omega
     have b8:([]++l).length + [x].length<=17592186044416:=by simp;omega
     have c8:bA x:=⟨by omega,by omega⟩;have b0:=Lib.hid b7;have b3:=Lib.hid b8;have e7:=Lib.hid c8;have b5:=Lib.hid M;have Z:=Lib.hid z;clear L hx b7 b8 c8 M z;go_wp2_with fail;go_cut [11] from 20 to 48 (fun v wc=>∃U i Y,v=.slice U i Y/\aC 3 wr.heap.size wc (.slice U i Y) (l++[x])/\Below wr.heap.size wr wc)
     case first=>
      go_region_held3 (fun w'=>w'.cell? ⟨b,f6+k,none⟩=some (.int .i64 x)) (go_keep)
       (first
        |(refine cV rfl _ _ _ rfl 3 Tryz.underlying22 aG wr.heap.size (.slice (some ⟨_,0,none⟩) 0 0) [] rfl (.slice al l.length cl) l rfl ?_ ?_ b0.out wr ?_ (Nat.le_refl _) ?_;(first|(with_reducible exact(aC.lit0 wr (Nat.le_refl _)).drew')|(with_reducible exact((aC.lit0 wr (Nat.le_refl _)).alloc _).drew')|(with_reducible exact(aC.lit0' wr _).drew'));(first|(with_reducible exact(o.ints.alloc _).drew')|(with_reducible exact((o.ints.alloc _).alloc _).drew'));(first|(with_reducible exact(aM wr _).drew)|(with_reducible exact(cD wr _ _).drew));(intro v1 w1 o1 b1 pc;obtain⟨h9,i7⟩:=pX b1 wr.heap.size (Nat.le_refl _)))
        |(refine cV rfl _ _ _ rfl 3 Tryz.underlying22 aG wr.heap.size v1 ([]++l) rfl (.slice (some ⟨_,0,none⟩) 1 1) [x] rfl ?_ ?_ b3.out wr ?_ (Nat.le_refl _) ?_;(first|(with_reducible exact o1)|(with_reducible exact o1.alloc _));(refine aD.one ?_ e7.out;first|(with_reducible exact aT _ _ _ _ _ rfl)|(with_reducible exact pc _ _ (iM _ _ _ _) (mB _ _ _))|(with_reducible exact pc _ _ (jT _ _ _ _) (lX _ _ _)));(first|(with_reducible exact b1)|(with_reducible exact b1.alloc b1.size _));(intro v2 w2 o2 b2 _;obtain⟨i1,i8⟩:=pX b2 wr.heap.size (Nat.le_refl _)))
       )
      all_goals
       go_wp2;go_meet
       case rel=>
        obtain⟨a2,n2,c2,rfl⟩:=o2.shape3;exact⟨a2,n2,c2,rfl,o2,b2⟩
     case rest=>
      obtain⟨a2,n2,c2,rfl,o2,b2⟩:=hcut;have D:=Q.after b2 Q.size;have hT:=A6 (l++[x]) _ wc o2.ints b5.out;rw[show jX (l++[x])=mY l x from rfl]at hT;have HT:=Lib.hid hT;have z:=Z.out;clear hT a1
      cases F:mY l x with
      |false=>
       rw[F]at z;have HF:=Lib.hid z;have HI:=Lib.hid F;clear z F Z;go_wp2_with (go_at_call 201;refine HT.out.mono ?_;rintro e I ⟨rfl,A⟩;rw[HI.out]);go_roundw
       case rel=>exact⟨k+1,by omega,by omega,by go_num,by rw[HF.out];rfl,D.after A D.size⟩
       case measure=>simp[intOf];omega
      |true=>
       rw[F]at z;have c6:sets.length-(k+1)<n:=by have:=HN.out;omega
       have N:∀(I:World),aC 3 wr.heap.size I (.slice a2 n2 c2) (l++[x])->Below wc.heap.size wc I->Calls Tryz.prog 291 #[.slice a sets.length c,.int .i64 ((k:Int)+1),.slice a2 n2 c2,.int .i64 K] I fun e w'=>
         ∃U i Y,e=.returned (.tuple #[.slice U i Y,.bool (cU mY (sets.drop (k+1)) (l++[x]) K).isSome])/\aC 3 wr.heap.size w' (.slice U i Y) ((cU mY (sets.drop (k+1)) (l++[x]) K).getD [])/\Below I.heap.size I w':=fun I h1 h2=>
        IH.out _ c6 (k+1) (l++[x]) _ I wr.heap.size (by omega) (f4.below (D.after h2 D.size) (Nat.le_refl _)) h1 (Nat.le_trans b2.size h2.size) b5.out (by rw[List.length_append,List.length_singleton];omega)
       obtain⟨R,hR⟩:∃R,R=cU mY (sets.drop (k+1)) (l++[x]) K:=⟨_,rfl⟩;rw[<-hR]at z;simp only[<-hR]at N;have S:=Lib.hid N;have HI:=Lib.hid F;have yB:=D.size;have j3:=Q.size;clear N hR c6 Z F
       cases R with
       |some y=>
        have HF:=Lib.hid z;clear z;go_wp2_with (first
         |(go_at_call 201;refine HT.out.mono ?_;rintro e I ⟨rfl,A⟩;rw[HI.out])
         |(go_at_call 291;with_reducible refine(S.out I (o2.keep A) A).mono ?_;rintro e4 w4 ⟨p4,i4,q4,rfl,o4,b4⟩))
        go_ret2;exact⟨p4,i4,q4,by rw[HF.out];rfl,by rw[HF.out];exact o4.mono (by omega),(D.after A D.size).after b4 (D.after A D.size).size⟩
       |none=>
        have HF:=Lib.hid z;clear z;go_wp2_with (first
         |(go_at_call 201;refine HT.out.mono ?_;rintro e I ⟨rfl,A⟩;rw[HI.out])
         |(go_at_call 291;with_reducible refine(S.out I (o2.keep A) A).mono ?_;rintro e4 w4 ⟨p4,i4,q4,rfl,o4,b4⟩))
        go_roundw
        case rel=>exact⟨k+1,by omega,by omega,by go_num,by rw[HF.out];rfl,(D.after A D.size).after b4 (D.after A D.size).size⟩
        case measure=>simp[intOf];omega
    ·have hr:cU mY (sets.drop f) l K=none:=by
      rw[<-H.out,List.drop_eq_nil_of_le (by omega)];exact nD _ _ _ HK.out
     have HR:=Lib.hid hr;clear hr;go_wp2;go_ret2;exact⟨_,0,0,by rw[HR.out];rfl,by rw[HR.out];exact(aC.lit0 wr (Nat.le_refl _)).mono (Nat.le_trans hB Q.size),Q.alloc Q.size _⟩
end
section
open Go.RowKit Go.G5
theorem NZ(w:World)(g:Int)(v:Value)(l:List Int)(hv:aD w v l)(_:l.length<=1048576)(k:Int)(hk:bA k):
  Calls Tryz.prog 179 #[.agg #[.int .i64 g,v],.int .i64 k] w fun e w'=>∃M i N,e=.returned (.tuple #[.slice M i N,.bool (eS g l k)])/\aL 3 w.heap.size w' (.slice M i N) (eP g l k)/\Below w.heap.size w w':=by
 obtain⟨a,c,rfl⟩:=hv.shape;have I:=hv;have K0:=aB.new w 27 #[.int .i64 g,.slice a l.length c];have G0:=K0.cell
 cases F:bW g l with
 |false=>
  have o:gM g l k=false:=by unfold gM;rw[F];rfl
  have R:=Lib.hid F;have hr:jF g l k=none:=by unfold jF;rw[o];rfl
  have K:eS g l k=false:=by unfold eS;rw[hr];rfl
  have L:eP g l k=[]:=by unfold eP;rw[hr];rfl
  have S:=Lib.hid K;have Z:=Lib.hid L;clear hr K L o F;go_enter Tryz.func179,Tryz.ntmps179;go_wp2_with (go_at_call 90;refine(kR g l _ _ (I.alloc _)).mono ?_;rintro e w1 ⟨rfl,z⟩;rw[R.out]);go_ret2;exact⟨none,0,0,by rw[S.out];rfl,by rw[Z.out];exact aL.nil _ _ _,(aM _ _).after z (by simp)⟩
 |true=>
  have R:=Lib.hid F
  cases A:cM k 1 5 with
  |false=>
   have o:gM g l k=false:=by unfold gM;rw[A];simp
   have Y:=Lib.hid A;have hr:jF g l k=none:=by unfold jF;rw[o];rfl
   have K:eS g l k=false:=by unfold eS;rw[hr];rfl
   have L:eP g l k=[]:=by unfold eP;rw[hr];rfl
   have S:=Lib.hid K;have Z:=Lib.hid L;clear hr K L o F A;go_enter Tryz.func179,Tryz.ntmps179;go_wp2_with (first
    |(go_at_call 90;refine(kR g l _ _ (I.alloc _)).mono ?_;rintro e w1 ⟨rfl,z⟩;rw[R.out])
    |(go_at_call 143;refine(fN _ _ _ _).mono ?_;rintro e w2 ⟨rfl,rfl⟩;rw[Y.out]))
   go_ret2;exact⟨none,0,0,by rw[S.out];rfl,by rw[Z.out];exact aL.nil _ _ _,(aM _ _).after z (by simp)⟩
  |true=>
   have Y:=Lib.hid A;have o:gM g l k=true:=by unfold gM;rw[F,A];rfl
   have hr:jF g l k=cU gY l [] k:=by unfold jF;rw[o];rfl
   have K:eS g l k=(cU gY l [] k).isSome:=by unfold eS;rw[hr]
   have L:eP g l k=(cU gY l [] k).getD []:=by unfold eP;rw[hr]
   obtain⟨h0,h6,hm⟩:=MX F;have a9:l.length<=64:=by
    obtain⟨q0,q6,qm,qa⟩:=jZ F;have hp:=lL q0 q6;exact IQ l 64 qa (fun x hx=>by have:=qm x hx;omega)
   have O:∀x∈l,0<=x/\x<64:=fun x hx=>by
    obtain⟨i,hi,rfl⟩:=List.getElem_of_mem hx;exact hm i hi
   have D:∀W,aD W (.slice a l.length c) l->Calls Tryz.prog 290 #[.slice a l.length c,.slice none 0 0,.int .i64 k] W fun e w'=>
     ∃M i N,e=.returned (.tuple #[.slice M i N,.bool (eS g l k)])/\aC 3 W.heap.size w' (.slice M i N) (eP g l k)/\Below W.heap.size W w':=fun W hW=>by
    rw[K,L];exact Q8 l.length l [] _ _ k W W.heap.size rfl hW (aC.nil _ _ _) (Nat.le_refl _) O (by simp) (by simp;omega) hk
   have U:=Lib.hid D;clear hr K L o F A D hm O h0 h6 G0;go_enter Tryz.func179,Tryz.ntmps179;go_wp2_with fail;refine(kR g l _ _ (I.alloc _)).mono ?_;rintro e w1 ⟨rfl,z⟩;rw[R.out];have K1:=K0.keep z;have G1:=K1.cell;have z1:=K1.lt;have Q:Below w.heap.size w w1:=(aM _ _).after z (by simp);have y1:=Q.size;go_wp2_with (first
    |(go_at_call 143;refine(fN _ _ _ _).mono ?_;rintro e w2 ⟨rfl,rfl⟩;rw[Y.out])
    |(go_at_call 290;refine(U.out _ (I.below Q (Nat.le_refl _))).mono ?_;rintro e w3 ⟨p3,i3,q3,rfl,o3,b3⟩))
   go_ret2;exact⟨p3,i3,q3,rfl,o3.toW.mono (by omega),Q.after b3 Q.size⟩
theorem OM(w:World)(g:Int)(v:Value)(l:List Int)(hv:aD w v l)(_:l.length<=1048576)(k:Int)(hk:bA k):
  Calls Tryz.prog 180 #[.agg #[.int .i64 g,v],.int .i64 k] w fun e w'=>∃O i Q,e=.returned (.tuple #[.slice O i Q,.bool (eS g l k)])/\aL 3 w.heap.size w' (.slice O i Q) (eP g l k)/\Below w.heap.size w w':=by
 obtain⟨a,c,rfl⟩:=hv.shape;have K:=hv;have K0:=aB.new w 27 #[.int .i64 g,.slice a l.length c];have G0:=K0.cell
 cases I:bW g l with
 |false=>
  have o:gM g l k=false:=by unfold gM;rw[I];rfl
  have U:=Lib.hid I;have hr:jF g l k=none:=by unfold jF;rw[o];rfl
  have L:eS g l k=false:=by unfold eS;rw[hr];rfl
  have M:eP g l k=[]:=by unfold eP;rw[hr];rfl
  have Y:=Lib.hid L;have HL:=Lib.hid M;clear hr L M o I;go_enter Tryz.func180,Tryz.ntmps180;go_wp2_with (go_at_call 72;refine(gD g l _ _ (K.alloc _)).mono ?_;rintro e N ⟨rfl,z⟩;rw[U.out]);go_ret2;have D:Below w.heap.size w N:=(aM _ _).after z (by simp);exact⟨_,0,0,by rw[Y.out];rfl,by rw[HL.out];exact(aC.lit0 N D.size).toW,D.alloc D.size _⟩
 |true=>
  have U:=Lib.hid I
  cases A:cM k 1 5 with
  |false=>
   have o:gM g l k=false:=by unfold gM;rw[A];simp
   have HI:=Lib.hid A;have hr:jF g l k=none:=by unfold jF;rw[o];rfl
   have L:eS g l k=false:=by unfold eS;rw[hr];rfl
   have M:eP g l k=[]:=by unfold eP;rw[hr];rfl
   have Y:=Lib.hid L;have HL:=Lib.hid M;clear hr L M o I A;go_enter Tryz.func180,Tryz.ntmps180;go_wp2_with (first
    |(go_at_call 72;refine(gD g l _ _ (K.alloc _)).mono ?_;rintro e N ⟨rfl,z⟩;rw[U.out])
    |(go_at_call 188;refine(aR _ _ _ _).mono ?_;rintro e w2 ⟨rfl,rfl⟩;rw[HI.out]))
   go_ret2;have D:Below w.heap.size w N:=(aM _ _).after z (by simp);exact⟨_,0,0,by rw[Y.out];rfl,by rw[HL.out];exact(aC.lit0 N D.size).toW,D.alloc D.size _⟩
  |true=>
   have HI:=Lib.hid A;have o:gM g l k=true:=by unfold gM;rw[I,A];rfl
   have hr:jF g l k=cU mY l [] k:=vY g l k o;have L:eS g l k=(cU mY l [] k).isSome:=by unfold eS;rw[hr]
   have M:eP g l k=(cU mY l [] k).getD []:=by unfold eP;rw[hr]
   obtain⟨h0,h6,hm⟩:=MX I;have b1:l.length<=64:=by
    obtain⟨q0,q6,qm,qa⟩:=jZ I;have hp:=lL q0 q6;exact IQ l 64 qa (fun x hx=>by have:=qm x hx;omega)
   have R:∀x∈l,0<=x/\x<64:=fun x hx=>by
    obtain⟨i,hi,rfl⟩:=List.getElem_of_mem hx;exact hm i hi
   have F:∀W u,aD W (.slice a l.length c) l->aC 3 w.heap.size W u []->w.heap.size<=W.heap.size->Calls Tryz.prog 291 #[.slice a l.length c,.int .i64 0,u,.int .i64 k] W fun e w'=>
     ∃O i Q,e=.returned (.tuple #[.slice O i Q,.bool (eS g l k)])/\aC 3 w.heap.size w' (.slice O i Q) (eP g l k)/\Below W.heap.size W w':=fun W u hW hu a7=>by
    rw[L,M];have:=PC l (.slice a l.length c) k R hk l.length 0 [] u W w.heap.size (by omega) hW hu a7 (by simp) (by simp;omega);simpa using this
   have Z:=Lib.hid F;clear hr L M o I A F hm R h0 h6 G0;go_enter Tryz.func180,Tryz.ntmps180;go_wp2_with fail;refine(gD g l _ _ (K.alloc _)).mono ?_;rintro e N ⟨rfl,z⟩;rw[U.out];have K1:=K0.keep z;have G1:=K1.cell;have z1:=K1.lt;have D:Below w.heap.size w N:=(aM _ _).after z (by simp);have y1:=D.size;have S:=D.alloc D.size (.cells #[] 3);go_wp2_with (first
    |(go_at_call 188;refine(aR _ _ _ _).mono ?_;rintro e w2 ⟨rfl,rfl⟩;rw[HI.out])
    |(go_at_call 291;refine(Z.out _ _ (K.below S (Nat.le_refl _)) (aC.lit0 N y1) S.size).mono ?_;rintro e w3 ⟨p3,i3,q3,rfl,o3,b3⟩))
   go_ret2;exact⟨p3,i3,q3,rfl,o3.toW,S.after b3 S.size⟩
end
section
open Go.RowKit Go.G5
theorem tK(w:World)(g:Nat)(D:Dr w g):
  Calls Tryz.prog 289 #[.pointer (some ⟨g,0,none⟩)] w fun e w'=>∃(n:Int) (z:Option Addr) (i A:Nat) (q:Int) (l:List Int),e=.returned (.tuple #[.agg #[.int .i64 n,.slice z i A],.int .i64 q])/\bA n/\bA q/\aC 3 w.heap.size w' (.slice z i A) l/\l.length<=32/\Dr w' g/\w.grownBy w' (some g):=by
 have zg:=D.lt;go_enter Tryz.func289,Tryz.ntmps289;go_wp2_with fail;refine aH ?_;intro V hV;have B:Below w.heap.size w V:=by rw[hV];exact aM _ _
 have I:aB V w.heap.size 27 #[.int .i64 0,.slice none 0 0]:=by rw[hV];exact aB.new _ _ _
 have D0:=D.keep B;have g0:w.grownBy V (some g):=dI _ B;have y0:=I.lt;clear hV B;refine(aU V g D0 5).mono ?_;rintro e w1 ⟨x,rfl,_,hx,_,D1,Z⟩;have hx:=hx (by omega);have I:=I.grow Z (by simp;omega);have yV:=Z.size;have Z:=cN g0 Z;have wx:IntKind.i64.wrap (1+x)=1+x:=IntWalk.i64_in _ ⟨by omega,by omega⟩;obtain⟨N,hN⟩:∃N:Nat,1+x=(N:Int):=⟨(1+x).toNat,by omega⟩;rw[hN]at wx;have h6:N<=5:=by omega
 have wn:IntKind.i64.wrap ((N:Int)+1)=(N:Int)+1:=IntWalk.i64_in _ ⟨by omega,by omega⟩;have j0:IntKind.i64.wrap (1+x)=(N:Int):=by rw[hN];exact wx
 have i1:=hx.1;have i6:=hx.2;clear hN wx hx D0 g0;go_wp2_with fail;refine(aU w1 g D1 ((N:Int)+1)).mono ?_;rintro e w2 ⟨q,rfl,b5,_,_,D2,g2⟩;have I:=I.grow g2 (by simp;omega);have y2:=g2.size;have g2:=cN Z g2;clear D1 Z;obtain⟨V3,K⟩:∃W,W=w2.alloc (.cells #[] 3):=⟨_,rfl⟩;have b3:Below w2.heap.size w2 V3:=by rw[K];exact aM _ _
 have o3:aC 3 V.heap.size V3 (.slice (some ⟨w2.heap.size,0,none⟩) 0 0) []:=by rw[K];exact(aC.lit0 w2 (by omega))
 have I:=I.keep b3;have D3:=D2.keep b3;have g3:=cN g2 (dI (some g) b3);have zV:V.heap.size<=V3.heap.size:=by have:=b3.size;omega
 clear D2 g2 b3;have F:=bJ N 5 (by omega);have h7:(2:Int)^N<=32:=by simpa using F.1
 have h8:=F.2;have U:((2^N:Nat):Int)=(2:Int)^N:=by push_cast;rfl
 obtain⟨M,hM⟩:∃M:Nat,M=2^N:=⟨_,rfl⟩;rw[<-hM]at U;have f4:M<=32:=by omega
 have a7:=Lib.hid U;clear F hM U;go_wp2_with fail;rw[<-K];clear K;go_loopw [6,7] (fun out s wr=>∃(k:Nat) (z:Option Addr) (S A:Nat) (L:List Int),k<=M/\out=.slice z S A/\s=.int .i64 k/\L.length<=k/\aC 3 V.heap.size wr (.slice z S A) L/\Dr wr g/\w.grownBy wr (some g)/\aB wr w.heap.size 27 #[.int .i64 0,.slice none 0 0]/\V.heap.size<=wr.heap.size) (fun _ s _=>M-(intOf s).toNat)
 case atStart=>exact⟨0,_,_,_,[],Nat.zero_le _,rfl,rfl,by simp,o3,D3,g3,I,zV⟩
 case round=>
  obtain⟨k,z,S,A,L,hk,rfl,rfl,hL,o,Dk,gk,Y,zk⟩:=hrel;clear zV;clear o3 D3 g3 I;have xk:=Y.lt
  by_cases hlt:k<M
  ·have b4:(k:Int)<(2:Int)^N:=by have:=a7.out;omega
   have a8:=Lib.hid (pA (k:Int) wr (by omega) (by omega))
   by_cases Q:cK (k:Int)=q
   ·have c9:(cK (k:Int)==q)=true:=by simp[Q]
    clear Q;go_wp2_with (go_at_call 173;refine a8.out.mono ?_;rintro e w' ⟨rfl,rfl⟩);refine(iH wr g Dk 2).mono ?_;rintro e w5 ⟨bb,rfl,D5,g5⟩;have K5:=Y.grow g5 (by simp;omega);have o5:=o.grow g5 (fun q hq e=>by have:=Option.some.inj hq;have:=(o.lt _ e).1;omega);have x5:=K5.lt;have b0:=cN gk g5
    cases bb with
    |false=>
     go_wp2;go_roundw
     case rel=>exact⟨k+1,z,S,A,L,by omega,rfl,by go_num,by omega,o5,D5,b0,K5,by have:=g5.size;omega⟩
     case measure=>simp[intOf];omega
    |true=>
     go_wp2_with (at_builtin;refine eI rfl _ _ _ rfl 3 Tryz.underlying22 aG V.heap.size _ _ (k:Int) w5.heap.size rfl rfl (by simp) (o5.alloc _) ⟨by omega,by omega⟩ (by omega) (by have:=g5.size;simp;omega) ?_;intro v' w6 R O;obtain⟨av,nv,cv,rfl⟩:=R.shape3);have D6:=(D5.keep (aM w5 (.cells #[.int .i64 (k:Int)] 3))).grow O (fun q e=>by have:=(o5.lt q e).1;omega);have K6:=(K5.alloc (.cells #[.int .i64 (k:Int)] 3)).grow O (fun e=>by have:=(o5.lt _ e).1;omega);have g6:=rE (cN b0 (dI _ (aM w5 (.cells #[.int .i64 (k:Int)] 3)))) O (fun b e=>.inr (by have:=(o5.lt b e).1;omega));go_roundw
     case rel=>exact⟨k+1,av,nv,cv,L++[(k:Int)],by omega,rfl,by go_num,by simp;omega,R,D6,g6,K6,by have:=g5.size;have:=O.size;simp at this;omega⟩
     case measure=>simp[intOf];omega
   ·have c9:(cK (k:Int)==q)=false:=by simp[Q]
    clear Q;go_wp2_with (go_at_call 173;refine a8.out.mono ?_;rintro e w' ⟨rfl,rfl⟩);go_roundw
    case rel=>exact⟨k+1,z,S,A,L,by omega,rfl,by go_num,by omega,o,Dk,gk,Y,zk⟩
    case measure=>simp[intOf];omega
  ·have b4:¬(k:Int)<(2:Int)^N:=by have:=a7.out;omega
   have G2:=Y.cell;have F2:=Y.frozen;go_wp2;refine aI ?_;intro Wf b1;obtain⟨KF,DF,oF,gF⟩:=uR zg Y Dk o (by omega) gk b1;have GF:=KF.cell;clear b1;exact bodyPost_ret (v:=.tuple #[.agg #[.int .i64 N,.slice z S A],.int .i64 q]) (by simp[results,Tryz.results289,go_sem,GF]) rfl (by first|exact⟨N,z,S,A,q,L,rfl,⟨by omega,by omega⟩,b5,oF,by omega,DF,gF⟩|exact⟨N,z,S,A,q,rfl,⟨by omega,by omega⟩,b5,L,oF,by omega,DF,gF⟩)
end
section
open Go.RowKit Go.G5
theorem GM{w z Wf:World}{B:Nat}{n:Int}{A:Option Addr}{i D:Nat}{l:List Int}(K:aB z w.heap.size 27 #[.int .i64 0,.slice none 0 0])(o:aC 3 B z (.slice A i D) l)(M:w.heap.size<B)(h:Below w.heap.size w z)
  (F:Wf=(z.setCell ⟨w.heap.size,0,none⟩ (.int .i64 n)).setCell ⟨w.heap.size,1,none⟩ (.slice A i D)):aB Wf w.heap.size 27 #[.int .i64 n,.slice A i D]/\aC 3 w.heap.size Wf (.slice A i D) l/\Below w.heap.size w Wf:=by
 have L:z.grownBy Wf (some w.heap.size):=by rw[F];exact aA (aA (World.grownBy.refl _ _) 0 _) 1 _
 refine⟨?_,(o.grow L (fun q I e=>by have:=Option.some.inj I;have:=(o.lt _ e).1;omega)).mono (by omega),h.grown L h.size (fun q I=>by have:=Option.some.inj I;omega)⟩;rw[F];have:=(K.set 0 (.int .i64 n)).set 1 (.slice A i D);simpa using this
theorem AN(w:World)(v:Value)(l:List Nat)(hv:fO w v l):
  Calls Tryz.prog 178 #[v] w fun e w'=>∃(n:Int) (z:Option Addr) (i A:Nat) (x:Int) (L:List Int),e=.returned (.tuple #[.agg #[.int .i64 n,.slice z i A],.int .i64 x])/\bA n/\bA x/\aC 3 w.heap.size w' (.slice z i A) L/\L.length<=32/\Below w.heap.size w w':=by
 go_enter Tryz.func178,Tryz.ntmps178;go_wp2_with fail;refine aH ?_;intro V hV;have B:Below w.heap.size w V:=by rw[hV];exact aM _ _
 have D:aB V w.heap.size 27 #[.int .i64 0,.slice none 0 0]:=by rw[hV];exact aB.new _ _ _
 clear hV;have hw:=D.lt;refine(jL V _ _ (hv.below B (Nat.le_refl _))).mono ?_;rintro e w1 ⟨rfl,D1,b1⟩;have D:=D.keep b1;have B:=B.after b1 B.size;have y1:=D1.lt;go_wp2_with fail;refine(tK w1 V.heap.size D1).mono ?_;rintro e w2 ⟨n0,a0,i0,c0,q,L0,rfl,f8,o,o2,f2,D2,g2⟩;have D:=D.grow g2 (by simp;omega);have B:=B.grown g2 B.size (fun q o=>by have:=Option.some.inj o;omega);have y2:=g2.size;go_wp2_with fail;refine aH ?_;intro V3 Z;have b3:Below w2.heap.size w2 V3:=by rw[Z];exact aM _ _
 have M:aB V3 w2.heap.size 27 #[.int .i64 n0,.slice a0 i0 c0]:=by rw[Z];exact aB.new _ _ _
 have D:=D.keep b3;have D3:=D2.keep b3;have r2:=o2.lt;have o3:=o2.keep b3;have B:=B.after b3 B.size;clear Z D2 g2 D1 o2;refine(iH V3 V.heap.size D3 3).mono ?_;rintro e w3 ⟨bb,rfl,D4,g4⟩;have D:=D.grow g4 (by simp;omega);have M:=M.grow g4 (by simp;omega);have o4:=o3.grow g4 (fun q o e=>by have:=Option.some.inj o;have:=(o3.lt _ e).1;omega);have B:=B.grown g4 B.size (fun q o=>by have:=Option.some.inj o;omega);have x4:=M.lt;clear D3 g4 o3
 cases bb with
 |false=>
  obtain⟨I,K⟩:∃W:World,W=w3:=⟨_,rfl⟩;subst K;obtain⟨n,f7⟩:∃x,x=n0:=⟨_,rfl⟩;subst f7;obtain⟨z,f4⟩:∃x,x=a0:=⟨_,rfl⟩;subst f4;obtain⟨i,f6⟩:∃x,x=i0:=⟨_,rfl⟩;subst f6;obtain⟨A,f5⟩:∃x,x=c0:=⟨_,rfl⟩;subst f5;obtain⟨L,f0⟩:∃x,x=L0:=⟨_,rfl⟩;subst f0;have hn:=f8;have hL:=f2;have R:Dr I.drew V.heap.size:=D4.keep (Below.refl _ _).drew;have Y:aB I.drew w2.heap.size 27 #[.int .i64 n,.slice z i A]:=M;have S:aB I.drew w.heap.size 27 #[.int .i64 0,.slice none 0 0]:=D;have od:aC 3 w1.heap.size I.drew (.slice z i A) L:=o4.keep (Below.refl _ _).drew;have Bd:Below w.heap.size w I.drew:=B.drew;have HB:=Lib.hid (aU I.drew V.heap.size R 7);have G4:=M.cell;have z2:w.heap.size<w2.heap.size:=by omega
  go_wp2_with fail;go_region_law
   (go_simp;go_at_call 205;refine HB.out.mono ?_;rintro e w5 ⟨x,rfl,O,_,_,D5,Q⟩;have U:=Y.grow Q (by simp;omega);have F:=S.grow Q (by simp;omega);have e4:=U.cell;have d0:=F.cell;have c9:=F.frozen)
  all_goals
   have o5:=od.grow Q (fun q o e=>by have:=Option.some.inj o;have:=(od.lt _ e).1;omega);have B5:=Bd.grown Q Bd.size (fun q o=>by have:=Option.some.inj o;omega);go_wp2;refine aI ?_;intro Wf N;obtain⟨KF,oF,BF⟩:=GM F o5 (by omega) B5 N;have GF:=KF.cell;clear N;exact bodyPost_ret (v:=.tuple #[.agg #[.int .i64 n,.slice z i A],.int .i64 x]) (by simp[results,Tryz.results178,go_sem,GF]) rfl (by first|exact⟨n,z,i,A,x,L,rfl,hn,O,oF,hL,BF⟩|exact⟨n,z,i,A,x,rfl,hn,O,L,oF,hL,BF⟩)
 |true=>
  have F4:=M.frozen;have G4:=M.cell;go_wp2_with fail;clear F4 G4;refine(uF w3 V.heap.size D4).mono ?_;rintro e w6 ⟨n,z,i,A,L,rfl,hn,o6,j3,D6,g6⟩;have D:=D.grow g6 (by simp;omega);have K6:=M.grow g6 (by simp;omega);have B:=B.grown g6 B.size (fun q o=>by have:=Option.some.inj o;omega);have hL:L.length<=32:=by omega
  have F6:=K6.frozen;have G6:=K6.cell;have y6:=g6.size;have f9:=DT o6 K6;obtain⟨I,K⟩:∃W,W=(w6.setCell ⟨w2.heap.size,0,none⟩ (.int .i64 n)).setCell ⟨w2.heap.size,1,none⟩ (.slice z i A):=⟨_,rfl⟩;have g7:w6.grownBy I (some w2.heap.size):=by rw[K];exact aA (aA (World.grownBy.refl _ _) 0 _) 1 _
  have e7:aB I w2.heap.size 27 #[.int .i64 n,.slice z i A]:=by
   rw[K];have:=(K6.set 0 (.int .i64 n)).set 1 (.slice z i A);simpa using this
  have D:=D.grow g7 (fun e=>by have:=Option.some.inj e;omega);have B:=B.grown g7 B.size (fun q o=>by have:=Option.some.inj o;omega);have D4:=D6.grow g7 (fun k e=>by have:=Option.some.inj e;omega);have o4:=(o6.grow g7 (fun q o e=>by
   have:=Option.some.inj o;exact f9 (by rw[e,this]))).mono (B':=w1.heap.size) (by omega)
  have M:=e7;have x4:=M.lt;go_wp2_with fail;rw[<-K];clear K F6 G6;have R:Dr I.drew V.heap.size:=D4.keep (Below.refl _ _).drew;have Y:aB I.drew w2.heap.size 27 #[.int .i64 n,.slice z i A]:=M;have S:aB I.drew w.heap.size 27 #[.int .i64 0,.slice none 0 0]:=D;have od:aC 3 w1.heap.size I.drew (.slice z i A) L:=o4.keep (Below.refl _ _).drew;have Bd:Below w.heap.size w I.drew:=B.drew;have HB:=Lib.hid (aU I.drew V.heap.size R 7);have G4:=M.cell;have z2:w.heap.size<w2.heap.size:=by omega
  go_wp2_with fail;go_region_law
   (go_simp;go_at_call 205;refine HB.out.mono ?_;rintro e w5 ⟨x,rfl,O,_,_,D5,Q⟩;have U:=Y.grow Q (by simp;omega);have F:=S.grow Q (by simp;omega);have e4:=U.cell;have d0:=F.cell;have c9:=F.frozen)
  all_goals
   have o5:=od.grow Q (fun q o e=>by have:=Option.some.inj o;have:=(od.lt _ e).1;omega);have B5:=Bd.grown Q Bd.size (fun q o=>by have:=Option.some.inj o;omega);go_wp2;refine aI ?_;intro Wf N;obtain⟨KF,oF,BF⟩:=GM F o5 (by omega) B5 N;have GF:=KF.cell;clear N;exact bodyPost_ret (v:=.tuple #[.agg #[.int .i64 n,.slice z i A],.int .i64 x]) (by simp[results,Tryz.results178,go_sem,GF]) rfl (by first|exact⟨n,z,i,A,x,L,rfl,hn,O,oF,hL,BF⟩|exact⟨n,z,i,A,x,rfl,hn,O,L,oF,hL,BF⟩)
end
section
open Go.RowKit Go.G5
end
section
open Go.RowKit Go.G5
@[reducible] def clV (k n1 : Int) (v1 : Value) (n2 : Int) (v2 : Value) (n3 : Int) (v3 : Value) (q st : Int) (v4 : Value) : Value :=
 .agg #[.int .i64 k,.int .i64 n1,v1,.int .i64 n2,v2,.int .i64 n3,v3,.int .i64 q,.int .i64 st,v4]
@[reducible] def clC (k n1 : Int) (v1 : Value) (n2 : Int) (v2 : Value) (n3 : Int) (v3 : Value) (q st : Int) (v4 : Value) : Array Value :=
 #[.int .i64 k,.int .i64 n1,v1,.int .i64 n2,v2,.int .i64 n3,v3,.int .i64 q,.int .i64 st,v4]
end
end Go.Proofs.YtipejodijbjpcaaGreatDoor
section
namespace Go.G5
open Go Go.RowKit
def oI(B:Nat)(w:World)(v:Value)(l:List Int):Prop:=aD w v l/\∀k,v.ownBlock=some k->B<=k
section
variable {E:TypeId} {B:Nat} {w w':World} {v:Value} {l:List Int}
theorem aL.far(o:aL E B w v l):oI B w v l:=⟨o.ints,fun k h=>(o.lt k h).1⟩
theorem oI.grow{row:Option Nat}(h:oI B w v l)(z:w.grownBy w' row)(hr:∀q,row=some q->q<B):oI B w' v l:=by
 refine⟨?_,h.2⟩;obtain⟨⟨a,c,rfl,h1,h2,h3,h4⟩,A⟩:=h;refine⟨a,c,rfl,h1,h2,h3,?_⟩
 rcases h4 with rfl|⟨b,o,rfl,hlt,D⟩
 ·exact .inl rfl
 ·exact .inr ⟨b,o,rfl,Nat.lt_of_lt_of_le hlt z.size,fun k F=>z.cell (D k F) (fun e=>by have:=hr b e.symm;have:=A b rfl;omega)⟩
theorem oI.keep(h:oI B w v l)(hb:Below w.heap.size w w'):oI B w' v l:=⟨h.1.keep hb,h.2⟩
theorem oI.mono{B':Nat}(h:oI B w v l)(o:B'<=B):oI B' w v l:=⟨h.1,fun k z=>Nat.le_trans o (h.2 k z)⟩
theorem oI.from1{P:Program}{a:Option Addr}{c:Nat}(h:oI B w (.slice a l.length c) l)(T:TypeId)(F:P.underlying T=some (.slice E))(K:IntElem P E)(M:1<=l.length):
  ∃A D,(∀(w':World),(Instr.slice T (.slice a l.length c) (some (.int .i64 1)) none none).run P w'=.ok (.slice A (l.drop 1).length D) w')/\oI B w (.slice A (l.drop 1).length D) (l.drop 1):=by
 obtain⟨A,D,hr,L⟩:=h.1.from T E F K 1 M
 refine⟨A,D,fun w'=>hr .i64 w',L,?_⟩;obtain⟨i,I,_,h1,_⟩:=K.get;have z:P.elem T=E:=by simp[Program.elem,F]
 have e:=hr .i64 w;rw[run_slice_l w T a l.length c (by rw[z];exact F) .i64 ((1:Nat):Int) (by omega) (by have:=h.1.capLe;omega)]at e;simp[sizeOf,typeInfo,z,I,h1,Result.andThen,sliced]at e;intro k o;refine h.2 k ?_
 cases a with
 |none=>rw[<-e.1]at o;split at o<;>simp[Value.ownBlock]at o
 |some b=>
  rw[<-e.1]at o
  split at o
  ·exact o
  ·simpa[Value.ownBlock,Addr.add]using o
end
end Go.G5
namespace Go.Proofs.YtipejodijbjpcaaGreatDoor
open Go.RowKit Go.G5
structure ClOk (B:Nat) (w:World) (s1 s2 s3 s4:Value) (l1 l2 l3 l4:List Int):Prop where
 f1:oI B w s1 l1
 f2:oI B w s2 l2
 f3:oI B w s3 l3
 f4:oI B w s4 l4
 h1:l1.length<=1048576
 h2:l2.length<=1048576
 h3:l3.length<=1048576
 h4:l4.length<=1048576
structure ClO (B:Nat) (w:World) (s1 s2 s3 s4:Value) (l1 l2 l3 l4:List Int):Prop where
 o1:aL 3 B w s1 l1
 o2:aL 3 B w s2 l2
 o3:aL 3 B w s3 l3
 o4:aL 3 B w s4 l4
 a1:aF s4 s1
 a2:aF s4 s2
 a3:aF s4 s3
 h1:l1.length<=1048576
 h2:l2.length<=1048576
 h3:l3.length<=1048576
 h4:l4.length<=1048576
section
variable {B:Nat} {w w':World} {s1 s2 s3 s4:Value} {l1 l2 l3 l4:List Int}
theorem ClOk.grow{row:Option Nat}(h:ClOk B w s1 s2 s3 s4 l1 l2 l3 l4)(o:w.grownBy w' row)(hr:∀q,row=some q->q<B):ClOk B w' s1 s2 s3 s4 l1 l2 l3 l4:=
 ⟨h.f1.grow o hr,h.f2.grow o hr,h.f3.grow o hr,h.f4.grow o hr,h.h1,h.h2,h.h3,h.h4⟩
theorem ClOk.keep(h:ClOk B w s1 s2 s3 s4 l1 l2 l3 l4)(hb:Below w.heap.size w w'):ClOk B w' s1 s2 s3 s4 l1 l2 l3 l4:=
 ⟨h.f1.keep hb,h.f2.keep hb,h.f3.keep hb,h.f4.keep hb,h.h1,h.h2,h.h3,h.h4⟩
theorem ClOk.mono{B':Nat}(h:ClOk B w s1 s2 s3 s4 l1 l2 l3 l4)(o:B'<=B):ClOk B' w s1 s2 s3 s4 l1 l2 l3 l4:=
 ⟨h.f1.mono o,h.f2.mono o,h.f3.mono o,h.f4.mono o,h.h1,h.h2,h.h3,h.h4⟩
theorem ClO.grow{row:Option Nat}(h:ClO B w s1 s2 s3 s4 l1 l2 l3 l4)(z:w.grownBy w' row)(hr:∀q,row=some q->q<B):ClO B w' s1 s2 s3 s4 l1 l2 l3 l4:=
 have far:∀{s:Value} {l:List Int},aL 3 B w s l->aL 3 B w' s l:=fun o=>o.grow z (fun q A e=>by have:=hr q A;have:=(o.lt q e).1;omega)
 ⟨far h.o1,far h.o2,far h.o3,far h.o4,h.a1,h.a2,h.a3,h.h1,h.h2,h.h3,h.h4⟩
theorem ClO.keep(h:ClO B w s1 s2 s3 s4 l1 l2 l3 l4)(hb:Below w.heap.size w w'):ClO B w' s1 s2 s3 s4 l1 l2 l3 l4:=
 ⟨h.o1.keep hb,h.o2.keep hb,h.o3.keep hb,h.o4.keep hb,h.a1,h.a2,h.a3,h.h1,h.h2,h.h3,h.h4⟩
theorem ClO.mono{B':Nat}(h:ClO B w s1 s2 s3 s4 l1 l2 l3 l4)(o:B'<=B):ClO B' w s1 s2 s3 s4 l1 l2 l3 l4:=
 ⟨h.o1.mono o,h.o2.mono o,h.o3.mono o,h.o4.mono o,h.a1,h.a2,h.a3,h.h1,h.h2,h.h3,h.h4⟩
theorem ClO.ok(h:ClO B w s1 s2 s3 s4 l1 l2 l3 l4):ClOk B w s1 s2 s3 s4 l1 l2 l3 l4:=⟨h.o1.far,h.o2.far,h.o3.far,h.o4.far,h.h1,h.h2,h.h3,h.h4⟩
end
theorem wC{W Wf:World}{b:Nat}{z0 N z2 z3 z4 z5 O Q R z9 o x1 z x3 A D F I L M:Value}(K:aB W b 49 #[z0,N,z2,z3,z4,z5,O,Q,R,z9])
  (h:Wf=(((((((((W.setCell ⟨b,0,none⟩ o).setCell ⟨b,1,none⟩ x1).setCell ⟨b,2,none⟩ z).setCell ⟨b,3,none⟩ x3).setCell ⟨b,4,none⟩ A).setCell ⟨b,5,none⟩ D).setCell ⟨b,6,none⟩ F).setCell ⟨b,7,none⟩ I).setCell ⟨b,8,none⟩ L).setCell ⟨b,9,none⟩ M):
  aB Wf b 49 #[o,x1,z,x3,A,D,F,I,L,M]/\W.grownBy Wf (some b):=by
 rw[h];refine⟨?_,aA (aA (aA (aA (aA (aA (aA (aA (aA (aA (World.grownBy.refl _ _) 0 _) 1 _) 2 _) 3 _) 4 _) 5 _) 6 _) 7 _) 8 _) 9 _⟩;have:=(((((((((K.set 0 o).set 1 x1).set 2 z).set 3 x3).set 4 A).set 5 D).set 6 F).set 7 I).set 8 L).set 9 M;simpa using this
end Go.Proofs.YtipejodijbjpcaaGreatDoor
end
