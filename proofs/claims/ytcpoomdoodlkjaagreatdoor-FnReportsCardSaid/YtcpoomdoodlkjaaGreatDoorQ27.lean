/- Lemmas for CardReports. No condition. -/
import Derived.Test.YtcpoomdoodlkjaaGreatDoorQ26
set_option maxRecDepth 100000
set_option maxHeartbeats 64000000
namespace Go.Proofs.YtcpoomdoodlkjaaGreatDoor
section
open Go.RowKit Go.G5 Go.Proofs.Tryz
theorem SU(l:List Int)(v:Value)(w:World)(hv:aR w v l):
  Calls prog 295 #[v] w fun e w'=>e=.returned (.bool (vN l))/\Below w w w':=by
 obtain⟨a,b,b3,c,rfl,f4,a8,hc,hb⟩:=hv.view prog 24 3 underlying24 aS;by_cases b8:l.length<=64
 ·have b9:¬(64:Int)<(l.length:Int):=aK;have hx:vN l=cJ (LJ l) l.length:=by unfold vN;rw[decide_eq_true b8,Bool.true_and]
  have HX:=aN hx;clear hx;go_enter func295,ntmps295;go_wp2_with fail;go_loopw [3] (fun i wr=>∃k:Nat,k<=l.length/\i=aM k/\cJ (LJ l) k=true/\Below w w wr) (fun i _=>l.length-(intOf i).toNat)
  case atStart=>exact⟨0,Nat.zero_le _,rfl,rfl,Below.refl _ _⟩
  case round=>
   obtain⟨k,hk,rfl,K,B⟩:=hrel;have H:=aN K;clear K;by_cases hlt:k<l.length
   ·have c7:(k:Int)<(l.length:Int):=aK;have Y:=aW hc hb B aO k hlt;have ik:=fun W=>a8 W k hlt;have F:=aX l k hlt;have b0:LJ l k=(fD 6 l[k]&&cJ (RG l k) k):=by unfold LJ;rw[F]
    have HC:=aN hc;have b6:=aN a8;have a7:eZ l[k] 0 63=fD 6 l[k]:=by
     cases I:fD 6 l[k]with
     |true=>have:=(DB _).1 I;exact dK.2 ⟨this.1,by omega⟩
     |false=>
      cases hq:eZ l[k] 0 63 with
      |false=>rfl
      |true=>
       have h2:=dK.1 hq;have:=(DB l[k]).2 ⟨h2.1,by omega⟩;rw[this]at I
       cases I
    obtain⟨y,hy⟩:=aQ (l[k]);rw[<-hy]at Y b0 a7 F;have O:=aN a7;have d8:=aN F;have e0:=aN hy.symm;have S:=aN b0;have Z:(63:Int)=2^(6:Int).toNat-1:=by decide
    have f3:=aN Z;rw[Z]at O;clear a7 F b0 hc a8 hy Z
    cases I:fD 6 y with
    |false=>
     have D:vN l=false:=by rw[HX.out];exact dG hlt (by rw[S.out,I];rfl)
     have R:=aN D;have HS:=aN I;clear D I;have d0:∀x:Ext wr,x.w.cell? ⟨b,b3+k,none⟩=some (aM y):=fun x=>x.cell Y;go_wp2_with fail;refine bN _ aT aT ?_
     repeat(first|go_big_quiet_skip|(go_big_quiet_want;go_big_quiet_op;first|go_big_quiet_on|(apply Exists.intro;refine⟨fun _=>?_,?_⟩;(first|(go_at_call 187;exact cR (BA 6 _ aY aY))|(go_at_call 174;exact NV (cQ _ _ _ _) (O.out.trans HS.out)));go_big_quiet_on)))
     refine wpQuiet_nil ?_;rintro w3 ⟨⟨w3,a1⟩,rfl⟩
     try dsimp only
     go_wp2;go_ret;exact⟨aZ R.out.symm,B.after a1 B.size⟩
    |true=>
     have HS:=aN I;clear I;have d0:∀x:Ext wr,x.w.cell? ⟨b,b3+k,none⟩=some (aM y):=fun x=>x.cell Y;go_wp2_with fail;refine bN _ aT aT ?_
     repeat(first|go_big_quiet_skip|(go_big_quiet_want;go_big_quiet_op;first|go_big_quiet_on|(apply Exists.intro;refine⟨fun _=>?_,?_⟩;(first|(go_at_call 187;exact cR (BA 6 _ aY aY))|(go_at_call 174;exact NV (cQ _ _ _ _) (O.out.trans HS.out)));go_big_quiet_on)))
     refine wpQuiet_nil ?_;rintro w3 ⟨⟨w3,a1⟩,rfl⟩
     try dsimp only
     clear d0;have B3:=B.after a1 B.size;obtain⟨wo,rfl⟩:∃wo:World,wo=w3:=⟨_,rfl⟩;go_wp2_with fail;go_loopw [4] (fun i wi=>∃j:Nat,j<=k/\i=aM j/\cJ (RG l k) j=true/\Below w w wi) (fun i _=>k-(intOf i).toNat)
     case atStart=>exact⟨0,Nat.zero_le _,rfl,rfl,B3⟩
     case round=>
      obtain⟨j,hj,rfl,M,Bj⟩:=hrel;obtain⟨wi,e7⟩:∃wi:World,wi=wr:=⟨_,rfl⟩;subst e7;clear B3;have HD:=aN M;clear M Y ik;have Y:=aW HC.out hb Bj aO k hlt;have g0:wi.cell? ⟨b,b3+k,none⟩=some (aM y):=by rw[Y,e0.out]
      clear Y;by_cases e6:j<k
      ·have c5:(j:Int)<(k:Int):=aK;have a9:j<l.length:=aK;have cj:=aW HC.out hb Bj aO j a9;have ij:=fun W=>b6.out W j a9;have ik:=fun W=>b6.out W k hlt;have a6:RG l k j=!(l[j]==y):=by unfold RG;rw[aX l j a9,d8.out]
       obtain⟨z,hz⟩:=aQ (l[j]);rw[<-hz]at cj a6;have b5:=aN a6;clear hz a6;by_cases J:z=y
       ·have b1:(z==y)=true:=by simp[J]
        have D:vN l=false:=by rw[HX.out];exact dG hlt (by rw[S.out];rw[dG e6 (by rw[b5.out,b1];rfl)];simp)
        have R:=aN D;clear D J;go_wp2;go_quiet (fail);go_wp2;go_ret;exact⟨aZ R.out.symm,Bj.drewN' _⟩
       ·have b1:(z==y)=false:=by simp[J]
        have e4:=aN b1;clear J;go_wp2;go_quiet (fail);go_wp2;go_roundw
        case rel=>exact⟨j+1,by omega,by go_num,dN HD.out (by rw[b5.out,e4.out];rfl),Bj.drewN' _⟩
        case measure=>simp[intOf];omega
      ·have c5:¬(j:Int)<(k:Int):=aK;have e5:j=k:=aK;subst e5;have c8:LJ l j=true:=by rw[S.out,HS.out,HD.out];rfl
       have d9:=aN c8;clear c8;go_wp2;go_roundw
       case rel=>exact⟨j+1,by omega,by go_num,dN H.out d9.out,Bj⟩
       case measure=>simp[intOf];omega
   ·have c7:¬(k:Int)<(l.length:Int):=aK;have c6:k=l.length:=aK;have N:vN l=true:=by rw[HX.out,<-c6];exact H.out
    have HY:=aN N;clear c6 N;go_wp2;go_ret;exact⟨aZ HY.out.symm,B⟩
 ·have b9:(64:Int)<(l.length:Int):=aK;have hx:vN l=false:=by unfold vN;rw[decide_eq_false b8];rfl
  have HX:=aN hx;clear hx;go_enter func295,ntmps295;go_wp2;go_ret;exact⟨aZ HX.out.symm,Below.refl _ _⟩
def tP(l:List Int):Bool:=iL l&&decide (2<=l.length)
def mO(l:List Int):Int:=if tP l then bK (l.getD 0 0) (l.getD 1 0) else 0
theorem KY{l:List Int}(h:iL l=true):l.length<=64/\∀x∈l,0<=x/\x<64:=by
 unfold iL at h;have:=BT (Bool.and_eq_true_iff.1 h).1;exact⟨this.1,this.2.1⟩
theorem ZB(l:List Int)(v:Value)(w:World)(K:aR w v l):
  Calls prog 252 #[v] w fun e w'=>e=.returned (.bool (iL l))/\Below w w w':=by
 have I:=aN (SU l v w K)
 cases z:vN l with
 |false=>
  have F:iL l=false:=by unfold iL;rw[z];rfl
  have J:=aN F;rw[z]at I;clear F z;go_enter func252,ntmps252;go_wp2_with (go_at_call 295;refine I.out.mono ?_;rintro e w1 ⟨rfl,D⟩);go_ret;exact⟨aZ J.out.symm,D⟩
 |true=>
  have F:iL l=rW l:=by unfold iL;rw[z];rfl
  have hm:=(BT z).2.1;have J:=aN F;rw[z]at I;have M:=aN (fun W (h:Below w w W)=>JV l v W (K.below h aO) hm);clear F z hm;go_enter func252,ntmps252;go_wp2_with (first|(go_at_call 295;refine I.out.mono ?_;rintro e w1 ⟨rfl,D⟩)|(go_at_call 294;refine(M.out w1 D).mono ?_;rintro e w2 ⟨rfl,b2⟩));go_ret;exact⟨aZ J.out.symm,D.after b2 D.size⟩
theorem VJ(l:List Int)(v:Value)(w:World)(hv:aR w v l):
  Calls prog 140 #[v] w fun e w'=>e=.returned (.tuple #[(mO l),.bool (tP l)])/\Below w w w':=by
 have R:=aN (ZA l v w hv);obtain⟨a,b,F,c,rfl,a7,K,hc,hb⟩:=hv.view prog 24 3 underlying24 aS;by_cases h2:2<=l.length
 ·have a6:¬(l.length:Int)<2:=aK
  cases J:iL l with
  |false=>
   have z:tP l=false:=by unfold tP;rw[J];rfl
   have D:mO l=0:=by unfold mO;rw[z];rfl
   have I:=aN (And.intro z D);rw[J]at R;clear z D J;go_enter func140,ntmps140;go_wp2_with (go_at_call 247;refine R.out.mono ?_;rintro e w1 ⟨rfl,M⟩);go_ret2;exact⟨by rw[I.out.1,I.out.2];rfl,M⟩
  |true=>
   rw[J]at R;have z:tP l=true:=by unfold tP;rw[J,decide_eq_true h2];rfl
   have D:mO l=bK (l.getD 0 0) (l.getD 1 0):=by unfold mO;rw[z];rfl
   have N:=(KY J).2 _ (List.getElem_mem (show 0<l.length by omega));have O:=(KY J).2 _ (List.getElem_mem (show 1<l.length by omega));rw[aX l 0 aK,aX l 1 aK]at D;have c0:∀W,Below w w W->W.cell? ⟨b,F,none⟩=some (aM (l[0]'aK)):=fun W h=>aW hc hb h aO 0 aK;have c1:∀W,Below w w W->W.cell? ⟨b,F+1,none⟩=some (aM (l[1]'aK)):=fun W h=>aW hc hb h aO 1 aK;have i0:∀W,(Instr.indexAt 24 (aI a l.length c) (aM 0)).run prog W=.ok (.pointer (some ⟨b,F,none⟩)) W:=fun W=>K W 0 aK;have i1:∀W,(Instr.indexAt 24 (aI a l.length c) (aM 1)).run prog W=.ok (.pointer (some ⟨b,F+1,none⟩)) W:=fun W=>K W 1 aK;obtain⟨p,S⟩:=aQ (l[0]'aK);obtain⟨q,Y⟩:=aQ (l[1]'aK);simp only[<-S]at c0;simp only[<-Y]at c1;rw[<-S,<-Y]at D;rw[<-S]at N;rw[<-Y]at O;have a9:=eG N.1 (show p<4611686018427387904 by omega) O.1 (show q<4611686018427387904 by omega);have I:=aN (And.intro z D);have Z:=aN c0;have a1:=aN c1;clear z D S Y c0 c1 hc K J;go_enter func140,ntmps140;go_wp2_with (go_at_call 247;refine R.out.mono ?_;rintro e w1 ⟨rfl,M⟩;have c0:=Z.out w1 M;have c1:=a1.out w1 M);go_quiet (fail);go_wp2;go_ret2;exact⟨by rw[I.out.1,I.out.2];rfl,M.drewN' _⟩
 ·have a6:(l.length:Int)<2:=aK;have z:tP l=false:=by unfold tP;rw[decide_eq_false h2];simp
  have D:mO l=0:=by unfold mO;rw[z];rfl
  have I:=aN (And.intro z D);clear z D;go_enter func140,ntmps140;go_wp2;go_ret2;exact⟨by rw[I.out.1,I.out.2];rfl,Below.refl _ _⟩
theorem VK(l:List Int)(v:Value)(w:World)(hv:aR w v l):
  Calls prog 146 #[v] w fun e w'=>e=.returned (.tuple #[(mO l),.bool (tP l)])/\Below w w w':=by
 have N:=aN (ZB l v w hv);obtain⟨a,b,I,c,rfl,a7,M,hc,hb⟩:=hv.view prog 24 3 underlying24 aS
 cases F:iL l with
 |false=>
  have z:tP l=false:=by unfold tP;rw[F];rfl
  have D:mO l=0:=by unfold mO;rw[z];rfl
  have J:=aN (And.intro z D);rw[F]at N;clear z D F;go_enter func146,ntmps146;go_wp2_with (go_at_call 252;refine N.out.mono ?_;rintro e w1 ⟨rfl,K⟩);go_ret2;exact⟨by rw[J.out.1,J.out.2];rfl,K⟩
 |true=>
  rw[F]at N;by_cases h2:2<=l.length
  ·have a6:¬(l.length:Int)<2:=aK;have z:tP l=true:=by unfold tP;rw[F,decide_eq_true h2];rfl
   have D:mO l=bK (l.getD 0 0) (l.getD 1 0):=by unfold mO;rw[z];rfl
   have O:=(KY F).2 _ (List.getElem_mem (show 0<l.length by omega));have R:=(KY F).2 _ (List.getElem_mem (show 1<l.length by omega));rw[aX l 0 aK,aX l 1 aK]at D;have c0:∀W,Below w w W->W.cell? ⟨b,I,none⟩=some (aM (l[0]'aK)):=fun W h=>aW hc hb h aO 0 aK;have c1:∀W,Below w w W->W.cell? ⟨b,I+1,none⟩=some (aM (l[1]'aK)):=fun W h=>aW hc hb h aO 1 aK;have i0:∀W,(Instr.indexAt 24 (aI a l.length c) (aM 0)).run prog W=.ok (.pointer (some ⟨b,I,none⟩)) W:=fun W=>M W 0 aK;have i1:∀W,(Instr.indexAt 24 (aI a l.length c) (aM 1)).run prog W=.ok (.pointer (some ⟨b,I+1,none⟩)) W:=fun W=>M W 1 aK;obtain⟨p,S⟩:=aQ (l[0]'aK);obtain⟨q,Y⟩:=aQ (l[1]'aK);simp only[<-S]at c0;simp only[<-Y]at c1;rw[<-S,<-Y]at D;rw[<-S]at O;rw[<-Y]at R;have a9:=eG O.1 (show p<4611686018427387904 by omega) R.1 (show q<4611686018427387904 by omega);have J:=aN (And.intro z D);have Z:=aN c0;have a1:=aN c1;clear z D S Y c0 c1 hc M F;go_enter func146,ntmps146;go_wp2_with (go_at_call 252;refine N.out.mono ?_;rintro e w1 ⟨rfl,K⟩;have c0:=Z.out w1 K;have c1:=a1.out w1 K);go_quiet (fail);go_wp2;go_ret2;exact⟨by rw[J.out.1,J.out.2];rfl,K.drewN' _⟩
  ·have a6:(l.length:Int)<2:=aK;have z:tP l=false:=by unfold tP;rw[decide_eq_false h2];simp
   have D:mO l=0:=by unfold mO;rw[z];rfl
   have J:=aN (And.intro z D);clear z D F;go_enter func146,ntmps146;go_wp2_with (go_at_call 252;refine N.out.mono ?_;rintro e w1 ⟨rfl,K⟩);go_ret2;exact⟨by rw[J.out.1,J.out.2];rfl,K⟩
theorem abS(w:World)(g:Int)(v:Value)(l:List Int)(hv:aR w v l):
  Calls prog 136 #[.agg #[g,v]] w fun e w'=>∃ad cp,e=.returned (.tuple #[.slice ad (eM g l).length cp,.bool (bJ g l)])/\dA 3 24 w.heap.size w' (.slice ad (eM g l).length cp) (eM g l)/\Below w w w':=by
 have h9:=hv;obtain⟨a,c,rfl⟩:=hv.shape;obtain⟨T,N⟩:=aQ (eM g l);rw[<-N];have c9:=aN N;clear N;go_enter func136,ntmps136;go_wp2_with fail;refine bH ?_;intro V hV;have B:Below w w V:=fU hV;have K:aU V w 31 #[g,aI a l.length c]:=eJ hV;have o0:dA 3 24 w.heap.size V (aI none 0 0) []:=dA.nil _ _ _ _;clear hV;refine(dF g l _ V (hv.below B aO)).mono ?_;rintro e w1 ⟨rfl,b1⟩;have o0:=o0.keep b1;have K:=K.keep b1;have B:=B.after b1 B.size;have G:=K.cell;have z:=K.lt
 cases S:bJ g l with
 |false=>
  have hx:T=[]:=by rw[c9.out];unfold eM;rw[S];rfl
  subst hx;have HF:=aN S;clear S;go_wp2;go_ret2;exact⟨_,_,by rw[HF.out];rfl,o0,B⟩
 |true=>
  have hx:T=aeF l:=by rw[c9.out];unfold eM;rw[S];rfl
  have h1:=dT S;have d5:∀s∈l,0<=s/\s<64:=fun s hs=>by obtain⟨k,hk,rfl⟩:=List.getElem_of_mem hs;exact(pY S).2.2 k hk
  have d8:=QL S;have a7:=h1.2.2.2;have F:T=[]++oW l.length l:=hx;have l2:T.length<=64:=by rw[hx];exact Nat.le_trans (G6 _ _) d8
  have HF:=aN S;have g0:=aN F;have c6:=aN a7;have f2:=aN d5;have i6:=h9.below B aO;clear hx h1 S F a7 d5;go_wp2_with fail;go_loopw [4,5] (fun ov rv wr=>∃(done:List (List Int)) (k:Nat) (rest:List Int) (oa:Option Addr) (oc:Nat) (ra:Option Addr) (rc:Nat),T=done++oW k rest/\rest.length<=k/\k<=64/\(rest.Pairwise (· < ·)/\∀s∈rest,0<=s/\s<64)/\ov=aI oa done.length oc/\rv=aI ra rest.length rc/\aR wr (aI ra rest.length rc) rest/\dA 3 24 w.heap.size wr (aI oa done.length oc) done/\Below w w wr) (fun _ rv _=>lenOf rv)
  case atStart=>exact⟨[],l.length,l,_,_,_,_,g0.out,aO,d8,⟨c6.out,f2.out⟩,rfl,rfl,i6,o0,B⟩
  case round=>
   obtain⟨done,k,rest,oa,oc,ra,rc,N,l6,k1,⟨ha,hm⟩,rfl,rfl,hr,ho,Bo⟩:=hrel;obtain⟨wo,rfl⟩:∃z:World,z=wr:=⟨_,rfl⟩;clear o0;by_cases J:0<rest.length
   ·have I:rest≠[]:=fun e=>by rw[e]at J;simp at J
    have b8:(0:Int)<(rest.length:Int):=aK;have hlt:=XM I ha hm;obtain⟨k',rfl⟩:∃k',k=k'+1:=⟨k-1,by omega⟩;have O:T=(done++[jC rest])++oW k' (pJ rest):=by rw[N,OD _ _ I,List.append_assoc];rfl
    have b4:=TX ha;have b6:∀s∈pJ rest,0<=s/\s<64:=fun s hs=>hm s (ID hs);have l3:done.length<=64:=by have:=congrArg List.length N;rw[List.length_append]at this;omega
    have b7:=CC rest _ wo hr hm aK;have Z:pJ rest=(rest.take rest.length).filter (fun s=>!fS (jC rest) s):=by rw[List.take_length];rfl
    obtain⟨M,hM⟩:=aQ (jC rest);obtain⟨R,hR⟩:=aQ (pJ rest);rw[<-hM]at b7 O Z;rw[<-hR]at hlt O b4 b6 Z;have g1:=aN O;have f9:=aN Z;have f6:=aN (And.intro b4 b6);have f5:=aN b7;have HO:=aN ho;have HR:=aN hr;have f8:=aN hm;clear N O Z b4 b6 b7 ho hM hR ha hm I;go_wp2_with fail;refine f5.out.mono ?_;rintro e w2 ⟨p2,i2,q2,rfl,o2,b2⟩;have g8:i2=M.length:=o2.ints.capLe.1;subst g8;have h6:=HR.out.keep b2;obtain⟨_,rb,k3,_,i1,_,d6,hc,hb⟩:=h6.view prog 24 3 underlying24 aS;injection i1 with x1 _ x3;subst x1 x3;have HC:=aN hc;have f4:=aN d6;have c8:=aN o2;clear hc d6 o2;go_wp2_with fail;go_loopw [7,22] (fun lv i wr=>∃(j:Nat) (ad:Option Addr) (nn cp:Nat),j<=rest.length/\i=aM j/\lv=aI ad nn cp/\aP 3 w2 wr (aI ad nn cp) ((rest.take j).filter (fun s=>!fS M s))/\Below w2 w2 wr) (fun _ i _=>rest.length-(intOf i).toNat)
    case atStart=>exact⟨0,_,_,_,Nat.zero_le _,rfl,rfl,aP.nil _ _ _,Below.refl _ _⟩
    case round=>
     obtain⟨j,ad,nn,cp,hj,rfl,rfl,hw,Bi⟩:=hrel;obtain⟨wi,rfl⟩:∃z:World,z=wr:=⟨_,rfl⟩;have HW:=aN hw;have zi:=Bi.size;clear hw;by_cases Y:j<rest.length
     ·have d7:(j:Int)<(rest.length:Int):=aK;have ck:=aW HC.out hb Bi aO j Y;have ik:=fun W=>f4.out W j Y;have c5:=OS (fun s=>!fS M s) rest j Y;have i8:=f8.out rest[j] (List.getElem_mem Y);have l5:((rest.take j).filter (fun s=>!fS M s)).length<=64:=by have h1:=List.length_filter_le (fun s=>!fS M s) (rest.take j);have h2:=List.length_take_le j rest;omega
      obtain⟨x,hx⟩:=aQ (rest[j]);rw[<-hx]at ck c5 i8;have b5:=nZ M _ x wi (c8.out.ints.keep Bi);obtain⟨q,hq⟩:=aQ (fS M x);rw[<-hq]at b5;have D:(rest.take (j+1)).filter (fun s=>!fS M s)=(rest.take j).filter (fun s=>!fS M s)++(if !q then [x] else []):=by rw[c5,hq]
      have c7:=aN b5;clear c5 b5 hx hq
      cases q with
      |true=>
       rw[if_neg (by simp),List.append_nil]at D;have b3:=aN D;clear D;go_wp2_with (go_at_call 242;refine c7.out.mono ?_;rintro e w' ⟨rfl,rfl⟩);go_roundw
       case rel=>exact⟨j+1,ad,nn,cp,by omega,by go_num,rfl,by rw[b3.out];exact HW.out,Bi⟩
       case measure=>simp[intOf];omega
      |false=>
       rw[if_pos (by simp)]at D;have b3:=aN D;clear D;go_wp2_with (first
        |(go_at_call 242;refine c7.out.mono ?_;rintro e w' ⟨rfl,rfl⟩)
        |(at_builtin;refine cZ rfl _ _ _ rfl 3 underlying24 aS w2.heap.size _ _ x wi.heap.size rfl rfl (bB wi #[x] 3 0 _ rfl) (HW.out.alloc _) ⟨by omega,by omega⟩ aK (by first|omega|(simp;done)|(simp;omega)) ?_;intro v' w6 a8 g6;obtain⟨av,nv,cv,rfl⟩:=a8.shape3))
       have B6:Below w2 w2 w6:=(Bi.alloc Bi.size (.cells #[x] 3)).grown g6 aV (fun q hq=>(HW.out.lt q hq).1);go_roundw
       case rel=>exact⟨j+1,av,nv,cv,by omega,by go_num,rfl,by rw[b3.out];exact a8,B6⟩
       case measure=>simp[intOf];omega
     ·have d7:¬(j:Int)<(rest.length:Int):=aK;have g9:j=rest.length:=aK;subst g9;have hw:=HW.out;rw[<-f9.out]at hw;have h0:nn=R.length:=hw.ints.capLe.1;subst h0;have g2:=aN hw;have d0:=b2.after Bi b2.size;have Bw:=Bo.after d0 Bo.size;have b0:=aN (HO.out.keep d0);have f7:=aN ((c8.out.keep Bi).mono Bo.size);clear hw;go_wp2_with (at_builtin;refine sJ rfl _ _ _ rfl 3 24 rQ underlying77 jV w.heap.size _ done (aI p2 M.length q2) M wi.heap.size rfl rfl (bB wi #[aI p2 M.length q2] 24 0 _ rfl) ((b0.out).alloc _) (f7.out.alloc _) aK (by have:=Bw.size;simp;omega) ?_;intro v7 w7 o7 g7);have rO:=b0.out.lt;obtain⟨m2,e5⟩:=(b0.out.alloc (.cells #[aI p2 M.length q2] 24)).row;have i7:=(g2.out.alloc (.cells #[aI p2 M.length q2] 24)).growL e5 rQ g7;have B7:Below w w w7:=(Bw.alloc Bw.size (.cells #[aI p2 M.length q2] 24)).grown g7 (by have:=Bw.size;simp;omega) (fun q hq=>(rO q hq).1);obtain⟨j2,j4,rfl,_⟩:=o7.len;have l4:(done++[M]).length=done.length+1:=by simp
      go_wp2_with fail;go_roundw
      case rel=>exact⟨done++[M],k',R,j2,j4,ad,cp,g1.out,by omega,by omega,f6.out,rfl,rfl,i7.ints,o7,B7⟩
      case measure=>simp[lenOf];omega
   ·have I:rest=[]:=by cases rest with
     |nil=>rfl
     |cons x r=>simp at J
    subst I;have b8:¬(0:Int)<(0:Int):=aK;rw[S0,List.append_nil]at N;subst N;go_wp2;go_ret2;exact⟨_,_,by rw[HF.out];rfl,ho,Bo⟩
theorem acX(p:List Int)(v:Value)(s:Nat)(w:World)(hv:aR w v p)(d0:p.length<=6)(Z:∀x∈p,0<=x/\x<6)(hs:s<64):
  Calls prog 291 #[v,(s:Int)] w fun e w'=>e=.returned (.tuple #[(pW p s p.length),(vB p s p.length),.bool (vM p s)])/\w=w':=by
 obtain⟨a,b,d6,c,rfl,b7,S,hc,hb⟩:=hv.view prog 24 3 underlying24 aS;have HC:=aN hc;have a7:=aN S;have a8:=aN Z;have a9:=aN (gI s w aK);clear hc S Z;go_enter func291,ntmps291;go_wp2;go_loop [7,8,13] (fun fi la i=>∃k:Nat,k<=p.length/\i=aM k/\fi=aM (pW p s k)/\la=aM (vB p s k)) (fun _ _ i=>p.length-(intOf i).toNat)
 case atStart=>exact⟨0,Nat.zero_le _,rfl,rfl,rfl⟩
 case round=>
  obtain⟨k,hk,rfl,rfl,rfl⟩:=hrel;by_cases hlt:k<p.length
  ·have Y:(k:Int)<(p.length:Int):=aK;have ck:=HC.out k hlt;have ik:=fun W=>a7.out W k hlt;have hm:=a8.out _ (List.getElem_mem hlt);have h1:=BS p s k;have h2:=IJ p s k;have h3:=KX p s k;obtain⟨e,he⟩:∃e:Nat,p[k]=(e:Int):=⟨p[k].toNat,by omega⟩;have R:FM p s k=dC s e:=by unfold FM;rw[List.getD_eq_getElem?_getD,List.getElem?_eq_getElem hlt,Option.getD_some,he,Int.toNat_natCast]
   rw[he]at ck hm;rw[R]at h1 h2;have c7:e<6:=aK;have O:=jO (s:Int) e aK aK;have D:=uC s e;obtain⟨y,hy⟩:=aQ (dO (s:Int) e);rw[<-hy]at O D;have hp:=cO e 6 aK;have c8:(2:Int)^e<=64:=by simpa using hp.1
   have c9:=hp.2;obtain⟨F,J⟩:=aQ (pW p s k);obtain⟨L,K⟩:=aQ (vB p s k);rw[<-J]at h1 h3 ⊢;rw[<-K]at h2 ⊢;clear hp hy R he hm J K
   cases z:dC s e with
   |false=>
    have b6:(y==1)=false:=by rw[D,z]
    rw[z,Bool.false_and,if_neg (by simp)]at h1;rw[z,if_neg (by simp)]at h2;have N:=aN h1;have H2:=aN h2;clear z D h1 h2;go_wp2;go_round
    case rel=>exact⟨k+1,by omega,by go_num,by rw[N.out],by rw[H2.out]⟩
    case measure=>simp[intOf];omega
   |true=>
    have b6:(y==1)=true:=by rw[D,z]
    rw[z,Bool.true_and]at h1;rw[z,if_pos rfl]at h2;have H2:=aN h2;clear z D h2;by_cases I:F<0
    ·rw[decide_eq_true I,if_pos rfl]at h1;have N:=aN h1;clear h1;go_wp2;go_round
     case rel=>exact⟨k+1,by omega,by go_num,by rw[N.out],by rw[H2.out]⟩
     case measure=>simp[intOf];omega
    ·rw[decide_eq_false I,if_neg (by simp)]at h1;have N:=aN h1;clear h1;go_wp2;go_round
     case rel=>exact⟨k+1,by omega,by go_num,by rw[N.out],by rw[H2.out]⟩
     case measure=>simp[intOf];omega
  ·have b3:k=p.length:=aK;have Y:¬(k:Int)<(p.length:Int):=aK;have h3:=KX p s p.length;have h4:=acW p s p.length;have M:vM p s=decide (vB p s p.length-pW p s p.length+1=(bR s:Int)):=rfl;subst b3;obtain⟨F,J⟩:=aQ (pW p s p.length);obtain⟨L,K⟩:=aQ (vB p s p.length);rw[<-J,<-K]at M ⊢;rw[<-J]at h3;rw[<-K]at h4;have d7:IntKind.i64.wrap (L-F)=L-F:=by rw[IntKind.wrap_i64];omega
   have d8:IntKind.i64.wrap (L-F+1)=L-F+1:=by rw[IntKind.wrap_i64];omega
   have b0:(L-F+1==(bR s:Int))=vM p s:=by rw[M];by_cases h:L-F+1=(bR s:Int)<;>simp[h]
   obtain⟨o,ho⟩:=aQ (vM p s);rw[<-ho]at b0;have HH:=aN (And.intro J (And.intro K ho));clear M J K ho;go_wp2_with (go_at_call 165;refine a9.out.mono ?_;rintro e w3 ⟨rfl,rfl⟩);go_ret3;exact⟨by rw[<-HH.out.1,<-HH.out.2.1,<-HH.out.2.2];rfl,rfl⟩
theorem aa3(g:Int)(l p:List Int)(v u:Value)(w:World)(hv:aR w v l)(hu:aR w u p)(b3:p.length<=6)(a6:∀x∈p,0<=x/\x<6)(S:∀s∈l,0<=s/\s<64):
  Calls prog 245 #[.agg #[g,v],u] w fun e w'=>e=.returned (.bool (lZ l p))/\Below w w w':=by
 have d5:=hv;have b4:=hu;obtain⟨a,b,d7,c,rfl,b7,O,hc,hb⟩:=hv.view prog 24 3 underlying24 aS;obtain⟨a',c',rfl⟩:=hu.shape;have N:=aW hc hb (bF w (.cells #[g,aI a l.length c] 31)) aO;have a7:=fun(s:Nat) (hs:s<64)=>acX p _ s _ (b4.alloc (.cells #[g,aI a l.length c] 31)) b3 a6 hs;have HC:=aN N;have a8:=aN O;have a9:=aN S;have b1:=aN a7;clear hc N O S a7 a6;go_enter func245,ntmps245;go_wp2;go_loop [13] (fun i=>∃k:Nat,k<=l.length/\i=aM k/\(∀j,(R:j<l.length)->j<k->nX p l[j]=true)) (fun i=>l.length-(intOf i).toNat)
 case atStart=>exact⟨0,Nat.zero_le _,rfl,by intros;omega⟩
 case round=>
  obtain⟨k,hk,rfl,F⟩:=hrel;have HY:=aN F;clear F;by_cases hlt:k<l.length
  ·have Y:(k:Int)<(l.length:Int):=aK;have ck:=HC.out k hlt;have ik:=fun W=>a8.out W k hlt;have hm:=a9.out _ (List.getElem_mem hlt);obtain⟨s,I⟩:∃s:Nat,l[k]=(s:Int):=⟨l[k].toNat,by omega⟩;have z:nX p l[k]=((s:Int)==0||vM p s):=by unfold nX;rw[I,Int.toNat_natCast]
   have J:=b1.out s aK;have Z:nX p l[k]=false->lZ l p=false:=fun h=>by unfold lZ;rw[List.all_eq_false];exact⟨l[k],List.getElem_mem hlt,by rw[h];simp⟩
   have a1:nX p l[k]=true->∀j,(R:j<l.length)->j<k+1->nX p l[j]=true:=fun h j R c9=>by
    by_cases e:j=k
    ·subst e;exact h
    ·exact HY.out j R aK
   rw[I]at ck;obtain⟨o,ho⟩:=aQ (vM p s);rw[<-ho]at z J;have b0:=aN Z;have K:=aN a1;have M:=aN J;clear Z a1 J ho I hm
   cases h0:((s:Int)==0) with
   |true=>
    rw[h0,Bool.true_or]at z;have D:=aN z;clear z;go_wp2;go_round
    case rel=>exact⟨k+1,by omega,by go_num,K.out D.out⟩
    case measure=>simp[intOf];omega
   |false=>
    rw[h0,Bool.false_or]at z;have D:=aN z;clear z
    cases o with
    |true=>
     go_wp2_with (go_at_call 291;refine M.out.mono ?_;rintro e w3 ⟨rfl,rfl⟩);go_round
     case rel=>exact⟨k+1,by omega,by go_num,K.out D.out⟩
     case measure=>simp[intOf];omega
    |false=>go_wp2_with (go_at_call 291;refine M.out.mono ?_;rintro e w3 ⟨rfl,rfl⟩);go_ret;exact⟨by rw[b0.out D.out];rfl,bF _ _⟩
  ·have Y:¬(k:Int)<(l.length:Int):=aK;have hr:lZ l p=true:=by unfold lZ;rw[List.all_eq_true];intro x hx;obtain⟨j,R,rfl⟩:=List.getElem_of_mem hx;exact HY.out j R aK
   have HR:=aN hr;clear hr;go_wp2;go_ret;exact⟨by rw[HR.out];rfl,bF _ _⟩
theorem ai0(w:World)(g:Int)(v:Value)(l:List Int)(hv:aR w v l):
  Calls prog 138 #[.agg #[g,v]] w fun e w'=>∃ad i cp,e=.returned (.tuple #[aI ad i cp,.bool (xS g l)])/\aP 3 w w' (aI ad i cp) (nU g l)/\Below w w w':=by
 have e7:=hv;obtain⟨a,c,rfl⟩:=hv.shape;go_enter func138,ntmps138;go_wp2_with fail;refine bH ?_;intro V hV;have B:Below w w V:=fU hV;have K:aU V w 31 #[g,aI a l.length c]:=eJ hV;clear hV;refine(dF g l _ V (hv.below B aO)).mono ?_;rintro e w1 ⟨rfl,b1⟩;have K:=K.keep b1;have B:=B.after b1 B.size;have G:=K.cell;have z:=K.lt
 cases O:bJ g l with
 |false=>
  have hx:xS g l=false/\nU g l=[]:=by unfold xS nU;rw[O];exact⟨rfl,rfl⟩
  have HX:=aN hx;clear hx O;go_wp2;go_ret2;exact⟨none,0,0,by rw[HX.out.1];rfl,by rw[HX.out.2];exact aP.nil _ _ _,B⟩
 |true=>
  obtain⟨f9,g0,e4,_⟩:=dT O;obtain⟨N,rfl⟩:∃N:Nat,g=N:=⟨g.toNat,by omega⟩;have b0:∀s∈l,0<=s/\s<64:=fun s hs=>by obtain⟨k,hk,rfl⟩:=List.getElem_of_mem hs;exact(pY O).2.2 k hk
  have I:=qJ N N;have hR:wQ (N:Int) l=(cY N N).find? (lZ l):=by unfold wQ;rw[Int.toNat_natCast]
  have hB:xS (N:Int) l=(wQ (N:Int) l).isSome:=by unfold xS;rw[O];rfl
  have hL:nU (N:Int) l=(wQ (N:Int) l).getD []:=by unfold nU;rw[O];rfl
  have a8:=aN (QC N aK w1);obtain⟨D,b6⟩:=aQ (cY N N);have b5:=yA N aK N;have d6:(6:Nat)^N<=6^6:=Nat.pow_le_pow_right aY aK;rw[<-b6]at hR I a8 b5;have f5:D.length<=46656:=aK;have a9:=aN hR;have Y:=aN hB;have a6:=aN hL;have d0:=aN I;have c9:=aN b0;clear O e4 I hR hB hL b6 b0 b5 d6;go_wp2_with fail;refine a8.out.mono ?_;rintro e w2 ⟨pO,iO,qO,rfl,oO,b2⟩;obtain⟨_,_,b9,_⟩:=oO.len;have e0:iO=D.length:=by injection b9
  subst e0;have K:=K.keep b2;have z1:=B.size;have B:=B.after b2 B.size;clear G z b9;have zk:=K.lt;go_wp2_with fail;go_loopw [13] (fun i wr=>∃k:Nat,k<=D.length/\i=aM k/\(∀j,(hj:j<D.length)->j<k->lZ l D[j]=false)/\Below w2 w2 wr) (fun i _=>D.length-(intOf i).toNat)
  case atStart=>exact⟨0,Nat.zero_le _,rfl,by intros;omega,Below.refl _ _⟩
  case round=>
   obtain⟨k,hk,rfl,b8,S⟩:=hrel;obtain⟨wo,rfl⟩:∃z:World,z=wr:=⟨_,rfl⟩;have HN:=aN b8;clear b8;have Bw:=B.after S B.size;by_cases hlt:k<D.length
   ·have b7:(k:Int)<(D.length:Int):=aK;obtain⟨gg,u,g1,d9,hu⟩:=(oO.keep S).view prog 77 underlying77 jV k hlt;have hm:=d0.out _ (List.getElem_mem hlt);have J:=aa3 (N:Int) l D[k] _ _ wo (e7.below Bw aO) hu.ints aK (fun x hx=>by have:=hm.2 x hx;omega) c9.out;have F:lZ l D[k]=true->wQ (N:Int) l=some D[k]:=fun h=>by rw[a9.out];exact RO k hlt HN.out h
    have R:lZ l D[k]=false->∀j,(hj:j<D.length)->j<k+1->lZ l D[j]=false:=fun h j hj g2=>by
     by_cases e:j=k
     ·subst e;exact h
     ·exact HN.out j hj aK
    have a7:=aN R;obtain⟨p,hp⟩:=aQ (D[k]);rw[<-hp]at J F hu R a7;obtain⟨o,ho⟩:=aQ (lZ l p);rw[<-ho]at J;have Z:=aN J;have a1:=aN F;have M:=aN ho;have HU:=aN (hu.mono (show w.heap.size<=w1.heap.size from z1));obtain⟨ua,un,uc,rfl⟩:=hu.shape3;have Kw:=K.keep S;have G:=Kw.cell;have zz:=Kw.lt;clear R F J ho hp hm hu
    cases o with
    |true=>go_wp2_with fail;refine Z.out.mono ?_;rintro e w3 ⟨rfl,b3⟩;go_wp2;go_ret2;exact⟨ua,un,uc,by rw[Y.out,a1.out M.out.symm];rfl,by rw[a6.out,a1.out M.out.symm];exact HU.out.keep b3,Bw.after b3 Bw.size⟩
    |false=>
     go_wp2_with fail;refine Z.out.mono ?_;rintro e w3 ⟨rfl,b3⟩;go_wp2;go_roundw
     case rel=>exact⟨k+1,by omega,by go_num,a7.out M.out.symm,S.after b3 S.size⟩
     case measure=>simp[intOf];omega
   ·have b7:¬(k:Int)<(D.length:Int):=aK;have hr:wQ (N:Int) l=none:=by rw[a9.out];exact NZ (fun j hj=>HN.out j hj aK)
    have HR:=aN hr;clear hr;go_wp2;go_ret2;exact⟨none,0,0,by rw[Y.out,HR.out];rfl,by rw[a6.out,HR.out];exact aP.nil _ _ _,Bw⟩
theorem aaY:∀(n:Nat) (sets l:List Int) (sv lv:Value) (K:Int) (w:World) (B:Nat),sets.length=n->aR w sv sets->aP 3 B w lv l->B<=w.heap.size->(∀x∈sets,0<=x/\x<64)->(∀x∈l,0<=x/\x<64)->l.length+sets.length<=100->dD K ->
  Calls prog 246 #[sv,lv,K] w fun e w'=>∃ad i cp,e=.returned (.tuple #[aI ad i cp,.bool (eY lE sets l K).isSome])/\aP 3 B w' (aI ad i cp) ((eY lE sets l K).getD [])/\Below w w w':=by
 intro n
 induction n using Nat.strongRecOn with
 |_ n ih=>
  intro sets l sv lv K w B hn hv own hB c9 c8 g1 hK;have e7:=hv;obtain⟨a,b,h8,c,rfl,e6,e4,hc,hb⟩:=hv.view prog 24 3 underlying24 aS;obtain⟨al,cl,rfl⟩:=own.shape;have HN:=aN hn;clear hn;by_cases hk:(l.length:Int)=K
  ·have ht:((l.length:Int)==K)=true:=by simpa using hk
   have hr:=sA lE sets l K hk;have HR:=aN hr;clear hr hk;go_enter func246,ntmps246;go_wp2;go_ret2;exact⟨al,l.length,cl,by rw[HR.out];rfl,by rw[HR.out];exact own,Below.refl _ _⟩
  ·have ht:((l.length:Int)==K)=false:=by simpa using hk
   have HK:=aN hk;have IH:=aN ih;have b5:=aN c9;have b4:=aN c8;clear hk ih c9 c8;go_enter func246,ntmps246;go_wp2_with fail;go_loopw [19] (fun i wr=>∃k:Nat,k<=sets.length/\i=aM k/\eY lE (sets.drop k) l K=eY lE sets l K/\Below w w wr) (fun i _=>sets.length-(intOf i).toNat)
   case atStart=>exact⟨0,Nat.zero_le _,rfl,rfl,Below.refl _ _⟩
   case round=>
    obtain⟨k,hk,rfl,N,Bw⟩:=hrel;have H:=aN N;clear N;have o:=own.keep Bw;by_cases hlt:k<sets.length
    ·have b9:=aW hc hb Bw aO k hlt;have a8:=b5.out _ (List.getElem_mem hlt);have I:sets.drop k=sets[k]::sets.drop (k+1):=List.drop_eq_getElem_cons hlt;have z:=wV lE sets[k] (sets.drop (k+1)) l K HK.out;rw[<-I,H.out]at z;obtain⟨x,hx⟩:=aQ (sets[k]);rw[<-hx]at b9 a8 z;have hT:=CZ l _ x wr o.ints b4.out a8;have HX:=aN hx;have g0:=fun W=>e4 W k hlt;have HT:=aN hT;clear I hx hT
     cases F:lE l x with
     |false=>
      rw[F]at z;have HF:=aN z;have HI:=aN F;clear z F;go_wp2_with (go_at_call 292;refine HT.out.mono ?_;rintro e w1 ⟨rfl,S⟩;rw[HI.out]);go_roundw
      case rel=>exact⟨k+1,by omega,by go_num,by rw[HF.out];rfl,Bw.after S Bw.size⟩
      case measure=>simp[intOf];omega
     |true=>
      rw[F]at z;have HI:=aN F;have d6:=aN z;clear F z;go_wp2_with (go_at_call 292;refine HT.out.mono ?_;rintro e w1 ⟨rfl,S⟩;rw[HI.out]);have z:=d6.out;have Y:=o.keep S;have D:=Bw.after S Bw.size;obtain⟨a',c',d1,d2⟩:=e7.from 24 3 underlying24 aS (k+1) hlt
      have e5:((k+1:Nat):Int)=(k:Int)+1:=aK;simp only[e5,List.length_drop]at d1;have c5:(sets.drop (k+1)).length<n:=by have:=HN.out;rw[List.length_drop];omega
      have c7:l.length + [x].length<=17592186044416:=by simp;omega
      have c6:l.length<=1048576:=aK;have d0:dD x:=⟨by omega,by omega⟩;have J:∀y∈l++[x],0<=y/\y<64:=by
       intro y hy;rcases List.mem_append.1 hy with hy|hy
       ·exact b4.out y hy
       ·rw[List.mem_singleton]at hy;rw[hy];exact a8
      have M:∀(v2:Value) (w2:World),aP 3 w1 w2 v2 (l++[x])->Below w1 w1 w2->Calls prog 246 #[.slice a' (sets.drop (k+1)).length c',v2,K] w2 fun e w'=>
        ∃ad i cp,e=.returned (.tuple #[aI ad i cp,.bool (eY lE (sets.drop (k+1)) (l++[x]) K).isSome])/\aP 3 w1 w' (aI ad i cp) ((eY lE (sets.drop (k+1)) (l++[x]) K).getD [])/\Below w2 w2 w':=fun v2 w2 h1 h2=>
       IH.out _ c5 (sets.drop (k+1)) (l++[x]) _ v2 K w2 w1.heap.size rfl (d2.below (D.after h2 D.size) aO) h1 h2.size (fun y hy=>b5.out y (List.mem_of_mem_drop hy)) J (by rw[List.length_append,List.length_singleton,List.length_drop];omega) hK
      obtain⟨R,hR⟩:=aQ (eY lE (sets.drop (k+1)) (l++[x]) K);rw[<-hR]at z;simp only[<-hR,List.length_drop]at M;have Z:=aN M;have HL:=aN c6;have b1:=aN c7;have b7:=aN d0;have g2:(k:Int)+1<=(sets.length:Int):=aK;have yB:=D.size;have h7:IntKind.i64.wrap ((k:Int)+1)=(k:Int)+1:=by rw[IntKind.wrap_i64];omega
      clear M c6 c7 d0 hR J d2 c5 b9
      cases R with
      |some y=>
       have HF:=aN z;clear z;go_region_held3 (fun _=>True) (trivial)
        (first
         |(go_at_call 260;refine(kW _ l _ ?_ HL.out).mono ?_;(first|(with_reducible exact Y.ints.drew')|(with_reducible exact(Y.ints.alloc _).drew'));rintro e1 wc ⟨p1,i1,q1,rfl,oc,bc⟩;first|(have cx:=keep bc (yL w1 3 (aM x));have O:=(bF w1 (.cells #[x] 3)).drew.after bc (bF w1 (.cells #[x] 3)).drew.size;have ob:=oc.mono (bF w1 (.cells #[x] 3)).drew.size)|(have O:=(Below.refl w1.heap.size w1).drew.after bc aO;have ob:=oc.mono (Nat.le_refl w1.heap.size)))
         |(refine iT rfl _ _ _ rfl 3 underlying24 aS w1.heap.size (aI p1 i1 q1) l rfl (aI (some ⟨_,0,none⟩) 1 1) [x] rfl ?_ ?_ b1.out w1 ?_ aO ?_;(first|(with_reducible exact ob)|(with_reducible exact ob.alloc _));(refine aR.one ?_ b7.out;first|(with_reducible exact bB _ _ _ _ _ rfl)|(with_reducible exact cx));(first|(with_reducible exact O)|(with_reducible exact O.alloc O.size _));(intro v2 w2 o2 b2 _))
         |(go_at_call 246;with_reducible refine(Z.out v2 w2 o2 b2).mono ?_;rintro e3 w3 ⟨p3,i3,q3,rfl,o3,b3⟩)
        )
       all_goals
        go_wp2;go_ret2;exact⟨p3,i3,q3,by rw[HF.out];rfl,by rw[HF.out];exact o3.mono aK,(D.after b2 D.size).after b3 (D.after b2 D.size).size⟩
      |none=>
       have HF:=aN z;clear z;go_region_held3 (fun _=>True) (trivial)
        (first
         |(go_at_call 260;refine(kW _ l _ ?_ HL.out).mono ?_;(first|(with_reducible exact Y.ints.drew')|(with_reducible exact(Y.ints.alloc _).drew'));rintro e1 wc ⟨p1,i1,q1,rfl,oc,bc⟩;first|(have cx:=keep bc (yL w1 3 (aM x));have O:=(bF w1 (.cells #[x] 3)).drew.after bc (bF w1 (.cells #[x] 3)).drew.size;have ob:=oc.mono (bF w1 (.cells #[x] 3)).drew.size)|(have O:=(Below.refl w1.heap.size w1).drew.after bc aO;have ob:=oc.mono (Nat.le_refl w1.heap.size)))
         |(refine iT rfl _ _ _ rfl 3 underlying24 aS w1.heap.size (aI p1 i1 q1) l rfl (aI (some ⟨_,0,none⟩) 1 1) [x] rfl ?_ ?_ b1.out w1 ?_ aO ?_;(first|(with_reducible exact ob)|(with_reducible exact ob.alloc _));(refine aR.one ?_ b7.out;first|(with_reducible exact bB _ _ _ _ _ rfl)|(with_reducible exact cx));(first|(with_reducible exact O)|(with_reducible exact O.alloc O.size _));(intro v2 w2 o2 b2 _))
         |(go_at_call 246;with_reducible refine(Z.out v2 w2 o2 b2).mono ?_;rintro e3 w3 ⟨p3,i3,q3,rfl,o3,b3⟩)
        )
       all_goals
        go_wp2;go_roundw
        case rel=>exact⟨k+1,by omega,by go_num,by rw[HF.out];rfl,(D.after b2 D.size).after b3 (D.after b2 D.size).size⟩
        case measure=>simp[intOf];omega
    ·have hr:eY lE sets l K=none:=by rw[<-H.out,List.drop_eq_nil_of_le aK];exact yP _ _ _ HK.out
     have HR:=aN hr;clear hr;go_wp2;go_ret2;exact⟨none,0,0,by rw[HR.out];rfl,by rw[HR.out];exact aP.nil _ _ _,Bw⟩
def tW(l:List Int)(s:Int):Bool:=rW (l++[s])
theorem aaZ(sets:List Int)(sv:Value)(K:Int)(c8:∀x∈sets,0<=x/\x<64)(_:dD K):∀(n f:Nat) (l:List Int) (lv:Value) (w:World) (B:Nat),f+n=sets.length->aR w sv sets->aP 3 B w lv l->B<=w.heap.size->(∀x∈l,0<=x/\x<64)->l.length+sets.length<=100+f ->
  Calls prog 251 #[sv,f,lv,K] w fun e w'=>∃ad i cp,e=.returned (.tuple #[aI ad i cp,.bool (eY tW (sets.drop f) l K).isSome])/\aP 3 B w' (aI ad i cp) ((eY tW (sets.drop f) l K).getD [])/\Below w w w':=by
 have d8:=aN c8;clear c8;intro n
 induction n using Nat.strongRecOn with
 |_ n ih=>
  intro f l lv w B hn hv own hB c6 f7;have f0:=hv;obtain⟨a,b,f3,c,rfl,e9,e8,hc,hb⟩:=hv.view prog 24 3 underlying24 aS;obtain⟨al,cl,rfl⟩:=own.shape;have hf:f<=sets.length:=aK;have HN:=aN hn;clear hn;by_cases hk:(l.length:Int)=K
  ·have ht:((l.length:Int)==K)=true:=by simpa using hk
   have hr:=sA tW (sets.drop f) l K hk;have HR:=aN hr;clear hr hk;go_enter func251,ntmps251;go_wp2;go_ret2;exact⟨al,l.length,cl,by rw[HR.out];rfl,by rw[HR.out];exact own,Below.refl _ _⟩
  ·have ht:((l.length:Int)==K)=false:=by simpa using hk
   have HK:=aN hk;have IH:=aN ih;have d7:=aN c6;clear hk ih c6;go_enter func251,ntmps251;go_wp2_with fail;go_loopw [10] (fun i wr=>∃k:Nat,f<=k/\k<=sets.length/\i=aM k/\eY tW (sets.drop k) l K=eY tW (sets.drop f) l K/\Below w w wr) (fun i _=>sets.length-(intOf i).toNat)
   case atStart=>exact⟨f,aO,hf,rfl,rfl,Below.refl _ _⟩
   case round=>
    obtain⟨k,h9,hk,rfl,S,Y⟩:=hrel;have H:=aN S;clear S;have o:=own.keep Y;by_cases hlt:k<sets.length
    ·have a7:=aW hc hb Y aO k hlt
     have g9:b<wr.heap.size:=World.block_lt_of_cell? _ _ a7;have c5:=d8.out _ (List.getElem_mem hlt);have M:sets.drop k=sets[k]::sets.drop (k+1):=List.drop_eq_getElem_cons hlt;have z:=wV tW sets[k] (sets.drop (k+1)) l K HK.out;rw[<-M,H.out]at z;obtain⟨x,hx⟩:=aQ (sets[k]);rw[<-hx]at a7 c5 z;have f6:=fun W=>e8 W k hlt;have N:∀y∈l++[x],0<=y/\y<64:=by
      intro y hy;rcases List.mem_append.1 hy with hy|hy
      ·exact d7.out y hy
      ·rw[List.mem_singleton]at hy;rw[hy];exact c5
     have b8:([]:List Int).length+l.length<=17592186044416:=by simp;omega
     have b9:([]++l).length + [x].length<=17592186044416:=by simp;omega
     have c9:dD x:=⟨by omega,by omega⟩;have b3:=aN b8;have b5:=aN b9;have e0:=aN c9;have b6:=aN N;have a6:=aN z;clear M hx b8 b9 c9 N z;go_wp2_with fail;go_cut [11] from 20 to 48 (fun v wc=>∃ad i cp,v=aI ad i cp/\aP 3 wr wc (aI ad i cp) (l++[x])/\Below wr wr wc)
     case first=>
      go_region_held3 (fun w'=>w'.cell? ⟨b,f3+k,none⟩=some (aM x)) (go_keep)
       (first
        |(refine iT rfl _ _ _ rfl 3 underlying24 aS wr.heap.size (aI (some ⟨_,0,none⟩) 0 0) [] rfl (aI al l.length cl) l rfl ?_ ?_ b3.out wr ?_ aO ?_;(first|(with_reducible exact(aP.lit0 wr aO).drew')|(with_reducible exact((aP.lit0 wr aO).alloc _).drew')|(with_reducible exact(aP.lit0' wr _).drew'));(first|(with_reducible exact(o.ints.alloc _).drew')|(with_reducible exact((o.ints.alloc _).alloc _).drew'));(first|(with_reducible exact(bF wr _).drew)|(with_reducible exact(wM wr _ _).drew));(intro v1 w1 o1 b1 pc;obtain⟨h0,h7⟩:=iK b1 wr.heap.size aO))
        |(refine iT rfl _ _ _ rfl 3 underlying24 aS wr.heap.size v1 ([]++l) rfl (aI (some ⟨_,0,none⟩) 1 1) [x] rfl ?_ ?_ b5.out wr ?_ aO ?_;(first|(with_reducible exact o1)|(with_reducible exact o1.alloc _));(refine aR.one ?_ e0.out;first|(with_reducible exact bB _ _ _ _ _ rfl)|(with_reducible exact pc _ _ (sY _ _ _ _) (AJ _ _ _))|(with_reducible exact pc _ _ (uL _ _ _ _) (AK _ _ _)));(first|(with_reducible exact b1)|(with_reducible exact b1.alloc b1.size _));(intro v2 w2 o2 b2 _;obtain⟨h5,h8⟩:=iK b2 wr.heap.size aO))
       )
      all_goals
       go_wp2;go_meet
       case rel=>obtain⟨a2,n2,c2,rfl⟩:=o2.shape3;exact⟨a2,n2,c2,rfl,o2,b2⟩
     case rest=>
      obtain⟨a2,n2,c2,rfl,o2,b2⟩:=hcut;have F:=Y.after b2 Y.size;have hT:=JV (l++[x]) _ wc o2.ints b6.out;rw[show rW (l++[x])=tW l x from rfl]at hT;have HT:=aN hT;have z:=a6.out;clear hT a7
      cases I:tW l x with
      |false=>
       rw[I]at z;have HF:=aN z;have HI:=aN I;clear z I a6;go_wp2_with (go_at_call 294;refine HT.out.mono ?_;rintro e J ⟨rfl,D⟩;rw[HI.out]);go_roundw
       case rel=>exact⟨k+1,by omega,by omega,by go_num,by rw[HF.out];rfl,F.after D F.size⟩
       case measure=>simp[intOf];omega
      |true=>
       rw[I]at z;have c7:sets.length-(k+1)<n:=by have:=HN.out;omega
       have O:∀(J:World),aP 3 wr J (aI a2 n2 c2) (l++[x])->Below wc wc J->Calls prog 251 #[aI a sets.length c,aM ((k:Int)+1),aI a2 n2 c2,K] J fun e w'=>
         ∃ad i cp,e=.returned (.tuple #[aI ad i cp,.bool (eY tW (sets.drop (k+1)) (l++[x]) K).isSome])/\aP 3 wr w' (aI ad i cp) ((eY tW (sets.drop (k+1)) (l++[x]) K).getD [])/\Below J J w':=fun J h1 h2=>
        IH.out _ c7 (k+1) (l++[x]) _ J wr.heap.size aK (f0.below (F.after h2 F.size) aO) h1 (Nat.le_trans b2.size h2.size) b6.out (by rw[List.length_append,List.length_singleton];omega)
       obtain⟨R,hR⟩:=aQ (eY tW (sets.drop (k+1)) (l++[x]) K);rw[<-hR]at z;simp only[<-hR]at O;have Z:=aN O;have HI:=aN I;have yB:=F.size;have i7:=Y.size;clear O hR c7 a6 I
       cases R with
       |some y=>
        have HF:=aN z;clear z;go_wp2_with (first
         |(go_at_call 294;refine HT.out.mono ?_;rintro e J ⟨rfl,D⟩;rw[HI.out])
         |(go_at_call 251;with_reducible refine(Z.out J (o2.keep D) D).mono ?_;rintro e4 w4 ⟨p4,i4,q4,rfl,o4,b4⟩))
        go_ret2;exact⟨p4,i4,q4,by rw[HF.out];rfl,by rw[HF.out];exact o4.mono aK,(F.after D F.size).after b4 (F.after D F.size).size⟩
       |none=>
        have HF:=aN z;clear z;go_wp2_with (first
         |(go_at_call 294;refine HT.out.mono ?_;rintro e J ⟨rfl,D⟩;rw[HI.out])
         |(go_at_call 251;with_reducible refine(Z.out J (o2.keep D) D).mono ?_;rintro e4 w4 ⟨p4,i4,q4,rfl,o4,b4⟩))
        go_roundw
        case rel=>exact⟨k+1,by omega,by omega,by go_num,by rw[HF.out];rfl,(F.after D F.size).after b4 (F.after D F.size).size⟩
        case measure=>simp[intOf];omega
    ·have hr:eY tW (sets.drop f) l K=none:=by rw[<-H.out,List.drop_eq_nil_of_le aK];exact yP _ _ _ HK.out
     have HR:=aN hr;clear hr;go_wp2;go_ret2;exact⟨_,0,0,by rw[HR.out];rfl,by rw[HR.out];exact(aP.lit0 wr aO).mono (Nat.le_trans hB Y.size),Y.alloc Y.size _⟩
theorem YT(w:World)(g:Int)(v:Value)(l:List Int)(hv:aR w v l)(_:l.length<=1048576)(k:Int)(hk:dD k):
  Calls prog 139 #[.agg #[g,v],k] w fun e w'=>∃ad i N,e=.returned (.tuple #[aI ad i N,.bool (nK g l k)])/\dR 3 w.heap.size w' (aI ad i N) (kA g l k)/\Below w w w':=by
 obtain⟨a,c,rfl⟩:=hv.shape;have K:=hv;have K0:=aU.new w 31 #[g,aI a l.length c];have G0:=K0.cell
 cases J:bJ g l with
 |false=>
  have z:pQ g l k=false:=by unfold pQ;rw[J];rfl
  have S:=aN J;have hr:tV g l k=none:=by unfold tV;rw[z];rfl
  have hB:nK g l k=false:=by unfold nK;rw[hr];rfl
  have M:kA g l k=[]:=by unfold kA;rw[hr];rfl
  have Y:=aN hB;have HL:=aN M;clear hr hB M z J;go_enter func139,ntmps139;go_wp2_with (go_at_call 101;refine(dF g l _ _ (K.alloc _)).mono ?_;rintro e w1 ⟨rfl,D⟩;rw[S.out]);go_ret2;exact⟨none,0,0,by rw[Y.out];rfl,by rw[HL.out];exact dR.nil _ _ _,(bF _ _).after D (by simp)⟩
 |true=>
  have S:=aN J
  cases F:eZ k 1 5 with
  |false=>
   have z:pQ g l k=false:=by unfold pQ;rw[F];simp
   have HI:=aN F;have hr:tV g l k=none:=by unfold tV;rw[z];rfl
   have hB:nK g l k=false:=by unfold nK;rw[hr];rfl
   have M:kA g l k=[]:=by unfold kA;rw[hr];rfl
   have Y:=aN hB;have HL:=aN M;clear hr hB M z J F;go_enter func139,ntmps139;go_wp2_with (first
    |(go_at_call 101;refine(dF g l _ _ (K.alloc _)).mono ?_;rintro e w1 ⟨rfl,D⟩;rw[S.out])
    |(go_at_call 158;refine(jF _ _ _ _).mono ?_;rintro e w2 ⟨rfl,rfl⟩;rw[HI.out]))
   go_ret2;exact⟨none,0,0,by rw[Y.out];rfl,by rw[HL.out];exact dR.nil _ _ _,(bF _ _).after D (by simp)⟩
  |true=>
   have HI:=aN F;have z:pQ g l k=true:=by unfold pQ;rw[J,F];rfl
   have hr:tV g l k=eY lE l [] k:=by unfold tV;rw[z];rfl
   have hB:nK g l k=(eY lE l [] k).isSome:=by unfold nK;rw[hr]
   have M:kA g l k=(eY lE l [] k).getD []:=by unfold kA;rw[hr]
   obtain⟨h0,h6,hm⟩:=pY J;have b0:l.length<=64:=by obtain⟨q0,q6,qm,qa⟩:=dT J;have hp:=mC q0 q6;exact FZ l 64 qa (fun x hx=>by have:=qm x hx;omega)
   have O:∀x∈l,0<=x/\x<64:=fun x hx=>by obtain⟨i,hi,rfl⟩:=List.getElem_of_mem hx;exact hm i hi
   have I:∀W,aR W (aI a l.length c) l->Calls prog 246 #[aI a l.length c,(),k] W fun e w'=>
     ∃ad i N,e=.returned (.tuple #[aI ad i N,.bool (nK g l k)])/\aP 3 W w' (aI ad i N) (kA g l k)/\Below W W w':=fun W hW=>by
    rw[hB,M];exact aaY l.length l [] _ _ k W W.heap.size rfl hW (aP.nil _ _ _) aO O (by simp) aV hk
   have Z:=aN I;clear hr hB M z J F I hm O h0 h6 G0;go_enter func139,ntmps139;go_wp2_with fail;refine(dF g l _ _ (K.alloc _)).mono ?_;rintro e w1 ⟨rfl,D⟩;rw[S.out];have K1:=K0.keep D;have G1:=K1.cell;have z1:=K1.lt;have R:Below w w w1:=(bF _ _).after D (by simp);have y1:=R.size;go_wp2_with (first
    |(go_at_call 158;refine(jF _ _ _ _).mono ?_;rintro e w2 ⟨rfl,rfl⟩;rw[HI.out])
    |(go_at_call 246;refine(Z.out _ (K.below R aO)).mono ?_;rintro e w3 ⟨p3,i3,q3,rfl,o3,b3⟩))
   go_ret2;exact⟨p3,i3,q3,rfl,o3.toW.mono aK,R.after b3 R.size⟩
theorem YU(w:World)(g:Int)(v:Value)(l:List Int)(hv:aR w v l)(_:l.length<=1048576)(k:Int)(hk:dD k):
  Calls prog 145 #[.agg #[g,v],k] w fun e w'=>∃ad i O,e=.returned (.tuple #[aI ad i O,.bool (nK g l k)])/\dR 3 w.heap.size w' (aI ad i O) (kA g l k)/\Below w w w':=by
 obtain⟨a,c,rfl⟩:=hv.shape;have M:=hv;have K0:=aU.new w 31 #[g,aI a l.length c];have G0:=K0.cell
 cases K:bJ g l with
 |false=>
  have z:pQ g l k=false:=by unfold pQ;rw[K];rfl
  have Y:=aN K;have hr:tV g l k=none:=by unfold tV;rw[z];rfl
  have hB:nK g l k=false:=by unfold nK;rw[hr];rfl
  have N:kA g l k=[]:=by unfold kA;rw[hr];rfl
  have Z:=aN hB;have HL:=aN N;clear hr hB N z K;go_enter func145,ntmps145;go_wp2_with (go_at_call 113;refine(cS g l _ _ (M.alloc _)).mono ?_;rintro e w1 ⟨rfl,D⟩;rw[Y.out]);go_ret2;have I:Below w w w1:=(bF _ _).after D (by simp);exact⟨_,0,0,by rw[Z.out];rfl,by rw[HL.out];exact(aP.lit0 w1 I.size).toW,I.alloc I.size _⟩
 |true=>
  have Y:=aN K
  cases F:eZ k 1 5 with
  |false=>
   have z:pQ g l k=false:=by unfold pQ;rw[F];simp
   have HI:=aN F;have hr:tV g l k=none:=by unfold tV;rw[z];rfl
   have hB:nK g l k=false:=by unfold nK;rw[hr];rfl
   have N:kA g l k=[]:=by unfold kA;rw[hr];rfl
   have Z:=aN hB;have HL:=aN N;clear hr hB N z K F;go_enter func145,ntmps145;go_wp2_with (first
    |(go_at_call 113;refine(cS g l _ _ (M.alloc _)).mono ?_;rintro e w1 ⟨rfl,D⟩;rw[Y.out])
    |(go_at_call 174;refine(cQ _ _ _ _).mono ?_;rintro e w2 ⟨rfl,rfl⟩;rw[HI.out]))
   go_ret2;have I:Below w w w1:=(bF _ _).after D (by simp);exact⟨_,0,0,by rw[Z.out];rfl,by rw[HL.out];exact(aP.lit0 w1 I.size).toW,I.alloc I.size _⟩
  |true=>
   have HI:=aN F;have z:pQ g l k=true:=by unfold pQ;rw[K,F];rfl
   have hr:tV g l k=eY tW l [] k:=ac0 g l k z;have hB:nK g l k=(eY tW l [] k).isSome:=by unfold nK;rw[hr]
   have N:kA g l k=(eY tW l [] k).getD []:=by unfold kA;rw[hr]
   obtain⟨h0,h6,hm⟩:=pY K;have b4:l.length<=64:=by obtain⟨q0,q6,qm,qa⟩:=dT K;have hp:=mC q0 q6;exact FZ l 64 qa (fun x hx=>by have:=qm x hx;omega)
   have R:∀x∈l,0<=x/\x<64:=fun x hx=>by obtain⟨i,hi,rfl⟩:=List.getElem_of_mem hx;exact hm i hi
   have J:∀W u,aR W (aI a l.length c) l->aP 3 w W u []->w.heap.size<=W.heap.size->Calls prog 251 #[aI a l.length c,aJ,u,k] W fun e w'=>
     ∃ad i O,e=.returned (.tuple #[aI ad i O,.bool (nK g l k)])/\aP 3 w w' (aI ad i O) (kA g l k)/\Below W W w':=fun W u hW hu a8=>by
    rw[hB,N];have:=aaZ l (aI a l.length c) k R hk l.length 0 [] u W w.heap.size aK hW hu a8 (by simp) aV;simpa using this
   have a1:=aN J;clear hr hB N z K F J hm R h0 h6 G0;go_enter func145,ntmps145;go_wp2_with fail;refine(cS g l _ _ (M.alloc _)).mono ?_;rintro e w1 ⟨rfl,D⟩;rw[Y.out];have K1:=K0.keep D;have G1:=K1.cell;have z1:=K1.lt;have I:Below w w w1:=(bF _ _).after D (by simp);have y1:=I.size;have S:=I.alloc I.size (.cells #[] 3);go_wp2_with (first
    |(go_at_call 174;refine(cQ _ _ _ _).mono ?_;rintro e w2 ⟨rfl,rfl⟩;rw[HI.out])
    |(go_at_call 251;refine(a1.out _ _ (M.below S aO) (aP.lit0 w1 y1) S.size).mono ?_;rintro e w3 ⟨p3,i3,q3,rfl,o3,b3⟩))
   go_ret2;exact⟨p3,i3,q3,rfl,o3.toW,S.after b3 S.size⟩
end
end Go.Proofs.YtcpoomdoodlkjaaGreatDoor
