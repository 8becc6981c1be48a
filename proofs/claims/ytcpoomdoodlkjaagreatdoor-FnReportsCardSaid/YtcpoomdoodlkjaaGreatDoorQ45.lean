/- Lemmas for CardReports. No condition. -/
import Derived.Test.YtcpoomdoodlkjaaGreatDoorQ35
import Derived.Test.YtcpoomdoodlkjaaGreatDoorQ44
set_option maxRecDepth 100000
set_option maxHeartbeats 64000000
namespace Go.Proofs.YtcpoomdoodlkjaaGreatDoor
section
open Go.RowKit Go.G5 Go.Proofs.Tryz
theorem yF(a:Int)(e:Nat)(h:0<=a/\a<64):bits BinOp.and IntKind.i64 (a/2^e) 1=dL a e/\(dL a e==0)=!cZ a.toNat e/\(dL a e==1)=cZ a.toNat e:=by
 have h1:=tZ a.toNat e;rw[show((a.toNat:Nat):Int)=a by omega]at h1;refine⟨jL a e h.1 aI,?_,h1⟩;rw[<-h1];have:dL a e=0∨dL a e=1:=by unfold dL;omega
 rcases this with h|h<;>rw[h]<;>rfl
theorem XH(e:Nat)(h:e<6):0<(2:Int)^e/\(2:Int)^e<64:=by
 rcases(show e=0∨e=1∨e=2∨e=3∨e=4∨e=5 by omega) with rfl|rfl|rfl|rfl|rfl|rfl<;>decide
theorem SJ(w:World)(N:Nat)(v:Value)(l:List Int)(hv:aO w v l)(hf:bF (N:Int) l=true):
  Calls prog 124 #[.agg #[(N:Int),v]] w fun r w'=>r=.returned (.bool (wI (N:Int) l))/\Below w w w':=by
 have d7:=hv;obtain⟨p,bb,o2,c,rfl,h7,g8,hc,hb⟩:=hv.view prog 24 3 underlying24 aP;have hm:=dQ hf;have hl:=jQ hf;obtain⟨h0,h6,d6,k0⟩:=dQ hf;have hN:N<=6:=aI;have f0:=cK N 6 hN;have j9:=f0.1;have n3:=f0.2;simp at j9;have K1:=aR.new w 31 #[(N:Int),ajH p l.length c];have e9:=fun(W:World) (h:aO W (ajH p l.length c) l)=>cP (N:Int) l _ W h;simp only[hf]at e9;have hx:wI (N:Int) l=(!l.isEmpty&&l.all fun a=>l.all (nI l a)):=by unfold wI;rw[hf,Bool.true_and]
 have g6:∀a b,a∈l->b∈l->nI l a b=WP N l a b:=fun a b ha hb=>by have h1:=d6 a ha;have h2:=d6 b hb;have e:((N:Int)).toNat=N:=Int.toNat_natCast N;exact af9 N hN l a b (by simpa[e]using h1) (by simpa[e]using h2)
 have e6:=aJ e9;have HX:=aJ hx;have j0:=aJ g6;have HQ:=aJ d6;have HC:=aJ hc;have g1:=aJ g8;clear e9 hx g6 d6 k0 hm hf hc g8 f0 h7;go_enter func124,ntmps124;go_wp2_with fail;go_loopw [3] (fun iv wr=>∃j:Nat,j<=l.length/\iv=ajJ j/\(l.take j).all (fun a=>l.all (nI l a))=true/\Below w w wr/\aR wr w 31 #[(N:Int),ajH p l.length c]) (fun iv _=>l.length-(intOf iv).toNat)
 case atStart=>exact⟨0,Nat.zero_le _,rfl,by simp,aY _ _,K1⟩
 case round=>
  obtain⟨j,hj,rfl,F,Bw,Kw⟩:=hrel;have d9:=aJ F;clear F;have G:=Kw.cell;by_cases hlt:j<l.length
  ·have h9:(j:Int)<(l.length:Int):=aI;go_wp2_with fail;refine(e6.out wr (d7.below Bw aK)).mono ?_;rintro r w3 ⟨rfl,b3⟩;have B3:=Bw.after b3 Bw.size;have K3:=Kw.keep b3;have hB:=B3.size;clear G;have G:=K3.cell;go_wp2_with fail;have Z:(l.take (j+1)).all (fun a=>l.all (nI l a))=l.all (nI l l[j]):=by rw[List.take_succ_eq_append_getElem hlt,List.all_append,d9.out];simp
   have b4:=List.getElem_mem hlt;obtain⟨a,e7⟩:=aN (l[j]);rw[<-e7]at Z b4;have j3:=aJ Z;have a7:=aJ b4;have i8:=aJ e7;clear Z b4 e7 G;go_loopw [4] (fun iv wq=>∃k:Nat,k<=l.length/\iv=ajJ k/\(l.take k).all (nI l a)=true/\Below w w wq/\aR wq w 31 #[(N:Int),ajH p l.length c]) (fun iv _=>l.length-(intOf iv).toNat)
   case atStart=>exact⟨0,Nat.zero_le _,rfl,by simp,B3,K3⟩
   case round=>
    obtain⟨k,hk,rfl,F,Bk,Kk⟩:=hrel;obtain⟨wk,rfl⟩:∃wk:World,wk=wr:=⟨_,rfl⟩;have a1:=aJ F;clear F B3 K3 hB;have G:=Kk.cell;by_cases d5:k<l.length
    ·have h8:(k:Int)<(l.length:Int):=aI;have g4:=aT HC.out hb Bk aK j hlt;have g5:=aT HC.out hb Bk aK k d5;rw[<-i8.out]at g4;have k2:=fun W=>g1.out W j hlt;have k3:=fun W=>g1.out W k d5;obtain⟨b,d0⟩:=aN (l[k]);have i1:=HQ.out a a7.out;have b1:=List.getElem_mem d5;rw[<-d0]at g5 b1;have i6:=HQ.out b b1;have b6:=j0.out a b a7.out b1;have Z:(l.take (k+1)).all (nI l a)=nI l a b:=by rw[List.take_succ_eq_append_getElem d5,List.all_append,a1.out,d0];simp
     have R:0<=a/\a<64:=by rw[Int.toNat_natCast]at i1;omega
     have S:0<=b/\b<64:=by rw[Int.toNat_natCast]at i6;omega
     have g2:=aJ Z;have a8:=aJ b6;have j2:=aJ b1;have m1:=aJ d0;clear Z b6 b1 d0 i1 i6;go_wp2_with fail;clear g4 g5 k2 k3 G;have m7:=R.1;have m8:=R.2;have m9:=S.1;have n0:=S.2;have c7:=aJ (And.intro R S);clear R S;go_loopw [7] (fun iv wq=>∃e:Nat,e<=N/\iv=ajJ e/\bY (fun e=>wH a b e||mH (uE l a b e) N) e=true/\Below w w wq/\aR wq w 31 #[(N:Int),ajH p l.length c]) (fun iv _=>N-(intOf iv).toNat)
     case atStart=>exact⟨0,Nat.zero_le _,rfl,rfl,Bk,Kk⟩
     case round=>
      obtain⟨e,he,rfl,F,Be,Ke⟩:=hrel;obtain⟨we,rfl⟩:∃we:World,we=wr:=⟨_,rfl⟩;have a6:=aJ F;clear F Bk Kk;have G:=Ke.cell;by_cases n2:e<N
      ·have h5:(e:Int)<(N:Int):=aI;have j8:e<6:=aI;obtain⟨c8,K,a9⟩:=yF a e c7.out.1;obtain⟨c9,b0,Y⟩:=yF b e c7.out.2;have z:bY (fun e=>wH a b e||mH (uE l a b e) N) (e+1)=(wH a b e||mH (uE l a b e) N):=by rw[bY,a6.out,Bool.true_and]
       have M:wH a b e=(!cZ a.toNat e||cZ b.toNat e):=rfl;obtain⟨za,b9⟩:=aN (cZ a.toNat e);obtain⟨zb,c5⟩:=aN (cZ b.toNat e);rw[<-b9]at K a9 M;rw[<-c5]at b0 Y M;obtain⟨ya,b7⟩:=aN (dL a e);obtain⟨yb,b8⟩:=aN (dL b e);rw[<-b7]at c8 K a9;rw[<-b8]at c9 b0 Y;have D:=aJ (And.intro z M);clear b9 c5 b7 b8 z M a9 b0
       cases za with
       |false=>
        simp only[Bool.not_false]at K;have I:bY (fun e=>wH a b e||mH (uE l a b e) N) (e+1)=true:=by rw[D.out.1,D.out.2];rfl
        have HS:=aJ I;clear I;go_wp2;go_roundw
        case rel=>exact⟨e+1,by omega,by go_num,HS.out,Be,Ke⟩
        case measure=>simp[intOf];omega
       |true=>
        simp only[Bool.not_true]at K
        cases zb with
        |true=>
         have I:bY (fun e=>wH a b e||mH (uE l a b e) N) (e+1)=true:=by rw[D.out.1,D.out.2];rfl
         have HS:=aJ I;clear I;go_wp2;go_roundw
         case rel=>exact⟨e+1,by omega,by go_num,HS.out,Be,Ke⟩
         case measure=>simp[intOf];omega
        |false=>
         have I:bY (fun e=>wH a b e||mH (uE l a b e) N) (e+1)=mH (uE l a b e) N:=by rw[D.out.1,D.out.2];rfl
         have HS:=aJ I;clear I D;go_wp2_with fail;clear c8 K c9 Y G;go_loopw [9,8] (fun dv fv wq=>∃d:Nat,d<=N/\dv=ajJ d/\fv=.bool (mH (uE l a b e) d)/\Below w w wq/\aR wq w 31 #[(N:Int),ajH p l.length c]) (fun dv _ _=>N-(intOf dv).toNat)
         case atStart=>exact⟨0,Nat.zero_le _,rfl,rfl,Be,Ke⟩
         case round=>
          obtain⟨d,hd,rfl,rfl,Bd,Kd⟩:=hrel;obtain⟨wd,rfl⟩:∃wd:World,wd=wr:=⟨_,rfl⟩;clear Be Ke;have G:=Kd.cell;have d8:=d7.below Bd aK;by_cases n1:d<N
          ·have g9:(d:Int)<(N:Int):=aI;have j6:d<6:=aI;obtain⟨c8,K,a9⟩:=yF a d c7.out.1;obtain⟨c9,b0,Y⟩:=yF b d c7.out.2;have z:mH (uE l a b e) (d+1)=(mH (uE l a b e) d||(cZ b.toNat d&&(!cZ a.toNat d&&fP l (a-2^e+2^d)))):=rfl;obtain⟨za,b9⟩:=aN (cZ a.toNat d);obtain⟨zb,c5⟩:=aN (cZ b.toNat d);rw[<-b9]at K z;rw[<-c5]at Y z;obtain⟨ya,b7⟩:=aN (dL a d);obtain⟨yb,b8⟩:=aN (dL b d);rw[<-b7]at c8 K;rw[<-b8]at c9 Y;obtain⟨q,hq⟩:=aN (mH (uE l a b e) d);rw[<-hq]at z ⊢;have D:=aJ z;clear b9 c5 b7 b8 z a9 b0 hq
           cases zb with
           |false=>
            have I:mH (uE l a b e) (d+1)=q:=by rw[D.out];simp
            have J:=aJ I;clear I D;go_wp2_with fail;go_quiet (fail);go_wp2;go_roundw
            case rel=>exact⟨d+1,by omega,by go_num,by rw[J.out],Bd.drewN' _,Kd.drewN _⟩
            case measure=>simp[intOf];omega
           |true=>
            cases za with
            |true=>
             have I:mH (uE l a b e) (d+1)=q:=by rw[D.out];simp
             have J:=aJ I;clear I D;simp only[Bool.not_true]at K;go_wp2_with fail;go_quiet (fail);go_wp2;go_roundw
             case rel=>exact⟨d+1,by omega,by go_num,by rw[J.out],Bd.drewN' _,Kd.drewN _⟩
             case measure=>simp[intOf];omega
            |false=>
             simp only[Bool.not_false]at K;have pe:=XH e j8;have pd:=XH d j6;have o5:=pe.1;have o6:=pe.2;have o3:=pd.1;have o4:=pd.2;have o0:IntKind.i64.wrap (a-2^e)=a-2^e:=by rw[IntKind.wrap_i64];omega
             have o1:IntKind.i64.wrap (a-2^e+2^d)=a-2^e+2^d:=by rw[IntKind.wrap_i64];omega
             clear pe pd
             cases O:fP l (a-2^e+2^d) with
             |false=>
              have I:mH (uE l a b e) (d+1)=q:=by rw[D.out,O];simp
              have J:=aJ I;clear I D;go_wp2_with fail;go_quiet ((go_at_call 210;first|exact nT (kQ l _ _ _ (d8.drewN _)) O|exact rP (kQ l _ _ _ (d8.drewN _)) O));go_wp2;go_roundw
              case rel=>exact⟨d+1,by omega,by go_num,by rw[J.out],Bd.drewN' _,Kd.drewN _⟩
              case measure=>simp[intOf];omega
             |true=>
              have I:mH (uE l a b e) (d+1)=true:=by rw[D.out,O];simp
              have J:=aJ I;clear I D;go_wp2_with fail;go_quiet ((go_at_call 210;first|exact nT (kQ l _ _ _ (d8.drewN _)) O|exact rP (kQ l _ _ _ (d8.drewN _)) O));go_wp2;go_roundw
              case rel=>exact⟨d+1,by omega,by go_num,by rw[J.out],Bd.drewN' _,Kd.drewN _⟩
              case measure=>simp[intOf];omega
          ·have g9:¬(d:Int)<(N:Int):=aI;have j7:d=N:=aI;subst j7;obtain⟨q,hq⟩:=aN (mH (uE l a b e) d);have I:=HS.out;rw[<-hq]at I ⊢;have J:=aJ I;have m2:=aJ hq;clear I hq HS
           cases q with
           |true=>
            go_wp2;go_roundw
            case rel=>exact⟨e+1,by omega,by go_num,J.out,Bd,Kd⟩
            case measure=>simp[intOf];omega
           |false=>
            go_wp2;go_ret;refine⟨aW ?_,Bd⟩;rw[HX.out];have k1:nI l a b=false:=by
             rw[a8.out]
             cases hc:WP d l a b with
             |false=>rfl
             |true=>
              unfold WP at hc;have h1:=eH.1 hc;have h2:bY (fun e=>wH a b e||mH (uE l a b e) d) (e+1)=true:=eH.2 (fun i hi=>h1 i aI);rw[J.out]at h2
              cases h2
            have h1:l.all (fun a=>l.all (nI l a))=false:=by
             cases hc:l.all (fun a=>l.all (nI l a)) with
             |false=>rfl
             |true=>
              have:=List.all_eq_true.1 (List.all_eq_true.1 hc a a7.out) b j2.out;rw[k1]at this
              cases this
            rw[h1,Bool.and_false]
      ·have h5:¬(e:Int)<(N:Int):=aI;have e8:e=N:=aI;have O:nI l a b=true:=by rw[a8.out];unfold WP;rw[<-e8];simpa[e8]using a6.out
       have HH:=aJ O;clear O e8;go_wp2;go_roundw
       case rel=>exact⟨k+1,by omega,by go_num,by rw[g2.out,HH.out],Be,Ke⟩
       case measure=>simp[intOf];omega
    ·have h8:¬(k:Int)<(l.length:Int):=aI;have O:=a1.out;rw[List.take_of_length_le aI]at O;have HH:=aJ O;clear O;go_wp2;go_roundw
     case rel=>exact⟨j+1,by omega,by go_num,by rw[j3.out,HH.out],Bk,Kk⟩
     case measure=>simp[intOf];omega
  ·have h9:¬(j:Int)<(l.length:Int):=aI;have O:=d9.out;rw[List.take_of_length_le aI]at O;have HH:=aJ O;clear O;go_wp2_with fail;refine(e6.out wr (d7.below Bw aK)).mono ?_;rintro r w3 ⟨rfl,b3⟩;have B3:=Bw.after b3 Bw.size;have K3:=Kw.keep b3;clear G;have G:=K3.cell;go_wp2_with fail;refine(e6.out w3 (d7.below B3 aK)).mono ?_;rintro r w5 ⟨rfl,b5⟩;have B5:=B3.after b5 B3.size;have K5:=K3.keep b5;clear G;have G:=K5.cell;have g7:(decide ((0:Int)<(l.length:Int)))=!l.isEmpty:=by cases l with|nil=>rfl|cons x t=>simp
   have j1:=aJ g7;clear g7;go_wp2;go_ret;exact⟨aW (by rw[HX.out,HH.out,Bool.and_true,<-j1.out];simp),B5⟩
theorem aa3(w:World)(g:Int)(v:Value)(l:List Int)(hv:aO w v l)(hl:l.length<=1048576):
  Calls prog 21 #[.agg #[g,v]] w fun e w'=>e=.returned (.string (CP g l))/\Below w w w':=by
 have K:=hv;obtain⟨a,c,rfl⟩:=hv.shape;have K0:=aR.new w 31 #[g,ajH a l.length c]
 cases J:bF g l with
 |false=>have HX:=aJ (WS J);have HF:=aJ J;clear J;go_enter func21,ntmps21;go_wp2_with fail;refine(cP g l _ _ (K.alloc _)).mono ?_;rintro e w1 ⟨rfl,b1⟩;rw[HF.out];go_wp2;go_ret;exact⟨bX HX.out.symm,(aY _ _).after b1 (by simp)⟩
 |true=>
  have r0:=LX g l;have r2:=(GN g l).1;have r4:=MW g l;have q9:=QW g l;have hx:CP g l=WT g l:=GH J;unfold WT xD vD at hx;obtain⟨N,hN⟩:∃N:Nat,g=(N:Int):=Int.eq_ofNat_of_zero_le (dQ J).1;have j6:∀(W:World),aO W (ajH a l.length c) l->Calls prog 116 #[.agg #[g,ajH a l.length c]] W fun e w'=>∃ad i c,e=.returned (ajH ad i c)/\aO w' (ajH ad i c) (mU g l)/\Below W W w':=by intro W h;subst hN;exact U9 W N _ l h J
  have j3:∀(W:World),aO W (ajH a l.length c) l->Calls prog 124 #[.agg #[g,ajH a l.length c]] W fun e w'=>e=.returned (.bool (wI g l))/\Below W W w':=by intro W h;subst hN;exact SJ W N _ l h J
  have a9:=fun(W:World) (h:aO W (ajH a l.length c) l)=>IQ W g _ l h hl;have j4:=fun(W:World) (h:aO W (ajH a l.length c) l)=>QP g l _ W h J;have j5:=fun(W:World) (h:aO W (ajH a l.length c) l)=>adO W g _ l h J;have j7:=fun(W:World) (h:aO W (ajH a l.length c) l)=>aeF g l _ W h J;simp only[J]at a9;obtain⟨M,hM⟩:=aN (gW g l);obtain⟨L,hL⟩:=aN (lA g l);simp only[<-hM,<-hL]at a9 hx;have s1:=eZ g l;have s2:=eZ M L;have s3:=cT (sK g l) ⟨by omega,by omega⟩;have s4:=FI g l;have s5:=cT (sL g l) ⟨by omega,by omega⟩;have s6:=cT (wM g l) ⟨by omega,by omega⟩;have s7:=fC g (yJ g l);have q1:=fun(W:World) (h:aO W (ajH a l.length c) l)=>kO g l _ W h;have q2:=fun(W:World) (v:Value) (h:aO W v L)=>kO M L v W h;have q3:=fun(W:World)=>fU (sK g l) ⟨by omega,by omega⟩ W;have q4:=fun(W:World) (v:Value) (h:aO W v (mU g l))=>vG (mU g l) v W h aI;have q5:=fun(W:World)=>fU (sL g l) ⟨by omega,by omega⟩ W;have q6:=fun(W:World)=>fU (wM g l) ⟨by omega,by omega⟩ W;have q7:=fun(W:World)=>kP g (yJ g l) W;obtain⟨F1,d8⟩:=aN (cY g l);obtain⟨F2,d9⟩:=aN (cY M L);obtain⟨F3,e6⟩:=aN (bM (sK g l));obtain⟨F4,e7⟩:=aN (eU (mU g l));obtain⟨F5,e8⟩:=aN (bM (sL g l));obtain⟨F6,e9⟩:=aN (bM (wM g l));obtain⟨F7,f0⟩:=aN (bW g (yJ g l));simp only[<-d8]at q1 s1;simp only[<-d9]at q2 s2;simp only[<-e6]at q3 s3;simp only[<-e7]at q4 s4;simp only[<-e8]at q5 s5;simp only[<-e9]at q6 s6;simp only[<-f0]at q7 s7;rw[<-d8,<-d9,<-e6,<-e7,<-e8,<-e9,<-f0]at hx;have g6:=aJ q1;have g7:=aJ q2;have g8:=aJ q3;have g9:=aJ q4;have h6:=aJ q5;have d0:=aJ q6;have d5:=aJ q7;have g2:=aJ a9;have c8:=aJ j4;have g3:=aJ j5;have g5:=aJ j7;have c7:=aJ j3;have g4:=aJ j6;have HX:=aJ hx;have HF:=aJ J;clear hx J a9 j4 j5 j7 j3 j6 hM hL hN d8 d9 e6 e7 e8 e9 f0 q1 q2 q3 q4 q5 q6 q7;go_enter func21,ntmps21;go_wp2_with fail;refine(cP g l _ _ (K.alloc _)).mono ?_;rintro e w1 ⟨rfl,b1⟩;rw[HF.out];have B1:Below w w w1:=(aY _ _).after b1 (by simp);have K1:=K0.keep b1;clear K0 b1;have G:=K1.cell;go_wp2_with fail;refine(g2.out _ (K.below B1 aK)).mono ?_;rintro e w2 ⟨pB,iB,qB,rfl,oB,b2⟩;have r3:iB=L.length:=oB.ints.capLe.1;subst r3;have B2:=B1.after b2 B1.size;have K2:=K1.keep b2;clear G B1 K1 b2;have KB:=aR.new w2 31 #[M,ajH pB L.length qB];have hB:=oB.ints.alloc (.cells #[M,ajH pB L.length qB] 31);have B3:=B2.alloc B2.size (.cells #[M,ajH pB L.length qB] 31);have K3:=K2.alloc (.cells #[M,ajH pB L.length qB] 31);have hA:=K.below B3 aK;clear oB B2 K2;go_upto_region 4 with fail;obtain⟨w3,j8⟩:=aN (w2.alloc (.cells #[M,ajH pB L.length qB] 31));rw[<-j8]at KB hB B3 K3 hA ⊢;clear j8;go_cut [5] (fun v wx=>∃X,v=.string X/\X=I5 F1 F2 F3 F4 F5/\Below w3 w3 wx)
  case rest=>
   obtain⟨X,rfl,hX,b4⟩:=hcut;have w0:X.size<=20400:=by rw[hX];exact I6 F1 F2 F3 F4 F5 s1 s2 s3 s4 s5
   have D:=HX.out;rw[<-hX]at D;have HX:=aJ D;have B4:=B3.after b4 B3.size;have K4:=K3.keep b4;clear hX D b4 B3 K3 KB hB hA g6 g7 g8 g9 h6 g2 g3 g5 g4 s1 s2 s3 s4 s5;have G:=K4.cell;go_wp2_with fail;refine(c8.out _ (K.below B4 aK)).mono ?_;rintro e w5 ⟨rfl,b5⟩;have B5:=B4.after b5 B4.size;have K5:=K4.keep b5;clear B4 K4 G b5;have g0:=K5.cell 0;simp only[List.getElem?_toArray,List.getElem?_cons_zero]at g0;have q0:∀y:Ext w5,y.w.cell? ⟨w.heap.size,0,none⟩=some (ajJ g):=fun y=>y.cell g0;have R6:=aJ (fun y:Ext w5=>d0.out y.w);have R7:=aJ (fun y:Ext w5=>d5.out y.w);clear g0;go_wp2_with fail;refine bJ _ aQ aQ ?_
   repeat(first|go_big_quiet_skip|(go_big_quiet_want;go_big_quiet_op;first|go_big_quiet_on|(apply Exists.intro;refine⟨fun _=>?_,?_⟩;(first|(go_at_call 54;with_reducible exact bK (R6.out _))|(go_at_call 80;with_reducible exact bK (R7.out _)));go_big_quiet_on)))
   refine wpQuiet_nil ?_;rintro I ⟨⟨I,b6⟩,rfl⟩
   try dsimp only
   have B6:=B5.after b6 B5.size;have K6:=K5.keep b6;have F:=K.below B6 aK;have v7:(⟨#[32,98,121,32]⟩:ByteArray).size=4:=rfl;have z0:(X++F6++(⟨#[32,98,121,32]⟩:ByteArray)++F7).size<=20600:=by simp only[ByteArray.size_append];omega
   have G:=K6.cell;have g0:=G 0;have g1:=G 1;simp only[List.getElem?_toArray,List.getElem?_cons_zero,List.getElem?_cons_succ]at g0 g1;have q0:∀y:Ext I,y.w.cell? ⟨w.heap.size,0,none⟩=some (ajJ g):=fun y=>y.cell g0;have q1:∀y:Ext I,y.w.cell? ⟨w.heap.size,1,none⟩=some (ajH a l.length c):=fun y=>y.cell g1;clear R6 R7 d0 d5 B5 K5 b6 g0 g1 G;obtain⟨Y,hY⟩:=aN (X++F6++(⟨#[32,98,121,32]⟩:ByteArray)++F7);rw[<-hY]at z0;have D:=HX.out;rw[<-hY]at D;have HX:=aJ D;clear D;have Q0:=fun y:Ext I=>ad8 g l _ y.w (F.keep y.b) HF.out;have Q1:=fun y:Ext I=>LW g l _ y.w (F.keep y.b) HF.out;have Q2:=fun y:Ext I=>YW g l _ y.w (F.keep y.b) HF.out;have Q3:=fun y:Ext I=>Z7 g l _ y.w (F.keep y.b) HF.out;have Q4:=fun y:Ext I=>VB g l _ y.w (F.keep y.b) hl;have Q5:=fun y:Ext I=>c7.out y.w (F.keep y.b);obtain⟨h9,O⟩:=aN (tO g l);rw[<-O]at Q0;obtain⟨i6,R⟩:=aN (mP g l);rw[<-R]at Q1;obtain⟨i7,S⟩:=aN (lY g l);rw[<-S]at Q2;obtain⟨i8,Z⟩:=aN (qN g l);rw[<-Z]at Q3;obtain⟨j0,a6⟩:=aN (oJ g l);rw[<-a6]at Q4;obtain⟨j1,a7⟩:=aN (wI g l);rw[<-a7]at Q5;have o4:=aJ (And.intro O (And.intro R (And.intro S (And.intro Z (And.intro a6 a7)))));have Q0:=aJ Q0;have Q1:=aJ Q1;have Q2:=aJ Q2;have Q3:=aJ Q3;have Q4:=aJ Q4;have Q5:=aJ Q5;obtain⟨t0,b0⟩:=aN (jI h9 (⟨#[32,108,97,109,105,110,97,114]⟩:ByteArray));have Y0:=fun y:Ext I=>kI h9 (⟨#[32,108,97,109,105,110,97,114]⟩:ByteArray) y.w;rw[<-b0]at Y0;have Y0:=aJ Y0;have z1:t0.size<=14:=by rw[b0];exact Nat.le_trans (dU _ _) aV
   obtain⟨t1,b3⟩:=aN (jI i6 (⟨#[32,99,114,111,115,115,102,114,101,101]⟩:ByteArray));have Y1:=fun y:Ext I=>kI i6 (⟨#[32,99,114,111,115,115,102,114,101,101]⟩:ByteArray) y.w;rw[<-b3]at Y1;have Y1:=aJ Y1;have z2:t1.size<=14:=by rw[b3];exact Nat.le_trans (dU _ _) aV
   obtain⟨t2,b8⟩:=aN (jI i7 (⟨#[32,105,110,116,101,114,115,101,99,116,105,110,103]⟩:ByteArray));have Y2:=fun y:Ext I=>kI i7 (⟨#[32,105,110,116,101,114,115,101,99,116,105,110,103]⟩:ByteArray) y.w;rw[<-b8]at Y2;have Y2:=aJ Y2;have z3:t2.size<=14:=by rw[b8];exact Nat.le_trans (dU _ _) aV
   obtain⟨t3,b9⟩:=aN (jI i8 (⟨#[32,97,110,116,105,99,104,97,105,110]⟩:ByteArray));have Y3:=fun y:Ext I=>kI i8 (⟨#[32,97,110,116,105,99,104,97,105,110]⟩:ByteArray) y.w;rw[<-b9]at Y3;have Y3:=aJ Y3;have z4:t3.size<=14:=by rw[b9];exact Nat.le_trans (dU _ _) aV
   obtain⟨t4,c5⟩:=aN (jI j0 (⟨#[32,100,111,119,110]⟩:ByteArray));have Y4:=fun y:Ext I=>kI j0 (⟨#[32,100,111,119,110]⟩:ByteArray) y.w;rw[<-c5]at Y4;have Y4:=aJ Y4;have z5:t4.size<=14:=by rw[c5];exact Nat.le_trans (dU _ _) aV
   obtain⟨t5,c6⟩:=aN (jI j1 (⟨#[32,98,97,115,101,115]⟩:ByteArray));have Y5:=fun y:Ext I=>kI j1 (⟨#[32,98,97,115,101,115]⟩:ByteArray) y.w;rw[<-c6]at Y5;have Y5:=aJ Y5;have z6:t5.size<=14:=by rw[c6];exact Nat.le_trans (dU _ _) aV
   have o5:=aJ (And.intro b0 (And.intro b3 (And.intro b8 (And.intro b9 (And.intro c5 c6)))));clear O R S Z a6 a7 b0 b3 b8 b9 c5 c6 F K6 r2 r0 r4 q9 c8 c7;have s0:(Y++t0).size<=20614:=by simp only[ByteArray.size_append];omega
   have s1:(Y++t0++t1).size<=20628:=by simp only[ByteArray.size_append];omega
   have s2:(Y++t0++t1++t2).size<=20642:=by simp only[ByteArray.size_append];omega
   have s3:(Y++t0++t1++t2++t3).size<=20656:=by simp only[ByteArray.size_append];omega
   have s4:(Y++t0++t1++t2++t3++t4).size<=20670:=by simp only[ByteArray.size_append];omega
   have s5:(Y++t0++t1++t2++t3++t4++t5).size<=20684:=by simp only[ByteArray.size_append];omega
   have HY:=aJ hY;rw[<-hY];clear hY;go_wp2_with fail;refine bJ _ aQ aQ ?_
   repeat(first|go_big_quiet_skip|(go_big_quiet_want;go_big_quiet_op;first|go_big_quiet_on|(apply Exists.intro;refine⟨fun _=>?_,?_⟩;(first|(go_at_call 119;with_reducible exact bK (Q0.out _))|(go_at_call 120;with_reducible exact bK (Q1.out _))|(go_at_call 121;with_reducible exact bK (Q2.out _))|(go_at_call 122;with_reducible exact bK (Q3.out _))|(go_at_call 123;with_reducible exact bK (Q4.out _))|(go_at_call 124;with_reducible exact bK (Q5.out _))|(go_at_call 58;first|(with_reducible exact cO (Y0.out _))|(with_reducible exact cO (Y1.out _))|(with_reducible exact cO (Y2.out _))|(with_reducible exact cO (Y3.out _))|(with_reducible exact cO (Y4.out _))|(with_reducible exact cO (Y5.out _))));go_big_quiet_on)))
   refine wpQuiet_nil ?_;rintro w7 ⟨⟨w7,b7⟩,rfl⟩
   try dsimp only
   go_wp2_with fail;go_ret;refine⟨bX ?_,B6.after b7 B6.size⟩;obtain⟨h0,h1,h2,h3,h4,h5⟩:=o4.out;obtain⟨k0,k1,k2,k3,k4,k5⟩:=o5.out;rw[HX.out,<-h0,<-h1,<-h2,<-h3,<-h4,<-h5,k0,k1,k2,k3,k4,k5]
  case first=>
   have a0:=K3.cell 0;have a1:=K3.cell 1;have a2:=KB.cell 0;have a3:=KB.cell 1;simp only[List.getElem?_toArray,List.getElem?_cons_zero,List.getElem?_cons_succ]at a0 a1 a2 a3;have q0:∀y:Ext w3,y.w.cell? ⟨w.heap.size,0,none⟩=some (ajJ g):=fun y=>y.cell a0;have q1:∀y:Ext w3,y.w.cell? ⟨w.heap.size,1,none⟩=some (ajH a l.length c):=fun y=>y.cell a1;have q2:∀y:Ext w3,y.w.cell? ⟨w2.heap.size,0,none⟩=some (ajJ M):=fun y=>y.cell a2;have q3:∀y:Ext w3,y.w.cell? ⟨w2.heap.size,1,none⟩=some (ajH pB L.length qB):=fun y=>y.cell a3;clear a0 a1 a2 a3 c8 c7 d0 d5;have e0:(⟨#[102,97,109,105,108,121,32]⟩:ByteArray).size=7:=rfl;have e1:(⟨#[32,98,108,111,99,107,101,114,32]⟩:ByteArray).size=9:=rfl;have e2:(⟨#[32,100,105,109,101,110,115,105,111,110,32]⟩:ByteArray).size=11:=rfl;have e3:(⟨#[32,103,114,111,119,116,104,32]⟩:ByteArray).size=8:=rfl;have e4:(⟨#[32,108,121,109,32]⟩:ByteArray).size=5:=rfl;have e5:(⟨#[32,100,105,115,99,114,101,112,97,110,99,121,32]⟩:ByteArray).size=13:=rfl;refine CC (C:=fun w'=>∃x:Ext w3,w'=x.w) aQ aQ aQ ⟨⟨w3.drew,(Below.refl _ _).drew⟩,rfl⟩ ?_;have bd:Below w3 w3 w3.drew:=(Below.refl _ _).drew
   repeat(refine gG (by rfl) ?_;(first|go_big_quiet_skip|(go_big_quiet_want;go_big_quiet_op;go_big_quiet_on));refine wpQuiet_nil ?_)
   refine gY 79 _ _ rfl (enters_of func79 aQ rfl) aQ ?_;intro KK z;go_simp;refine(g6.out _ (hA.keep bd)).mono ?_;rintro e x0 ⟨rfl,y0⟩;have y0:=bd.after y0 bd.size;refine⟨_,rfl,?_⟩;go_simp;refine z _ _ ⟨⟨x0,y0⟩,rfl⟩ ?_;clear z KK
   repeat(refine gG (by rfl) ?_;(first|go_big_quiet_skip|(go_big_quiet_want;go_big_quiet_op;go_big_quiet_on));refine wpQuiet_nil ?_)
   refine gY 79 _ _ rfl (enters_of func79 aQ rfl) aQ ?_;intro KK z;go_simp;refine(g7.out _ _ (hB.keep y0)).mono ?_;rintro e x1 ⟨rfl,y1⟩;have y1:=y0.after y1 y0.size;refine⟨_,rfl,?_⟩;go_simp;refine z _ _ ⟨⟨x1,y1⟩,rfl⟩ ?_;clear z KK
   repeat(refine gG (by rfl) ?_;(first|go_big_quiet_skip|(go_big_quiet_want;go_big_quiet_op;go_big_quiet_on));refine wpQuiet_nil ?_)
   refine gY 115 _ _ rfl (enters_of func115 aQ rfl) aQ ?_;intro KK z;go_simp;refine(g3.out _ (hA.keep y1)).mono ?_;rintro e x2 ⟨rfl,y2⟩;have y2:=y1.after y2 y1.size;refine⟨_,rfl,?_⟩;go_simp;refine z _ _ ⟨⟨x2,y2⟩,rfl⟩ ?_;clear z KK
   repeat(refine gG (by rfl) ?_;(first|go_big_quiet_skip|(go_big_quiet_want;go_big_quiet_op;go_big_quiet_on));refine wpQuiet_nil ?_)
   refine gY 54 _ _ rfl (enters_of func54 aQ rfl) aQ ?_;intro KK z;go_simp;refine(g8.out _).mono ?_;rintro e x3 ⟨rfl,y3⟩;have y3:=y2.after y3 y2.size;refine⟨_,rfl,?_⟩;go_simp;refine z _ _ ⟨⟨x3,y3⟩,rfl⟩ ?_;clear z KK
   repeat(refine gG (by rfl) ?_;(first|go_big_quiet_skip|(go_big_quiet_want;go_big_quiet_op;go_big_quiet_on));refine wpQuiet_nil ?_)
   refine gY 116 _ _ rfl (enters_of func116 aQ rfl) aQ ?_;intro KK z;go_simp;refine(g4.out _ (hA.keep y3)).mono ?_;rintro e x4 ⟨p1,i1,r1,rfl,o1,y4⟩;have y4:=y3.after y4 y3.size;refine⟨_,rfl,?_⟩;go_simp;refine z _ _ ⟨⟨x4,y4⟩,rfl⟩ ?_;clear z KK
   repeat(refine gG (by rfl) ?_;(first|go_big_quiet_skip|(go_big_quiet_want;go_big_quiet_op;go_big_quiet_on));refine wpQuiet_nil ?_)
   refine gY 55 _ _ rfl (enters_of func55 aQ rfl) aQ ?_;intro KK z;go_simp;refine(g9.out _ _ o1).mono ?_;rintro e x5 ⟨rfl,y5⟩;have y5:=y4.after y5 y4.size;refine⟨_,rfl,?_⟩;go_simp;refine z _ _ ⟨⟨x5,y5⟩,rfl⟩ ?_;clear z KK
   repeat(refine gG (by rfl) ?_;(first|go_big_quiet_skip|(go_big_quiet_want;go_big_quiet_op;go_big_quiet_on));refine wpQuiet_nil ?_)
   refine gY 117 _ _ rfl (enters_of func117 aQ rfl) aQ ?_;intro KK z;go_simp;refine(g5.out _ (hA.keep y5)).mono ?_;rintro e x6 ⟨rfl,y6⟩;have y6:=y5.after y6 y5.size;refine⟨_,rfl,?_⟩;go_simp;refine z _ _ ⟨⟨x6,y6⟩,rfl⟩ ?_;clear z KK
   repeat(refine gG (by rfl) ?_;(first|go_big_quiet_skip|(go_big_quiet_want;go_big_quiet_op;go_big_quiet_on));refine wpQuiet_nil ?_)
   refine gY 54 _ _ rfl (enters_of func54 aQ rfl) aQ ?_;intro KK z;go_simp;refine(h6.out _).mono ?_;rintro e x7 ⟨rfl,y7⟩;have y7:=y6.after y7 y6.size;refine⟨_,rfl,?_⟩;go_simp;refine z _ _ ⟨⟨x7,y7⟩,rfl⟩ ?_;clear z KK
   repeat(refine gG (by rfl) ?_;(first|go_big_quiet_skip|(go_big_quiet_want;go_big_quiet_op;go_big_quiet_on));refine wpQuiet_nil ?_)
   refine O0 ?_;go_wp2_with fail;go_meet;exact⟨_,rfl,rfl,y7⟩
end
end Go.Proofs.YtcpoomdoodlkjaaGreatDoor
