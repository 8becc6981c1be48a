/- Lemmas for CardClaims, part 7 of 52. No condition. -/
import Derived.Test.YtipejodijbjpcaaGreatDoorQ03
import Derived.Test.YtipejodijbjpcaaGreatDoorQ06
import Derived.Deep.RegionHeld3
import Derived.Deep.CutRange
set_option maxRecDepth 100000
set_option maxHeartbeats 64000000
namespace Go.Proofs.YtipejodijbjpcaaGreatDoor
section
open Go.RowKit Go.G5
theorem iO(g:Int)(l:List Int)(v:Value)(w:World)(Y:aD w v l):
  Calls Tryz.prog 202 #[.int .i64 g,v] w fun e w'=>e=.returned (.bool (dO g l))/\Below w.heap.size w w':=by
 obtain⟨a,b,Z,c,rfl,R,U,M,hb⟩:=Y.view Tryz.prog 22 3 Tryz.underlying22 aG
 cases D:cM g 0 6 with
 |false=>
  have A:dO g l=false:=by unfold dO dK;rw[D];simp
  have F:=Lib.hid A;clear A M;go_enter Tryz.func202,Tryz.ntmps202;go_wp2_with (go_at_call 188;refine(aR _ _ _ _).mono ?_;rintro e w' ⟨rfl,rfl⟩);go_ret;exact⟨by rw[F.out];rfl,Below.refl _ _⟩
 |true=>
  have N:=bL.1 D;obtain⟨G,rfl⟩:=Int.eq_ofNat_of_zero_le N.1;have hG:G<=6:=by omega
  by_cases K:l.length<=6
  ·have A:dO G l=l.all (bO G):=by unfold dO dK;rw[D,decide_eq_true K];simp
   have O:¬(6:Int)<l.length:=by omega
   have F:=Lib.hid A;clear A N;go_enter Tryz.func202,Tryz.ntmps202;go_wp2_with (go_at_call 188;refine(aR _ _ _ _).mono ?_;rintro e w' ⟨rfl,rfl⟩);go_loopw [5] (fun i wr=>∃k m:Nat,k<=l.length/\i=.int .i64 k/\wr=w.drewN m/\(l.take k).all (bO G)=true) (fun i _=>l.length-(intOf i).toNat)
   case atStart=>exact⟨0,0,by omega,rfl,rfl,by simp⟩
   case round=>
    obtain⟨k,m,hk,rfl,rfl,z⟩:=hrel;have Q:=Lib.hid z;clear z
    by_cases hlt:k<l.length
    ·have S:=M k hlt
     cases L:bO G l[k]with
     |false=>
      have o:cM l[k] 0 (2^G-1)=false:=by rw[pQ];exact L
      have I:=Lib.hid o;clear o;go_wp2_with fail;go_quiet ((first|(go_at_call 187;first|exact kB (cT G _ (by omega))|exact lR (cT G _ (by omega)))|(go_at_call 188;first|exact iN (aR _ _ _ _) I.out|exact kE (aR _ _ _ _) I.out)));go_wp2;go_ret;refine⟨aE ?_,((Below.refl _ _).drewN' _).drewN' _⟩;rw[F.out,gB _ _ _ hlt L]
     |true=>
      have o:cM l[k] 0 (2^G-1)=true:=by rw[pQ];exact L
      have I:=Lib.hid o;clear o;go_wp2_with fail;go_quiet ((first|(go_at_call 187;first|exact kB (cT G _ (by omega))|exact lR (cT G _ (by omega)))|(go_at_call 188;first|exact iN (aR _ _ _ _) I.out|exact kE (aR _ _ _ _) I.out)));go_wp2;go_roundw
      case rel=>exact⟨k+1,m+nq,by omega,by go_num,by simp,by rw[dD _ _ _ hlt,Q.out,L];rfl⟩
      case measure=>simp[intOf];omega
    ·go_wp2
     go_ret;refine⟨aE ?_,(Below.refl _ _).drewN' _⟩;rw[F.out,<-eH (bO G) l k (by omega),Q.out]
  ·have A:dO G l=false:=by unfold dO;rw[decide_eq_false K];rfl
   have O:(6:Int)<l.length:=by omega
   have F:=Lib.hid A;clear A M N;go_enter Tryz.func202,Tryz.ntmps202;go_wp2_with (go_at_call 188;refine(aR _ _ _ _).mono ?_;rintro e w' ⟨rfl,rfl⟩);go_ret;exact⟨by rw[F.out];rfl,Below.refl _ _⟩
theorem RF:∀x:Nat,x<64->∀u:Nat,u<64->∀e:Nat,e<6->aW (dE x u) e=(aW x e&&!aW u e):=by decide +kernel
theorem KJ(P Q:Nat->Bool)(n:Nat)(h:∀e,e<n->P e=Q e):fB P n=fB Q n:=by
 induction n with
 |zero=>rfl
 |succ n ih=>rw[gQ,gQ,ih (fun e o=>h e (by omega)),h n (by omega)]
theorem ES(P:Nat->Bool)(k n:Nat)(h:k<=n):fB P n=fB P k++(fB P n).drop (fB P k).length:=by
 induction n with
 |zero=>
  have:k=0:=by omega
  subst this;rfl
 |succ n ih=>
  by_cases o:k=n+1
  ·subst o;simp
  ·have:=ih (by omega)
   rw[gQ]
   split
   ·rw[List.drop_append_of_le_length (by have:=congrArg List.length this;rw[List.length_append]at this;omega),<-List.append_assoc,<-this]
   ·exact this
theorem yI(x u G:Nat)(z:G<=6)(A:x<2^G)(D:u<64):fA (mV (x:Int) (u:Int))=fB (fun e=>aW x e&&!aW u e) G:=by
 have o:x<64:=Nat.lt_of_lt_of_le A (Nat.pow_le_pow_right (n:=2) (by decide) z);have hd:dE x u<2^G:=uB x u _ A;have e1:fA (mV (x:Int) (u:Int))=dT (dE x u) 6:=by
  unfold fA mV;rfl
 rw[e1,nS (dE x u) 6 G (Nat.lt_of_lt_of_le hd (Nat.pow_le_pow_right (by decide) z)) hd];unfold dT;exact KJ _ _ G (fun e F=>RF x o u D e (by omega))
theorem lK(c s:Nat):(bR (c:Int) s==0)=!aW c s:=by
 have h:=gP c s;have h2:bR (c:Int) s=0∨bR (c:Int) s=1:=by
  unfold bR;omega
 rcases h2 with h2|h2
 ·rw[h2]at h ⊢;rw[<-h];rfl
 ·rw[h2]at h ⊢;rw[<-h];rfl
theorem NP(l:List Int)(lv:Value)(G:Nat)(hG:G<=6)(hm:∀x∈l,0<=x/\x<2^G)(k8:l.length<=6):∀(n:Nat) (used:Nat) (list:List Int) (v:Value) (w:World) (B:Nat),list.length+n=l.length->aD w lv l->aC 3 B w v list->B<=w.heap.size->used<64 ->
  Calls Tryz.prog 203 #[.int .i64 G,lv,v,.int .i64 used] w fun e w'=>∃ad i cp,e=.returned (.tuple #[.slice ad i cp,.bool (gW l n used list).isSome])/\aC 3 B w' (.slice ad i cp) ((gW l n used list).getD [])/\Below w.heap.size w w':=by
 have HM:=Lib.hid hm;clear hm;intro n
 induction n with
 |zero=>
  intro used list v w B hn U own hB hu;obtain⟨a,c,rfl⟩:=U.shape;obtain⟨av,cv,rfl⟩:=own.shape;have ht:((list.length:Int)==(l.length:Int))=true:=by simp;omega
  have HN:=Lib.hid hn;clear hn;go_enter Tryz.func203,Tryz.ntmps203;go_wp2_with fail;go_ret2;exact⟨av,list.length,cv,rfl,own,Below.refl _ _⟩
 |succ n ih=>
  intro used list v w B hn U own hB hu;have e7:=U;obtain⟨a,b,h5,c,rfl,i6,e6,hc,hb⟩:=U.view Tryz.prog 22 3 Tryz.underlying22 aG;obtain⟨av,cv,rfl⟩:=own.shape;have hlt:list.length<l.length:=by omega
  have ht:((list.length:Int)==(l.length:Int))=false:=by simp;omega
  have b9:=HM.out _ (List.getElem_mem hlt);have D:=hc list.length hlt;have k6:b<w.heap.size:=World.block_lt_of_cell? _ _ D;have i1:=fun W=>e6 W list.length hlt;have o:=pW l n used list;rw[aJ l list.length hlt]at o;obtain⟨x,hx⟩:∃x:Nat,l[list.length]=(x:Int):=⟨l[list.length].toNat,by omega⟩;rw[hx]at b9 D o;have b8:x<2^G:=by have:=b9.2;exact_mod_cast this
  have j1:x<64:=Nat.lt_of_lt_of_le b8 (Nat.pow_le_pow_right (n:=2) (by decide) hG);rw[yI x used G hG b8 hu]at o;obtain⟨P,hP⟩:∃P:Nat->Bool,P=fun e=>aW x e&&!aW used e:=⟨_,rfl⟩;obtain⟨F,hF⟩:∃F:Int->Option (List Int),F=pI l n used list:=⟨_,rfl⟩;rw[<-hF,<-hP]at o;have HN:=Lib.hid hn;have HF:=Lib.hid hF;have HP:=Lib.hid hP;have IH:=Lib.hid ih;have a7:=Lib.hid o;clear hn hx hF hP ih hc e6 b9 o b8;go_enter Tryz.func203,Tryz.ntmps203;go_wp2_with fail;go_loopw [10] (fun i wr=>∃k:Nat,k<=G/\i=.int .i64 k/\(fB P k).findSome? F=none/\Below w.heap.size w wr) (fun i _=>G-(intOf i).toNat)
  case atStart=>exact⟨0,Nat.zero_le _,rfl,rfl,Below.refl _ _⟩
  case round=>
   obtain⟨k,hk,rfl,N,A⟩:=hrel;have H:=Lib.hid N;clear N;have yw:=A.size;have k7:wr.cell? ⟨b,h5+list.length,none⟩=some (.int .i64 (x:Int)):=keep A D
   by_cases g5:k<G
   ·have ol:=own.keep A
    have e5:=gQ P k;have I:P k=(aW x k&&!aW used k):=by rw[HP.out]
    have g4:=dY (x:Int) k (by omega) (by omega);have g3:=dY (used:Int) k (by omega) (by omega);have L:=gP x k;have K:=lK used k;obtain⟨y,hy⟩:∃y,y=bR (x:Int) k:=⟨_,rfl⟩;obtain⟨z,hz⟩:∃y,y=bR (used:Int) k:=⟨_,rfl⟩;rw[<-hy]at g4 L;rw[<-hz]at g3 K;have S:=Lib.hid e5;clear hy hz e5
    cases h1:aW x k with
    |false=>
     have g7:(y==1)=false:=by rw[L,h1]
     have O:P k=false:=by rw[I,h1];rfl
     have b4:=Lib.hid O;clear h1 L I O K;go_wp2;go_roundw
     case rel=>exact⟨k+1,by omega,by go_num,by rw[S.out,b4.out];exact H.out,A⟩
     case measure=>simp[intOf];omega
    |true=>
     have g7:(y==1)=true:=by rw[L,h1]
     cases h2:aW used k with
     |true=>
      have g9:(z==0)=false:=by rw[K,h2];rfl
      have O:P k=false:=by rw[I,h1,h2];rfl
      have b4:=Lib.hid O;clear h1 h2 L I O K;go_wp2;go_roundw
      case rel=>exact⟨k+1,by omega,by go_num,by rw[S.out,b4.out];exact H.out,A⟩
      case measure=>simp[intOf];omega
     |false=>
      have g9:(z==0)=true:=by rw[K,h2];rfl
      have f0:P k=true:=by rw[I,h1,h2];rfl
      have c6:=Lib.hid f0;have hp:=mW (k:Int) (by omega);have b7:(2:Int)^(k:Int).toNat=2^k:=by simp
      rw[b7]at hp;have g6:bits .or .i64 (used:Int) (2^k)=jC used (2^k):=tB (by omega) (by omega) (by omega) (by omega);have e9:=sU used (2^k) 6 (by omega) (by omega) (by omega) (by omega);have b6:F (k:Int)=gW l n (jC used (2^k)) (list++[(k:Int)]):=by rw[HF.out];unfold pI;rw[b7]
      obtain⟨u2,f2⟩:∃u:Nat,jC used (2^k)=(u:Int):=⟨(jC used (2^k)).toNat,by omega⟩;rw[f2]at g6 e9 b6;have Q:∀(v2:Value) (w2:World),aC 3 wr.heap.size w2 v2 (([]++list)++[(k:Int)])->Below wr.heap.size wr w2 ->
        Calls Tryz.prog 203 #[.int .i64 G,.slice a l.length c,v2,.int .i64 (u2:Int)] w2 fun e w'=>∃ad i cp,e=.returned (.tuple #[.slice ad i cp,.bool (F (k:Int)).isSome])/\aC 3 wr.heap.size w' (.slice ad i cp) ((F (k:Int)).getD [])/\Below w2.heap.size w2 w':=fun v2 w2 q1 q2=>by
       rw[b6];rw[List.nil_append]at q1;exact IH.out u2 _ v2 w2 wr.heap.size (by have:=HN.out;rw[List.length_append,List.length_singleton];omega) (e7.below (A.after q2 A.size) (Nat.le_refl _)) q1 q2.size (by omega)
      have M:∀y,F (k:Int)=some y->gW l (n+1) used list=some y:=fun y g8=>by
       rw[a7.out];have e1:fB P G=fB P (k+1)++(fB P G).drop (fB P (k+1)).length:=ES P (k+1) G g5;rw[e1,List.findSome?_append,S.out,c6.out,if_pos rfl,List.findSome?_append,H.out];simp[g8]
      obtain⟨R,hR⟩:∃R,R=F (k:Int):=⟨_,rfl⟩;simp only[<-hR]at Q M;have a6:=Lib.hid Q;have c5:=Lib.hid M;have HR:=Lib.hid hR;have d0:([]:List Int).length+list.length<=17592186044416:=by simp;omega
      have e0:([]++list).length + [(k:Int)].length<=17592186044416:=by simp;omega
      have e4:bA (k:Int):=⟨by omega,by omega⟩;have Y:=Lib.hid d0;have Z:=Lib.hid e0;have c7:=Lib.hid e4;have k9:=hp.1;have l0:=hp.2;have l5:IntKind.i64.wrap ((2:Int)^k)=2^k:=by rw[IntKind.wrap_i64];omega
      clear Q M hR b6 f2 e9 b7 hp h1 h2 L I f0 K d0 e0 e4
      cases R with
      |none=>
       go_wp2_with fail;go_region_held3 (fun _=>True) (trivial)
        (first
         |(refine cV rfl _ _ _ rfl 3 Tryz.underlying22 aG wr.heap.size (.slice (some ⟨_,0,none⟩) 0 0) [] rfl (.slice av list.length cv) list rfl ?_ ?_ Y.out wr ?_ (Nat.le_refl _) ?_;(first|(with_reducible exact(aC.lit0 wr (Nat.le_refl _)).drew')|(with_reducible exact((aC.lit0 wr (Nat.le_refl _)).alloc _).drew')|(with_reducible exact(aC.lit0' wr _).drew'));(first|(with_reducible exact(ol.ints.alloc _).drew')|(with_reducible exact((ol.ints.alloc _).alloc _).drew'));(first|(with_reducible exact(aM wr _).drew)|(with_reducible exact(cD wr _ _).drew));(intro v1 w1 o1 b1 pc))
         |(refine cV rfl _ _ _ rfl 3 Tryz.underlying22 aG wr.heap.size v1 ([]++list) rfl (.slice (some ⟨_,0,none⟩) 1 1) [(k:Int)] rfl ?_ ?_ Z.out wr ?_ (Nat.le_refl _) ?_;(first|(with_reducible exact o1)|(with_reducible exact o1.alloc _));(refine aD.one ?_ c7.out;first|(with_reducible exact aT _ _ _ _ _ rfl)|(with_reducible exact pc _ _ (iM _ _ _ _) (mB _ _ _))|(with_reducible exact pc _ _ (jT _ _ _ _) (lX _ _ _)));(first|(with_reducible exact b1)|(with_reducible exact b1.alloc b1.size _));(intro v2 w2 o2 b2 _))
         |(go_at_call 203;with_reducible refine(a6.out v2 w2 o2 b2).mono ?_;rintro e3 w3 ⟨p3,i3,q3,rfl,o3,b3⟩)
        )
       all_goals
        go_wp2;go_roundw
        case rel=>exact⟨k+1,by omega,by go_num,by rw[S.out,c6.out,if_pos rfl,List.findSome?_append,H.out];simp[<-HR.out],(A.after b2 A.size).after b3 (A.after b2 A.size).size⟩
        case measure=>simp[intOf];omega
      |some y=>
       have b0:=c5.out y rfl;have a8:=Lib.hid b0;clear b0;go_wp2_with fail;go_region_held3 (fun _=>True) (trivial)
        (first
         |(refine cV rfl _ _ _ rfl 3 Tryz.underlying22 aG wr.heap.size (.slice (some ⟨_,0,none⟩) 0 0) [] rfl (.slice av list.length cv) list rfl ?_ ?_ Y.out wr ?_ (Nat.le_refl _) ?_;(first|(with_reducible exact(aC.lit0 wr (Nat.le_refl _)).drew')|(with_reducible exact((aC.lit0 wr (Nat.le_refl _)).alloc _).drew')|(with_reducible exact(aC.lit0' wr _).drew'));(first|(with_reducible exact(ol.ints.alloc _).drew')|(with_reducible exact((ol.ints.alloc _).alloc _).drew'));(first|(with_reducible exact(aM wr _).drew)|(with_reducible exact(cD wr _ _).drew));(intro v1 w1 o1 b1 pc))
         |(refine cV rfl _ _ _ rfl 3 Tryz.underlying22 aG wr.heap.size v1 ([]++list) rfl (.slice (some ⟨_,0,none⟩) 1 1) [(k:Int)] rfl ?_ ?_ Z.out wr ?_ (Nat.le_refl _) ?_;(first|(with_reducible exact o1)|(with_reducible exact o1.alloc _));(refine aD.one ?_ c7.out;first|(with_reducible exact aT _ _ _ _ _ rfl)|(with_reducible exact pc _ _ (iM _ _ _ _) (mB _ _ _))|(with_reducible exact pc _ _ (jT _ _ _ _) (lX _ _ _)));(first|(with_reducible exact b1)|(with_reducible exact b1.alloc b1.size _));(intro v2 w2 o2 b2 _))
         |(go_at_call 203;with_reducible refine(a6.out v2 w2 o2 b2).mono ?_;rintro e3 w3 ⟨p3,i3,q3,rfl,o3,b3⟩)
        )
       all_goals
        go_wp2;go_ret2;exact⟨p3,i3,q3,by rw[a8.out];rfl,by rw[a8.out];exact o3.mono (by omega),(A.after b2 A.size).after b3 (A.after b2 A.size).size⟩
   ·have a9:gW l (n+1) used list=none:=by rw[a7.out,show G=k by omega];exact H.out
    have a1:=Lib.hid a9;clear a9;go_wp2;go_ret2;exact⟨_,0,0,by rw[a1.out];rfl,by rw[a1.out];exact(aC.lit0 wr (Nat.le_refl _)).mono (by omega),A.alloc A.size _⟩
theorem PH(w:World)(g:Int)(_:bA g)(v:Value)(l:List Int)(Y:aD w v l)(_:l.length<=1048576):
  Calls Tryz.prog 63 #[.int .i64 g,v] w fun e w'=>∃I i K,e=.returned (.tuple #[.slice I i K,.bool (eR g l)])/\aL 3 w.heap.size w' (.slice I i K) (kC g l)/\Below w.heap.size w w':=by
 have D:=Y;obtain⟨a,c,rfl⟩:=Y.shape
 cases A:dO g l with
 |false=>
  have hr:lC g l=none:=by unfold lC;rw[A];rfl
  have F:eR g l=false:=by unfold eR;rw[hr];rfl
  have M:kC g l=[]:=uW F;have H:=Lib.hid (And.intro F M);have Q:=Lib.hid A;clear hr F M A;go_enter Tryz.func63,Tryz.ntmps63;go_wp2_with (go_at_call 202;refine(iO g l _ _ D).mono ?_;rintro e S ⟨rfl,o⟩;rw[Q.out]);go_ret2;exact⟨_,0,0,by rw[H.out.1];rfl,by rw[H.out.2];exact((aC.lit0 S (Nat.le_refl _)).mono o.size).toW,o.alloc o.size _⟩
 |true=>
  have hr:lC g l=gW l l.length 0 []:=by unfold lC;rw[A];rfl
  obtain⟨N,h0,h6,U,_⟩:=vS A;obtain⟨G,rfl⟩:=Int.eq_ofNat_of_zero_le h0;have hG:G<=6:=by omega
  have O:∀x∈l,0<=x/\x<2^G:=fun x hx=>by
   have:=U x hx;have e2:(G:Int).toNat=G:=by omega
   rw[e2]at this;exact this
  have Q:=Lib.hid A;have F:eR G l=(gW l l.length 0 []).isSome:=by unfold eR;rw[hr]
  have M:kC G l=(gW l l.length 0 []).getD []:=by unfold kC;rw[hr]
  have z:∀W u,Below w.heap.size w W->aC 3 w.heap.size W u []->Calls Tryz.prog 203 #[.int .i64 G,.slice a l.length c,u,.int .i64 0] W fun e w'=>
    ∃I i K,e=.returned (.tuple #[.slice I i K,.bool (eR G l)])/\aC 3 w.heap.size w' (.slice I i K) (kC G l)/\Below W.heap.size W w':=fun W u L hu=>by
   rw[F,M];exact NP l _ G hG O N l.length 0 [] u W w.heap.size (by simp) (D.below L (Nat.le_refl _)) hu L.size (by omega)
  have R:=Lib.hid z;clear hr A U N O F M z;go_enter Tryz.func63,Tryz.ntmps63;go_wp2_with (first
   |(go_at_call 202;refine(iO G l _ _ D).mono ?_;rintro e S ⟨rfl,o⟩;rw[Q.out])
   |(go_at_call 203;refine(R.out _ _ (o.alloc o.size _) (aC.lit0 S o.size)).mono ?_;rintro e w3 ⟨p3,i3,q3,rfl,o3,Z⟩))
  go_ret2;exact⟨p3,i3,q3,rfl,o3.toW,(o.alloc o.size _).after Z (o.alloc o.size _).size⟩
theorem vR(l:List Int)(v:Value)(w:World)(hv:aD w v l)(U:∀x∈l,0<=x/\x<64)(a9:l.length<=6)(code:Nat)(K:code<64):
  Calls Tryz.prog 197 #[v,.int .i64 code] w fun e w'=>e=.returned (.int .i64 (bD l code l.length))/\w=w':=by
 obtain⟨a,b,b1,c,rfl,S,a7,hc,hb⟩:=hv.view Tryz.prog 22 3 Tryz.underlying22 aG;have Q:=Lib.hid U;clear U;go_enter Tryz.func197,Tryz.ntmps197;go_wp2;go_loop [5,6] (fun u i=>∃k:Nat,k<=l.length/\i=.int .i64 k/\u=.int .i64 (bD l code k)) (fun _ i=>l.length-(intOf i).toNat)
 case atStart=>exact⟨0,Nat.zero_le _,rfl,rfl⟩
 case round=>
  obtain⟨k,hk,rfl,rfl⟩:=hrel
  by_cases hlt:k<l.length
  ·have a6:=hc k hlt
   have F:=Q.out _ (List.getElem_mem hlt);have I:=kS l code Q.out k hk;have N:bD l code (k+1)=if aW code k then jC (bD l code k) l[k] else bD l code k:=by rw[bD,aJ l k hlt]
   have D:=dY (code:Int) k (by omega) (by omega);have z:=gP code k;obtain⟨y,Z⟩:∃y,y=bR (code:Int) k:=⟨_,rfl⟩;rw[<-Z]at D z;have M:=tB I.1 (show bD l code k<4611686018427387904 by omega) F.1 (show l[k]<4611686018427387904 by omega);obtain⟨u,Y⟩:∃u,u=bD l code k:=⟨_,rfl⟩;rw[<-Y]at M N ⊢;have R:=Lib.hid N;clear N Z Y I F
   cases o:aW code k with
   |false=>
    have O:(y==1)=false:=by rw[z,o]
    have A:=Lib.hid o;clear o z;go_wp2;go_round
    case rel=>exact⟨k+1,by omega,by go_num,by rw[R.out,A.out];rfl⟩
    case measure=>simp[intOf];omega
   |true=>
    have O:(y==1)=true:=by rw[z,o]
    have A:=Lib.hid o;clear o z;go_wp2;go_round
    case rel=>exact⟨k+1,by omega,by go_num,by rw[R.out,A.out,if_pos rfl]⟩
    case measure=>simp[intOf];omega
  ·have L:k=l.length:=by omega
   subst L;go_wp2;go_ret;exact⟨rfl,rfl⟩
theorem WQ(w:World)(g:Int)(_:bA g)(v:Value)(l:List Int)(hv:aD w v l)(_:l.length<=1048576):
  Calls Tryz.prog 182 #[.int .i64 g,v] w fun e w'=>∃ad i cp,e=.returned (.tuple #[.slice ad i cp,.bool (iB g l)])/\aL 3 w.heap.size w' (.slice ad i cp) (eQ g l)/\Below w.heap.size w w':=by
 have I:=hv;obtain⟨a,c,rfl⟩:=hv.shape
 cases Y:dO g l with
 |false=>
  have hr:kG g l=none:=by unfold kG;rw[Y];rfl
  have R:iB g l=false:=by unfold iB;rw[hr];rfl
  have S:eQ g l=[]:=by unfold eQ;rw[hr]
  have H:=Lib.hid (And.intro R S);have HF:=Lib.hid Y;clear hr R S Y;go_enter Tryz.func182,Tryz.ntmps182;go_wp2_with fail;go_loopw [6] (fun i wr=>i=.int .i64 1/\Below w.heap.size w wr) (fun _ _=>0)
  case atStart=>exact⟨rfl,Below.refl _ _⟩
  case round=>
   obtain⟨rfl,B⟩:=hrel;go_wp2_with (go_at_call 202;refine(iO g l _ _ (I.below B (Nat.le_refl _))).mono ?_;rintro e w1 ⟨rfl,z⟩;rw[HF.out]);have K:=B.after z B.size;go_ret2;exact⟨_,0,0,by rw[H.out.1];rfl,by rw[H.out.2];exact((aC.lit0 w1 (Nat.le_refl _)).mono K.size).toW,K.alloc K.size _⟩
 |true=>
  obtain⟨Z,_,_,_,hm⟩:=vS Y;obtain⟨N,hN⟩:∃N:Nat,2^l.length=N+1:=⟨2^l.length-1,by have:=Nat.two_pow_pos l.length;omega⟩;have hr:kG g l=dC (mD l) N 1:=by unfold kG;rw[Y,if_pos rfl,hN];exact PE _ _ (Q6 l hm)
  have HF:=Lib.hid Y;have HM:=Lib.hid hm;have b6:(2:Nat)^l.length<=64:=Nat.pow_le_pow_right (n:=2) (by decide) Z;have M:((2^l.length:Nat):Int)=(2:Int)^l.length:=by simp
  have f2:(2:Int)^l.length<=64:=by rw[<-M];exact_mod_cast b6
  have f3:=(bJ l.length 6 Z).2;rw[hN]at M b6;obtain⟨P,hP⟩:∃P,P=mD l:=⟨_,rfl⟩;rw[<-hP]at hr;have HR:=Lib.hid hr;have a9:=Lib.hid M;have HP:=Lib.hid hP;clear hr Y hm hN M hP;go_enter Tryz.func182,Tryz.ntmps182;go_wp2_with fail;go_loopw [6] (fun i wr=>∃k:Nat,k<=N/\i=.int .i64 ((k:Int)+1)/\dC P (N-k) (k+1)=dC P N 1/\Below w.heap.size w wr) (fun i _=>N+1-(intOf i).toNat)
  case atStart=>exact⟨0,Nat.zero_le _,rfl,rfl,Below.refl _ _⟩
  case round=>
   obtain⟨k,hk,rfl,D,B⟩:=hrel;have H:=Lib.hid D;clear D
   by_cases hlt:k<N
   ·have b5:(k:Int)+1<2^l.length:=by rw[<-a9.out];omega
    have L:dC P (N-k) (k+1)=if P (k+1) then some (k+1) else dC P (N-(k+1)) (k+1+1):=by
     rw[show N-k=(N-(k+1))+1 by omega];rfl
    have o:P (k+1)=decide (cK (bD l (k+1) l.length)<(aY (k+1):Int)):=by rw[HP.out];rfl
    have Q:=fun W (hW:aD W (.slice a l.length c) l)=>vR l _ W hW HM.out Z (k+1) (by omega);have a6:=kS l (k+1) HM.out l.length (Nat.le_refl _);have A:((k+1:Nat):Int)=(k:Int)+1:=by omega
    simp only[A]at Q;obtain⟨u,hu⟩:∃u,u=bD l (k+1) l.length:=⟨_,rfl⟩;rw[<-hu]at o a6;simp only[<-hu]at Q;have a1:=fun W=>pA u W a6.1 (by omega);have O:=fun W=>jO (k+1) W (by omega);simp only[A]at O;obtain⟨q,hq⟩:∃q,q=cK u:=⟨_,rfl⟩;obtain⟨r,hr⟩:∃r,r=(aY (k+1):Int):=⟨_,rfl⟩;rw[<-hq]at o;simp only[<-hq]at a1;rw[<-hr]at o;simp only[<-hr]at O;have b4:=Lib.hid Q;have b3:=Lib.hid a1;have b0:=Lib.hid O;have b1:=Lib.hid L;have e6:k+1<64:=by omega
    clear Q a1 O L a6 hu hq hr A
    cases F:P (k+1) with
    |false=>
     have f0:¬q<r:=by rw[F]at o;exact of_decide_eq_false o.symm
     have b8:=Lib.hid F;clear F o;go_wp2_with (first
      |(go_at_call 202;refine(iO g l _ _ (I.below B (Nat.le_refl _))).mono ?_;rintro e w1 ⟨rfl,z⟩;rw[HF.out])
      |(go_at_call 197;refine(b4.out _ (I.below (B.after z B.size) (Nat.le_refl _))).mono ?_;rintro e w2 ⟨rfl,rfl⟩)
      |(go_at_call 173;with_reducible refine(b3.out _).mono ?_;rintro e w3 ⟨rfl,rfl⟩)
      |(go_at_call 173;with_reducible refine(b0.out _).mono ?_;rintro e w4 ⟨rfl,rfl⟩))
     go_roundw
     case rel=>exact⟨k+1,by omega,by go_num,by rw[<-H.out,b1.out,b8.out];rfl,B.after z B.size⟩
     case measure=>simp[intOf];omega
    |true=>
     have f4:q<r:=by rw[F]at o;exact of_decide_eq_true o.symm
     have U:kG g l=some (k+1):=by rw[HR.out,<-H.out,b1.out,F];rfl
     have R:iB g l=true:=by unfold iB;rw[U];rfl
     have S:eQ g l=fA ((k:Int)+1):=by unfold eQ;rw[U];show fA (((k+1:Nat):Int))=_;congr 1
     have HB:=Lib.hid (And.intro R S);clear F o U R S;go_wp2_with (first
      |(go_at_call 202;refine(iO g l _ _ (I.below B (Nat.le_refl _))).mono ?_;rintro e w1 ⟨rfl,z⟩;rw[HF.out])
      |(go_at_call 197;refine(b4.out _ (I.below (B.after z B.size) (Nat.le_refl _))).mono ?_;rintro e w2 ⟨rfl,rfl⟩)
      |(go_at_call 173;with_reducible refine(b3.out _).mono ?_;rintro e w3 ⟨rfl,rfl⟩)
      |(go_at_call 173;with_reducible refine(b0.out _).mono ?_;rintro e w4 ⟨rfl,rfl⟩)
      |(go_at_call 174;refine(tU ((k:Int)+1) _ (by omega) (by omega)).mono ?_;rintro e w5 ⟨p5,i5,q5,rfl,o5,c6⟩))
     have K:=B.after z B.size;go_ret2;exact⟨p5,i5,q5,by rw[HB.out.1];rfl,by rw[HB.out.2];exact o5.toW.mono K.size,K.after c6 K.size⟩
   ·have b5:¬(k:Int)+1<2^l.length:=by rw[<-a9.out];omega
    have U:kG g l=none:=by rw[HR.out,<-H.out,show N-k=0 by omega];rfl
    have R:iB g l=false:=by unfold iB;rw[U];rfl
    have S:eQ g l=[]:=by unfold eQ;rw[U]
    have HB:=Lib.hid (And.intro R S);clear U R S;go_wp2_with (go_at_call 202;refine(iO g l _ _ (I.below B (Nat.le_refl _))).mono ?_;rintro e w1 ⟨rfl,z⟩;rw[HF.out]);have K:=B.after z B.size;go_ret2;exact⟨_,0,0,by rw[HB.out.1];rfl,by rw[HB.out.2];exact((aC.lit0 w1 (Nat.le_refl _)).mono K.size).toW,K.alloc K.size _⟩
end
end Go.Proofs.YtipejodijbjpcaaGreatDoor
