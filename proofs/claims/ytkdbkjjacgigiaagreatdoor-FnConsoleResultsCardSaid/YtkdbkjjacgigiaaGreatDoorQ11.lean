/- Lemmas for CardConsoleResults. No condition. -/
import Derived.Test.YtkdbkjjacgigiaaGreatDoorQ10
set_option maxRecDepth 100000
set_option maxHeartbeats 64000000
namespace Go.Proofs.YtkdbkjjacgigiaaGreatDoor
section
open Go.RowKit Go.G5 Go.Proofs.Tryz
def mX(l x:List Int):Nat->Bool
 |0=>true
 |k+1=>mX l x k&&decide (0<=dS l x k)
def lN(n:Int)(l x:List Int):Bool:=eD n l&&fZ n x&&mX l x l.length
theorem KM(l x:List Int)(k:Nat)(h:dS l x k<0):∀m,k<m->mX l x m=false:=by
 intro m
 induction m with
 |zero=>intro h;omega
 |succ m ih=>
  intro hm;rw[mX];by_cases z:k<m
  ·rw[ih z];rfl
  ·have:m=k:=aD;subst this;rw[decide_eq_false aD];simp
theorem ab8(l x:List Int):∀m,mX l x m=true->∀k:Nat,k<m->0<=dS l x k:=by
 intro m
 induction m with
 |zero=>intro _ k hk;omega
 |succ m ih=>
  intro h k hk;rw[mX]at h;obtain⟨h1,h2⟩:=Bool.and_eq_true_iff.1 h;by_cases z:k<m
  ·exact ih h1 k z
  ·have:k=m:=aD;subst this;exact of_decide_eq_true h2
theorem II(w:World)(n:Int)(v:Value)(l:List Int)(hv:aK w v l)(u:Value)(x:List Int)(hu:aK w u x):
  Calls prog 342 #[.agg #[n,v],u] w fun e w'=>e=.returned (.bool (lN n l x))/\Below w w w':=by
 obtain⟨av,cv,rfl⟩:=hv.shape;obtain⟨au,cu,rfl⟩:=hu.shape;go_enter func342,ntmps342;go_wp2_with fail;refine(xX n l _ _ (hv.alloc _)).mono ?_;rintro e w1 ⟨rfl,K⟩;have X1:=(Box2.new w n (aA av l.length cv) 27).after K;clear K
 cases hg:eD n l with
 |false=>
  have I:lN n l x=false:=by unfold lN;rw[hg];rfl
  have J:=aH I;obtain⟨D,d1,z,F⟩:=X1;clear I;go_wp2;go_ret;exact⟨by rw[J.out];rfl,z⟩
 |true=>
  obtain⟨h0,h5,hl,S⟩:=kP (IE hg);have hp:=lG h0 h5;have R:l.length<=64:=aD;have a9:=aH S;clear hl S hp;obtain⟨D,d1,z,F⟩:=X1;go_wp2_with fail;refine(N7 n l _ x _ _ (hv.below z aI) (hu.below z aI)).mono ?_;rintro e w2 ⟨rfl,M⟩;have X2:=(Box2.mk D d1 z F).after M;clear M D d1 z F
  cases hlo:fZ n x with
  |false=>
   have I:lN n l x=false:=by unfold lN;rw[hg,hlo];rfl
   have J:=aH I;obtain⟨D,d1,z,F⟩:=X2;clear I;go_wp2;go_ret;exact⟨by rw[J.out];rfl,z⟩
  |true=>
   obtain⟨b4,a1⟩:=OF hlo;have a6:x.length<=6:=aD;have I:lN n l x=mX l x l.length:=by unfold lN;rw[hg,hlo];rfl
   have J:=aH I;have b0:=aH a1;clear I a1 b4;obtain⟨D,d1,z,F⟩:=X2;go_wp2_with fail;go_loopw [18] (fun i wr=>∃k:Nat,k<=l.length/\i=aG k/\mX l x k=true/\Box2 w wr n (aA av l.length cv)) (fun i _=>l.length-(intOf i).toNat)
   case atStart=>exact⟨0,Nat.zero_le _,rfl,rfl,⟨D,d1,z,F⟩⟩
   case round=>
    obtain⟨k,hk,rfl,Z,X⟩:=hrel;have HO:=aH Z;clear Z D d1 z F;obtain⟨D,d1,z,F⟩:=X;by_cases hlt:k<l.length
    ·have Y:(k:Int)<(l.length:Int):=aD;go_wp2_with fail;refine(SY n l _ x _ k _ (hv.below z aI) (hu.below z aI) aD aD R a9.out b0.out a6).mono ?_;rintro e w3 ⟨rfl,N⟩;have X3:=(Box2.mk D d1 z F).after N;clear N D d1 z F;by_cases b1:dS l x k<0
     ·go_wp2;go_ret;refine⟨aW ?_,X3.B⟩;rw[J.out,KM l x k b1 _ hlt]
     ·go_wp2
      go_roundw
      case rel=>exact⟨k+1,by omega,by go_num,by rw[mX,HO.out,decide_eq_true aD];rfl,X3⟩
      case measure=>simp[intOf];omega
    ·have Y:¬(k:Int)<(l.length:Int):=aD;have O:k=l.length:=aD;have HK:=aH O;clear O;go_wp2;go_ret;exact⟨aW (by rw[J.out,<-HK.out,HO.out]),z⟩
theorem IJ(w:World)(n:Int)(v:Value)(l:List Int)(hv:aK w v l)(u:Value)(x:List Int)(hu:aK w u x):
  Calls prog 124 #[.agg #[n,v],u] w fun e w'=>e=.returned (.bool (lN n l x))/\Below w w w':=by
 obtain⟨a,b,e6,c,rfl,b6,e4,hc,hb⟩:=hv.view prog 25 3 underlying25 aN;obtain⟨au,cu,rfl⟩:=hu.shape;go_enter func124,ntmps124;go_wp2_with fail;refine(xY n l _ _ (hv.alloc _)).mono ?_;rintro e w1 ⟨rfl,O⟩;have X1:=(Box2.new w n (aA a l.length c) 27).after O;clear O;have e0:=aR hc hb X1.B aI;have D:=hu.below X1.B aI;clear hc
 cases R:eD n l with
 |false=>
  have F:lN n l x=false:=by unfold lN;rw[R];rfl
  have K:=aH F;obtain⟨d0,d1,N,z1⟩:=X1;clear F;go_wp2;go_ret;exact⟨by rw[K.out];rfl,N⟩
 |true=>
  obtain⟨h0,h5,hl,Y⟩:=kP (IE R);have hp:=lG h0 h5;have b5:l.length<=64:=aD;have c5:=aH Y;clear hl Y;obtain⟨d0,d1,N,z1⟩:=X1;by_cases z:(x.length:Int)=n
  ·have b0:((x.length:Int) != n)=false:=by simp[z]
   have b1:x.length<=5:=aD;have c6:=aH z
   cases J:kA x (-5000) 5000 with
   |false=>
    have F:lN n l x=false:=by unfold lN fZ;rw[R,J];simp
    have K:=aH F;clear F z;go_wp2_with (go_at_call 125;refine(AM x _ _ D).mono ?_;rintro e w' ⟨rfl,rfl⟩;rw[J]);go_ret;exact⟨by rw[K.out];rfl,N⟩
   |true=>
    have hlo:fZ n x=true:=by unfold fZ;rw[J,decide_eq_true z];rfl
    obtain⟨_,a7⟩:=OF hlo;have F:lN n l x=mX l x l.length:=by unfold lN;rw[R,hlo];rfl
    have K:=aH F;have I:=aH a7;have a9:decide (x.length<=5)=true:=decide_eq_true b1;clear F a7 z hlo;go_wp2_with (go_at_call 125;refine(AM x _ _ D).mono ?_;rintro e w' ⟨rfl,rfl⟩;rw[J,a9]);go_loopw [5] (fun i wr=>∃k m:Nat,k<=l.length/\i=aG k/\mX l x k=true/\wr=w1.drewN m) (fun i _=>l.length-(intOf i).toNat)
    case atStart=>exact⟨0,0,Nat.zero_le _,rfl,rfl,rfl⟩
    case round=>
     obtain⟨k,m,hk,rfl,a1,rfl⟩:=hrel;have HO:=aH a1;clear a1;by_cases hlt:k<l.length
     ·have Z:(k:Int)<(l.length:Int):=aD;have a6:dS l x k=l[k]-wt x k:=by unfold dS;simp[hlt]
      have HS:=aH a6;clear a6;by_cases e5:wt x k>l[k]
      ·go_wp2;go_quiet ((go_at_call 168;first|exact gL (uG x _ _ _ (D.drewN _) aD aD (fun j M=>by have:=I.out j M;omega) aD)|exact jF (uG x _ _ _ (D.drewN _) aD aD (fun j M=>by have:=I.out j M;omega) aD)));go_wp2;go_ret;refine⟨aW ?_,(N.drewN' _).drewN' _⟩;rw[K.out,KM l x k (by rw[HS.out];omega) _ hlt]
      ·go_wp2;go_quiet ((go_at_call 168;first|exact gL (uG x _ _ _ (D.drewN _) aD aD (fun j M=>by have:=I.out j M;omega) aD)|exact jF (uG x _ _ _ (D.drewN _) aD aD (fun j M=>by have:=I.out j M;omega) aD)));go_wp2;go_roundw
       case rel=>exact⟨k+1,m+nq,by omega,by go_num,by rw[mX,HO.out,decide_eq_true (by rw[HS.out];omega)];rfl,by simp⟩
       case measure=>simp[intOf];omega
     ·have Z:¬(k:Int)<(l.length:Int):=aD;have S:k=l.length:=aD;have HK:=aH S;clear S;go_wp2;go_ret;exact⟨aW (by rw[K.out,<-HK.out,HO.out]),N.drewN' _⟩
  ·have b0:((x.length:Int) != n)=true:=by simp[z]
   have F:lN n l x=false:=by unfold lN fZ;rw[R,decide_eq_false z];rfl
   have K:=aH F;clear F z;go_wp2;go_ret;exact⟨by rw[K.out];rfl,N⟩
def tX(n:Int)(l:List Int):Bool:=aY n l&&fO n (mW l)
theorem amS(n:Int)(l:List Int)(v:Value)(w:World)(R:aK w v l)(hl:l.length<=1048576):
  Calls prog 185 #[.agg #[n,v]] w fun e w'=>e=.returned (.bool (tX n l))/\Below w w w':=by
 obtain⟨a,c,rfl⟩:=R.shape;go_enter func185,ntmps185;go_wp2_with fail;refine(aqV _ n _ l (R.alloc _) hl).mono ?_;rintro e w1 ⟨p1,Y,Z,rfl,S,F⟩;have z:Below w w w1:=(bF _ _).after F (by simp);clear F
 cases D:aY n l with
 |false=>
  have I:tX n l=false:=by unfold tX;rw[D];rfl
  have J:=aH I;clear I D;go_wp2;go_ret;exact⟨by rw[J.out];rfl,z.after (bF _ _) z.size⟩
 |true=>
  have I:tX n l=fO n (mW l):=by unfold tX;rw[D];rfl
  have O:CD n l=n:=by unfold CD;rw[D];rfl
  have N:CC n l=mW l:=by unfold CC;rw[D];rfl
  rw[N]at S;rw[O];have M:(mW l).length<=1048576:=by rw[AS];exact hl
  have J:=aH I;clear I O N D;go_wp2_with fail;refine(pX n (mW l) _ _ (S.ints.alloc _) M).mono ?_;rintro e w2 ⟨rfl,K⟩;go_wp2;go_ret;exact⟨by rw[J.out];rfl,(z.after (bF _ _) z.size).after K (z.after (bF _ _) z.size).size⟩
theorem amT(n:Int)(l:List Int)(v:Value)(w:World)(R:aK w v l)(hl:l.length<=1048576):
  Calls prog 44 #[.agg #[n,v]] w fun e w'=>e=.returned (.bool (tX n l))/\Below w w w':=by
 obtain⟨a,c,rfl⟩:=R.shape;go_enter func44,ntmps44;go_wp2_with fail;refine(aqW _ n _ l (R.alloc _) hl).mono ?_;rintro e w1 ⟨p1,Y,Z,rfl,S,F⟩;have z:Below w w w1:=(bF _ _).after F (by simp);clear F
 cases D:aY n l with
 |false=>
  have I:tX n l=false:=by unfold tX;rw[D];rfl
  have J:=aH I;clear I D;go_wp2;go_ret;exact⟨by rw[J.out];rfl,z.after (bF _ _) z.size⟩
 |true=>
  have I:tX n l=fO n (mW l):=by unfold tX;rw[D];rfl
  have O:CD n l=n:=by unfold CD;rw[D];rfl
  have N:CC n l=mW l:=by unfold CC;rw[D];rfl
  rw[N]at S;rw[O];have M:(mW l).length<=1048576:=by rw[AS];exact hl
  have J:=aH I;clear I O N D;go_wp2_with fail;refine(pY n (mW l) _ _ (S.ints.alloc _) M).mono ?_;rintro e w2 ⟨rfl,K⟩;go_wp2;go_ret;exact⟨by rw[J.out];rfl,(z.after (bF _ _) z.size).after K (z.after (bF _ _) z.size).size⟩
def cH(b x:List Int):List Int:=if b.length<x.length then x else b
def DC(s u:Int):Bool:=s != 0&&bB s u==0
def jT:List Int->Int->List Int->List Int->List Int
 |[],_,_,b=>b
 |s::r,u,c,b=>if DC s u then jT r u c (cH b (jT r (eH u s) (c++[s]) (c++[s]))) else jT r u c b
def kD:List Int->Int->List Int->List Int->List Int
 |[],_,_,b=>b
 |s::r,u,c,b=>if DC s u then kD r u c (kD r (eH u s) (c++[s]) (cH b (c++[s]))) else kD r u c b
theorem IQ(a b c:List Int):cH (cH a b) c=cH a (cH b c):=by
 unfold cH;by_cases h1:a.length<b.length
 ·by_cases h2:b.length<c.length
  ·rw[if_pos h1,if_pos h2,if_pos aD]
  ·rw[if_pos h1,if_neg h2,if_pos h1]
 ·by_cases h2:b.length<c.length
  ·rw[if_neg h1,if_pos h2]
  ·rw[if_neg h1,if_neg h2,if_neg h1,if_neg aD]
theorem E4:∀(r:List Int) (u:Int) (c b x:List Int),kD r u c (cH b x)=cH b (jT r u c x)
 |[],_,_,_,_=>rfl
 |s::r,u,c,b,x=>by
  rw[kD,jT]
  split
  ·rw[E4 r (eH u s) (c++[s]) (cH b x) (c++[s]),IQ,E4 r u c b]
  ·exact E4 r u c b x
theorem vH(N:Nat):∀(r:List Int) (u:Int) (c b:List Int),c.length+r.length<=N->b.length<=N->(jT r u c b).length<=N
 |[],_,_,_,_,h=>h
 |s::r,u,c,b,h1,h2=>by
  rw[List.length_cons]at h1;rw[jT]
  split
  ·refine vH N r u c _ aD ?_;have h3:=vH N r (eH u s) (c++[s]) (c++[s]) aT aT;unfold cH
   split<;>assumption
  ·exact vH N r u c b aD h2
def tJ(l:List Int):List Int:=jT l 0 [] []
theorem ai6(l:List Int):kD l 0 [] []=tJ l:=by
 have h:=E4 l 0 [] [] [];have e:cH [] []=([]:List Int):=rfl;rw[e]at h;rw[h];unfold cH tJ
 split
 ·rfl
 ·rename_i D;have z:(jT l 0 [] []).length=0:=by simpa using D
  exact(List.eq_nil_of_length_eq_zero z).symm
def lL(g:Int)(l:List Int):List Int:=if aU g l then tJ l else []
def rD(a b:Int):Bool:=bB a b != 0&&cG a b != 0&&cG b a != 0
def NE(a b:Int):Bool:=bB a b != 0&&bB a b != a&&bB a b != b
def MG(l:List Int):Bool:=cA (fun i=>cA (fun j=>decide (j<=i)||!rD (l.getD i 0) (l.getD j 0)) l.length) l.length
def uU(g:Int)(l:List Int):Bool:=aU g l&&MG l
def WR(l:List Int):Bool:=cA (fun i=>cA (fun k=>!NE (l.getD i 0) (l.getD k 0)) i) l.length
theorem UC{p:Nat->Bool}{n:Nat}(h:∀k,k<n->p k=true):cA p n=true:=by
 induction n with
 |zero=>rfl
 |succ n ih=>exact dG (ih fun k hk=>h k aD) (h n aD)
theorem RM(a b:Int)(w:World)(D:0<=a/\a<64)(hb:0<=b/\b<64):
  Calls prog 354 #[a,b] w fun e w'=>e=.returned (.bool (rD a b))/\w=w':=by
 have M:=dU D.1 (show a<4611686018427387904 by omega) hb.1 aD;have hB:=lA D.1 D.2 hb.1 hb.2;have hC:=lA hb.1 hb.2 D.1 D.2;obtain⟨x,I⟩:=aJ (bB a b);obtain⟨y,J⟩:=aJ (cG a b);obtain⟨z,K⟩:=aJ (cG b a);rw[<-I]at M;rw[<-J]at hB;rw[<-K]at hC;have hr:rD a b=((x != 0)&&(y != 0)&&(z != 0)):=by unfold rD;rw[I,J,K]
 have F:=aH hr;clear hr I J K;go_enter func354,ntmps354
 cases h1:(x != 0) with
 |false=>go_wp2;go_ret;exact⟨aW (by rw[F.out,h1];rfl),rfl⟩
 |true=>
  cases h2:(y != 0) with
  |false=>go_wp2;go_ret;exact⟨aW (by rw[F.out,h1,h2];rfl),rfl⟩
  |true=>go_wp2;go_ret;exact⟨aW (by rw[F.out,h1,h2];rfl),rfl⟩
theorem PZ(l:List Int)(v:Value)(w:World)(hv:aK w v l)(hm:∀x∈l,0<=x/\x<64):
  Calls prog 306 #[v] w fun e w'=>(∃x y,e=.returned (.tuple #[x,y,.bool (!MG l)]))/\w=w':=by
 obtain⟨a,b,a8,c,rfl,Y,a1,hc,hb⟩:=hv.view prog 25 3 underlying25 aN;have S:=aH hm;clear hm;go_enter func306,ntmps306;go_wp2;go_loop [10] (fun i=>∃k:Nat,k<=l.length/\i=aG k/\cA (fun i=>cA (fun j=>decide (j<=i)||!rD (l.getD i 0) (l.getD j 0)) l.length) k=true) (fun i=>l.length-(intOf i).toNat)
 case atStart=>exact⟨0,Nat.zero_le _,rfl,rfl⟩
 case round=>
  obtain⟨k,hk,rfl,D⟩:=hrel;have H:=aH D;clear D;by_cases hlt:k<l.length
  ·have N:=S.out _ (List.getElem_mem hlt);go_wp2;go_loop [7] (fun j=>∃q:Nat,k+1<=q/\q<=l.length/\j=aG q/\cA (fun j=>decide (j<=k)||!rD (l.getD k 0) (l.getD j 0)) q=true) (fun j=>l.length-(intOf j).toNat)
   case atStart=>exact⟨k+1,by omega,by omega,by go_num,UC fun j hj=>by simp[show j<=k by omega]⟩
   case round=>
    obtain⟨q,a6,hq,rfl,F⟩:=hrel;have R:=aH F;clear F;by_cases z:q<l.length
    ·have O:=S.out _ (List.getElem_mem z);have hcl:=RM l[k] l[q] w N O
     cases K:rD l[k] l[q]with
     |true=>
      have I:(decide (q<=k)||!rD (l.getD k 0) (l.getD q 0))=false:=by rw[aS l k hlt,aS l q z,K];simp;omega
      have J:MG l=false:=cW (p:=fun i=>cA (fun j=>decide (j<=i)||!rD (l.getD i 0) (l.getD j 0)) l.length) hlt (cW (p:=fun j=>decide (j<=k)||!rD (l.getD k 0) (l.getD j 0)) z I);have M:=aH J;clear I J;rw[K]at hcl;go_wp2_with (go_at_call 354;refine hcl.mono ?_;rintro e w' ⟨rfl,rfl⟩);refine bodyPost_ret (v:=.tuple #[k,q,.bool true]) (by simp[results,results306,go_sem]) rfl ⟨⟨_,_,by rw[M.out];rfl⟩,rfl⟩
     |false=>
      have I:(decide (q<=k)||!rD (l.getD k 0) (l.getD q 0))=true:=by rw[aS l k hlt,aS l q z,K];simp
      have Z:=aH I;clear I;rw[K]at hcl;go_wp2_with (go_at_call 354;refine hcl.mono ?_;rintro e w' ⟨rfl,rfl⟩);go_round
      case rel=>exact⟨q+1,by omega,by omega,by go_num,dG R.out Z.out⟩
      case measure=>simp[intOf];omega
    ·go_wp2
     go_round
     case rel=>exact⟨k+1,by omega,by go_num,dG H.out (by rw[show l.length=q by omega];exact R.out)⟩
     case measure=>simp[intOf];omega
  ·have J:MG l=true:=by unfold MG;rw[<-show k=l.length by omega];exact(show k=l.length by omega)▸H.out
   have M:=aH J;clear J;go_wp2;refine bodyPost_ret (v:=.tuple #[aB,aB,.bool false]) (by simp[results,results306,go_sem]) rfl ⟨⟨_,_,by rw[M.out];rfl⟩,rfl⟩
theorem TR(g:Int)(l:List Int)(v:Value)(w:World)(K:aK w v l):
  Calls prog 225 #[.agg #[g,v]] w fun e w'=>e=.returned (.bool (uU g l))/\Below w w w':=by
 obtain⟨a,c,rfl⟩:=K.shape;have N:=Box2.new w g (aA a l.length c) 29;go_enter func225,ntmps225;go_wp2_with fail;refine(cQ g l _ _ (K.alloc _)).mono ?_;rintro e w1 ⟨rfl,z⟩;obtain⟨O,d1,F,R⟩:=N.after z;have M:=K.below F aI;clear z N
 cases J:aU g l with
 |false=>
  have D:uU g l=false:=by unfold uU;rw[J];rfl
  have I:=aH D;clear D;go_wp2;go_ret;exact⟨by rw[I.out];rfl,F⟩
 |true=>
  have D:uU g l=MG l:=by unfold uU;rw[J];rfl
  have hcl:=PZ l _ w1 M (dR J);have I:=aH D;clear D;go_wp2_with (go_at_call 306;refine hcl.mono ?_;rintro e w' ⟨⟨x,y,rfl⟩,rfl⟩);go_ret;exact⟨aW (by rw[I.out]),F⟩
theorem WZ{p:Prop}(h:p:=by
  have K:=aH D;clear D;go_wp2;go_quiet (fail);go_wp2;go_roundw
  case rel=>exact⟨q+1,n+nq,by omega,by go_num,by simp,dG S.out K.out⟩
  case measure=>simp[intOf];omega):p:=h
theorem P6(l:List Int)(v:Value)(w:World)(hv:aK w v l)(hm:∀x∈l,0<=x/\x<64):
  Calls prog 106 #[v] w fun e w'=>e=.returned (.bool (WR l))/\Below w w w':=by
 obtain⟨a,b,a8,c,rfl,Z,a6,hc,hb⟩:=hv.view prog 25 3 underlying25 aN;have Y:=aH hm;clear hm;go_enter func106,ntmps106;go_wp2;go_loopw [3] (fun i wr=>∃k m:Nat,k<=l.length/\i=aG k/\wr=w.drewN m/\cA (fun i=>cA (fun k=>!NE (l.getD i 0) (l.getD k 0)) i) k=true) (fun i _=>l.length-(intOf i).toNat)
 case atStart=>exact⟨0,0,Nat.zero_le _,rfl,rfl,rfl⟩
 case round=>
  obtain⟨k,m,hk,rfl,rfl,z⟩:=hrel;have H:=aH z;clear z;by_cases hlt:k<l.length
  ·have N:=Y.out _ (List.getElem_mem hlt);go_wp2;go_loopw [4] (fun j wr=>∃q n:Nat,q<=k/\j=aG q/\wr=w.drewN n/\cA (fun q=>!NE (l.getD k 0) (l.getD q 0)) q=true) (fun j _=>k-(intOf j).toNat)
   case atStart=>exact⟨0,m,by omega,rfl,rfl,rfl⟩
   case round=>
    obtain⟨q,n,hq,rfl,rfl,F⟩:=hrel;have S:=aH F;clear F;by_cases M:q<k
    ·have I:q<l.length:=aD;have O:=Y.out _ (List.getElem_mem I);have hA:=dU N.1 (show l[k]<4611686018427387904 by omega) O.1 (show l[q]<4611686018427387904 by omega);obtain⟨x,R⟩:=aJ (bB l[k] l[q]);rw[<-R]at hA;have hr:NE (l.getD k 0) (l.getD q 0)=((x != 0)&&(x != l[k])&&(x != l[q])):=by rw[aS l k hlt,aS l q I];unfold NE;rw[R]
     have J:=aH hr;clear hr R
     cases h1:(x != 0) with
     |false=>
      have D:(!NE (l.getD k 0) (l.getD q 0))=true:=by rw[J.out,h1];rfl
      exact WZ
     |true=>
      cases h2:(x != l[k]) with
      |false=>
       have D:(!NE (l.getD k 0) (l.getD q 0))=true:=by rw[J.out,h1,h2];rfl
       exact WZ
      |true=>
       cases h3:(x != l[q]) with
       |false=>
        have D:(!NE (l.getD k 0) (l.getD q 0))=true:=by rw[J.out,h1,h2,h3];rfl
        exact WZ
       |true=>
        have D:(!NE (l.getD k 0) (l.getD q 0))=false:=by rw[J.out,h1,h2,h3];rfl
        have K:=aH D;clear D;go_wp2;go_quiet (fail);go_wp2;go_ret;exact⟨aW (cW (p:=fun i=>cA (fun k=>!NE (l.getD i 0) (l.getD k 0)) i) hlt (cW (p:=fun q=>!NE (l.getD k 0) (l.getD q 0)) M K.out)).symm,(Below.refl _ _).drewN' _⟩
    ·go_wp2
     go_roundw
     case rel=>exact⟨k+1,n,by omega,by go_num,rfl,dG H.out (by rw[show k=q by omega];exact(show k=q by omega)▸S.out)⟩
     case measure=>simp[intOf];omega
  ·go_wp2;go_ret;exact⟨aW (by unfold WR;rw[show l.length=k by omega,H.out]),(Below.refl _ _).drewN' _⟩
theorem NZ{w:World}{a:Option Addr}{c:Nat}{l:List Int}(h:aK w (aA a l.length c) l)(P:Program)(T E:TypeId)(F:P.underlying T=some (.slice E)){b D:Nat}
  (I:∀(w':World) (k:Nat),k<l.length->(Instr.indexAt T (aA a l.length c) (aG (k:Int))).run P w'=.ok (.pointer (some ⟨b,D+k,none⟩)) w') (k:Nat) (hk:k<=l.length):
  ∀(w':World) (q:Nat),q<k->(Instr.indexAt T (aA a k c) (aG (q:Int))).run P w'=.ok (.pointer (some ⟨b,D+q,none⟩)) w':=by
 intro w' q S;have K:=I w' q aD;have M:P.elem T=E:=by simp[Program.elem,F]
 obtain⟨O,R,N,h1,h2,_,h4⟩:=h;simp only[Value.slice.injEq]at N;obtain⟨rfl,_,rfl⟩:=N;rcases h4 with rfl|⟨J,z,rfl,_,_⟩
 ·simp at hk;omega
 ·rw[run_indexAt_slice w' T ⟨J,z,none⟩ l.length c .i64 q (by rw[M];exact F),if_pos ⟨by omega,by omega⟩]at K;rw[run_indexAt_slice w' T ⟨J,z,none⟩ k c .i64 q (by rw[M];exact F),if_pos ⟨by omega,by omega⟩];exact K
def lJ(a b:Int):Bool:=cG a b != 0&&cG b a != 0
def JJ(l:List Int):Bool:=cA (fun i=>cA (fun j=>lJ (l.getD i 0) (l.getD j 0)) i) l.length
def rT(g:Int)(l:List Int):Bool:=aU g l&&JJ l
def zH(l:List Int)(i:Nat):Bool:=cA (fun k=>k==i||bB (l.getD k 0) (l.getD i 0) != l.getD k 0) l.length
def mN(l:List Int):Nat->List Int
 |0=>[]
 |k+1=>if zH l k then mN l k++[l.getD k 0] else mN l k
def uM(l:List Int):Bool:=(mN l l.length).length==l.length
theorem XF(l:List Int)(k:Nat):(mN l k).length<=k:=by
 induction k with
 |zero=>exact aI
 |succ k ih=>
  rw[mN]
  split
  ·rw[List.length_append];simp only[List.length_cons,List.length_nil];omega
  ·omega
theorem RH(a b:Int)(w:World)(D:0<=a/\a<64)(hb:0<=b/\b<64):
  Calls prog 308 #[a,b] w fun e w'=>e=.returned (.bool (lJ a b))/\w=w':=by
 have hB:=lA D.1 D.2 hb.1 hb.2;have hC:=lA hb.1 hb.2 D.1 D.2;obtain⟨y,F⟩:=aJ (cG a b);obtain⟨z,I⟩:=aJ (cG b a);rw[<-F]at hB;rw[<-I]at hC;have hr:lJ a b=((y != 0)&&(z != 0)):=by unfold lJ;rw[F,I]
 have J:=aH hr;clear hr F I;go_enter func308,ntmps308
 cases h2:(y != 0) with
 |false=>go_wp2;go_ret;exact⟨aW (by rw[J.out,h2];rfl),rfl⟩
 |true=>go_wp2;go_ret;exact⟨aW (by rw[J.out,h2];rfl),rfl⟩
theorem ac7(g:Int)(l:List Int)(v:Value)(w:World)(N:aK w v l):
  Calls prog 228 #[.agg #[g,v]] w fun e w'=>e=.returned (.bool (rT g l))/\Below w w w':=by
 obtain⟨a,b,c5,c,rfl,b6,Y,hc,hb⟩:=N.view prog 25 3 underlying25 aN;have b4:=N.capLe;have X0:=Box2.new w g (aA a l.length c) 29;go_enter func228,ntmps228;go_wp2_with fail;refine(cQ g l _ _ (N.alloc _)).mono ?_;rintro e w1 ⟨rfl,J⟩;obtain⟨d0,d1,I,z1⟩:=X0.after J;have b9:=aR hc hb I aI;have a9:=N.below I aI;clear hc hb J X0
 cases S:aU g l with
 |false=>
  have D:rT g l=false:=by unfold rT;rw[S];rfl
  have M:=aH D;clear D;go_wp2;go_ret;exact⟨by rw[M.out];rfl,I⟩
 |true=>
  have hm:=dR S;have D:rT g l=JJ l:=by unfold rT;rw[S];rfl
  have M:=aH D;have HM:=aH hm;clear D hm;go_wp2_with fail;go_loop [13] (fun i=>∃k:Nat,k<=l.length/\i=aG k/\cA (fun i=>cA (fun j=>lJ (l.getD i 0) (l.getD j 0)) i) k=true) (fun i=>l.length-(intOf i).toNat)
  case atStart=>exact⟨0,Nat.zero_le _,rfl,rfl⟩
  case round=>
   obtain⟨k,hk,rfl,z⟩:=hrel;have H:=aH z;clear z;by_cases hlt:k<l.length
   ·have a6:=HM.out _ (List.getElem_mem hlt);have b5:=NZ a9 prog 25 3 underlying25 Y k hk;go_wp2;go_loop [23] (fun j=>∃q:Nat,q<=k/\j=aG q/\cA (fun j=>lJ (l.getD k 0) (l.getD j 0)) q=true) (fun j=>k-(intOf j).toNat)
    case atStart=>exact⟨0,by omega,rfl,rfl⟩
    case round=>
     obtain⟨q,hq,rfl,K⟩:=hrel;have HI:=aH K;clear K;by_cases a8:q<k
     ·have F:q<l.length:=aD;have a7:=HM.out _ (List.getElem_mem F);have hcl:=RH l[k] l[q] w1 a6 a7
      cases O:lJ l[k] l[q]with
      |false=>have D:JJ l=false:=cW (p:=fun i=>cA (fun j=>lJ (l.getD i 0) (l.getD j 0)) i) hlt (cW (p:=fun j=>lJ (l.getD k 0) (l.getD j 0)) a8 (by rw[aS l k hlt,aS l q F];exact O));have R:=aH D;clear D;rw[O]at hcl;go_wp2_with (go_at_call 308;refine hcl.mono ?_;rintro e w' ⟨rfl,rfl⟩);go_ret;exact⟨aW (by rw[M.out,R.out]),I⟩
      |true=>
       have hp:lJ (l.getD k 0) (l.getD q 0)=true:=by rw[aS l k hlt,aS l q F];exact O
       have HP:=aH hp;clear hp;rw[O]at hcl;go_wp2_with (go_at_call 308;refine hcl.mono ?_;rintro e w' ⟨rfl,rfl⟩);go_round
       case rel=>exact⟨q+1,by omega,by go_num,dG HI.out HP.out⟩
       case measure=>simp[intOf];omega
     ·have a1:k=q:=aD;go_wp2;go_round
      case rel=>exact⟨k+1,by omega,by go_num,dG H.out (by subst a1;exact HI.out)⟩
      case measure=>simp[intOf];omega
   ·have Z:l.length=k:=aD;go_wp2;go_ret;exact⟨aW (by rw[M.out];unfold JJ;rw[Z,H.out]),I⟩
theorem aiH{p:Prop}(h:p:=by
  go_wp2;go_quiet (fail);go_wp2;go_roundw
  case rel=>exact⟨q+1,n+nq,by omega,by go_num,by rw[HS.out,S.out,HQ.out,h3];rfl,by simp⟩
  case measure=>simp[intOf];omega):p:=h
theorem wR(l:List Int)(v:Value)(w:World)(hv:aK w v l)(hm:∀x∈l,0<=x/\x<64)(e4:l.length<=64):
  Calls prog 101 #[v] w fun e w'=>∃ad i I,e=.returned (aA ad i I)/\aM 3 w w' (aA ad i I) (mN l l.length)/\Below w w w':=by
 obtain⟨a,b,e9,c,rfl,b8,e0,hc,hb⟩:=hv.view prog 25 3 underlying25 aN;have HM:=aH hm;clear hm;have o0:=aM.lit0 (E:=3) (B:=w.heap.size) w aI;go_enter func101,ntmps101;go_wp2;go_loopw [3,4] (fun out i wr=>∃(k:Nat) (ad:Option Addr) (R I:Nat),k<=l.length/\out=aA ad R I/\i=aG k/\aM 3 w wr (aA ad R I) (mN l k)/\Below w w wr)
  (fun _ i _=>l.length-(intOf i).toNat)
 case atStart=>exact⟨0,_,_,_,Nat.zero_le _,rfl,rfl,o0,bF _ _⟩
 case round=>
  obtain⟨k,ad,R,I,hk,rfl,rfl,ho,B⟩:=hrel;have Y:=aH ho;clear ho;have d0:=aR hc hb B aI;by_cases hlt:k<l.length
  ·have b1:=HM.out _ (List.getElem_mem hlt);have J:mN l (k+1)=if zH l k then mN l k++[l[k]] else mN l k:=by rw[mN,aS l k hlt]
   have b4:=XF l k;have HN:=aH J;clear J;go_wp2;go_loopw [5,6] (fun f j w2=>∃(q n:Nat),q<=l.length/\j=aG q/\f=.bool (cA (fun z=>z==k||bB (l.getD z 0) (l.getD k 0) != l.getD z 0) q)/\w2=wr.drewN n) (fun _ j _=>l.length-(intOf j).toNat)
   case atStart=>exact⟨0,0,Nat.zero_le _,rfl,rfl,rfl⟩
   case round=>
    obtain⟨q,n,hq,rfl,rfl,rfl⟩:=hrel;by_cases N:q<l.length
    ·have b3:=HM.out _ (List.getElem_mem N);have hA:=dU b3.1 (show l[q]<4611686018427387904 by omega) b1.1 (show l[k]<4611686018427387904 by omega);have hs:cA (fun z=>z==k||bB (l.getD z 0) (l.getD k 0) != l.getD z 0) (q+1)=(cA (fun z=>z==k||bB (l.getD z 0) (l.getD k 0) != l.getD z 0) q&&(q==k||bB l[q] l[k] != l[q])):=by rw[cA,aS l k hlt,aS l q N]
     obtain⟨x,hx⟩:=aJ (bB l[q] l[k]);rw[<-hx]at hA hs;have HS:=aH hs;clear hs hx
     cases Z:cA (fun z=>z==k||bB (l.getD z 0) (l.getD k 0) != l.getD z 0) q with
     |false=>
      have S:=aH Z;clear Z;go_wp2;go_quiet (fail);go_wp2;go_roundw
      case rel=>exact⟨q+1,n+nq,by omega,by go_num,by rw[HS.out,S.out];rfl,by simp⟩
      case measure=>simp[intOf];omega
     |true=>
      have S:=aH Z;clear Z;by_cases M:q=k
      ·have ht:((q:Int)==(k:Int))=true:=by simp[M]
       have F:(q==k)=true:=by simp[M]
       have HQ:=aH F;clear F;go_wp2;go_quiet (fail);go_wp2;go_roundw
       case rel=>exact⟨q+1,n+nq,by omega,by go_num,by rw[HS.out,S.out,HQ.out];rfl,by simp⟩
       case measure=>simp[intOf];omega
      ·have ht:((q:Int)==(k:Int))=false:=by simp;omega
       have F:(q==k)=false:=by simp[M]
       have HQ:=aH F;clear F
       cases h3:(x != l[q]) with
       |false=>exact aiH
       |true=>exact aiH
    ·have O:q=l.length:=aD;subst O;have D:cA (fun z=>z==k||bB (l.getD z 0) (l.getD k 0) != l.getD z 0) l.length=zH l k:=rfl;rw[D]
     cases hF:zH l k with
     |false=>
      have HF:=aH hF;clear hF D;go_wp2;go_roundw
      case rel=>exact⟨k+1,ad,R,I,by omega,rfl,by go_num,by rw[HN.out,HF.out];exact Y.out.drewN _,B.drewN' _⟩
      case measure=>simp[intOf];omega
     |true=>
      have HF:=aH hF;clear hF D;go_wp2_with (at_builtin;refine dA rfl _ _ _ rfl 3 underlying25 aN w.heap.size _ _ l[k] wr.heap.size rfl rfl (aZ (wr.drewN n) #[aG l[k]] 3 0 _ rfl) ((Y.out.drewN n).alloc (.cells #[aG l[k]] 3)) ⟨by omega,by omega⟩ aD (Nat.le_trans B.size (by simp)) ?_;intro v' w6 K a9;obtain⟨av,nv,cv,rfl⟩:=K.shape3);have B6:Below w w w6:=((B.drewN' n).alloc B.size (.cells #[aG l[k]] 3)).grown a9 (by have:=B.size;simp;omega) (fun p hp=>(Y.out.lt p hp).1);go_roundw
      case rel=>exact⟨k+1,av,nv,cv,by omega,rfl,by go_num,by rw[HN.out,HF.out];exact K,B6⟩
      case measure=>simp[intOf];omega
  ·have b0:k=l.length:=aD;go_wp2;go_ret;exact⟨ad,R,I,rfl,by subst b0;exact Y.out,B⟩
theorem KZ(l:List Int)(v:Value)(w:World)(F:aK w v l)(hm:∀x∈l,0<=x/\x<64)(D:l.length<=64):
  Calls prog 109 #[v] w fun e w'=>e=.returned (.bool (uM l))/\Below w w w':=by
 obtain⟨a,c,rfl⟩:=F.shape;go_enter func109,ntmps109;go_wp2_with fail;refine(wR l _ w F hm D).mono ?_;rintro e w1 ⟨ad,i,K,rfl,J,z⟩;have I:=J.ints.capLe.1;go_wp2;go_ret;refine⟨aW ?_,z⟩;unfold uM;rw[<-I,Bool.eq_iff_iff];simp only[beq_iff_eq];omega
theorem anA{p:Prop}(h:p:=by
  obtain⟨a,b,a8,cp,rfl,R,a7,hc,hb⟩:=S.view prog 25 3 underlying25 aN;have Z:=aH hw;clear hw;go_enter func355,ntmps355;go_wp2_with fail;go_loopw [8] (fun i wr=>∃k:Nat,k<=l.length/\i=aG k/\(l.take k).any P=false/\Below w w wr) (fun i _=>l.length-(intOf i).toNat)
  case atStart=>exact⟨0,Nat.zero_le _,rfl,by simp,Below.refl _ _⟩
  case round=>
   obtain⟨k,hk,rfl,z,B⟩:=hrel;have H:=aH z;clear z;by_cases hlt:k<l.length
   ·have a1:=aR hc hb B aI k hlt;have hcl:=Z.out l[k] wr (List.getElem_mem hlt) B;have J:(l.take (k+1)).any P=((l.take k).any P||P l[k]):=by rw[List.take_succ_eq_append_getElem hlt,List.any_append];simp
    have N:=aH J;clear J
    cases F:P l[k]with
    |true=>have I:l.any P=true:=List.any_eq_true.2 ⟨_,List.getElem_mem hlt,F⟩;have M:=aH I;rw[F]at hcl;clear I F;go_wp2_with (go_at_fn c;refine hcl.mono ?_;rintro e K ⟨rfl,D⟩);go_ret;exact⟨⟨k,rfl,by rw[M.out];simp,by omega,by omega⟩,B.after D B.size⟩
    |false=>
     have Y:=aH F;rw[F]at hcl;clear F;go_wp2_with (go_at_fn c;refine hcl.mono ?_;rintro e K ⟨rfl,D⟩);go_roundw
     case rel=>exact⟨k+1,by omega,by go_num,by rw[N.out,H.out,Y.out];rfl,B.after D B.size⟩
     case measure=>simp[intOf];omega
   ·have I:l.any P=false:=by have:=H.out;rw[List.take_of_length_le aD]at this;exact this
    have M:=aH I;clear I;go_wp2;go_ret;exact⟨⟨-1,rfl,by rw[M.out];simp,by omega,by omega⟩,B⟩):p:=h
theorem TP(l:List Int)(v:Value)(w:World)(S:aK w v l)(c:FuncId)(he:∀args w,(callFunc c args).run prog w=.ok (.enter c args) w)(g:Nat)(P:Int->Bool)
  (hw:∀(t:Int) W',t∈l->Below w w W'->Calls prog c #[t,.pointer (some ⟨g,0,none⟩)] W' fun e K=>e=.returned (.bool (P t))/\Below W' W' K):
  Calls prog 355 #[v,.func (.func c) #[] #[.pointer (some ⟨g,0,none⟩)]] w fun e w'=>(∃i:Int,e=.returned i/\(0<=i↔l.any P=true)/\-1<=i/\i<=9223372036854775807)/\Below w w w':=by
 exact anA
theorem ag7{p:Prop}(h:p:=by
  clear hw z;obtain⟨a,R,rfl⟩:=D.shape;go_enter func310,ntmps310;go_wp2_with (go_at_call 355;refine hcl.mono ?_;rintro e w' ⟨⟨i,rfl,M,N,O⟩,hb⟩;have K:=aH M;clear M);go_ret;refine⟨aW ?_,hb⟩
  cases I:l.any P with
  |true=>have:=K.out.2 I;simpa using this
  |false=>
   have h:¬0<=i:=fun h=>by rw[K.out.1 h]at I;cases I
   simpa using h):p:=h
theorem AC(l:List Int)(v:Value)(w:World)(D:aK w v l)(c:FuncId)(z:∀args w,(callFunc c args).run prog w=.ok (.enter c args) w)(g:Nat)(P:Int->Bool)
  (hw:∀(t:Int) W',t∈l->Below w w W'->Calls prog c #[t,.pointer (some ⟨g,0,none⟩)] W' fun e J=>e=.returned (.bool (P t))/\Below W' W' J):
  Calls prog 310 #[v,.func (.func c) #[] #[.pointer (some ⟨g,0,none⟩)]] w fun e w'=>e=.returned (.bool (l.any P))/\Below w w w':=by
 have hcl:=TP l v w D c z g P hw;exact ag7
def nS(s t:Int):Bool:=t != s&&cG t s==0
def jR(l:List Int):List Int:=l.filter fun s=>!(l.any (nS s))
theorem adO(w:World)(g:Nat)(t s:Int)(d:w.cell? ⟨g,0,none⟩=some (aG s))(ht:0<=t/\t<64)(F:0<=s/\s<64):
  Calls prog 357 #[t,.pointer (some ⟨g,0,none⟩)] w fun e w'=>e=.returned (.bool (nS s t))/\Below w w w':=by
 have I:=lA ht.1 ht.2 F.1 F.2
 cases h:(t != s) with
 |false=>
  have z:nS s t=false:=by unfold nS;rw[h];rfl
  have D:=aH z;clear z;go_enter func357,ntmps357;go_wp2;go_ret;exact⟨aW D.out.symm,Below.refl _ _⟩
 |true=>
  have z:nS s t=(cG t s==0):=by unfold nS;rw[h];rfl
  have D:=aH z;clear z;go_enter func357,ntmps357;go_wp2;go_ret;exact⟨aW D.out.symm,Below.refl _ _⟩
theorem KD:∀args w,(callFunc 357 args).run prog w=.ok (.enter 357 args) w:=enters_of func357 aO rfl
theorem FT(l:List Int)(v:Value)(w:World)(hv:aK w v l)(hm:∀x∈l,0<=x/\x<64)(hl:l.length<=1048576):
  Calls prog 317 #[v] w fun e w'=>∃ad i K,e=.returned (aA ad i K)/\aM 3 w w' (aA ad i K) (jR l)/\Below w w w':=by
 obtain⟨a,b,f4,c,rfl,c5,e8,hc,hb⟩:=hv.view prog 25 3 underlying25 aN;have HM:=aH hm;clear hm;obtain⟨F,hF⟩:∃F:Int->Bool,F=fun s=>!(l.any (nS s)):=⟨_,rfl⟩;have M:jR l=l.filter F:=by rw[hF];rfl
 rw[M];have HF:=aH hF;clear M hF;go_enter func317,ntmps317;go_wp2_with fail;go_loopw [3,9] (fun out i wr=>∃(k:Nat) (ad:Option Addr) (nn K:Nat),k<=l.length/\out=aA ad nn K/\i=aG k/\aM 3 w wr (aA ad nn K) ((l.take k).filter F)/\Below w w wr)
  (fun _ i _=>l.length-(intOf i).toNat)
 case atStart=>exact⟨0,none,0,0,Nat.zero_le _,rfl,rfl,aM.nil _ _ _,Below.refl _ _⟩
 case round=>
  obtain⟨k,ad,nn,K,hk,rfl,rfl,ho,B⟩:=hrel;have HO:=aH ho;clear ho;by_cases hlt:k<l.length
  ·have b6:=aR hc hb B aI k hlt;have I:=HM.out _ (List.getElem_mem hlt);have R:(l.take (k+1)).filter F=(l.take k).filter F++(if F l[k]=true then [l[k]] else []):=by rw[List.take_succ_eq_append_getElem hlt,List.filter_append,List.filter_cons,List.filter_nil]
   have D:F l[k]=!(l.any (nS l[k])):=by rw[HF.out]
   have e7:((l.take k).filter F).length<=1048576:=Nat.le_trans (List.length_filter_le _ _) aT;obtain⟨s,hs⟩:=aJ (l[k]);rw[<-hs]at b6 I R D;have a1:∀W,aK W (aA a l.length c) l->W.cell? ⟨wr.heap.size,0,none⟩=some (aG s)->Calls prog 310 #[aA a l.length c,.func (.func 357) #[] #[.pointer (some ⟨wr,0,none⟩)]] W fun e w'=>e=.returned (.bool (l.any (nS s)))/\Below W W w':=
    fun W hW hd=>AC l _ W hW 357 KD wr.heap.size (nS s) (fun t W' ht hB=>adO W' wr.heap.size t s (keep hB hd) (HM.out t ht) I)
   have S:=aH a1;have Y:=aH R;have f0:=I.1;have f2:=I.2;clear hs R a1 I
   cases z:l.any (nS s) with
   |true=>
    have hf:F s=false:=by rw[D,z];rfl
    have O:=aH hf;have HA:=aH z;clear hf z D;go_wp2_with (go_at_call 310;refine(S.out _ (hv.below (B.alloc B.size _) aI) (aZ _ _ _ _ _ rfl)).mono ?_;rintro e w4 ⟨rfl,J⟩;rw[HA.out]);have Z:Below wr wr w4:=(bF wr (.cells #[s] 3)).after J (by simp);go_roundw
    case rel=>exact⟨k+1,ad,nn,K,by omega,rfl,by go_num,by rw[Y.out,O.out];simpa using HO.out.keep Z,B.after Z B.size⟩
    case measure=>simp[intOf];omega
   |false=>
    have hf:F s=true:=by rw[D,z];rfl
    have O:=aH hf;have HA:=aH z;clear hf z D;go_wp2_with (first
     |(go_at_call 310;refine(S.out _ (hv.below (B.alloc B.size _) aI) (aZ _ _ _ _ _ rfl)).mono ?_;rintro e w4 ⟨rfl,J⟩;rw[HA.out];have d4:=keep J (aZ wr #[s] 3 0 _ rfl);have Z:Below wr wr w4:=(bF wr (.cells #[s] 3)).after J (by simp);have o4:=HO.out.keep Z;have B4:=B.after Z B.size;have z4:=B4.size)
     |(at_builtin;refine dA rfl _ _ _ rfl 3 underlying25 aN w.heap.size _ _ s w4.heap.size rfl rfl (by simp) (o4.alloc _) ⟨by omega,by omega⟩ aD aT ?_;intro v' w6 N b7;obtain⟨av,nv,cv,rfl⟩:=N.shape3))
    have r4:=o4.lt;have B6:Below w w w6:=(B4.alloc B4.size (.cells #[s] 3)).grown b7 aT (fun q hq=>(r4 q hq).1);go_roundw
    case rel=>exact⟨k+1,av,nv,cv,by omega,rfl,by go_num,by rw[Y.out,O.out];exact N,B6⟩
    case measure=>simp[intOf];omega
  ·have a7:(l.take k).filter F=l.filter F:=by rw[List.take_of_length_le aD]
   have HK:=aH a7;clear a7;go_wp2;go_ret;exact⟨ad,nn,K,rfl,by rw[<-HK.out];exact HO.out,B⟩
theorem eP{p:Nat->Bool}{n:Nat}:cA p n=true↔∀k,k<n->p k=true:=by
 constructor
 ·intro h k hk
  cases z:p k with
  |true=>rfl
  |false=>rw[cW hk z]at h;cases h
 ·exact UC
theorem ak6(l:List Int)(M:l.Pairwise (· < ·))(hm:∀x∈l,0<=x)(i:Nat)(F:i<l.length):zH l i=!(l.any (nS l[i])):=by
 rw[Bool.eq_iff_iff];unfold zH;rw[eP,Bool.not_eq_true',List.any_eq_false];have D:∀t:Int,0<=t->(cG t l[i]=0↔bB t l[i]=t):=fun t ht=>by have h1:=hm _ (List.getElem_mem F);unfold cG bB cO;have:=@Nat.and_le_left t.toNat l[i].toNat;omega
 constructor
 ·intro h t ht;obtain⟨k,hk,rfl⟩:=List.getElem_of_mem ht;have z:=h k hk;rw[aS l k hk,aS l i F]at z;unfold nS;simp only[Bool.or_eq_true,beq_iff_eq,bne_iff_ne,ne_eq,Bool.and_eq_true,not_and]at z ⊢;intro J hid;rcases z with rfl|z
  ·exact J rfl
  ·exact z ((D _ (hm _ (List.getElem_mem hk))).1 hid)
 ·intro h k hk;rw[aS l k hk,aS l i F];have:=h _ (List.getElem_mem hk);unfold nS at this;simp only[Bool.or_eq_true,beq_iff_eq,bne_iff_ne,ne_eq,Bool.and_eq_true,not_and]at this ⊢;by_cases I:k=i
  ·exact .inl I
  ·right;intro hid;refine this (fun e=>?_) ((D _ (hm _ (List.getElem_mem hk))).2 hid);have K:=List.pairwise_iff_getElem.1 M;rcases Nat.lt_or_gt_of_ne I with h1|h1
   ·have:=K k i hk F h1;omega
   ·have:=K i k F hk h1;omega
theorem alU(l:List Int)(z:l.Pairwise (· < ·))(hm:∀x∈l,0<=x):∀k,k<=l.length->mN l k=(l.take k).filter fun s=>!(l.any (nS s)):=by
 intro k
 induction k with
 |zero=>intro _;simp[mN]
 |succ k ih=>
  intro hk;have hlt:k<l.length:=aD;rw[mN,ih aD,List.take_succ_eq_append_getElem hlt,List.filter_append,List.filter_cons,List.filter_nil,ak6 l z hm k hlt,aS l k hlt]
  split<;>simp
theorem SL(l:List Int)(z:l.Pairwise (· < ·))(hm:∀x∈l,0<=x):mN l l.length=jR l:=by
 rw[alU l z hm l.length aI,List.take_length];rfl
theorem LE(g:Int)(l:List Int)(v:Value)(w:World)(Y:aK w v l)(hl:l.length<=1048576)(R:aU g l=true):
  Calls prog 280 #[.agg #[g,v]] w fun e w'=>∃ad i cp,e=.returned (.tuple #[.agg #[g,aA ad i cp],.bool true])/\aM 3 w w' (aA ad i cp) (jR l)/\Below w w w':=by
 obtain⟨a,c,rfl⟩:=Y.shape;have hm:=dR R;have HM:=aH hm;have HF:=aH R;clear hm R;go_enter func280,ntmps280;go_wp2_with fail;refine bU ?_;intro V K;have B:Below w w V:=gO K;have K1:aP V w 29 #[g,aA a l.length c]:=gR K;have K2:aP V (w.heap.size+1) 29 #[aB,()]:=iP K;clear K;refine(cQ g l _ _ (Y.below B aI)).mono ?_;rintro e w1 ⟨rfl,F⟩;rw[HF.out];have J:=K1.keep F;have z:=K2.keep F;have B1:=B.after F B.size;have G1:=J.cell;have z1:=J.lt;have z2:=z.lt;have Z:=Y.below B1 aI;clear K1 K2 B F;go_wp2_with fail;have G2:=z.cell;have F2:=z.frozen;go_region_held3 (fun w'=>(∀i,w'.cell? ⟨w.heap.size,i,none⟩=(#[aG g,aA a l.length c]:Array Value)[i]?)) (go_keep)
  (first
   |(go_at_call 317;refine(FT l _ _ (Z.below (B:=w1.heap.size) (by repeat(first|exact Below.refl _ _|(with_reducible refine Below.setCell ?_ (by first|omega|(simp;done)|(simp;omega)) _)|(with_reducible refine Below.alloc ?_ (by first|omega|(simp;done)|(simp;omega)) _)|(with_reducible refine Below.drewN' ?_ _)|(with_reducible refine Below.drew ?_)|(with_reducible assumption)|refine Below.trans ?_ (Below.mono (by assumption) (by first|omega|(simp;done)|(simp;omega))))) aI) HM.out hl).mono ?_;rintro e w3 ⟨p3,i3,M,rfl,o3,I⟩;obtain⟨O,S⟩:=gN I w1.heap.size (by first|omega|(simp;done)|(simp;omega));have z3:=I.size;(try simp at z3)))
 go_wp2;refine bN ?_;intro Wf D;have N:aP Wf (w.heap.size+1) 29 #[g,aA p3 i3 M]:=by rw[D];have:=(((z.drewN 1).keep I).set 0 (aG g)).set 1 (aA p3 i3 M);simpa using this
 have Bf:Below w w Wf:=by rw[D];exact Below.setCell (Below.setCell ((B1.drewN' 1).after I (by first|omega|(simp;done)|(simp;omega))) (by first|omega|(simp;done)|(simp;omega)) _) (by first|omega|(simp;done)|(simp;omega)) _
 have of:aM 3 w Wf (aA p3 i3 M) (jR l):=by rw[D];exact((o3.setBelow (by first|omega|(simp;done)|(simp;omega)) _).setBelow (by first|omega|(simp;done)|(simp;omega)) _).mono (by first|omega|(simp;done)|(simp;omega))
 have Gf:=N.cell;clear D G1 G2 F2 O S;exact bodyPost_ret (v:=.tuple #[.agg #[g,aA p3 i3 M],.bool true]) (by simp[results,results280,go_sem,Gf]) rfl ⟨_,_,_,rfl,of,Bf⟩
theorem vL(P:Nat->Bool)(k:Nat):∀x∈cD P k,0<=x/\x<(k:Int):=by
 intro x z;unfold cD at z;obtain⟨y,D,rfl⟩:=List.mem_map.1 z;have:=List.mem_range.1 (List.mem_filter.1 D).1;exact⟨Int.natCast_nonneg _,by show(y:Int)<k;omega⟩
theorem zD(P:Nat->Bool)(k:Nat):(cD P k).Pairwise (· < ·):=by
 induction k with
 |zero=>simp[cD]
 |succ k ih=>
  rw[fM]
  split
  ·rw[List.pairwise_append];refine⟨ih,by simp,fun a z b hb=>?_⟩;simp only[List.mem_singleton]at hb;have:=vL P k a z;omega
  ·exact ih
theorem NC(P:Nat->Bool)(g:Nat)(D:g<=6):aU g (cD P (2^g))=true:=by
 unfold aU dZ AA;have h1:dV (g:Int) 0 6=true:=cR.2 ⟨by omega,by omega⟩;rw[h1,decide_eq_true (zD P _)];simp only[Bool.true_and,Bool.and_true,List.all_eq_true];intro x z;have:=vL P _ x z;have e:((2^g:Nat):Int)=(2:Int)^g:=by push_cast;rfl
 refine jQ.2 ⟨this.1,?_⟩;have e2:(g:Int).toNat=g:=aD;rw[e2,<-e];exact this.2
theorem XE{l:List Int}{x:Int}(h:x∈jR l):x∈l:=(List.mem_filter.1 h).1
theorem XD(l:List Int):(jR l).length<=l.length:=List.length_filter_le _ _
def sG(g:Nat)(l:List Int):List Int:=cD (fun s=>qQ l (s:Int)) (2^g)
def gS(g:Int)(l:List Int):Int:=if aU g l then g else 0
def lD(g:Int)(l:List Int):List Int:=if aU g l then jR (sG g.toNat l) else []
theorem BG(g:Nat)(z:g<=6)(l:List Int):(∀x∈sG g l,0<=x/\x<64)/\(sG g l).length<=64:=by
 have D:(2:Nat)^g<=2^6:=Nat.pow_le_pow_right aQ z;refine⟨fun x F=>?_,?_⟩
 ·have:=vL _ _ x F;have h:((2^g:Nat):Int)<=64:=by exact_mod_cast D
  omega
 ·have:=jO (fun s=>qQ l (s:Int)) (2^g);unfold sG;omega
theorem UM(g:Int)(l:List Int):(lD g l).length<=64:=by
 unfold lD
 split
 ·rename_i h;obtain⟨z,D,_⟩:=dB h;exact Nat.le_trans (XD _) (BG g.toNat aD l).2
 ·simp
theorem PH(g:Int)(l:List Int):∀x∈lD g l,0<=x/\x<64:=by
 unfold lD
 split
 ·rename_i h;obtain⟨D,F,_⟩:=dB h;exact fun x z=>(BG g.toNat aD l).1 x (XE z)
 ·simp
theorem acE(w:World)(g s:Nat)(l:List Int)(v:Value)(z:aK w v l)(d:w.cell? ⟨g,1,none⟩=some v)(D:s<64)(hm:∀x∈l,0<=x/\x<64):
  Calls prog 299 #[(s:Int),.pointer (some ⟨g,0,none⟩)] w fun e w'=>e=.returned (.bool (qQ l s))/\Below w w w':=by
 obtain⟨a,c,rfl⟩:=z.shape;have hcl:=IT l _ (s:Int) w z hm aD aD;clear hm;go_enter func299,ntmps299;go_wp2_with (go_at_call 300;refine hcl.mono ?_;rintro e w' ⟨rfl,rfl⟩);go_ret;exact⟨rfl,Below.refl _ _⟩
theorem J3:∀args w,(callFunc 299 args).run prog w=.ok (.enter 299 args) w:=enters_of func299 aO rfl
theorem ahQ{p:Prop}(h:p:=by
  rw[z];have f9:=o5.mono (B':=w3.heap.size) (by simp);exact((f9.setBelow (by first|omega|(simp;done)|(simp;omega)) _).setBelow (by first|omega|(simp;done)|(simp;omega)) _).mono (by first|omega|(simp;done)|(simp;omega))):p:=h
theorem M9(w:World)(g:Int)(v:Value)(l:List Int)(hv:aK w v l)(_:l.length<=1048576):
  Calls prog 220 #[.agg #[g,v]] w fun e w'=>∃ad i I,e=.returned (.tuple #[.agg #[(gS g l),aA ad i I],.bool (aU g l)])/\aM 3 w w' (aA ad i I) (lD g l)/\Below w w w':=by
 obtain⟨a,c,rfl⟩:=hv.shape;go_enter func220,ntmps220;go_wp2_with fail;refine bU ?_;intro V hV;have B:Below w w V:=gO hV;have K1:aP V w 29 #[g,aA a l.length c]:=gR hV;have F:aP V (w.heap.size+1) 29 #[aB,()]:=iP hV;clear hV;refine(cQ g l _ _ (hv.below B aI)).mono ?_;rintro e w1 ⟨rfl,J⟩;have R:=K1.keep J;have D:=F.keep J;have S:=B.after J B.size;have G1:=R.cell;have G2:=D.cell;have F2:=D.frozen;have z1:=R.lt;have z2:=D.lt;have e5:=hv.below S aI;clear K1 F B J
 cases K:aU g l with
 |false=>
  have hN:gS g l=0:=by unfold gS;rw[K];rfl
  have hL:lD g l=[]:=by unfold lD;rw[K];rfl
  have HN:=aH hN;have HL:=aH hL;have HF:=aH K;clear hN hL;go_wp2;refine bN ?_;intro Wf z;have M:aP Wf (w.heap.size+1) 29 #[aB,()]:=by rw[z];have:=(D.set 0 (aG 0)).set 1 (aA none 0 0);simpa using this
  have Bf:Below w w Wf:=by rw[z];exact Below.setCell (Below.setCell S (by first|omega|(simp;done)|(simp;omega)) _) (by first|omega|(simp;done)|(simp;omega)) _
  have Gf:=M.cell;clear z G1 G2 F2;exact bodyPost_ret (v:=.tuple #[.agg #[aB,()],.bool false]) (by simp[results,results220,go_sem,Gf]) rfl ⟨none,0,0,by rw[HN.out,HF.out],by rw[HL.out];exact aM.nil _ _ _,Bf⟩
 |true=>
  obtain⟨h0,h6,_⟩:=dB K;have hm:=dR K;obtain⟨n,rfl⟩:=Int.eq_ofNat_of_zero_le h0;have hn:n<=6:=aD;have hN:gS n l=n:=by unfold gS;rw[K];rfl
  have hL:lD n l=jR (sG n l):=by unfold lD;rw[K];rfl
  have HN:=aH hN;have HL:=aH hL;have HF:=aH K;have f6:=BG n hn l;have f7:(2:Nat)^n<=64:=Nat.pow_le_pow_right (n:=2) aQ hn;have a7:∀W,aK W (aA a l.length c) l->W.cell? ⟨w.heap.size,1,none⟩=some (aA a l.length c)->Calls prog 276 #[(n:Int),.func (.func 299) #[] #[.pointer (some ⟨w,0,none⟩)]] W fun e w'=>
    ∃ad i I,e=.returned (.agg #[(n:Int),aA ad i I])/\aM 3 W w' (aA ad i I) (sG n l)/\Below W W w':=fun W hW hd=>
   zA W n hn 299 J3 w.heap.size (fun s=>qQ l (s:Int)) (fun s W' hs hB=>acE W' w.heap.size s l _ (hW.keep hB) (keep hB hd) aD hm)
  have a8:∀(W:World) (ad:Option Addr) (i I:Nat),aK W (aA ad i I) (sG n l)->Calls prog 280 #[.agg #[(n:Int),aA ad i I]] W fun e w'=>
    ∃Y i' Z,e=.returned (.tuple #[.agg #[(n:Int),aA Y i' Z],.bool true])/\aM 3 W w' (aA Y i' Z) (jR (sG n l))/\Below W W w':=fun W ad i I hW=>
   LE n _ _ W hW aD (NC _ n hn)
  have c5:=aH a7;have c8:=aH a8;clear hN hL f6 f7 a7 a8 hm K;go_wp2_with fail;refine(c5.out _ e5 (by rw[G1];rfl)).mono ?_;rintro e w3 ⟨p3,i3,q3,rfl,o3,O⟩;have B3:=S.after O S.size;have F:=D.keep O;clear G1 G2 F2;go_wp2_with fail;refine(c8.out _ p3 i3 q3 (o3.alloc _).ints).mono ?_;rintro e w5 ⟨p5,i5,q5,rfl,o5,e0⟩;have b5:Below w3 w3 w5:=(bF w3 _).after e0 (by simp);have B5:=B3.after b5 B3.size;have F:=F.keep b5;have G2:=F.cell;have F2:=F.frozen;have z5:=F.lt;have y3:=B3.size;have y1:=S.size;have z6:=O.size;have z7:=b5.size;go_wp2;refine bN ?_;intro Wf z;have M:aP Wf (w.heap.size+1) 29 #[n,aA p5 i5 q5]:=by rw[z];have:=(F.set 0 (aG n)).set 1 (aA p5 i5 q5);simpa using this
  have Bf:Below w w Wf:=by rw[z];exact Below.setCell (Below.setCell B5 (by first|omega|(simp;done)|(simp;omega)) _) (by first|omega|(simp;done)|(simp;omega)) _
  have of:aM 3 w Wf (aA p5 i5 q5) (jR (sG n l)):=by exact ahQ
  have Gf:=M.cell;clear z G2 F2;exact bodyPost_ret (v:=.tuple #[.agg #[n,aA p5 i5 q5],.bool true]) (by simp[results,results220,go_sem,Gf]) rfl ⟨p5,i5,q5,by rw[HN.out,HF.out],by rw[HL.out];exact of,Bf⟩
theorem WM(l:List Int)(v:Value)(s:Int)(w:World)(N:aK w v l)(hm:∀x∈l,0<=x/\x<64)(R:0<=s)(h1:s<64):
  Calls prog 100 #[v,s] w fun e w'=>e=.returned (.bool (qQ l s))/\w=w':=by
 obtain⟨a,b,O,c,rfl,F,K,hc,hb⟩:=N.view prog 25 3 underlying25 aN;go_enter func100,ntmps100;go_wp2;go_loop [5] (fun i=>∃k:Nat,k<=l.length/\i=aG k/\(l.take k).all (fun t=>bB t s != 0)=true) (fun i=>l.length-(intOf i).toNat)
 case atStart=>exact⟨0,Nat.zero_le _,rfl,by simp⟩
 case round=>exact agU
theorem NA(w:World)(g:Int)(v:Value)(l:List Int)(hv:aK w v l)(_:l.length<=1048576):
  Calls prog 53 #[.agg #[g,v]] w fun e w'=>∃ad i M,e=.returned (.tuple #[.agg #[(gS g l),aA ad i M],.bool (aU g l)])/\aM 3 w w' (aA ad i M) (lD g l)/\Below w w w':=by
 obtain⟨a,c,rfl⟩:=hv.shape;go_enter func53,ntmps53;go_wp2_with fail;refine bU ?_;intro V hV;have B:Below w w V:=gO hV;have K1:aP V w 29 #[g,aA a l.length c]:=gR hV;have K2:aP V (w.heap.size+1) 29 #[aB,()]:=iP hV;clear hV;refine(cK g l _ _ (hv.below B aI)).mono ?_;rintro e w1 ⟨rfl,S⟩;have K:=K1.keep S;have F:=K2.keep S;have B1:=B.after S B.size;have e6:=hv.below B1 aI;clear K1 K2 B S
 cases Z:aU g l with
 |false=>
  have G1:=K.cell;have G2:=F.cell;have F2:=F.frozen;have z2:=F.lt;have hN:gS g l=0:=by unfold gS;rw[Z];rfl
  have hL:lD g l=[]:=by unfold lD;rw[Z];rfl
  have HN:=aH hN;have HL:=aH hL;have HF:=aH Z;clear hN hL;go_wp2;refine bN ?_;intro Wf z;have a8:aP Wf (w.heap.size+1) 29 #[aB,()]:=by rw[z];have:=(F.set 0 (aG 0)).set 1 (aA none 0 0);simpa using this
  have Bf:Below w w Wf:=by rw[z];exact Below.setCell (Below.setCell B1 (by first|omega|(simp;done)|(simp;omega)) _) (by first|omega|(simp;done)|(simp;omega)) _
  have Gf:=a8.cell;clear z G1 G2 F2;exact bodyPost_ret (v:=.tuple #[.agg #[aB,()],.bool false]) (by simp[results,results53,go_sem,Gf]) rfl ⟨none,0,0,by rw[HN.out,HF.out],by rw[HL.out];exact aM.nil _ _ _,Bf⟩
 |true=>
  obtain⟨h0,h6,_⟩:=dB Z;have hm:=dR Z;obtain⟨n,rfl⟩:=Int.eq_ofNat_of_zero_le h0;have hn:n<=6:=aD;have hN:gS n l=n:=by unfold gS;rw[Z];rfl
  have hL:lD n l=jR (sG n l):=by unfold lD;rw[Z];rfl
  have HN:=aH hN;have HL:=aH hL;have HF:=aH Z;have HM:=aH hm;have hp:=cJ n 6 hn;have j7:(2:Int)^n<=64:=by simpa using hp.1
  have j8:=hp.2;have b0:((2^n:Nat):Int)=(2:Int)^n:=by simp
  obtain⟨N,O⟩:∃N:Nat,N=2^n:=⟨_,rfl⟩;obtain⟨P,hP⟩:∃P:Nat->Bool,P=fun s:Nat=>qQ l (s:Int):=⟨_,rfl⟩;have J:sG n l=cD P N:=by rw[O,hP];rfl
  have a9:=BG n hn l;have a1:=zD P N;have a6:=SL (cD P N) a1 (fun x hx=>(vL P N x hx).1);rw[J]at a9;have i1:N<=64:=by rw[O];exact Nat.pow_le_pow_right (n:=2) aQ hn
  rw[<-O]at b0;have b5:=aH J;have b6:=aH a9;have b8:=aH a6;have HP:=aH hP;have c5:=aH b0;have G1:=K.cell;have z1:=K.lt;have z2:=F.lt;have o0:=aM.lit0 (E:=3) (B:=w1.heap.size) w1 aI;clear hN hL J a9 a6 a1 hm Z hp O hP b0;go_wp2_with fail;go_loopw [4,5] (fun out i wr=>∃(k:Nat) (ad:Option Addr) (nn M:Nat),k<=N/\out=aA ad nn M/\i=aG k/\aM 3 w1 wr (aA ad nn M) (cD P k)/\Below w1 w1 wr)
   (fun _ i _=>N-(intOf i).toNat)
  case atStart=>exact⟨0,_,_,_,Nat.zero_le _,rfl,rfl,o0,bF _ _⟩
  case round=>
   obtain⟨k,ad,nn,M,hk,rfl,rfl,ho,B⟩:=hrel;have HO:=aH ho;clear ho o0 G1;have G1:=(K.keep B).cell;have zw:=B.size;by_cases hlt:k<N
   ·have e0:(k:Int)<2^n:=by rw[<-c5.out];exact_mod_cast hlt
    have d0:=fM P k;have e5:∀W,aK W (aA a l.length c) l->Calls prog 100 #[aA a l.length c,(k:Int)] W fun e w'=>e=.returned (.bool (P k))/\W=w':=fun W hW=>by rw[HP.out];exact WM l _ k W hW HM.out aD aD
    have j6:(cD P k).length<=64:=Nat.le_trans (jO P k) aD;have b7:=aH d0;have b9:=aH e5;clear d0 e5
    cases R:P k with
    |false=>
     have I:=aH R;clear R;go_wp2_with (go_at_call 100;refine(b9.out _ (e6.below B aI)).mono ?_;rintro e w' ⟨rfl,rfl⟩;rw[I.out]);go_roundw
     case rel=>exact⟨k+1,ad,nn,M,by omega,rfl,by go_num,by rw[b7.out,I.out];exact HO.out,B⟩
     case measure=>simp[intOf];omega
    |true=>
     have I:=aH R;clear R;go_wp2_with (first
      |(go_at_call 100;refine(b9.out _ (e6.below B aI)).mono ?_;rintro e w' ⟨rfl,rfl⟩;rw[I.out])
      |(at_builtin;refine dA rfl _ _ _ rfl 3 underlying25 aN w1.heap.size _ _ (k:Int) wr.heap.size rfl rfl (aZ wr #[k] 3 0 _ rfl) (HO.out.alloc _) ⟨by omega,by omega⟩ aD (by first|omega|(simp;done)|(simp;omega)) ?_;intro v' w6 a7 g6;obtain⟨av,nv,cv,rfl⟩:=a7.shape3))
     have B6:Below w1 w1 w6:=(B.alloc B.size (.cells #[k] 3)).grown g6 aT (fun q hq=>(HO.out.lt q hq).1);go_roundw
     case rel=>exact⟨k+1,av,nv,cv,by omega,rfl,by go_num,by rw[b7.out,I.out];exact a7,B6⟩
     case measure=>simp[intOf];omega
   ·have e0:¬(k:Int)<2^n:=by rw[<-c5.out];exact_mod_cast hlt
    have g7:k=N:=aD;subst g7;have e4:∀(W:World),aK W (aA ad nn M) (cD P k)->Calls prog 101 #[aA ad nn M] W fun e w'=>
      ∃c6 i' c7,e=.returned (aA c6 i' c7)/\aM 3 W w' (aA c6 i' c7) (jR (cD P k))/\Below W W w':=fun W hW=>by
     have:=wR (cD P k) _ W hW b6.out.1 b6.out.2;rw[b8.out]at this;exact this
    have f7:=aH e4;have D:=F.keep B;have y2:=D.lt;have g9:=HO.out.ints;have k4:w.heap.size<wr.heap.size:=aD;clear e4;go_wp2_with fail;have G2:=D.cell;have F2:=D.frozen;go_region_held3 (fun w'=>(∀i,w'.cell? ⟨w.heap.size,i,none⟩=(#[aG n,aA a l.length c]:Array Value)[i]?)) (go_keep)
     (first
      |(go_at_call 101;refine(f7.out _ (g9.below (B:=wr.heap.size) (by repeat(first|exact Below.refl _ _|(with_reducible refine Below.setCell ?_ (by first|omega|(simp;done)|(simp;omega)) _)|(with_reducible refine Below.alloc ?_ (by first|omega|(simp;done)|(simp;omega)) _)|(with_reducible refine Below.drewN' ?_ _)|(with_reducible refine Below.drew ?_)|(with_reducible assumption)|refine Below.trans ?_ (Below.mono (by assumption) (by first|omega|(simp;done)|(simp;omega))))) aI)).mono ?_;rintro e w3 ⟨p3,i3,q3,rfl,o3,Y⟩;obtain⟨g2,g5⟩:=gN Y wr.heap.size (by first|omega|(simp;done)|(simp;omega));have z3:=Y.size;(try simp at z3)))
    go_wp2;refine bN ?_;intro Wf z;have a8:aP Wf (w.heap.size+1) 29 #[n,aA p3 i3 q3]:=by rw[z];have:=(((D.drewN 1).keep Y).set 0 (aG n)).set 1 (aA p3 i3 q3);simpa using this
    have yy:=B1.size;have Bf:Below w w Wf:=by rw[z];exact Below.setCell (Below.setCell (((B1.after B B1.size).drewN' 1).after Y (by first|omega|(simp;done)|(simp;omega))) (by first|omega|(simp;done)|(simp;omega)) _) (by first|omega|(simp;done)|(simp;omega)) _
    have of:aM 3 w Wf (aA p3 i3 q3) (jR (cD P k)):=by rw[z];exact((o3.setBelow (by first|omega|(simp;done)|(simp;omega)) _).setBelow (by first|omega|(simp;done)|(simp;omega)) _).mono (by first|omega|(simp;done)|(simp;omega))
    have Gf:=a8.cell;clear z G1 G2 F2 g2 g5;exact bodyPost_ret (v:=.tuple #[.agg #[n,aA p3 i3 q3],.bool true]) (by simp[results,results53,go_sem,Gf]) rfl ⟨p3,i3,q3,by rw[HN.out,HF.out],by rw[HL.out,b5.out];exact of,Bf⟩
end
end Go.Proofs.YtkdbkjjacgigiaaGreatDoor
