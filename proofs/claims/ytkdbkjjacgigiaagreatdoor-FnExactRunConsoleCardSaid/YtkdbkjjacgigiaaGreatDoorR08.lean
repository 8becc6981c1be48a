/- Lemmas for CardRunConsole. No condition. -/
import Derived.Test.YtkdbkjjacgigiaaGreatDoorR07
set_option maxRecDepth 100000
set_option maxHeartbeats 64000000
namespace Go.Proofs.YtkdbkjjacgigiaaGreatDoor
section
open Go.RowKit Go.G5 Go.Proofs.Tryz
variable(w:World)(n:Int)(v:Value)(l:aI)
def rJ(l x:List Int):Nat->Bool
 |0=>true
 |k+1=>rJ l x k&&decide (0<=fT l x k)
def oP(n:Int)(l x:List Int):Bool:=gP n l&&jY n x&&rJ l x l.length
theorem NV(l x:aI)(k:Nat)(h:fT l x k<0):∀m,k<m->rJ l x m=false:=by
 intro m
 induction m with
 |zero=>intro h;omega
 |succ m ih=>
  intro hm;rw[rJ];by_cases z:k<m
  .rw[ih z];rfl
  .have:m=k:=aA;subst this;rw[bG aA];simp
theorem aeJ(l x:aI):∀m,rJ l x m=true->∀k:Nat,k<m->0<=fT l x k:=by
 intro m
 induction m with
 |zero=>intro _ k hk;omega
 |succ m ih=>
  intro h k hk;rw[rJ]at h;obtain⟨h1,h2⟩:=Bool.and_eq_true_iff.1 h;by_cases z:k<m
  .exact ih h1 k z
  .have:k=m:=aA;subst this;exact eD h2
theorem LF(hv:Ints w v l)(u:Value)(x:aI)(hu:Ints w u x):
  aH 342 #[aM #[n,v],u] w (aG (oP n l x)):=by
 obtain⟨av,cv,rfl⟩:=hv.shape;obtain⟨au,cu,rfl⟩:=hu.shape;go_enter func342,ntmps342;go_wp2_with fail;refine aV (A8 n l _ _ (hv.alloc _)) ?_;intro w1 K;have X1:=(Box2.new w n (aD av l cv) 27).after K;clear K
 cases hg:gP n l with
 |false=>
  have I:oP n l x=false:=by unfold oP;rw[hg];rfl
  have J:=aT I;obtain⟨D,d1,z,F⟩:=X1;clear I;go_wp2;go_ret;exact⟨by rw[J.out];rfl,z⟩
 |true=>
  obtain⟨h0,h5,hl,S⟩:=nE (LC hg);have hp:=nX h0 h5;have R:l.length<=64:=aA;have a9:=aT S;clear hl S hp;obtain⟨D,d1,z,F⟩:=X1;go_wp2_with fail;refine aV (QM n l _ x _ _ (hv.below z aU) (hu.below z aU)) ?_;intro w2 M;have X2:=(Box2.mk D d1 z F).after M;clear M D d1 z F
  cases hlo:jY n x with
  |false=>
   have I:oP n l x=false:=by unfold oP;rw[hg,hlo];rfl
   have J:=aT I;obtain⟨D,d1,z,F⟩:=X2;clear I;go_wp2;go_ret;exact⟨by rw[J.out];rfl,z⟩
  |true=>
   obtain⟨b4,a1⟩:=QY hlo;have a6:x.length<=6:=aA;have I:oP n l x=rJ l x l.length:=by unfold oP;rw[hg,hlo];rfl
   have J:=aT I;have b0:=aT a1;clear I a1 b4;obtain⟨D,d1,z,F⟩:=X2;go_wp2_with fail;go_loopw [18] (fun i wr=>∃k:Nat,k<=l/\i=aO k/\rJ l x k=true/\Box2 w wr n (aD av l cv)) (fun i _=>l.length-(intOf i).toNat)
   .exact⟨0,aZ _,rfl,rfl,⟨D,d1,z,F⟩⟩
   obtain⟨k,hk,rfl,Z,X⟩:=hrel;have HO:=aT Z;clear Z D d1 z F;obtain⟨D,d1,z,F⟩:=X;by_cases hlt:k<l
   .have Y:(k:Int)<(l.length:Int):=aA;go_wp2_with fail;refine aV (VV n l _ x _ k _ (hv.below z aU) (hu.below z aU) aA aA R a9.out b0.out a6) ?_;intro w3 N;have X3:=(Box2.mk D d1 z F).after N;clear N D d1 z F;by_cases b1:fT l x k<0
    .go_wp2;go_ret;refine⟨cP ?_,X3.B⟩;rw[J.out,NV l x k b1 _ hlt]
    .go_wp2
     go_roundw
     .exact⟨k+1,aA,cD,by rw[rJ,HO.out,bH aA];rfl,X3⟩
     exact aY
   .have Y:¬(k:Int)<(l.length:Int):=aA;have O:k=l.length:=aA;have HK:=aT O;clear O;go_wp2;go_ret;exact⟨cP (by rw[J.out,<-HK.out,HO.out]),z⟩
theorem LG(hv:Ints w v l)(u:Value)(x:aI)(hu:Ints w u x):
  aH 124 #[aM #[n,v],u] w (aG (oP n l x)):=by
 obtain⟨a,b,e6,c,rfl,b6,e4,hc,hb⟩:=hv.vw;obtain⟨au,cu,rfl⟩:=hu.shape;go_enter func124,ntmps124;go_wp2_with fail;refine aV (A9 n l _ _ (hv.alloc _)) ?_;intro w1 O;have X1:=(Box2.new w n (aD a l c) 27).after O;clear O;have e0:=bY hc hb X1.B aU;have D:=hu.below X1.B aU;clear hc
 cases R:gP n l with
 |false=>
  have F:oP n l x=false:=by unfold oP;rw[R];rfl
  have K:=aT F;obtain⟨d0,d1,N,z1⟩:=X1;clear F;go_wp2;go_ret;exact⟨by rw[K.out];rfl,N⟩
 |true=>
  obtain⟨h0,h5,hl,Y⟩:=nE (LC R);have hp:=nX h0 h5;have b5:l.length<=64:=aA;have c5:=aT Y;clear hl Y;obtain⟨d0,d1,N,z1⟩:=X1;by_cases z:(x.length:Int)=n
  .have b0:((x.length:Int) != n)=false:=by simp[z]
   have b1:x.length<=5:=aA;have c6:=aT z
   cases J:nC x (-5000) 5000 with
   |false=>
    have F:oP n l x=false:=by unfold oP jY;rw[R,J];simp
    have K:=aT F;clear F z;go_wp2_with (go_at_call 125;refine aV (DF x _ _ D) ?_;rintro w' rfl;rw[J]);go_ret;exact⟨by rw[K.out];rfl,N⟩
   |true=>
    have hlo:jY n x=true:=by unfold jY;rw[J,bH z];rfl
    obtain⟨_,a7⟩:=QY hlo;have F:oP n l x=rJ l x l.length:=by unfold oP;rw[R,hlo];rfl
    have K:=aT F;have I:=aT a7;have a9:decide (x.length<=5)=true:=bH b1;clear F a7 z hlo;go_wp2_with (go_at_call 125;refine aV (DF x _ _ D) ?_;rintro w' rfl;rw[J,a9]);go_loopw [5] (fun i wr=>∃k m:Nat,k<=l/\i=aO k/\rJ l x k=true/\wr=w1.drewN m) (fun i _=>l.length-(intOf i).toNat)
    .exact⟨0,0,aZ _,rfl,rfl,rfl⟩
    obtain⟨k,m,hk,rfl,a1,rfl⟩:=hrel;have HO:=aT a1;clear a1;by_cases hlt:k<l
    .have Z:(k:Int)<(l.length:Int):=aA;have a6:fT l x k=l[k]-wt x k:=by unfold fT;simp[hlt]
     have HS:=aT a6;clear a6;by_cases e5:wt x k>l[k]
     .go_wp2;go_quiet ((go_at_call 168;first|exact kH (wZ x _ _ _ (D.drewN _) aA aA (fun j M=>by have:=I.out j M;omega) aA)|exact lO (wZ x _ _ _ (D.drewN _) aA aA (fun j M=>by have:=I.out j M;omega) aA)));go_wp2;go_ret;refine⟨cP ?_,(N.drewN' _).drewN' _⟩;rw[K.out,NV l x k (by rw[HS.out];omega) _ hlt]
     .go_wp2;go_quiet ((go_at_call 168;first|exact kH (wZ x _ _ _ (D.drewN _) aA aA (fun j M=>by have:=I.out j M;omega) aA)|exact lO (wZ x _ _ _ (D.drewN _) aA aA (fun j M=>by have:=I.out j M;omega) aA)));go_wp2;go_roundw
      .exact⟨k+1,m+nq,aA,cD,by rw[rJ,HO.out,bH (by rw[HS.out];omega)];rfl,bF⟩
      exact aY
    .have Z:¬(k:Int)<(l.length:Int):=aA;have S:k=l.length:=aA;have HK:=aT S;clear S;go_wp2;go_ret;exact⟨cP (by rw[K.out,<-HK.out,HO.out]),N.drewN' _⟩
  .have b0:((x.length:Int) != n)=true:=by simp[z]
   have F:oP n l x=false:=by unfold oP jY;rw[R,bG z];rfl
   have K:=aT F;clear F z;go_wp2;go_ret;exact⟨by rw[K.out];rfl,N⟩
def wP(n:Int)(l:List Int):Bool:=cS n l&&iW n (mP l)
theorem ao9(v:Value)(w:World)(R:Ints w v l)(hl:l.length<=1048576):
  aH 185 #[aM #[n,v]] w (aG (wP n l)):=by
 obtain⟨a,c,rfl⟩:=R.shape;go_enter func185,ntmps185;go_wp2_with fail;refine(atD _ n _ l (R.alloc _) hl).mono ?_;rintro e w1 ⟨p1,Y,Z,rfl,S,F⟩;have z:Below w w w1:=(cQ _ _).after F bF;clear F
 cases D:cS n l with
 |false=>
  have I:wP n l=false:=by unfold wP;rw[D];rfl
  have J:=aT I;clear I D;go_wp2;go_ret;exact⟨by rw[J.out];rfl,z.after (cQ _ _) z.size⟩
 |true=>
  have I:wP n l=iW n (mP l):=by unfold wP;rw[D];rfl
  have O:EL n l=n:=by unfold EL;rw[D];rfl
  have N:EK n l=mP l:=by unfold EK;rw[D];rfl
  rw[N]at S;rw[O];have M:(mP l).length<=1048576:=by rw[xT];exact hl
  have J:=aT I;clear I O N D;go_wp2_with fail;refine aV (tP n (mP l) _ _ (S.ints.alloc _) M) ?_;intro w2 K;go_wp2;go_ret;exact⟨by rw[J.out];rfl,(z.after (cQ _ _) z.size).after K (z.after (cQ _ _) z.size).size⟩
theorem apA(v:Value)(w:World)(R:Ints w v l)(hl:l.length<=1048576):
  aH 44 #[aM #[n,v]] w (aG (wP n l)):=by
 obtain⟨a,c,rfl⟩:=R.shape;go_enter func44,ntmps44;go_wp2_with fail;refine(atE _ n _ l (R.alloc _) hl).mono ?_;rintro e w1 ⟨p1,Y,Z,rfl,S,F⟩;have z:Below w w w1:=(cQ _ _).after F bF;clear F
 cases D:cS n l with
 |false=>
  have I:wP n l=false:=by unfold wP;rw[D];rfl
  have J:=aT I;clear I D;go_wp2;go_ret;exact⟨by rw[J.out];rfl,z.after (cQ _ _) z.size⟩
 |true=>
  have I:wP n l=iW n (mP l):=by unfold wP;rw[D];rfl
  have O:EL n l=n:=by unfold EL;rw[D];rfl
  have N:EK n l=mP l:=by unfold EK;rw[D];rfl
  rw[N]at S;rw[O];have M:(mP l).length<=1048576:=by rw[xT];exact hl
  have J:=aT I;clear I O N D;go_wp2_with fail;refine aV (tQ n (mP l) _ _ (S.ints.alloc _) M) ?_;intro w2 K;go_wp2;go_ret;exact⟨by rw[J.out];rfl,(z.after (cQ _ _) z.size).after K (z.after (cQ _ _) z.size).size⟩
def dT(b x:List Int):List Int:=if b.length<x.length then x else b
def GW(s u:Int):Bool:=s != 0&&cU s u==0
def mG:List Int->Int->List Int->List Int->List Int
 |[],_,_,b=>b
 |s::r,u,c,b=>if GW s u then mG r u c (dT b (mG r (gO u s) (c++[s]) (c++[s]))) else mG r u c b
def mR:List Int->Int->List Int->List Int->List Int
 |[],_,_,b=>b
 |s::r,u,c,b=>if GW s u then mR r u c (mR r (gO u s) (c++[s]) (dT b (c++[s]))) else mR r u c b
theorem LM(a b c:aI):dT (dT a b) c=dT a (dT b c):=by
 unfold dT;by_cases h1:a.length<b.length
 .by_cases h2:b.length<c.length
  .rw[if_pos h1,if_pos h2,if_pos aA]
  .rw[if_pos h1,if_neg h2,if_pos h1]
 .by_cases h2:b.length<c.length
  .rw[if_neg h1,if_pos h2]
  .rw[if_neg h1,if_neg h2,if_neg h1,if_neg aA]
theorem JI:∀(r:aI) (u:Int) (c b x:aI),mR r u c (dT b x)=dT b (mG r u c x)
 |[],_,_,_,_=>rfl
 |s::r,u,c,b,x=>by
  rw[mR,mG]
  split
  .rw[JI r (gO u s) (c++[s]) (dT b x) (c++[s]),LM,JI r u c b]
  .exact JI r u c b x
theorem yC(N:Nat):∀(r:aI) (u:Int) (c b:aI),c.length+r.length<=N->b.length<=N->(mG r u c b).length<=N
 |[],_,_,_,_,h=>h
 |s::r,u,c,b,h1,h2=>by
  rw[jZ]at h1;rw[mG]
  split
  .refine yC N r u c _ aA ?_;have h3:=yC N r (gO u s) (c++[s]) (c++[s]) bO bO;unfold dT
   split<;>assumption
  .exact yC N r u c b aA h2
def wF(l:List Int):List Int:=mG l 0 [] []
theorem alP:mR l 0 [] []=wF l:=by
 have h:=JI l 0 [] [] [];have e:dT [] []=([]:aI):=rfl;rw[e]at h;rw[h];unfold dT wF
 split
 .rfl
 .rename_i D;have z:(mG l 0 [] []).length=0:=by simpa using D
  exact(eS z).symm
def oN(g:Int)(l:List Int):List Int:=if cO g l then wF l else []
def uH(a b:Int):Bool:=cU a b != 0&&dQ a b != 0&&dQ b a != 0
def PZ(a b:Int):Bool:=cU a b != 0&&cU a b != a&&cU a b != b
def O4(l:List Int):Bool:=dP (fun i=>dP (fun j=>decide (j<=i)||!uH (l.getD i 0) (l.getD j 0)) l.length) l.length
def xS(g:Int)(l:List Int):Bool:=cO g l&&O4 l
def ZN(l:List Int):Bool:=dP (fun i=>dP (fun k=>!PZ (l.getD i 0) (l.getD k 0)) i) l.length
theorem XD{p:Nat->Bool}{n:Nat}(h:∀k,k<n->p k=true):dP p n=true:=by
 induction n with
 |zero=>rfl
 |succ n ih=>exact fJ (ih fun k hk=>h k aA) (h n aA)
theorem UO(a b:Int)(w:World)(D:0<=a/\a<64)(hb:0<=b/\b<64):
  Calls prog 354 #[a,b] w fun e w'=>e=aQ (aG (uH a b))/\w=w':=by
 have M:=fV D.1 (show a<4611686018427387904 from aA) hb.1 aA;have hB:=nR D.1 D.2 hb.1 hb.2;have hC:=nR hb.1 hb.2 D.1 D.2;obtain⟨x,I⟩:=aW (cU a b);obtain⟨y,J⟩:=aW (dQ a b);obtain⟨z,K⟩:=aW (dQ b a);rw[<-I]at M;rw[<-J]at hB;rw[<-K]at hC;have hr:uH a b=((x != 0)&&(y != 0)&&(z != 0)):=by unfold uH;rw[I,J,K]
 have F:=aT hr;clear hr I J K;go_enter func354,ntmps354
 cases h1:(x != 0) with
 |false=>go_wp2;go_ret;exact⟨cP (by rw[F.out,h1];rfl),rfl⟩
 |true=>
  cases h2:(y != 0) with
  |false=>go_wp2;go_ret;exact⟨cP (by rw[F.out,h1,h2];rfl),rfl⟩
  |true=>go_wp2;go_ret;exact⟨cP (by rw[F.out,h1,h2];rfl),rfl⟩
theorem SU(v:Value)(w:World)(hv:Ints w v l)(hm:∀x∈l,0<=x/\x<64):
  Calls prog 306 #[v] w fun e w'=>(∃x y,e=aQ (aS #[x,y,aG (!O4 l)]))/\w=w':=by
 obtain⟨a,b,a8,c,rfl,Y,a1,hc,hb⟩:=hv.vw;have S:=aT hm;clear hm;go_enter func306,ntmps306;go_wp2;go_loop [10] (fun i=>∃k:Nat,k<=l/\i=aO k/\dP (fun i=>dP (fun j=>decide (j<=i)||!uH (l.getD i 0) (l.getD j 0)) l.length) k=true) (fun i=>l.length-(intOf i).toNat)
 .exact⟨0,aZ _,rfl,rfl⟩
 obtain⟨k,hk,rfl,D⟩:=hrel;have H:=aT D;clear D;by_cases hlt:k<l
 .have N:=S.out _ (aX hlt);go_wp2;go_loop [7] (fun j=>∃q:Nat,k+1<=q/\q<=l/\j=aO q/\dP (fun j=>decide (j<=k)||!uH (l.getD k 0) (l.getD j 0)) q=true) (fun j=>l.length-(intOf j).toNat)
  .exact⟨k+1,aA,aA,cD,XD fun j hj=>by simp[show j<=k from aA]⟩
  obtain⟨q,a6,hq,rfl,F⟩:=hrel;have R:=aT F;clear F;by_cases z:q<l
  .have O:=S.out _ (aX z);have hcl:=UO l[k] l[q] w N O
   cases K:uH l[k] l[q]with
   |true=>
    have I:(decide (q<=k)||!uH (l.getD k 0) (l.getD q 0))=false:=by rw[cJ l k hlt,cJ l q z,K];simp;omega
    have J:O4 l=false:=eT (p:=fun i=>dP (fun j=>decide (j<=i)||!uH (l.getD i 0) (l.getD j 0)) l.length) hlt (eT (p:=fun j=>decide (j<=k)||!uH (l.getD k 0) (l.getD j 0)) z I);have M:=aT J;clear I J;rw[K]at hcl;go_wp2_with (go_at_call 354;refine aV hcl ?_;rintro w' rfl);refine bW (v:=aS #[k,q,aG true]) (by simp[results,results306,go_sem]) rfl ⟨⟨_,_,by rw[M.out];rfl⟩,rfl⟩
   |false=>
    have I:(decide (q<=k)||!uH (l.getD k 0) (l.getD q 0))=true:=by rw[cJ l k hlt,cJ l q z,K];simp
    have Z:=aT I;clear I;rw[K]at hcl;go_wp2_with (go_at_call 354;refine aV hcl ?_;rintro w' rfl);go_round
    .exact⟨q+1,aA,aA,cD,fJ R.out Z.out⟩
    exact aY
  .go_wp2
   go_round
   .exact⟨k+1,aA,cD,fJ H.out (by rw[show l.length=q from aA];exact R.out)⟩
   exact aY
 .have J:O4 l=true:=by unfold O4;rw[<-show k=l.length from aA];exact(show k=l.length from aA)▸H.out
  have M:=aT J;clear J;go_wp2;refine bW (v:=aS #[aK,aK,aG false]) (by simp[results,results306,go_sem]) rfl ⟨⟨_,_,by rw[M.out];rfl⟩,rfl⟩
theorem WQ(g:Int)(l:aI)(v:Value)(w:World)(K:Ints w v l):
  aH 225 #[aM #[g,v]] w (aG (xS g l)):=by
 obtain⟨a,c,rfl⟩:=K.shape;have N:=Box2.new w g (aD a l c) 29;go_enter func225,ntmps225;go_wp2_with fail;refine aV (eP g l _ _ (K.alloc _)) ?_;intro w1 z;obtain⟨O,d1,F,R⟩:=N.after z;have M:=K.below F aU;clear z N
 cases J:cO g l with
 |false=>
  have D:xS g l=false:=by unfold xS;rw[J];rfl
  have I:=aT D;clear D;go_wp2;go_ret;exact⟨by rw[I.out];rfl,F⟩
 |true=>
  have D:xS g l=O4 l:=by unfold xS;rw[J];rfl
  have hcl:=SU l _ w1 M (fS J);have I:=aT D;clear D;go_wp2_with (go_at_call 306;refine hcl.mono ?_;rintro e w' ⟨⟨x,y,rfl⟩,rfl⟩);go_ret;exact⟨cP (by rw[I.out]),F⟩
theorem ZV{p:Prop}(h:p:=by
  have K:=aT D;clear D;go_wp2;go_quiet (fail);go_wp2;go_roundw
  .exact⟨q+1,n+nq,aA,cD,bF,fJ S.out K.out⟩
  exact aY):p:=h
theorem S5(v:Value)(w:World)(hv:Ints w v l)(hm:∀x∈l,0<=x/\x<64):
  aH 106 #[v] w (aG (ZN l)):=by
 obtain⟨a,b,a8,c,rfl,Z,a6,hc,hb⟩:=hv.vw;have Y:=aT hm;clear hm;go_enter func106,ntmps106;go_wp2;go_loopw [3] (fun i wr=>∃k m:Nat,k<=l.length/\i=aO k/\wr=w.drewN m/\dP (fun i=>dP (fun k=>!PZ (l.getD i 0) (l.getD k 0)) i) k=true) (fun i _=>l.length-(intOf i).toNat)
 .exact⟨0,0,aZ _,rfl,rfl,rfl⟩
 obtain⟨k,m,hk,rfl,rfl,z⟩:=hrel;have H:=aT z;clear z;by_cases hlt:k<l.length
 .have N:=Y.out _ (aX hlt);go_wp2;go_loopw [4] (fun j wr=>∃q n:Nat,q<=k/\j=aO q/\wr=w.drewN n/\dP (fun q=>!PZ (l.getD k 0) (l.getD q 0)) q=true) (fun j _=>k-(intOf j).toNat)
  .exact⟨0,m,aA,rfl,rfl,rfl⟩
  obtain⟨q,n,hq,rfl,rfl,F⟩:=hrel;have S:=aT F;clear F;by_cases M:q<k
  .have I:q<l.length:=aA;have O:=Y.out _ (aX I);have hA:=fV N.1 (show l[k]<4611686018427387904 from aA) O.1 (show l[q]<4611686018427387904 from aA);obtain⟨x,R⟩:=aW (cU l[k] l[q]);rw[<-R]at hA;have hr:PZ (l.getD k 0) (l.getD q 0)=((x != 0)&&(x != l[k])&&(x != l[q])):=by rw[cJ l k hlt,cJ l q I];unfold PZ;rw[R]
   have J:=aT hr;clear hr R
   cases h1:(x != 0) with
   |false=>
    have D:(!PZ (l.getD k 0) (l.getD q 0))=true:=by rw[J.out,h1];rfl
    exact ZV
   |true=>
    cases h2:(x != l[k]) with
    |false=>
     have D:(!PZ (l.getD k 0) (l.getD q 0))=true:=by rw[J.out,h1,h2];rfl
     exact ZV
    |true=>
     cases h3:(x != l[q]) with
     |false=>
      have D:(!PZ (l.getD k 0) (l.getD q 0))=true:=by rw[J.out,h1,h2,h3];rfl
      exact ZV
     |true=>
      have D:(!PZ (l.getD k 0) (l.getD q 0))=false:=by rw[J.out,h1,h2,h3];rfl
      have K:=aT D;clear D;go_wp2;go_quiet (fail);go_wp2;go_ret;exact⟨cP (eT (p:=fun i=>dP (fun k=>!PZ (l.getD i 0) (l.getD k 0)) i) hlt (eT (p:=fun q=>!PZ (l.getD k 0) (l.getD q 0)) M K.out)).symm,(bJ _ _).drewN' _⟩
  .go_wp2
   go_roundw
   .exact⟨k+1,n,aA,cD,rfl,fJ H.out (by rw[show k=q from aA];exact(show k=q from aA)▸S.out)⟩
   exact aY
 .go_wp2;go_ret;exact⟨cP (by unfold ZN;rw[show l.length=k from aA,H.out]),(bJ _ _).drewN' _⟩
theorem QJ{w:World}{a:Option Addr}{c:Nat}{l:aI}(h:Ints w (aD a l c) l)(P:Program)(T E:TypeId)(F:P.underlying T=some (.slice E)){b D:Nat}
  (I:∀(w':World) (k:Nat),k<l->(Instr.indexAt T (aD a l c) (aO (k:Int))).run P w'=.ok (aP (some ⟨b,D+k,none⟩)) w') (k:Nat) (hk:k<=l):
  ∀(w':World) (q:Nat),q<k->(Instr.indexAt T (aD a k c) (aO (q:Int))).run P w'=.ok (aP (some ⟨b,D+q,none⟩)) w':=by
 intro w' q S;have K:=I w' q aA;have M:P.elem T=E:=by simp[Program.elem,F]
 obtain⟨O,R,N,h1,h2,_,h4⟩:=h;simp only[Value.slice.injEq]at N;obtain⟨rfl,_,rfl⟩:=N;rcases h4 with rfl|⟨J,z,rfl,_,_⟩
 .simp at hk;omega
 .rw[run_indexAt_slice w' T ⟨J,z,none⟩ l.length c .i64 q (by rw[M];exact F),if_pos ⟨aA,aA⟩]at K;rw[run_indexAt_slice w' T ⟨J,z,none⟩ k c .i64 q (by rw[M];exact F),if_pos ⟨aA,aA⟩];exact K
def oH(a b:Int):Bool:=dQ a b != 0&&dQ b a != 0
def MQ(l:List Int):Bool:=dP (fun i=>dP (fun j=>oH (l.getD i 0) (l.getD j 0)) i) l.length
def uT(g:Int)(l:List Int):Bool:=cO g l&&MQ l
def CH(l:List Int)(i:Nat):Bool:=dP (fun k=>k==i||cU (l.getD k 0) (l.getD i 0) != l.getD k 0) l.length
def qV(l:List Int):Nat->List Int
 |0=>[]
 |k+1=>if CH l k then qV l k++[l.getD k 0] else qV l k
def xG(l:List Int):Bool:=(qV l l.length).length==l.length
theorem Z2(k:Nat):(qV l k).length<=k:=by
 induction k with
 |zero=>exact aU
 |succ k ih=>
  rw[qV]
  split
  .rw[bN];simp only[List.length_cons,List.length_nil];omega
  .omega
theorem UJ(a b:Int)(w:World)(D:0<=a/\a<64)(hb:0<=b/\b<64):
  Calls prog 308 #[a,b] w fun e w'=>e=aQ (aG (oH a b))/\w=w':=by
 have hB:=nR D.1 D.2 hb.1 hb.2;have hC:=nR hb.1 hb.2 D.1 D.2;obtain⟨y,F⟩:=aW (dQ a b);obtain⟨z,I⟩:=aW (dQ b a);rw[<-F]at hB;rw[<-I]at hC;have hr:oH a b=((y != 0)&&(z != 0)):=by unfold oH;rw[F,I]
 have J:=aT hr;clear hr F I;go_enter func308,ntmps308
 cases h2:(y != 0) with
 |false=>go_wp2;go_ret;exact⟨cP (by rw[J.out,h2];rfl),rfl⟩
 |true=>go_wp2;go_ret;exact⟨cP (by rw[J.out,h2];rfl),rfl⟩
theorem afE(g:Int)(l:aI)(v:Value)(w:World)(N:Ints w v l):
  aH 228 #[aM #[g,v]] w (aG (uT g l)):=by
 obtain⟨a,b,c5,c,rfl,b6,Y,hc,hb⟩:=N.vw;have b4:=N.capLe;have X0:=Box2.new w g (aD a l c) 29;go_enter func228,ntmps228;go_wp2_with fail;refine aV (eP g l _ _ (N.alloc _)) ?_;intro w1 J;obtain⟨d0,d1,I,z1⟩:=X0.after J;have b9:=bY hc hb I aU;have a9:=N.below I aU;clear hc hb J X0
 cases S:cO g l with
 |false=>
  have D:uT g l=false:=by unfold uT;rw[S];rfl
  have M:=aT D;clear D;go_wp2;go_ret;exact⟨by rw[M.out];rfl,I⟩
 |true=>
  have hm:=fS S;have D:uT g l=MQ l:=by unfold uT;rw[S];rfl
  have M:=aT D;have HM:=aT hm;clear D hm;go_wp2_with fail;go_loop [13] (fun i=>∃k:Nat,k<=l/\i=aO k/\dP (fun i=>dP (fun j=>oH (l.getD i 0) (l.getD j 0)) i) k=true) (fun i=>l.length-(intOf i).toNat)
  .exact⟨0,aZ _,rfl,rfl⟩
  obtain⟨k,hk,rfl,z⟩:=hrel;have H:=aT z;clear z;by_cases hlt:k<l
  .have a6:=HM.out _ (aX hlt);have b5:=QJ a9 prog 25 3 underlying25 Y k hk;go_wp2;go_loop [23] (fun j=>∃q:Nat,q<=k/\j=aO q/\dP (fun j=>oH (l.getD k 0) (l.getD j 0)) q=true) (fun j=>k-(intOf j).toNat)
   .exact⟨0,aA,rfl,rfl⟩
   obtain⟨q,hq,rfl,K⟩:=hrel;have HI:=aT K;clear K;by_cases a8:q<k
   .have F:q<l:=aA;have a7:=HM.out _ (aX F);have hcl:=UJ l[k] l[q] w1 a6 a7
    cases O:oH l[k] l[q]with
    |false=>have D:MQ l=false:=eT (p:=fun i=>dP (fun j=>oH (l.getD i 0) (l.getD j 0)) i) hlt (eT (p:=fun j=>oH (l.getD k 0) (l.getD j 0)) a8 (by rw[cJ l k hlt,cJ l q F];exact O));have R:=aT D;clear D;rw[O]at hcl;go_wp2_with (go_at_call 308;refine aV hcl ?_;rintro w' rfl);go_ret;exact⟨cP (by rw[M.out,R.out]),I⟩
    |true=>
     have hp:oH (l.getD k 0) (l.getD q 0)=true:=by rw[cJ l k hlt,cJ l q F];exact O
     have HP:=aT hp;clear hp;rw[O]at hcl;go_wp2_with (go_at_call 308;refine aV hcl ?_;rintro w' rfl);go_round
     .exact⟨q+1,aA,cD,fJ HI.out HP.out⟩
     exact aY
   .have a1:k=q:=aA;go_wp2;go_round
    .exact⟨k+1,aA,cD,fJ H.out (by subst a1;exact HI.out)⟩
    exact aY
  .have Z:l.length=k:=aA;go_wp2;go_ret;exact⟨cP (by rw[M.out];unfold MQ;rw[Z,H.out]),I⟩
theorem wB(v:Value)(w:World)(hv:Ints w v l)(hm:∀x∈l,0<=x/\x<64)(e4:l.length<=64):
  Calls prog 101 #[v] w fun e w'=>∃ad i I,e=aQ (aD ad i I)/\bB 3 w w' (aD ad i I) (qV l l.length)/\Below w w w':=by
 obtain⟨a,b,e9,c,rfl,b8,e0,hc,hb⟩:=hv.vw;have HM:=aT hm;clear hm;have o0:=bB.lit0 (E:=3) (B:=w.heap.size) w aU;go_enter func101,ntmps101;go_wp2;go_loopw [3,4] (fun out i wr=>∃(k:Nat) (ad:Option Addr) (S I:Nat),k<=l/\out=aD ad S I/\i=aO k/\bB 3 w wr (aD ad S I) (qV l k)/\Below w w wr)
  (fun _ i _=>l.length-(intOf i).toNat)
 .exact⟨0,_,_,_,aZ _,rfl,rfl,o0,cQ _ _⟩
 obtain⟨k,ad,S,I,hk,rfl,rfl,ho,B⟩:=hrel;have Y:=aT ho;clear ho;have d0:=bY hc hb B aU;by_cases hlt:k<l
 .have b1:=HM.out _ (aX hlt);have J:qV l (k+1)=if CH l k then qV l k++[l[k]] else qV l k:=by rw[qV,cJ l k hlt]
  have b4:=Z2 l k;have HN:=aT J;clear J;go_wp2;go_loopw [5,6] (fun f j w2=>∃(q n:Nat),q<=l/\j=aO q/\f=aG (dP (fun z=>z==k||cU (l.getD z 0) (l.getD k 0) != l.getD z 0) q)/\w2=wr.drewN n) (fun _ j _=>l.length-(intOf j).toNat)
  .exact⟨0,0,aZ _,rfl,rfl,rfl⟩
  obtain⟨q,n,hq,rfl,rfl,rfl⟩:=hrel;by_cases O:q<l
  .have b3:=HM.out _ (aX O);have hA:=fV b3.1 (show l[q]<4611686018427387904 from aA) b1.1 (show l[k]<4611686018427387904 from aA);have hs:dP (fun z=>z==k||cU (l.getD z 0) (l.getD k 0) != l.getD z 0) (q+1)=(dP (fun z=>z==k||cU (l.getD z 0) (l.getD k 0) != l.getD z 0) q&&(q==k||cU l[q] l[k] != l[q])):=by rw[dP,cJ l k hlt,cJ l q O]
   obtain⟨x,hx⟩:=aW (cU l[q] l[k]);rw[<-hx]at hA hs;have HS:=aT hs;clear hs hx
   cases h0:dP (fun z=>z==k||cU (l.getD z 0) (l.getD k 0) != l.getD z 0) q with
   |false=>
    have N:=aT h0;clear h0;go_wp2;go_quiet (fail);go_wp2;go_roundw
    .exact⟨q+1,n+nq,aA,cD,by rw[HS.out,N.out];rfl,bF⟩
    exact aY
   |true=>
    have N:=aT h0;clear h0;by_cases M:q=k
    .have ht:((q:Int)==(k:Int))=true:=by simp[M]
     have F:(q==k)=true:=by simp[M]
     have Z:=aT F;clear F;go_wp2;go_quiet (fail);go_wp2;go_roundw
     .exact⟨q+1,n+nq,aA,cD,by rw[HS.out,N.out,Z.out];rfl,bF⟩
     exact aY
    .have ht:((q:Int)==(k:Int))=false:=bO;have F:(q==k)=false:=by simp[M]
     have Z:=aT F;clear F
     cases h3:(x != l[q]) with
     |false=>
      go_wp2;go_quiet (fail);go_wp2;go_roundw
      .exact⟨q+1,n+nq,aA,cD,by rw[HS.out,N.out,Z.out,h3];rfl,bF⟩
      exact aY
     |true=>
      go_wp2;go_quiet (fail);go_wp2;go_roundw
      .exact⟨q+1,n+nq,aA,cD,by rw[HS.out,N.out,Z.out,h3];rfl,bF⟩
      exact aY
  .have R:q=l.length:=aA;subst R;have D:dP (fun z=>z==k||cU (l.getD z 0) (l.getD k 0) != l.getD z 0) l.length=CH l k:=rfl;rw[D]
   cases hF:CH l k with
   |false=>
    have HF:=aT hF;clear hF D;go_wp2;go_roundw
    .exact⟨k+1,ad,S,I,aA,rfl,cD,by rw[HN.out,HF.out];exact Y.out.drewN _,B.drewN' _⟩
    exact aY
   |true=>
    have HF:=aT hF;clear hF D;go_wp2_with (at_builtin;refine eF rfl _ _ _ rfl 3 underlying25 intElem w.heap.size _ _ l[k] wr.heap.size rfl rfl (cR (wr.drewN n) #[aO l[k]] 3 0 _ rfl) ((Y.out.drewN n).alloc (.cells #[aO l[k]] 3)) ⟨aA,aA⟩ aA (dC B.size bF) ?_;intro v' w6 K a9;obtain⟨av,nv,cv,rfl⟩:=K.shape3);have B6:Below w w w6:=((B.drewN' n).alloc B.size (.cells #[aO l[k]] 3)).grown a9 (by have:=B.size;simp;omega) (fun p hp=>(Y.out.lt p hp).1);go_roundw
    .exact⟨k+1,av,nv,cv,aA,rfl,cD,by rw[HN.out,HF.out];exact K,B6⟩
    exact aY
 .have b0:k=l.length:=aA;go_wp2;go_ret;exact⟨ad,S,I,rfl,by subst b0;exact Y.out,B⟩
theorem N9(v:Value)(w:World)(F:Ints w v l)(hm:∀x∈l,0<=x/\x<64)(D:l.length<=64):
  aH 109 #[v] w (aG (xG l)):=by
 obtain⟨a,c,rfl⟩:=F.shape;go_enter func109,ntmps109;go_wp2_with fail;refine(wB l _ w F hm D).mono ?_;rintro e w1 ⟨ad,i,K,rfl,J,z⟩;have I:=J.ints.capLe.1;go_wp2;go_ret;refine⟨cP ?_,z⟩;unfold xG;rw[<-I,Bool.eq_iff_iff];simp only[beq_iff_eq];omega
theorem ai2{p:Prop}(h:p:=by
  obtain⟨a,b,a8,cp,rfl,R,a7,hc,hb⟩:=S.vw;have Z:=aT hw;clear hw;go_enter func355,ntmps355;go_wp2_with fail;go_loopw [8] (fun i wr=>∃k:Nat,k<=l/\i=aO k/\(l.take k).any P=false/\Below w w wr) (fun i _=>l.length-(intOf i).toNat)
  .exact⟨0,aZ _,rfl,bF,bJ _ _⟩
  obtain⟨k,hk,rfl,z,B⟩:=hrel;have H:=aT z;clear z;by_cases hlt:k<l
  .have a1:=bY hc hb B aU k hlt;have hcl:=Z.out l[k] wr (aX hlt) B;have J:(l.take (k+1)).any P=((l.take k).any P||P l[k]):=by rw[cH hlt,List.any_append];simp
   have N:=aT J;clear J
   cases F:P l[k]with
   |true=>have I:l.any P=true:=List.any_eq_true.2 ⟨_,aX hlt,F⟩;have M:=aT I;rw[F]at hcl;clear I F;go_wp2_with (go_at_fn c;refine aV hcl ?_;intro K D);go_ret;exact⟨⟨k,rfl,by rw[M.out];simp,aA,aA⟩,B.after D B.size⟩
   |false=>
    have Y:=aT F;rw[F]at hcl;clear F;go_wp2_with (go_at_fn c;refine aV hcl ?_;intro K D);go_roundw
    .exact⟨k+1,aA,cD,by rw[N.out,H.out,Y.out];rfl,B.after D B.size⟩
    exact aY
  .have I:l.any P=false:=by have:=H.out;rw[List.take_of_length_le aA]at this;exact this
   have M:=aT I;clear I;go_wp2;go_ret;exact⟨⟨-1,rfl,by rw[M.out];simp,aA,aA⟩,B⟩):p:=h
theorem WO(v:Value)(w:World)(S:Ints w v l)(c:FuncId)(he:∀args w,(callFunc c args).run prog w=.ok (.enter c args) w)(g:Nat)(P:Int->Bool)
  (hw:∀(t:Int) W',t∈l->Below w w W'->Calls prog c #[t,aP (some ⟨g,0,none⟩)] W' fun e K=>e=aQ (aG (P t))/\Below W' W' K):
  Calls prog 355 #[v,.func (.func c) #[] #[aP (some ⟨g,0,none⟩)]] w fun e w'=>(∃i:Int,e=aQ i/\(0<=i↔l.any P=true)/\-1<=i/\i<=9223372036854775807)/\Below w w w':=by
 exact ai2
theorem ajN{p:Prop}(h:p:=by
  clear hw z;obtain⟨a,R,rfl⟩:=D.shape;go_enter func310,ntmps310;go_wp2_with (go_at_call 355;refine hcl.mono ?_;rintro e w' ⟨⟨i,rfl,M,N,O⟩,hb⟩;have K:=aT M;clear M);go_ret;refine⟨cP ?_,hb⟩
  cases I:l.any P with
  |true=>have:=K.out.2 I;simpa using this
  |false=>
   have h:¬0<=i:=fun h=>by rw[K.out.1 h]at I;cases I
   simpa using h):p:=h
theorem CZ(v:Value)(w:World)(D:Ints w v l)(c:FuncId)(z:∀args w,(callFunc c args).run prog w=.ok (.enter c args) w)(g:Nat)(P:Int->Bool)
  (hw:∀(t:Int) W',t∈l->Below w w W'->Calls prog c #[t,aP (some ⟨g,0,none⟩)] W' fun e J=>e=aQ (aG (P t))/\Below W' W' J):
  aH 310 #[v,.func (.func c) #[] #[aP (some ⟨g,0,none⟩)]] w (aG (l.any P)):=by
 have hcl:=WO l v w D c z g P hw;exact ajN
def sP(s t:Int):Bool:=t != s&&dQ t s==0
def lF(l:List Int):List Int:=l.filter fun s=>!(l.any (sP s))
theorem afU(g:Nat)(t s:Int)(d:w.cell? ⟨g,0,none⟩=some (aO s))(ht:0<=t/\t<64)(F:0<=s/\s<64):
  aH 357 #[t,aP (some ⟨g,0,none⟩)] w (aG (sP s t)):=by
 have I:=nR ht.1 ht.2 F.1 F.2
 cases h:(t != s) with
 |false=>
  have z:sP s t=false:=by unfold sP;rw[h];rfl
  have D:=aT z;clear z;go_enter func357,ntmps357;go_wp2;go_ret;exact⟨cP D.out.symm,bJ _ _⟩
 |true=>
  have z:sP s t=(dQ t s==0):=by unfold sP;rw[h];rfl
  have D:=aT z;clear z;go_enter func357,ntmps357;go_wp2;go_ret;exact⟨cP D.out.symm,bJ _ _⟩
theorem NQ:∀args w,(callFunc 357 args).run prog w=.ok (.enter 357 args) w:=enters_of func357 bM rfl
theorem J5(v:Value)(w:World)(hv:Ints w v l)(hm:∀x∈l,0<=x/\x<64)(hl:l.length<=1048576):
  Calls prog 317 #[v] w fun e w'=>∃ad i K,e=aQ (aD ad i K)/\bB 3 w w' (aD ad i K) (lF l)/\Below w w w':=by
 obtain⟨a,b,f4,c,rfl,c5,e8,hc,hb⟩:=hv.vw;have HM:=aT hm;clear hm;obtain⟨F,hF⟩:∃F:Int->Bool,F=fun s=>!(l.any (sP s)):=⟨_,rfl⟩;have M:lF l=l.filter F:=by rw[hF];rfl
 rw[M];have HF:=aT hF;clear M hF;go_enter func317,ntmps317;go_wp2_with fail;go_loopw [3,9] (fun out i wr=>∃(k:Nat) (ad:Option Addr) (nn K:Nat),k<=l/\out=aD ad nn K/\i=aO k/\bB 3 w wr (aD ad nn K) ((l.take k).filter F)/\Below w w wr)
  (fun _ i _=>l.length-(intOf i).toNat)
 .exact⟨0,none,0,0,aZ _,rfl,rfl,bB.nil _ _ _,bJ _ _⟩
 obtain⟨k,ad,nn,K,hk,rfl,rfl,ho,B⟩:=hrel;have HO:=aT ho;clear ho;by_cases hlt:k<l
 .have b6:=bY hc hb B aU k hlt;have I:=HM.out _ (aX hlt);have R:(l.take (k+1)).filter F=(l.take k).filter F++(if F l[k]=true then [l[k]] else []):=by rw[cH hlt,List.filter_append,List.filter_cons,List.filter_nil]
  have D:F l[k]=!(l.any (sP l[k])):=by rw[HF.out]
  have e7:((l.take k).filter F).length<=1048576:=dC (List.length_filter_le _ _) bO;obtain⟨s,hs⟩:=aW (l[k]);rw[<-hs]at b6 I R D;have a1:∀W,Ints W (aD a l c) l->W.cell? ⟨wr,0,none⟩=some (aO s)->Calls prog 310 #[aD a l c,.func (.func 357) #[] #[aP (some ⟨wr,0,none⟩)]] W fun e w'=>e=aQ (aG (l.any (sP s)))/\Below W W w':=
   fun W hW hd=>CZ l _ W hW 357 NQ wr.heap.size (sP s) (fun t W' ht hB=>afU W' wr.heap.size t s (keep hB hd) (HM.out t ht) I)
  have S:=aT a1;have Y:=aT R;have f0:=I.1;have f2:=I.2;clear hs R a1 I
  cases z:l.any (sP s) with
  |true=>
   have hf:F s=false:=by rw[D,z];rfl
   have O:=aT hf;have HA:=aT z;clear hf z D;go_wp2_with (go_at_call 310;refine aV (S.out _ (hv.below (B.alloc B.size _) aU) (cR _ _ _ _ _ rfl)) ?_;intro w4 J;rw[HA.out]);have Z:Below wr wr w4:=(cQ wr (.cells #[s] 3)).after J bF;go_roundw
   .exact⟨k+1,ad,nn,K,aA,rfl,cD,by rw[Y.out,O.out];simpa using HO.out.keep Z,B.after Z B.size⟩
   exact aY
  |false=>
   have hf:F s=true:=by rw[D,z];rfl
   have O:=aT hf;have HA:=aT z;clear hf z D;go_wp2_with (first
    |(go_at_call 310;refine aV (S.out _ (hv.below (B.alloc B.size _) aU) (cR _ _ _ _ _ rfl)) ?_;intro w4 J;rw[HA.out];have d4:=keep J (cR wr #[s] 3 0 _ rfl);have Z:Below wr wr w4:=(cQ wr (.cells #[s] 3)).after J bF;have o4:=HO.out.keep Z;have B4:=B.after Z B.size;have z4:=B4.size)
    |(at_builtin;refine eF rfl _ _ _ rfl 3 underlying25 intElem w.heap.size _ _ s w4.heap.size rfl rfl bF (o4.alloc _) ⟨aA,aA⟩ aA bO ?_;intro v' w6 N b7;obtain⟨av,nv,cv,rfl⟩:=N.shape3))
   have r4:=o4.lt;have B6:Below w w w6:=(B4.alloc B4.size (.cells #[s] 3)).grown b7 bO (fun q hq=>(r4 q hq).1);go_roundw
   .exact⟨k+1,av,nv,cv,aA,rfl,cD,by rw[Y.out,O.out];exact N,B6⟩
   exact aY
 .have a7:(l.take k).filter F=l.filter F:=by rw[List.take_of_length_le aA]
  have HK:=aT a7;clear a7;go_wp2;go_ret;exact⟨ad,nn,K,rfl,by rw[<-HK.out];exact HO.out,B⟩
theorem gD{p:Nat->Bool}{n:Nat}:dP p n=true↔∀k,k<n->p k=true:=by
 constructor
 .intro h k hk
  cases z:p k with
  |true=>rfl
  |false=>rw[eT hk z]at h;cases h
 .exact XD
theorem anK(M:l.Pairwise (· < ·))(hm:∀x∈l,0<=x)(i:Nat)(F:i<l):CH l i=!(l.any (sP l[i])):=by
 rw[Bool.eq_iff_iff];unfold CH;rw[gD,Bool.not_eq_true',List.any_eq_false];have D:∀t:Int,0<=t->(dQ t l[i]=0↔cU t l[i]=t):=fun t ht=>by have h1:=hm _ (aX F);unfold dQ cU dY;have:=@Nat.and_le_left t.toNat l[i].toNat;omega
 constructor
 .intro h t ht;obtain⟨k,hk,rfl⟩:=List.getElem_of_mem ht;have z:=h k hk;rw[cJ l k hk,cJ l i F]at z;unfold sP;simp only[Bool.or_eq_true,beq_iff_eq,bne_iff_ne,ne_eq,Bool.and_eq_true,not_and]at z |-;intro J hid;rcases z with rfl|z
  .exact J rfl
  .exact z ((D _ (hm _ (aX hk))).1 hid)
 .intro h k hk;rw[cJ l k hk,cJ l i F];have:=h _ (aX hk);unfold sP at this;simp only[Bool.or_eq_true,beq_iff_eq,bne_iff_ne,ne_eq,Bool.and_eq_true,not_and]at this |-;by_cases I:k=i
  .exact .inl I
  .right;intro hid;refine this (fun e=>?_) ((D _ (hm _ (aX hk))).2 hid);have K:=List.pairwise_iff_getElem.1 M;rcases Nat.lt_or_gt_of_ne I with h1|h1
   .have:=K k i hk F h1;omega
   .have:=K i k F hk h1;omega
theorem aoG(z:l.Pairwise (· < ·))(hm:∀x∈l,0<=x):∀k,k<=l.length->qV l k=(l.take k).filter fun s=>!(l.any (sP s)):=by
 intro k
 induction k with
 |zero=>intro _;simp[qV]
 |succ k ih=>
  intro hk;have hlt:k<l.length:=aA;rw[qV,ih aA,cH hlt,List.filter_append,List.filter_cons,List.filter_nil,anK l z hm k hlt,cJ l k hlt]
  split<;>simp
theorem LQ(z:l.Pairwise (· < ·))(hm:∀x∈l,0<=x):qV l l.length=lF l:=by
 rw[aoG l z hm l.length aU,List.take_length];rfl
theorem OD(g:Int)(l:aI)(v:Value)(w:World)(Y:Ints w v l)(hl:l.length<=1048576)(R:cO g l=true):
  Calls prog 280 #[aM #[g,v]] w fun e w'=>∃ad i cp,e=aQ (aS #[aM #[g,aD ad i cp],aG true])/\bB 3 w w' (aD ad i cp) (lF l)/\Below w w w':=by
 obtain⟨a,c,rfl⟩:=Y.shape;have hm:=fS R;have HM:=aT hm;have HF:=aT R;clear hm R;go_enter func280,ntmps280;go_wp2_with fail;refine cZ ?_;intro V K;have B:Below w w V:=iJ K;have K1:bK V w 29 #[g,aD a l c]:=iQ K;have K2:bK V (w+1) 29 #[aK,()]:=jL K;clear K;refine aV (eP g l _ _ (Y.below B aU)) ?_;intro w1 F;rw[HF.out];have J:=K1.keep F;have z:=K2.keep F;have B1:=B.after F B.size;have G1:=J.cell;have z1:=J.lt;have z2:=z.lt;have Z:=Y.below B1 aU;clear K1 K2 B F;go_wp2_with fail;have G2:=z.cell;have F2:=z.frozen;go_region_held3 (fun w'=>(∀i,w'.cell? ⟨w,i,none⟩=(#[aO g,aD a l c]:Array Value)[i]?)) (go_keep)
  (first
   |(go_at_call 317;refine(J5 l _ _ (Z.below (B:=w1.heap.size) rB aU) HM.out hl).mono ?_;rintro e w3 ⟨p3,i3,M,rfl,o3,I⟩;obtain⟨O,S⟩:=jN I w1.heap.size cK;have z3:=I.size;(try simp at z3)))
 go_wp2;refine cT ?_;intro Wf D;have N:bK Wf (w+1) 29 #[g,aD p3 i3 M]:=by rw[D];have:=(((z.drewN 1).keep I).set 0 (aO g)).set 1 (aD p3 i3 M);simpa using this
 have Bf:Below w w Wf:=by rw[D];exact bX (bX ((B1.drewN' 1).after I cK) cK _) cK _
 have of:bB 3 w Wf (aD p3 i3 M) (lF l):=by rw[D];exact((o3.setBelow cK _).setBelow cK _).mono cK
 have Gf:=N.cell;clear D G1 G2 F2 O S;exact bW (v:=aS #[aM #[g,aD p3 i3 M],aG true]) (by simp[results,results280,go_sem,Gf]) rfl ⟨_,_,_,rfl,of,Bf⟩
theorem rT(P:Nat->Bool)(k:Nat):∀x∈dE P k,0<=x/\x<(k:Int):=by
 intro x z;unfold dE at z;obtain⟨y,D,rfl⟩:=List.mem_map.1 z;have:=List.mem_range.1 (List.mem_filter.1 D).1;exact⟨Int.natCast_nonneg _,by show(y:Int)<k;omega⟩
theorem yJ(P:Nat->Bool)(k:Nat):(dE P k).Pairwise (· < ·):=by
 induction k with
 |zero=>simp[dE]
 |succ k ih=>
  rw[gV]
  split
  .rw[List.pairwise_append];refine⟨ih,bF,fun a z b hb=>?_⟩;simp only[List.mem_singleton]at hb;have:=rT P k a z;omega
  .exact ih
theorem PX(P:Nat->Bool)(g:Nat)(D:g<=6):cO g (dE P (2^g))=true:=by
 unfold cO gE CX;have h1:fN (g:Int) 0 6=true:=eW.2 ⟨aA,aA⟩;rw[h1,bH (yJ P _)];simp only[Bool.true_and,Bool.and_true,List.all_eq_true];intro x z;have:=rT P _ x z;have e:((2^g:Nat):Int)=(2:Int)^g:=by push_cast;rfl
 refine nF.2 ⟨this.1,?_⟩;have e2:(g:Int).toNat=g:=aA;rw[e2,<-e];exact this.2
theorem Z1{l:aI}{x:Int}(h:x∈lF l):x∈l:=(List.mem_filter.1 h).1
theorem Z0:(lF l).length<=l.length:=List.length_filter_le _ _
def vC(g:Nat)(l:List Int):List Int:=dE (fun s=>tX l (s:Int)) (2^g)
def kM(g:Int)(l:List Int):Int:=if cO g l then g else 0
def nT(g:Int)(l:List Int):List Int:=if cO g l then lF (vC g.toNat l) else []
theorem D0(g:Nat)(z:g<=6)(l:aI):(∀x∈vC g l,0<=x/\x<64)/\(vC g l).length<=64:=by
 have D:(2:Nat)^g<=2^6:=bQ bZ z;refine⟨fun x F=>?_,?_⟩
 .have:=rT _ _ x F;have h:((2^g:Nat):Int)<=64:=by exact_mod_cast D
  omega
 .have:=jD (fun s=>tX l (s:Int)) (2^g);unfold vC;omega
theorem XO(g:Int)(l:aI):(nT g l).length<=64:=by
 unfold nT
 split
 .rename_i h;obtain⟨z,D,_⟩:=fF h;exact dC (Z0 _) (D0 g.toNat aA l).2
 .simp
theorem SD(g:Int)(l:aI):∀x∈nT g l,0<=x/\x<64:=by
 unfold nT
 split
 .rename_i h;obtain⟨D,F,_⟩:=fF h;exact fun x z=>(D0 g.toNat aA l).1 x (Z1 z)
 .simp
theorem aeO(g s:Nat)(l:aI)(v:Value)(z:Ints w v l)(d:w.cell? ⟨g,1,none⟩=some v)(D:s<64)(hm:∀x∈l,0<=x/\x<64):
  aH 299 #[(s:Int),aP (some ⟨g,0,none⟩)] w (aG (tX l s)):=by
 obtain⟨a,c,rfl⟩:=z.shape;have hcl:=LP l _ (s:Int) w z hm aA aA;clear hm;go_enter func299,ntmps299;go_wp2_with (go_at_call 300;refine aV hcl ?_;rintro w' rfl);go_ret;exact⟨rfl,bJ _ _⟩
theorem NJ:∀args w,(callFunc 299 args).run prog w=.ok (.enter 299 args) w:=enters_of func299 bM rfl
theorem PU(g:Int)(v:Value)(l:aI)(hv:Ints w v l)(_:l.length<=1048576):
  Calls prog 220 #[aM #[g,v]] w fun e w'=>∃ad i I,e=aQ (aS #[aM #[(kM g l),aD ad i I],aG (cO g l)])/\bB 3 w w' (aD ad i I) (nT g l)/\Below w w w':=by
 obtain⟨a,c,rfl⟩:=hv.shape;go_enter func220,ntmps220;go_wp2_with fail;refine cZ ?_;intro V hV;have B:Below w w V:=iJ hV;have K1:bK V w 29 #[g,aD a l c]:=iQ hV;have F:bK V (w+1) 29 #[aK,()]:=jL hV;clear hV;refine aV (eP g l _ _ (hv.below B aU)) ?_;intro w1 J;have R:=K1.keep J;have D:=F.keep J;have O:=B.after J B.size;have G1:=R.cell;have G2:=D.cell;have F2:=D.frozen;have z1:=R.lt;have z2:=D.lt;have e9:=hv.below O aU;clear K1 F B J
 cases K:cO g l with
 |false=>
  have hN:kM g l=0:=by unfold kM;rw[K];rfl
  have Z:nT g l=[]:=by unfold nT;rw[K];rfl
  have HN:=aT hN;have HL:=aT Z;have HF:=aT K;clear hN Z;go_wp2;refine cT ?_;intro Wf z;have M:bK Wf (w+1) 29 #[aK,()]:=by rw[z];have:=(D.set 0 (aO 0)).set 1 (aD none 0 0);simpa using this
  have Bf:Below w w Wf:=by rw[z];exact bX (bX O cK _) cK _
  have Gf:=M.cell;clear z G1 G2 F2;exact bW (v:=aS #[aM #[aK,()],aG false]) (by simp[results,results220,go_sem,Gf]) rfl ⟨none,0,0,by rw[HN.out,HF.out],by rw[HL.out];exact bB.nil _ _ _,Bf⟩
 |true=>
  obtain⟨h0,h6,_⟩:=fF K;have hm:=fS K;obtain⟨n,rfl⟩:=cN h0;have hn:n<=6:=aA;have hN:kM n l=n:=by unfold kM;rw[K];rfl
  have Z:nT n l=lF (vC n l):=by unfold nT;rw[K];rfl
  have HN:=aT hN;have HL:=aT Z;have HF:=aT K;have e6:=D0 n hn l;have e7:(2:Nat)^n<=64:=bQ (n:=2) bZ hn;have a6:∀W,Ints W (aD a l c) l->W.cell? ⟨w,1,none⟩=some (aD a l c)->Calls prog 276 #[(n:Int),.func (.func 299) #[] #[aP (some ⟨w,0,none⟩)]] W fun e w'=>
    ∃ad i I,e=aQ (aM #[(n:Int),aD ad i I])/\bB 3 W w' (aD ad i I) (vC n l)/\Below W W w':=fun W hW hd=>
   CE W n hn 299 NJ w.heap.size (fun s=>tX l (s:Int)) (fun s W' hs hB=>aeO W' w.heap.size s l _ (hW.keep hB) (keep hB hd) aA hm)
  have a7:∀(W:World) (ad:Option Addr) (i I:Nat),Ints W (aD ad i I) (vC n l)->Calls prog 280 #[aM #[(n:Int),aD ad i I]] W fun e w'=>
    ∃S i' Y,e=aQ (aS #[aM #[(n:Int),aD S i' Y],aG true])/\bB 3 W w' (aD S i' Y) (lF (vC n l))/\Below W W w':=fun W ad i I hW=>
   OD n _ _ W hW aA (PX _ n hn)
  have c6:=aT a6;have c9:=aT a7;clear hN Z e6 e7 a6 a7 hm K;go_wp2_with fail;refine(c6.out _ e9 (by rw[G1];rfl)).mono ?_;rintro e w3 ⟨p3,i3,q3,rfl,o3,N⟩;have B3:=O.after N O.size;have F:=D.keep N;clear G1 G2 F2;go_wp2_with fail;refine(c9.out _ p3 i3 q3 (o3.alloc _).ints).mono ?_;rintro e w5 ⟨p5,i5,q5,rfl,o5,e5⟩;have b5:Below w3 w3 w5:=(cQ w3 _).after e5 bF;have B5:=B3.after b5 B3.size;have F:=F.keep b5;have G2:=F.cell;have F2:=F.frozen;have z5:=F.lt;have y3:=B3.size;have y1:=O.size;have z6:=N.size;have z7:=b5.size;go_wp2;refine cT ?_;intro Wf z;have M:bK Wf (w+1) 29 #[n,aD p5 i5 q5]:=by rw[z];have:=(F.set 0 (aO n)).set 1 (aD p5 i5 q5);simpa using this
  have Bf:Below w w Wf:=by rw[z];exact bX (bX B5 cK _) cK _
  have of:bB 3 w Wf (aD p5 i5 q5) (lF (vC n l)):=by rw[z];have f0:=o5.mono (B':=w3.heap.size) bF;exact((f0.setBelow cK _).setBelow cK _).mono cK
  have Gf:=M.cell;clear z G2 F2;exact bW (v:=aS #[aM #[n,aD p5 i5 q5],aG true]) (by simp[results,results220,go_sem,Gf]) rfl ⟨p5,i5,q5,by rw[HN.out,HF.out],by rw[HL.out];exact of,Bf⟩
theorem ZI(v:Value)(s:Int)(w:World)(N:Ints w v l)(hm:∀x∈l,0<=x/\x<64)(R:0<=s)(h1:s<64):
  Calls prog 100 #[v,s] w fun e w'=>e=aQ (aG (tX l s))/\w=w':=by
 obtain⟨a,b,O,c,rfl,F,K,hc,hb⟩:=N.vw;go_enter func100,ntmps100;go_wp2;go_loop [5] (fun i=>∃k:Nat,k<=l/\i=aO k/\(l.take k).all (fun t=>cU t s != 0)=true) (fun i=>l.length-(intOf i).toNat)
 .exact⟨0,aZ _,rfl,bF⟩
 exact ai9
theorem aj3{p:Prop}(h:p:=by
  have B6:Below w1 w1 w6:=(B.alloc B.size (.cells #[k] 3)).grown h7 bO (fun q hq=>(HO.out.lt q hq).1);go_roundw
  .exact⟨k+1,av,nv,cv,aA,rfl,cD,by rw[e0.out,R.out];exact a1,B6⟩
  exact aY):p:=h
theorem ZY{p:Prop}(h:p:=by
  go_roundw
  .exact⟨k+1,ad,Z,K,aA,rfl,cD,by rw[e0.out,R.out];exact HO.out,B⟩
  exact aY):p:=h
theorem PV(g:Int)(v:Value)(l:aI)(hv:Ints w v l)(_:l.length<=1048576):
  Calls prog 53 #[aM #[g,v]] w fun e w'=>∃ad i K,e=aQ (aS #[aM #[(kM g l),aD ad i K],aG (cO g l)])/\bB 3 w w' (aD ad i K) (nT g l)/\Below w w w':=by
 obtain⟨a,c,rfl⟩:=hv.shape;go_enter func53,ntmps53;go_wp2_with fail;refine cZ ?_;intro V hV;have B:Below w w V:=iJ hV;have K1:bK V w 29 #[g,aD a l c]:=iQ hV;have K2:bK V (w+1) 29 #[aK,()]:=jL hV;clear hV;refine aV (eA g l _ _ (hv.below B aU)) ?_;intro w1 M;have S:=K1.keep M;have I:=K2.keep M;have B1:=B.after M B.size;have b9:=hv.below B1 aU;clear K1 K2 B M
 cases O:cO g l with
 |false=>
  have G1:=S.cell;have G2:=I.cell;have F2:=I.frozen;have z2:=I.lt;have hN:kM g l=0:=by unfold kM;rw[O];rfl
  have hL:nT g l=[]:=by unfold nT;rw[O];rfl
  have HN:=aT hN;have HL:=aT hL;have HF:=aT O;clear hN hL;go_wp2;refine cT ?_;intro Wf D;have Y:bK Wf (w+1) 29 #[aK,()]:=by rw[D];have:=(I.set 0 (aO 0)).set 1 (aD none 0 0);simpa using this
  have Bf:Below w w Wf:=by rw[D];exact bX (bX B1 cK _) cK _
  have Gf:=Y.cell;clear D G1 G2 F2;exact bW (v:=aS #[aM #[aK,()],aG false]) (by simp[results,results53,go_sem,Gf]) rfl ⟨none,0,0,by rw[HN.out,HF.out],by rw[HL.out];exact bB.nil _ _ _,Bf⟩
 |true=>
  obtain⟨h0,h6,_⟩:=fF O;have hm:=fS O;obtain⟨n,rfl⟩:=cN h0;have hn:n<=6:=aA;have hN:kM n l=n:=by unfold kM;rw[O];rfl
  have hL:nT n l=lF (vC n l):=by unfold nT;rw[O];rfl
  have HN:=aT hN;have HL:=aT hL;have HF:=aT O;have HM:=aT hm;have hp:=dW n 6 hn;have l9:(2:Int)^n<=64:=by simpa using hp.1
  have m2:=hp.2;have f4:((2^n:Nat):Int)=(2:Int)^n:=bF;obtain⟨N,b5⟩:∃N:Nat,N=2^n:=⟨_,rfl⟩;obtain⟨P,hP⟩:∃P:Nat->Bool,P=fun s:Nat=>tX l (s:Int):=⟨_,rfl⟩;have a9:vC n l=dE P N:=by rw[b5,hP];rfl
  have f0:=D0 n hn l;have c7:=yJ P N;have c8:=LQ (dE P N) c7 (fun x hx=>(rT P N x hx).1);rw[a9]at f0;have l0:N<=64:=by rw[b5];exact bQ (n:=2) bZ hn
  rw[<-b5]at f4;have f8:=aT a9;have f9:=aT f0;have g0:=aT c8;have HP:=aT hP;have g4:=aT f4;have G1:=S.cell;have z1:=S.lt;have z2:=I.lt;have o0:=bB.lit0 (E:=3) (B:=w1.heap.size) w1 aU;clear hN hL a9 f0 c8 c7 hm O hp b5 hP f4;go_wp2_with fail;go_loopw [4,5] (fun out i wr=>∃(k:Nat) (ad:Option Addr) (Z K:Nat),k<=N/\out=aD ad Z K/\i=aO k/\bB 3 w1 wr (aD ad Z K) (dE P k)/\Below w1 w1 wr)
   (fun _ i _=>N-(intOf i).toNat)
  .exact⟨0,_,_,_,aZ _,rfl,rfl,o0,cQ _ _⟩
  obtain⟨k,ad,Z,K,hk,rfl,rfl,ho,B⟩:=hrel;have HO:=aT ho;clear ho o0 G1;have G1:=(S.keep B).cell;have zw:=B.size;by_cases hlt:k<N
  .have b1:(k:Int)<2^n:=by rw[<-g4.out];exact_mod_cast hlt
   have b0:=gV P k;have h9:∀W,Ints W (aD a l c) l->Calls prog 100 #[aD a l c,(k:Int)] W fun e w'=>e=aQ (aG (P k))/\W=w':=fun W hW=>by rw[HP.out];exact ZI l _ k W hW HM.out aA aA
   have k2:(dE P k).length<=64:=dC (jD P k) aA;have e0:=aT b0;have g2:=aT h9;clear b0 h9
   cases b6:P k with
   |false=>have R:=aT b6;clear b6;go_wp2_with (go_at_call 100;refine aV (g2.out _ (b9.below B aU)) ?_;rintro w' rfl;rw[R.out]);exact ZY
   |true=>
    have R:=aT b6;clear b6;go_wp2_with (first
     |(go_at_call 100;refine aV (g2.out _ (b9.below B aU)) ?_;rintro w' rfl;rw[R.out])
     |(at_builtin;refine eF rfl _ _ _ rfl 3 underlying25 intElem w1.heap.size _ _ (k:Int) wr.heap.size rfl rfl (cR wr #[k] 3 0 _ rfl) (HO.out.alloc _) ⟨aA,aA⟩ aA cK ?_;intro v' w6 a1 h7;obtain⟨av,nv,cv,rfl⟩:=a1.shape3))
    exact aj3
  .have b1:¬(k:Int)<2^n:=by rw[<-g4.out];exact_mod_cast hlt
   have f3:k=N:=aA;subst f3;have h8:∀(W:World),Ints W (aD ad Z K) (dE P k)->Calls prog 101 #[aD ad Z K] W fun e w'=>
     ∃g8 i' g9,e=aQ (aD g8 i' g9)/\bB 3 W w' (aD g8 i' g9) (lF (dE P k))/\Below W W w':=fun W hW=>by
    have:=wB (dE P k) _ W hW f9.out.1 f9.out.2;rw[g0.out]at this;exact this
   have j1:=aT h8;have F:=I.keep B;have y2:=F.lt;have k4:=HO.out.ints;have n1:w.heap.size<wr.heap.size:=aA;clear h8;go_wp2_with fail;have G2:=F.cell;have F2:=F.frozen;go_region_held3 (fun w'=>(∀i,w'.cell? ⟨w,i,none⟩=(#[aO n,aD a l c]:Array Value)[i]?)) (go_keep)
    (first
     |(go_at_call 101;refine(j1.out _ (k4.below (B:=wr.heap.size) rB aU)).mono ?_;rintro e w3 ⟨p3,i3,q3,rfl,o3,b8⟩;obtain⟨j8,j9⟩:=jN b8 wr.heap.size cK;have z3:=b8.size;(try simp at z3)))
   go_wp2;refine cT ?_;intro Wf D;have Y:bK Wf (w+1) 29 #[n,aD p3 i3 q3]:=by rw[D];have:=(((F.drewN 1).keep b8).set 0 (aO n)).set 1 (aD p3 i3 q3);simpa using this
   have yy:=B1.size;have Bf:Below w w Wf:=by rw[D];exact bX (bX (((B1.after B B1.size).drewN' 1).after b8 cK) cK _) cK _
   have of:bB 3 w Wf (aD p3 i3 q3) (lF (dE P k)):=by rw[D];exact((o3.setBelow cK _).setBelow cK _).mono cK
   have Gf:=Y.cell;clear D G1 G2 F2 j8 j9;exact bW (v:=aS #[aM #[n,aD p3 i3 q3],aG true]) (by simp[results,results53,go_sem,Gf]) rfl ⟨p3,i3,q3,by rw[HN.out,HF.out],by rw[HL.out,f8.out];exact of,Bf⟩
