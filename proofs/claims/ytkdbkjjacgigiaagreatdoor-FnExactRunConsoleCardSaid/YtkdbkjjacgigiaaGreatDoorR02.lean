/- Lemmas for CardRunConsole. No condition. -/
import Derived.Test.YtkdbkjjacgigiaaGreatDoorR01
import Derived.Shelf.Abstract
set_option maxRecDepth 100000
set_option maxHeartbeats 64000000
namespace Go.Proofs.YtkdbkjjacgigiaaGreatDoor
section
open Go.RowKit Go.G5 Go.Proofs.Tryz
variable(w:World)(n:Int)(v:Value)(l:aI)
def gL(n:Nat)(s:Int):Bool:=decide (0<=s)&&decide (s<2^n)
theorem nF{n:Nat}{s:Int}:gL n s=true↔0<=s/\s<2^n:=by simp[gL]
theorem BA(n:Nat)(s:Int):fN s 0 (2^n-1)=gL n s:=by
 unfold fN gL;by_cases h:s<2^n
 .rw[bH h,bH (show s<=2^n-1 from aA)]
 .rw[bG h,bG (show ¬s<=2^n-1 from aA)]
theorem uO(n:Nat)(s:Int)(w:World)(I:n<=40):
  Calls prog 273 #[n,s] w fun e w'=>e=aQ (aG (gL n s))/\w=w':=by
 have h2:=dW n 40 I;have h3:=h2.1;have h4:=h2.2;simp at h3;clear h2;by_cases F:0<=s
 .have z:gL n s=decide (s<2^n):=by unfold gL;rw[bH F];rfl
  have D:=aT z;clear z;go_enter func273,ntmps273;go_wp2;go_ret;exact⟨by rw[D.out];rfl,rfl⟩
 .have z:gL n s=false:=by unfold gL;rw[bG F];rfl
  have D:=aT z;clear z;go_enter func273,ntmps273;go_wp2;go_ret;exact⟨by rw[D.out];rfl,rfl⟩
def gE(g:Int)(l:List Int):Bool:=fN g 0 6&&l.all (gL g.toNat)
theorem lG{α:Type}(p:α->Bool)(l:List α)(k:Nat)(h:k<l):(l.take (k+1)).all p=((l.take k).all p&&p l[k]):=by
 rw[cH h,List.all_append,List.all_cons,List.all_nil,Bool.and_true]
theorem nD{α:Type}(p:α->Bool)(l:List α)(k:Nat)(h:l.length<=k):(l.take k).all p=l.all p:=by rw[List.take_of_length_le h]
theorem lW{α:Type}(p:α->Bool)(l:List α)(k:Nat)(h:k<l)(z:p l[k]=false):l.all p=false:=by
 rw[List.all_eq_false];exact⟨l[k],aX h,by simp[z]⟩
theorem uL(g:Int)(l:aI)(v:Value)(w:World)(O:Ints w v l):
  Calls prog 219 #[g,v] w fun e w'=>e=aQ (aG (gE g l))/\w=w':=by
 obtain⟨a,b,R,c,rfl,K,N,hc,hb⟩:=O.vw
 cases D:fN g 0 6 with
 |false=>
  have F:gE g l=false:=by unfold gE;rw[D];rfl
  have I:=aT F;clear F;go_enter func219,ntmps219;go_wp2_with (go_at_call 144;refine aV (kD _ _ _ _) ?_;rintro w' rfl);go_ret;exact⟨by rw[I.out];rfl,rfl⟩
 |true=>
  have J:=eW.1 D;obtain⟨G,rfl⟩:=cN J.1;have S:G<=6:=aA;have F:gE G l=l.all (gL G):=by unfold gE;rw[D];simp
  have I:=aT F;clear F J;go_enter func219,ntmps219;go_wp2_with (go_at_call 144;refine aV (kD _ _ _ _) ?_;rintro w' rfl);go_loop [12] (fun i=>∃k:Nat,k<=l/\i=aO k/\(l.take k).all (gL G)=true) (fun i=>l.length-(intOf i).toNat)
  .exact⟨0,aZ _,rfl,bF⟩
  obtain⟨k,hk,rfl,z⟩:=hrel;have H:=aT z;clear z;by_cases hlt:k<l
  .cases M:gL G l[k]with
   |true=>
    go_wp2_with (go_at_call 273;refine aV (uO G _ _ aA) ?_;rintro w' rfl);go_round
    .exact⟨k+1,aA,cD,by rw[lG _ _ _ hlt,H.out,M];rfl⟩
    exact aY
   |false=>go_wp2_with (go_at_call 273;refine aV (uO G _ _ aA) ?_;rintro w' rfl);go_ret;exact⟨cP (by rw[I.out,lW _ _ _ hlt M]),rfl⟩
  .go_wp2;go_ret;exact⟨cP (by rw[I.out,<-nD (gL G) l k aA,H.out]),rfl⟩
def CX(l:List Int):Bool:=decide (l.Pairwise (· < ·))
theorem PR(h:∀i,(h:i+1<l.length)->l[i]<l[i+1]):CX l=true:=by
 unfold CX;rw[decide_eq_true_eq,List.pairwise_iff_getElem];intro i j F z D;obtain⟨d,rfl⟩:∃d,j=i+1+d:=⟨j-i-1,aA⟩
 induction d with
 |zero=>exact h i z
 |succ d ih=>exact Int.lt_trans (ih aA aA) (h (i+1+d) z)
theorem RF(i:Nat)(h:i+1<l.length)(z:l[i+1]<=l[i]):CX l=false:=by
 unfold CX;rw[decide_eq_false_iff_not,List.pairwise_iff_getElem];intro D;have:=D i (i+1) aA h aA;omega
def cO(g:Int)(l:List Int):Bool:=gE g l&&CX l
theorem eP(g:Int)(l:aI)(v:Value)(w:World)(O:Ints w v l):
  aH 146 #[aM #[g,v]] w (aG (cO g l)):=by
 obtain⟨a,b,a6,c,rfl,S,Z,hc,hb⟩:=O.vw;have D:=bY hc hb (cQ w (.cells #[g,aD a l c] 29)) aU
 cases F:gE g l with
 |false=>
  have I:cO g l=false:=by unfold cO;rw[F];rfl
  have J:=aT I;clear I hc D;go_enter func146,ntmps146;go_wp2_with (go_at_call 219;refine aV (uL _ l _ _ (O.alloc _)) ?_;rintro w' rfl);go_ret;exact⟨by rw[J.out];rfl,cQ _ _⟩
 |true=>
  have I:cO g l=CX l:=by unfold cO;rw[F];simp
  have J:=aT I;clear I hc;go_enter func146,ntmps146;go_wp2_with (go_at_call 219;refine aV (uL _ l _ _ (O.alloc _)) ?_;rintro w' rfl);go_loopw [3] (fun i wr=>∃k m:Nat,1<=k/\k<=max l.length 1/\i=aO k/\wr=(w.alloc (.cells #[g,aD a l c] 29)).drewN m/\(∀j,(h:j+1<l.length)->j+1<k->l[j]<l[j+1])) (fun i _=>l.length-(intOf i).toNat)
  .exact⟨1,0,aA,aA,rfl,rfl,by intros;omega⟩
  obtain⟨k,m,a1,hk,rfl,rfl,z⟩:=hrel;have H:=aT z;clear z;by_cases hlt:k<l
  .have R:(Instr.indexAt 25 (aD a l c) (aO ((k:Int)-1))).run prog=(Instr.indexAt 25 (aD a l c) (aO ((k-1:Nat):Int))).run prog:=by rw[show((k:Int)-1)=((k-1:Nat):Int) from aA]
   have M:k-1<l.length:=aA;have Y:=D (k-1) M;by_cases N:l[k]<=l[k-1]
   .go_wp2;go_quiet (fail);go_wp2;go_ret;refine⟨cP ?_,((cQ _ _).drewN' _).drewN' _⟩;rw[J.out];have:=RF l (k-1) aA (by simpa[show k-1+1=k from aA]using N);rw[this]
   .go_wp2;go_quiet (fail);go_wp2;go_roundw
    .refine⟨k+1,m+nq,aA,aA,cD,bF,fun j h hj=>?_⟩;by_cases K:j+1<k
     .exact H.out j h K
     .have:j=k-1:=aA;subst this;have e:k-1+1=k:=aA;simp only[e];omega
    exact aY
  .go_wp2;go_ret;refine⟨cP ?_,(cQ _ _).drewN' _⟩;rw[J.out,PR l fun j h=>H.out j h aA]
theorem eA(g:Int)(l:aI)(v:Value)(w:World)(hv:Ints w v l):
  aH 21 #[aM #[g,v]] w (aG (cO g l)):=by
 obtain⟨a,b,b3,c,rfl,a7,a9,hc,hb⟩:=hv.vw;have M:=bY hc hb (cQ w (.cells #[g,aD a l c] 29)) aU
 cases J:fN g 0 6 with
 |false=>
  have O:cO g l=false:=by unfold cO gE;rw[J];rfl
  have K:=aT O;clear O hc M;go_enter func21,ntmps21;go_wp2_with (go_at_call 77;refine aV (eH _ _ _ _) ?_;rintro w' rfl);go_ret;exact⟨by rw[K.out];rfl,cQ _ _⟩
 |true=>
  have hg:=eW.1 J;obtain⟨G,rfl⟩:=cN hg.1;have hG:G<=6:=aA;have O:cO G l=(l.all (gL G)&&CX l):=by unfold cO gE;rw[J];simp
  have K:=aT O;clear O hc hg;go_enter func21,ntmps21;go_wp2_with (go_at_call 77;refine aV (eH _ _ _ _) ?_;rintro w' rfl);go_loopw [3] (fun i wr=>∃k m:Nat,k<=l/\i=aO k/\wr=(w.alloc (.cells #[G,aD a l c] 29)).drewN m/\(l.take k).all (gL G)=true/\(∀j,(h:j+1<l.length)->j+1<k->l[j]<l[j+1])) (fun i _=>l.length-(intOf i).toNat)
  .exact⟨0,0,aA,rfl,rfl,bF,by intros;omega⟩
  obtain⟨k,m,hk,rfl,rfl,I,F⟩:=hrel;have H:=aT F;have R:=aT I;clear F I;by_cases hlt:k<l
  .cases N:gL G l[k]with
   |false=>
    have z:fN l[k] 0 (2^G-1)=false:=by rw[BA];exact N
    have D:=aT z;clear z;go_wp2;go_quiet ((first|(go_at_call 78;first|exact kH (fZ G _ aA)|exact lO (fZ G _ aA))|(go_at_call 77;first|exact tE (eH _ _ _ _) D.out|exact vM (eH _ _ _ _) D.out)));go_wp2;go_ret;refine⟨cP ?_,((cQ _ _).drewN' _).drewN' _⟩;rw[K.out,lW _ _ _ hlt N];rfl
   |true=>
    have z:fN l[k] 0 (2^G-1)=true:=by rw[BA];exact N
    have D:=aT z;clear z;by_cases b0:0<k
    .have a6:(Instr.indexAt 25 (aD a l c) (aO ((k:Int)-1))).run prog=(Instr.indexAt 25 (aD a l c) (aO ((k-1:Nat):Int))).run prog:=by rw[show((k:Int)-1)=((k-1:Nat):Int) from aA]
     have Y:k-1<l.length:=aA;have a8:=M (k-1) Y;by_cases Z:l[k]<=l[k-1]
     .go_wp2;go_quiet ((first|(go_at_call 78;first|exact kH (fZ G _ aA)|exact lO (fZ G _ aA))|(go_at_call 77;first|exact tE (eH _ _ _ _) D.out|exact vM (eH _ _ _ _) D.out)));go_wp2;go_ret;refine⟨cP ?_,((cQ _ _).drewN' _).drewN' _⟩;have:=RF l (k-1) aA (by simpa[show k-1+1=k from aA]using Z);rw[K.out,this];simp
     .go_wp2;go_quiet ((first|(go_at_call 78;first|exact kH (fZ G _ aA)|exact lO (fZ G _ aA))|(go_at_call 77;first|exact tE (eH _ _ _ _) D.out|exact vM (eH _ _ _ _) D.out)));go_wp2;go_roundw
      .refine⟨k+1,m+nq,aA,cD,bF,by rw[lG _ _ _ hlt,R.out,N];rfl,fun j h hj=>?_⟩;by_cases S:j+1<k
       .exact H.out j h S
       .have:j=k-1:=aA;subst this;have e:k-1+1=k:=aA;simp only[e];omega
      exact aY
    .have hd:decide (0<(k:Int))=false:=bG aA;go_wp2;go_quiet ((first|(go_at_call 78;first|exact kH (fZ G _ aA)|exact lO (fZ G _ aA))|(go_at_call 77;first|exact tE (eH _ _ _ _) D.out|exact vM (eH _ _ _ _) D.out)));go_wp2;go_roundw
     .exact⟨k+1,m+nq,aA,cD,bF,by rw[lG _ _ _ hlt,R.out,N];rfl,by intros;omega⟩
     exact aY
  .go_wp2;go_ret;refine⟨cP ?_,(cQ _ _).drewN' _⟩;rw[K.out,PR l fun j h=>H.out j h aA,<-nD (gL G) l k aA,R.out];rfl
def cU(a b:Int):Int:=((a.toNat &&& b.toNat:Nat):Int)
def gO(a b:Int):Int:=((a.toNat ||| b.toNat:Nat):Int)
def dQ(a b:Int):Int:=((dY a.toNat b.toNat:Nat):Int)
def eO(a:Int):Int:=(dG a.toNat:Int)
theorem TF{p:Prop}(h:p:=by
  rw[show((a.toNat:Nat):Int)=a from aA,show((b.toNat:Nat):Int)=b from aA]at this;exact this):p:=h
theorem fV{a b:Int}(F:0<=a)(z:a<4611686018427387904)(hb:0<=b)(D:b<4611686018427387904):bits .and .i64 a b=cU a b:=by
 have:=PS a.toNat b.toNat aA aA;exact TF
theorem vJ{a b:Int}(F:0<=a)(z:a<4611686018427387904)(hb:0<=b)(D:b<4611686018427387904):bits .or .i64 a b=gO a b:=by
 have:=PT a.toNat b.toNat aA aA;exact TF
theorem nR{a b:Int}(F:0<=a)(z:a<64)(hb:0<=b)(D:b<64):bits .andNot .i64 a b=dQ a b:=by
 have:=AK a.toNat b.toNat aA aA;exact TF
theorem mW(a b n:Int)(z:0<=a)(h:a<n):0<=cU a b/\cU a b<n:=by
 have:=@Nat.and_le_left a.toNat b.toNat;unfold cU;omega
theorem DC(a b:Int)(g:Nat)(D:0<=a)(hb:0<=b)(h:a<2^g)(z:b<2^g):0<=gO a b/\gO a b<2^g:=by
 have h1:a.toNat<2^g:=by
  have:((a.toNat:Nat):Int)<((2^g:Nat):Int):=by push_cast;omega
  exact_mod_cast this
 have h2:b.toNat<2^g:=by
  have:((b.toNat:Nat):Int)<((2^g:Nat):Int):=by push_cast;omega
  exact_mod_cast this
 have h3:=Nat.or_lt_two_pow h1 h2;refine⟨by unfold gO;omega,?_⟩;unfold gO
 exact_mod_cast h3
theorem rK(a b n:Int)(z:0<=a)(h:a<n):0<=dQ a b/\dQ a b<n:=by unfold dQ dY;omega
theorem zP(a:Int)(h:a<256):0<=eO a/\eO a<=8:=by
 have:=xC a.toNat aA;unfold eO;omega
theorem vN(s:Int)(w:World)(z:0<=s)(h1:s<256):
  Calls prog 214 #[s] w fun e w'=>e=aQ (eO s)/\w=w':=by
 obtain⟨n,rfl⟩:=cN z;exact jF n w aA
theorem tT(s:Int)(w:World)(z:0<=s)(h1:s<256):
  Calls prog 84 #[s] w fun e w'=>e=aQ (eO s)/\w=w':=by
 obtain⟨n,rfl⟩:=cN z;exact iE n w aA
theorem I6(g:Int)(w:World)(z:0<=g)(h1:g<=40):
  Calls prog 78 #[g] w fun e w'=>e=aQ (aO (2^g.toNat-1))/\w=w':=by
 obtain⟨n,rfl⟩:=cN z;exact fZ n w aA
theorem aiI(g s:Int)(w:World)(z:0<=g)(h1:g<=40):
  Calls prog 273 #[g,s] w fun e w'=>e=aQ (aG (gL g.toNat s))/\w=w':=by
 obtain⟨n,rfl⟩:=cN z;exact uO n s w aA
theorem fF{g:Int}{l:aI}(h:cO g l=true):0<=g/\g<=6/\(∀s∈l,0<=s/\s<2^g.toNat)/\l.Pairwise (· < ·):=by
 unfold cO gE at h;simp only[Bool.and_eq_true,List.all_eq_true]at h;obtain⟨⟨h1,h2⟩,h3⟩:=h;have:=eW.1 h1;exact⟨this.1,this.2,fun s z=>nF.1 (h2 s z),by simpa[CX]using h3⟩
theorem nY{g:Int}(z:0<=g)(D:g<=6):(2:Int)^g.toNat<=64:=by
 have:=(dW g.toNat 6 aA).1;simpa using this
theorem sZ{g:Int}{l:aI}(h:cO g l=true):0<=g/\g<=6/\(∀k,(hk:k<l.length)->0<=l[k]/\l[k]<64):=by
 obtain⟨z,D,F,_⟩:=fF h;refine⟨z,D,fun k hk=>?_⟩;have:=F _ (aX hk);have:=nY z D;omega
theorem A0{α β:Type}(f:β->α->β)(z:β)(l:List α)(k:Nat)(h:k<l):(l.take (k+1)).foldl f z=f ((l.take k).foldl f z) l[k]:=by
 rw[cH h,List.foldl_append];rfl
theorem OU{α β:Type}(f:β->α->β)(z:β)(l:List α)(k:Nat)(h:l.length<=k):(l.take k).foldl f z=l.foldl f z:=by rw[List.take_of_length_le h]
def auY(m s:Int):Int:=max m (eO s)
def LK(g:Int)(l:List Int):Int:=if cO g l then l.foldl auY 0 else -1
def nC(l:List Int)(D z:Int):Bool:=l.all fun x=>fN x D z
theorem J0(v:Value)(F D:Int)(w:World)(M:Ints w v l):
  Calls prog 175 #[v,F,D] w fun e w'=>e=aQ (aG (nC l F D))/\w=w':=by
 obtain⟨a,b,N,c,rfl,I,K,hc,hb⟩:=M.vw;go_enter func175,ntmps175;go_wp2;go_loop [11] (fun i=>∃k:Nat,k<=l/\i=aO k/\(l.take k).all (fun x=>fN x F D)=true) (fun i=>l.length-(intOf i).toNat)
 .exact⟨0,aZ _,rfl,bF⟩
 obtain⟨k,hk,rfl,z⟩:=hrel;have H:=aT z;clear z;by_cases hlt:k<l
 .cases J:fN l[k] F D with
  |true=>
   go_wp2_with (go_at_call 144;refine aV (kD _ _ _ _) ?_;rintro w' rfl);go_round
   .exact⟨k+1,aA,cD,by rw[lG _ _ _ hlt,H.out,J];rfl⟩
   exact aY
  |false=>go_wp2_with (go_at_call 144;refine aV (kD _ _ _ _) ?_;rintro w' rfl);go_ret;exact⟨cP (by unfold nC;rw[lW _ _ _ hlt J]),rfl⟩
 .go_wp2;go_ret;exact⟨cP (by unfold nC;rw[<-nD (fun x=>fN x F D) l k aA,H.out]),rfl⟩
def cS(n:Int)(l:List Int):Bool:=fN n 0 5&&decide ((l.length:Int)=2^n.toNat)&&nC l (-1000) 1000
theorem nX{g:Int}(z:0<=g)(D:g<=5):(2:Int)^g.toNat<=32/\0<(2:Int)^g.toNat:=by
 have:=dW g.toNat 5 aA;simpa using this
theorem nE{n:Int}{l:aI}(h:cS n l=true):0<=n/\n<=5/\(l.length:Int)=2^n.toNat/\(∀k,(hk:k<l.length)->-1000<=l[k]/\l[k]<=1000):=by
 unfold cS nC at h;simp only[Bool.and_eq_true,List.all_eq_true,decide_eq_true_eq]at h;obtain⟨⟨h1,h2⟩,h3⟩:=h;have:=eW.1 h1;exact⟨this.1,this.2,h2,fun k hk=>eW.1 (h3 _ (aX hk))⟩
theorem fO(v:Value)(w:World)(O:Ints w v l):
  aH 132 #[aM #[n,v]] w (aG (cS n l)):=by
 obtain⟨a,b,Y,c,rfl,N,R,hc,hb⟩:=O.vw
 cases z:fN n 0 5 with
 |false=>
  have D:cS n l=false:=by unfold cS;rw[z];rfl
  have F:=aT D;clear D hc;go_enter func132,ntmps132;go_wp2_with (go_at_call 144;refine aV (kD _ _ _ _) ?_;rintro w' rfl);go_ret;exact⟨by rw[F.out];rfl,cQ _ _⟩
 |true=>
  have I:=eW.1 z;have K:0<=n:=I.1;have M:n<=5:=I.2;have hp:=(nX K M).1;have S:=(nX K M).2;by_cases hl:(l.length:Int)=2^n.toNat
  .have D:cS n l=nC l (-1000) 1000:=by unfold cS;rw[z,bH hl];rfl
   have J:((l.length:Int) != 2^n.toNat)=false:=by simp[hl]
   have F:=aT D;have Z:=aT hl;clear D hc I hl;go_enter func132,ntmps132;go_wp2_with (first
    |(go_at_call 144;refine aV (kD _ _ _ _) ?_;rintro w' rfl)
    |(go_at_call 175;refine aV (J0 l _ _ _ _ (O.alloc _)) ?_;rintro w' rfl))
   go_ret;exact⟨by rw[F.out];rfl,cQ _ _⟩
  .have D:cS n l=false:=by unfold cS;rw[z,bG hl];rfl
   have J:((l.length:Int) != 2^n.toNat)=true:=by simp[hl]
   have F:=aT D;clear D hc I hl;go_enter func132,ntmps132;go_wp2_with (go_at_call 144;refine aV (kD _ _ _ _) ?_;rintro w' rfl);go_ret;exact⟨by rw[F.out];rfl,cQ _ _⟩
theorem akP{p:Prop}(h:p:=by
  go_enter func20,ntmps20;go_wp2;go_quiet ((go_at_call 77;first|exact tE (eH _ _ _ _) J.out|exact vM (eH _ _ _ _) J.out));go_wp2;go_ret;exact⟨by rw[I.out];rfl,(cQ _ _).drewN' _⟩):p:=h
theorem akU{p:Prop}(h:p:=by
  go_wp2_with (go_at_call 77;refine aV (eH _ _ _ _) ?_;rintro w' rfl);go_round
  .exact⟨k+1,aA,cD,by rw[lG _ _ _ hlt,H.out,O];rfl⟩
  exact aY):p:=h
theorem fD(v:Value)(w:World)(Z:Ints w v l):
  aH 20 #[aM #[n,v]] w (aG (cS n l)):=by
 obtain⟨a,b,a1,c,rfl,M,S,hc,hb⟩:=Z.vw;have K:=bY hc hb (cQ w (.cells #[n,aD a l c] 27)) aU;clear hc
 cases D:fN n 0 5 with
 |false=>
  have F:cS n l=false:=by unfold cS;rw[D];rfl
  have I:=aT F;have J:=aT D;clear F K D;exact akP
 |true=>
  have N:=eW.1 D;have h0:0<=n:=N.1;have R:n<=5:=N.2;have hp:=(nX h0 R).1;have a8:=(nX h0 R).2;have J:=aT D;clear D;by_cases hl:(l.length:Int)=2^n.toNat
  .have F:cS n l=nC l (-1000) 1000:=by unfold cS;rw[J.out,bH hl];rfl
   have Y:((l.length:Int) != 2^n.toNat)=false:=by simp[hl]
   have I:=aT F;have HL:=aT hl;clear F N hl;go_enter func20,ntmps20;go_wp2;go_quiet ((go_at_call 77;first|exact tE (eH _ _ _ _) J.out|exact vM (eH _ _ _ _) J.out));go_wp2;go_loop [3] (fun i=>∃k:Nat,k<=l/\i=aO k/\(l.take k).all (fun x=>fN x (-1000) 1000)=true) (fun i=>l.length-(intOf i).toNat)
   .exact⟨0,aZ _,rfl,bF⟩
   obtain⟨k,hk,rfl,z⟩:=hrel;have H:=aT z;clear z;by_cases hlt:k<l
   .cases O:fN l[k] (-1000) 1000 with
    |true=>exact akU
    |false=>go_wp2_with (go_at_call 77;refine aV (eH _ _ _ _) ?_;rintro w' rfl);go_ret;exact⟨cP (by rw[I.out];unfold nC;rw[lW _ _ _ hlt O]),(cQ _ _).drewN' _⟩
   .go_wp2;go_ret;exact⟨cP (by rw[I.out];unfold nC;rw[<-nD (fun x=>fN x (-1000) 1000) l k aA,H.out]),(cQ _ _).drewN' _⟩
  .have F:cS n l=false:=by unfold cS;rw[J.out,bG hl];rfl
   have Y:((l.length:Int) != 2^n.toNat)=true:=by simp[hl]
   have I:=aT F;clear F N hl K;exact akP
def gP(n:Int)(l:List Int):Bool:=cS n l&&decide (l.getD 0 0=0)
theorem ai6{p:Prop}(h:p:=by
  intro w1 D;have d1:=keep D (cR w #[n,aD a l c] 27 1 _ rfl);have N:Below w w w1:=(cQ _ _).after D cK;have R:=bY hc hb N aU;clear hc hb D
  cases S:cS n l with
  |false=>
   have M:gP n l=false:=by unfold gP;rw[S];rfl
   have O:=aT M;clear M;go_wp2;go_ret;exact⟨by rw[O.out];rfl,N⟩
  |true=>
   obtain⟨Z,h5,hl,_⟩:=nE S;have hp:=(nX Z h5).2;have z:0<l.length:=aA;have M:gP n l=(l[0]==0):=by
    unfold gP;rw[S,bR,cG z];simp only[Option.getD_some,Bool.true_and]
    rfl
   have O:=aT M;have Y:∀w',(Instr.indexAt 25 (aD a l c) (aO 0)).run prog w'=.ok (aP (some ⟨b,F,none⟩)) w':=fun w'=>by simpa using I w' 0 z
   have a6:w1.cell? ⟨b,F,none⟩=some (aO l[0]):=R 0 z;clear M hl;go_wp2;go_ret;exact⟨by rw[O.out];rfl,N⟩):p:=h
theorem A8(v:Value)(w:World)(K:Ints w v l):
  aH 187 #[aM #[n,v]] w (aG (gP n l)):=by
 obtain⟨a,b,F,c,rfl,J,I,hc,hb⟩:=K.vw;go_enter func187,ntmps187;go_wp2_with fail;refine aV (fO n l _ _ (K.alloc _)) ?_;exact ai6
theorem A9(v:Value)(w:World)(K:Ints w v l):
  aH 23 #[aM #[n,v]] w (aG (gP n l)):=by
 obtain⟨a,b,F,c,rfl,J,I,hc,hb⟩:=K.vw;go_enter func23,ntmps23;go_wp2_with fail;refine aV (fD n l _ _ (K.alloc _)) ?_;exact ai6
def fE(s:Int)(e:Nat):Int:=s/2^e%2
theorem lL(s:Int)(k:Nat)(z:0<=s)(h1:s<4611686018427387904):bits BinOp.and IntKind.i64 (s/2^k) 1=fE s k:=by
 have F:0<=s/2^k:=Int.ediv_nonneg z (by have:=(dW k k aU).2;omega);have D:s/2^k<=s:=Int.ediv_le_self _ z;have:=XN (s/2^k).toNat aA;rw[show(((s/2^k).toNat:Nat):Int)=s/2^k from aA]at this;rw[this];unfold fE;omega
def zD(x:List Int)(s:Int):Nat->Int
 |0=>0
 |k+1=>if fE s k=1 then zD x s k+x.getD k 0 else zD x s k
def wt(x:List Int)(s:Int):Int:=zD x s x.length
theorem akM{p:Prop}(h:p:=by
  induction k with
  |zero=>simp[zD]
  |succ k ih=>
   have h1:=ih aA;have h2:=h k aA;rw[zD,bR,cG (show k<x.length from aA),Option.getD_some]
   split<;>omega):p:=h
theorem aeF(x:aI)(s:Int)(h:∀k,(hk:k<x.length)->-1000000<=x[k]/\x[k]<=1000000)(k:Nat)(hk:k<=x.length):-1000000*(k:Int)<=zD x s k/\zD x s k<=1000000*(k:Int):=by
 exact akM
theorem ai8{p:Prop}(h:p:=by
  obtain⟨k,hk,rfl,rfl⟩:=hrel;have I:=aeF x s M k hk;obtain⟨m,hm⟩:=aW (zD x s k);rw[<-hm]at I |-;have O:=aT hm;clear hm;by_cases hlt:k<x.length
  .have a1:=M k hlt;have Y:=lL s k S aA;have D:zD x s (k+1)=if fE s k=1 then m+x[k] else m:=by rw[zD,<-O.out,bR,cG hlt,Option.getD_some]
   have R:=aT D;clear D;by_cases z:fE s k=1
   .have ht:(fE s k==1)=true:=by simp[z]
    have Z:=aT z;clear z;go_wp2;go_round
    .exact⟨k+1,aA,cD,by rw[R.out,if_pos Z.out]⟩
    exact aY
   .have ht:(fE s k==1)=false:=by simp[z]
    go_wp2;go_round
    .exact⟨k+1,aA,cD,by rw[R.out,if_neg z]⟩
    exact aY
  .go_wp2
   go_ret;exact⟨jK (by rw[O.out,show k=x.length from aA];rfl),rfl⟩):p:=h
theorem MM(x:aI)(v:Value)(s:Int)(w:World)(K:Ints w v x)(S:0<=s)(h1:s<1073741824)(M:∀k,(hk:k<x.length)->-1000000<=x[k]/\x[k]<=1000000)(hl:x.length<=60):
  Calls prog 384 #[v,s] w fun e w'=>e=aQ (wt x s)/\w=w':=by
 obtain⟨a,b,N,c,rfl,F,J,hc,hb⟩:=K.vw;go_enter func384,ntmps384;go_wp2;go_loop [5,10] (fun m i=>∃k:Nat,k<=x.length/\i=aO k/\m=aO (zD x s k)) (fun _ i=>x.length-(intOf i).toNat)
 .exact⟨0,aZ _,rfl,rfl⟩
 exact ai8
theorem wZ(x:aI)(v:Value)(s:Int)(w:World)(K:Ints w v x)(S:0<=s)(h1:s<1073741824)(M:∀k,(hk:k<x.length)->-1000000<=x[k]/\x[k]<=1000000)(hl:x.length<=60):
  Calls prog 168 #[v,s] w fun e w'=>e=aQ (wt x s)/\w=w':=by
 obtain⟨a,b,N,c,rfl,F,J,hc,hb⟩:=K.vw;go_enter func168,ntmps168;go_wp2;go_loop [5,6] (fun m i=>∃k:Nat,k<=x.length/\i=aO k/\m=aO (zD x s k)) (fun _ i=>x.length-(intOf i).toNat)
 .exact⟨0,aZ _,rfl,rfl⟩
 exact ai8
structure BoxAt (wr:World) (B:Nat) (x y:Value):Prop where
 d0:wr.cell? ⟨B,0,none⟩=some x
 d1:wr.cell? ⟨B,1,none⟩=some y
 f0:wr.frozen? ⟨B,0,none⟩=false
 f1:wr.frozen? ⟨B,1,none⟩=false
theorem BoxAt.lt{wr:World}{B:Nat}{x y:Value}(h:BoxAt wr B x y):B<wr.heap.size:=World.block_lt_of_cell? wr _ h.d0
theorem BoxAt.keep{wr z:World}{B:Nat}{x y:Value}(h:BoxAt wr B x y)(hb:Below wr wr z):BoxAt z B x y:=
 ⟨G5.keep hb h.d0,G5.keep hb h.d1,(hb.frozen (p:=⟨B,0,none⟩) h.lt).trans h.f0,(hb.frozen (p:=⟨B,1,none⟩) h.lt).trans h.f1⟩
theorem BoxAt.grow{wr F:World}{row:Option Nat}{B:Nat}{x y:Value}(h:BoxAt wr B x y)(D:wr.grownBy F row)(z:row≠some B):BoxAt F B x y:=
 ⟨G5.grown_keep D h.d0 (fun k hk e=>z (by rw[hk,<-e])),G5.grown_keep D h.d1 (fun k hk e=>z (by rw[hk,<-e])),
  by rw[World.frozen?_of_block (D.block B h.lt (fun e=>z e.symm))];exact h.f0,by rw[World.frozen?_of_block (D.block B h.lt (fun e=>z e.symm))];exact h.f1⟩
theorem BoxAt.set1{wr:World}{B:Nat}{x y:Value}(h:BoxAt wr B x y)(v:Value):BoxAt (wr.setCell ⟨B,1,none⟩ v) B x v:=
 ⟨by rw[World.cell?_setCell_other _ _ _ _ bF];exact h.d0,World.cell?_setCell_same _ _ _ h.d1,by rw[World.frozen?_setCell];exact h.f0,by rw[World.frozen?_setCell];exact h.f1⟩
theorem BoxAt.other{wr:World}{B B' j:Nat}{x y:Value}(h:BoxAt wr B x y)(z:B'≠B)(v:Value):BoxAt (wr.setCell ⟨B',j,none⟩ v) B x y:=
 ⟨by rw[World.cell?_setCell_other _ _ _ _ (fun e=>z (congrArg Addr.block e))];exact h.d0,by rw[World.cell?_setCell_other _ _ _ _ (fun e=>z (congrArg Addr.block e))];exact h.d1,by rw[World.frozen?_setCell];exact h.f0,by rw[World.frozen?_setCell];exact h.f1⟩
theorem BoxAt.new(x y:Value)(T:TypeId):BoxAt (w.alloc (.cells #[x,y] T)) w.heap.size x y:=
 ⟨cR w #[x,y] T 0 _ rfl,cR w #[x,y] T 1 _ rfl,World.frozen?_alloc_at _ _ _ _ rfl,World.frozen?_alloc_at _ _ _ _ rfl⟩
def dE(P:Nat->Bool)(k:Nat):List Int:=((List.range k).filter P).map Int.ofNat
theorem gV(P:Nat->Bool)(k:Nat):dE P (k+1)=if P k then dE P k++[(k:Int)] else dE P k:=by
 unfold dE;rw[List.range_succ,List.filter_append,List.map_append];by_cases h:P k=true
 .simp[h]
 .simp[h]
theorem jD(P:Nat->Bool)(k:Nat):(dE P k).length<=k:=by
 unfold dE;rw[List.length_map];have:=List.length_filter_le P (List.range k);simpa using this
theorem apO{p:Prop}(h:p:=by
  have a1:(2:Nat)^n<=64:=bQ bZ hn;have a9:=dJ n;have K:((2^n:Nat):Int)=(2:Int)^n:=bF;obtain⟨N,hN⟩:∃N:Nat,N=2^n:=⟨_,rfl⟩;rw[<-hN]at hw a1 a9 K |-;have HN:=aT hN;clear hN;have r0:=(BoxAt.new w (aO 0) (aD none 0 0) 29);have r1:=r0.keep (cQ _ (.cells #[n,()] 29));have b1:=BoxAt.new (w.alloc (.cells #[aK,()] 29)) (aO n) (aD none 0 0) 29;go_enter func276,ntmps276;go_wp2_with fail;go_loopw [12] (fun i wr=>∃(k:Nat) (ad:Option Addr) (M D:Nat),k<=N/\i=aO k/\bB 3 (w.heap.size+1+1) wr (aD ad M D) (dE P k)/\Below w w wr /\
    BoxAt wr w.heap.size (aO 0) (aD none 0 0)/\BoxAt wr (w.heap.size+1) (aO n) (aD ad M D))
   (fun i _=>N-(intOf i).toNat)
  .exact⟨0,none,0,0,aZ _,rfl,bB.nil _ _ _,rB,r1,by simpa using b1⟩
  obtain⟨k,ad,M,D,hk,rfl,Z,B,R,X⟩:=hrel;clear r0 r1 b1;by_cases hlt:k<N
  .have Y:(k:Int)<2^n:=by rw[<-K];exact_mod_cast hlt
   have hcl:=hw k wr hlt B;have zr:=R.lt;have zx:=X.lt
   cases hP:P k with
   |false=>
    rw[hP]at hcl;go_wp2_with (go_at_fn c;refine aV hcl ?_;intro O z);go_roundw
    .exact⟨k+1,ad,M,D,aA,cD,by rw[gV,hP];exact Z.keep z,B.after z B.size,R.keep z,X.keep z⟩
    exact aY
   |true=>
    rw[hP]at hcl;have S:=jD P k;have c9:(dE P k).length<=64:=dC S (dC hk a1);go_wp2_with (first
     |(go_at_fn c;refine aV hcl ?_;intro O z;have e9:=(X.keep z).lt;obtain⟨e0,e1,g0,g1⟩:=X.keep z)
     |(at_builtin;refine eF rfl _ _ _ rfl 3 underlying25 intElem (w.heap.size+1+1) _ _ (k:Int) O.heap.size rfl rfl bF ((Z.keep z).alloc _) ⟨aA,aA⟩ aA bO ?_;intro v' w6 I J;obtain⟨av,nv,cv,rfl⟩:=I.shape3;have F:=(Z.keep z).lt;have X6:=((X.keep z).keep (cQ _ (.cells #[k] 3))).grow J (fun e=>by have:=(F _ e).1;omega);have R6:=((R.keep z).keep (cQ _ (.cells #[k] 3))).grow J (fun e=>by have:=(F _ e).1;omega);obtain⟨i0,i1,j0,j1⟩:=X6))
    have B6:Below w w w6:=((B.after z B.size).alloc (B.after z B.size).size (.cells #[k] 3)).grown J (by have:=(B.after z B.size).size;simp;omega) (fun q hq=>by have:=(F q hq).1;omega);go_roundw
    .exact⟨k+1,av,nv,cv,aA,cD,by rw[gV,if_pos hP];exact I.setBelow cK _,B6.setCell cK _,R6.other aA _,(BoxAt.mk i0 i1 j0 j1).set1 _⟩
    exact aY
  .have Y:¬(k:Int)<2^n:=by rw[<-K];exact_mod_cast hlt
   have a8:k=N:=aA;obtain⟨e0,e1,g0,g1⟩:=X;obtain⟨e2,e3,g2,g3⟩:=R;go_wp2;refine bW (v:=aM #[n,aD ad M D]) (by simp[results,results276,go_sem,e2,e3]) rfl ⟨ad,M,D,rfl,?_,?_⟩
   .rw[a8]at Z;exact((Z.setBelow cK _).setBelow cK _).mono cK
   .exact bX (bX B aU _) aU _):p:=h
theorem CE(n:Nat)(hn:n<=6)(c:FuncId)(he:∀args w,(callFunc c args).run prog w=.ok (.enter c args) w)(g:Nat)(P:Nat->Bool)
  (hw:∀(s:Nat) W',s<2^n->Below w w W'->Calls prog c #[(s:Int),aP (some ⟨g,0,none⟩)] W' fun e O=>e=aQ (aG (P s))/\Below W' W' O):
  Calls prog 276 #[(n:Int),.func (.func c) #[] #[aP (some ⟨g,0,none⟩)]] w fun e w'=>
   ∃ad i D,e=aQ (aM #[(n:Int),aD ad i D])/\bB 3 w w' (aD ad i D) (dE P (2^n))/\Below w w w':=by
 exact apO
def eI(code s:Nat):Bool:=code/2^s%2==1
theorem rP(code s:Nat):(fE (code:Int) s==1)=eI code s:=by
 unfold fE eI;have h:((code:Int)/2^s%2)=((code/2^s%2:Nat):Int):=by push_cast;rfl
 rw[h];have:(code/2^s%2)<2:=Nat.mod_lt _ bZ;rcases(show code/2^s%2=0\/code/2^s%2=1 from aA) with h1|h1<;>rw[h1]<;>rfl
def kN(code:Nat)(k:Nat):List Int:=dE (eI code) k
theorem P8(code k m:Nat)(h:code<2^k):kN code (k+m)=kN code k:=by
 induction m with
 |zero=>rfl
 |succ m ih=>rw[<-Nat.add_assoc,kN,gV,if_neg,<-kN,ih];have h1:code<2^(k+m):=dX h (bQ bZ aA);unfold eI;rw[Nat.div_eq_of_lt h1];decide
theorem vW(code k m:Nat)(h:code<2^k)(D:code<2^m):kN code k=kN code m:=by
 rcases Nat.le_total k m with z|z
 .obtain⟨d,rfl⟩:=Nat.exists_eq_add_of_le z;exact(P8 code k d h).symm
 .obtain⟨d,rfl⟩:=Nat.exists_eq_add_of_le z;exact P8 code m d D
theorem afM(code:Nat)(hc:code<2^32):
  Calls prog 79 #[(code:Int)] w fun e w'=>∃ad i z,e=aQ (aD ad i z)/\bB 3 w w' (aD ad i z) (kN code 32)/\Below w w w':=by
 have o0:=bB.lit0 (E:=3) (B:=w.heap.size) w aU;go_enter func79,ntmps79;go_wp2;go_loopw [3,4,5] (fun out i x wr=>∃(k:Nat) (ad:Option Addr) (M z:Nat),k<=32/\out=aD ad M z/\i=aO k/\x=aO ((code/2^k:Nat):Int)/\bB 3 w wr (aD ad M z) (kN code k)/\Below w w wr)
  (fun _ _ x _=>(intOf x).toNat)
 .exact⟨0,_,_,_,aA,rfl,rfl,bF,o0,cQ _ _⟩
 obtain⟨k,ad,M,z,hk,rfl,rfl,rfl,ho,B⟩:=hrel;obtain⟨q,F⟩:=aW (code/2^k);have K:code/2^(k+1)=q/2:=by rw[F,Nat.pow_succ,Nat.div_div_eq_div_mul]
 have b4:q<=code:=by rw[F];exact Nat.div_le_self _ _
 have hn:eI code k=(q%2==1):=by unfold eI;rw[F]
 have Z:=jD (eI code) k;rw[<-F];have hb:=XN q aA;have Y:=aT K;have S:=aT hn;have N:=aT ho;have I:=aT B;have hz:0<q->k+1<=32:=by
  intro h;by_cases h2:k+1<=32
  .exact h2
  .have:k=32:=aA;rw[F,this,Nat.div_eq_of_lt hc]at h;omega
 have O:=aT F;clear ho B F K hn;by_cases h0:0<q
 .have J:=hz h0;clear hz;by_cases h1:q%2=1
  .go_wp2_with (at_builtin;refine eF rfl _ _ _ rfl 3 underlying25 intElem w.heap.size _ _ (k:Int) wr.heap.size rfl rfl bF (N.out.alloc _) ⟨aA,aA⟩ (by unfold kN;omega) (by have:=I.out.size;simp;omega) ?_;intro v' w6 D R;obtain⟨av,nv,cv,rfl⟩:=D.shape3);have B6:Below w w w6:=(I.out.alloc I.out.size (.cells #[k] 3)).grown R (by have:=I.out.size;simp;omega) (fun p hp=>(N.out.lt p hp).1);go_roundw
   .exact⟨k+1,av,nv,cv,J,rfl,cD,by rw[Y.out];go_num,by rw[kN,gV,S.out,h1];exact D,B6⟩
   exact aY
  .go_wp2
   go_roundw
   .exact⟨k+1,ad,M,z,J,rfl,cD,by rw[Y.out];go_num,by rw[kN,gV,S.out,show(q%2==1)=false by simp[h1]];exact N.out,I.out⟩
   exact aY
 .go_wp2
  go_ret;refine⟨ad,M,z,rfl,?_,I.out⟩;have hlt:code<2^k:=by
   have:=O.out;rcases Nat.lt_or_ge code (2^k) with h|h
   .exact h
   .have:=Nat.div_pos h (dJ k);omega
  rw[vW code 32 k hc hlt];exact N.out
theorem YK(code k:Nat):∀x∈kN code k,0<=x/\x<(k:Int):=by
 intro x z;unfold kN dE at z;rw[List.mem_map]at z;obtain⟨s,D,rfl⟩:=z;rw[List.mem_filter,List.mem_range]at D;simp only[Int.ofNat_eq_natCast];omega
def iP(s:Int):List Int:=kN s.toNat 6
theorem ahR(s:Int)(n:Nat)(z:n<=6)(h1:s.toNat<2^n):∀x∈iP s,0<=x/\x<(n:Int):=by
 have h2:s.toNat<2^6:=dX h1 (bQ bZ z);unfold iP;rw[vW s.toNat 6 n h2 h1];exact YK _ _
theorem SR(s:Int):∀x∈iP s,0<=x/\x<6:=by
 intro x z;unfold iP at z;have:=YK s.toNat 6 x z;omega
theorem xQ(s:Int):(iP s).length<=6:=by
 unfold iP kN;exact jD _ 6
theorem aqM:∀s:Nat,s<64->(kN s 6).length=dG s:=dS
theorem adJ(s:Int)(h:s<64):((iP s).length:Int)=eO s:=by
 unfold iP eO;rw[aqM s.toNat aA]
theorem I7(s:Int)(w:World)(D:0<=s)(h1:s<64):
  Calls prog 79 #[s] w fun e w'=>∃ad i z,e=aQ (aD ad i z)/\bB 3 w w' (aD ad i z) (iP s)/\Below w w w':=by
 have:=afM w s.toNat aA;rw[show((s.toNat:Nat):Int)=s from aA,vW s.toNat 32 6 aA aA]at this;exact this
theorem nJ(s:Int)(w:World)(h0:0<=s)(h1:s<64):
  Calls prog 215 #[s] w fun e w'=>∃ad i D,e=aQ (aD ad i D)/\bB 3 w w' (aD ad i D) (iP s)/\Below w w w':=by
 obtain⟨code,rfl⟩:=cN h0;have hc:code<64:=aA;have R:iP (code:Int)=kN code 6:=by unfold iP;rw[show((code:Int)).toNat=code from aA]
 have a7:=aT R;clear R;go_enter func215,ntmps215;go_wp2;go_loopw [3,4] (fun out i wr=>∃(k:Nat) (ad:Option Addr) (Z D:Nat),k<=6/\out=aD ad Z D/\i=aO k/\bB 3 w wr (aD ad Z D) (kN code k)/\Below w w wr)
  (fun _ i _=>7-(intOf i).toNat)
 .exact⟨0,none,0,0,aA,rfl,rfl,bB.nil _ _ _,bJ _ _⟩
 obtain⟨k,ad,Z,D,hk,rfl,rfl,ho,B⟩:=hrel;have F:=lL (code:Int) k aA aA;have z:=rP code k;have b4:=jD (eI code) k;have I:((code:Int)/2^k)=((code/2^k:Nat):Int):=by push_cast;rfl
 have b0:code/2^k<=code:=Nat.div_le_self _ _;have hz:code/2^k≠0->k+1<=6:=by
  intro h;by_cases h2:k+1<=6
  .exact h2
  .exfalso
   have:k=6:=aA;rw[this,Nat.div_eq_of_lt hc]at h;exact h rfl
 have O:kN code (k+1)=if eI code k then kN code k++[(k:Int)] else kN code k:=gV (eI code) k;obtain⟨q,hq⟩:=aW (code/2^k);obtain⟨y,hy⟩:=aW (fE (code:Int) k);rw[<-hq]at I hz b0;rw[<-hy]at F z;rw[I]at F;have HQ:=aT hq;have HO:=aT ho;have M:=aT B;have N:=aT O;have HZ:=aT hz;clear hq hy ho B O hz;by_cases h0:q=0
 .subst h0
  have hr:kN code k=kN code 6:=by
   have hlt:code<2^k:=by
    rcases Nat.lt_or_ge code (2^k) with h|h
    .exact h
    .have:=Nat.div_pos h (dJ k);have:=HQ.out;omega
   exact vW code k 6 hlt aA
  have HR:=aT hr;clear hr;go_wp2;go_ret;exact⟨ad,Z,D,rfl,by rw[a7.out,<-HR.out];exact HO.out,M.out⟩
 .have S:=HZ.out h0;have ht:((q:Int) != 0)=true:=bO;have Y:=HO.out.lt
  cases hb:eI code k with
  |true=>
   have b1:(y==1)=true:=by rw[z,hb]
   have K:=aT hb;clear hb z;go_wp2_with (at_builtin;refine eF rfl _ _ _ rfl 3 underlying25 intElem w.heap.size _ _ (k:Int) wr.heap.size rfl rfl (cR wr #[k] 3 0 _ rfl) (HO.out.alloc _) ⟨aA,aA⟩ (by unfold kN;omega) (by have:=M.out.size;simp;omega) ?_;intro v' w6 J a8;obtain⟨av,nv,cv,rfl⟩:=J.shape3);have B6:Below w w w6:=(M.out.alloc M.out.size (.cells #[k] 3)).grown a8 (by have:=M.out.size;simp;omega) (fun p hp=>(Y p hp).1);go_roundw
   .exact⟨k+1,av,nv,cv,S,rfl,cD,by rw[N.out,K.out];exact J,B6⟩
   exact aY
  |false=>
   have b1:(y==1)=false:=by rw[z,hb]
   have K:=aT hb;clear hb z;go_wp2;go_roundw
   .exact⟨k+1,ad,Z,D,S,rfl,cD,by rw[N.out,K.out];exact HO.out,M.out⟩
   exact aY
end
end Go.Proofs.YtkdbkjjacgigiaaGreatDoor
section
namespace Go.G5
open Go Go.RowKit
def bK(w:World)(g:Nat)(t:TypeId)(cs:Array Value):Prop:=w.heap[g]?=some (.cells cs t (0,0))
section
variable {w w':World} {g:Nat} {t:TypeId} {cs:Array Value}
theorem bK.lt(h:bK w g t cs):g<w.heap.size:=(dU.1 h).1
theorem bK.cell(h:bK w g t cs):∀i,w.cell? ⟨g,i,none⟩=cs[i]?:=fun i=>cell_of_row w g i cs t (0,0) h
theorem bK.frozen(h:bK w g t cs):∀i,w.frozen? ⟨g,i,none⟩=false:=fun i=>by
 unfold bK at h;simp[World.frozen?,h]
theorem bK.new(w:World)(t:TypeId)(cs:Array Value):bK (w.alloc (.cells cs t)) w.heap.size t cs:=heap_alloc_new w _
theorem bK.keep(h:bK w g t cs)(hb:Below w.heap.size w w'):bK w' g t cs:=(hb.block g h.lt).trans h
theorem bK.alloc(h:bK w g t cs)(o:Obj):bK (w.alloc o) g t cs:=h.keep (cQ w o)
theorem bK.drewN(h:bK w g t cs)(n:Nat):bK (w.drewN n) g t cs:=h
theorem bK.set(h:bK w g t cs)(i:Nat)(u:Value):bK (w.setCell ⟨g,i,none⟩ u) g t (cs.setIfInBounds i u):=by
 unfold bK at h |-;simp[World.setCell,Array.getElem?_modify,h]
theorem bK.far(h:bK w g t cs){p:Addr}(z:g≠p.block)(u:Value):bK (w.setCell p u) g t cs:=(Below.heap_setCell w p u g z).trans h
theorem bK.grow{row:Option Nat}(h:bK w g t cs)(hb:w.grownBy w' row)(z:row≠some g):bK w' g t cs:=(hb.block g h.lt (fun e=>z e.symm)).trans h
end
theorem jV{V w:World}{c:Array Value}{T:TypeId}(h:V=w.alloc (.cells c T)):bK V w.heap.size T c:=by rw[h];exact bK.new _ _ _
theorem iQ{V w:World}{c:Array Value}{T:TypeId}{o:Obj}(h:V=(w.alloc (.cells c T)).alloc o):bK V w.heap.size T c:=by rw[h];exact(bK.new _ _ _).alloc _
theorem jL{V w:World}{c:Array Value}{T:TypeId}{o:Obj}(h:V=(w.alloc o).alloc (.cells c T)):bK V (w.heap.size+1) T c:=by rw[h];have:=bK.new (w.alloc o) T c;simpa using this
theorem cT{P:Program}{f:Func}{Q:Ending->World->Prop}{e:Exit}{a:Act}{W:World}(h:∀W',W'=W->bodyPost P f Q e a W'):bodyPost P f Q e a W:=h W rfl
