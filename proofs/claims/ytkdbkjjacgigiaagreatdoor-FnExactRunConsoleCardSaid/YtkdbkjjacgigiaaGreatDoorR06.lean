/- Lemmas for CardRunConsole. No condition. -/
import Derived.Test.YtkdbkjjacgigiaaGreatDoorR05
set_option maxRecDepth 100000
set_option maxHeartbeats 64000000
namespace Go.Proofs.YtkdbkjjacgigiaaGreatDoor
section
open Go.RowKit Go.G5 Go.Proofs.Tryz
variable(w:World)(n:Int)(v:Value)(l:aI)
theorem QU(ad:Option Addr)(i D:Nat)(l:aI)(J:Ints w (aD ad i D) l)(F:cS n l=true):
  aH 153 #[n,aD ad i D] w (aS #[aM #[n,aD ad i D],aG true]):=by
 go_enter func153,ntmps153;go_wp2_with fail;refine aV (fD n l _ _ (J.below rB aU)) ?_;intro w1 hb;rw[F];obtain⟨hc,I⟩:=jN hb (w.heap.size+1+1) cK;have z:=hb.size;simp at z;go_wp2;exact bW (v:=aS #[aM #[n,aD ad i D],aG true]) (by simp[results,results153,go_sem,hc]) rfl ⟨rfl,rB⟩
theorem aiO(ad:Option Addr)(i D:Nat)(l:aI)(J:Ints w (aD ad i D) l)(F:cS n l=false):
  aH 153 #[n,aD ad i D] w (aS #[aM #[aK,()],aG false]):=by
 go_enter func153,ntmps153;go_wp2_with fail;refine aV (fD n l _ _ (J.below rB aU)) ?_;intro w1 hb;rw[F];obtain⟨hc,I⟩:=jN hb (w.heap.size+1+1) cK;have z:=hb.size;simp at z;go_wp2;exact bW (v:=aS #[aM #[aK,()],aG false]) (by simp[results,results153,go_sem,hc]) rfl ⟨rfl,rB⟩
theorem afN(ad:Option Addr)(i D:Nat)(l:aI)(J:Ints w (aD ad i D) l)(I:Bool)(h:cS n l=I):
  Calls prog 153 #[n,aD ad i D] w fun e w'=>∃z K F,e=aQ (aS #[aM #[aO (if I then n else 0),aD z K F],aG I])/\(aD z K F:Value)=(if I then aD ad i D else aD none 0 0)/\Below w w w':=by
 cases I
 .exact(aiO w n ad i D l J h).mono fun e w' ⟨h1,h2⟩=>⟨_,_,_,h1,rfl,h2⟩
 .exact(QU w n ad i D l J h).mono fun e w' ⟨h1,h2⟩=>⟨_,_,_,h1,rfl,h2⟩
abbrev mJ:=Nat×Nat×Nat
def rA(s i:Nat):Nat->List mJ
 |0=>[]
 |k+1=>rA s i k++(if (decide (i<k)&&(!eI s i&&!eI s k)) then [(s,i,k)] else [])
def nO(n s:Nat):Nat->List mJ
 |0=>[]
 |i+1=>nO n s i++rA s i n
def lR(n:Nat):Nat->List mJ
 |0=>[]
 |s+1=>lR n s++nO n s n
theorem V7(s i:Nat):∀k,k<=i+1->rA s i k=[]:=by
 intro k
 induction k with
 |zero=>intro _;rfl
 |succ k ih=>intro hk;rw[rA,ih aA,bG aA];rfl
theorem atX(s i k m:Nat)(h:k<=m):∃r,rA s i m=rA s i k++r:=by
 induction m with
 |zero=>have:k=0:=aA;subst this;exact⟨[],rfl⟩
 |succ m ih=>
  by_cases hk:k=m+1
  .subst hk;exact⟨[],bF⟩
  .obtain⟨r,hr⟩:=ih aA;exact⟨r++_,by rw[rA,hr,eY]⟩
theorem ar4(n s i m:Nat)(h:i<=m):∃r,nO n s m=nO n s i++r:=by
 induction m with
 |zero=>have:i=0:=aA;subst this;exact⟨[],rfl⟩
 |succ m ih=>
  by_cases hk:i=m+1
  .subst hk;exact⟨[],bF⟩
  .obtain⟨r,hr⟩:=ih aA;exact⟨r++_,by rw[nO,hr,eY]⟩
theorem ar5(n s m:Nat)(h:s<=m):∃r,lR n m=lR n s++r:=by
 induction m with
 |zero=>have:s=0:=aA;subst this;exact⟨[],rfl⟩
 |succ m ih=>
  by_cases hk:s=m+1
  .subst hk;exact⟨[],bF⟩
  .obtain⟨r,hr⟩:=ih aA;exact⟨r++_,by rw[lR,hr,eY]⟩
theorem MJ(n N s i k:Nat)(D:s<N)(z:i<n)(hk:k<=n):∃r,lR n N=((lR n s++nO n s i)++rA s i k)++r:=by
 obtain⟨J,h3⟩:=ar5 n (s+1) N D;obtain⟨I,h2⟩:=ar4 n s (i+1) n z;obtain⟨F,h1⟩:=atX s i k n hk;rw[lR]at h3;rw[nO]at h2;exact⟨F++(I++J),by rw[h3,h2,h1];simp[List.append_assoc]⟩
theorem ar8(s i k:Nat):∀t∈rA s i k,t.1=s/\t.2.1=i/\i<t.2.2/\t.2.2<k:=by
 induction k with
 |zero=>intro t h;cases h
 |succ k ih=>
  intro t h;rw[rA,dM]at h;rcases h with h|h
  .have:=ih t h;omega
  .split at h
   .rename_i hc;rw[eM]at h;rw[fB]at hc;have:=eD hc.1;subst h;simp;omega
   .cases h
theorem apC(n s i:Nat):∀t∈nO n s i,t.1=s/\t.2.1<i/\t.2.1<t.2.2/\t.2.2<n:=by
 induction i with
 |zero=>intro t h;cases h
 |succ i ih=>
  intro t h;rw[nO,dM]at h;rcases h with h|h
  .have:=ih t h;omega
  .have:=ar8 s i n t h;omega
theorem abB(n s:Nat):∀t∈lR n s,t.1<s/\t.2.1<t.2.2/\t.2.2<n:=by
 induction s with
 |zero=>intro t h;cases h
 |succ s ih=>
  intro t h;rw[lR,dM]at h;rcases h with h|h
  .have:=ih t h;omega
  .have:=apC n s n t h;omega
def jX{α:Type}(step:α->mJ->α×Bool):List mJ->α->α×Bool
 |[],a=>(a,true)
 |t::r,a=>if (step a t).2 then jX step r (step a t).1 else ((step a t).1,false)
theorem OG{α:Type}(step:α->mJ->α×Bool)(x y:List mJ)(a:α):jX step (x++y) a=if (jX step x a).2 then jX step y (jX step x a).1 else jX step x a:=by
 induction x generalizing a with
 |nil=>rfl
 |cons t x ih=>
  rw[List.cons_append,jX,jX]
  split
  .exact ih _
  .rename_i h;simp
theorem ad5{α:Type}{step:α->mJ->α×Bool}{x y:List mJ}{a b:α}(h:jX step x a=(b,true)):jX step (x++y) a=jX step y b:=by rw[OG,h];rfl
theorem VT{α:Type}{step:α->mJ->α×Bool}{x y:List mJ}{a b:α}(h:jX step x a=(b,false)):jX step (x++y) a=(b,false):=by rw[OG,h];rfl
theorem aaV{α:Type}(step:α->mJ->α×Bool)(t:mJ)(a:α):jX step [t] a=step a t:=by
 rw[jX]
 split
 .rename_i h;rw[jX];ext<;>simp[h]
 .rename_i h;ext<;>simp_all
def nB(l:List Int)(s i k:Nat):Int:=l.getD (dF s i ||| dF s k) 0+l.getD s 0-l.getD (dF s i) 0-l.getD (dF s k) 0
def zM(l:List Int)(t:mJ):Bool:=decide (0<nB l t.1 t.2.1 t.2.2)
def kW(l:List Int)(a:Option mJ)(t:mJ):Option mJ×Bool:=if zM l t then (some t,false) else (a,a.isNone)
def ER(n:Nat)(l:List Int):Option mJ:=(jX (kW l) (lR n (2^n)) none).1
def sR(n:Int)(l:List Int):Option mJ:=if cS n l then ER n.toNat l else none
def mS(n:Int)(l:List Int):Bool:=(sR n l).isSome
def apD:Option mJ->List Int
 |none=>[]
 |some t=>[(t.1:Int),(t.2.1:Int),(t.2.2:Int)]
def pE(n:Int)(l:List Int):List Int:=apD (sR n l)
def iW(n:Int)(l:List Int):Bool:=cS n l&&!mS n l
theorem aoO(s x y:Nat):(s ||| x) ||| (s ||| y)=(s ||| x) ||| y:=by
 apply Nat.eq_of_testBit_eq
 intro j;simp only[Nat.testBit_or]
 cases s.testBit j<;>cases x.testBit j<;>cases y.testBit j<;>rfl
theorem tM(s i k:Nat):dF s i ||| dF s k=dF (dF s i) k:=by unfold dF;exact aoO s (2^i) (2^k)
theorem YI(n:Nat)(l:aI)(hl:l.length=2^n)(hb:∀k,(hk:k<l.length)->-1000<=l[k]/\l[k]<=1000)(s i k:Nat)(z:s<2^n)(D:i<n)(hk:k<n):-4000<=nB l s i k/\nB l s i k<=4000:=by
 have h1:=gI s i n z D;have h2:=gI s k n z hk;have h3:=gI (dF s i) k n h1 hk;rw[<-tM]at h3;unfold nB;rw[cJ l _ aA,cJ l _ aA,cJ l _ aA,cJ l _ aA];have F:=hb (dF s i) aA;have b2:=hb (dF s k) aA;have I:=hb (dF s i ||| dF s k) aA;have J:=hb s aA;omega
def BL(l:List Int)(s e:Nat):Bool:=!decide (fW l s e<0)
def rG(n:Int)(l:List Int):Bool:=cS n l&&dP (fun s=>dP (BL l s) n.toNat) l.length
theorem eJ{n:Int}{l:aI}(h:cS n l=true):∃N:Nat,n=N/\N<=5/\l.length=2^N/\l.length<=32/\∀k,(hk:k<l.length)->-1000<=l[k]/\l[k]<=1000:=by
 obtain⟨J,K,z,I⟩:=nE h;obtain⟨N,rfl⟩:=cN J;have D:N<=5:=aA;have F:l.length=2^N:=by
  have e2:(N:Int).toNat=N:=aA;rw[e2]at z
  exact_mod_cast z
 have M:(2:Nat)^N<=32:=bQ (n:=2) bZ D;exact⟨N,rfl,D,F,aA,I⟩
theorem ZA(v:Value)(w:World)(hv:Ints w v l):
  aH 186 #[aM #[n,v]] w (aG (rG n l)):=by
 have Y:=hv;obtain⟨a,c,rfl⟩:=hv.shape;have K0:=bK.new w 27 #[n,aD a l c]
 cases R:cS n l with
 |false=>
  have hx:rG n l=false:=by unfold rG;rw[R];rfl
  have HX:=aT hx;have HF:=aT R;clear hx R;go_enter func186,ntmps186;go_wp2_with (go_at_call 132;refine aV (fO n l _ _ (Y.alloc _)) ?_;intro w1 D;rw[HF.out]);go_ret;exact⟨cP HX.out.symm,(cQ _ _).after D bF⟩
 |true=>
  obtain⟨N,rfl,f5,b1,e9,b3⟩:=eJ R;have hx:rG N l=dP (fun s=>dP (BL l s) N) l.length:=by unfold rG;rw[R];simp
  obtain⟨F,hF⟩:∃F:Nat->Bool,F=fun s=>dP (BL l s) N:=⟨_,rfl⟩;rw[<-hF]at hx;have HX:=aT hx;have HF:=aT R;have c5:=aT hF;have c7:=aT b3;have c6:=aT b1;clear hx R hF b3 b1;go_enter func186,ntmps186;go_wp2_with fail;refine aV (fO N l _ _ (Y.alloc _)) ?_;intro w1 D;rw[HF.out];have K1:=K0.keep D;have B1:Below w w w1:=(cQ _ _).after D bF;have G1:=K1.cell;clear K0 D;go_wp2_with fail;go_loopw [11] (fun i wr=>∃s:Nat,s<=l.length/\i=aO s/\dP F s=true/\Below w w wr/\bK wr w 27 #[N,aD a l c]) (fun i _=>l.length-(intOf i).toNat)
  .exact⟨0,aZ _,rfl,rfl,B1,K1⟩
  obtain⟨s,hs,rfl,z,B,K⟩:=hrel;obtain⟨wo,rfl⟩:∃wo:World,wo=wr:=⟨_,rfl⟩;have H:=aT z;clear z G1;have G1:=K.cell;by_cases J:s<l.length
  .have a9:F s=dP (BL l s) N:=by rw[c5.out]
   have a7:=aT a9;clear a9;go_wp2_with fail;go_loopw [16] (fun i wr=>∃k:Nat,k<=N/\i=aO k/\dP (BL l s) k=true/\Below w w wr/\bK wr w 27 #[N,aD a l c]) (fun i _=>N-(intOf i).toNat)
   .exact⟨0,aZ _,rfl,rfl,B,K⟩
   obtain⟨k,hk,rfl,z,Z,K2⟩:=hrel;obtain⟨wi,rfl⟩:∃wo:World,wo=wr:=⟨_,rfl⟩;have H2:=aT z;clear z G1;have G1:=K2.cell;by_cases b0:k<N
   .have e4:dF s k<l.length:=by rw[c6.out]at J |-;exact gI _ _ _ J b0
    have hg:=IX N l _ s k wi (Y.below Z aU) aA J aA e4 c7.out;have S:BL l s k=!decide (fW l s k<0):=rfl;obtain⟨q,hq⟩:=aW (fW l s k);rw[<-hq]at hg S;have HG:=aT hg;have a8:=aT S;clear hg S hq;by_cases O:q<0
    .have hu:BL l s k=false:=by rw[a8.out,bH O];rfl
     have M:rG N l=false:=by rw[HX.out];exact eT J (by rw[a7.out];exact eT b0 hu)
     have a6:=aT M;clear hu M;go_wp2_with (go_at_call 266;refine aV HG.out ?_;intro w3 I);go_ret;exact⟨cP a6.out.symm,Z.after I Z.size⟩
    .have hu:BL l s k=true:=by rw[a8.out,bG O];rfl
     have HU:=aT hu;clear hu;go_wp2_with (go_at_call 266;refine aV HG.out ?_;intro w3 I);go_roundw
     .exact⟨k+1,aA,cD,fJ H2.out HU.out,Z.after I Z.size,K2.keep I⟩
     exact aY
   .have e0:k=N:=aA;subst e0;go_wp2;go_roundw
    .exact⟨s+1,aA,cD,fJ H.out (by rw[a7.out];exact H2.out),Z,K2⟩
    exact aY
  .have b4:s=l.length:=aA;subst b4;go_wp2;go_ret;exact⟨cP (by rw[HX.out,H.out]),B⟩
end
section
open Go.RowKit Go.G5 Go.Proofs.Tryz
end
section
open Go.RowKit Go.G5 Go.Proofs.Tryz
variable(w:World)(n:Int)(v:Value)(l:aI)
theorem ajB{p:Prop}(h:p:=by
  obtain⟨k,n,hk,rfl,rfl,I⟩:=hrel;have H:=aT I;clear I;by_cases hlt:k<l.length
  .have b5:k<z.length:=aA;by_cases F:l[k]=z[k]
   .have ht:(l[k] != z[k])=false:=by simp[F]
    have HQ:=aT F;clear F;go_wp2;go_quiet (fail);go_wp2;go_roundw
    .refine⟨k+1,_,aA,cD,rfl,fun j h M hj=>?_⟩;by_cases b0:j=k
     .subst b0;exact HQ.out
     .exact H.out j h M aA
    exact aY
   .have ht:(l[k] != z[k])=true:=by simp[F]
    have HQ:=aT F;clear F;go_wp2;go_quiet (fail);go_wp2;go_ret;exact⟨cP (by simp;intro e;subst e;exact HQ.out rfl),⟨n+nq,bF⟩⟩
  .have b9:l.length<=k:=aA
   go_wp2;go_ret;exact⟨cP (by simp;exact List.ext_getElem HL.out fun j h M=>H.out j h M aA),⟨n,rfl⟩⟩):p:=h
theorem afO(v Z:Value)(l z:aI)(w:World)(hv:Ints w v l)(K:Ints w Z z):
  Calls prog 98 #[v,Z] w fun e w'=>e=aQ (aG (decide (l=z)))/\∃n,w'=w.drewN n:=by
 obtain⟨a,b,b3,c,rfl,S,a9,hc,hb⟩:=hv.vw;obtain⟨a',b',Y,c',rfl,J,N,a8,a6⟩:=K.vw;by_cases D:l.length=z.length
 .have HL:=aT D;have O:l.length<=z.length:=aA;have R:z.length<=l.length:=aA;have a7:((l.length:Int) != (z.length:Int))=false:=by simp[D]
  clear D;go_enter func98,ntmps98;go_wp2;go_loopw [5] (fun i wr=>∃k n:Nat,k<=l/\i=aO k/\wr=w.drewN n/\(∀j (h:j<l.length) (M:j<z.length),j<k->l[j]=z[j]))
   (fun i _=>l.length-(intOf i).toNat)
  .exact⟨0,0,aZ _,rfl,rfl,by intros;omega⟩
  exact ajB
 .go_enter func98,ntmps98;go_wp2;go_ret;exact⟨cP (by simp;intro h;exact D (by rw[h])),⟨0,rfl⟩⟩
theorem RS(v Z:Value)(l z:aI)(w:World)(hv:Ints w v l)(K:Ints w Z z):
  Calls prog 340 #[v,Z] w fun e w'=>e=aQ (aG (decide (l=z)))/\∃n,w'=w.drewN n:=by
 obtain⟨a,b,b3,c,rfl,S,a9,hc,hb⟩:=hv.vw;obtain⟨a',b',Y,c',rfl,J,N,a8,a6⟩:=K.vw;by_cases D:l.length=z.length
 .have HL:=aT D;have O:l.length<=z.length:=aA;have R:z.length<=l.length:=aA;have a7:((l.length:Int) != (z.length:Int))=false:=by simp[D]
  clear D;go_enter func340,ntmps340;go_wp2;go_loopw [13] (fun i wr=>∃k n:Nat,k<=l/\i=aO k/\wr=w.drewN n/\(∀j (h:j<l.length) (M:j<z.length),j<k->l[j]=z[j]))
   (fun i _=>l.length-(intOf i).toNat)
  .exact⟨0,0,aZ _,rfl,rfl,by intros;omega⟩
  exact ajB
 .go_enter func340,ntmps340;go_wp2;go_ret;exact⟨cP (by simp;intro h;exact D (by rw[h])),⟨0,rfl⟩⟩
@[reducible] def clV (k n1 : Int) (v1 : Value) (n2 : Int) (v2 : Value) (n3 : Int) (v3 : Value) (q st : Int) (v4 : Value) : Value :=
 .agg #[k,n1,v1,n2,v2,n3,v3,q,st,v4]
@[reducible] def clC (k n1 : Int) (v1 : Value) (n2 : Int) (v2 : Value) (n3 : Int) (v3 : Value) (q st : Int) (v4 : Value) : Array Value :=
 #[k,n1,v1,n2,v2,n3,v3,q,st,v4]
def IZ(l:List Int)(a:Int)(t:mJ):Int×Bool:=(max a (nB l t.1 t.2.1 t.2.2),true)
def YV(n:Nat)(l:List Int):Int:=(jX (IZ l) (lR n (2^n)) 0).1
def qP(n:Int)(l:List Int):Int:=if cS n l then YV n.toNat l else 0
def jR(X:List Int)(a:Int):Int:=X.foldl max a
theorem JC:∀(X:aI) (a:Int),a<=jR X a/\∀x∈X,x<=jR X a
 |[],a=>⟨Int.le_refl _,bF⟩
 |y::X,a=>by
  have⟨h1,h2⟩:=JC X (max a y);refine⟨by unfold jR at h1 |-;rw[List.foldl_cons];omega,fun x z=>?_⟩;rcases fK.1 z with rfl|z
  .unfold jR at h1 |-;rw[List.foldl_cons];omega
  .exact h2 x z
theorem JD:∀(X:aI) (a:Int),jR X a=a\/jR X a∈X
 |[],a=>.inl rfl
 |y::X,a=>by
  have h:=JD X (max a y);have e:jR (y::X) a=jR X (max a y):=rfl;rw[e];rcases h with h|h
  .rw[h];rcases Int.le_total a y with h1|h1
   .right;rw[Int.max_eq_right h1];simp
   .left;exact Int.max_eq_left h1
  .exact .inr (List.mem_cons_of_mem _ h)
theorem aoJ(X Y:aI)(a:Int)(h1:∀x∈X,x∈Y)(h2:∀y∈Y,y∈X):jR X a=jR Y a:=by
 have z:=JC X a;have D:=JC Y a;have F:=JD X a;have I:=JD Y a;have e1:jR X a<=jR Y a:=by
  rcases F with h|h
  .rw[h];exact D.1
  .exact D.2 _ (h1 _ h)
 have e2:jR Y a<=jR X a:=by
  rcases I with h|h
  .rw[h];exact z.1
  .exact z.2 _ (h2 _ h)
 omega
theorem afX(X:aI)(a y:Int):jR (X++[y]) a=max (jR X a) y:=by simp[jR]
def BM(l:List Int)(t:mJ):Int:=nB l t.1 t.2.1 t.2.2
theorem SY(l:aI):∀(T:List mJ) (a:Int),jX (IZ l) T a=(jR (T.map (BM l)) a,true)
 |[],_=>rfl
 |t::T,a=>by
  rw[jX];show(if true=true then _ else _)=_;rw[if_pos rfl,SY l T]
  rfl
def J8(s i:Nat):Nat->List mJ
 |0=>[]
 |k+1=>J8 s i k++(if (!eI s i&&!eI s k) then [(s,i,k)] else [])
def yW(s:Nat):Nat->List mJ
 |0=>[]
 |i+1=>yW s i++J8 s i i
def wQ(n:Nat):Nat->List mJ
 |0=>[]
 |s+1=>wQ n s++yW s n
theorem ar9(s i k:Nat)(t:mJ):t∈J8 s i k↔t.1=s/\t.2.1=i/\t.2.2<k/\eI s i=false/\eI s t.2.2=false:=by
 induction k with
 |zero=>simp[J8]
 |succ k ih=>
  rw[J8,dM,ih];obtain⟨a,b,c⟩:=t;constructor
  .rintro(h|h)
   .exact⟨h.1,h.2.1,by have:=h.2.2.1;omega,h.2.2.2⟩
   .split at h
    .rename_i hc;rw[eM]at h;simp only[Prod.mk.injEq]at h;obtain⟨rfl,rfl,rfl⟩:=h;simp only[Bool.and_eq_true,Bool.not_eq_true']at hc;exact⟨rfl,rfl,bF,hc.1,hc.2⟩
    .cases h
  .rintro⟨h1,h2,h3,h4,z⟩;simp only at h1 h2 h3 z;by_cases hk:c=k
   .right;subst hk h1 h2;rw[if_pos (by rw[h4,z];rfl)];simp
   .left;exact⟨h1,h2,by simp only;omega,h4,z⟩
theorem apF(s i:Nat)(t:mJ):t∈yW s i↔t.1=s/\t.2.1<i/\t.2.2<t.2.1/\eI s t.2.1=false/\eI s t.2.2=false:=by
 induction i with
 |zero=>simp[yW]
 |succ i ih=>
  rw[yW,dM,ih,ar9];constructor
  .rintro(h|h)
   .exact⟨h.1,aA,h.2.2⟩
   .have e:=h.2.1;exact⟨h.1,aA,aA,by rw[e];exact h.2.2.2.1,h.2.2.2.2⟩
  .rintro⟨h1,h2,h3,h4,z⟩;by_cases hk:t.2.1=i
   .right;exact⟨h1,hk,aA,by rw[<-hk];exact h4,z⟩
   .left;exact⟨h1,aA,h3,h4,z⟩
theorem abC(n s:Nat)(t:mJ):t∈wQ n s↔t.1<s/\t.2.1<n/\t.2.2<t.2.1/\eI t.1 t.2.1=false/\eI t.1 t.2.2=false:=by
 induction s with
 |zero=>simp[wQ]
 |succ s ih=>
  rw[wQ,dM,ih,apF];constructor
  .rintro(h|h)
   .exact⟨aA,h.2⟩
   .have e:=h.1;rw[e];exact⟨aA,h.2⟩
  .rintro⟨h1,h2⟩;by_cases hk:t.1=s
   .right;rw[hk]at h2;exact⟨hk,h2⟩
   .left;exact⟨aA,h2⟩
theorem ar7(s i k:Nat)(t:mJ):t∈rA s i k↔t.1=s/\t.2.1=i/\i<t.2.2/\t.2.2<k/\eI s i=false/\eI s t.2.2=false:=by
 induction k with
 |zero=>simp[rA]
 |succ k ih=>
  rw[rA,dM,ih];obtain⟨a,b,c⟩:=t;constructor
  .rintro(h|h)
   .exact⟨h.1,h.2.1,h.2.2.1,by have:=h.2.2.2.1;omega,h.2.2.2.2⟩
   .split at h
    .rename_i hc;rw[eM]at h;simp only[Prod.mk.injEq]at h;obtain⟨rfl,rfl,rfl⟩:=h;simp only[Bool.and_eq_true,Bool.not_eq_true',decide_eq_true_eq]at hc;exact⟨rfl,rfl,hc.1,bF,hc.2.1,hc.2.2⟩
    .cases h
  .rintro⟨h1,h2,h3,h4,D,z⟩;simp only at h1 h2 h3 h4 z;by_cases hk:c=k
   .right;subst hk h1 h2;rw[if_pos (by rw[D,z,bH h3];rfl)];simp
   .left;exact⟨h1,h2,h3,by simp only;omega,D,z⟩
theorem apB(n s i:Nat)(t:mJ):t∈nO n s i↔t.1=s/\t.2.1<i/\t.2.1<t.2.2/\t.2.2<n/\eI s t.2.1=false/\eI s t.2.2=false:=by
 induction i with
 |zero=>simp[nO]
 |succ i ih=>
  rw[nO,dM,ih,ar7];constructor
  .rintro(h|h)
   .exact⟨h.1,aA,h.2.2⟩
   .have e:=h.2.1;exact⟨h.1,aA,aA,h.2.2.2.1,by rw[e];exact h.2.2.2.2.1,h.2.2.2.2.2⟩
  .rintro⟨h1,h2,h3,h4,z,D⟩;by_cases hk:t.2.1=i
   .right;exact⟨h1,hk,aA,h4,by rw[<-hk];exact z,D⟩
   .left;exact⟨h1,aA,h3,h4,z,D⟩
theorem abA(n s:Nat)(t:mJ):t∈lR n s↔t.1<s/\t.2.1<t.2.2/\t.2.2<n/\eI t.1 t.2.1=false/\eI t.1 t.2.2=false:=by
 induction s with
 |zero=>simp[lR]
 |succ s ih=>
  rw[lR,dM,ih,apB];constructor
  .rintro(h|h)
   .exact⟨aA,h.2⟩
   .have e:=h.1;rw[e];exact⟨aA,h.2.2⟩
  .rintro⟨h1,h2,h3,h4,z⟩;by_cases hk:t.1=s
   .right;rw[hk]at h4 z;exact⟨hk,aA,h2,h3,h4,z⟩
   .left;exact⟨aA,h2,h3,h4,z⟩
theorem YJ(s i k:Nat):nB l s i k=nB l s k i:=by
 unfold nB;rw[Nat.or_comm (dF s i) (dF s k)];omega
theorem aiC(n:Nat)(l:aI)(N:Nat):jR ((wQ n N).map (BM l)) 0=jR ((lR n N).map (BM l)) 0:=by
 refine aoJ _ _ _ (fun x z=>?_) (fun x z=>?_)
 .obtain⟨⟨s,i,k⟩,h1,rfl⟩:=List.mem_map.1 z;have h2:=(abC _ _ _).1 h1;simp only at h2;exact List.mem_map.2 ⟨(s,k,i),(abA _ _ _).2 (by simp only;exact⟨h2.1,h2.2.2.1,h2.2.1,h2.2.2.2.2,h2.2.2.2.1⟩),YJ l s k i⟩
 .obtain⟨⟨s,i,k⟩,h1,rfl⟩:=List.mem_map.1 z;have h2:=(abA _ _ _).1 h1;simp only at h2;exact List.mem_map.2 ⟨(s,k,i),(abC _ _ _).2 (by simp only;exact⟨h2.1,h2.2.2.1,h2.2.1,h2.2.2.2.2,h2.2.2.2.1⟩),YJ l s k i⟩
theorem aiB(n:Nat)(l:aI):YV n l=jR ((wQ n (2^n)).map (BM l)) 0:=by
 unfold YV;rw[SY,aiC]
theorem aoI(X:aI)(h:∀x∈X,x<=4000):0<=jR X 0/\jR X 0<=4000:=by
 have h1:=(JC X 0).1;rcases JD X 0 with h2|h2
 .omega
 .exact⟨h1,h _ h2⟩
theorem SX:0<=qP n l/\qP n l<=4000:=by
 unfold qP
 split
 .rename_i I;obtain⟨K,M,z,F⟩:=nE I;have D:l.length=2^n.toNat:=by exact_mod_cast z
  unfold YV;rw[SY];refine aoI _ (fun x J=>?_);obtain⟨t,h1,rfl⟩:=List.mem_map.1 J;have h2:=abB _ _ t h1;exact(YI n.toNat l D F t.1 t.2.1 t.2.2 h2.1 aA aA).2
 .omega
def mB(l:List Int):Nat->List (List Int)
 |0=>[]
 |e+1=>if jI l (e:Int) then mB l e else mB l e++[l++[(e:Int)]]
def nL(n:Nat)(z:List (List Int)):Nat->List (List Int)
 |0=>[]
 |k+1=>nL n z k++mB (z.getD k []) n
def eV(n:Nat):Nat->List (List Int)
 |0=>[[]]
 |r+1=>nL n (eV n r) (eV n r).length
theorem UU(e:Nat):(mB l e).length<=e:=by
 induction e with
 |zero=>exact aU
 |succ e ih=>
  rw[mB]
  split
  .omega
  .rw[bN];simp only[List.length_cons,List.length_nil];omega
theorem JE(n:Nat)(z:List aI)(k:Nat):(nL n z k).length<=k*n:=by
 induction k with
 |zero=>simp[nL]
 |succ k ih=>have:=UU (z.getD k []) n;rw[nL,bN,Nat.succ_mul];omega
theorem acO(n:Nat)(z:n<=5)(r:Nat):(eV n r).length<=5^r:=by
 induction r with
 |zero=>simp[eV]
 |succ r ih=>have h1:=JE n (eV n r) (eV n r).length;have h2:(eV n r).length*n<=5^r*5:=Nat.mul_le_mul ih z;rw[eV,Nat.pow_succ];omega
theorem ahS(n e:Nat)(D:e<=n):∀x∈mB l e,∃j:Nat,j<n/\x=l++[(j:Int)]:=by
 induction e with
 |zero=>simp[mB]
 |succ e ih=>
  intro x z;rw[mB]at z
  split at z
  .exact ih aA x z
  .rcases dM.1 z with z|z
   .exact ih aA x z
   .simp only[List.mem_singleton]at z;exact⟨e,aA,z⟩
theorem af0(n:Nat)(D:List aI)(k:Nat)(hk:k<=D):∀x∈nL n D k,∃l∈D,∃j:Nat,j<n/\x=l++[(j:Int)]:=by
 induction k with
 |zero=>simp[nL]
 |succ k ih=>
  intro x z;rw[nL]at z;rcases dM.1 z with z|z
  .exact ih aA x z
  .obtain⟨j,F,e⟩:=ahS _ n n aU x z;rw[bR,cG (show k<D.length from aA),Option.getD_some]at e;exact⟨_,aX (show k<D.length from aA),j,F,e⟩
theorem xA(n r:Nat):∀l∈eV n r,l.length=r/\∀x∈l,0<=x/\x<n:=by
 induction r with
 |zero=>intro l hl;simp only[eV,List.mem_singleton]at hl;subst hl;simp
 |succ r ih=>
  intro l hl;obtain⟨F,D,j,I,rfl⟩:=af0 n _ _ aU l hl;obtain⟨h1,h2⟩:=ih F D;refine⟨by simp[h1],fun x z=>?_⟩;rcases dM.1 z with z|z
  .exact h2 x z
  .simp only[List.mem_singleton]at z;omega
theorem DN(n:Nat)(z:n<=6)(r:Nat):(eV n r).length<=6^r:=by
 induction r with
 |zero=>simp[eV]
 |succ r ih=>have h1:=JE n (eV n r) (eV n r).length;have h2:(eV n r).length*n<=6^r*6:=Nat.mul_le_mul ih z;rw[eV,Nat.pow_succ];omega
theorem J7(n:Nat)(hn:n<=6)(w:World):
  Calls prog 263 #[(n:Int)] w fun e w'=>∃ad i c,e=aQ (aD ad i c)/\eR 3 25 w.heap.size w' (aD ad i c) (eV n n)/\Below w w w':=by
 have o0:=eR.single (EI:=3) (EO:=25) w (Nat.le_refl w.heap.size);go_enter func263,ntmps263;go_wp2_with fail;go_loopw [3,10] (fun v i wr=>∃(r:Nat) (ad:Option Addr) (cp:Nat),r<=n/\i=aO r/\v=.slice ad (eV n r).length cp/\eR 3 25 w.heap.size wr (.slice ad (eV n r).length cp) (eV n r)/\Below w w wr)
  (fun _ i _=>n-(intOf i).toNat)
 .exact⟨0,_,_,aZ _,rfl,rfl,o0,cQ _ _⟩
 obtain⟨r,ad,cp,hr,rfl,rfl,ol,B⟩:=hrel;obtain⟨wo,rfl⟩:∃wo:World,wo=wr:=⟨_,rfl⟩;clear o0;by_cases l1:r<n
 .have R:=xA n r
  have a6:=DN n hn r;have h5:(6:Nat)^r<=6^5:=bQ bZ aA;have b9:eV n (r+1)=nL n (eV n r) (eV n r).length:=rfl;obtain⟨I,f2⟩:=aW (eV n r);rw[<-f2]at ol R a6 b9 |-;have g9:I.length<=7776:=aA;have e0:=aT b9;have d0:=aT R;have e4:=aT ol;clear f2 R a6 h5 b9 ol;go_wp2_with fail;go_loopw [4,14] (fun v i wm=>∃(k:Nat) (b0:Option Addr) (c5 b1:Nat),k<=I/\i=aO k/\v=aD b0 c5 b1/\eR 3 25 wo.heap.size wm (aD b0 c5 b1) (nL n I k) /\
    eR 3 25 w.heap.size wm (aD ad I cp) I/\Below w w wm/\wo.heap.size<=wm.heap.size)
   (fun _ i _=>I.length-(intOf i).toNat)
  .exact⟨0,none,0,0,aZ _,rfl,rfl,eR.nil _ _ _ _,e4.out,B,aU⟩
  obtain⟨k,b0,c5,b1,hk,rfl,rfl,M,oL,Bm,zm⟩:=hrel;obtain⟨wm,rfl⟩:∃wm:World,wm=wr:=⟨_,rfl⟩;have rL:=e4.out.lt;by_cases b5:k<I
  .obtain⟨g,u,g7,b4,hu⟩:=oL.view prog 77 underlying77 pU k b5;have b8:=d0.out _ (aX b5);have e9:I.getD k []=I[k]:=by rw[bR,cG b5];rfl
   have Z:nL n I (k+1)=nL n I k++mB I[k] n:=by rw[nL,e9]
   have h6:=JE n I k;have j4:k*n<=7776*6:=Nat.mul_le_mul aA hn;obtain⟨l,hl⟩:=aW (I[k]);rw[<-hl]at hu b8 Z;obtain⟨N,hN⟩:=aW (nL n I k);rw[<-hN]at Z h6 M;have l0:l.length<=6:=by have:=b8.1;omega
   obtain⟨au,nu,cu,rfl⟩:=hu.shape3;have g2:=aT Z;have a8:=aT M;have e6:=aT oL;have HU:=aT hu;clear hl hN b8 e9 Z M oL hu;go_wp2_with fail;go_loopw [4,19] (fun v i K=>∃(e:Nat) (z:Option Addr) (F D:Nat),e<=n/\i=aO e/\v=aD z F D/\eR 3 25 wo.heap.size K (aD z F D) (N++mB l e) /\
     eR 3 25 w.heap.size K (aD ad I cp) I/\bB 3 w K (aD au nu cu) l/\Below w w K/\wo.heap.size<=K.heap.size)
    (fun _ i _=>n-(intOf i).toNat)
   .exact⟨0,_,_,_,aZ _,rfl,rfl,by simpa[mB]using a8.out,e6.out,HU.out,Bm,zm⟩
   obtain⟨e,z,F,D,he,rfl,rfl,M,oL,oU,Bi,zi⟩:=hrel;obtain⟨K,rfl⟩:∃K:World,K=wr:=⟨_,rfl⟩;clear g7 b4;by_cases k9:e<n
   .cases hh:jI l (e:Int) with
    |true=>
     have hx:mB l (e+1)=mB l e:=by rw[mB,hh];rfl
     have HX:=aT hx;have HH:=aT hh;clear hx hh;go_wp2_with (go_at_call 318;refine(AB l _ _ _ oU.ints).mono ?_;rintro e' w' ⟨rfl,rfl⟩;rw[HH.out]);go_roundw
     .exact⟨e+1,z,F,D,aA,cD,rfl,by rw[HX.out];exact M,oL,oU,Bi,zi⟩
     exact aY
    |false=>
     have hx:mB l (e+1)=mB l e++[l++[(e:Int)]]:=by rw[mB,hh];rfl
     have g6:=UU l e;have HX:=aT hx;have HH:=aT hh;have rN:=M.lt;have O:=aT M;have e5:=aT oL;have a9:=aT oU;have h0:(N++mB l e).length<=46700:=by rw[bN];omega
     clear hx hh M oL oU g6;go_wp2_with (first
      |(go_at_call 318;refine(AB l _ _ _ a9.out.ints).mono ?_;rintro e' w' ⟨rfl,rfl⟩;rw[HH.out])
      |(go_at_call 287;refine(nI _ l _ a9.out.ints aA).mono ?_;rintro e' w5 ⟨p5,i5,q5,rfl,o5,b3⟩;have z5:=b3.size)
      |(at_builtin;refine eF rfl _ _ _ rfl 3 underlying25 intElem K.heap.size (aD p5 i5 q5) l (e:Int) w5.heap.size rfl rfl bF (o5.alloc _) ⟨aA,aA⟩ aA bO ?_;intro v' w6 S f0;obtain⟨p6,i6,q6,rfl⟩:=S.shape3;have b6:Below K K w6:=aeK (Below.after (bJ _ _) (b3.after (cQ w5 _) b3.size) aU) f0 bO (fun q hq=>(o5.lt q hq).1);have z6:=b6.size;obtain⟨m2,k1⟩:=(O.out.keep b6).row)
      |(at_builtin;refine AF rfl _ _ _ rfl 3 25 BG underlying77 pU wo.heap.size (aD z F D) (N++mB l e) (aD p6 i6 q6) (l++[(e:Int)]) w6.heap.size rfl rfl bF ((O.out.keep b6).keep (cQ w6 _)) ((S.mono aA).alloc _) aA bO ?_;intro v' w7 Y J;obtain⟨p7,i7,q7,rfl⟩:=Y.shape3))
     have b7:Below K K (w6.alloc (.cells #[aD p6 i6 q6] 25)):=b6.alloc b6.size _;obtain⟨m3,a7⟩:=(O.out.keep b7).row;have i1:=(e5.out.keep b7).grow a7 BG J (fun q hq h7=>by have:=(rN q hq).1;have:=(rL q h7).2;omega);have i8:=(a9.out.keep b7).growL a7 BG J;have m5:=Bi.size;have B7:=(Bi.after b7 Bi.size).grown J bO (fun q hq=>by have:=(rN q hq).1;have:=B.size;omega);have z7:=J.size;go_roundw
     .exact⟨e+1,p7,i7,q7,aA,cD,rfl,by rw[HX.out,<-eY];exact Y,i1,i8,B7,by simp at z7;omega⟩
     exact aY
   .have g5:e=n:=aA;subst g5;go_wp2;go_roundw
    .exact⟨k+1,z,F,D,aA,cD,rfl,by rw[g2.out];exact M,oL,Bi,zi⟩
    exact aY
  .have g8:k=I.length:=aA;subst g8;have h9:=M.len;obtain⟨a3,c3,e3,_⟩:=h9;simp only[Value.slice.injEq]at e3;obtain⟨rfl,rfl,rfl⟩:=e3;have a8:=aT M;clear M oL;go_wp2;go_roundw
   .exact⟨r+1,_,_,aA,cD,by rw[e0.out],by rw[e0.out];exact a8.out.mono B.size,Bm⟩
   exact aY
 .have h8:r=n:=aA;subst h8;go_wp2;go_ret;exact⟨_,_,_,rfl,ol,B⟩
theorem aaC(n:Nat)(z:n<=5)(w:World):
  Calls prog 263 #[(n:Int)] w fun e w'=>∃ad i c,e=aQ (aD ad i c)/\eR 3 25 w.heap.size w' (aD ad i c) (eV n n)/\Below w w w':=
 J7 n aA w
def DS(l:List Int)(os:List (List Int))(e:Nat):Nat->Int
 |0=>0
 |j+1=>DS l os e j+(vU l (os.getD j [])).getD e 0
def qU(l:List Int)(os:List (List Int))(n j:Nat):List Int:=(List.range n).map fun e=>DS l os e j
theorem JO(os:List aI)(n j:Nat):(qU l os n j).length=n:=by simp[qU]
theorem aaU(os:List aI)(n j e:Nat)(h:e<(qU l os n j).length):(qU l os n j)[e]=DS l os e j:=by simp[qU]
theorem al2(os:List aI)(n:Nat):qU l os n 0=List.replicate n 0:=by
 apply List.ext_getElem
 .simp[qU]
 .intro i h1 h2;simp[qU,DS]
theorem aoH(A B:aI)(e:Nat)(F:e<A)(hB:A.length=B.length):(A.take e++B.drop e).set e A[e]=A.take (e+1)++B.drop (e+1):=by
 apply List.ext_getElem
 .simp;omega
 .intro i h1 h2;simp only[List.length_set,List.length_append,List.length_take,List.length_drop]at h1 h2;rw[List.getElem_set];by_cases z:e=i
  .subst z;rw[if_pos rfl,List.getElem_append_left bO];simp
  .rw[if_neg z];by_cases D:i<e
   .rw[List.getElem_append_left bO,List.getElem_append_left bO];simp
   .rw[List.getElem_append_right bO,List.getElem_append_right bO];simp only[List.length_take,List.getElem_drop]
    congr 1;omega
theorem aq6(A B:aI)(e:Nat)(z:e<=A)(hB:A.length=B.length):(A.take e++B.drop e).length=A.length:=bO
theorem aq5(A B:aI)(e:Nat)(z:e<A)(hB:A.length=B.length)(h:e<(A.take e++B.drop e).length):(A.take e++B.drop e)[e]=B[e]:=by
 rw[List.getElem_append_right bO];simp only[List.length_take,List.getElem_drop]
 congr 1;omega
def tG(l:List Int)(n e:Nat):Nat->Int
 |0=>0
 |s+1=>if fE (s:Int) e=1 then tG l n e s else tG l n e s+(kA (dG s):Int)*(kA (n-1-dG s):Int)*(l.getD (dF s e) 0-l.getD s 0)
def sO(n:Nat)(l:List Int):List Int:=(List.range n).map fun e=>tG l n e (2^n)
def kR(n:Int)(l:List Int):List Int:=if cS n l then sO n.toNat l else []
def OB(l:List Int):List (Int×Nat×Nat)->Int
 |[]=>0
 |t::ts=>OB l ts+t.1*(l.getD t.2.1 0-l.getD t.2.2 0)
def one(a i:Nat):Int:=if a=i then 1 else 0
def KM(i:Nat):List (Int×Nat×Nat)->Int
 |[]=>0
 |t::ts=>KM i ts+t.1*(one t.2.1 i-one t.2.2 i)
def vO(f:Nat->Int):Nat->Int
 |0=>0
 |n+1=>vO f n+f n
theorem agN{f g:Nat->Int}{n:Nat}(h:∀i,i<n->f i=g i):vO f n=vO g n:=by
 induction n with
 |zero=>rfl
 |succ n ih=>rw[vO,vO,ih (fun i z=>h i aA),h n aA]
theorem aa4(f g:Nat->Int)(n:Nat):vO (fun i=>f i+g i) n=vO f n+vO g n:=by
 induction n with
 |zero=>rfl
 |succ n ih=>rw[vO,vO,vO,ih];omega
theorem amD(n:Nat):vO (fun _=>0) n=0:=by
 induction n with
 |zero=>rfl
 |succ n ih=>rw[vO,ih];rfl
theorem aa5(a n:Nat)(c:Int):vO (fun i=>c*one a i*l.getD i 0) n=if a<n then c*l.getD a 0 else 0:=by
 induction n with
 |zero=>simp[vO]
 |succ n ih=>
  rw[vO,ih];unfold one;by_cases h1:a<n
  .rw[if_pos h1,if_neg (show ¬a=n from aA),if_pos (show a<n+1 from aA)];simp
  .by_cases h2:a=n
   .subst h2;simp
   .rw[if_neg h1,if_neg h2,if_neg (show ¬a<n+1 from aA)];simp
theorem ZQ(n:Nat)(ts:List (Int×Nat×Nat))(h:∀t∈ts,t.2.1<n/\t.2.2<n):OB l ts=vO (fun i=>KM i ts*l.getD i 0) n:=by
 induction ts with
 |nil=>simp only[OB,KM,Int.zero_mul,amD]
 |cons t ts ih=>
  have ht:=h t bF;rw[OB,ih (fun x z=>h x (by simp[z]))];have e:(fun i=>KM i (t::ts)*l.getD i 0)=fun i=>KM i ts*l.getD i 0+(t.1*one t.2.1 i*l.getD i 0+(-t.1)*one t.2.2 i*l.getD i 0):=by
   funext i
   rw[KM,Int.add_mul,Int.mul_sub,Int.sub_mul,Int.neg_mul,Int.neg_mul];omega
  rw[e,aa4,aa4,aa5,aa5,if_pos ht.1,if_pos ht.2,Int.mul_sub,Int.neg_mul];omega
def CP(o:List Int):Nat->List (Nat×Nat)
 |0=>List.replicate o.length (0,0)
 |k+1=>(CP o k).set (o.getD k 0).toNat (dF (uX o k) (o.getD k 0).toNat,uX o k)
theorem abZ(l o:aI)(k:Nat):lJ l o k=(CP o k).map fun p=>l.getD p.1 0-l.getD p.2 0:=by
 induction k with
 |zero=>simp[lJ,CP]
 |succ k ih=>rw[lJ,CP,List.map_set,ih];rfl
def tI(os:List (List Int))(e:Nat):Nat->List (Int×Nat×Nat)
 |0=>[]
 |j+1=>(1,(CP (os.getD j []) (os.getD j []).length).getD e (0,0))::tI os e j
def tS(n e:Nat):Nat->List (Int×Nat×Nat)
 |0=>[]
 |s+1=>if fE (s:Int) e=1 then tS n e s else ((kA (dG s):Int)*(kA (n-1-dG s):Int),dF s e,s)::tS n e s
theorem ar3(os:List aI)(e j:Nat):DS l os e j=OB l (tI os e j):=by
 induction j with
 |zero=>rfl
 |succ j ih=>
  rw[DS,tI,OB,ih];unfold vU;rw[abZ]
  generalize CP (os.getD j []) (os.getD j []).length=P
  have:(P.map fun p=>l.getD p.1 0-l.getD p.2 0).getD e 0=l.getD (P.getD e (0,0)).1 0-l.getD (P.getD e (0,0)).2 0:=by
   rw[bR,List.getElem?_map,bR]
   cases z:P[e]? with
   |none=>simp[z]
   |some p=>simp[z]
  rw[this,Int.one_mul]
theorem ao5(n e s:Nat):tG l n e s=OB l (tS n e s):=by
 induction s with
 |zero=>rfl
 |succ s ih=>
  rw[tG,tS];by_cases h:fE (s:Int) e=1
  .rw[if_pos h,if_pos h,ih]
  .rw[if_neg h,if_neg h,OB,ih]
def PI(ts z:List (Int×Nat×Nat))(n:Nat):Bool:=
 ts.all (fun t=>decide (t.2.1<n)&&decide (t.2.2<n))&&z.all (fun t=>decide (t.2.1<n)&&decide (t.2.2<n))&&(List.range n).all fun i=>KM i ts==KM i z
theorem aoC(ts z:List (Int×Nat×Nat))(n:Nat)(h:PI ts z n=true):OB l ts=OB l z:=by
 unfold PI at h;simp only[Bool.and_eq_true,List.all_eq_true,decide_eq_true_eq,List.mem_range,beq_iff_eq]at h;rw[ZQ l n ts h.1.1,ZQ l n z h.1.2];exact agN fun i D=>by rw[h.2 i D]
theorem agJ:∀n,n<=5->∀e,e<n->PI (tI (eV n n) e (eV n n).length) (tS n e (2^n)) (2^n)=true:=dS
theorem al7(n:Nat)(D:n<=5)(l:aI):qU l (eV n n) n (eV n n).length=sO n l:=by
 unfold qU sO
 apply List.map_congr_left
 intro e z;rw[ar3,ao5];exact aoC l _ _ _ (agJ n D e (by simpa using z))
theorem ZB(v:Value)(w:World)(hv:Ints w v l):
  aH 45 #[aM #[n,v]] w (aG (rG n l)):=by
 have R:=hv;obtain⟨a,b,g7,c,rfl,f4,b6,hc,hb⟩:=hv.vw;have K0:=bK.new w 27 #[n,aD a l c]
 cases hf:cS n l with
 |false=>
  have hx:rG n l=false:=by unfold rG;rw[hf];rfl
  have HX:=aT hx;have HF:=aT hf;clear hx hf;go_enter func45,ntmps45;go_wp2_with fail;go_loopw [3] (fun i wr=>i=aO 0/\Below w w wr/\bK wr w 27 #[n,aD a l c]) (fun _ _=>0)
  .exact⟨rfl,cQ _ _,K0⟩
  obtain⟨rfl,B,K⟩:=hrel;have Z:=K.cell;go_wp2_with fail;refine aV (fD n l _ _ (R.below B aU)) ?_;intro w1 D;rw[HF.out];have S:=B.after D B.size;have K1:=K.keep D;clear Z;have Z:=K1.cell;go_wp2_with fail;refine aV (fD n l _ _ (R.below S aU)) ?_;intro w2 a1;rw[HF.out];go_wp2;go_ret;exact⟨cP HX.out.symm,S.after a1 S.size⟩
 |true=>
  obtain⟨N,rfl,g4,b8,f3,b9⟩:=eJ hf;have hx:rG N l=dP (fun s=>dP (BL l s) N) l.length:=by unfold rG;rw[hf];simp
  obtain⟨F,hF⟩:∃F:Nat->Bool,F=fun s=>dP (BL l s) N:=⟨_,rfl⟩;rw[<-hF]at hx;have HX:=aT hx;have HF:=aT hf;have e0:=aT hF;have f9:=aT b9;have e4:=aT b8;have HC:=aT hc;have b3:=aT b6;clear hx hf hF b9 b8 hc b6;go_enter func45,ntmps45;go_wp2_with fail;go_loopw [3] (fun i wr=>∃s:Nat,s<=l.length/\i=aO s/\dP F s=true/\Below w w wr/\bK wr w 27 #[N,aD a l c]) (fun i _=>l.length-(intOf i).toNat)
  .exact⟨0,aZ _,rfl,rfl,cQ _ _,K0⟩
  obtain⟨s,hs,rfl,z,B,K⟩:=hrel;obtain⟨wo,rfl⟩:∃wo:World,wo=wr:=⟨_,rfl⟩;have H:=aT z;clear z K0;have Z:=K.cell;go_wp2_with fail;refine aV (fD N l _ _ (R.below B aU)) ?_;intro w1 D;rw[HF.out];have K:=K.keep D;have S:=B.after D B.size;clear Z D B;have Z:=K.cell;by_cases I:s<l.length
  .have b5:F s=dP (BL l s) N:=by rw[e0.out]
   have b1:=aT b5;clear b5;go_wp2_with fail;go_loopw [4] (fun i wr=>∃k:Nat,k<=N/\i=aO k/\dP (BL l s) k=true/\Below w w wr/\bK wr w 27 #[N,aD a l c]) (fun i _=>N-(intOf i).toNat)
   .exact⟨0,aZ _,rfl,rfl,S,K⟩
   obtain⟨k,hk,rfl,z,B2,K2⟩:=hrel;obtain⟨wi,rfl⟩:∃wo:World,wo=wr:=⟨_,rfl⟩;have H2:=aT z;clear z Z;have Z:=K2.cell;by_cases b7:k<N
   .have J:dF s k<l.length:=by rw[e4.out]at I |-;exact gI _ _ _ I b7
    have c0:=bY HC.out hb B2 aU s I;have c1:=bY HC.out hb B2 aU _ J;have i0:=fun W=>b3.out W s I;have i1:=fun W=>b3.out W _ J;have q1:=iU s k aA aA;have M:BL l s k=!decide (l[dF s k]-l[s]<0):=by unfold BL fW;rw[cJ l _ J,cJ l _ I]
    obtain⟨u1,O⟩:=aW (dF s k);simp only[<-O]at c1 i1 q1 M;obtain⟨x0,c7⟩:=aW (l[s]);rw[<-c7]at c0 M;have f6:u1<l.length:=O▸J;obtain⟨x1,c8⟩:=aW (l[u1]);rw[<-c8]at c1 M;have pk:=dW k 6 aA;have g8:(2:Int)^k<=64:=by simpa using pk.1
    have g9:=pk.2;have wk:IntKind.i64.wrap ((2:Int)^k)=2^k:=dV;have g5:k<5:=aA;have b4:=aT M;clear M c7 c8 pk J;by_cases f5:x1<x0
    .have hu:BL l s k=false:=by rw[b4.out,bH aA];rfl
     have Y:rG N l=false:=by rw[HX.out];exact eT I (by rw[b1.out];exact eT b7 hu)
     have a9:=aT Y;clear hu Y O;go_wp2_with fail;go_quiet (fail);go_wp2;go_ret;exact⟨cP a9.out.symm,B2.drewN' _⟩
    .have hu:BL l s k=true:=by rw[b4.out,bG aA];rfl
     have HU:=aT hu;clear hu O;go_wp2_with fail;go_quiet (fail);go_wp2;go_roundw
     .exact⟨k+1,aA,cD,fJ H2.out HU.out,B2.drewN' _,K2.drewN _⟩
     exact aY
   .have e8:k=N:=aA;subst e8;go_wp2;go_roundw
    .exact⟨s+1,aA,cD,fJ H.out (by rw[b1.out];exact H2.out),B2,K2⟩
    exact aY
  .have c5:s=l.length:=aA;subst c5;go_wp2_with fail;refine aV (fD N l _ _ (R.below S aU)) ?_;intro w2 a1;rw[HF.out];go_wp2;go_ret;exact⟨cP (by rw[HX.out,H.out]),S.after a1 S.size⟩
