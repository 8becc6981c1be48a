/- Lemmas for CardClaims, part 30 of 52. No condition. -/
import Derived.Test.YtipejodijbjpcaaGreatDoorQ06
import Derived.Test.YtipejodijbjpcaaGreatDoorQ10
import Derived.Test.YtipejodijbjpcaaGreatDoorQ11
import Derived.Test.YtipejodijbjpcaaGreatDoorQ15
import Derived.Test.YtipejodijbjpcaaGreatDoorQ16
import Derived.Test.YtipejodijbjpcaaGreatDoorQ17
import Derived.Test.YtipejodijbjpcaaGreatDoorQ20
import Derived.Test.YtipejodijbjpcaaGreatDoorQ27
import Derived.Test.YtipejodijbjpcaaGreatDoorQ28
import Derived.Test.YtipejodijbjpcaaGreatDoorQ29
set_option maxRecDepth 100000
set_option maxHeartbeats 64000000
namespace Go.Proofs.YtipejodijbjpcaaGreatDoor
section
open Go.RowKit Go.G5
theorem P0(x o:List Int)(y:Int):∀k,(∀j,fF x o y k<=j->j<k->x.getD (o.getD j 0).toNat 0<y)/\(0<fF x o y k->y<=x.getD (o.getD (fF x o y k-1) 0).toNat 0):=by
 intro k
 induction k with
 |zero=>exact⟨fun j _ h=>by omega,fun h=>by simp[fF]at h⟩
 |succ k ih=>
  rw[fF]
  split
  ·rename_i hlt
   refine⟨fun j h1 h2=>?_,ih.2⟩
   by_cases e:j=k
   ·rw[e];exact hlt
   ·exact ih.1 j h1 (by omega)
  ·rename_i hlt
   exact⟨fun j h1 h2=>by omega,fun _=>by rw[Nat.add_sub_cancel];omega⟩
def AG(x o:List Int):Prop:=o.Pairwise fun a b=>x.getD b.toNat 0<=x.getD a.toNat 0
theorem TK(x o:List Int)(e:Int)(y:Int)(O:x.getD e.toNat 0=y)(h:AG x o):AG x (iD o e (fF x o y o.length)):=by
 have M:=P0 x o y o.length;have L:=IW x o y o.length;obtain⟨k,Q⟩:∃k,k=fF x o y o.length:=⟨_,rfl⟩;rw[<-Q]at M L ⊢;unfold AG iD at *;rw[List.pairwise_append,List.pairwise_append];have K:=h;rw[List.pairwise_iff_getElem]at K;have N:∀j,(A:j<o.length)->o.getD j 0=o[j]:=fun j A=>by rw[List.getD_eq_getElem?_getD,List.getElem?_eq_getElem A,Option.getD_some]
 have I:∀a∈o.take k,y<=x.getD a.toNat 0:=fun a z=>by
  obtain⟨j,A,rfl⟩:=List.getElem_of_mem z;rw[List.getElem_take];rw[List.length_take]at A;have D:=M.2 (by omega);rw[N (k-1) (by omega)]at D
  by_cases e:j=k-1
  ·subst e;exact D
  ·exact Int.le_trans D (K j (k-1) (by omega) (by omega) (by omega))
 have F:∀b∈o.drop k,x.getD b.toNat 0<=y:=fun b hb=>by
  obtain⟨j,A,rfl⟩:=List.getElem_of_mem hb;rw[List.getElem_drop];rw[List.length_drop]at A;have D:=M.1 (k+j) (by omega) (by omega);rw[N (k+j) (by omega)]at D;omega
 refine⟨⟨h.sublist (List.take_sublist _ _),List.pairwise_singleton _ _,fun a z b hb=>?_⟩,h.sublist (List.drop_sublist _ _),fun a z b hb=>?_⟩
 ·rw[List.mem_singleton]at hb
  subst hb;rw[O];exact I a z
 ·rcases List.mem_append.1 z with z|z
  ·exact Int.le_trans (F b hb) (I a z)
  ·rw[List.mem_singleton]at z
   subst z;rw[O];exact F b hb
theorem RZ(x:List Int):∀i,AG x (cC x i):=by
 intro i
 induction i with
 |zero=>exact List.Pairwise.nil
 |succ i ih=>
  have h:=TK x (cC x i) (i:Int) (x.getD i 0) (by rw[Int.toNat_natCast]) ih;rw[fD]at h;exact h
def jK(o:List Int):Nat->Int
 |0=>0
 |i+1=>jC (jK o i) (2^(o.getD i 0).toNat)
def oC(x o:List Int)(i:Nat):Int:=x.getD (o.getD i 0).toNat 0
def yM(x o:List Int)(i:Nat):Bool:=i+1==o.length||oC x o (i+1) != oC x o i
def eB(x o:List Int):Nat->List Int
 |0=>[]
 |i+1=>eB x o i++(if yM x o i then [jK o (i+1)] else [])
def qC(x:List Int):List Int:=eB x (cC x x.length) x.length
theorem SR(x:List Int)(i:Nat)(h:i+1<x.length):(oC x (cC x x.length) (i+1) != oC x (cC x x.length) i)=decide (oC x (cC x x.length) (i+1)<oC x (cC x x.length) i):=by
 have o:=RZ x x.length;unfold AG at o;rw[List.pairwise_iff_getElem]at o;have D:=fD x x.length;have h1:=o i (i+1) (by omega) (by omega) (by omega);unfold oC;have z:∀j,(A:j<(cC x x.length).length)->(cC x x.length).getD j 0=(cC x x.length)[j]:=fun j A=>by rw[List.getD_eq_getElem?_getD,List.getElem?_eq_getElem A,Option.getD_some]
 rw[z i (by omega),z (i+1) (by omega)];rw[Bool.eq_iff_iff,bne_iff_ne,decide_eq_true_eq];omega
theorem QJ(o:List Int)(h:∀e∈o,0<=e/\e<5):∀i,i<=o.length->0<=jK o i/\jK o i<32:=by
 intro i
 induction i with
 |zero=>intro _;simp[jK]
 |succ i ih=>
  intro A;have h1:=ih (by omega);have h2:=h (o.getD i 0) (by rw[List.getD_eq_getElem?_getD,List.getElem?_eq_getElem (show i<o.length by omega),Option.getD_some];exact List.getElem_mem _);rw[jK];have h3:(2:Nat)^(o.getD i 0).toNat<=2^4:=Nat.pow_le_pow_right (by decide) (by omega);have h4:((2:Int)^(o.getD i 0).toNat)=((2^(o.getD i 0).toNat:Nat):Int):=by simp
  rw[h4];obtain⟨P,z⟩:∃P:Nat,P=2^(o.getD i 0).toNat:=⟨_,rfl⟩;rw[<-z]at h3 ⊢;have:=sU (jK o i) (P:Int) 5 h1.1 (by omega) (by omega) (by omega);omega
theorem WY(N : Nat)(o : List Int)(h : ∀ e ∈ o, 0 <= e /\ e < (N : Int)) : ∀ i, i <= o.length -> 0 <= jK o i /\ jK o i < 2 ^ N := by
  intro i
  induction i with
  | zero => intro _; have := Nat.two_pow_pos N; have e : ((2 : Int) ^ N) = ((2 ^ N : Nat) : Int) := by simp
            rw [e]; simp [jK]; omega
  | succ i ih =>
    intro hi
    have h1 := ih (by omega)
    have h2 := h (o.getD i 0) (by rw [List.getD_eq_getElem?_getD, List.getElem?_eq_getElem (show i < o.length by omega), Option.getD_some]; exact List.getElem_mem _)
    rw [jK]
    have h3 : (2 : Nat) ^ (o.getD i 0).toNat < 2 ^ N := Nat.pow_lt_pow_right (by decide) (by omega)
    have h4 : ((2 : Int) ^ (o.getD i 0).toNat) = ((2 ^ (o.getD i 0).toNat : Nat) : Int) := by simp
    have h5 : ((2 : Int) ^ N) = ((2 ^ N : Nat) : Int) := by simp
    rw [h4]
    obtain ⟨P, hP⟩ : ∃ P : Nat, P = 2 ^ (o.getD i 0).toNat := ⟨_, rfl⟩
    rw [<- hP] at h3 ⊢
    exact sU (jK o i) (P : Int) N h1.1 (by omega) h1.2 (by rw [h5]; exact Int.ofNat_lt.2 h3)
theorem I9(x o:List Int):∀i,∀s∈eB x o i,∃k,k<=i/\s=jK o k:=by
 intro i
 induction i with
 |zero=>intro s z;simp[eB]at z
 |succ i ih=>
  intro s z;rw[eB]at z
  rcases List.mem_append.1 z with h|h
  ·obtain⟨k,A,e⟩:=ih s h
   exact⟨k,by omega,e⟩
  ·split at h
   ·rw[List.mem_singleton]at h
    exact⟨i+1,Nat.le_refl _,h⟩
   ·simp at h
theorem JP(x o:List Int):∀i,(eB x o i).length<=i:=by
 intro i
 induction i with
 |zero=>simp[eB]
 |succ i ih=>
  rw[eB,List.length_append]
  split
  ·simp;omega
  ·simp;omega
theorem MW(x:List Int)(N:Nat)(D:x.length=N):∀s∈qC x,0<=s/\s<2^N:=by
 intro s A;obtain⟨k,z,rfl⟩:=I9 _ _ _ s A;exact WY N _ (fun e o=>by have:=kL x x.length e o;omega) k (by rw[fD];exact z)
def mH(x:List Int):Nat->Int
 |0=>0
 |k+1=>mH x k+x.getD k 0
theorem R5:∀N:Nat,N<6->∀k:Nat,k<N->bR (2^N-1) k=1:=by decide +kernel
theorem T9(x:List Int)(N:Nat)(z:N<=5)(o:x.length=N):wt x (2^N-1)=mH x N:=by
 have h:∀k,k<=N->cP x (2^N-1) k=mH x k:=by
  intro k
  induction k with
  |zero=>intro _;rfl
  |succ k ih=>
   intro A;rw[cP,mH,if_pos (R5 N (by omega) k (by omega)),ih (by omega)]
 unfold wt;rw[o];exact h N (Nat.le_refl _)
def gR(n:Int)(l x:List Int):Bool:=dZ n l x&&(x.all (fun y=>decide (y<=0))&&wt x (2^n.toNat-1)==cO l)
def rD(l x:List Int)(o:List Int):Bool:=o.all fun s=>aS l x s==0
def fE(n:Int)(l w x:List Int):Bool:=(eT n l w&&hH n l x)&&rD l x (qC w)
def eW(n:Int)(l:List Int):List Int:=(List.range n.toNat).map fun e=>l.getD (2^e) 0
def gN(n:Int)(l:List Int)(q st:Int)(x:List Int):Bool:=(gR n l x&&bO n.toNat st)&&(l.getD st.toNat 0==q&&wt x (2^n.toNat-1)==q)
def fX(n e:Int):Bool:=decide (0<=e)&&decide (e<n)
def sL(n s i k:Int):Bool:=((bO n.toNat s&&fX n i)&&fX n k)&&i != k
def qB(l:List Int)(s i k:Int):Bool:=(!aW s.toNat i.toNat&&!aW s.toNat k.toNat)&&jY l (s.toNat,i.toNat,k.toNat)
def dU(n:Int)(l x:List Int):Bool:=(aN n l&&decide (x.length=3))&&(sL n (x.getD 0 0) (x.getD 1 0) (x.getD 2 0)&&qB l (x.getD 0 0) (x.getD 1 0) (x.getD 2 0))
def dG(n1:Int)(l1:List Int)(n2:Int)(l2:List Int)(q:Int)(x:List Int):Bool:=((bP n2 l2&&iW n2 l2)&&n2==n1)&&(fE n1 l1 (eW n2 l2) x&&q==cH (eW n2 l2) x (eW n2 l2).length)
def sK(n:Int)(u:Nat)(e:Int):Bool:=fX n e&&!aW u e.toNat
def fL(n:Int):List Int->Nat->Int
 |[],u=>(u:Int)
 |e::r,u=>if sK n u e then fL n r (aP u e.toNat) else -1
theorem FZ(n:Int)(x:List Int)(k:Nat)(h:k<x.length)(u:Nat):fL n (x.drop k) u=if sK n u x[k] then fL n (x.drop (k+1)) (aP u x[k].toNat) else -1:=by
 rw[List.drop_eq_getElem_cons h,fL]
theorem sF:∀u:Nat,u<64->∀e:Nat,e<6->aP u e<64:=by decide +kernel
theorem NQ:∀u:Nat,u<64->∀e:Nat,e<6->aW u e=false->aY (aP u e)=aY u+1:=by decide +kernel
theorem OA:∀N:Nat,N<7->∀u:Nat,u<2^N->∀e:Nat,e<6->e<N->aP u e<2^N:=by decide +kernel
theorem tE(N:Nat)(D:N<=6):∀(x:List Int) (u:Nat),u<2^N->fL (N:Int) x u=-1∨∃s:Nat,fL (N:Int) x u=(s:Int)/\s<2^N/\aY s=aY u+x.length:=by
 intro x
 induction x with
 |nil=>intro u A;exact .inr ⟨u,rfl,A,by simp⟩
 |cons e r ih=>
  intro u A;rw[fL];have K:(2:Nat)^N<=2^6:=Nat.pow_le_pow_right (by decide) D
  cases hb:sK (N:Int) u e with
  |false=>exact .inl rfl
  |true=>
   unfold sK fX at hb;simp only[Bool.and_eq_true,decide_eq_true_eq,Bool.not_eq_true']at hb;obtain⟨⟨I,h1⟩,h2⟩:=hb
   rcases ih (aP u e.toNat) (OA N (by omega) u A e.toNat (by omega) (by omega)) with h|⟨s,F,o,z⟩
   ·exact .inl h
   ·refine .inr ⟨s,F,o,?_⟩
    rw[z,NQ u (by omega) e.toNat (by omega) h2,List.length_cons];omega
def yR(n:Int)(l1 l2:List Int)(q st s:Int):Bool:=(bH l1 s.toNat&&bH l2 s.toNat)&&l1.getD st.toNat 0+l2.getD (2^n.toNat-1-st).toNat 0==q
def fR(n1:Int)(l1:List Int)(n2:Int)(l2:List Int)(q st:Int)(x:List Int):Bool:=
 ((cZ n1 l1 n2 l2&&q==(x.length:Int))&&bO n1.toNat st)&&(decide (0<=fL n1 x 0)&&yR n1 l1 l2 q st (fL n1 x 0))
def gX(n:Int)(l:List Int)(q st:Int):Bool:=(eF n l&&gL n l==q)&&((decide (0<st)&&decide (st<2^n.toNat-1))&&l.getD st.toNat 0==q)
def iC(g:Int)(f:List Int)(q:Int)(x:List Int):Bool:=((bW g f&&decide (1<=x.length))&&q==(x.length:Int))&&(x.all (iY f)&&dP x)
def wP(f:List Int)(x:List Int):Bool:=decide (0<fL (f.length:Int) x 0)&&decide (cK (bD f (fL (f.length:Int) x 0).toNat f.length)<cK (fL (f.length:Int) x 0))
def dL(g:Int)(f:List Int)(q:Int)(x:List Int):Bool:=bW g f&&(if q=1 then fC g f x else (q==0&&decide (f.length<=6))&&wP f x)
def fQ(k n1:Int)(l1:List Int)(n2:Int)(l2:List Int)(n3:Int)(l3:List Int)(q st:Int)(l4:List Int):Bool:=
 if k=1 then gN n1 l1 q st l4 else if k=2 then dU n1 l1 l4 else if k=3 then dG n1 l1 n2 l2 q l4 else if k=4 then fR n1 l1 n2 l2 q st l4 else if k=5 then gX n1 l1 q st else if k=6 then iC n3 l3 q l4 else if k=7 then dL n3 l3 q l4 else false
end
section
open Go.RowKit Go.G5
theorem SK{n:Int}{x:List Int}(h:cR n x=true):dB x (-5000) 0=x.all fun y=>decide (y<=0):=by
 obtain⟨_,h2⟩:=iV h;rw[Bool.eq_iff_iff];unfold dB cM;simp only[List.all_eq_true,Bool.and_eq_true,decide_eq_true_eq]
 constructor
 ·intro h y o;exact(h y o).2
 ·intro h y o
  obtain⟨k,z,rfl⟩:=List.getElem_of_mem o;have:=h2 k z;exact⟨this.1,h _ o⟩
theorem jQ{n:Int}{l x:List Int}(h:dZ n l x=true):aN n l=true/\cR n x=true:=by
 unfold dZ at h;rw[Bool.and_eq_true,Bool.and_eq_true]at h;refine⟨?_,h.1.2⟩;have:=h.1.1;unfold bP at this;rw[Bool.and_eq_true]at this;exact this.1
theorem uM(w:World)(n:Int)(v:Value)(l:List Int)(Y:aD w v l)(u:Value)(x:List Int)(K:aD w u x):
  Calls Tryz.prog 24 #[.agg #[.int .i64 n,v],u] w fun e w'=>e=.returned (.bool (gR n l x))/\Below w.heap.size w w':=by
 obtain⟨a,c,rfl⟩:=Y.shape;obtain⟨au,cu,rfl⟩:=K.shape;have K0:=aB.new w 32 #[.int .i64 n,.slice a l.length c]
 cases hb:dZ n l x with
 |false=>
  have L:gR n l x=false:=by unfold gR;rw[hb];rfl
  have HX:=Lib.hid L;have HB:=Lib.hid hb;clear L hb;go_enter Tryz.func24,Tryz.ntmps24;go_wp2_with fail;refine(lU _ n _ l (Y.alloc _) _ x (K.alloc _)).mono ?_;rintro e w1 ⟨rfl,R⟩;rw[HB.out];go_wp2;go_ret;exact⟨aE HX.out.symm,(aM _ _).after R (by simp)⟩
 |true=>
  obtain⟨hf,D⟩:=jQ hb;obtain⟨N,rfl,hN,c5,_,b8⟩:=bN hf;obtain⟨d0,a1⟩:=iV D;have L:gR (N:Int) l x=(x.all (fun y=>decide (y<=0))&&wt x (2^N-1)==cO l):=by unfold gR;rw[hb,Int.toNat_natCast];rfl
  have o:=fun W (h:aD W (.slice au x.length cu) x)=>kV x _ (-5000) 0 W h;simp only[SK D]at o;have U:rC (N:Int) l=cO l:=by unfold rC;rw[hf];rfl
  have z:=fun(W:World) (h:aD W (.slice a l.length c) l)=>qU W (N:Int) _ l h;simp only[U]at z;have S:=fun(W:World) (h:aD W (.slice a l.length c) l)=>jM (N:Int) _ l W h (by omega) (by omega);have hp:=bJ N 5 hN;have c7:=hp.1;have f3:=hp.2;have I:=fun W (h:aD W (.slice au x.length cu) x)=>lN x _ (2^N-1) W h (by omega) (by simp at c7;omega) (fun k hk=>by have:=a1 k hk;omega) (by omega);obtain⟨P,hP⟩:∃P,P=x.all (fun y=>decide (y<=0)):=⟨_,rfl⟩;obtain⟨Wt,A⟩:∃P,P=wt x (2^N-1):=⟨_,rfl⟩;obtain⟨M,hM⟩:∃P,P=cO l:=⟨_,rfl⟩;rw[<-hP,<-A,<-hM]at L;simp only[<-hP]at o;simp only[<-A]at I;simp only[<-hM]at z;have HX:=Lib.hid L;have HB:=Lib.hid hb;have Q:=Lib.hid o;have b0:=Lib.hid z;have a8:=Lib.hid S;have b4:=Lib.hid I;clear L hb o z S I hP A hM U hf D b8 a1 hp d0 c5;go_enter Tryz.func24,Tryz.ntmps24;go_wp2_with fail;refine(lU _ _ _ l (Y.alloc _) _ x (K.alloc _)).mono ?_;rintro e w1 ⟨rfl,R⟩;rw[HB.out];have O:Below w.heap.size w w1:=(aM _ _).after R (by simp);have K1:=K0.keep R;clear K0 R;have F:=K.below O (Nat.le_refl _);have Z:=Y.below O (Nat.le_refl _);have G:=K1.cell
  cases P with
  |false=>
   go_wp2_with (go_at_call 131;refine(Q.out _ F).mono ?_;rintro e w' ⟨rfl,rfl⟩);go_ret;exact⟨aE HX.out.symm,O⟩
  |true=>
   go_wp2_with (go_at_call 131;refine(Q.out _ F).mono ?_;rintro e w' ⟨rfl,rfl⟩);refine(b0.out w1 Z).mono ?_;rintro e w2 ⟨rfl,b2⟩;have B2:=O.after b2 O.size;have K2:=K1.keep b2;have f4:=K.below B2 (Nat.le_refl _);have c9:=Y.below B2 (Nat.le_refl _);clear G F Z K1 b2;have G:=K2.cell;go_wp2_with fail;refine(a8.out w2 c9).mono ?_;rintro e w3 ⟨rfl,b3⟩;have B3:=B2.after b3 B2.size;have c8:=K.below B3 (Nat.le_refl _);rw[Int.toNat_natCast];go_wp2_with (go_at_call 132;refine(b4.out _ c8).mono ?_;rintro e w' ⟨rfl,rfl⟩);go_ret;exact⟨aE HX.out.symm,B3⟩
theorem GW(x:List Int)(v:Value)(w:World)(hv:aD w v x)(h5:x.length<=5)(hx:∀y∈x,-1000<=y/\y<=1000):
  Calls Tryz.prog 319 #[v] w fun e w'=>∃ad i c,e=.returned (.slice ad i c)/\aC 3 w.heap.size w' (.slice ad i c) (qC x)/\Below w.heap.size w w':=by
 obtain⟨a,b,m4,c,rfl,k3,f0,hc,hb⟩:=hv.view Tryz.prog 22 3 Tryz.underlying22 aG;have b5:=tH x _ w h5 hv hx;have a1:=kL x x.length;have b9:=fD x x.length;obtain⟨T,hT⟩:∃T,T=qC x:=⟨_,rfl⟩;have b4:T=eB x (cC x x.length) x.length:=hT;rw[<-hT];obtain⟨o,ho⟩:∃o,o=cC x x.length:=⟨_,rfl⟩;rw[<-ho]at b5 a1 b9 b4;have HX:=Lib.hid hx;have HC:=Lib.hid hc;have c8:=Lib.hid f0;have g8:=Lib.hid b5;have e4:=Lib.hid a1;have K:=Lib.hid b9;have HT:=Lib.hid b4;have f3:=fun i (hi:i<=o.length)=>QJ o (fun e he=>by have:=a1 e he;omega) i hi;have c9:=Lib.hid f3;clear hc f0 b5 a1 b9 b4 hT f3 hx ho;go_enter Tryz.func319,Tryz.ntmps319;go_wp2_with fail;refine g8.out.mono ?_;rintro e w2 ⟨po,io,qo,rfl,oo,b2⟩;have O:io=x.length:=by rw[<-K.out];exact oo.ints.capLe.1
 subst O;have b8:=oo.ints;rw[show(Value.slice po x.length qo)=.slice po o.length qo by rw[K.out]]at b8;obtain⟨_,ob,I,_,j0,_,a9,f8,f7⟩:=b8.view Tryz.prog 22 3 Tryz.underlying22 aG
 injection j0 with x1 _ x3
 subst x1 x3;have e0:=Lib.hid f8;have a6:=Lib.hid (show ∀(w':World) (k:Nat),k<x.length->(Instr.indexAt 22 (.slice po x.length qo) (.int .i64 (k:Int))).run Tryz.prog w'=.ok (.pointer (some ⟨ob,I+k,none⟩)) w' by intro w' k hk;have:=a9 w' k (by rw[K.out];exact hk);rw[K.out]at this;exact this);have a8:x≠[]->ob<w2.heap.size:=fun h=>f7 (fun e=>h (by have:=K.out;rw[e]at this;exact List.eq_nil_of_length_eq_zero this.symm));have d0:=Lib.hid a8;clear f8 a9 f7 b8 oo a8;go_wp2_with fail;go_loopw [3,4,12] (fun ov sv iv wr=>∃(i:Nat) (p:Option Addr) (q m:Nat),i<=x.length/\iv=.int .i64 i/\sv=.int .i64 (jK o i)/\ov=.slice p q m/\aC 3 w2.heap.size wr (.slice p q m) (eB x o i)/\Below w2.heap.size w2 wr) (fun _ _ iv _=>x.length-(intOf iv).toNat)
 case atStart=>exact⟨0,_,_,_,Nat.zero_le _,rfl,rfl,rfl,aC.nil _ _ _,Below.refl _ _⟩
 case round=>
  obtain⟨i,p,q,m,hi,rfl,rfl,rfl,own,R⟩:=hrel;obtain⟨wo,rfl⟩:∃z:World,z=wr:=⟨_,rfl⟩;have D:=Lib.hid own;have c7:=b2.after R b2.size;clear own
  by_cases hlt:i<x.length
  ·have f4:(i:Int)<(x.length:Int):=by omega
   have O:i<o.length:=by rw[K.out];exact hlt
   have oc:=e0.out i O;have j6:wo.cell? ⟨ob,I+i,none⟩=some (.int .i64 o[i]):=by
    have hz:=d0.out (fun e=>by rw[e]at hlt;simp at hlt);rw[R.cell (p:=⟨ob,I+i,none⟩) hz];exact oc
   have m5:=fun W=>a6.out W i hlt;have hm:=e4.out _ (List.getElem_mem O);have f2:=c9.out i (by omega);have i1:=c9.out (i+1) (by omega);have Q:jK o (i+1)=jC (jK o i) (2^o[i].toNat):=by rw[jK,List.getD_eq_getElem?_getD,List.getElem?_eq_getElem O,Option.getD_some]
   have N:oC x o i=x.getD o[i].toNat 0:=by unfold oC;rw[aJ o i O]
   have b7:eB x o (i+1)=eB x o i++(if yM x o i then [jK o (i+1)] else []):=rfl;obtain⟨e,he⟩:∃e:Nat,o[i]=(e:Int):=⟨o[i].toNat,by omega⟩;rw[he]at j6 hm Q N;rw[Int.toNat_natCast]at Q N;have U:e<x.length:=by omega
   rw[aJ x e U]at N;have xe:=HC.out e U;have j9:=aK HC.out hb c7 (Nat.le_refl _) e U;have n0:=fun W=>c8.out W e U;have j2:=HX.out _ (List.getElem_mem U);obtain⟨X1,e5⟩:∃X1,X1=x[e]:=⟨_,rfl⟩;rw[<-e5]at j9 N j2;have hp:=bJ e 5 (by omega);have i7:=hp.1;have m1:=hp.2;simp at i7;obtain⟨s1,f9⟩:∃s,s=jK o i:=⟨_,rfl⟩;obtain⟨s2,c5⟩:∃s,s=jK o (i+1):=⟨_,rfl⟩;rw[<-f9]at f2 Q ⊢;rw[<-c5]at i1 Q b7;have m0:bits .or .i64 s1 (2^e)=s2:=by rw[Q];exact tB f2.1 (by omega) (by omega) (by omega)
   have b1:=Lib.hid c5;have b0:=Lib.hid b7;have l9:=JP x o i;have m2:IntKind.i64.wrap ((i:Int)+1)=(i:Int)+1:=by rw[IntKind.wrap_i64];omega
   have zo:=R.size;have hcut:yM x o i=(i+1==o.length||oC x o (i+1) != oC x o i):=rfl;rw[N]at hcut;clear oc xe e5 f9 c5 Q b7 N he hm hp
   by_cases M:i+1=x.length
   ·have e8:yM x o i=true:=by rw[hcut,K.out];simp[M]
    have ht:((i:Int)+1==(x.length:Int))=true:=by simp;omega
    have A:eB x o (i+1)=eB x o i++[s2]:=by rw[b0.out,e8];rfl
    have S:=Lib.hid A;clear e8 A hcut M;go_wp2_with fail;go_quiet (fail);go_wp2_with (at_builtin;refine eI rfl _ _ _ rfl 3 Tryz.underlying22 aG w2.heap.size _ (eB x o i) s2 _ rfl rfl (aT _ _ _ _ _ rfl) ((D.out.drewN _).alloc _) ⟨by omega,by omega⟩ (by omega) (by simp;omega) ?_;intro v' w6 L b6;obtain⟨av,nv,cv,rfl⟩:=L.shape3);have B6:Below w2.heap.size w2 w6:=((R.drewN' _).alloc (R.drewN' _).size (.cells #[.int .i64 s2] 3)).grown b6 (by have:=R.size;simp;omega) (fun q hq=>(D.out.lt q hq).1);go_roundw
    case rel=>exact⟨i+1,av,nv,cv,by omega,by go_num,by rw[b1.out],rfl,by rw[S.out];exact L,B6⟩
    case measure=>simp[intOf];omega
   ·have a7:i+1<x.length:=by omega
    have ht:((i:Int)+1==(x.length:Int))=false:=by simp;omega
    have Z:i+1<o.length:=by rw[K.out];exact a7
    have g0:=e0.out (i+1) Z;have g1:wo.cell? ⟨ob,I+(i+1),none⟩=some (.int .i64 o[i+1]):=by
     have hz:=d0.out (fun e=>by rw[e]at hlt;simp at hlt);rw[R.cell (p:=⟨ob,I+(i+1),none⟩) hz];exact g0
    have k8:∀W,(Instr.indexAt 22 (.slice po x.length qo) (.int .i64 ((i:Int)+1))).run Tryz.prog W=.ok (.pointer (some ⟨ob,I+(i+1),none⟩)) W:=fun W=>by have:=a6.out W (i+1) a7;simpa using this
    have f5:=e4.out _ (List.getElem_mem Z);have F:oC x o (i+1)=x.getD o[i+1].toNat 0:=by unfold oC;rw[aJ o (i+1) Z]
    obtain⟨e',e9⟩:∃e':Nat,o[i+1]=(e':Int):=⟨o[i+1].toNat,by omega⟩;rw[e9]at g1 f5 F;rw[Int.toNat_natCast]at F;have Y:e'<x.length:=by omega
    rw[aJ x e' Y]at F;have g2:=aK HC.out hb c7 (Nat.le_refl _) e' Y;have l0:=fun W=>c8.out W e' Y;obtain⟨X2,e6⟩:∃X2,X2=x[e']:=⟨_,rfl⟩;rw[<-e6]at g2 F;rw[F]at hcut;have f6:(i+1==o.length)=false:=by rw[K.out];simp;omega
    rw[f6,Bool.false_or]at hcut;clear g0 e6 F e9 f5 f6
    cases e7:X2 != X1 with
    |false=>
     have A:eB x o (i+1)=eB x o i:=by rw[b0.out,hcut,e7];simp
     have S:=Lib.hid A;clear A hcut M;go_wp2_with fail;go_quiet (fail);go_wp2;go_roundw
     case rel=>exact⟨i+1,p,q,m,by omega,by go_num,by rw[b1.out],rfl,by rw[S.out];exact D.out.drewN _,R.drewN' _⟩
     case measure=>simp[intOf];omega
    |true=>
     have A:eB x o (i+1)=eB x o i++[s2]:=by rw[b0.out,hcut,e7];rfl
     have S:=Lib.hid A;clear A hcut M;go_wp2_with fail;go_quiet (fail);go_wp2_with (at_builtin;refine eI rfl _ _ _ rfl 3 Tryz.underlying22 aG w2.heap.size _ (eB x o i) s2 _ rfl rfl (aT _ _ _ _ _ rfl) ((D.out.drewN _).alloc _) ⟨by omega,by omega⟩ (by omega) (by simp;omega) ?_;intro v' w6 L b6;obtain⟨av,nv,cv,rfl⟩:=L.shape3);have B6:Below w2.heap.size w2 w6:=((R.drewN' _).alloc (R.drewN' _).size (.cells #[.int .i64 s2] 3)).grown b6 (by have:=R.size;simp;omega) (fun q hq=>(D.out.lt q hq).1);go_roundw
     case rel=>exact⟨i+1,av,nv,cv,by omega,by go_num,by rw[b1.out],rfl,by rw[S.out];exact L,B6⟩
     case measure=>simp[intOf];omega
  ·have f4:¬(i:Int)<(x.length:Int):=by omega
   have h9:i=x.length:=by omega
   subst h9;go_wp2;go_ret;exact⟨_,_,_,rfl,by rw[HT.out];exact D.out.mono b2.size,b2.after R b2.size⟩
end
end Go.Proofs.YtipejodijbjpcaaGreatDoor
