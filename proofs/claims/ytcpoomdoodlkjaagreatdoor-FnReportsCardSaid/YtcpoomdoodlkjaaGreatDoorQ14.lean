/- Lemmas for CardReports. No condition. -/
import Derived.Test.YtcpoomdoodlkjaaGreatDoorQ10
set_option maxRecDepth 100000
set_option maxHeartbeats 64000000
namespace Go.Proofs.YtcpoomdoodlkjaaGreatDoor
section
open Go.RowKit Go.G5 Go.Proofs.Tryz
theorem adH(z:BinOp)(a b:Int):dD (bits z .i64 a b):=by
 unfold bits;rw[IntKind.wrap_i64];unfold dD;omega
theorem VQ(w:World)(g:Nat)(D:Dr w g):
  Calls prog 33 #[.pointer (some ⟨g,0,none⟩)] w fun e w'=>∃(n:Int) (ad:Option Addr) (i I:Nat) (l:List Int),e=.returned (.agg #[n,aI ad i I])/\dD n/\aP 3 w w' (aI ad i I) l/\l.length<=20/\Dr w' g/\w.grownBy w' (some g):=by
 have zg:=D.lt;go_enter func33,ntmps33;go_wp2_with fail;refine bH ?_;intro V hV;have B:Below w w V:=fU hV;have z:aU V w 31 #[aJ,()]:=eJ hV;have D0:=D.keep B;have g0:w.grownBy V (some g):=fN _ B;have y0:=z.lt;clear hV B;refine(JU V g D0).mono ?_;rintro e w1 ⟨n,ad,i,I,l,rfl,hn,o1,hl,D1,g1⟩;have z:=z.grow g1 aV;have yV:=g1.size;have g1:=eF g0 g1;have x1:=z.lt;have y1:=g1.size;go_wp2_with fail;refine bH ?_;intro V1 b1;have O:aU V1 w1 31 #[n,aI ad i I]:=by
  rw[b1]
  first
   |exact aU.new _ _ _
   |(have:=((aU.new w1 31 #[aJ,()]).set 0 (aM n)).set 1 (aI ad i I);simpa using this)
 have g2:w1.grownBy V1 (some w1.heap.size):=by
  rw[b1]
  first
   |exact fN _ (bF _ _)
   |exact dW (dW (fN _ (bF _ _)) 0 _) 1 _
 have z:=z.grow g2 aV;have D2:=D1.grow g2 kH;have l0:=o1.lt;have o2:=o1.grow g2 (fun q hq e=>by have:=Option.some.inj hq;have:=(o1.lt _ e).2;omega);have g2:=vZ g1 g2 (fun b e=>.inr (by have:=Option.some.inj e;omega));clear b1 o1 D1 g1 g0 D0;refine(cS n l _ V1 o2.ints).mono ?_;rintro e w3 ⟨rfl,b3⟩;have z:=z.keep b3;have O:=O.keep b3;have o3:=o2.keep b3;have D3:=D2.keep b3;have g3:=eF g2 (fN _ b3);clear D2 o2 g2 b3
 cases hf:bJ n l with
 |false=>clear hf;have G3:=O.cell;have G2:=z.cell;have F2:=z.frozen;go_wp2;refine bG ?_;intro Wf F;obtain⟨KF,M,Z,S⟩:=vC zg z D3 o3 aK g3 F;have GF:=KF.cell;clear F;exact bodyPost_ret (v:=.agg #[n,aI ad i I]) (by simp[results,results33,go_sem,GF]) rfl ⟨n,ad,i,I,l,rfl,hn,Z,by omega,M,S⟩
 |true=>
  obtain⟨h0,h6,_,Y⟩:=dT hf;clear hf;go_wp2_with fail;refine(uT w3 g D3 4).mono ?_;rintro e w4 ⟨bb,rfl,D4,R⟩;have z:=z.grow R aV;have O:=O.grow R aV;have o4:=o3.grow R (fun q hq e=>by have:=Option.some.inj hq;have:=(o3.lt _ e).1;omega);have R:=eF g3 R;clear D3 o3 g3
  cases bb with
  |true=>have G3:=O.cell;have G2:=z.cell;have F2:=z.frozen;go_wp2;refine bG ?_;intro Wf F;obtain⟨KF,M,Z,S⟩:=vC zg z D4 o4 aK R F;have GF:=KF.cell;clear F;exact bodyPost_ret (v:=.agg #[n,aI ad i I]) (by simp[results,results33,go_sem,GF]) rfl ⟨n,ad,i,I,l,rfl,hn,Z,by omega,M,S⟩
  |false=>
   obtain⟨N,rfl⟩:=Int.eq_ofNat_of_zero_le h0;have hN:N<=6:=aK;go_wp2_with fail;go_loopw [4] (fun kk wr=>∃(k:Nat) (ad:Option Addr) (i I:Nat) (L:List Int),kk=aM k/\k<=N/\L.length<=8+k/\L.Pairwise (· < ·)/\aP 3 V wr (aI ad i I) L/\Dr wr g/\w.grownBy wr (some g)/\aU wr w 31 #[aJ,()]/\aU wr w1 31 #[N,aI ad i I]) (fun kk _=>N-(intOf kk).toNat)
   case atStart=>exact⟨0,ad,i,I,l,rfl,Nat.zero_le _,by omega,Y,o4,D4,R,z,O⟩
   case round=>
    obtain⟨k,a5,i5,c5,L,rfl,hk,hL,c8,o5,D5,g5,J,a1⟩:=hrel;clear o4 D4 R z O;have e6:=aN c8;clear c8 Y;have G3:=a1.cell;have x5:=a1.lt;by_cases hlt:k<N
    ·have c9:(k:Int)<(N:Int):=aK;have pk:=cO k 6 aK;have wk:IntKind.i64.wrap ((2:Int)^k)=(2:Int)^k:=by rw[IntKind.wrap_i64];omega
     have Dd:Dr wr.drew g:=D5.keep (Below.refl _ _).drew;have e9:aU wr.drew w1.heap.size 31 #[N,aI a5 i5 c5]:=a1;have e8:aU wr.drew w.heap.size 31 #[aJ,()]:=J;have od:aP 3 V wr.drew (aI a5 i5 c5) L:=o5.keep (Below.refl _ _).drew;have gd:w.grownBy wr.drew (some g):=eF g5 (fN _ (Below.refl _ _).drew);have HB:=aN (cU wr.drew g Dd (N:Int));have HP:=aN (fun(W:World) (h:aP 3 V W (aI a5 i5 c5) L) (hs:V.heap.size<=W.heap.size) (x:Int) (hx:dD x)=>A9 V.heap.size L _ x W h hs e6.out aK hx);go_wp2_with fail;go_region_law
      (first
       |(go_simp;go_at_call 148;refine HB.out.mono ?_;rintro e w6 ⟨x,rfl,_,hx,_,D6,g6⟩;have hx:=hx aK;have a6:=e9.grow g6 aV;have j9:=a6.cell;have o6:=od.grow g6 (fun q hq e=>by have:=Option.some.inj hq;have:=(od.lt _ e).1;omega);have f5:=eF gd g6;have e7:=e8.grow g6 aV;have l2:=a6.lt;obtain⟨X,rfl⟩:=Int.eq_ofNat_of_zero_le hx.1;have px:=cO X 6 aK;have wx:IntKind.i64.wrap ((2:Int)^X)=(2:Int)^X:=by { rw[IntKind.wrap_i64];omega })
       |(go_simp;go_at_call 157;refine(HP.out _ o6 aK _ (adH _ _ _)).mono ?_;rintro e w7 ⟨a7,i7,q7,rfl,o7,b7,_⟩;have K:=a6.keep b7;have j8:=K.frozen;have k0:=K.cell))
     all_goals
      obtain⟨y,hy⟩:=aQ (bits .or .i64 ((2:Int)^k) (2^X));rw[<-hy]at o7;have gs:=fH w7 ⟨w1.heap.size,1,none⟩ (aI a7 i7 q7);have d0:=OP o7 K;have M:=(D6.keep b7).setCell (b:=w1.heap.size) (i:=1) (aI a7 i7 q7) aK;have Z:=o7.grow gs (fun q hq e=>by have:=Option.some.inj hq;simp at this;exact d0 (by rw[e,this]));have S:=vZ (eF f5 (fN _ b7)) gs (fun b e=>.inr (by have:=Option.some.inj e;simp at this;omega));have f0:=(e7.keep b7).far (p:=⟨w1.heap.size,1,none⟩) aV (aI a7 i7 q7);have f2:aU (w7.setCell ⟨w1.heap.size,1,none⟩ (aI a7 i7 q7)) w1.heap.size 31 #[N,aI a7 i7 q7]:=by have:=K.set 1 (aI a7 i7 q7);simpa using this
      have k6:=TU L y;have f7:=yC L y;go_wp2;go_roundw
      case rel=>exact⟨k+1,a7,i7,q7,vK L y,by go_num,by omega,by omega,f7,Z,M,S,f0,f2⟩
      case measure=>simp[intOf];omega
    ·have c9:¬(k:Int)<(N:Int):=aK;have G2:=J.cell;have F2:=J.frozen;go_wp2;refine bG ?_;intro Wf F;obtain⟨KF,M,Z,S⟩:=vC zg J D5 o5 aK g5 F;have GF:=KF.cell;clear F;exact bodyPost_ret (v:=.agg #[N,aI a5 i5 c5]) (by simp[results,results33,go_sem,GF]) rfl (by first|exact⟨N,a5,i5,c5,L,rfl,hn,Z,by omega,M,S⟩|exact⟨N,a5,i5,c5,rfl,hn,L,Z,by omega,M,S⟩)
theorem ahM(w:World)(g:Nat)(D:Dr w g):Calls prog 26 #[.pointer (some ⟨g,0,none⟩)] w fun e w'=>∃(n:Int) (ad:Option Addr) (i z:Nat) (l:List Int),e=.returned (.agg #[n,aI ad i z])/\dD n/\aP 3 w w' (aI ad i z) l/\l.length<=64/\Dr w' g/\w.grownBy w' (some g):=
 (zA w g D).mono fun _ _ ⟨n,ad,i,z,l,a,b,c,d,e,f⟩=>⟨n,ad,i,z,l,a,b,c,by omega,e,f⟩
theorem UN(w:World)(g:Nat)(D:Dr w g):Calls prog 32 #[.pointer (some ⟨g,0,none⟩)] w fun e w'=>∃(n:Int) (ad:Option Addr) (i z:Nat) (l:List Int),e=.returned (.agg #[n,aI ad i z])/\dD n/\aP 3 w w' (aI ad i z) l/\l.length<=64/\Dr w' g/\w.grownBy w' (some g):=
 (JU w g D).mono fun _ _ ⟨n,ad,i,z,l,a,b,c,d,e,f⟩=>⟨n,ad,i,z,l,a,b,c,by omega,e,f⟩
theorem afJ(w:World)(g:Nat)(D:Dr w g):Calls prog 33 #[.pointer (some ⟨g,0,none⟩)] w fun e w'=>∃(n:Int) (ad:Option Addr) (i z:Nat) (l:List Int),e=.returned (.agg #[n,aI ad i z])/\dD n/\aP 3 w w' (aI ad i z) l/\l.length<=64/\Dr w' g/\w.grownBy w' (some g):=
 (VQ w g D).mono fun _ _ ⟨n,ad,i,z,l,a,b,c,d,e,f⟩=>⟨n,ad,i,z,l,a,b,c,by omega,e,f⟩
theorem MC(w:World)(v:Value)(l:List Nat)(hv:mJ w v l):
  Calls prog 5 #[v] w fun e w'=>∃(n:Int) (ad:Option Addr) (i D:Nat) (l:List Int),e=.returned (.agg #[n,aI ad i D])/\dD n/\aP 3 w w' (aI ad i D) l/\l.length<=64/\Below w w w':=by
 go_enter func5,ntmps5;go_wp2_with fail;refine bH ?_;intro V J;have B:Below w w V:=fU J;have z:aU V w 26 #[aJ,()]:=eJ J;clear J;have hw:=z.lt;refine(rK V _ _ (hv.below B aO)).mono ?_;rintro e w1 ⟨rfl,M,I⟩;have z:=z.keep I;have B:=B.after I B.size;have x1:=z.lt;have y1:=M.lt;have yb:=I.size;go_wp2_with fail;refine(ahM w1 V.heap.size M).mono ?_;rintro e w2 ⟨n,ad,i,D,L,rfl,hn,R,hL,D2,N⟩;have z:=z.grow N aV;have K:=B.grown N B.size kH;have ro:=R.lt;have F2:=z.frozen;have G2:=z.cell;go_wp2;refine bG ?_;intro Wf F;have Z:aU Wf w 26 #[n,aI ad i D]:=by rw[F];have:=(z.set 0 (aM n)).set 1 (aI ad i D);simpa using this
 have O:w2.grownBy Wf (some w.heap.size):=by rw[F];exact dW (dW (World.grownBy.refl _ _) 0 _) 1 _
 have Y:=Z.cell;have oF:=(R.grow O (fun q hq e=>by have:=Option.some.inj hq;have:=(ro _ e).1;omega)).mono (B':=w.heap.size) aK;have S:=K.grown O K.size kH;clear F;exact bodyPost_ret (v:=.agg #[n,aI ad i D]) (by simp[results,results5,go_sem,Y]) rfl ⟨n,ad,i,D,L,rfl,hn,oF,hL,S⟩
theorem MB(w:World)(v:Value)(l:List Nat)(hv:mJ w v l):
  Calls prog 9 #[v] w fun e w'=>∃(n:Int) (ad:Option Addr) (i D:Nat) (l:List Int),e=.returned (.agg #[n,aI ad i D])/\dD n/\aP 3 w w' (aI ad i D) l/\l.length<=64/\Below w w w':=by
 go_enter func9,ntmps9;go_wp2_with fail;refine bH ?_;intro V J;have B:Below w w V:=fU J;have z:aU V w 31 #[aJ,()]:=eJ J;clear J;have hw:=z.lt;refine(rK V _ _ (hv.below B aO)).mono ?_;rintro e w1 ⟨rfl,M,I⟩;have z:=z.keep I;have B:=B.after I B.size;have x1:=z.lt;have y1:=M.lt;have yb:=I.size;go_wp2_with fail;refine(UN w1 V.heap.size M).mono ?_;rintro e w2 ⟨n,ad,i,D,L,rfl,hn,R,hL,D2,N⟩;have z:=z.grow N aV;have K:=B.grown N B.size kH;have ro:=R.lt;have F2:=z.frozen;have G2:=z.cell;go_wp2;refine bG ?_;intro Wf F;have Z:aU Wf w 31 #[n,aI ad i D]:=by rw[F];have:=(z.set 0 (aM n)).set 1 (aI ad i D);simpa using this
 have O:w2.grownBy Wf (some w.heap.size):=by rw[F];exact dW (dW (World.grownBy.refl _ _) 0 _) 1 _
 have Y:=Z.cell;have oF:=(R.grow O (fun q hq e=>by have:=Option.some.inj hq;have:=(ro _ e).1;omega)).mono (B':=w.heap.size) aK;have S:=K.grown O K.size kH;clear F;exact bodyPost_ret (v:=.agg #[n,aI ad i D]) (by simp[results,results9,go_sem,Y]) rfl ⟨n,ad,i,D,L,rfl,hn,oF,hL,S⟩
theorem ME(w:World)(v:Value)(l:List Nat)(hv:mJ w v l):
  Calls prog 11 #[v] w fun e w'=>∃(n:Int) (ad:Option Addr) (i D:Nat) (l:List Int),e=.returned (.agg #[n,aI ad i D])/\dD n/\aP 3 w w' (aI ad i D) l/\l.length<=64/\Below w w w':=by
 go_enter func11,ntmps11;go_wp2_with fail;refine bH ?_;intro V J;have B:Below w w V:=fU J;have z:aU V w 31 #[aJ,()]:=eJ J;clear J;have hw:=z.lt;refine(rK V _ _ (hv.below B aO)).mono ?_;rintro e w1 ⟨rfl,M,I⟩;have z:=z.keep I;have B:=B.after I B.size;have x1:=z.lt;have y1:=M.lt;have yb:=I.size;go_wp2_with fail;refine(UN w1 V.heap.size M).mono ?_;rintro e w2 ⟨n,ad,i,D,L,rfl,hn,R,hL,D2,N⟩;have z:=z.grow N aV;have K:=B.grown N B.size kH;have ro:=R.lt;have F2:=z.frozen;have G2:=z.cell;go_wp2;refine bG ?_;intro Wf F;have Z:aU Wf w 31 #[n,aI ad i D]:=by rw[F];have:=(z.set 0 (aM n)).set 1 (aI ad i D);simpa using this
 have O:w2.grownBy Wf (some w.heap.size):=by rw[F];exact dW (dW (World.grownBy.refl _ _) 0 _) 1 _
 have Y:=Z.cell;have oF:=(R.grow O (fun q hq e=>by have:=Option.some.inj hq;have:=(ro _ e).1;omega)).mono (B':=w.heap.size) aK;have S:=K.grown O K.size kH;clear F;exact bodyPost_ret (v:=.agg #[n,aI ad i D]) (by simp[results,results11,go_sem,Y]) rfl ⟨n,ad,i,D,L,rfl,hn,oF,hL,S⟩
theorem I5(w:World)(v:Value)(l:List Nat)(hv:mJ w v l):
  Calls prog 10 #[v] w fun e w'=>∃(n:Int) (ad:Option Addr) (i D:Nat) (l:List Int),e=.returned (.agg #[n,aI ad i D])/\dD n/\aP 3 w w' (aI ad i D) l/\l.length<=64/\Below w w w':=by
 go_enter func10,ntmps10;go_wp2_with fail;refine bH ?_;intro V J;have B:Below w w V:=fU J;have z:aU V w 31 #[aJ,()]:=eJ J;clear J;have hw:=z.lt;refine(rK V _ _ (hv.below B aO)).mono ?_;rintro e w1 ⟨rfl,M,I⟩;have z:=z.keep I;have B:=B.after I B.size;have x1:=z.lt;have y1:=M.lt;have yb:=I.size;go_wp2_with fail;refine(afJ w1 V.heap.size M).mono ?_;rintro e w2 ⟨n,ad,i,D,L,rfl,hn,R,hL,D2,N⟩;have z:=z.grow N aV;have K:=B.grown N B.size kH;have ro:=R.lt;have F2:=z.frozen;have G2:=z.cell;go_wp2;refine bG ?_;intro Wf F;have Z:aU Wf w 31 #[n,aI ad i D]:=by rw[F];have:=(z.set 0 (aM n)).set 1 (aI ad i D);simpa using this
 have O:w2.grownBy Wf (some w.heap.size):=by rw[F];exact dW (dW (World.grownBy.refl _ _) 0 _) 1 _
 have Y:=Z.cell;have oF:=(R.grow O (fun q hq e=>by have:=Option.some.inj hq;have:=(ro _ e).1;omega)).mono (B':=w.heap.size) aK;have S:=K.grown O K.size kH;clear F;exact bodyPost_ret (v:=.agg #[n,aI ad i D]) (by simp[results,results10,go_sem,Y]) rfl ⟨n,ad,i,D,L,rfl,hn,oF,hL,S⟩
end
section
open Go.RowKit Go.G5 Go.Proofs.Tryz
end
section
open Go.RowKit Go.G5 Go.Proofs.Tryz
@[reducible] def clV (k n1 : Int) (v1 : Value) (n2 : Int) (v2 : Value) (n3 : Int) (v3 : Value) (q st : Int) (v4 : Value) : Value :=
 .agg #[k,n1,v1,n2,v2,n3,v3,q,st,v4]
@[reducible] def clC (k n1 : Int) (v1 : Value) (n2 : Int) (v2 : Value) (n3 : Int) (v3 : Value) (q st : Int) (v4 : Value) : Array Value :=
 #[k,n1,v1,n2,v2,n3,v3,q,st,v4]
def A7(l:List Int)(a:Int)(t:jU):Int×Bool:=(max a (kM l t.1 t.2.1 t.2.2),true)
def SD(n:Nat)(l:List Int):Int:=(gL (A7 l) (jK n (2^n)) 0).1
def mA(n:Int)(l:List Int):Int:=if bM n l then SD n.toNat l else 0
def gG(X:List Int)(a:Int):Int:=X.foldl max a
theorem BG:∀(X:List Int) (a:Int),a<=gG X a/\∀x∈X,x<=gG X a
 |[],a=>⟨Int.le_refl _,by simp⟩
 |y::X,a=>by
  have⟨h1,h2⟩:=BG X (max a y);refine⟨by unfold gG at h1 ⊢;rw[List.foldl_cons];omega,fun x z=>?_⟩;rcases List.mem_cons.1 z with rfl|z
  ·unfold gG at h1 ⊢;rw[List.foldl_cons];omega
  ·exact h2 x z
theorem BH:∀(X:List Int) (a:Int),gG X a=a∨gG X a∈X
 |[],a=>.inl rfl
 |y::X,a=>by
  have h:=BH X (max a y);have e:gG (y::X) a=gG X (max a y):=rfl;rw[e];rcases h with h|h
  ·rw[h];rcases Int.le_total a y with h1|h1
   ·right;rw[Int.max_eq_right h1];simp
   ·left;exact Int.max_eq_left h1
  ·exact .inr (List.mem_cons_of_mem _ h)
theorem aeO(X Y:List Int)(a:Int)(h1:∀x∈X,x∈Y)(h2:∀y∈Y,y∈X):gG X a=gG Y a:=by
 have z:=BG X a;have D:=BG Y a;have F:=BH X a;have I:=BH Y a;have e1:gG X a<=gG Y a:=by
  rcases F with h|h
  ·rw[h];exact D.1
  ·exact D.2 _ (h1 _ h)
 have e2:gG Y a<=gG X a:=by
  rcases I with h|h
  ·rw[h];exact z.1
  ·exact z.2 _ (h2 _ h)
 omega
theorem ZN(X:List Int)(a y:Int):gG (X++[y]) a=max (gG X a) y:=by simp[gG]
def wG(l:List Int)(t:jU):Int:=kM l t.1 t.2.1 t.2.2
theorem MR(l:List Int):∀(T:List jU) (a:Int),gL (A7 l) T a=(gG (T.map (wG l)) a,true)
 |[],_=>rfl
 |t::T,a=>by
  rw[gL];show(if true=true then _ else _)=_;rw[if_pos rfl,MR l T]
  rfl
def CD(s i:Nat):Nat->List jU
 |0=>[]
 |k+1=>CD s i k++(if (!dC s i&&!dC s k) then [(s,i,k)] else [])
def uX(s:Nat):Nat->List jU
 |0=>[]
 |i+1=>uX s i++CD s i i
def sT(n:Nat):Nat->List jU
 |0=>[]
 |s+1=>sT n s++uX s n
theorem ahI(s i k:Nat)(t:jU):t∈CD s i k↔t.1=s/\t.2.1=i/\t.2.2<k/\dC s i=false/\dC s t.2.2=false:=by
 induction k with
 |zero=>simp[CD]
 |succ k ih=>
  rw[CD,List.mem_append,ih];obtain⟨a,b,c⟩:=t;constructor
  ·rintro(h|h)
   ·exact⟨h.1,h.2.1,by have:=h.2.2.1;omega,h.2.2.2⟩
   ·split at h
    ·rename_i hc;rw[List.mem_singleton]at h;simp only[Prod.mk.injEq]at h;obtain⟨rfl,rfl,rfl⟩:=h;simp only[Bool.and_eq_true,Bool.not_eq_true']at hc;exact⟨rfl,rfl,by simp,hc.1,hc.2⟩
    ·cases h
  ·rintro⟨h1,h2,h3,h4,z⟩;simp only at h1 h2 h3 z;by_cases hk:c=k
   ·right;subst hk h1 h2;rw[if_pos (by rw[h4,z];rfl)];simp
   ·left;exact⟨h1,h2,by simp only;omega,h4,z⟩
theorem afG(s i:Nat)(t:jU):t∈uX s i↔t.1=s/\t.2.1<i/\t.2.2<t.2.1/\dC s t.2.1=false/\dC s t.2.2=false:=by
 induction i with
 |zero=>simp[uX]
 |succ i ih=>
  rw[uX,List.mem_append,ih,ahI];constructor
  ·rintro(h|h)
   ·exact⟨h.1,by omega,h.2.2⟩
   ·have e:=h.2.1;exact⟨h.1,by omega,by omega,by rw[e];exact h.2.2.2.1,h.2.2.2.2⟩
  ·rintro⟨h1,h2,h3,h4,z⟩;by_cases hk:t.2.1=i
   ·right;exact⟨h1,hk,by omega,by rw[<-hk];exact h4,z⟩
   ·left;exact⟨h1,by omega,h3,h4,z⟩
theorem UJ(n s:Nat)(t:jU):t∈sT n s↔t.1<s/\t.2.1<n/\t.2.2<t.2.1/\dC t.1 t.2.1=false/\dC t.1 t.2.2=false:=by
 induction s with
 |zero=>simp[sT]
 |succ s ih=>
  rw[sT,List.mem_append,ih,afG];constructor
  ·rintro(h|h)
   ·exact⟨by omega,h.2⟩
   ·have e:=h.1;rw[e];exact⟨by omega,h.2⟩
  ·rintro⟨h1,h2⟩;by_cases hk:t.1=s
   ·right;rw[hk]at h2;exact⟨hk,h2⟩
   ·left;exact⟨by omega,h2⟩
theorem ahG(s i k:Nat)(t:jU):t∈mI s i k↔t.1=s/\t.2.1=i/\i<t.2.2/\t.2.2<k/\dC s i=false/\dC s t.2.2=false:=by
 induction k with
 |zero=>simp[mI]
 |succ k ih=>
  rw[mI,List.mem_append,ih];obtain⟨a,b,c⟩:=t;constructor
  ·rintro(h|h)
   ·exact⟨h.1,h.2.1,h.2.2.1,by have:=h.2.2.2.1;omega,h.2.2.2.2⟩
   ·split at h
    ·rename_i hc;rw[List.mem_singleton]at h;simp only[Prod.mk.injEq]at h;obtain⟨rfl,rfl,rfl⟩:=h;simp only[Bool.and_eq_true,Bool.not_eq_true',decide_eq_true_eq]at hc;exact⟨rfl,rfl,hc.1,by simp,hc.2.1,hc.2.2⟩
    ·cases h
  ·rintro⟨h1,h2,h3,h4,D,z⟩;simp only at h1 h2 h3 h4 z;by_cases hk:c=k
   ·right;subst hk h1 h2;rw[if_pos (by rw[D,z,decide_eq_true h3];rfl)];simp
   ·left;exact⟨h1,h2,h3,by simp only;omega,D,z⟩
theorem afC(n s i:Nat)(t:jU):t∈kZ n s i↔t.1=s/\t.2.1<i/\t.2.1<t.2.2/\t.2.2<n/\dC s t.2.1=false/\dC s t.2.2=false:=by
 induction i with
 |zero=>simp[kZ]
 |succ i ih=>
  rw[kZ,List.mem_append,ih,ahG];constructor
  ·rintro(h|h)
   ·exact⟨h.1,by omega,h.2.2⟩
   ·have e:=h.2.1;exact⟨h.1,by omega,by omega,h.2.2.2.1,by rw[e];exact h.2.2.2.2.1,h.2.2.2.2.2⟩
  ·rintro⟨h1,h2,h3,h4,z,D⟩;by_cases hk:t.2.1=i
   ·right;exact⟨h1,hk,by omega,h4,by rw[<-hk];exact z,D⟩
   ·left;exact⟨h1,by omega,h3,h4,z,D⟩
theorem UH(n s:Nat)(t:jU):t∈jK n s↔t.1<s/\t.2.1<t.2.2/\t.2.2<n/\dC t.1 t.2.1=false/\dC t.1 t.2.2=false:=by
 induction s with
 |zero=>simp[jK]
 |succ s ih=>
  rw[jK,List.mem_append,ih,afC];constructor
  ·rintro(h|h)
   ·exact⟨by omega,h.2⟩
   ·have e:=h.1;rw[e];exact⟨by omega,h.2.2⟩
  ·rintro⟨h1,h2,h3,h4,z⟩;by_cases hk:t.1=s
   ·right;rw[hk]at h4 z;exact⟨hk,by omega,h2,h3,h4,z⟩
   ·left;exact⟨by omega,h2,h3,h4,z⟩
theorem RM(l:List Int)(s i k:Nat):kM l s i k=kM l s k i:=by
 unfold kM;rw[Nat.or_comm (bU s i) (bU s k)];omega
theorem abF(n:Nat)(l:List Int)(N:Nat):gG ((sT n N).map (wG l)) 0=gG ((jK n N).map (wG l)) 0:=by
 refine aeO _ _ _ (fun x z=>?_) (fun x z=>?_)
 ·obtain⟨⟨s,i,k⟩,h1,rfl⟩:=List.mem_map.1 z;have h2:=(UJ _ _ _).1 h1;simp only at h2;exact List.mem_map.2 ⟨(s,k,i),(UH _ _ _).2 (by simp only;exact⟨h2.1,h2.2.2.1,h2.2.1,h2.2.2.2.2,h2.2.2.2.1⟩),RM l s k i⟩
 ·obtain⟨⟨s,i,k⟩,h1,rfl⟩:=List.mem_map.1 z;have h2:=(UH _ _ _).1 h1;simp only at h2;exact List.mem_map.2 ⟨(s,k,i),(UJ _ _ _).2 (by simp only;exact⟨h2.1,h2.2.2.1,h2.2.1,h2.2.2.2.2,h2.2.2.2.1⟩),RM l s k i⟩
theorem abE(n:Nat)(l:List Int):SD n l=gG ((sT n (2^n)).map (wG l)) 0:=by
 unfold SD;rw[MR,abF]
theorem aeN(X:List Int)(h:∀x∈X,x<=4000):0<=gG X 0/\gG X 0<=4000:=by
 have h1:=(BG X 0).1;rcases BH X 0 with h2|h2
 ·omega
 ·exact⟨h1,h _ h2⟩
theorem MQ(n:Int)(l:List Int):0<=mA n l/\mA n l<=4000:=by
 unfold mA
 split
 ·rename_i I;obtain⟨K,M,z,F⟩:=lB I;have D:l.length=2^n.toNat:=by exact_mod_cast z
  unfold SD;rw[MR];refine aeN _ (fun x J=>?_);obtain⟨t,h1,rfl⟩:=List.mem_map.1 J;have h2:=UI _ _ t h1;exact(RL n.toNat l D F t.1 t.2.1 t.2.2 h2.1 aK aK).2
 ·omega
def fP(l:List Int):Nat->List (List Int)
 |0=>[]
 |e+1=>if fS l (e:Int) then fP l e else fP l e++[l++[(e:Int)]]
def gV(n:Nat)(z:List (List Int)):Nat->List (List Int)
 |0=>[]
 |k+1=>gV n z k++fP (z.getD k []) n
def cY(n:Nat):Nat->List (List Int)
 |0=>[[]]
 |r+1=>gV n (cY n r) (cY n r).length
theorem CP(l:List Int)(e:Nat):(fP l e).length<=e:=by
 induction e with
 |zero=>exact aO
 |succ e ih=>
  rw[fP]
  split
  ·omega
  ·rw[List.length_append];simp only[List.length_cons,List.length_nil];omega
theorem xB(n:Nat)(z:List (List Int))(k:Nat):(gV n z k).length<=k*n:=by
 induction k with
 |zero=>simp[gV]
 |succ k ih=>have:=CP (z.getD k []) n;rw[gV,List.length_append,Nat.succ_mul];omega
theorem FU(n:Nat)(z:n<=5)(r:Nat):(cY n r).length<=5^r:=by
 induction r with
 |zero=>simp[cY]
 |succ r ih=>have h1:=xB n (cY n r) (cY n r).length;have h2:(cY n r).length*n<=5^r*5:=Nat.mul_le_mul ih z;rw[cY,Nat.pow_succ];omega
theorem aaW(l:List Int)(n e:Nat)(D:e<=n):∀x∈fP l e,∃j:Nat,j<n/\x=l++[(j:Int)]:=by
 induction e with
 |zero=>simp[fP]
 |succ e ih=>
  intro x z;rw[fP]at z
  split at z
  ·exact ih aK x z
  ·rcases List.mem_append.1 z with z|z
   ·exact ih aK x z
   ·simp only[List.mem_singleton]at z;exact⟨e,by omega,z⟩
theorem ZQ(n:Nat)(D:List (List Int))(k:Nat)(hk:k<=D.length):∀x∈gV n D k,∃l∈D,∃j:Nat,j<n/\x=l++[(j:Int)]:=by
 induction k with
 |zero=>simp[gV]
 |succ k ih=>
  intro x z;rw[gV]at z;rcases List.mem_append.1 z with z|z
  ·exact ih aK x z
  ·obtain⟨j,F,e⟩:=aaW _ n n aO x z;rw[List.getD_eq_getElem?_getD,List.getElem?_eq_getElem (show k<D.length by omega),Option.getD_some]at e;exact⟨_,List.getElem_mem (show k<D.length by omega),j,F,e⟩
theorem qJ(n r:Nat):∀l∈cY n r,l.length=r/\∀x∈l,0<=x/\x<n:=by
 induction r with
 |zero=>intro l hl;simp only[cY,List.mem_singleton]at hl;subst hl;simp
 |succ r ih=>
  intro l hl;obtain⟨F,D,j,I,rfl⟩:=ZQ n _ _ aO l hl;obtain⟨h1,h2⟩:=ih F D;refine⟨by simp[h1],fun x z=>?_⟩;rcases List.mem_append.1 z with z|z
  ·exact h2 x z
  ·simp only[List.mem_singleton]at z;omega
theorem TG(n:Nat)(hn:n<=5)(w:World):
  Calls prog 166 #[(n:Int)] w fun e w'=>∃ad i c,e=.returned (aI ad i c)/\dA 3 24 w.heap.size w' (aI ad i c) (cY n n)/\Below w w w':=by
 have o0:=dA.single (EI:=3) (EO:=24) w (Nat.le_refl w.heap.size);go_enter func166,ntmps166;go_wp2_with fail;go_loopw [3,10] (fun v i wr=>∃(r:Nat) (ad:Option Addr) (cp:Nat),r<=n/\i=aM r/\v=.slice ad (cY n r).length cp/\dA 3 24 w.heap.size wr (.slice ad (cY n r).length cp) (cY n r)/\Below w w wr)
  (fun _ i _=>n-(intOf i).toNat)
 case atStart=>exact⟨0,_,_,Nat.zero_le _,rfl,rfl,o0,bF _ _⟩
 case round=>
  obtain⟨r,ad,cp,hr,rfl,rfl,ol,B⟩:=hrel;obtain⟨wo,rfl⟩:∃wo:World,wo=wr:=⟨_,rfl⟩;clear o0;by_cases k4:r<n
  ·have R:=qJ n r;have a6:=FU n hn r;have h5:(5:Nat)^r<=5^4:=Nat.pow_le_pow_right aY aK;have b9:cY n (r+1)=gV n (cY n r) (cY n r).length:=rfl;obtain⟨I,e6⟩:=aQ (cY n r);rw[<-e6]at ol R a6 b9 ⊢;have g2:I.length<=625:=aK;have d5:=aN b9;have d0:=aN R;have d6:=aN ol;clear e6 R a6 h5 b9 ol;go_wp2_with fail;go_loopw [4,14] (fun v i wm=>∃(k:Nat) (b0:Option Addr) (c5 b1:Nat),k<=I.length/\i=aM k/\v=aI b0 c5 b1/\dA 3 24 wo.heap.size wm (aI b0 c5 b1) (gV n I k) /\
     dA 3 24 w.heap.size wm (aI ad I.length cp) I/\Below w w wm/\wo.heap.size<=wm.heap.size)
    (fun _ i _=>I.length-(intOf i).toNat)
   case atStart=>exact⟨0,none,0,0,Nat.zero_le _,rfl,rfl,dA.nil _ _ _ _,d6.out,B,aO⟩
   case round=>
    obtain⟨k,b0,c5,b1,hk,rfl,rfl,M,oL,Bm,zm⟩:=hrel;obtain⟨wm,rfl⟩:∃wm:World,wm=wr:=⟨_,rfl⟩;have rL:=d6.out.lt;by_cases b5:k<I.length
    ·obtain⟨g,u,g0,b4,hu⟩:=oL.view prog 77 underlying77 jV k b5;have b8:=d0.out _ (List.getElem_mem b5);have e4:I.getD k []=I[k]:=by rw[List.getD_eq_getElem?_getD,List.getElem?_eq_getElem b5];rfl
     have Z:gV n I (k+1)=gV n I k++fP I[k] n:=by rw[gV,e4]
     have g4:=xB n I k;have h9:k*n<=625*5:=Nat.mul_le_mul aK hn;obtain⟨l,hl⟩:=aQ (I[k]);rw[<-hl]at hu b8 Z;obtain⟨N,hN⟩:=aQ (gV n I k);rw[<-hN]at Z g4 M;have k3:l.length<=5:=by have:=b8.1;omega
     obtain⟨au,nu,cu,rfl⟩:=hu.shape3;have f6:=aN Z;have a8:=aN M;have d8:=aN oL;have HU:=aN hu;clear hl hN b8 e4 Z M oL hu;go_wp2_with fail;go_loopw [4,19] (fun v i K=>∃(e:Nat) (z:Option Addr) (F D:Nat),e<=n/\i=aM e/\v=aI z F D/\dA 3 24 wo.heap.size K (aI z F D) (N++fP l e) /\
       dA 3 24 w.heap.size K (aI ad I.length cp) I/\aP 3 w K (aI au nu cu) l/\Below w w K/\wo.heap.size<=K.heap.size)
      (fun _ i _=>n-(intOf i).toNat)
     case atStart=>exact⟨0,_,_,_,Nat.zero_le _,rfl,rfl,by simpa[fP]using a8.out,d8.out,HU.out,Bm,zm⟩
     case round=>
      obtain⟨e,z,F,D,he,rfl,rfl,M,oL,oU,Bi,zi⟩:=hrel;obtain⟨K,rfl⟩:∃K:World,K=wr:=⟨_,rfl⟩;clear g0 b4;by_cases k2:e<n
      ·cases hh:fS l (e:Int) with
       |true=>
        have hx:fP l (e+1)=fP l e:=by rw[fP,hh];rfl
        have HX:=aN hx;have HH:=aN hh;clear hx hh;go_wp2_with (go_at_call 242;refine(nZ l _ _ _ oU.ints).mono ?_;rintro e' w' ⟨rfl,rfl⟩;rw[HH.out]);go_roundw
        case rel=>exact⟨e+1,z,F,D,by omega,by go_num,rfl,by rw[HX.out];exact M,oL,oU,Bi,zi⟩
        case measure=>simp[intOf];omega
       |false=>
        have hx:fP l (e+1)=fP l e++[l++[(e:Int)]]:=by rw[fP,hh];rfl
        have f9:=CP l e;have HX:=aN hx;have HH:=aN hh;have rN:=M.lt;have O:=aN M;have d7:=aN oL;have a9:=aN oU;have g3:(N++fP l e).length<=4000:=by rw[List.length_append];omega
        clear hx hh M oL oU f9;go_wp2_with (first
         |(go_at_call 242;refine(nZ l _ _ _ a9.out.ints).mono ?_;rintro e' w' ⟨rfl,rfl⟩;rw[HH.out])
         |(go_at_call 260;refine(kW _ l _ a9.out.ints aK).mono ?_;rintro e' w5 ⟨p5,i5,q5,rfl,o5,b3⟩;have z5:=b3.size)
         |(at_builtin;refine cZ rfl _ _ _ rfl 3 underlying24 aS K.heap.size (aI p5 i5 q5) l (e:Int) w5.heap.size rfl rfl (by simp) (o5.alloc _) ⟨by omega,by omega⟩ aK aV ?_;intro v' w6 S e5;obtain⟨p6,i6,q6,rfl⟩:=S.shape3;have b6:Below K K w6:=IP (Below.after (Below.refl _ _) (b3.after (bF w5 _) b3.size) aO) e5 aV (fun q hq=>(o5.lt q hq).1);have z6:=b6.size;obtain⟨l3,j4⟩:=(O.out.keep b6).row)
         |(at_builtin;refine sJ rfl _ _ _ rfl 3 24 rQ underlying77 jV wo.heap.size (aI z F D) (N++fP l e) (aI p6 i6 q6) (l++[(e:Int)]) w6.heap.size rfl rfl (by simp) ((O.out.keep b6).keep (bF w6 _)) ((S.mono aK).alloc _) aK aV ?_;intro v' w7 Y J;obtain⟨p7,i7,q7,rfl⟩:=Y.shape3))
        have b7:Below K K (w6.alloc (.cells #[aI p6 i6 q6] 24)):=b6.alloc b6.size _;obtain⟨l4,a7⟩:=(O.out.keep b7).row;have g8:=(d7.out.keep b7).grow a7 rQ J (fun q hq g5=>by have:=(rN q hq).1;have:=(rL q g5).2;omega);have g9:=(a9.out.keep b7).growL a7 rQ J;have l6:=Bi.size;have B7:=(Bi.after b7 Bi.size).grown J aV (fun q hq=>by have:=(rN q hq).1;have:=B.size;omega);have z7:=J.size;go_roundw
        case rel=>exact⟨e+1,p7,i7,q7,by omega,by go_num,rfl,by rw[HX.out,<-List.append_assoc];exact Y,g8,g9,B7,by simp at z7;omega⟩
        case measure=>simp[intOf];omega
      ·have f8:e=n:=aK;subst f8;go_wp2;go_roundw
       case rel=>exact⟨k+1,z,F,D,by omega,by go_num,rfl,by rw[f6.out];exact M,oL,Bi,zi⟩
       case measure=>simp[intOf];omega
    ·have g1:k=I.length:=aK;subst g1;have g7:=M.len;obtain⟨a3,c3,e3,_⟩:=g7;simp only[Value.slice.injEq]at e3;obtain⟨rfl,rfl,rfl⟩:=e3;have a8:=aN M;clear M oL;go_wp2;go_roundw
     case rel=>exact⟨r+1,_,_,by omega,by go_num,by rw[d5.out],by rw[d5.out];exact a8.out.mono B.size,Bm⟩
     case measure=>simp[intOf];omega
  ·have g6:r=n:=aK;subst g6;go_wp2;go_ret;exact⟨_,_,_,rfl,ol,B⟩
def yF(l:List Int)(os:List (List Int))(e:Nat):Nat->Int
 |0=>0
 |j+1=>yF l os e j+(rZ l (os.getD j [])).getD e 0
def mD(l:List Int)(os:List (List Int))(n j:Nat):List Int:=(List.range n).map fun e=>yF l os e j
theorem BM(l:List Int)(os:List (List Int))(n j:Nat):(mD l os n j).length=n:=by simp[mD]
theorem TZ(l:List Int)(os:List (List Int))(n j e:Nat)(h:e<(mD l os n j).length):(mD l os n j)[e]=yF l os e j:=by simp[mD]
theorem acQ(l:List Int)(os:List (List Int))(n:Nat):mD l os n 0=List.replicate n 0:=by
 apply List.ext_getElem
 ·simp[mD]
 ·intro i h1 h2;simp[mD,yF]
theorem aeL(A B:List Int)(e:Nat)(F:e<A.length)(hB:A.length=B.length):(A.take e++B.drop e).set e A[e]=A.take (e+1)++B.drop (e+1):=by
 apply List.ext_getElem
 ·simp;omega
 ·intro i h1 h2;simp only[List.length_set,List.length_append,List.length_take,List.length_drop]at h1 h2;rw[List.getElem_set];by_cases z:e=i
  ·subst z;rw[if_pos rfl,List.getElem_append_left aV];simp
  ·rw[if_neg z];by_cases D:i<e
   ·rw[List.getElem_append_left aV,List.getElem_append_left aV];simp
   ·rw[List.getElem_append_right aV,List.getElem_append_right aV];simp only[List.length_take,List.getElem_drop]
    congr 1;omega
theorem agP(A B:List Int)(e:Nat)(z:e<=A.length)(hB:A.length=B.length):(A.take e++B.drop e).length=A.length:=by simp;omega
theorem agO(A B:List Int)(e:Nat)(z:e<A.length)(hB:A.length=B.length)(h:e<(A.take e++B.drop e).length):(A.take e++B.drop e)[e]=B[e]:=by
 rw[List.getElem_append_right aV];simp only[List.length_take,List.getElem_drop]
 congr 1;omega
def nY(l:List Int)(n e:Nat):Nat->Int
 |0=>0
 |s+1=>if dO (s:Int) e=1 then nY l n e s else nY l n e s+(gP (bR s):Int)*(gP (n-1-bR s):Int)*(l.getD (bU s e) 0-l.getD s 0)
def nO(n:Nat)(l:List Int):List Int:=(List.range n).map fun e=>nY l n e (2^n)
def jD(n:Int)(l:List Int):List Int:=if bM n l then nO n.toNat l else []
def FQ(l:List Int):List (Int×Nat×Nat)->Int
 |[]=>0
 |t::ts=>FQ l ts+t.1*(l.getD t.2.1 0-l.getD t.2.2 0)
def one(a i:Nat):Int:=if a=i then 1 else 0
def CK(i:Nat):List (Int×Nat×Nat)->Int
 |[]=>0
 |t::ts=>CK i ts+t.1*(one t.2.1 i-one t.2.2 i)
def rV(f:Nat->Int):Nat->Int
 |0=>0
 |n+1=>rV f n+f n
theorem Z3{f g:Nat->Int}{n:Nat}(h:∀i,i<n->f i=g i):rV f n=rV g n:=by
 induction n with
 |zero=>rfl
 |succ n ih=>rw[rV,rV,ih (fun i z=>h i aK),h n aK]
theorem UC(f g:Nat->Int)(n:Nat):rV (fun i=>f i+g i) n=rV f n+rV g n:=by
 induction n with
 |zero=>rfl
 |succ n ih=>rw[rV,rV,rV,ih];omega
theorem acZ(n:Nat):rV (fun _=>0) n=0:=by
 induction n with
 |zero=>rfl
 |succ n ih=>rw[rV,ih];rfl
theorem UD(l:List Int)(a n:Nat)(c:Int):rV (fun i=>c*one a i*l.getD i 0) n=if a<n then c*l.getD a 0 else 0:=by
 induction n with
 |zero=>simp[rV]
 |succ n ih=>
  rw[rV,ih];unfold one;by_cases h1:a<n
  ·rw[if_pos h1,if_neg (show ¬a=n by omega),if_pos (show a<n+1 by omega)];simp
  ·by_cases h2:a=n
   ·subst h2;simp
   ·rw[if_neg h1,if_neg h2,if_neg (show ¬a<n+1 by omega)];simp
theorem S5(l:List Int)(n:Nat)(ts:List (Int×Nat×Nat))(h:∀t∈ts,t.2.1<n/\t.2.2<n):FQ l ts=rV (fun i=>CK i ts*l.getD i 0) n:=by
 induction ts with
 |nil=>simp only[FQ,CK,Int.zero_mul,acZ]
 |cons t ts ih=>
  have ht:=h t (by simp);rw[FQ,ih (fun x z=>h x (by simp[z]))];have e:(fun i=>CK i (t::ts)*l.getD i 0)=fun i=>CK i ts*l.getD i 0+(t.1*one t.2.1 i*l.getD i 0+(-t.1)*one t.2.2 i*l.getD i 0):=by
   funext i
   rw[CK,Int.add_mul,Int.mul_sub,Int.sub_mul,Int.neg_mul,Int.neg_mul];omega
  rw[e,UC,UC,UD,UD,if_pos ht.1,if_pos ht.2,Int.mul_sub,Int.neg_mul];omega
def xF(o:List Int):Nat->List (Nat×Nat)
 |0=>List.replicate o.length (0,0)
 |k+1=>(xF o k).set (o.getD k 0).toNat (bU (qW o k) (o.getD k 0).toNat,qW o k)
theorem U1(l o:List Int)(k:Nat):jG l o k=(xF o k).map fun p=>l.getD p.1 0-l.getD p.2 0:=by
 induction k with
 |zero=>simp[jG,xF]
 |succ k ih=>rw[jG,xF,List.map_set,ih];rfl
def tI(os:List (List Int))(e:Nat):Nat->List (Int×Nat×Nat)
 |0=>[]
 |j+1=>(1,(xF (os.getD j []) (os.getD j []).length).getD e (0,0))::tI os e j
def tS(n e:Nat):Nat->List (Int×Nat×Nat)
 |0=>[]
 |s+1=>if dO (s:Int) e=1 then tS n e s else ((gP (bR s):Int)*(gP (n-1-bR s):Int),bU s e,s)::tS n e s
theorem ahC(l:List Int)(os:List (List Int))(e j:Nat):yF l os e j=FQ l (tI os e j):=by
 induction j with
 |zero=>rfl
 |succ j ih=>
  rw[yF,tI,FQ,ih];unfold rZ;rw[U1]
  generalize xF (os.getD j []) (os.getD j []).length=P
  have:(P.map fun p=>l.getD p.1 0-l.getD p.2 0).getD e 0=l.getD (P.getD e (0,0)).1 0-l.getD (P.getD e (0,0)).2 0:=by
   rw[List.getD_eq_getElem?_getD,List.getElem?_map,List.getD_eq_getElem?_getD]
   cases z:P[e]? with
   |none=>simp[z]
   |some p=>simp[z]
  rw[this,Int.one_mul]
theorem ae7(l:List Int)(n e s:Nat):nY l n e s=FQ l (tS n e s):=by
 induction s with
 |zero=>rfl
 |succ s ih=>
  rw[nY,tS];by_cases h:dO (s:Int) e=1
  ·rw[if_pos h,if_pos h,ih]
  ·rw[if_neg h,if_neg h,FQ,ih]
def IE(ts z:List (Int×Nat×Nat))(n:Nat):Bool:=
 ts.all (fun t=>decide (t.2.1<n)&&decide (t.2.2<n))&&z.all (fun t=>decide (t.2.1<n)&&decide (t.2.2<n))&&(List.range n).all fun i=>CK i ts==CK i z
theorem aeG(l:List Int)(ts z:List (Int×Nat×Nat))(n:Nat)(h:IE ts z n=true):FQ l ts=FQ l z:=by
 unfold IE at h;simp only[Bool.and_eq_true,List.all_eq_true,decide_eq_true_eq,List.mem_range,beq_iff_eq]at h;rw[S5 l n ts h.1.1,S5 l n z h.1.2];exact Z3 fun i D=>by rw[h.2 i D]
theorem ZZ:∀n,n<=5->∀e,e<n->IE (tI (cY n n) e (cY n n).length) (tS n e (2^n)) (2^n)=true:=by decide +kernel
theorem acU(n:Nat)(D:n<=5)(l:List Int):mD l (cY n n) n (cY n n).length=nO n l:=by
 unfold mD nO
 apply List.map_congr_left
 intro e z;rw[ahC,ae7];exact aeG l _ _ _ (ZZ n D e (by simpa using z))
end
end Go.Proofs.YtcpoomdoodlkjaaGreatDoor
