/- Lemmas for CardReports. No condition. -/
import Derived.Test.YtcpoomdoodlkjaaGreatDoorQ10
set_option maxRecDepth 100000
set_option maxHeartbeats 64000000
namespace Go.Proofs.YtcpoomdoodlkjaaGreatDoor
section
open Go.RowKit Go.G5 Go.Proofs.Tryz
theorem adD(z:BinOp)(a b:Int):dA (bits z .i64 a b):=by
 unfold bits;rw[IntKind.wrap_i64];unfold dA;omega
theorem VM(w:World)(g:Nat)(D:Dr w g):
  Calls prog 33 #[.pointer (some ⟨g,0,none⟩)] w fun e w'=>∃(n:Int) (ad:Option Addr) (i I:Nat) (l:List Int),e=.returned (.agg #[n,ajH ad i I])/\dA n/\aM 3 w w' (ajH ad i I) l/\l.length<=20/\Dr w' g/\w.grownBy w' (some g):=by
 have zg:=D.lt;go_enter func33,ntmps33;go_wp2_with fail;refine bB ?_;intro V hV;have B:Below w w V:=fR hV;have z:aR V w 31 #['0',()]:=eG hV;have D0:=D.keep B;have g0:w.grownBy V (some g):=fK _ B;have y0:=z.lt;clear hV B;refine(JQ V g D0).mono ?_;rintro e w1 ⟨n,ad,i,I,l,rfl,hn,o1,hl,D1,g1⟩;have z:=z.grow g1 aS;have yV:=g1.size;have g1:=eA g0 g1;have x1:=z.lt;have y1:=g1.size;go_wp2_with fail;refine bB ?_;intro V1 b1;have O:aR V1 w1 31 #[n,ajH ad i I]:=by
  rw[b1]
  first
   |exact aR.new _ _ _
   |(have:=((aR.new w1 31 #['0',()]).set 0 (ajJ n)).set 1 (ajH ad i I);simpa using this)
 have g2:w1.grownBy V1 (some w1.heap.size):=by
  rw[b1]
  first
   |exact fK _ (aY _ _)
   |exact dT (dT (fK _ (aY _ _)) 0 _) 1 _
 have z:=z.grow g2 aS;have D2:=D1.grow g2 kE;have l0:=o1.lt;have o2:=o1.grow g2 (fun q hq e=>by have:=Option.some.inj hq;have:=(o1.lt _ e).2;omega);have g2:=vW g1 g2 (fun b e=>.inr (by have:=Option.some.inj e;omega));clear b1 o1 D1 g1 g0 D0;refine(cP n l _ V1 o2.ints).mono ?_;rintro e w3 ⟨rfl,b3⟩;have z:=z.keep b3;have O:=O.keep b3;have o3:=o2.keep b3;have D3:=D2.keep b3;have g3:=eA g2 (fK _ b3);clear D2 o2 g2 b3
 cases hf:bF n l with
 |false=>clear hf;have G3:=O.cell;have G2:=z.cell;have F2:=z.frozen;go_wp2;refine aZ ?_;intro Wf F;obtain⟨KF,M,Z,S⟩:=uZ zg z D3 o3 aI g3 F;have GF:=KF.cell;clear F;exact bodyPost_ret (v:=.agg #[n,ajH ad i I]) (by simp[results,results33,go_sem,GF]) rfl ⟨n,ad,i,I,l,rfl,hn,Z,by omega,M,S⟩
 |true=>
  obtain⟨h0,h6,_,Y⟩:=dQ hf;clear hf;go_wp2_with fail;refine(uQ w3 g D3 4).mono ?_;rintro e w4 ⟨bb,rfl,D4,R⟩;have z:=z.grow R aS;have O:=O.grow R aS;have o4:=o3.grow R (fun q hq e=>by have:=Option.some.inj hq;have:=(o3.lt _ e).1;omega);have R:=eA g3 R;clear D3 o3 g3
  cases bb with
  |true=>have G3:=O.cell;have G2:=z.cell;have F2:=z.frozen;go_wp2;refine aZ ?_;intro Wf F;obtain⟨KF,M,Z,S⟩:=uZ zg z D4 o4 aI R F;have GF:=KF.cell;clear F;exact bodyPost_ret (v:=.agg #[n,ajH ad i I]) (by simp[results,results33,go_sem,GF]) rfl ⟨n,ad,i,I,l,rfl,hn,Z,by omega,M,S⟩
  |false=>
   obtain⟨N,rfl⟩:=Int.eq_ofNat_of_zero_le h0;have hN:N<=6:=aI;go_wp2_with fail;go_loopw [4] (fun kk wr=>∃(k:Nat) (ad:Option Addr) (i I:Nat) (L:List Int),kk=ajJ k/\k<=N/\L.length<=8+k/\L.Pairwise (· < ·)/\aM 3 V wr (ajH ad i I) L/\Dr wr g/\w.grownBy wr (some g)/\aR wr w 31 #['0',()]/\aR wr w1 31 #[N,ajH ad i I]) (fun kk _=>N-(intOf kk).toNat)
   case atStart=>exact⟨0,ad,i,I,l,rfl,Nat.zero_le _,by omega,Y,o4,D4,R,z,O⟩
   case round=>
    obtain⟨k,a5,i5,c5,L,rfl,hk,hL,c8,o5,D5,g5,J,a1⟩:=hrel;clear o4 D4 R z O;have e6:=aJ c8;clear c8 Y;have G3:=a1.cell;have x5:=a1.lt;by_cases hlt:k<N
    ·have c9:(k:Int)<(N:Int):=aI;have pk:=cK k 6 aI;have wk:IntKind.i64.wrap ((2:Int)^k)=(2:Int)^k:=by rw[IntKind.wrap_i64];omega
     have Dd:Dr wr.drew g:=D5.keep (Below.refl _ _).drew;have e9:aR wr.drew w1.heap.size 31 #[N,ajH a5 i5 c5]:=a1;have e8:aR wr.drew w.heap.size 31 #['0',()]:=J;have od:aM 3 V wr.drew (ajH a5 i5 c5) L:=o5.keep (Below.refl _ _).drew;have gd:w.grownBy wr.drew (some g):=eA g5 (fK _ (Below.refl _ _).drew);have HB:=aJ (cR wr.drew g Dd (N:Int));have HP:=aJ (fun(W:World) (h:aM 3 V W (ajH a5 i5 c5) L) (hs:V.heap.size<=W.heap.size) (x:Int) (hx:dA x)=>A6 V.heap.size L _ x W h hs e6.out aI hx);go_wp2_with fail;go_region_law
      (first
       |(go_simp;go_at_call 148;refine HB.out.mono ?_;rintro e w6 ⟨x,rfl,_,hx,_,D6,g6⟩;have hx:=hx aI;have a6:=e9.grow g6 aS;have j9:=a6.cell;have o6:=od.grow g6 (fun q hq e=>by have:=Option.some.inj hq;have:=(od.lt _ e).1;omega);have f5:=eA gd g6;have e7:=e8.grow g6 aS;have l2:=a6.lt;obtain⟨X,rfl⟩:=Int.eq_ofNat_of_zero_le hx.1;have px:=cK X 6 aI;have wx:IntKind.i64.wrap ((2:Int)^X)=(2:Int)^X:=by { rw[IntKind.wrap_i64];omega })
       |(go_simp;go_at_call 157;refine(HP.out _ o6 aI _ (adD _ _ _)).mono ?_;rintro e w7 ⟨a7,i7,q7,rfl,o7,b7,_⟩;have K:=a6.keep b7;have j8:=K.frozen;have k0:=K.cell))
     all_goals
      obtain⟨y,hy⟩:=aN (bits .or .i64 ((2:Int)^k) (2^X));rw[<-hy]at o7;have gs:=fE w7 ⟨w1.heap.size,1,none⟩ (ajH a7 i7 q7);have d0:=OL o7 K;have M:=(D6.keep b7).setCell (b:=w1.heap.size) (i:=1) (ajH a7 i7 q7) aI;have Z:=o7.grow gs (fun q hq e=>by have:=Option.some.inj hq;simp at this;exact d0 (by rw[e,this]));have S:=vW (eA f5 (fK _ b7)) gs (fun b e=>.inr (by have:=Option.some.inj e;simp at this;omega));have f0:=(e7.keep b7).far (p:=⟨w1.heap.size,1,none⟩) aS (ajH a7 i7 q7);have f2:aR (w7.setCell ⟨w1.heap.size,1,none⟩ (ajH a7 i7 q7)) w1.heap.size 31 #[N,ajH a7 i7 q7]:=by have:=K.set 1 (ajH a7 i7 q7);simpa using this
      have k6:=TP L y;have f7:=xY L y;go_wp2;go_roundw
      case rel=>exact⟨k+1,a7,i7,q7,vH L y,by go_num,by omega,by omega,f7,Z,M,S,f0,f2⟩
      case measure=>simp[intOf];omega
    ·have c9:¬(k:Int)<(N:Int):=aI;have G2:=J.cell;have F2:=J.frozen;go_wp2;refine aZ ?_;intro Wf F;obtain⟨KF,M,Z,S⟩:=uZ zg J D5 o5 aI g5 F;have GF:=KF.cell;clear F;exact bodyPost_ret (v:=.agg #[N,ajH a5 i5 c5]) (by simp[results,results33,go_sem,GF]) rfl (by first|exact⟨N,a5,i5,c5,L,rfl,hn,Z,by omega,M,S⟩|exact⟨N,a5,i5,c5,rfl,hn,L,Z,by omega,M,S⟩)
theorem ahI(w:World)(g:Nat)(D:Dr w g):Calls prog 26 #[.pointer (some ⟨g,0,none⟩)] w fun e w'=>∃(n:Int) (ad:Option Addr) (i z:Nat) (l:List Int),e=.returned (.agg #[n,ajH ad i z])/\dA n/\aM 3 w w' (ajH ad i z) l/\l.length<=64/\Dr w' g/\w.grownBy w' (some g):=
 (yX w g D).mono fun _ _ ⟨n,ad,i,z,l,a,b,c,d,e,f⟩=>⟨n,ad,i,z,l,a,b,c,by omega,e,f⟩
theorem UJ(w:World)(g:Nat)(D:Dr w g):Calls prog 32 #[.pointer (some ⟨g,0,none⟩)] w fun e w'=>∃(n:Int) (ad:Option Addr) (i z:Nat) (l:List Int),e=.returned (.agg #[n,ajH ad i z])/\dA n/\aM 3 w w' (ajH ad i z) l/\l.length<=64/\Dr w' g/\w.grownBy w' (some g):=
 (JQ w g D).mono fun _ _ ⟨n,ad,i,z,l,a,b,c,d,e,f⟩=>⟨n,ad,i,z,l,a,b,c,by omega,e,f⟩
theorem afF(w:World)(g:Nat)(D:Dr w g):Calls prog 33 #[.pointer (some ⟨g,0,none⟩)] w fun e w'=>∃(n:Int) (ad:Option Addr) (i z:Nat) (l:List Int),e=.returned (.agg #[n,ajH ad i z])/\dA n/\aM 3 w w' (ajH ad i z) l/\l.length<=64/\Dr w' g/\w.grownBy w' (some g):=
 (VM w g D).mono fun _ _ ⟨n,ad,i,z,l,a,b,c,d,e,f⟩=>⟨n,ad,i,z,l,a,b,c,by omega,e,f⟩
theorem LZ(w:World)(v:Value)(l:List Nat)(hv:mG w v l):
  Calls prog 5 #[v] w fun e w'=>∃(n:Int) (ad:Option Addr) (i D:Nat) (l:List Int),e=.returned (.agg #[n,ajH ad i D])/\dA n/\aM 3 w w' (ajH ad i D) l/\l.length<=64/\Below w w w':=by
 go_enter func5,ntmps5;go_wp2_with fail;refine bB ?_;intro V J;have B:Below w w V:=fR J;have z:aR V w 26 #['0',()]:=eG J;clear J;have hw:=z.lt;refine(rH V _ _ (hv.below B aK)).mono ?_;rintro e w1 ⟨rfl,M,I⟩;have z:=z.keep I;have B:=B.after I B.size;have x1:=z.lt;have y1:=M.lt;have yb:=I.size;go_wp2_with fail;refine(ahI w1 V.heap.size M).mono ?_;rintro e w2 ⟨n,ad,i,D,L,rfl,hn,R,hL,D2,N⟩;have z:=z.grow N aS;have K:=B.grown N B.size kE;have ro:=R.lt;have F2:=z.frozen;have G2:=z.cell;go_wp2;refine aZ ?_;intro Wf F;have Z:aR Wf w 26 #[n,ajH ad i D]:=by rw[F];have:=(z.set 0 (ajJ n)).set 1 (ajH ad i D);simpa using this
 have O:w2.grownBy Wf (some w.heap.size):=by rw[F];exact dT (dT (World.grownBy.refl _ _) 0 _) 1 _
 have Y:=Z.cell;have oF:=(R.grow O (fun q hq e=>by have:=Option.some.inj hq;have:=(ro _ e).1;omega)).mono (B':=w.heap.size) aI;have S:=K.grown O K.size kE;clear F;exact bodyPost_ret (v:=.agg #[n,ajH ad i D]) (by simp[results,results5,go_sem,Y]) rfl ⟨n,ad,i,D,L,rfl,hn,oF,hL,S⟩
theorem LY(w:World)(v:Value)(l:List Nat)(hv:mG w v l):
  Calls prog 9 #[v] w fun e w'=>∃(n:Int) (ad:Option Addr) (i D:Nat) (l:List Int),e=.returned (.agg #[n,ajH ad i D])/\dA n/\aM 3 w w' (ajH ad i D) l/\l.length<=64/\Below w w w':=by
 go_enter func9,ntmps9;go_wp2_with fail;refine bB ?_;intro V J;have B:Below w w V:=fR J;have z:aR V w 31 #['0',()]:=eG J;clear J;have hw:=z.lt;refine(rH V _ _ (hv.below B aK)).mono ?_;rintro e w1 ⟨rfl,M,I⟩;have z:=z.keep I;have B:=B.after I B.size;have x1:=z.lt;have y1:=M.lt;have yb:=I.size;go_wp2_with fail;refine(UJ w1 V.heap.size M).mono ?_;rintro e w2 ⟨n,ad,i,D,L,rfl,hn,R,hL,D2,N⟩;have z:=z.grow N aS;have K:=B.grown N B.size kE;have ro:=R.lt;have F2:=z.frozen;have G2:=z.cell;go_wp2;refine aZ ?_;intro Wf F;have Z:aR Wf w 31 #[n,ajH ad i D]:=by rw[F];have:=(z.set 0 (ajJ n)).set 1 (ajH ad i D);simpa using this
 have O:w2.grownBy Wf (some w.heap.size):=by rw[F];exact dT (dT (World.grownBy.refl _ _) 0 _) 1 _
 have Y:=Z.cell;have oF:=(R.grow O (fun q hq e=>by have:=Option.some.inj hq;have:=(ro _ e).1;omega)).mono (B':=w.heap.size) aI;have S:=K.grown O K.size kE;clear F;exact bodyPost_ret (v:=.agg #[n,ajH ad i D]) (by simp[results,results9,go_sem,Y]) rfl ⟨n,ad,i,D,L,rfl,hn,oF,hL,S⟩
theorem MA(w:World)(v:Value)(l:List Nat)(hv:mG w v l):
  Calls prog 11 #[v] w fun e w'=>∃(n:Int) (ad:Option Addr) (i D:Nat) (l:List Int),e=.returned (.agg #[n,ajH ad i D])/\dA n/\aM 3 w w' (ajH ad i D) l/\l.length<=64/\Below w w w':=by
 go_enter func11,ntmps11;go_wp2_with fail;refine bB ?_;intro V J;have B:Below w w V:=fR J;have z:aR V w 31 #['0',()]:=eG J;clear J;have hw:=z.lt;refine(rH V _ _ (hv.below B aK)).mono ?_;rintro e w1 ⟨rfl,M,I⟩;have z:=z.keep I;have B:=B.after I B.size;have x1:=z.lt;have y1:=M.lt;have yb:=I.size;go_wp2_with fail;refine(UJ w1 V.heap.size M).mono ?_;rintro e w2 ⟨n,ad,i,D,L,rfl,hn,R,hL,D2,N⟩;have z:=z.grow N aS;have K:=B.grown N B.size kE;have ro:=R.lt;have F2:=z.frozen;have G2:=z.cell;go_wp2;refine aZ ?_;intro Wf F;have Z:aR Wf w 31 #[n,ajH ad i D]:=by rw[F];have:=(z.set 0 (ajJ n)).set 1 (ajH ad i D);simpa using this
 have O:w2.grownBy Wf (some w.heap.size):=by rw[F];exact dT (dT (World.grownBy.refl _ _) 0 _) 1 _
 have Y:=Z.cell;have oF:=(R.grow O (fun q hq e=>by have:=Option.some.inj hq;have:=(ro _ e).1;omega)).mono (B':=w.heap.size) aI;have S:=K.grown O K.size kE;clear F;exact bodyPost_ret (v:=.agg #[n,ajH ad i D]) (by simp[results,results11,go_sem,Y]) rfl ⟨n,ad,i,D,L,rfl,hn,oF,hL,S⟩
theorem I1(w:World)(v:Value)(l:List Nat)(hv:mG w v l):
  Calls prog 10 #[v] w fun e w'=>∃(n:Int) (ad:Option Addr) (i D:Nat) (l:List Int),e=.returned (.agg #[n,ajH ad i D])/\dA n/\aM 3 w w' (ajH ad i D) l/\l.length<=64/\Below w w w':=by
 go_enter func10,ntmps10;go_wp2_with fail;refine bB ?_;intro V J;have B:Below w w V:=fR J;have z:aR V w 31 #['0',()]:=eG J;clear J;have hw:=z.lt;refine(rH V _ _ (hv.below B aK)).mono ?_;rintro e w1 ⟨rfl,M,I⟩;have z:=z.keep I;have B:=B.after I B.size;have x1:=z.lt;have y1:=M.lt;have yb:=I.size;go_wp2_with fail;refine(afF w1 V.heap.size M).mono ?_;rintro e w2 ⟨n,ad,i,D,L,rfl,hn,R,hL,D2,N⟩;have z:=z.grow N aS;have K:=B.grown N B.size kE;have ro:=R.lt;have F2:=z.frozen;have G2:=z.cell;go_wp2;refine aZ ?_;intro Wf F;have Z:aR Wf w 31 #[n,ajH ad i D]:=by rw[F];have:=(z.set 0 (ajJ n)).set 1 (ajH ad i D);simpa using this
 have O:w2.grownBy Wf (some w.heap.size):=by rw[F];exact dT (dT (World.grownBy.refl _ _) 0 _) 1 _
 have Y:=Z.cell;have oF:=(R.grow O (fun q hq e=>by have:=Option.some.inj hq;have:=(ro _ e).1;omega)).mono (B':=w.heap.size) aI;have S:=K.grown O K.size kE;clear F;exact bodyPost_ret (v:=.agg #[n,ajH ad i D]) (by simp[results,results10,go_sem,Y]) rfl ⟨n,ad,i,D,L,rfl,hn,oF,hL,S⟩
end
section
open Go.RowKit Go.G5 Go.Proofs.Tryz
end
section
open Go.RowKit Go.G5 Go.Proofs.Tryz
@[reducible] def clV (k n1 : Int) (v1 : Value) (n2 : Int) (v2 : Value) (n3 : Int) (v3 : Value) (q st : Int) (v4 : Value) : Value :=
 .agg #[k,n1,v1,n2,v2,n3,v3,q,st,v4]
@[reducible] def clC (k n1 : Int) (v1 : Value) (n2 : Int) (v2 : Value) (n3 : Int) (v3 : Value) (q st : Int) (v4 : Value) : Array Value :=
 #[k,n1,v1,n2,v2,n3,v3,q,st,v4]
def AZ(l:List Int)(a:Int)(t:jR):Int×Bool:=(max a (kJ l t.1 t.2.1 t.2.2),true)
def R9(n:Nat)(l:List Int):Int:=(gI (AZ l) (jH n (2^n)) 0).1
def lX(n:Int)(l:List Int):Int:=if bH n l then R9 n.toNat l else 0
def gA(X:List Int)(a:Int):Int:=X.foldl max a
theorem BA:∀(X:List Int) (a:Int),a<=gA X a/\∀x∈X,x<=gA X a
 |[],a=>⟨Int.le_refl _,by simp⟩
 |y::X,a=>by
  have⟨h1,h2⟩:=BA X (max a y);refine⟨by unfold gA at h1 ⊢;rw[List.foldl_cons];omega,fun x z=>?_⟩;rcases List.mem_cons.1 z with rfl|z
  ·unfold gA at h1 ⊢;rw[List.foldl_cons];omega
  ·exact h2 x z
theorem BD:∀(X:List Int) (a:Int),gA X a=a∨gA X a∈X
 |[],a=>.inl rfl
 |y::X,a=>by
  have h:=BD X (max a y);have e:gA (y::X) a=gA X (max a y):=rfl;rw[e];rcases h with h|h
  ·rw[h];rcases Int.le_total a y with h1|h1
   ·right;rw[Int.max_eq_right h1];simp
   ·left;exact Int.max_eq_left h1
  ·exact .inr (List.mem_cons_of_mem _ h)
theorem aeK(X Y:List Int)(a:Int)(h1:∀x∈X,x∈Y)(h2:∀y∈Y,y∈X):gA X a=gA Y a:=by
 have z:=BA X a;have D:=BA Y a;have F:=BD X a;have I:=BD Y a;have e1:gA X a<=gA Y a:=by
  rcases F with h|h
  ·rw[h];exact D.1
  ·exact D.2 _ (h1 _ h)
 have e2:gA Y a<=gA X a:=by
  rcases I with h|h
  ·rw[h];exact z.1
  ·exact z.2 _ (h2 _ h)
 omega
theorem ZJ(X:List Int)(a y:Int):gA (X++[y]) a=max (gA X a) y:=by simp[gA]
def wD(l:List Int)(t:jR):Int:=kJ l t.1 t.2.1 t.2.2
theorem MN(l:List Int):∀(T:List jR) (a:Int),gI (AZ l) T a=(gA (T.map (wD l)) a,true)
 |[],_=>rfl
 |t::T,a=>by
  rw[gI];show(if true=true then _ else _)=_;rw[if_pos rfl,MN l T]
  rfl
def CA(s i:Nat):Nat->List jR
 |0=>[]
 |k+1=>CA s i k++(if (!cZ s i&&!cZ s k) then [(s,i,k)] else [])
def uU(s:Nat):Nat->List jR
 |0=>[]
 |i+1=>uU s i++CA s i i
def sP(n:Nat):Nat->List jR
 |0=>[]
 |s+1=>sP n s++uU s n
theorem ahE(s i k:Nat)(t:jR):t∈CA s i k↔t.1=s/\t.2.1=i/\t.2.2<k/\cZ s i=false/\cZ s t.2.2=false:=by
 induction k with
 |zero=>simp[CA]
 |succ k ih=>
  rw[CA,List.mem_append,ih];obtain⟨a,b,c⟩:=t;constructor
  ·rintro(h|h)
   ·exact⟨h.1,h.2.1,by have:=h.2.2.1;omega,h.2.2.2⟩
   ·split at h
    ·rename_i hc;rw[List.mem_singleton]at h;simp only[Prod.mk.injEq]at h;obtain⟨rfl,rfl,rfl⟩:=h;simp only[Bool.and_eq_true,Bool.not_eq_true']at hc;exact⟨rfl,rfl,by simp,hc.1,hc.2⟩
    ·cases h
  ·rintro⟨h1,h2,h3,h4,z⟩;simp only at h1 h2 h3 z;by_cases hk:c=k
   ·right;subst hk h1 h2;rw[if_pos (by rw[h4,z];rfl)];simp
   ·left;exact⟨h1,h2,by simp only;omega,h4,z⟩
theorem afC(s i:Nat)(t:jR):t∈uU s i↔t.1=s/\t.2.1<i/\t.2.2<t.2.1/\cZ s t.2.1=false/\cZ s t.2.2=false:=by
 induction i with
 |zero=>simp[uU]
 |succ i ih=>
  rw[uU,List.mem_append,ih,ahE];constructor
  ·rintro(h|h)
   ·exact⟨h.1,by omega,h.2.2⟩
   ·have e:=h.2.1;exact⟨h.1,by omega,by omega,by rw[e];exact h.2.2.2.1,h.2.2.2.2⟩
  ·rintro⟨h1,h2,h3,h4,z⟩;by_cases hk:t.2.1=i
   ·right;exact⟨h1,hk,by omega,by rw[<-hk];exact h4,z⟩
   ·left;exact⟨h1,by omega,h3,h4,z⟩
theorem UF(n s:Nat)(t:jR):t∈sP n s↔t.1<s/\t.2.1<n/\t.2.2<t.2.1/\cZ t.1 t.2.1=false/\cZ t.1 t.2.2=false:=by
 induction s with
 |zero=>simp[sP]
 |succ s ih=>
  rw[sP,List.mem_append,ih,afC];constructor
  ·rintro(h|h)
   ·exact⟨by omega,h.2⟩
   ·have e:=h.1;rw[e];exact⟨by omega,h.2⟩
  ·rintro⟨h1,h2⟩;by_cases hk:t.1=s
   ·right;rw[hk]at h2;exact⟨hk,h2⟩
   ·left;exact⟨by omega,h2⟩
theorem ahC(s i k:Nat)(t:jR):t∈mF s i k↔t.1=s/\t.2.1=i/\i<t.2.2/\t.2.2<k/\cZ s i=false/\cZ s t.2.2=false:=by
 induction k with
 |zero=>simp[mF]
 |succ k ih=>
  rw[mF,List.mem_append,ih];obtain⟨a,b,c⟩:=t;constructor
  ·rintro(h|h)
   ·exact⟨h.1,h.2.1,h.2.2.1,by have:=h.2.2.2.1;omega,h.2.2.2.2⟩
   ·split at h
    ·rename_i hc;rw[List.mem_singleton]at h;simp only[Prod.mk.injEq]at h;obtain⟨rfl,rfl,rfl⟩:=h;simp only[Bool.and_eq_true,Bool.not_eq_true',decide_eq_true_eq]at hc;exact⟨rfl,rfl,hc.1,by simp,hc.2.1,hc.2.2⟩
    ·cases h
  ·rintro⟨h1,h2,h3,h4,D,z⟩;simp only at h1 h2 h3 h4 z;by_cases hk:c=k
   ·right;subst hk h1 h2;rw[if_pos (by rw[D,z,decide_eq_true h3];rfl)];simp
   ·left;exact⟨h1,h2,h3,by simp only;omega,D,z⟩
theorem ae8(n s i:Nat)(t:jR):t∈kW n s i↔t.1=s/\t.2.1<i/\t.2.1<t.2.2/\t.2.2<n/\cZ s t.2.1=false/\cZ s t.2.2=false:=by
 induction i with
 |zero=>simp[kW]
 |succ i ih=>
  rw[kW,List.mem_append,ih,ahC];constructor
  ·rintro(h|h)
   ·exact⟨h.1,by omega,h.2.2⟩
   ·have e:=h.2.1;exact⟨h.1,by omega,by omega,h.2.2.2.1,by rw[e];exact h.2.2.2.2.1,h.2.2.2.2.2⟩
  ·rintro⟨h1,h2,h3,h4,z,D⟩;by_cases hk:t.2.1=i
   ·right;exact⟨h1,hk,by omega,h4,by rw[<-hk];exact z,D⟩
   ·left;exact⟨h1,by omega,h3,h4,z,D⟩
theorem UD(n s:Nat)(t:jR):t∈jH n s↔t.1<s/\t.2.1<t.2.2/\t.2.2<n/\cZ t.1 t.2.1=false/\cZ t.1 t.2.2=false:=by
 induction s with
 |zero=>simp[jH]
 |succ s ih=>
  rw[jH,List.mem_append,ih,ae8];constructor
  ·rintro(h|h)
   ·exact⟨by omega,h.2⟩
   ·have e:=h.1;rw[e];exact⟨by omega,h.2.2⟩
  ·rintro⟨h1,h2,h3,h4,z⟩;by_cases hk:t.1=s
   ·right;rw[hk]at h4 z;exact⟨hk,by omega,h2,h3,h4,z⟩
   ·left;exact⟨by omega,h2,h3,h4,z⟩
theorem RI(l:List Int)(s i k:Nat):kJ l s i k=kJ l s k i:=by
 unfold kJ;rw[Nat.or_comm (bO s i) (bO s k)];omega
theorem abB(n:Nat)(l:List Int)(N:Nat):gA ((sP n N).map (wD l)) 0=gA ((jH n N).map (wD l)) 0:=by
 refine aeK _ _ _ (fun x z=>?_) (fun x z=>?_)
 ·obtain⟨⟨s,i,k⟩,h1,rfl⟩:=List.mem_map.1 z;have h2:=(UF _ _ _).1 h1;simp only at h2;exact List.mem_map.2 ⟨(s,k,i),(UD _ _ _).2 (by simp only;exact⟨h2.1,h2.2.2.1,h2.2.1,h2.2.2.2.2,h2.2.2.2.1⟩),RI l s k i⟩
 ·obtain⟨⟨s,i,k⟩,h1,rfl⟩:=List.mem_map.1 z;have h2:=(UD _ _ _).1 h1;simp only at h2;exact List.mem_map.2 ⟨(s,k,i),(UF _ _ _).2 (by simp only;exact⟨h2.1,h2.2.2.1,h2.2.1,h2.2.2.2.2,h2.2.2.2.1⟩),RI l s k i⟩
theorem abA(n:Nat)(l:List Int):R9 n l=gA ((sP n (2^n)).map (wD l)) 0:=by
 unfold R9;rw[MN,abB]
theorem aeJ(X:List Int)(h:∀x∈X,x<=4000):0<=gA X 0/\gA X 0<=4000:=by
 have h1:=(BA X 0).1;rcases BD X 0 with h2|h2
 ·omega
 ·exact⟨h1,h _ h2⟩
theorem MM(n:Int)(l:List Int):0<=lX n l/\lX n l<=4000:=by
 unfold lX
 split
 ·rename_i I;obtain⟨K,M,z,F⟩:=kY I;have D:l.length=2^n.toNat:=by exact_mod_cast z
  unfold R9;rw[MN];refine aeJ _ (fun x J=>?_);obtain⟨t,h1,rfl⟩:=List.mem_map.1 J;have h2:=UE _ _ t h1;exact(RH n.toNat l D F t.1 t.2.1 t.2.2 h2.1 aI aI).2
 ·omega
def fM(l:List Int):Nat->List (List Int)
 |0=>[]
 |e+1=>if fP l (e:Int) then fM l e else fM l e++[l++[(e:Int)]]
def gS(n:Nat)(z:List (List Int)):Nat->List (List Int)
 |0=>[]
 |k+1=>gS n z k++fM (z.getD k []) n
def cV(n:Nat):Nat->List (List Int)
 |0=>[[]]
 |r+1=>gS n (cV n r) (cV n r).length
theorem CM(l:List Int)(e:Nat):(fM l e).length<=e:=by
 induction e with
 |zero=>exact aK
 |succ e ih=>
  rw[fM]
  split
  ·omega
  ·rw[List.length_append];simp only[List.length_cons,List.length_nil];omega
theorem wY(n:Nat)(z:List (List Int))(k:Nat):(gS n z k).length<=k*n:=by
 induction k with
 |zero=>simp[gS]
 |succ k ih=>have:=CM (z.getD k []) n;rw[gS,List.length_append,Nat.succ_mul];omega
theorem FR(n:Nat)(z:n<=5)(r:Nat):(cV n r).length<=5^r:=by
 induction r with
 |zero=>simp[cV]
 |succ r ih=>have h1:=wY n (cV n r) (cV n r).length;have h2:(cV n r).length*n<=5^r*5:=Nat.mul_le_mul ih z;rw[cV,Nat.pow_succ];omega
theorem aaS(l:List Int)(n e:Nat)(D:e<=n):∀x∈fM l e,∃j:Nat,j<n/\x=l++[(j:Int)]:=by
 induction e with
 |zero=>simp[fM]
 |succ e ih=>
  intro x z;rw[fM]at z
  split at z
  ·exact ih aI x z
  ·rcases List.mem_append.1 z with z|z
   ·exact ih aI x z
   ·simp only[List.mem_singleton]at z;exact⟨e,by omega,z⟩
theorem ZM(n:Nat)(D:List (List Int))(k:Nat)(hk:k<=D.length):∀x∈gS n D k,∃l∈D,∃j:Nat,j<n/\x=l++[(j:Int)]:=by
 induction k with
 |zero=>simp[gS]
 |succ k ih=>
  intro x z;rw[gS]at z;rcases List.mem_append.1 z with z|z
  ·exact ih aI x z
  ·obtain⟨j,F,e⟩:=aaS _ n n aK x z;rw[List.getD_eq_getElem?_getD,List.getElem?_eq_getElem (show k<D.length by omega),Option.getD_some]at e;exact⟨_,List.getElem_mem (show k<D.length by omega),j,F,e⟩
theorem pY(n r:Nat):∀l∈cV n r,l.length=r/\∀x∈l,0<=x/\x<n:=by
 induction r with
 |zero=>intro l hl;simp only[cV,List.mem_singleton]at hl;subst hl;simp
 |succ r ih=>
  intro l hl;obtain⟨F,D,j,I,rfl⟩:=ZM n _ _ aK l hl;obtain⟨h1,h2⟩:=ih F D;refine⟨by simp[h1],fun x z=>?_⟩;rcases List.mem_append.1 z with z|z
  ·exact h2 x z
  ·simp only[List.mem_singleton]at z;omega
theorem TC(n:Nat)(hn:n<=5)(w:World):
  Calls prog 166 #[(n:Int)] w fun e w'=>∃ad i c,e=.returned (ajH ad i c)/\cX 3 24 w.heap.size w' (ajH ad i c) (cV n n)/\Below w w w':=by
 have o0:=cX.single (EI:=3) (EO:=24) w (Nat.le_refl w.heap.size);go_enter func166,ntmps166;go_wp2_with fail;go_loopw [3,10] (fun v i wr=>∃(r:Nat) (ad:Option Addr) (cp:Nat),r<=n/\i=ajJ r/\v=.slice ad (cV n r).length cp/\cX 3 24 w.heap.size wr (.slice ad (cV n r).length cp) (cV n r)/\Below w w wr)
  (fun _ i _=>n-(intOf i).toNat)
 case atStart=>exact⟨0,_,_,Nat.zero_le _,rfl,rfl,o0,aY _ _⟩
 case round=>
  obtain⟨r,ad,cp,hr,rfl,rfl,ol,B⟩:=hrel;obtain⟨wo,rfl⟩:∃wo:World,wo=wr:=⟨_,rfl⟩;clear o0;by_cases k4:r<n
  ·have R:=pY n r;have a6:=FR n hn r;have h5:(5:Nat)^r<=5^4:=Nat.pow_le_pow_right aV aI;have b9:cV n (r+1)=gS n (cV n r) (cV n r).length:=rfl;obtain⟨I,e6⟩:=aN (cV n r);rw[<-e6]at ol R a6 b9 ⊢;have g2:I.length<=625:=aI;have d5:=aJ b9;have d0:=aJ R;have d6:=aJ ol;clear e6 R a6 h5 b9 ol;go_wp2_with fail;go_loopw [4,14] (fun v i wm=>∃(k:Nat) (b0:Option Addr) (c5 b1:Nat),k<=I.length/\i=ajJ k/\v=ajH b0 c5 b1/\cX 3 24 wo.heap.size wm (ajH b0 c5 b1) (gS n I k) /\
     cX 3 24 w.heap.size wm (ajH ad I.length cp) I/\Below w w wm/\wo.heap.size<=wm.heap.size)
    (fun _ i _=>I.length-(intOf i).toNat)
   case atStart=>exact⟨0,none,0,0,Nat.zero_le _,rfl,rfl,cX.nil _ _ _ _,d6.out,B,aK⟩
   case round=>
    obtain⟨k,b0,c5,b1,hk,rfl,rfl,M,oL,Bm,zm⟩:=hrel;obtain⟨wm,rfl⟩:∃wm:World,wm=wr:=⟨_,rfl⟩;have rL:=d6.out.lt;by_cases b5:k<I.length
    ·obtain⟨g,u,g0,b4,hu⟩:=oL.view prog 77 underlying77 jS k b5;have b8:=d0.out _ (List.getElem_mem b5);have e4:I.getD k []=I[k]:=by rw[List.getD_eq_getElem?_getD,List.getElem?_eq_getElem b5];rfl
     have Z:gS n I (k+1)=gS n I k++fM I[k] n:=by rw[gS,e4]
     have g4:=wY n I k;have h9:k*n<=625*5:=Nat.mul_le_mul aI hn;obtain⟨l,hl⟩:=aN (I[k]);rw[<-hl]at hu b8 Z;obtain⟨N,hN⟩:=aN (gS n I k);rw[<-hN]at Z g4 M;have k3:l.length<=5:=by have:=b8.1;omega
     obtain⟨au,nu,cu,rfl⟩:=hu.shape3;have f6:=aJ Z;have a8:=aJ M;have d8:=aJ oL;have HU:=aJ hu;clear hl hN b8 e4 Z M oL hu;go_wp2_with fail;go_loopw [4,19] (fun v i K=>∃(e:Nat) (z:Option Addr) (F D:Nat),e<=n/\i=ajJ e/\v=ajH z F D/\cX 3 24 wo.heap.size K (ajH z F D) (N++fM l e) /\
       cX 3 24 w.heap.size K (ajH ad I.length cp) I/\aM 3 w K (ajH au nu cu) l/\Below w w K/\wo.heap.size<=K.heap.size)
      (fun _ i _=>n-(intOf i).toNat)
     case atStart=>exact⟨0,_,_,_,Nat.zero_le _,rfl,rfl,by simpa[fM]using a8.out,d8.out,HU.out,Bm,zm⟩
     case round=>
      obtain⟨e,z,F,D,he,rfl,rfl,M,oL,oU,Bi,zi⟩:=hrel;obtain⟨K,rfl⟩:∃K:World,K=wr:=⟨_,rfl⟩;clear g0 b4;by_cases k2:e<n
      ·cases hh:fP l (e:Int) with
       |true=>
        have hx:fM l (e+1)=fM l e:=by rw[fM,hh];rfl
        have HX:=aJ hx;have HH:=aJ hh;clear hx hh;go_wp2_with (go_at_call 242;refine(nW l _ _ _ oU.ints).mono ?_;rintro e' w' ⟨rfl,rfl⟩;rw[HH.out]);go_roundw
        case rel=>exact⟨e+1,z,F,D,by omega,by go_num,rfl,by rw[HX.out];exact M,oL,oU,Bi,zi⟩
        case measure=>simp[intOf];omega
       |false=>
        have hx:fM l (e+1)=fM l e++[l++[(e:Int)]]:=by rw[fM,hh];rfl
        have f9:=CM l e;have HX:=aJ hx;have HH:=aJ hh;have rN:=M.lt;have O:=aJ M;have d7:=aJ oL;have a9:=aJ oU;have g3:(N++fM l e).length<=4000:=by rw[List.length_append];omega
        clear hx hh M oL oU f9;go_wp2_with (first
         |(go_at_call 242;refine(nW l _ _ _ a9.out.ints).mono ?_;rintro e' w' ⟨rfl,rfl⟩;rw[HH.out])
         |(go_at_call 260;refine(kT _ l _ a9.out.ints aI).mono ?_;rintro e' w5 ⟨p5,i5,q5,rfl,o5,b3⟩;have z5:=b3.size)
         |(at_builtin;refine cW rfl _ _ _ rfl 3 underlying24 aP K.heap.size (ajH p5 i5 q5) l (e:Int) w5.heap.size rfl rfl (by simp) (o5.alloc _) ⟨by omega,by omega⟩ aI aS ?_;intro v' w6 S e5;obtain⟨p6,i6,q6,rfl⟩:=S.shape3;have b6:Below K K w6:=IL (Below.after (Below.refl _ _) (b3.after (aY w5 _) b3.size) aK) e5 aS (fun q hq=>(o5.lt q hq).1);have z6:=b6.size;obtain⟨l3,j4⟩:=(O.out.keep b6).row)
         |(at_builtin;refine sG rfl _ _ _ rfl 3 24 rJ underlying77 jS wo.heap.size (ajH z F D) (N++fM l e) (ajH p6 i6 q6) (l++[(e:Int)]) w6.heap.size rfl rfl (by simp) ((O.out.keep b6).keep (aY w6 _)) ((S.mono aI).alloc _) aI aS ?_;intro v' w7 Y J;obtain⟨p7,i7,q7,rfl⟩:=Y.shape3))
        have b7:Below K K (w6.alloc (.cells #[ajH p6 i6 q6] 24)):=b6.alloc b6.size _;obtain⟨l4,a7⟩:=(O.out.keep b7).row;have g8:=(d7.out.keep b7).grow a7 rJ J (fun q hq g5=>by have:=(rN q hq).1;have:=(rL q g5).2;omega);have g9:=(a9.out.keep b7).growL a7 rJ J;have l6:=Bi.size;have B7:=(Bi.after b7 Bi.size).grown J aS (fun q hq=>by have:=(rN q hq).1;have:=B.size;omega);have z7:=J.size;go_roundw
        case rel=>exact⟨e+1,p7,i7,q7,by omega,by go_num,rfl,by rw[HX.out,<-List.append_assoc];exact Y,g8,g9,B7,by simp at z7;omega⟩
        case measure=>simp[intOf];omega
      ·have f8:e=n:=aI;subst f8;go_wp2;go_roundw
       case rel=>exact⟨k+1,z,F,D,by omega,by go_num,rfl,by rw[f6.out];exact M,oL,Bi,zi⟩
       case measure=>simp[intOf];omega
    ·have g1:k=I.length:=aI;subst g1;have g7:=M.len;obtain⟨a3,c3,e3,_⟩:=g7;simp only[Value.slice.injEq]at e3;obtain⟨rfl,rfl,rfl⟩:=e3;have a8:=aJ M;clear M oL;go_wp2;go_roundw
     case rel=>exact⟨r+1,_,_,by omega,by go_num,by rw[d5.out],by rw[d5.out];exact a8.out.mono B.size,Bm⟩
     case measure=>simp[intOf];omega
  ·have g6:r=n:=aI;subst g6;go_wp2;go_ret;exact⟨_,_,_,rfl,ol,B⟩
def yA(l:List Int)(os:List (List Int))(e:Nat):Nat->Int
 |0=>0
 |j+1=>yA l os e j+(rW l (os.getD j [])).getD e 0
def mA(l:List Int)(os:List (List Int))(n j:Nat):List Int:=(List.range n).map fun e=>yA l os e j
theorem BJ(l:List Int)(os:List (List Int))(n j:Nat):(mA l os n j).length=n:=by simp[mA]
theorem TV(l:List Int)(os:List (List Int))(n j e:Nat)(h:e<(mA l os n j).length):(mA l os n j)[e]=yA l os e j:=by simp[mA]
theorem acM(l:List Int)(os:List (List Int))(n:Nat):mA l os n 0=List.replicate n 0:=by
 apply List.ext_getElem
 ·simp[mA]
 ·intro i h1 h2;simp[mA,yA]
theorem aeH(A B:List Int)(e:Nat)(F:e<A.length)(hB:A.length=B.length):(A.take e++B.drop e).set e A[e]=A.take (e+1)++B.drop (e+1):=by
 apply List.ext_getElem
 ·simp;omega
 ·intro i h1 h2;simp only[List.length_set,List.length_append,List.length_take,List.length_drop]at h1 h2;rw[List.getElem_set];by_cases z:e=i
  ·subst z;rw[if_pos rfl,List.getElem_append_left aS];simp
  ·rw[if_neg z];by_cases D:i<e
   ·rw[List.getElem_append_left aS,List.getElem_append_left aS];simp
   ·rw[List.getElem_append_right aS,List.getElem_append_right aS];simp only[List.length_take,List.getElem_drop]
    congr 1;omega
theorem agL(A B:List Int)(e:Nat)(z:e<=A.length)(hB:A.length=B.length):(A.take e++B.drop e).length=A.length:=by simp;omega
theorem agK(A B:List Int)(e:Nat)(z:e<A.length)(hB:A.length=B.length)(h:e<(A.take e++B.drop e).length):(A.take e++B.drop e)[e]=B[e]:=by
 rw[List.getElem_append_right aS];simp only[List.length_take,List.getElem_drop]
 congr 1;omega
def nV(l:List Int)(n e:Nat):Nat->Int
 |0=>0
 |s+1=>if dL (s:Int) e=1 then nV l n e s else nV l n e s+(gM (bN s):Int)*(gM (n-1-bN s):Int)*(l.getD (bO s e) 0-l.getD s 0)
def nL(n:Nat)(l:List Int):List Int:=(List.range n).map fun e=>nV l n e (2^n)
def jA(n:Int)(l:List Int):List Int:=if bH n l then nL n.toNat l else []
def FN(l:List Int):List (Int×Nat×Nat)->Int
 |[]=>0
 |t::ts=>FN l ts+t.1*(l.getD t.2.1 0-l.getD t.2.2 0)
def one(a i:Nat):Int:=if a=i then 1 else 0
def CH(i:Nat):List (Int×Nat×Nat)->Int
 |[]=>0
 |t::ts=>CH i ts+t.1*(one t.2.1 i-one t.2.2 i)
def rR(f:Nat->Int):Nat->Int
 |0=>0
 |n+1=>rR f n+f n
theorem ZZ{f g:Nat->Int}{n:Nat}(h:∀i,i<n->f i=g i):rR f n=rR g n:=by
 induction n with
 |zero=>rfl
 |succ n ih=>rw[rR,rR,ih (fun i z=>h i aI),h n aI]
theorem T8(f g:Nat->Int)(n:Nat):rR (fun i=>f i+g i) n=rR f n+rR g n:=by
 induction n with
 |zero=>rfl
 |succ n ih=>rw[rR,rR,rR,ih];omega
theorem acU(n:Nat):rR (fun _=>0) n=0:=by
 induction n with
 |zero=>rfl
 |succ n ih=>rw[rR,ih];rfl
theorem T9(l:List Int)(a n:Nat)(c:Int):rR (fun i=>c*one a i*l.getD i 0) n=if a<n then c*l.getD a 0 else 0:=by
 induction n with
 |zero=>simp[rR]
 |succ n ih=>
  rw[rR,ih];unfold one;by_cases h1:a<n
  ·rw[if_pos h1,if_neg (show ¬a=n by omega),if_pos (show a<n+1 by omega)];simp
  ·by_cases h2:a=n
   ·subst h2;simp
   ·rw[if_neg h1,if_neg h2,if_neg (show ¬a<n+1 by omega)];simp
theorem SX(l:List Int)(n:Nat)(ts:List (Int×Nat×Nat))(h:∀t∈ts,t.2.1<n/\t.2.2<n):FN l ts=rR (fun i=>CH i ts*l.getD i 0) n:=by
 induction ts with
 |nil=>simp only[FN,CH,Int.zero_mul,acU]
 |cons t ts ih=>
  have ht:=h t (by simp);rw[FN,ih (fun x z=>h x (by simp[z]))];have e:(fun i=>CH i (t::ts)*l.getD i 0)=fun i=>CH i ts*l.getD i 0+(t.1*one t.2.1 i*l.getD i 0+(-t.1)*one t.2.2 i*l.getD i 0):=by
   funext i
   rw[CH,Int.add_mul,Int.mul_sub,Int.sub_mul,Int.neg_mul,Int.neg_mul];omega
  rw[e,T8,T8,T9,T9,if_pos ht.1,if_pos ht.2,Int.mul_sub,Int.neg_mul];omega
def xC(o:List Int):Nat->List (Nat×Nat)
 |0=>List.replicate o.length (0,0)
 |k+1=>(xC o k).set (o.getD k 0).toNat (bO (qT o k) (o.getD k 0).toNat,qT o k)
theorem UX(l o:List Int)(k:Nat):jD l o k=(xC o k).map fun p=>l.getD p.1 0-l.getD p.2 0:=by
 induction k with
 |zero=>simp[jD,xC]
 |succ k ih=>rw[jD,xC,List.map_set,ih];rfl
def tI(os:List (List Int))(e:Nat):Nat->List (Int×Nat×Nat)
 |0=>[]
 |j+1=>(1,(xC (os.getD j []) (os.getD j []).length).getD e (0,0))::tI os e j
def tS(n e:Nat):Nat->List (Int×Nat×Nat)
 |0=>[]
 |s+1=>if dL (s:Int) e=1 then tS n e s else ((gM (bN s):Int)*(gM (n-1-bN s):Int),bO s e,s)::tS n e s
theorem ag8(l:List Int)(os:List (List Int))(e j:Nat):yA l os e j=FN l (tI os e j):=by
 induction j with
 |zero=>rfl
 |succ j ih=>
  rw[yA,tI,FN,ih];unfold rW;rw[UX]
  generalize xC (os.getD j []) (os.getD j []).length=P
  have:(P.map fun p=>l.getD p.1 0-l.getD p.2 0).getD e 0=l.getD (P.getD e (0,0)).1 0-l.getD (P.getD e (0,0)).2 0:=by
   rw[List.getD_eq_getElem?_getD,List.getElem?_map,List.getD_eq_getElem?_getD]
   cases z:P[e]? with
   |none=>simp[z]
   |some p=>simp[z]
  rw[this,Int.one_mul]
theorem ae3(l:List Int)(n e s:Nat):nV l n e s=FN l (tS n e s):=by
 induction s with
 |zero=>rfl
 |succ s ih=>
  rw[nV,tS];by_cases h:dL (s:Int) e=1
  ·rw[if_pos h,if_pos h,ih]
  ·rw[if_neg h,if_neg h,FN,ih]
def IB(ts z:List (Int×Nat×Nat))(n:Nat):Bool:=
 ts.all (fun t=>decide (t.2.1<n)&&decide (t.2.2<n))&&z.all (fun t=>decide (t.2.1<n)&&decide (t.2.2<n))&&(List.range n).all fun i=>CH i ts==CH i z
theorem aeC(l:List Int)(ts z:List (Int×Nat×Nat))(n:Nat)(h:IB ts z n=true):FN l ts=FN l z:=by
 unfold IB at h;simp only[Bool.and_eq_true,List.all_eq_true,decide_eq_true_eq,List.mem_range,beq_iff_eq]at h;rw[SX l n ts h.1.1,SX l n z h.1.2];exact ZZ fun i D=>by rw[h.2 i D]
theorem ZV:∀n,n<=5->∀e,e<n->IB (tI (cV n n) e (cV n n).length) (tS n e (2^n)) (2^n)=true:=by decide +kernel
theorem acP(n:Nat)(D:n<=5)(l:List Int):mA l (cV n n) n (cV n n).length=nL n l:=by
 unfold mA nL
 apply List.map_congr_left
 intro e z;rw[ag8,ae3];exact aeC l _ _ _ (ZV n D e (by simpa using z))
end
end Go.Proofs.YtcpoomdoodlkjaaGreatDoor
