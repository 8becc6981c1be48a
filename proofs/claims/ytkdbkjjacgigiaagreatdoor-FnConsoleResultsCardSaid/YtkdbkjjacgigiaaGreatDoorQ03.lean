/- Lemmas for CardConsoleResults. No condition. -/
import Derived.Test.YtkdbkjjacgigiaaGreatDoorQ02
import Derived.Shelf.Abstract
import Derived.Deep.RegionHeld3
set_option maxRecDepth 100000
set_option maxHeartbeats 64000000
namespace Go.Proofs.YtkdbkjjacgigiaaGreatDoor
section
open Go.RowKit Go.G5 Go.Proofs.Tryz
def kA(l:List Int)(D z:Int):Bool:=l.all fun x=>dV x D z
theorem FN(l:List Int)(v:Value)(F D:Int)(w:World)(M:aK w v l):
  Calls prog 175 #[v,F,D] w fun e w'=>e=.returned (.bool (kA l F D))/\w=w':=by
 obtain⟨a,b,N,c,rfl,I,K,hc,hb⟩:=M.view prog 25 3 underlying25 aN;go_enter func175,ntmps175;go_wp2;go_loop [11] (fun i=>∃k:Nat,k<=l.length/\i=aG k/\(l.take k).all (fun x=>dV x F D)=true) (fun i=>l.length-(intOf i).toNat)
 case atStart=>exact⟨0,Nat.zero_le _,rfl,by simp⟩
 case round=>
  obtain⟨k,hk,rfl,z⟩:=hrel;have H:=aH z;clear z;by_cases hlt:k<l.length
  ·cases J:dV l[k] F D with
   |true=>
    go_wp2_with (go_at_call 144;refine(gH _ _ _ _).mono ?_;rintro e w' ⟨rfl,rfl⟩);go_round
    case rel=>exact⟨k+1,by omega,by go_num,by rw[iW _ _ _ hlt,H.out,J];rfl⟩
    case measure=>simp[intOf];omega
   |false=>go_wp2_with (go_at_call 144;refine(gH _ _ _ _).mono ?_;rintro e w' ⟨rfl,rfl⟩);go_ret;exact⟨aW (by unfold kA;rw[jK _ _ _ hlt J]),rfl⟩
  ·go_wp2;go_ret;exact⟨aW (by unfold kA;rw[<-kO (fun x=>dV x F D) l k aD,H.out]),rfl⟩
def aY(n:Int)(l:List Int):Bool:=dV n 0 5&&decide ((l.length:Int)=2^n.toNat)&&kA l (-1000) 1000
theorem lG{g:Int}(z:0<=g)(D:g<=5):(2:Int)^g.toNat<=32/\0<(2:Int)^g.toNat:=by
 have:=cJ g.toNat 5 aD;simpa using this
theorem kP{n:Int}{l:List Int}(h:aY n l=true):0<=n/\n<=5/\(l.length:Int)=2^n.toNat/\(∀k,(hk:k<l.length)->-1000<=l[k]/\l[k]<=1000):=by
 unfold aY kA at h;simp only[Bool.and_eq_true,List.all_eq_true,decide_eq_true_eq]at h;obtain⟨⟨h1,h2⟩,h3⟩:=h;have:=cR.1 h1;exact⟨this.1,this.2,h2,fun k hk=>cR.1 (h3 _ (List.getElem_mem hk))⟩
theorem dM(n:Int)(l:List Int)(v:Value)(w:World)(O:aK w v l):
  Calls prog 132 #[.agg #[n,v]] w fun e w'=>e=.returned (.bool (aY n l))/\Below w w w':=by
 obtain⟨a,b,Y,c,rfl,N,R,hc,hb⟩:=O.view prog 25 3 underlying25 aN
 cases z:dV n 0 5 with
 |false=>
  have D:aY n l=false:=by unfold aY;rw[z];rfl
  have F:=aH D;clear D hc;go_enter func132,ntmps132;go_wp2_with (go_at_call 144;refine(gH _ _ _ _).mono ?_;rintro e w' ⟨rfl,rfl⟩);go_ret;exact⟨by rw[F.out];rfl,bF _ _⟩
 |true=>
  have I:=cR.1 z;have K:0<=n:=I.1;have M:n<=5:=I.2;have hp:=(lG K M).1;have S:=(lG K M).2;by_cases hl:(l.length:Int)=2^n.toNat
  ·have D:aY n l=kA l (-1000) 1000:=by unfold aY;rw[z,decide_eq_true hl];rfl
   have J:((l.length:Int) != 2^n.toNat)=false:=by simp[hl]
   have F:=aH D;have Z:=aH hl;clear D hc I hl;go_enter func132,ntmps132;go_wp2_with (first
    |(go_at_call 144;refine(gH _ _ _ _).mono ?_;rintro e w' ⟨rfl,rfl⟩)
    |(go_at_call 175;refine(FN l _ _ _ _ (O.alloc _)).mono ?_;rintro e w' ⟨rfl,rfl⟩))
   go_ret;exact⟨by rw[F.out];rfl,bF _ _⟩
  ·have D:aY n l=false:=by unfold aY;rw[z,decide_eq_false hl];rfl
   have J:((l.length:Int) != 2^n.toNat)=true:=by simp[hl]
   have F:=aH D;clear D hc I hl;go_enter func132,ntmps132;go_wp2_with (go_at_call 144;refine(gH _ _ _ _).mono ?_;rintro e w' ⟨rfl,rfl⟩);go_ret;exact⟨by rw[F.out];rfl,bF _ _⟩
theorem ahX{p:Prop}(h:p:=by
  go_wp2_with (go_at_call 77;refine(cP _ _ _ _).mono ?_;rintro e w' ⟨rfl,rfl⟩);go_round
  case rel=>exact⟨k+1,by omega,by go_num,by rw[iW _ _ _ hlt,H.out,O];rfl⟩
  case measure=>simp[intOf];omega):p:=h
theorem ah1{p:Prop}(h:p:=by
  go_enter func20,ntmps20;go_wp2;go_quiet ((go_at_call 77;first|exact oT (cP _ _ _ _) J.out|exact sP (cP _ _ _ _) J.out));go_wp2;go_ret;exact⟨by rw[I.out];rfl,(bF _ _).drewN' _⟩):p:=h
theorem dH(n:Int)(l:List Int)(v:Value)(w:World)(Z:aK w v l):
  Calls prog 20 #[.agg #[n,v]] w fun e w'=>e=.returned (.bool (aY n l))/\Below w w w':=by
 obtain⟨a,b,a1,c,rfl,M,S,hc,hb⟩:=Z.view prog 25 3 underlying25 aN;have K:=aR hc hb (bF w (.cells #[n,aA a l.length c] 27)) aI;clear hc
 cases D:dV n 0 5 with
 |false=>
  have F:aY n l=false:=by unfold aY;rw[D];rfl
  have I:=aH F;have J:=aH D;clear F K D;exact ah1
 |true=>
  have N:=cR.1 D;have h0:0<=n:=N.1;have R:n<=5:=N.2;have hp:=(lG h0 R).1;have a8:=(lG h0 R).2;have J:=aH D;clear D;by_cases hl:(l.length:Int)=2^n.toNat
  ·have F:aY n l=kA l (-1000) 1000:=by unfold aY;rw[J.out,decide_eq_true hl];rfl
   have Y:((l.length:Int) != 2^n.toNat)=false:=by simp[hl]
   have I:=aH F;have HL:=aH hl;clear F N hl;go_enter func20,ntmps20;go_wp2;go_quiet ((go_at_call 77;first|exact oT (cP _ _ _ _) J.out|exact sP (cP _ _ _ _) J.out));go_wp2;go_loop [3] (fun i=>∃k:Nat,k<=l.length/\i=aG k/\(l.take k).all (fun x=>dV x (-1000) 1000)=true) (fun i=>l.length-(intOf i).toNat)
   case atStart=>exact⟨0,Nat.zero_le _,rfl,by simp⟩
   case round=>
    obtain⟨k,hk,rfl,z⟩:=hrel;have H:=aH z;clear z;by_cases hlt:k<l.length
    ·cases O:dV l[k] (-1000) 1000 with
     |true=>exact ahX
     |false=>go_wp2_with (go_at_call 77;refine(cP _ _ _ _).mono ?_;rintro e w' ⟨rfl,rfl⟩);go_ret;exact⟨aW (by rw[I.out];unfold kA;rw[jK _ _ _ hlt O]),(bF _ _).drewN' _⟩
    ·go_wp2;go_ret;exact⟨aW (by rw[I.out];unfold kA;rw[<-kO (fun x=>dV x (-1000) 1000) l k aD,H.out]),(bF _ _).drewN' _⟩
  ·have F:aY n l=false:=by unfold aY;rw[J.out,decide_eq_false hl];rfl
   have Y:((l.length:Int) != 2^n.toNat)=true:=by simp[hl]
   have I:=aH F;clear F N hl K;exact ah1
def eD(n:Int)(l:List Int):Bool:=aY n l&&decide (l.getD 0 0=0)
theorem agQ{p:Prop}(h:p:=by
  rintro e w1 ⟨rfl,D⟩;have d1:=keep D (aZ w #[n,aA a l.length c] 27 1 _ rfl);have N:Below w w w1:=(bF _ _).after D (by first|omega|(simp;done)|(simp;omega));have R:=aR hc hb N aI;clear hc hb D
  cases S:aY n l with
  |false=>
   have M:eD n l=false:=by unfold eD;rw[S];rfl
   have O:=aH M;clear M;go_wp2;go_ret;exact⟨by rw[O.out];rfl,N⟩
  |true=>
   obtain⟨Z,h5,hl,_⟩:=kP S;have hp:=(lG Z h5).2;have z:0<l.length:=aD;have M:eD n l=(l[0]==0):=by
    unfold eD;rw[S,List.getD_eq_getElem?_getD,List.getElem?_eq_getElem z];simp only[Option.getD_some,Bool.true_and]
    rfl
   have O:=aH M;have Y:∀w',(Instr.indexAt 25 (aA a l.length c) (aG 0)).run prog w'=.ok (.pointer (some ⟨b,F,none⟩)) w':=fun w'=>by simpa using I w' 0 z
   have a6:w1.cell? ⟨b,F,none⟩=some (aG l[0]):=R 0 z;clear M hl;go_wp2;go_ret;exact⟨by rw[O.out];rfl,N⟩):p:=h
theorem xX(n:Int)(l:List Int)(v:Value)(w:World)(K:aK w v l):
  Calls prog 187 #[.agg #[n,v]] w fun e w'=>e=.returned (.bool (eD n l))/\Below w w w':=by
 obtain⟨a,b,F,c,rfl,J,I,hc,hb⟩:=K.view prog 25 3 underlying25 aN;go_enter func187,ntmps187;go_wp2_with fail;refine(dM n l _ _ (K.alloc _)).mono ?_;exact agQ
theorem xY(n:Int)(l:List Int)(v:Value)(w:World)(K:aK w v l):
  Calls prog 23 #[.agg #[n,v]] w fun e w'=>e=.returned (.bool (eD n l))/\Below w w w':=by
 obtain⟨a,b,F,c,rfl,J,I,hc,hb⟩:=K.view prog 25 3 underlying25 aN;go_enter func23,ntmps23;go_wp2_with fail;refine(dH n l _ _ (K.alloc _)).mono ?_;exact agQ
def dI(s:Int)(e:Nat):Int:=s/2^e%2
theorem jN(s:Int)(k:Nat)(z:0<=s)(h1:s<4611686018427387904):bits BinOp.and IntKind.i64 (s/2^k) 1=dI s k:=by
 have F:0<=s/2^k:=Int.ediv_nonneg z (by have:=(cJ k k aI).2;omega);have D:s/2^k<=s:=Int.ediv_le_self _ z;have:=UL (s/2^k).toNat aD;rw[show(((s/2^k).toNat:Nat):Int)=s/2^k by omega]at this;rw[this];unfold dI;omega
def wG(x:List Int)(s:Int):Nat->Int
 |0=>0
 |k+1=>if dI s k=1 then wG x s k+x.getD k 0 else wG x s k
def wt(x:List Int)(s:Int):Int:=wG x s x.length
theorem ahY{p:Prop}(h:p:=by
  induction k with
  |zero=>simp[wG]
  |succ k ih=>
   have h1:=ih aD;have h2:=h k aD;rw[wG,List.getD_eq_getElem?_getD,List.getElem?_eq_getElem (show k<x.length by omega),Option.getD_some]
   split<;>omega):p:=h
theorem ab3(x:List Int)(s:Int)(h:∀k,(hk:k<x.length)->-1000000<=x[k]/\x[k]<=1000000)(k:Nat)(hk:k<=x.length):-1000000*(k:Int)<=wG x s k/\wG x s k<=1000000*(k:Int):=by
 exact ahY
theorem agS{p:Prop}(h:p:=by
  obtain⟨k,hk,rfl,rfl⟩:=hrel;have I:=ab3 x s M k hk;obtain⟨m,hm⟩:=aJ (wG x s k);rw[<-hm]at I ⊢;have O:=aH hm;clear hm;by_cases hlt:k<x.length
  ·have a1:=M k hlt;have Y:=jN s k S aD;have D:wG x s (k+1)=if dI s k=1 then m+x[k] else m:=by rw[wG,<-O.out,List.getD_eq_getElem?_getD,List.getElem?_eq_getElem hlt,Option.getD_some]
   have R:=aH D;clear D;by_cases z:dI s k=1
   ·have ht:(dI s k==1)=true:=by simp[z]
    have Z:=aH z;clear z;go_wp2;go_round
    case rel=>exact⟨k+1,by omega,by go_num,by rw[R.out,if_pos Z.out]⟩
    case measure=>simp[intOf];omega
   ·have ht:(dI s k==1)=false:=by simp[z]
    go_wp2;go_round
    case rel=>exact⟨k+1,by omega,by go_num,by rw[R.out,if_neg z]⟩
    case measure=>simp[intOf];omega
  ·go_wp2
   go_ret;exact⟨fL (by rw[O.out,show k=x.length from by omega];rfl),rfl⟩):p:=h
theorem JF(x:List Int)(v:Value)(s:Int)(w:World)(K:aK w v x)(S:0<=s)(h1:s<1073741824)(M:∀k,(hk:k<x.length)->-1000000<=x[k]/\x[k]<=1000000)(hl:x.length<=60):
  Calls prog 384 #[v,s] w fun e w'=>e=.returned (wt x s)/\w=w':=by
 obtain⟨a,b,N,c,rfl,F,J,hc,hb⟩:=K.view prog 25 3 underlying25 aN;go_enter func384,ntmps384;go_wp2;go_loop [5,10] (fun m i=>∃k:Nat,k<=x.length/\i=aG k/\m=aG (wG x s k)) (fun _ i=>x.length-(intOf i).toNat)
 case atStart=>exact⟨0,Nat.zero_le _,rfl,rfl⟩
 case round=>exact agS
theorem uG(x:List Int)(v:Value)(s:Int)(w:World)(K:aK w v x)(S:0<=s)(h1:s<1073741824)(M:∀k,(hk:k<x.length)->-1000000<=x[k]/\x[k]<=1000000)(hl:x.length<=60):
  Calls prog 168 #[v,s] w fun e w'=>e=.returned (wt x s)/\w=w':=by
 obtain⟨a,b,N,c,rfl,F,J,hc,hb⟩:=K.view prog 25 3 underlying25 aN;go_enter func168,ntmps168;go_wp2;go_loop [5,6] (fun m i=>∃k:Nat,k<=x.length/\i=aG k/\m=aG (wG x s k)) (fun _ i=>x.length-(intOf i).toNat)
 case atStart=>exact⟨0,Nat.zero_le _,rfl,rfl⟩
 case round=>exact agS
structure BoxAt (wr:World) (B:Nat) (x y:Value):Prop where
 d0:wr.cell? ⟨B,0,none⟩=some x
 d1:wr.cell? ⟨B,1,none⟩=some y
 f0:wr.frozen? ⟨B,0,none⟩=false
 f1:wr.frozen? ⟨B,1,none⟩=false
theorem BoxAt.lt{wr:World}{B:Nat}{x y:Value}(h:BoxAt wr B x y):B<wr.heap.size:=World.block_lt_of_cell? wr _ h.d0
theorem BoxAt.keep{wr z:World}{B:Nat}{x y:Value}(h:BoxAt wr B x y)(hb:Below wr wr z):BoxAt z B x y:=
 ⟨G5.keep hb h.d0,G5.keep hb h.d1,(hb.frozen (p:=⟨B,0,none⟩) h.lt).trans h.f0,(hb.frozen (p:=⟨B,1,none⟩) h.lt).trans h.f1⟩
theorem BoxAt.grow{wr F:World}{row:Option Nat}{B:Nat}{x y:Value}(h:BoxAt wr B x y)(D:wr.grownBy F row)(z:row≠some B):BoxAt F B x y:=
 ⟨G5.grown_keep D h.d0 (fun k hk e=>z (by rw[hk,<-e])),G5.grown_keep D h.d1 (fun k hk e=>z (by rw[hk,<-e])),
  by rw[World.frozen?_of_block (D.block B h.lt (fun e=>z e.symm))];exact h.f0,by rw[World.frozen?_of_block (D.block B h.lt (fun e=>z e.symm))];exact h.f1⟩
theorem BoxAt.set1{wr:World}{B:Nat}{x y:Value}(h:BoxAt wr B x y)(v:Value):BoxAt (wr.setCell ⟨B,1,none⟩ v) B x v:=
 ⟨by rw[World.cell?_setCell_other _ _ _ _ (by simp)];exact h.d0,World.cell?_setCell_same _ _ _ h.d1,by rw[World.frozen?_setCell];exact h.f0,by rw[World.frozen?_setCell];exact h.f1⟩
theorem BoxAt.other{wr:World}{B B' j:Nat}{x y:Value}(h:BoxAt wr B x y)(z:B'≠B)(v:Value):BoxAt (wr.setCell ⟨B',j,none⟩ v) B x y:=
 ⟨by rw[World.cell?_setCell_other _ _ _ _ (fun e=>z (congrArg Addr.block e))];exact h.d0,by rw[World.cell?_setCell_other _ _ _ _ (fun e=>z (congrArg Addr.block e))];exact h.d1,by rw[World.frozen?_setCell];exact h.f0,by rw[World.frozen?_setCell];exact h.f1⟩
theorem BoxAt.new(w:World)(x y:Value)(T:TypeId):BoxAt (w.alloc (.cells #[x,y] T)) w.heap.size x y:=
 ⟨aZ w #[x,y] T 0 _ rfl,aZ w #[x,y] T 1 _ rfl,World.frozen?_alloc_at _ _ _ _ rfl,World.frozen?_alloc_at _ _ _ _ rfl⟩
def cD(P:Nat->Bool)(k:Nat):List Int:=((List.range k).filter P).map Int.ofNat
theorem fM(P:Nat->Bool)(k:Nat):cD P (k+1)=if P k then cD P k++[(k:Int)] else cD P k:=by
 unfold cD;rw[List.range_succ,List.filter_append,List.map_append];by_cases h:P k=true
 ·simp[h]
 ·simp[h]
theorem jO(P:Nat->Bool)(k:Nat):(cD P k).length<=k:=by
 unfold cD;rw[List.length_map];have:=List.length_filter_le P (List.range k);simpa using this
theorem am6{p:Prop}(h:p:=by
  have a1:(2:Nat)^n<=64:=Nat.pow_le_pow_right aQ hn;have a9:=Nat.two_pow_pos n;have K:((2^n:Nat):Int)=(2:Int)^n:=by simp
  obtain⟨N,hN⟩:∃N:Nat,N=2^n:=⟨_,rfl⟩;rw[<-hN]at hw a1 a9 K ⊢;have HN:=aH hN;clear hN;have r0:=(BoxAt.new w (aG 0) (aA none 0 0) 29);have r1:=r0.keep (bF _ (.cells #[n,()] 29));have b1:=BoxAt.new (w.alloc (.cells #[aB,()] 29)) (aG n) (aA none 0 0) 29;go_enter func276,ntmps276;go_wp2_with fail;go_loopw [12] (fun i wr=>∃(k:Nat) (ad:Option Addr) (M D:Nat),k<=N/\i=aG k/\aM 3 (w.heap.size+1+1) wr (aA ad M D) (cD P k)/\Below w w wr /\
    BoxAt wr w.heap.size (aG 0) (aA none 0 0)/\BoxAt wr (w.heap.size+1) (aG n) (aA ad M D))
   (fun i _=>N-(intOf i).toNat)
  case atStart=>exact⟨0,none,0,0,Nat.zero_le _,rfl,aM.nil _ _ _,(by repeat(first|exact Below.refl _ _|(with_reducible refine Below.setCell ?_ (by first|omega|(simp;done)|(simp;omega)) _)|(with_reducible refine Below.alloc ?_ (by first|omega|(simp;done)|(simp;omega)) _)|(with_reducible refine Below.drewN' ?_ _)|(with_reducible refine Below.drew ?_)|(with_reducible assumption)|refine Below.trans ?_ (Below.mono (by assumption) (by first|omega|(simp;done)|(simp;omega))))),r1,by simpa using b1⟩
  case round=>
   obtain⟨k,ad,M,D,hk,rfl,Z,B,R,X⟩:=hrel;clear r0 r1 b1;by_cases hlt:k<N
   ·have Y:(k:Int)<2^n:=by rw[<-K];exact_mod_cast hlt
    have hcl:=hw k wr hlt B;have zr:=R.lt;have zx:=X.lt
    cases hP:P k with
    |false=>
     rw[hP]at hcl;go_wp2_with (go_at_fn c;refine hcl.mono ?_;rintro e O ⟨rfl,z⟩);go_roundw
     case rel=>exact⟨k+1,ad,M,D,by omega,by go_num,by rw[fM,hP];exact Z.keep z,B.after z B.size,R.keep z,X.keep z⟩
     case measure=>simp[intOf];omega
    |true=>
     rw[hP]at hcl;have S:=jO P k;have c9:(cD P k).length<=64:=Nat.le_trans S (Nat.le_trans hk a1);go_wp2_with (first
      |(go_at_fn c;refine hcl.mono ?_;rintro e O ⟨rfl,z⟩;have e9:=(X.keep z).lt;obtain⟨e0,e1,g0,g1⟩:=X.keep z)
      |(at_builtin;refine dA rfl _ _ _ rfl 3 underlying25 aN (w.heap.size+1+1) _ _ (k:Int) O.heap.size rfl rfl (by simp) ((Z.keep z).alloc _) ⟨by omega,by omega⟩ aD aT ?_;intro v' w6 I J;obtain⟨av,nv,cv,rfl⟩:=I.shape3;have F:=(Z.keep z).lt;have X6:=((X.keep z).keep (bF _ (.cells #[k] 3))).grow J (fun e=>by have:=(F _ e).1;omega);have R6:=((R.keep z).keep (bF _ (.cells #[k] 3))).grow J (fun e=>by have:=(F _ e).1;omega);obtain⟨i0,i1,j0,j1⟩:=X6))
     have B6:Below w w w6:=((B.after z B.size).alloc (B.after z B.size).size (.cells #[k] 3)).grown J (by have:=(B.after z B.size).size;simp;omega) (fun q hq=>by have:=(F q hq).1;omega);go_roundw
     case rel=>exact⟨k+1,av,nv,cv,by omega,by go_num,by rw[fM,if_pos hP];exact I.setBelow (by first|omega|(simp;done)|(simp;omega)) _,B6.setCell (by first|omega|(simp;done)|(simp;omega)) _,R6.other aD _,(BoxAt.mk i0 i1 j0 j1).set1 _⟩
     case measure=>simp[intOf];omega
   ·have Y:¬(k:Int)<2^n:=by rw[<-K];exact_mod_cast hlt
    have a8:k=N:=aD;obtain⟨e0,e1,g0,g1⟩:=X;obtain⟨e2,e3,g2,g3⟩:=R;go_wp2;refine bodyPost_ret (v:=.agg #[n,aA ad M D]) (by simp[results,results276,go_sem,e2,e3]) rfl ⟨ad,M,D,rfl,?_,?_⟩
    ·rw[a8]at Z;exact((Z.setBelow (by first|omega|(simp;done)|(simp;omega)) _).setBelow (by first|omega|(simp;done)|(simp;omega)) _).mono (by first|omega|(simp;done)|(simp;omega))
    ·exact Below.setCell (Below.setCell B aI _) aI _):p:=h
theorem zA(w:World)(n:Nat)(hn:n<=6)(c:FuncId)(he:∀args w,(callFunc c args).run prog w=.ok (.enter c args) w)(g:Nat)(P:Nat->Bool)
  (hw:∀(s:Nat) W',s<2^n->Below w w W'->Calls prog c #[(s:Int),.pointer (some ⟨g,0,none⟩)] W' fun e O=>e=.returned (.bool (P s))/\Below W' W' O):
  Calls prog 276 #[(n:Int),.func (.func c) #[] #[.pointer (some ⟨g,0,none⟩)]] w fun e w'=>
   ∃ad i D,e=.returned (.agg #[(n:Int),aA ad i D])/\aM 3 w w' (aA ad i D) (cD P (2^n))/\Below w w w':=by
 exact am6
def cZ(code s:Nat):Bool:=code/2^s%2==1
theorem oP(code s:Nat):(dI (code:Int) s==1)=cZ code s:=by
 unfold dI cZ;have h:((code:Int)/2^s%2)=((code/2^s%2:Nat):Int):=by push_cast;rfl
 rw[h];have:(code/2^s%2)<2:=Nat.mod_lt _ aQ;rcases(show code/2^s%2=0∨code/2^s%2=1 by omega) with h1|h1<;>rw[h1]<;>rfl
def gT(code:Nat)(k:Nat):List Int:=cD (cZ code) k
theorem NO(code k m:Nat)(h:code<2^k):gT code (k+m)=gT code k:=by
 induction m with
 |zero=>rfl
 |succ m ih=>rw[<-Nat.add_assoc,gT,fM,if_neg,<-gT,ih];have h1:code<2^(k+m):=Nat.lt_of_lt_of_le h (Nat.pow_le_pow_right aQ aD);unfold cZ;rw[Nat.div_eq_of_lt h1];decide
theorem tB(code k m:Nat)(h:code<2^k)(D:code<2^m):gT code k=gT code m:=by
 rcases Nat.le_total k m with z|z
 ·obtain⟨d,rfl⟩:=Nat.exists_eq_add_of_le z;exact(NO code k d h).symm
 ·obtain⟨d,rfl⟩:=Nat.exists_eq_add_of_le z;exact NO code m d D
theorem adF(w:World)(code:Nat)(hc:code<2^32):
  Calls prog 79 #[(code:Int)] w fun e w'=>∃ad i z,e=.returned (aA ad i z)/\aM 3 w w' (aA ad i z) (gT code 32)/\Below w w w':=by
 have o0:=aM.lit0 (E:=3) (B:=w.heap.size) w aI;go_enter func79,ntmps79;go_wp2;go_loopw [3,4,5] (fun out i x wr=>∃(k:Nat) (ad:Option Addr) (M z:Nat),k<=32/\out=aA ad M z/\i=aG k/\x=aG ((code/2^k:Nat):Int)/\aM 3 w wr (aA ad M z) (gT code k)/\Below w w wr)
  (fun _ _ x _=>(intOf x).toNat)
 case atStart=>exact⟨0,_,_,_,by omega,rfl,rfl,by simp,o0,bF _ _⟩
 case round=>
  obtain⟨k,ad,M,z,hk,rfl,rfl,rfl,ho,B⟩:=hrel;obtain⟨q,F⟩:=aJ (code/2^k);have K:code/2^(k+1)=q/2:=by rw[F,Nat.pow_succ,Nat.div_div_eq_div_mul]
  have b4:q<=code:=by rw[F];exact Nat.div_le_self _ _
  have hn:cZ code k=(q%2==1):=by unfold cZ;rw[F]
  have Z:=jO (cZ code) k;rw[<-F];have hb:=UL q aD;have Y:=aH K;have S:=aH hn;have N:=aH ho;have I:=aH B;have hz:0<q->k+1<=32:=by
   intro h;by_cases h2:k+1<=32
   ·exact h2
   ·have:k=32:=aD;rw[F,this,Nat.div_eq_of_lt hc]at h;omega
  have O:=aH F;clear ho B F K hn;by_cases h0:0<q
  ·have J:=hz h0;clear hz;by_cases h1:q%2=1
   ·go_wp2_with (at_builtin;refine dA rfl _ _ _ rfl 3 underlying25 aN w.heap.size _ _ (k:Int) wr.heap.size rfl rfl (by simp) (N.out.alloc _) ⟨by omega,by omega⟩ (by unfold gT;omega) (by have:=I.out.size;simp;omega) ?_;intro v' w6 D R;obtain⟨av,nv,cv,rfl⟩:=D.shape3);have B6:Below w w w6:=(I.out.alloc I.out.size (.cells #[k] 3)).grown R (by have:=I.out.size;simp;omega) (fun p hp=>(N.out.lt p hp).1);go_roundw
    case rel=>exact⟨k+1,av,nv,cv,J,rfl,by go_num,by rw[Y.out];go_num,by rw[gT,fM,S.out,h1];exact D,B6⟩
    case measure=>simp[intOf];omega
   ·go_wp2
    go_roundw
    case rel=>exact⟨k+1,ad,M,z,J,rfl,by go_num,by rw[Y.out];go_num,by rw[gT,fM,S.out,show(q%2==1)=false by simp[h1]];exact N.out,I.out⟩
    case measure=>simp[intOf];omega
  ·go_wp2
   go_ret;refine⟨ad,M,z,rfl,?_,I.out⟩;have hlt:code<2^k:=by
    have:=O.out;rcases Nat.lt_or_ge code (2^k) with h|h
    ·exact h
    ·have:=Nat.div_pos h (Nat.two_pow_pos k);omega
   rw[tB code 32 k hc hlt];exact N.out
theorem VP(code k:Nat):∀x∈gT code k,0<=x/\x<(k:Int):=by
 intro x z;unfold gT cD at z;rw[List.mem_map]at z;obtain⟨s,D,rfl⟩:=z;rw[List.mem_filter,List.mem_range]at D;simp only[Int.ofNat_eq_natCast];omega
def eK(s:Int):List Int:=gT s.toNat 6
theorem VM(s:Int)(n:Nat)(z:n<=6)(h1:s.toNat<2^n):∀x∈eK s,0<=x/\x<(n:Int):=by
 have h2:s.toNat<2^6:=Nat.lt_of_lt_of_le h1 (Nat.pow_le_pow_right aQ z);unfold eK;rw[tB s.toNat 6 n h2 h1];exact VP _ _
theorem PV(s:Int):∀x∈eK s,0<=x/\x<6:=by
 intro x z;unfold eK at z;have:=VP s.toNat 6 x z;omega
theorem uS(s:Int):(eK s).length<=6:=by
 unfold eK gT;exact jO _ 6
theorem an9:∀s:Nat,s<64->(gT s 6).length=bY s:=by decide +kernel
theorem aa3(s:Int)(h:s<64):((eK s).length:Int)=cT s:=by
 unfold eK cT;rw[an9 s.toNat aD]
theorem MF(s:Int)(w:World)(D:0<=s)(h1:s<64):
  Calls prog 79 #[s] w fun e w'=>∃ad i z,e=.returned (aA ad i z)/\aM 3 w w' (aA ad i z) (eK s)/\Below w w w':=by
 have:=adF w s.toNat aD;rw[show((s.toNat:Nat):Int)=s by omega,tB s.toNat 32 6 aD aD]at this;exact this
theorem kS(s:Int)(w:World)(h0:0<=s)(h1:s<64):
  Calls prog 215 #[s] w fun e w'=>∃ad i D,e=.returned (aA ad i D)/\aM 3 w w' (aA ad i D) (eK s)/\Below w w w':=by
 obtain⟨code,rfl⟩:=Int.eq_ofNat_of_zero_le h0;have hc:code<64:=aD;have R:eK (code:Int)=gT code 6:=by unfold eK;rw[show((code:Int)).toNat=code by omega]
 have a7:=aH R;clear R;go_enter func215,ntmps215;go_wp2;go_loopw [3,4] (fun out i wr=>∃(k:Nat) (ad:Option Addr) (Z D:Nat),k<=6/\out=aA ad Z D/\i=aG k/\aM 3 w wr (aA ad Z D) (gT code k)/\Below w w wr)
  (fun _ i _=>7-(intOf i).toNat)
 case atStart=>exact⟨0,none,0,0,by omega,rfl,rfl,aM.nil _ _ _,Below.refl _ _⟩
 case round=>
  obtain⟨k,ad,Z,D,hk,rfl,rfl,ho,B⟩:=hrel;have F:=jN (code:Int) k aD aD;have z:=oP code k;have b4:=jO (cZ code) k;have I:((code:Int)/2^k)=((code/2^k:Nat):Int):=by push_cast;rfl
  have b0:code/2^k<=code:=Nat.div_le_self _ _;have hz:code/2^k≠0->k+1<=6:=by
   intro h;by_cases h2:k+1<=6
   ·exact h2
   ·exfalso
    have:k=6:=aD;rw[this,Nat.div_eq_of_lt hc]at h;exact h rfl
  have O:gT code (k+1)=if cZ code k then gT code k++[(k:Int)] else gT code k:=fM (cZ code) k;obtain⟨q,hq⟩:=aJ (code/2^k);obtain⟨y,hy⟩:=aJ (dI (code:Int) k);rw[<-hq]at I hz b0;rw[<-hy]at F z;rw[I]at F;have HQ:=aH hq;have HO:=aH ho;have M:=aH B;have N:=aH O;have HZ:=aH hz;clear hq hy ho B O hz;by_cases h0:q=0
  ·subst h0
   have hr:gT code k=gT code 6:=by
    have hlt:code<2^k:=by
     rcases Nat.lt_or_ge code (2^k) with h|h
     ·exact h
     ·have:=Nat.div_pos h (Nat.two_pow_pos k);have:=HQ.out;omega
    exact tB code k 6 hlt aD
   have HR:=aH hr;clear hr;go_wp2;go_ret;exact⟨ad,Z,D,rfl,by rw[a7.out,<-HR.out];exact HO.out,M.out⟩
  ·have S:=HZ.out h0;have ht:((q:Int) != 0)=true:=by simp;omega
   have Y:=HO.out.lt
   cases hb:cZ code k with
   |true=>
    have b1:(y==1)=true:=by rw[z,hb]
    have K:=aH hb;clear hb z;go_wp2_with (at_builtin;refine dA rfl _ _ _ rfl 3 underlying25 aN w.heap.size _ _ (k:Int) wr.heap.size rfl rfl (aZ wr #[k] 3 0 _ rfl) (HO.out.alloc _) ⟨by omega,by omega⟩ (by unfold gT;omega) (by have:=M.out.size;simp;omega) ?_;intro v' w6 J a8;obtain⟨av,nv,cv,rfl⟩:=J.shape3);have B6:Below w w w6:=(M.out.alloc M.out.size (.cells #[k] 3)).grown a8 (by have:=M.out.size;simp;omega) (fun p hp=>(Y p hp).1);go_roundw
    case rel=>exact⟨k+1,av,nv,cv,S,rfl,by go_num,by rw[N.out,K.out];exact J,B6⟩
    case measure=>simp[intOf];omega
   |false=>
    have b1:(y==1)=false:=by rw[z,hb]
    have K:=aH hb;clear hb z;go_wp2;go_roundw
    case rel=>exact⟨k+1,ad,Z,D,S,rfl,by go_num,by rw[N.out,K.out];exact HO.out,M.out⟩
    case measure=>simp[intOf];omega
end
end Go.Proofs.YtkdbkjjacgigiaaGreatDoor
section
namespace Go.G5
open Go Go.RowKit
def aP(w:World)(g:Nat)(t:TypeId)(cs:Array Value):Prop:=w.heap[g]?=some (.cells cs t (0,0))
section
variable {w w':World} {g:Nat} {t:TypeId} {cs:Array Value}
theorem aP.lt(h:aP w g t cs):g<w.heap.size:=(Array.getElem?_eq_some_iff.1 h).1
theorem aP.cell(h:aP w g t cs):∀i,w.cell? ⟨g,i,none⟩=cs[i]?:=fun i=>cell_of_row w g i cs t (0,0) h
theorem aP.frozen(h:aP w g t cs):∀i,w.frozen? ⟨g,i,none⟩=false:=fun i=>by
 unfold aP at h;simp[World.frozen?,h]
theorem aP.new(w:World)(t:TypeId)(cs:Array Value):aP (w.alloc (.cells cs t)) w.heap.size t cs:=heap_alloc_new w _
theorem aP.keep(h:aP w g t cs)(hb:Below w.heap.size w w'):aP w' g t cs:=(hb.block g h.lt).trans h
theorem aP.alloc(h:aP w g t cs)(o:Obj):aP (w.alloc o) g t cs:=h.keep (bF w o)
theorem aP.drewN(h:aP w g t cs)(n:Nat):aP (w.drewN n) g t cs:=h
theorem aP.set(h:aP w g t cs)(i:Nat)(u:Value):aP (w.setCell ⟨g,i,none⟩ u) g t (cs.setIfInBounds i u):=by
 unfold aP at h ⊢;simp[World.setCell,Array.getElem?_modify,h]
theorem aP.far(h:aP w g t cs){p:Addr}(z:g≠p.block)(u:Value):aP (w.setCell p u) g t cs:=(Below.heap_setCell w p u g z).trans h
theorem aP.grow{row:Option Nat}(h:aP w g t cs)(hb:w.grownBy w' row)(z:row≠some g):aP w' g t cs:=(hb.block g h.lt (fun e=>z e.symm)).trans h
end
theorem gJ{V w:World}{c:Array Value}{T:TypeId}(h:V=w.alloc (.cells c T)):aP V w.heap.size T c:=by rw[h];exact aP.new _ _ _
theorem gR{V w:World}{c:Array Value}{T:TypeId}{o:Obj}(h:V=(w.alloc (.cells c T)).alloc o):aP V w.heap.size T c:=by rw[h];exact(aP.new _ _ _).alloc _
theorem iP{V w:World}{c:Array Value}{T:TypeId}{o:Obj}(h:V=(w.alloc o).alloc (.cells c T)):aP V (w.heap.size+1) T c:=by rw[h];have:=aP.new (w.alloc o) T c;simpa using this
theorem bN{P:Program}{f:Func}{Q:Ending->World->Prop}{e:Exit}{a:Act}{W:World}(h:∀W',W'=W->bodyPost P f Q e a W'):bodyPost P f Q e a W:=h W rfl
end Go.G5
end
namespace Go.Proofs.YtkdbkjjacgigiaaGreatDoor
section
open Go.RowKit Go.G5 Go.Proofs.Tryz
def gQ(l:List Int)(s:Int):Bool:=decide (s∈l)
theorem MC{l:List Int}{s:Int}:gQ l s=true↔s∈l:=by simp[gQ]
theorem WB(l:List Int)(k:Nat)(h:k<l.length):gQ l l[k]=true:=MC.2 (List.getElem_mem h)
theorem BR{l:List Int}{s:Int}(h:∀k,(hk:k<l.length)->l[k]≠s):gQ l s=false:=by
 unfold gQ;rw[decide_eq_false_iff_not];intro hm;obtain⟨k,hk,z⟩:=List.getElem_of_mem hm;exact h k hk z
theorem qH(l:List Int)(v:Value)(s:Int)(w:World)(S:aK w v l):
  Calls prog 110 #[v,s] w fun e w'=>e=.returned (.bool (gQ l s))/\w=w':=by
 obtain⟨a,b,Y,c,rfl,M,O,hc,hb⟩:=S.view prog 25 3 underlying25 aN;go_enter func110,ntmps110;go_wp2;go_loop [5] (fun i=>∃k:Nat,k<=l.length/\i=aG k/\(∀j,(J:j<l.length)->j<k->l[j]≠s)) (fun i=>l.length-(intOf i).toNat)
 case atStart=>exact⟨0,Nat.zero_le _,rfl,by intros;omega⟩
 case round=>
  obtain⟨k,hk,rfl,I⟩:=hrel;have H:=aH I;clear I;by_cases hlt:k<l.length
  ·by_cases z:l[k]=s
   ·have ht:(l[k]==s)=true:=by simp[z]
    have D:gQ l s=true:=by rw[<-z];exact WB l k hlt
    have K:=aH D;clear z D;go_wp2;go_ret;exact⟨by rw[K.out];rfl,rfl⟩
   ·have ht:(l[k]==s)=false:=by simp[z]
    have N:=aH z;clear z;go_wp2;go_round
    case rel=>
     refine⟨k+1,by omega,by go_num,fun j J R=>?_⟩;by_cases F:j=k
     ·subst F;exact N.out
     ·exact H.out j J aD
    case measure=>simp[intOf];omega
  ·have D:gQ l s=false:=BR fun j J=>H.out j J aD;have K:=aH D;clear D;go_wp2;go_ret;exact⟨by rw[K.out];rfl,rfl⟩
theorem acL(x:Int)(w:World):Calls prog 385 #[x] w fun e w'=>e=.returned (.bool false)/\w=w':=by
 have h:(x != x)=false:=by simp
 go_enter func385,ntmps385;go_wp2;go_ret;exact⟨rfl,rfl⟩
theorem SX(x:Int)(w:World):Calls prog 369 #[x] w fun e w'=>e=.returned (.bool false)/\w=w':=by
 have h:(x != x)=false:=by simp
 go_enter func369,ntmps369;go_wp2;go_ret;exact⟨rfl,rfl⟩
theorem KN(x y:Int)(w:World):Calls prog 368 #[x,y] w fun e w'=>e=.returned (.bool (decide (x<y)))/\w=w':=by
 go_enter func368,ntmps368;go_wp2_with (go_at_call 385;refine(acL _ _).mono ?_;rintro e w' ⟨rfl,rfl⟩);go_ret;exact⟨rfl,rfl⟩
theorem TG(l:List Int)(v:Value)(s:Int)(w:World)(hv:aK w v l)(J:l.Pairwise (· < ·))(hl:l.length<=1048576):
  Calls prog 347 #[v,s] w fun e w'=>(∃i:Int,e=.returned (.tuple #[i,.bool (gQ l s)]))/\w=w':=by
 obtain⟨a,b,b0,c,rfl,b5,a6,hc,hb⟩:=hv.view prog 25 3 underlying25 aN;have z:∀i j,(hi:i<l.length)->(hj:j<l.length)->i<j->l[i]<l[j]:=fun i j hi hj a1=>List.pairwise_iff_getElem.1 J i j hi hj a1;have N:=aH z;clear z J;go_enter func347,ntmps347;go_wp2;go_loop [7,8] (fun i j=>∃p q:Nat,p<=q/\q<=l.length/\i=aG p/\j=aG q/\(∀t,(ht:t<l.length)->t<p->l[t]<s)/\(∀t,(ht:t<l.length)->q<=t->s<=l[t])) (fun i j=>(intOf j).toNat-(intOf i).toNat)
 case atStart=>exact⟨0,l.length,Nat.zero_le _,aI,rfl,rfl,by intros;omega,by intros;omega⟩
 case round=>
  obtain⟨p,q,b7,a8,rfl,rfl,hlo,Y⟩:=hrel;have M:=aH hlo;have S:=aH Y;clear hlo Y;by_cases hlt:p<q
  ·have hm:(p+q)/2<l.length:=aD;have hcm:=hc ((p+q)/2) hm;have b3:∀w',(Instr.indexAt 25 (aA a l.length c) (aG (((p:Int)+(q:Int))/2))).run prog w'=.ok (.pointer (some ⟨b,b0+(p+q)/2,none⟩)) w':=fun w'=>by rw[show(((p:Int)+(q:Int))/2)=(((p+q)/2:Nat):Int) by omega];exact a6 w' _ hm
   by_cases a7:l[(p+q)/2]<s
   ·go_wp2_with (go_at_call 368;refine(KN _ _ _).mono ?_;rintro e w' ⟨rfl,rfl⟩)
    go_round
    case rel=>
     refine⟨(p+q)/2+1,q,by omega,a8,by go_num,rfl,fun t ht a9=>?_,S.out⟩;by_cases h:t=(p+q)/2
     ·subst h;exact a7
     ·have:=N.out t ((p+q)/2) ht hm aD;omega
    case measure=>simp[intOf];omega
   ·go_wp2_with (go_at_call 368;refine(KN _ _ _).mono ?_;rintro e w' ⟨rfl,rfl⟩)
    go_round
    case rel=>
     refine⟨p,(p+q)/2,by omega,by omega,rfl,by go_num,M.out,fun t ht a9=>?_⟩;by_cases h:t=(p+q)/2
     ·subst h;omega
     ·have:=N.out ((p+q)/2) t hm ht aD;omega
    case measure=>simp[intOf];omega
  ·have D:p=q:=aD;by_cases F:p<l.length
   ·have b6:=hc p F;by_cases O:l[p]=s
    ·have ht:(l[p]==s)=true:=by simp[O]
     have K:gQ l s=true:=by rw[<-O];exact WB l p F
     have R:=aH K;clear O K D;go_wp2_with (go_at_call 369;refine(SX _ _).mono ?_;rintro e w' ⟨rfl,rfl⟩);go_ret2;exact⟨⟨p,by rw[R.out];rfl⟩,rfl⟩
    ·have ht:(l[p]==s)=false:=by simp[O]
     have K:gQ l s=false:=BR fun t I Z=>by
      rcases Nat.lt_trichotomy t p with h|h|h
      ·have:=M.out t I h;omega
      ·subst h;exact O Z
      ·have h1:=S.out p F aD;have h2:=N.out p t F I h;omega
     have R:=aH K;clear O K D;go_wp2_with (go_at_call 369;refine(SX _ _).mono ?_;rintro e w' ⟨rfl,rfl⟩);go_ret2;exact⟨⟨p,by rw[R.out];rfl⟩,rfl⟩
   ·have K:gQ l s=false:=BR fun t I Z=>by have:=M.out t I aD;omega
    have R:=aH K;clear K D;go_wp2;go_ret2;exact⟨⟨p,by rw[R.out];rfl⟩,rfl⟩
theorem zK(g:Int)(l:List Int)(v:Value)(s:Int)(w:World)(D:aK w v l)(z:l.Pairwise (· < ·))(hl:l.length<=1048576):
  Calls prog 295 #[.agg #[g,v],s] w fun e w'=>e=.returned (.bool (gQ l s))/\Below w w w':=by
 obtain⟨F,I,rfl⟩:=D.shape;have H:=aH z;clear z;go_enter func295,ntmps295;go_wp2_with (go_at_call 347;refine(TG l _ _ _ (D.alloc _) H.out hl).mono ?_;rintro e w' ⟨⟨i,rfl⟩,rfl⟩);go_ret;exact⟨rfl,bF _ _⟩
def cX(l:List Int):Int:=l.foldl eH 0
theorem xD(g:Nat)(l:List Int)(h:∀s∈l,0<=s/\s<2^g):∀z,0<=z->z<2^g->0<=l.foldl eH z/\l.foldl eH z<2^g:=by
 induction l with
 |nil=>intro z D h1;exact⟨D,h1⟩
 |cons a l ih=>intro z D h1;have F:=h a (by simp);have I:=AJ z a g D F.1 h1 F.2;exact ih (fun s J=>h s (by simp[J])) _ I.1 I.2
theorem lZ(l:List Int)(v:Value)(w:World)(N:aK w v l)(h:∀s∈l,0<=s/\s<64):
  Calls prog 314 #[v] w fun e w'=>e=.returned (cX l)/\w=w':=by
 obtain⟨a,b,O,c,rfl,I,J,hc,hb⟩:=N.view prog 25 3 underlying25 aN;go_enter func314,ntmps314;go_wp2;go_loop [3,8] (fun m i=>∃k:Nat,k<=l.length/\i=aG k/\m=aG (cX (l.take k))) (fun _ i=>l.length-(intOf i).toNat)
 case atStart=>exact⟨0,Nat.zero_le _,rfl,rfl⟩
 case round=>
  obtain⟨k,hk,rfl,rfl⟩:=hrel;have z:=xD 6 (l.take k) (fun s M=>by have:=h s (List.mem_of_mem_take M);simpa using this) 0 aD aQ;obtain⟨m,hm⟩:=aJ (cX (l.take k));rw[show(l.take k).foldl eH 0=m from hm.symm]at z;rw[<-hm];have F:=aH hm;have h1:0<=m:=z.1;have h2:m<64:=by simpa using z.2
  clear hm z;by_cases hlt:k<l.length
  ·have D:=h _ (List.getElem_mem hlt);have K:=sJ h1 aD D.1 aD;go_wp2;go_round
   case rel=>exact⟨k+1,by omega,by go_num,by unfold cX;rw[xS _ _ _ _ hlt];rw[F.out];rfl⟩
   case measure=>simp[intOf];omega
  ·go_wp2;go_ret;exact⟨fL (by rw[F.out];unfold cX;rw[LY _ _ _ _ aD]),rfl⟩
theorem iT(n:Int)(v:Value)(l:List Int)(w:World)(z:aK w v l)(I:0<=n)(h1:n<=40):
  Calls prog 302 #[.agg #[n,v]] w fun e w'=>e=.returned (aG (2^n.toNat-1))/\Below w w w':=by
 obtain⟨D,F,rfl⟩:=z.shape;have h2:=cJ n.toNat 40 aD;have h3:=h2.1;have h4:=h2.2;simp at h3;clear h2;go_enter func302,ntmps302;go_wp2;go_ret;exact⟨rfl,bF _ _⟩
def WI(g:Int)(l x:List Int):Bool:=aU g l&&x.all (gQ l)&&(cX x==2^g.toNat-1)
theorem dR{g:Int}{l:List Int}(h:aU g l=true):∀s∈l,0<=s/\s<64:=by
 obtain⟨z,D,F,_⟩:=dB h;intro s hm;have:=F s hm;have:=lH z D;omega
def cA(p:Nat->Bool):Nat->Bool
 |0=>true
 |k+1=>cA p k&&p k
theorem cW{p:Nat->Bool}{k n:Nat}(h:k<n)(z:p k=false):cA p n=false:=by
 induction n with
 |zero=>omega
 |succ n ih=>
  rw[cA];by_cases hk:k=n
  ·rw[<-hk,z];simp
  ·rw[ih aD];rfl
theorem dG{p:Nat->Bool}{k:Nat}(h:cA p k=true)(z:p k=true):cA p (k+1)=true:=by rw[cA,h,z];rfl
theorem aS(l:List Int)(k:Nat)(h:k<l.length):l.getD k 0=l[k]:=by rw[List.getD_eq_getElem?_getD,List.getElem?_eq_getElem h,Option.getD_some]
def qQ(l:List Int)(s:Int):Bool:=l.all fun t=>bB t s != 0
def mH(g:Int)(l:List Int):Bool:=aU g l&&l.all (qQ l)
def OK(l:List Int):Bool:=cA (fun i=>cA (fun k=>bB (l.getD i 0) (l.getD k 0) != 0) (i+1)) l.length
theorem agU{p:Prop}(h:p:=by
  obtain⟨k,hk,rfl,z⟩:=hrel;have H:=aH z;clear z;by_cases hlt:k<l.length
  ·have M:=hm _ (List.getElem_mem hlt);have S:=dU M.1 (show l[k]<4611686018427387904 by omega) R aD;by_cases D:bB l[k] s=0
   ·have ht:(bB l[k] s==0)=true:=by simp[D]
    have I:(bB l[k] s != 0)=false:=by simp[D]
    have J:=aH I;clear D I;go_wp2;go_ret;exact⟨aW (by unfold qQ;rw[jK _ _ _ hlt J.out]),rfl⟩
   ·have ht:(bB l[k] s==0)=false:=by simp[D]
    have I:(bB l[k] s != 0)=true:=by simp[D]
    have J:=aH I;clear D I;go_wp2;go_round
    case rel=>exact⟨k+1,by omega,by go_num,by rw[iW _ _ _ hlt,H.out,J.out];rfl⟩
    case measure=>simp[intOf];omega
  ·go_wp2
   go_ret;exact⟨aW (by unfold qQ;rw[<-kO _ l k aD,H.out]),rfl⟩):p:=h
theorem IT(l:List Int)(v:Value)(s:Int)(w:World)(N:aK w v l)(hm:∀x∈l,0<=x/\x<64)(R:0<=s)(h1:s<64):
  Calls prog 300 #[v,s] w fun e w'=>e=.returned (.bool (qQ l s))/\w=w':=by
 obtain⟨a,b,O,c,rfl,F,K,hc,hb⟩:=N.view prog 25 3 underlying25 aN;go_enter func300,ntmps300;go_wp2;go_loop [9] (fun i=>∃k:Nat,k<=l.length/\i=aG k/\(l.take k).all (fun t=>bB t s != 0)=true) (fun i=>l.length-(intOf i).toNat)
 case atStart=>exact⟨0,Nat.zero_le _,rfl,by simp⟩
 case round=>exact agU
theorem Z1(g:Int)(l:List Int)(v:Value)(w:World)(O:aK w v l):
  Calls prog 227 #[.agg #[g,v]] w fun e w'=>e=.returned (.bool (mH g l))/\Below w w w':=by
 obtain⟨a,b,a7,c,rfl,Z,a6,hc,hb⟩:=O.view prog 25 3 underlying25 aN;have Y:=Box2.new w g (aA a l.length c) 29;go_enter func227,ntmps227;go_wp2_with fail;refine(cQ g l _ _ (O.alloc _)).mono ?_;rintro e w1 ⟨rfl,F⟩;obtain⟨d0,d1,D,z1⟩:=Y.after F;have a1:=aR hc hb D aI;have R:=O.below D aI;clear hc hb F Y
 cases N:aU g l with
 |false=>
  have J:mH g l=false:=by unfold mH;rw[N];rfl
  have K:=aH J;clear J;go_wp2;go_ret;exact⟨by rw[K.out];rfl,D⟩
 |true=>
  have hm:=dR N;have J:mH g l=l.all (qQ l):=by unfold mH;rw[N];rfl
  have K:=aH J;have S:=aH hm;clear J hm;go_wp2_with fail;go_loop [11] (fun i=>∃k:Nat,k<=l.length/\i=aG k/\(l.take k).all (qQ l)=true) (fun i=>l.length-(intOf i).toNat)
  case atStart=>exact⟨0,Nat.zero_le _,rfl,by simp⟩
  case round=>
   obtain⟨k,hk,rfl,z⟩:=hrel;have H:=aH z;clear z;by_cases hlt:k<l.length
   ·have I:=S.out _ (List.getElem_mem hlt);have hcl:=IT l (aA a l.length c) l[k] w1 R S.out I.1 I.2
    cases M:qQ l l[k]with
    |true=>
     rw[M]at hcl;go_wp2_with (go_at_call 300;refine hcl.mono ?_;rintro e w' ⟨rfl,rfl⟩);go_round
     case rel=>exact⟨k+1,by omega,by go_num,by rw[iW _ _ _ hlt,H.out,M];rfl⟩
     case measure=>simp[intOf];omega
    |false=>rw[M]at hcl;go_wp2_with (go_at_call 300;refine hcl.mono ?_;rintro e w' ⟨rfl,rfl⟩);go_ret;exact⟨aW (by rw[K.out,jK _ _ _ hlt M]),D⟩
   ·go_wp2;go_ret;exact⟨aW (by rw[K.out,<-kO _ l k aD,H.out]),D⟩
theorem WN(l:List Int)(v:Value)(w:World)(hv:aK w v l)(hm:∀x∈l,0<=x/\x<64):
  Calls prog 108 #[v] w fun e w'=>e=.returned (.bool (OK l))/\Below w w w':=by
 obtain⟨a,b,a6,c,rfl,S,Y,hc,hb⟩:=hv.view prog 25 3 underlying25 aN;have R:=aH hm;clear hm;go_enter func108,ntmps108;go_wp2;go_loopw [3] (fun i wr=>∃k m:Nat,k<=l.length/\i=aG k/\wr=w.drewN m/\cA (fun i=>cA (fun k=>bB (l.getD i 0) (l.getD k 0) != 0) (i+1)) k=true) (fun i _=>l.length-(intOf i).toNat)
 case atStart=>exact⟨0,0,Nat.zero_le _,rfl,rfl,rfl⟩
 case round=>
  obtain⟨k,m,hk,rfl,rfl,z⟩:=hrel;have H:=aH z;clear z;by_cases hlt:k<l.length
  ·have M:=R.out _ (List.getElem_mem hlt);go_wp2;go_loopw [4] (fun j wr=>∃q n:Nat,q<=k+1/\j=aG q/\wr=w.drewN n/\cA (fun q=>bB (l.getD k 0) (l.getD q 0) != 0) q=true) (fun j _=>k+1-(intOf j).toNat)
   case atStart=>exact⟨0,m,by omega,rfl,rfl,rfl⟩
   case round=>
    obtain⟨q,n,hq,rfl,rfl,I⟩:=hrel;have O:=aH I;clear I;by_cases Z:q<=k
    ·have D:q<l.length:=aD;have N:=R.out _ (List.getElem_mem D);have hA:=dU M.1 (show l[k]<4611686018427387904 by omega) N.1 (show l[q]<4611686018427387904 by omega);by_cases F:bB l[k] l[q]=0
     ·have ht:(bB l[k] l[q]==0)=true:=by simp[F]
      have J:(bB (l.getD k 0) (l.getD q 0) != 0)=false:=by rw[aS l k hlt,aS l q D];simp[F]
      have K:=aH J;clear F J;go_wp2;go_quiet (fail);go_wp2;go_ret;exact⟨aW (cW (p:=fun i=>cA (fun k=>bB (l.getD i 0) (l.getD k 0) != 0) (i+1)) hlt (cW (p:=fun q=>bB (l.getD k 0) (l.getD q 0) != 0) (show q<k+1 by omega) K.out)).symm,((Below.refl _ _).drewN' _).drewN' _⟩
     ·have ht:(bB l[k] l[q]==0)=false:=by simp[F]
      have J:(bB (l.getD k 0) (l.getD q 0) != 0)=true:=by rw[aS l k hlt,aS l q D];simp[F]
      have K:=aH J;clear F J;go_wp2;go_quiet (fail);go_wp2;go_roundw
      case rel=>exact⟨q+1,n+nq,by omega,by go_num,by simp,dG O.out K.out⟩
      case measure=>simp[intOf];omega
    ·go_wp2
     go_roundw
     case rel=>exact⟨k+1,n,by omega,by go_num,rfl,dG H.out (by rw[show k+1=q by omega];exact O.out)⟩
     case measure=>simp[intOf];omega
  ·go_wp2;go_ret;exact⟨aW (by unfold OK;rw[show l.length=k by omega,H.out]),(Below.refl _ _).drewN' _⟩
def oJ(g:Int)(l:List Int):Bool:=decide (l.length<=6)&&dZ g l
def qW(l:List Int):Nat->Int->List Int->Option (List Int)
 |0,_,list=>some list
 |n+1,used,list=>(eK (cG (l.getD list.length 0) used)).findSome? fun e=>qW l n (eH used (2^e.toNat)) (list++[e])
def I6(l:List Int)(n:Nat)(used:Int)(list:List Int)(e:Int):Option (List Int):=qW l n (eH used (2^e.toNat)) (list++[e])
theorem ST(l:List Int)(n:Nat)(used:Int)(list:List Int):qW l (n+1) used list=(eK (cG (l.getD list.length 0) used)).findSome? (I6 l n used list):=rfl
def wY(g:Int)(l:List Int):Option (List Int):=if oJ g l then qW l l.length 0 [] else none
def mI(g:Int)(l:List Int):Bool:=(wY g l).isSome
def vZ(g:Int)(l:List Int):List Int:=(wY g l).getD []
theorem FP{α β:Type}(F:α->Option β)(l:List α)(k:Nat)(h:k<l.length):(l.take (k+1)).findSome? F=((l.take k).findSome? F).or (F l[k]):=by
 rw[List.take_succ_eq_append_getElem h,List.findSome?_append]
 cases z:F l[k]<;>simp[z]
theorem VR{α β:Type}(F:α->Option β)(l:List α)(k:Nat)(h:k<l.length)(x:β)(z:(l.take k).findSome? F=none)(D:F l[k]=some x):l.findSome? F=some x:=by
 have e:l=l.take (k+1)++l.drop (k+1):=(List.take_append_drop _ _).symm;rw[e,List.findSome?_append,FP F l k h,z,D];rfl
theorem MR(e:Int)(h:0<=e/\e<6):0<(2:Int)^e.toNat/\(2:Int)^e.toNat<64:=by
 rcases(show e=0∨e=1∨e=2∨e=3∨e=4∨e=5 by omega) with rfl|rfl|rfl|rfl|rfl|rfl<;>decide
theorem I5{g:Int}{l:List Int}(h:mI g l=false):vZ g l=[]:=by
 unfold mI at h;unfold vZ
 cases hr:wY g l with
 |none=>rfl
 |some x=>rw[hr]at h;simp at h
def dY(l:List Int)(code:Nat):Nat->Int
 |0=>0
 |k+1=>if cZ code k then eH (dY l code k) (l.getD k 0) else dY l code k
def EU(l:List Int)(code:Nat):Bool:=decide (cT (dY l code l.length)<(bY code:Int))
def gP(P:Nat->Bool):Nat->Nat->Option Nat
 |0,_=>none
 |n+1,s=>if P s then some s else gP P n (s+1)
def wE(g:Int)(l:List Int):Option Nat:=if oJ g l then gP (EU l) (2^l.length) 0 else none
def wD(g:Int)(l:List Int):Bool:=(wE g l).isSome
def sX(g:Int)(l:List Int):List Int:=match wE g l with|none=>[]|some c=>eK (c:Int)
theorem tL(l:List Int)(code:Nat)(h:∀x∈l,0<=x/\x<64):∀k,k<=l.length->0<=dY l code k/\dY l code k<64:=by
 intro k
 induction k with
 |zero=>intro _;simp[dY]
 |succ k ih=>
  intro hk;have z:=ih aD;have D:=h _ (List.getElem_mem (show k<l.length by omega));rw[dY,aS l k aD]
  split
  ·exact AJ _ _ 6 z.1 D.1 z.2 D.2
  ·exact z
theorem agG(l:List Int)(h:∀x∈l,0<=x/\x<64):EU l 0=false:=by
 unfold EU;have:=tL l 0 h l.length aI;have z:=(wQ (dY l 0 l.length) aD).1;simp[MQ];exact z
theorem afS(P:Nat->Bool)(n:Nat)(h:P 0=false):gP P (n+1) 0=gP P n 1:=by rw[gP,h];rfl
theorem NP{g:Int}{l:List Int}(h:oJ g l=true):l.length<=6/\0<=g/\g<=6/\(∀s∈l,0<=s/\s<2^g.toNat)/\(∀s∈l,0<=s/\s<64):=by
 unfold oJ dZ at h;simp only[Bool.and_eq_true,decide_eq_true_eq,List.all_eq_true]at h;have z:=cR.1 h.2.1;have F:=lH z.1 z.2;have hm:∀s∈l,0<=s/\s<2^g.toNat:=fun s D=>jQ.1 (h.2.2 s D);exact⟨h.1,z.1,z.2,hm,fun s D=>by have:=hm s D;omega⟩
end
end Go.Proofs.YtkdbkjjacgigiaaGreatDoor
