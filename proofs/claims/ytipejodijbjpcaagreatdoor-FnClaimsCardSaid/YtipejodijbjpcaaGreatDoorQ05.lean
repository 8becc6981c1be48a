/- Lemmas for CardClaims, part 5 of 52. No condition. -/
import Derived.Test.YtipejodijbjpcaaGreatDoorQ02
import Derived.Test.YtipejodijbjpcaaGreatDoorQ03
import Derived.Test.YtipejodijbjpcaaGreatDoorQ04
import Derived.Shelf.Abstract
import Derived.Deep.AppendLies
import Derived.Deep.RegionLaw
import Derived.StillTailTactics
import Derived.Lib.SplitLaws
set_option maxRecDepth 100000
set_option maxHeartbeats 64000000
namespace Go.Proofs.YtipejodijbjpcaaGreatDoor
section
open Go.RowKit Go.G5
def dB(l:List Int)(z o:Int):Bool:=l.all fun x=>cM x z o
theorem kV(l:List Int)(v:Value)(A z:Int)(w:World)(K:aD w v l):
  Calls Tryz.prog 131 #[v,.int .i64 A,.int .i64 z] w fun e w'=>e=.returned (.bool (dB l A z))/\w=w':=by
 obtain⟨a,b,L,c,rfl,D,I,M,hb⟩:=K.view Tryz.prog 22 3 Tryz.underlying22 aG;go_enter Tryz.func131,Tryz.ntmps131;go_wp2;go_loop [11] (fun i=>∃k:Nat,k<=l.length/\i=.int .i64 k/\(l.take k).all (fun x=>cM x A z)=true) (fun i=>l.length-(intOf i).toNat)
 case atStart=>exact⟨0,Nat.zero_le _,rfl,by simp⟩
 case round=>
  obtain⟨k,N,rfl,o⟩:=hrel;have H:=Lib.hid o;clear o
  by_cases hlt:k<l.length
  ·cases F:cM l[k] A z with
   |true=>
    go_wp2_with (go_at_call 143;refine(fN _ _ _ _).mono ?_;rintro e w' ⟨rfl,rfl⟩);go_round
    case rel=>exact⟨k+1,by omega,by go_num,by rw[dD _ _ _ hlt,H.out,F];rfl⟩
    case measure=>simp[intOf];omega
   |false=>
    go_wp2_with (go_at_call 143;refine(fN _ _ _ _).mono ?_;rintro e w' ⟨rfl,rfl⟩);go_ret;exact⟨aE (by unfold dB;rw[gB _ _ _ hlt F]),rfl⟩
  ·go_wp2
   go_ret;exact⟨aE (by unfold dB;rw[<-eH (fun x=>cM x A z) l k (by omega),H.out]),rfl⟩
def aN(n:Int)(l:List Int):Bool:=cM n 0 5&&decide ((l.length:Int)=2^n.toNat)&&dB l (-1000) 1000
theorem iX{g:Int}(o:0<=g)(z:g<=5):(2:Int)^g.toNat<=32/\0<(2:Int)^g.toNat:=by
 have:=bJ g.toNat 5 (by omega);simpa using this
theorem jS{n:Int}{l:List Int}(h:aN n l=true):0<=n/\n<=5/\(l.length:Int)=2^n.toNat/\(∀k,(o:k<l.length)->-1000<=l[k]/\l[k]<=1000):=by
 unfold aN dB at h;simp only[Bool.and_eq_true,List.all_eq_true,decide_eq_true_eq]at h;obtain⟨⟨h1,h2⟩,h3⟩:=h;have:=bL.1 h1;exact⟨this.1,this.2,h2,fun k o=>bL.1 (h3 _ (List.getElem_mem o))⟩
theorem eZ(n:Int)(l:List Int)(v:Value)(w:World)(O:aD w v l):
  Calls Tryz.prog 111 #[.agg #[.int .i64 n,v]] w fun e w'=>e=.returned (.bool (aN n l))/\Below w.heap.size w w':=by
 obtain⟨a,b,S,c,rfl,N,Q,I,hb⟩:=O.view Tryz.prog 22 3 Tryz.underlying22 aG
 cases o:cM n 0 5 with
 |false=>
  have z:aN n l=false:=by unfold aN;rw[o];rfl
  have D:=Lib.hid z;clear z I;go_enter Tryz.func111,Tryz.ntmps111;go_wp2_with (go_at_call 143;refine(fN _ _ _ _).mono ?_;rintro e w' ⟨rfl,rfl⟩);go_ret;exact⟨by rw[D.out];rfl,aM _ _⟩
 |true=>
  have F:=bL.1 o;have L:0<=n:=F.1;have M:n<=5:=F.2;have Y:=(iX L M).1;have R:=(iX L M).2
  by_cases A:(l.length:Int)=2^n.toNat
  ·have z:aN n l=dB l (-1000) 1000:=by unfold aN;rw[o,decide_eq_true A];rfl
   have K:((l.length:Int) != 2^n.toNat)=false:=by simp[A]
   have D:=Lib.hid z;have U:=Lib.hid A;clear z I F A;go_enter Tryz.func111,Tryz.ntmps111;go_wp2_with (first
    |(go_at_call 143;refine(fN _ _ _ _).mono ?_;rintro e w' ⟨rfl,rfl⟩)
    |(go_at_call 131;refine(kV l _ _ _ _ (O.alloc _)).mono ?_;rintro e w' ⟨rfl,rfl⟩))
   go_ret;exact⟨by rw[D.out];rfl,aM _ _⟩
  ·have z:aN n l=false:=by unfold aN;rw[o,decide_eq_false A];rfl
   have K:((l.length:Int) != 2^n.toNat)=true:=by simp[A]
   have D:=Lib.hid z;clear z I F A;go_enter Tryz.func111,Tryz.ntmps111;go_wp2_with (go_at_call 143;refine(fN _ _ _ _).mono ?_;rintro e w' ⟨rfl,rfl⟩);go_ret;exact⟨by rw[D.out];rfl,aM _ _⟩
theorem cI(n:Int)(l:List Int)(v:Value)(w:World)(Z:aD w v l):
  Calls Tryz.prog 129 #[.agg #[.int .i64 n,v]] w fun e w'=>e=.returned (.bool (aN n l))/\Below w.heap.size w w':=by
 obtain⟨a,b,a1,c,rfl,R,U,Q,hb⟩:=Z.view Tryz.prog 22 3 Tryz.underlying22 aG;have K:=aK Q hb (aM w (.cells #[.int .i64 n,.slice a l.length c] 32)) (Nat.le_refl _);clear Q
 cases o:cM n 0 5 with
 |false=>
  have D:aN n l=false:=by unfold aN;rw[o];rfl
  have I:=Lib.hid D;have z:=Lib.hid o;clear D K o;go_enter Tryz.func129,Tryz.ntmps129;go_wp2;go_quiet ((go_at_call 188;first|exact iN (aR _ _ _ _) z.out|exact kE (aR _ _ _ _) z.out));go_wp2;go_ret;exact⟨by rw[I.out];rfl,(aM _ _).drewN' _⟩
 |true=>
  have L:=bL.1 o;have N:0<=n:=L.1;have O:n<=5:=L.2;have hp:=(iX N O).1;have Y:=(iX N O).2;have z:=Lib.hid o;clear o
  by_cases F:(l.length:Int)=2^n.toNat
  ·have D:aN n l=dB l (-1000) 1000:=by unfold aN;rw[z.out,decide_eq_true F];rfl
   have M:((l.length:Int) != 2^n.toNat)=false:=by simp[F]
   have I:=Lib.hid D;have HL:=Lib.hid F;clear D L F;go_enter Tryz.func129,Tryz.ntmps129;go_wp2;go_quiet ((go_at_call 188;first|exact iN (aR _ _ _ _) z.out|exact kE (aR _ _ _ _) z.out));go_wp2;go_loop [3] (fun i=>∃k:Nat,k<=l.length/\i=.int .i64 k/\(l.take k).all (fun x=>cM x (-1000) 1000)=true) (fun i=>l.length-(intOf i).toNat)
   case atStart=>exact⟨0,Nat.zero_le _,rfl,by simp⟩
   case round=>
    obtain⟨k,hk,rfl,A⟩:=hrel;have H:=Lib.hid A;clear A
    by_cases hlt:k<l.length
    ·cases S:cM l[k] (-1000) 1000 with
     |true=>
      go_wp2_with (go_at_call 188;refine(aR _ _ _ _).mono ?_;rintro e w' ⟨rfl,rfl⟩);go_round
      case rel=>exact⟨k+1,by omega,by go_num,by rw[dD _ _ _ hlt,H.out,S];rfl⟩
      case measure=>simp[intOf];omega
     |false=>
      go_wp2_with (go_at_call 188;refine(aR _ _ _ _).mono ?_;rintro e w' ⟨rfl,rfl⟩);go_ret;exact⟨aE (by rw[I.out];unfold dB;rw[gB _ _ _ hlt S]),(aM _ _).drewN' _⟩
    ·go_wp2
     go_ret;exact⟨aE (by rw[I.out];unfold dB;rw[<-eH (fun x=>cM x (-1000) 1000) l k (by omega),H.out]),(aM _ _).drewN' _⟩
  ·have D:aN n l=false:=by unfold aN;rw[z.out,decide_eq_false F];rfl
   have M:((l.length:Int) != 2^n.toNat)=true:=by simp[F]
   have I:=Lib.hid D;clear D L F K;go_enter Tryz.func129,Tryz.ntmps129;go_wp2;go_quiet ((go_at_call 188;first|exact iN (aR _ _ _ _) z.out|exact kE (aR _ _ _ _) z.out));go_wp2;go_ret;exact⟨by rw[I.out];rfl,(aM _ _).drewN' _⟩
def bP(n:Int)(l:List Int):Bool:=aN n l&&decide (l.getD 0 0=0)
theorem nC(n:Int)(l:List Int)(v:Value)(w:World)(R:aD w v l):
  Calls Tryz.prog 119 #[.agg #[.int .i64 n,v]] w fun e w'=>e=.returned (.bool (bP n l))/\Below w.heap.size w w':=by
 obtain⟨a,b,D,c,rfl,Q,M,N,hb⟩:=R.view Tryz.prog 22 3 Tryz.underlying22 aG;go_enter Tryz.func119,Tryz.ntmps119;go_wp2_with fail;refine(eZ n l _ _ (R.alloc _)).mono ?_;rintro e S ⟨rfl,z⟩;have d1:=keep z (aT w #[.int .i64 n,.slice a l.length c] 32 1 _ rfl);have F:Below w.heap.size w S:=(aM _ _).after z (by first|omega|(simp;done)|(simp;omega));have K:=aK N hb F (Nat.le_refl _);clear N hb z
 cases L:aN n l with
 |false=>
  have A:bP n l=false:=by unfold bP;rw[L];rfl
  have I:=Lib.hid A;clear A;go_wp2;go_ret;exact⟨by rw[I.out];rfl,F⟩
 |true=>
  obtain⟨U,Y,hl,_⟩:=jS L;have hp:=(iX U Y).2;have o:0<l.length:=by omega
  have A:bP n l=(l[0]==0):=by
   unfold bP;rw[L,List.getD_eq_getElem?_getD,List.getElem?_eq_getElem o];simp only[Option.getD_some,Bool.true_and]
   rfl
  have I:=Lib.hid A;have O:∀w',(Instr.indexAt 22 (.slice a l.length c) (.int .i64 0)).run Tryz.prog w'=.ok (.pointer (some ⟨b,D,none⟩)) w':=fun w'=>by simpa using M w' 0 o
  have Z:S.cell? ⟨b,D,none⟩=some (.int .i64 l[0]):=K 0 o;clear A hl;go_wp2;go_ret;exact⟨by rw[I.out];rfl,F⟩
theorem kJ(n:Int)(l:List Int)(v:Value)(w:World)(R:aD w v l):
  Calls Tryz.prog 20 #[.agg #[.int .i64 n,v]] w fun e w'=>e=.returned (.bool (bP n l))/\Below w.heap.size w w':=by
 obtain⟨a,b,D,c,rfl,Q,M,N,hb⟩:=R.view Tryz.prog 22 3 Tryz.underlying22 aG;go_enter Tryz.func20,Tryz.ntmps20;go_wp2_with fail;refine(cI n l _ _ (R.alloc _)).mono ?_;rintro e S ⟨rfl,z⟩;have d1:=keep z (aT w #[.int .i64 n,.slice a l.length c] 32 1 _ rfl);have F:Below w.heap.size w S:=(aM _ _).after z (by first|omega|(simp;done)|(simp;omega));have K:=aK N hb F (Nat.le_refl _);clear N hb z
 cases L:aN n l with
 |false=>
  have A:bP n l=false:=by unfold bP;rw[L];rfl
  have I:=Lib.hid A;clear A;go_wp2;go_ret;exact⟨by rw[I.out];rfl,F⟩
 |true=>
  obtain⟨U,Y,hl,_⟩:=jS L;have hp:=(iX U Y).2;have o:0<l.length:=by omega
  have A:bP n l=(l[0]==0):=by
   unfold bP;rw[L,List.getD_eq_getElem?_getD,List.getElem?_eq_getElem o];simp only[Option.getD_some,Bool.true_and]
   rfl
  have I:=Lib.hid A;have O:∀w',(Instr.indexAt 22 (.slice a l.length c) (.int .i64 0)).run Tryz.prog w'=.ok (.pointer (some ⟨b,D,none⟩)) w':=fun w'=>by simpa using M w' 0 o
  have Z:S.cell? ⟨b,D,none⟩=some (.int .i64 l[0]):=K 0 o;clear A hl;go_wp2;go_ret;exact⟨by rw[I.out];rfl,F⟩
def bR(s:Int)(e:Nat):Int:=s/2^e%2
theorem dY(s:Int)(k:Nat)(o:0<=s)(h1:s<4611686018427387904):bits BinOp.and IntKind.i64 (s/2^k) 1=bR s k:=by
 have A:0<=s/2^k:=Int.ediv_nonneg o (by have:=(bJ k k (Nat.le_refl _)).2;omega);have z:s/2^k<=s:=Int.ediv_le_self _ o;have:=FT (s/2^k).toNat (by omega);rw[show(((s/2^k).toNat:Nat):Int)=s/2^k by omega]at this;rw[this];unfold bR;omega
def cP(x:List Int)(s:Int):Nat->Int
 |0=>0
 |k+1=>if bR s k=1 then cP x s k+x.getD k 0 else cP x s k
def wt(x:List Int)(s:Int):Int:=cP x s x.length
theorem wT(x:List Int)(s:Int)(h:∀k,(o:k<x.length)->-1000000<=x[k]/\x[k]<=1000000)(k:Nat)(o:k<=x.length):-1000000*(k:Int)<=cP x s k/\cP x s k<=1000000*(k:Int):=by
 induction k with
 |zero=>simp[cP]
 |succ k ih=>
  have h1:=ih (by omega);have h2:=h k (by omega);rw[cP,List.getD_eq_getElem?_getD,List.getElem?_eq_getElem (show k<x.length by omega),Option.getD_some]
  split<;>omega
theorem lN(x:List Int)(v:Value)(s:Int)(w:World)(S:aD w v x)(Q:0<=s)(h1:s<1073741824)(N:∀k,(L:k<x.length)->-1000000<=x[k]/\x[k]<=1000000)(hl:x.length<=60):
  Calls Tryz.prog 132 #[v,.int .i64 s] w fun e w'=>e=.returned (.int .i64 (wt x s))/\w=w':=by
 obtain⟨a,b,Y,c,rfl,M,R,Z,hb⟩:=S.view Tryz.prog 22 3 Tryz.underlying22 aG;go_enter Tryz.func132,Tryz.ntmps132;go_wp2;go_loop [5,10] (fun m i=>∃k:Nat,k<=x.length/\i=.int .i64 k/\m=.int .i64 (cP x s k)) (fun _ i=>x.length-(intOf i).toNat)
 case atStart=>exact⟨0,Nat.zero_le _,rfl,rfl⟩
 case round=>
  obtain⟨k,L,rfl,rfl⟩:=hrel;have A:=wT x s N k L;obtain⟨m,D⟩:∃m,m=cP x s k:=⟨_,rfl⟩;rw[<-D]at A ⊢;have F:=Lib.hid D;clear D
  by_cases hlt:k<x.length
  ·have U:=N k hlt
   have K:=dY s k Q (by omega);have z:cP x s (k+1)=if bR s k=1 then m+x[k] else m:=by
    rw[cP,<-F.out,List.getD_eq_getElem?_getD,List.getElem?_eq_getElem hlt,Option.getD_some]
   have I:=Lib.hid z;clear z
   by_cases o:bR s k=1
   ·have ht:(bR s k==1)=true:=by simp[o]
    have O:=Lib.hid o;clear o;go_wp2;go_round
    case rel=>exact⟨k+1,by omega,by go_num,by rw[I.out,if_pos O.out]⟩
    case measure=>simp[intOf];omega
   ·have ht:(bR s k==1)=false:=by simp[o]
    go_wp2;go_round
    case rel=>exact⟨k+1,by omega,by go_num,by rw[I.out,if_neg o]⟩
    case measure=>simp[intOf];omega
  ·go_wp2
   go_ret;exact⟨eJ (by rw[F.out,show k=x.length from by omega];rfl),rfl⟩
theorem gS(x:List Int)(v:Value)(s:Int)(w:World)(S:aD w v x)(Q:0<=s)(h1:s<1073741824)(N:∀k,(L:k<x.length)->-1000000<=x[k]/\x[k]<=1000000)(hl:x.length<=60):
  Calls Tryz.prog 186 #[v,.int .i64 s] w fun e w'=>e=.returned (.int .i64 (wt x s))/\w=w':=by
 obtain⟨a,b,Y,c,rfl,M,R,Z,hb⟩:=S.view Tryz.prog 22 3 Tryz.underlying22 aG;go_enter Tryz.func186,Tryz.ntmps186;go_wp2;go_loop [5,6] (fun m i=>∃k:Nat,k<=x.length/\i=.int .i64 k/\m=.int .i64 (cP x s k)) (fun _ i=>x.length-(intOf i).toNat)
 case atStart=>exact⟨0,Nat.zero_le _,rfl,rfl⟩
 case round=>
  obtain⟨k,L,rfl,rfl⟩:=hrel;have A:=wT x s N k L;obtain⟨m,D⟩:∃m,m=cP x s k:=⟨_,rfl⟩;rw[<-D]at A ⊢;have F:=Lib.hid D;clear D
  by_cases hlt:k<x.length
  ·have U:=N k hlt
   have K:=dY s k Q (by omega);have z:cP x s (k+1)=if bR s k=1 then m+x[k] else m:=by
    rw[cP,<-F.out,List.getD_eq_getElem?_getD,List.getElem?_eq_getElem hlt,Option.getD_some]
   have I:=Lib.hid z;clear z
   by_cases o:bR s k=1
   ·have ht:(bR s k==1)=true:=by simp[o]
    have O:=Lib.hid o;clear o;go_wp2;go_round
    case rel=>exact⟨k+1,by omega,by go_num,by rw[I.out,if_pos O.out]⟩
    case measure=>simp[intOf];omega
   ·have ht:(bR s k==1)=false:=by simp[o]
    go_wp2;go_round
    case rel=>exact⟨k+1,by omega,by go_num,by rw[I.out,if_neg o]⟩
    case measure=>simp[intOf];omega
  ·go_wp2
   go_ret;exact⟨eJ (by rw[F.out,show k=x.length from by omega];rfl),rfl⟩
end
section
open Go.RowKit Go.G5
structure BoxAt (wr:World) (B:Nat) (x y:Value):Prop where
 d0:wr.cell? ⟨B,0,none⟩=some x
 d1:wr.cell? ⟨B,1,none⟩=some y
 f0:wr.frozen? ⟨B,0,none⟩=false
 f1:wr.frozen? ⟨B,1,none⟩=false
theorem BoxAt.lt{wr:World}{B:Nat}{x y:Value}(h:BoxAt wr B x y):B<wr.heap.size:=World.block_lt_of_cell? wr _ h.d0
theorem BoxAt.keep{wr w2:World}{B:Nat}{x y:Value}(h:BoxAt wr B x y)(hb:Below wr.heap.size wr w2):BoxAt w2 B x y:=
 ⟨G5.keep hb h.d0,G5.keep hb h.d1,(hb.frozen (p:=⟨B,0,none⟩) h.lt).trans h.f0,(hb.frozen (p:=⟨B,1,none⟩) h.lt).trans h.f1⟩
theorem BoxAt.grow{wr w2:World}{row:Option Nat}{B:Nat}{x y:Value}(h:BoxAt wr B x y)(z:wr.grownBy w2 row)(o:row≠some B):BoxAt w2 B x y:=
 ⟨G5.grown_keep z h.d0 (fun k A e=>o (by rw[A,<-e])),G5.grown_keep z h.d1 (fun k A e=>o (by rw[A,<-e])),
  by rw[World.frozen?_of_block (z.block B h.lt (fun e=>o e.symm))];exact h.f0,by rw[World.frozen?_of_block (z.block B h.lt (fun e=>o e.symm))];exact h.f1⟩
theorem BoxAt.set1{wr:World}{B:Nat}{x y:Value}(h:BoxAt wr B x y)(v:Value):BoxAt (wr.setCell ⟨B,1,none⟩ v) B x v:=
 ⟨by rw[World.cell?_setCell_other _ _ _ _ (by simp)];exact h.d0,World.cell?_setCell_same _ _ _ h.d1,by rw[World.frozen?_setCell];exact h.f0,by rw[World.frozen?_setCell];exact h.f1⟩
theorem BoxAt.other{wr:World}{B B' j:Nat}{x y:Value}(h:BoxAt wr B x y)(o:B'≠B)(v:Value):BoxAt (wr.setCell ⟨B',j,none⟩ v) B x y:=
 ⟨by rw[World.cell?_setCell_other _ _ _ _ (fun e=>o (congrArg Addr.block e))];exact h.d0,by rw[World.cell?_setCell_other _ _ _ _ (fun e=>o (congrArg Addr.block e))];exact h.d1,by rw[World.frozen?_setCell];exact h.f0,by rw[World.frozen?_setCell];exact h.f1⟩
theorem BoxAt.new(w:World)(x y:Value)(T:TypeId):BoxAt (w.alloc (.cells #[x,y] T)) w.heap.size x y:=
 ⟨aT w #[x,y] T 0 _ rfl,aT w #[x,y] T 1 _ rfl,World.frozen?_alloc_at _ _ _ _ rfl,World.frozen?_alloc_at _ _ _ _ rfl⟩
def fB(P:Nat->Bool)(k:Nat):List Int:=((List.range k).filter P).map Int.ofNat
theorem gQ(P:Nat->Bool)(k:Nat):fB P (k+1)=if P k then fB P k++[(k:Int)] else fB P k:=by
 unfold fB;rw[List.range_succ,List.filter_append,List.map_append]
 by_cases h:P k=true
 ·simp[h]
 ·simp[h]
theorem qG(P:Nat->Bool)(k:Nat):(fB P k).length<=k:=by
 unfold fB;rw[List.length_map];have:=List.length_filter_le P (List.range k);simpa using this
end
section
open Go.RowKit Go.G5
def bM(F:Nat->Int)(k:Nat):List Int:=(List.range k).map F
theorem nO(F:Nat->Int)(k:Nat):bM F (k+1)=bM F k++[F k]:=by unfold bM;rw[List.range_succ,List.map_append];rfl
theorem yZ(w:World)(n:Nat)(hn:n<=5)(c:FuncId)(he:∀args w,(callFunc c args).run Tryz.prog w=.ok (.enter c args) w)(g:Nat)(F:Nat->Int)(hF:∀s,s<2^n->bA (F s))
  (Y:∀(s:Nat) W',s<2^n->Below w.heap.size w W'->Calls Tryz.prog c #[.int .i64 (s:Int),.pointer (some ⟨g,0,none⟩)] W' fun e w2=>e=.returned (.int .i64 (F s))/\Below W'.heap.size W' w2):
  Calls Tryz.prog 273 #[.int .i64 (n:Int),.func (.func c) #[] #[.pointer (some ⟨g,0,none⟩)]] w fun e w'=>
   ∃A i D,e=.returned (.tuple #[.agg #[.int .i64 (if aN n (bM F (2^n)) then (n:Int) else 0),.slice A i D],.bool (aN n (bM F (2^n)))])/\aC 3 w.heap.size w' (.slice A i D) (if aN n (bM F (2^n)) then bM F (2^n) else [])/\Below w.heap.size w w':=by
 have b4:(2:Nat)^n<=32:=Nat.pow_le_pow_right (by decide) hn;have b3:=Nat.two_pow_pos n;have M:((2^n:Nat):Int)=(2:Int)^n:=by simp
 obtain⟨N,hN⟩:∃N:Nat,N=2^n:=⟨_,rfl⟩;rw[<-hN]at Y hF b4 b3 M ⊢;clear hN;have r0:=(BoxAt.new w (.int .i64 0) (.slice none 0 0) 32);have r1:=r0.keep (aM _ (.cells #[.int .i64 n,.slice none 0 0] 32));have b1:=BoxAt.new (w.alloc (.cells #[.int .i64 0,.slice none 0 0] 32)) (.int .i64 n) (.slice none 0 0) 32;go_enter Tryz.func273,Tryz.ntmps273;go_wp2_with fail;go_loopw [13] (fun i wr=>∃(k:Nat) (A:Option Addr) (S D:Nat),k<=N/\i=.int .i64 k/\aC 3 (w.heap.size+1+1) wr (.slice A S D) (bM F k)/\Below w.heap.size w wr /\
   BoxAt wr w.heap.size (.int .i64 0) (.slice none 0 0)/\BoxAt wr (w.heap.size+1) (.int .i64 n) (.slice A S D))
  (fun i _=>N-(intOf i).toNat)
 case atStart=>exact⟨0,none,0,0,Nat.zero_le _,rfl,aC.nil _ _ _,(by repeat(first|exact Below.refl _ _|(with_reducible refine Below.setCell ?_ (by first|omega|(simp;done)|(simp;omega)) _)|(with_reducible refine Below.alloc ?_ (by first|omega|(simp;done)|(simp;omega)) _)|(with_reducible refine Below.drewN' ?_ _)|(with_reducible refine Below.drew ?_)|(with_reducible assumption)|refine Below.trans ?_ (Below.mono (by assumption) (by first|omega|(simp;done)|(simp;omega))))),r1,by simpa using b1⟩
 case round=>
  obtain⟨k,A,S,D,hk,rfl,O,B,R,X⟩:=hrel;clear r0 r1 b1
  by_cases hlt:k<N
  ·have Q:(k:Int)<2^n:=by rw[<-M];exact_mod_cast hlt
   have zr:=R.lt;have zx:=X.lt;have a8:=hF k hlt;have d0:(bM F k).length=k:=by simp[bM]
   have f7:(bM F k).length<=64:=by omega
   have z:=O.lt;have Z:=Lib.hid O;have HR:=Lib.hid R;have K:=Lib.hid X;obtain⟨e0,e1,g0,g1⟩:=X;clear O R;have a9:=Y k wr.drew hlt B.drew;clear Y;go_wp2;go_region_law
     (first
      |(go_simp;go_at_fn c;refine a9.mono ?_;rintro e w2 ⟨rfl,o⟩;have U:=K.out.keep ((Below.refl _ _).drew.after o (Nat.le_refl _));have X3:=U.keep (aM w2 (.cells #[.int .i64 (F k)] 3));have g4:=U.lt;have x1:=U.d1;have x2:=U.f1;have x3:=X3.d1;have x4:=X3.f1)
      |(refine lM rfl _ _ _ rfl 3 Tryz.underlying22 aG (w.heap.size+1+1) _ _ (F k) w2.heap.size rfl rfl (aT w2 #[.int .i64 (F k)] 3 0 _ rfl) ((Z.out.keep ((Below.refl _ _).drew.after o (Nat.le_refl _))).alloc (.cells #[.int .i64 (F k)] 3)) a8 (by omega) (by simp;omega) ?_;intro v' w6 I L;obtain⟨av,nv,cv,rfl⟩:=I.shape3;have X6:=X3.grow L (fun e=>by have:=(z _ e).1;omega);obtain⟨i0,i1,j0,j1⟩:=X6))
   all_goals
    have B6:Below w.heap.size w w6:=(((B.drew).after o B.size).alloc (B.drew.after o B.size).size (.cells #[.int .i64 (F k)] 3)).grown L (by simp;omega) (fun q hq=>by have:=(z q hq).1;omega);have R6:=((HR.out.keep ((Below.refl _ _).drew.after o (Nat.le_refl _))).keep (aM w2 (.cells #[.int .i64 (F k)] 3))).grow L (fun e=>by have:=(z _ e).1;omega);go_wp2;go_roundw
    case rel=>exact⟨k+1,av,nv,cv,by omega,by go_num,by rw[nO];exact I.setBelow (by first|omega|(simp;done)|(simp;omega)) _,B6.setCell (by first|omega|(simp;done)|(simp;omega)) _,R6.other (by omega) _,(BoxAt.mk i0 i1 j0 j1).set1 _⟩
    case measure=>simp[intOf];omega
  ·have Q:¬(k:Int)<2^n:=by rw[<-M];exact_mod_cast hlt
   have b0:k=N:=by omega
   subst b0;have Z:=Lib.hid O;have HR:=Lib.hid R;have K:=Lib.hid X;obtain⟨e0,e1,g0,g1⟩:=X;have hi:=O.ints;clear O Y R;go_wp2_with fail;refine(eZ n _ _ _ hi).mono ?_;rintro e w2 ⟨rfl,o⟩;have B2:=B.after o B.size;have o2:=Z.out.keep o;have a1:=Lib.hid o2;obtain⟨f0,f1,j0,j1⟩:=HR.out.keep o;obtain⟨i0,i1,q0,q1⟩:=K.out.keep o;clear e0 e1 g0 g1 o B o2 hi
   cases hf:aN n (bM F k) with
   |false=>
     have HF:=Lib.hid hf;go_wp2
     all_goals refine bodyPost_ret (v:=.tuple #[.agg #[.int .i64 0,.slice none 0 0],.bool false]) (by simp[results,Tryz.results273,go_sem,f0,f1]) rfl ⟨none,0,0,rfl,aC.nil _ _ _,Below.setCell (Below.setCell B2 (Nat.le_refl _) _) (Nat.le_refl _) _⟩
   |true=>
     have HF:=Lib.hid hf;go_wp2;refine bodyPost_ret (v:=.tuple #[.agg #[.int .i64 n,.slice A S D],.bool true]) (by simp[results,Tryz.results273,go_sem,f0,f1]) rfl ⟨A,S,D,rfl,?_,?_⟩
     ·exact((a1.out.setBelow (by first|omega|(simp;done)|(simp;omega)) _).setBelow (by first|omega|(simp;done)|(simp;omega)) _).mono (by first|omega|(simp;done)|(simp;omega))
     ·exact Below.setCell (Below.setCell B2 (Nat.le_refl _) _) (Nat.le_refl _) _
end
section
open Go.RowKit Go.G5
end
section
open Go.RowKit Go.G5
def zZ(l:List Int)(s:Nat):Nat->Int
 |0=>0
 |k+1=>if dE k s=0 then (if aY (dE s k)%2=1 then zZ l s k-l.getD k 0 else zZ l s k+l.getD k 0) else zZ l s k
def YD(l:List Int):List Int:=(List.range l.length).map fun s=>zZ l s (s+1)
end
section
open Go.RowKit Go.G5
theorem uL(w:World)(n:Int)(o:Option Addr)(i A:Nat)(l:List Int)(K:aD w (.slice o i A) l)(F:aN n l=true):
  Calls Tryz.prog 113 #[.int .i64 n,.slice o i A] w fun e w'=>e=.returned (.tuple #[.agg #[.int .i64 n,.slice o i A],.bool true])/\Below w.heap.size w w':=by
 go_enter Tryz.func113,Tryz.ntmps113;go_wp2_with fail;refine(cI n l _ _ (K.below (by repeat(first|exact Below.refl _ _|(with_reducible refine Below.setCell ?_ (by first|omega|(simp;done)|(simp;omega)) _)|(with_reducible refine Below.alloc ?_ (by first|omega|(simp;done)|(simp;omega)) _)|(with_reducible refine Below.drewN' ?_ _)|(with_reducible refine Below.drew ?_)|(with_reducible assumption)|refine Below.trans ?_ (Below.mono (by assumption) (by first|omega|(simp;done)|(simp;omega))))) (Nat.le_refl _))).mono ?_;rintro e L ⟨rfl,hb⟩;rw[F];obtain⟨D,I⟩:=pX hb (w.heap.size+1+1) (by first|omega|(simp;done)|(simp;omega));have z:=hb.size;simp at z;go_wp2;exact bodyPost_ret (v:=.tuple #[.agg #[.int .i64 n,.slice o i A],.bool true]) (by simp[results,Tryz.results113,go_sem,D]) rfl ⟨rfl,(by repeat(first|exact Below.refl _ _|(with_reducible refine Below.setCell ?_ (by first|omega|(simp;done)|(simp;omega)) _)|(with_reducible refine Below.alloc ?_ (by first|omega|(simp;done)|(simp;omega)) _)|(with_reducible refine Below.drewN' ?_ _)|(with_reducible refine Below.drew ?_)|(with_reducible assumption)|refine Below.trans ?_ (Below.mono (by assumption) (by first|omega|(simp;done)|(simp;omega)))))⟩
theorem EI(w:World)(n:Int)(o:Option Addr)(i A:Nat)(l:List Int)(K:aD w (.slice o i A) l)(F:aN n l=false):
  Calls Tryz.prog 113 #[.int .i64 n,.slice o i A] w fun e w'=>e=.returned (.tuple #[.agg #[.int .i64 0,.slice none 0 0],.bool false])/\Below w.heap.size w w':=by
 go_enter Tryz.func113,Tryz.ntmps113;go_wp2_with fail;refine(cI n l _ _ (K.below (by repeat(first|exact Below.refl _ _|(with_reducible refine Below.setCell ?_ (by first|omega|(simp;done)|(simp;omega)) _)|(with_reducible refine Below.alloc ?_ (by first|omega|(simp;done)|(simp;omega)) _)|(with_reducible refine Below.drewN' ?_ _)|(with_reducible refine Below.drew ?_)|(with_reducible assumption)|refine Below.trans ?_ (Below.mono (by assumption) (by first|omega|(simp;done)|(simp;omega))))) (Nat.le_refl _))).mono ?_;rintro e L ⟨rfl,hb⟩;rw[F];obtain⟨D,I⟩:=pX hb (w.heap.size+1+1) (by first|omega|(simp;done)|(simp;omega));have z:=hb.size;simp at z;go_wp2;exact bodyPost_ret (v:=.tuple #[.agg #[.int .i64 0,.slice none 0 0],.bool false]) (by simp[results,Tryz.results113,go_sem,D]) rfl ⟨rfl,(by repeat(first|exact Below.refl _ _|(with_reducible refine Below.setCell ?_ (by first|omega|(simp;done)|(simp;omega)) _)|(with_reducible refine Below.alloc ?_ (by first|omega|(simp;done)|(simp;omega)) _)|(with_reducible refine Below.drewN' ?_ _)|(with_reducible refine Below.drew ?_)|(with_reducible assumption)|refine Below.trans ?_ (Below.mono (by assumption) (by first|omega|(simp;done)|(simp;omega)))))⟩
theorem nR(w:World)(n:Int)(o:Option Addr)(i A:Nat)(l:List Int)(I:aD w (.slice o i A) l)(F:Bool)(h:aN n l=F):
  Calls Tryz.prog 113 #[.int .i64 n,.slice o i A] w fun e w'=>∃z K D,e=.returned (.tuple #[.agg #[.int .i64 (if F then n else 0),.slice z K D],.bool F])/\(.slice z K D:Value)=(if F then .slice o i A else .slice none 0 0)/\Below w.heap.size w w':=by
 cases F
 ·exact(EI w n o i A l I h).mono fun e w' ⟨h1,h2⟩=>⟨_,_,_,h1,rfl,h2⟩
 ·exact(uL w n o i A l I h).mono fun e w' ⟨h1,h2⟩=>⟨_,_,_,h1,rfl,h2⟩
end
section
open Go.RowKit Go.G5
end
section
open Go.RowKit Go.G5
def aW(code s:Nat):Bool:=code/2^s%2==1
theorem gP(code s:Nat):(bR (code:Int) s==1)=aW code s:=by
 unfold bR aW;have h:((code:Int)/2^s%2)=((code/2^s%2:Nat):Int):=by push_cast;rfl
 rw[h];have:(code/2^s%2)<2:=Nat.mod_lt _ (by decide)
 rcases(show code/2^s%2=0∨code/2^s%2=1 by omega) with h1|h1<;>rw[h1]<;>rfl
def dT(code:Nat)(k:Nat):List Int:=fB (aW code) k
theorem AK(code k m:Nat)(h:code<2^k):dT code (k+m)=dT code k:=by
 induction m with
 |zero=>rfl
 |succ m ih=>
  rw[<-Nat.add_assoc,dT,gQ,if_neg,<-dT,ih];have h1:code<2^(k+m):=Nat.lt_of_lt_of_le h (Nat.pow_le_pow_right (by decide) (by omega));unfold aW;rw[Nat.div_eq_of_lt h1];decide
theorem nS(code k m:Nat)(h:code<2^k)(z:code<2^m):dT code k=dT code m:=by
 rcases Nat.le_total k m with o|o
 ·obtain⟨d,rfl⟩:=Nat.exists_eq_add_of_le o
  exact(AK code k d h).symm
 ·obtain⟨d,rfl⟩:=Nat.exists_eq_add_of_le o
  exact AK code m d z
theorem OV(w:World)(code:Nat)(S:code<2^32):
  Calls Tryz.prog 174 #[.int .i64 (code:Int)] w fun e w'=>∃o i z,e=.returned (.slice o i z)/\aC 3 w.heap.size w' (.slice o i z) (dT code 32)/\Below w.heap.size w w':=by
 have o0:=aC.lit0 (E:=3) (B:=w.heap.size) w (Nat.le_refl _);go_enter Tryz.func174,Tryz.ntmps174;go_wp2;go_loopw [3,4,5] (fun out i x wr=>∃(k:Nat) (o:Option Addr) (L z:Nat),k<=32/\out=.slice o L z/\i=.int .i64 k/\x=.int .i64 ((code/2^k:Nat):Int)/\aC 3 w.heap.size wr (.slice o L z) (dT code k)/\Below w.heap.size w wr)
  (fun _ _ x _=>(intOf x).toNat)
 case atStart=>exact⟨0,_,_,_,by omega,rfl,rfl,by simp,o0,aM _ _⟩
 case round=>
  obtain⟨k,o,L,z,hk,rfl,rfl,rfl,Z,B⟩:=hrel;obtain⟨q,D⟩:∃q,q=code/2^k:=⟨_,rfl⟩;have K:code/2^(k+1)=q/2:=by rw[D,Nat.pow_succ,Nat.div_div_eq_div_mul]
  have b1:q<=code:=by rw[D];exact Nat.div_le_self _ _
  have Y:aW code k=(q%2==1):=by unfold aW;rw[D]
  have U:=qG (aW code) k;rw[<-D];have hb:=FT q (by omega);have R:=Lib.hid K;have Q:=Lib.hid Y;have M:=Lib.hid Z;have F:=Lib.hid B;have hz:0<q->k+1<=32:=by
   intro h
   by_cases h2:k+1<=32
   ·exact h2
   ·have:k=32:=by omega
    rw[D,this,Nat.div_eq_of_lt S]at h;omega
  have N:=Lib.hid D;clear Z B D K Y
  by_cases h0:0<q
  ·have I:=hz h0
   clear hz
   by_cases h1:q%2=1
   ·go_wp2_with (at_builtin;refine eI rfl _ _ _ rfl 3 Tryz.underlying22 aG w.heap.size _ _ (k:Int) wr.heap.size rfl rfl (by simp) (M.out.alloc _) ⟨by omega,by omega⟩ (by unfold dT;omega) (by have:=F.out.size;simp;omega) ?_;intro v' w6 A O;obtain⟨av,nv,cv,rfl⟩:=A.shape3)
    have B6:Below w.heap.size w w6:=(F.out.alloc F.out.size (.cells #[.int .i64 k] 3)).grown O (by have:=F.out.size;simp;omega) (fun p hp=>(M.out.lt p hp).1);go_roundw
    case rel=>exact⟨k+1,av,nv,cv,I,rfl,by go_num,by rw[R.out];go_num,by rw[dT,gQ,Q.out,h1];exact A,B6⟩
    case measure=>simp[intOf];omega
   ·go_wp2
    go_roundw
    case rel=>exact⟨k+1,o,L,z,I,rfl,by go_num,by rw[R.out];go_num,by rw[dT,gQ,Q.out,show(q%2==1)=false by simp[h1]];exact M.out,F.out⟩
    case measure=>simp[intOf];omega
  ·go_wp2
   go_ret;refine⟨o,L,z,rfl,?_,F.out⟩;have hlt:code<2^k:=by
    have:=N.out
    rcases Nat.lt_or_ge code (2^k) with h|h
    ·exact h
    ·have:=Nat.div_pos h (Nat.two_pow_pos k)
     omega
   rw[nS code 32 k S hlt];exact M.out
theorem JT(code k:Nat):∀x∈dT code k,0<=x/\x<(k:Int):=by
 intro x o;unfold dT fB at o;rw[List.mem_map]at o;obtain⟨s,z,rfl⟩:=o;rw[List.mem_filter,List.mem_range]at z;simp only[Int.ofNat_eq_natCast];omega
end
section
open Go.RowKit Go.G5
def fA(s:Int):List Int:=dT s.toNat 6
theorem MU(s:Int):∀x∈fA s,0<=x/\x<6:=by
 intro x o;unfold fA at o;have:=JT s.toNat 6 x o;omega
theorem rM(s:Int):(fA s).length<=6:=by
 unfold fA dT;exact qG _ 6
theorem UZ:∀s:Nat,s<64->(dT s 6).length=aY s:=by decide +kernel
theorem BR(s:Int)(h:s<64):((fA s).length:Int)=cK s:=by
 unfold fA cK;rw[UZ s.toNat (by omega)]
theorem tU(s:Int)(w:World)(A:0<=s)(h1:s<64):
  Calls Tryz.prog 174 #[.int .i64 s] w fun e w'=>∃o i z,e=.returned (.slice o i z)/\aC 3 w.heap.size w' (.slice o i z) (fA s)/\Below w.heap.size w w':=by
 have:=OV w s.toNat (by omega);rw[show((s.toNat:Nat):Int)=s by omega,nS s.toNat 32 6 (by omega) (by omega)]at this;exact this
theorem nX(s:Int)(w:World)(Y:0<=s)(h1:s<64):
  Calls Tryz.prog 171 #[.int .i64 s] w fun e w'=>∃z i A,e=.returned (.slice z i A)/\aC 3 w.heap.size w' (.slice z i A) (fA s)/\Below w.heap.size w w':=by
 obtain⟨code,rfl⟩:=Int.eq_ofNat_of_zero_le Y;have hc:code<64:=by omega
 have O:fA (code:Int)=dT code 6:=by unfold fA;rw[show((code:Int)).toNat=code by omega]
 have Z:=Lib.hid O;clear O;go_enter Tryz.func171,Tryz.ntmps171;go_wp2;go_loopw [3,4] (fun out i wr=>∃(k:Nat) (z:Option Addr) (S A:Nat),k<=6/\out=.slice z S A/\i=.int .i64 k/\aC 3 w.heap.size wr (.slice z S A) (dT code k)/\Below w.heap.size w wr)
  (fun _ i _=>7-(intOf i).toNat)
 case atStart=>exact⟨0,none,0,0,by omega,rfl,rfl,aC.nil _ _ _,Below.refl _ _⟩
 case round=>
  obtain⟨k,z,S,A,hk,rfl,rfl,ho,B⟩:=hrel;have D:=dY (code:Int) k (by omega) (by omega);have o:=gP code k;have b0:=qG (aW code) k;have F:((code:Int)/2^k)=((code/2^k:Nat):Int):=by push_cast;rfl
  have a7:code/2^k<=code:=Nat.div_le_self _ _;have hz:code/2^k≠0->k+1<=6:=by
   intro h
   by_cases h2:k+1<=6
   ·exact h2
   ·exfalso
    have:k=6:=by omega
    rw[this,Nat.div_eq_of_lt hc]at h;exact h rfl
  have N:dT code (k+1)=if aW code k then dT code k++[(k:Int)] else dT code k:=gQ (aW code) k;obtain⟨q,hq⟩:∃q,q=code/2^k:=⟨_,rfl⟩;obtain⟨y,hy⟩:∃y,y=bR (code:Int) k:=⟨_,rfl⟩;rw[<-hq]at F hz a7;rw[<-hy]at D o;rw[F]at D;have HQ:=Lib.hid hq;have U:=Lib.hid ho;have L:=Lib.hid B;have M:=Lib.hid N;have HZ:=Lib.hid hz;clear hq hy ho B N hz
  by_cases Y:q=0
  ·subst Y
   have hr:dT code k=dT code 6:=by
    have hlt:code<2^k:=by
     rcases Nat.lt_or_ge code (2^k) with h|h
     ·exact h
     ·have:=Nat.div_pos h (Nat.two_pow_pos k)
      have:=HQ.out;omega
    exact nS code k 6 hlt (by omega)
   have HR:=Lib.hid hr;clear hr;go_wp2;go_ret;exact⟨z,S,A,rfl,by rw[Z.out,<-HR.out];exact U.out,L.out⟩
  ·have Q:=HZ.out Y
   have ht:((q:Int) != 0)=true:=by simp;omega
   have R:=U.out.lt
   cases hb:aW code k with
   |true=>
    have a8:(y==1)=true:=by rw[o,hb]
    have K:=Lib.hid hb;clear hb o;go_wp2_with (at_builtin;refine eI rfl _ _ _ rfl 3 Tryz.underlying22 aG w.heap.size _ _ (k:Int) wr.heap.size rfl rfl (aT wr #[.int .i64 k] 3 0 _ rfl) (U.out.alloc _) ⟨by omega,by omega⟩ (by unfold dT;omega) (by have:=L.out.size;simp;omega) ?_;intro v' w6 I a1;obtain⟨av,nv,cv,rfl⟩:=I.shape3);have B6:Below w.heap.size w w6:=(L.out.alloc L.out.size (.cells #[.int .i64 k] 3)).grown a1 (by have:=L.out.size;simp;omega) (fun p hp=>(R p hp).1);go_roundw
    case rel=>exact⟨k+1,av,nv,cv,Q,rfl,by go_num,by rw[M.out,K.out];exact I,B6⟩
    case measure=>simp[intOf];omega
   |false=>
    have a8:(y==1)=false:=by rw[o,hb]
    have K:=Lib.hid hb;clear hb o;go_wp2;go_roundw
    case rel=>exact⟨k+1,z,S,A,Q,rfl,by go_num,by rw[M.out,K.out];exact U.out,L.out⟩
    case measure=>simp[intOf];omega
end
end Go.Proofs.YtipejodijbjpcaaGreatDoor
