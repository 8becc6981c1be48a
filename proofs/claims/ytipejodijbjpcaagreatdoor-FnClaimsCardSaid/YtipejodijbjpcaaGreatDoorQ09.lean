/- Lemmas for CardClaims, part 9 of 52. No condition. -/
import Derived.Test.YtipejodijbjpcaaGreatDoorQ03
import Derived.Test.YtipejodijbjpcaaGreatDoorQ06
import Derived.Test.YtipejodijbjpcaaGreatDoorQ08
import Derived.Shelf.Abstract
set_option maxRecDepth 100000
set_option maxHeartbeats 64000000
namespace Go.Proofs.YtipejodijbjpcaaGreatDoor
section
open Go.RowKit Go.G5
theorem AI(c s:Nat):(bR (c:Int) s==0)=!aW c s:=by
 have h:=gP c s;have h2:bR (c:Int) s=0∨bR (c:Int) s=1:=by
  unfold bR;omega
 rcases h2 with h2|h2
 ·rw[h2]at h ⊢;rw[<-h];rfl
 ·rw[h2]at h ⊢;rw[<-h];rfl
theorem CV{α:Type}(n:Nat)(hn:n<=5)(l:List Int)(lv:Value)(hl:l.length=2^n)(c:FuncId)(he:∀args w,(callFunc c args).run Tryz.prog w=.ok (.enter c args) w)(g1 g2:Nat)
  (step:α->jB->α×Bool) (I:α->World->Prop) (P:Nat->Prop) (M:∀a W W',I a W->Below W.heap.size W W'->I a W')
  (w:World) (f9:∃a c,lv=.slice a l.length c) (hP:∀b,P b->b<w.heap.size)
  (b4:∀a (s i k:Nat) W,s<2^n->i<k->k<n->aW s i=false->aW s k=false->I a W->GrownIn w W P->Calls Tryz.prog c #[.int .i64 s,.int .i64 i,.int .i64 k,.pointer (some ⟨g1,0,none⟩),.pointer (some ⟨g2,0,none⟩)] W fun e w'=>e=.returned (.bool (step a (s,i,k)).2)/\I (step a (s,i,k)).1 w'/\GrownIn W w' P)
  (a0:α) (h0:I a0 w):
  Calls Tryz.prog 116 #[.agg #[.int .i64 n,lv],.func (.func c) #[] #[.pointer (some ⟨g1,0,none⟩),.pointer (some ⟨g2,0,none⟩)]] w fun e w'=>e=.returned (.tuple #[])/\I (eC step (iE n (2^n)) a0).1 w'/\GrownIn w w' P:=by
 obtain⟨a,cp,rfl⟩:=f9;have g0:(2:Nat)^n<=32:=Nat.pow_le_pow_right (n:=2) (by decide) hn;obtain⟨N,hN⟩:∃N:Nat,N=2^n:=⟨_,rfl⟩;rw[<-hN]at hl g0 b4 ⊢;obtain⟨T,hT⟩:∃T,T=iE n N:=⟨_,rfl⟩;rw[<-hT];have f6:l.length<=32:=by omega
 have K0:=aB.new w 32 #[.int .i64 n,.slice a l.length cp];have R0:=M a0 w _ h0 (aM w (.cells #[.int .i64 n,.slice a l.length cp] 32));have b9:GrownIn w (w.alloc (.cells #[.int .i64 n,.slice a l.length cp] 32)) P:=GrownIn.of_below (aM _ _);have HT:=Lib.hid hT;have HL:=Lib.hid hl;have f2:=Lib.hid b4;have HM:=Lib.hid M;have HP:=Lib.hid hP;clear hT hl b4 M hP hN;go_enter Tryz.func116,Tryz.ntmps116;go_wp2_with fail;go_loopw [10] (fun s wr=>∃(k:Nat) (b:α),k<=l.length/\s=.int .i64 k/\eC step (iE n k) a0=(b,true)/\I b wr/\GrownIn w wr P/\aB wr w.heap.size 32 #[.int .i64 n,.slice a l.length cp]) (fun s _=>l.length-(intOf s).toNat)
 case atStart=>exact⟨0,a0,Nat.zero_le _,rfl,rfl,R0,b9,K0⟩
 case round=>
  obtain⟨s,b,hs,rfl,A,o,L,K⟩:=hrel;obtain⟨wo,rfl⟩:∃wo:World,wo=wr:=⟨_,rfl⟩;have HR:=Lib.hid A;have a1:=Lib.hid o;have c6:=Lib.hid L;clear A o L R0 b9 K0
  by_cases g3:s<l.length
  ·have e7:s<N:=by rw[<-HL.out];exact g3
   have c8:=Lib.hid e7;have G1:=K.cell;clear e7;go_wp2_with fail;go_loopw [15] (fun i wr=>∃(k:Nat) (b:α),k<=n/\i=.int .i64 k/\eC step (iE n s++iQ n s k) a0=(b,true)/\I b wr/\GrownIn w wr P/\aB wr w.heap.size 32 #[.int .i64 n,.slice a l.length cp]) (fun i _=>n-(intOf i).toNat)
   case atStart=>exact⟨0,b,Nat.zero_le _,rfl,by rw[show iQ n s 0=[] from rfl,List.append_nil];exact HR.out,a1.out,c6.out,K⟩
   case round=>
    obtain⟨i,b2,hi,rfl,A,o,L,K⟩:=hrel;obtain⟨wi,rfl⟩:∃wo:World,wo=wr:=⟨_,rfl⟩;have c7:=Lib.hid A;have R:=Lib.hid o;have Z:=Lib.hid L;clear A o L G1
    by_cases f7:i<n
    ·have e9:=DO s i (i+1) (Nat.le_refl _)
     have f3:=Lib.hid e9;clear e9;go_wp2_with fail;go_loopw [6] (fun i' wr=>∃(k:Nat) (b:α),i<k/\k<=n/\i'=.int .i64 k/\eC step ((iE n s++iQ n s i)++kF s i k) a0=(b,true)/\I b wr/\GrownIn w wr P/\aB wr w.heap.size 32 #[.int .i64 n,.slice a l.length cp]) (fun i' _=>n-(intOf i').toNat)
     case atStart=>exact⟨i+1,b2,by omega,by omega,by go_num,by rw[f3.out,List.append_nil];exact c7.out,R.out,Z.out,K⟩
     case round=>
      obtain⟨k,b3,e0,hk,rfl,A,o,L,K⟩:=hrel;obtain⟨wk,rfl⟩:∃wo:World,wo=wr:=⟨_,rfl⟩;have U:=Lib.hid A;have F:=Lib.hid o;have D:=Lib.hid L;have G1:=K.cell;clear A o L
      by_cases e5:k<n
      ·have f4:=dY (s:Int) i (by omega) (by omega)
       have f5:=dY (s:Int) k (by omega) (by omega);have O:=AI s i;have Q:=AI s k;obtain⟨y,hy⟩:∃y,y=bR (s:Int) i:=⟨_,rfl⟩;obtain⟨z,hz⟩:∃y,y=bR (s:Int) k:=⟨_,rfl⟩;rw[<-hy]at f4 O;rw[<-hz]at f5 Q;have b5:kF s i (k+1)=kF s i k++(if (decide (i<k)&&(!aW s i&&!aW s k)) then [(s,i,k)] else []):=rfl;rw[decide_eq_true e0,Bool.true_and]at b5;have a9:=Lib.hid b5;clear hy hz b5
       cases h1:aW s i with
       |true=>
        have g4:(y==0)=false:=by rw[O,h1];rfl
        have H1:=Lib.hid h1;clear h1 O Q;go_wp2;go_roundw
        case rel=>exact⟨k+1,b3,by omega,by omega,by go_num,by rw[a9.out,H1.out];simpa using U.out,F.out,D.out,K⟩
        case measure=>simp[intOf];omega
       |false=>
        have g4:(y==0)=true:=by rw[O,h1];rfl
        cases h2:aW s k with
        |true=>
         have g5:(z==0)=false:=by rw[Q,h2];rfl
         have H2:=Lib.hid h2;clear h1 h2 O Q;go_wp2;go_roundw
         case rel=>exact⟨k+1,b3,by omega,by omega,by go_num,by rw[a9.out,H2.out];simpa using U.out,F.out,D.out,K⟩
         case measure=>simp[intOf];omega
        |false=>
         have g5:(z==0)=true:=by rw[Q,h2];rfl
         have b1:=f2.out b3 s i k wk c8.out e0 e5 h1 h2 F.out D.out;have a8:kF s i (k+1)=kF s i k++[(s,i,k)]:=by rw[a9.out,h1,h2];rfl
         obtain⟨r,hr⟩:∃r,r=step b3 (s,i,k):=⟨_,rfl⟩;have a7:eC step [(s,i,k)] b3=r:=by rw[IF,hr]
         rw[<-hr]at b1;have S:eC step (((iE n s++iQ n s i)++kF s i k)++[(s,i,k)]) a0=r:=by rw[MH U.out];exact a7
         obtain⟨ra,rb⟩:=r;have c5:=Lib.hid b1;have c9:=Lib.hid a8;have a6:=Lib.hid S;clear h1 h2 O Q b1 a8 a7 S hr
         cases rb with
         |true=>
          go_wp2_with (go_at_fn c;refine c5.out.mono ?_;rintro e w4 ⟨rfl,b0,Y⟩);have K4:=K.growIn Y (fun h=>by have:=HP.out _ h;omega);have GG:=D.out.trans Y;go_roundw
          case rel=>exact⟨k+1,ra,by omega,by omega,by go_num,by rw[c9.out,<-List.append_assoc];exact a6.out,b0,GG,K4⟩
          case measure=>simp[intOf];omega
         |false=>
          go_wp2_with (go_at_fn c;refine c5.out.mono ?_;rintro e w4 ⟨rfl,b0,Y⟩);refine bodyPost_ret (v:=.tuple #[]) (results_none rfl _ _ _) rfl ⟨rfl,?_,D.out.trans Y⟩;have hT:(eC step T a0).1=ra:=by
           obtain⟨r,hr⟩:=vF n N s i (k+1) c8.out f7 e5;rw[HT.out,hr,c9.out,<-List.append_assoc,DQ a6.out]
          rw[hT];exact b0
      ·have e6:k=n:=by omega
       subst e6;go_wp2;go_roundw
       case rel=>exact⟨i+1,b3,by omega,by go_num,by rw[show iQ k s (i+1)=iQ k s i++kF s i k from rfl,<-List.append_assoc];exact U.out,F.out,D.out,K⟩
       case measure=>simp[intOf];omega
    ·have e4:i=n:=by omega
     subst e4;have G1:=K.cell;go_wp2;go_roundw
     case rel=>exact⟨s+1,b2,by omega,by go_num,c7.out,R.out,Z.out,K⟩
     case measure=>simp[intOf];omega
  ·have e8:s=l.length:=by omega
   subst e8;go_wp2;go_end0;refine⟨rfl,?_,c6.out⟩;rw[HT.out,<-HL.out,HR.out];exact a1.out
end
section
open Go.RowKit Go.G5
theorem AR(n:Nat)(hn:n<=5)(l:List Int)(v:Value)(w:World)(hv:aD w v l)(hl:l.length=2^n)(z:∀k,(Y:k<l.length)->-1000<=l[k]/\l[k]<=1000)(s i k:Nat)(D:s<2^n)(hi:i<n)(Y:k<n):
  Calls Tryz.prog 118 #[.agg #[.int .i64 n,v],.int .i64 s,.int .i64 i,.int .i64 k] w fun e w'=>e=.returned (.int .i64 (iL l s i k))/\Below w.heap.size w w':=by
 obtain⟨a,b,c7,c,rfl,a8,o,A,hb⟩:=hv.view Tryz.prog 22 3 Tryz.underlying22 aG;have A:=aK A hb (aM w (.cells #[.int .i64 n,.slice a l.length c] 32)) (Nat.le_refl _);have h1:=eE s i n D hi;have h2:=eE s k n D Y;have h3:=eE (aP s i) k n h1 Y;rw[<-nG]at h3;have p5:(2:Nat)^n<=32:=Nat.pow_le_pow_right (n:=2) (by decide) hn;rw[<-hl]at h1 h2 h3 D p5;have c0:=A s D;have c1:=A _ h1;have c2:=A _ h2;have c3:=A _ h3;have i0:=fun W=>o W s D;have i1:=fun W=>o W _ h1;have i2:=fun W=>o W _ h2;have i3:=fun W=>o W _ h3;have b0:=z s D;have b1:=z _ h1;have b2:=z _ h2;have U:=z _ h3;have hex:iL l s i k=l[aP s i ||| aP s k]+l[s]-l[aP s i]-l[aP s k]:=by
  unfold iL;rw[aJ l _ h3,aJ l _ D,aJ l _ h1,aJ l _ h2]
 have q1:=eK s i (by omega) (by omega);have q2:=eK s k (by omega) (by omega);have q3:=FM (aP s i) (aP s k) (by omega) (by omega);have R:=eK (aP s i) k (by omega) (by omega);rw[<-nG]at R;obtain⟨u1,I⟩:∃u,u=aP s i:=⟨_,rfl⟩;obtain⟨u2,K⟩:∃u,u=aP s k:=⟨_,rfl⟩;simp only[<-I,<-K]at c1 c2 c3 i1 i2 i3 b1 b2 U hex q1 q2 q3 R h1 h2 h3;obtain⟨u3,L⟩:∃u,u=u1 ||| u2:=⟨_,rfl⟩;simp only[<-L]at c3 i3 U hex q3 R h3;obtain⟨F,M⟩:∃x,x=l[s]:=⟨_,rfl⟩;obtain⟨x1,N⟩:∃x,x=l[u1]:=⟨_,rfl⟩;obtain⟨x2,O⟩:∃x,x=l[u2]:=⟨_,rfl⟩;obtain⟨x3,Q⟩:∃x,x=l[u3]:=⟨_,rfl⟩;rw[<-M]at c0 b0 hex;rw[<-N]at c1 b1 hex;rw[<-O]at c2 b2 hex;rw[<-Q]at c3 U hex;have Z:=bJ i 6 (by omega);have pk:=bJ k 6 (by omega);have c9:(2:Int)^i<=64:=by simpa using Z.1
 have e0:(2:Int)^k<=64:=by simpa using pk.1
 have d0:=Z.2;have e4:=pk.2;have wi:IntKind.i64.wrap ((2:Int)^i)=2^i:=by rw[IntKind.wrap_i64];omega
 have wk:IntKind.i64.wrap ((2:Int)^k)=2^k:=by rw[IntKind.wrap_i64];omega
 have w1:IntKind.i64.wrap (x3+F)=x3+F:=by rw[IntKind.wrap_i64];omega
 have w2:IntKind.i64.wrap (x3+F-x1)=x3+F-x1:=by rw[IntKind.wrap_i64];omega
 have w3:IntKind.i64.wrap (x3+F-x1-x2)=x3+F-x1-x2:=by rw[IntKind.wrap_i64];omega
 have S:=Lib.hid hex;have z0:(0:Int)<=(s:Int):=by omega
 clear o hb z hex I K L M N O Q Z pk R A hl;go_enter Tryz.func118,Tryz.ntmps118;go_wp2_with fail;go_quiet (fail);go_wp2;go_ret;exact⟨eJ S.out.symm,(aM _ _).drewN' _⟩
end
section
open Go.RowKit Go.G5
def nA(w:World)(o:Nat)(n:Nat)(v:Value)(a:Option jB)(W:World):Prop:=
 Below w.heap.size w W/\aB W w.heap.size 32 #[.int .i64 n,v]/\match a with
  |none=>aB W (o) 22 #[.slice none 0 0]
  |some t=>∃g,aB W (o) 22 #[.slice (some ⟨g,0,none⟩) 3 3]/\aC 3 (o+1) W (.slice (some ⟨g,0,none⟩) 3 3) (NV (some t))
theorem I1(w:World)(o:Nat)(n:Nat)(v:Value)(a:Option jB)(W W':World)(h:nA w o n v a W)(hb:Below W.heap.size W W'):nA w o n v a W':=by
 obtain⟨h1,h2,h3⟩:=h;refine⟨h1.after hb h1.size,h2.keep hb,?_⟩
 cases a with
 |none=>exact aB.keep h3 hb
 |some t=>
  obtain⟨g,z,A⟩:=h3;exact⟨g,z.keep hb,A.keep hb⟩
theorem aC.lit3{E:TypeId}{B:Nat}(w:World)(A:B<=w.heap.size)(x y z:Int)(D:bA x)(F:bA y)(I:bA z):aC E B (w.alloc (.cells #[.int .i64 x,.int .i64 y,.int .i64 z] E)) (.slice (some ⟨w.heap.size,0,none⟩) 3 3) [x,y,z]:=
 ⟨World.ownsRow_lit w #[.int .i64 x,.int .i64 y,.int .i64 z] 3 A (by decide) rfl,by
  intro q o;simp only[List.mem_cons,List.not_mem_nil,or_false]at o
  rcases o with rfl|rfl|rfl<;>assumption⟩
theorem L1(w:World)(F:Nat)(e4:w.heap.size<F)(n:Nat)(hn:n<=5)(l:List Int)(v:Value)(hv:aD w v l)(hl:l.length=2^n)(S:∀k,(hk:k<l.length)->-1000<=l[k]/\l[k]<=1000)(a:Option jB)(s i k:Nat)(W:World)(hs:s<2^n)(e0:i<k)(hk:k<n)(hR:nA w F n v a W):
  Calls Tryz.prog 117 #[.int .i64 s,.int .i64 i,.int .i64 k,.pointer (some ⟨w.heap.size,0,none⟩),.pointer (some ⟨F,0,none⟩)] W fun e w'=>
   e=.returned (.bool (dH l a (s,i,k)).2)/\nA w F n v (dH l a (s,i,k)).1 w'/\GrownIn W w' (fun b=>b=F):=by
 obtain⟨B,U,h3⟩:=hR;have e5:(2:Nat)^n<=32:=Nat.pow_le_pow_right (n:=2) (by decide) hn;have hex:=AR n hn l v W (hv.below B (Nat.le_refl _)) hl S s i k hs (by omega) hk;have A:jY l (s,i,k)=decide (0<iL l s i k):=rfl;have a8:=WG n l hl S s i k hs (by omega) hk;obtain⟨av,cv,rfl⟩:=hv.shape;obtain⟨x,hx⟩:∃x,x=iL l s i k:=⟨_,rfl⟩;rw[<-hx]at hex A a8;have b5:bA (s:Int):=⟨by omega,by omega⟩;have b3:bA (i:Int):=⟨by omega,by omega⟩;have b4:bA (k:Int):=⟨by omega,by omega⟩;have G1:=U.cell;have yB:=B.size;have N:=Lib.hid hex;have e6:s<32:=by omega
 clear hl S hx hex hs
 by_cases L:0<x
 ·have hb:jY l (s,i,k)=true:=by rw[A];exact decide_eq_true L
  have I:dH l a (s,i,k)=(some (s,i,k),false):=by unfold dH;rw[if_pos hb]
  have D:=Lib.hid I;have z:∃u,aB W (F) 22 #[u]:=by
   cases a with
   |none=>exact⟨_,h3⟩
   |some t=>obtain⟨g,k1,_⟩:=h3;exact⟨_,k1⟩
  obtain⟨u,z⟩:=z;have zo:=z.lt;clear A hb I h3;go_enter Tryz.func117,Tryz.ntmps117;go_wp2_with fail;refine N.out.mono ?_;rintro e M ⟨rfl,o⟩;have z:=z.keep o;have U:=U.keep o;have B1:=B.after o B.size;have y1:=o.size;have Go:=z.cell;have Fo:=z.frozen;have e9:=z.lt;clear G1;go_wp2;refine aI ?_;intro Wf Q;obtain⟨O,K⟩:∃O,O=M.setCell ⟨F,0,none⟩ (.slice (some ⟨M.heap.size,0,none⟩) 3 3):=⟨_,rfl⟩;rw[<-K]at Q;have R:M.grownBy O (some (F)):=by rw[K];exact aA (World.grownBy.refl _ _) 0 _
  have b7:O.heap.size=M.heap.size:=by rw[K];simp
  have KO:aB O (F) 22 #[.slice (some ⟨M.heap.size,0,none⟩) 3 3]:=by
   rw[K];have:=z.set 0 (.slice (some ⟨M.heap.size,0,none⟩) 3 3);simpa using this
  have KF:=U.grow R (by intro h;have:=Option.some.inj h;omega);have Y:=B1.grown R B1.size (fun q hq=>by have:=Option.some.inj hq;omega);have ol:=aC.lit3 (E:=3) (B:=F+1) O (by omega) s i k b5 b3 b4;rw[b7]at ol;have Z:=(GrownIn.of_below (P:=fun b=>b=F) o).trans ((GrownIn.of_row R (fun q hq=>(Option.some.inj hq).symm)).trans (GrownIn.of_below (aM O (.cells #[.int .i64 s,.int .i64 i,.int .i64 k] 3))));have KO:=KO.alloc (.cells #[.int .i64 s,.int .i64 i,.int .i64 k] 3);have KF:=KF.alloc (.cells #[.int .i64 s,.int .i64 i,.int .i64 k] 3);have Y:=Y.alloc Y.size (.cells #[.int .i64 s,.int .i64 i,.int .i64 k] 3);rw[<-Q]at KO KF Y ol Z;clear Q Go Fo;go_ret;refine⟨by rw[D.out];rfl,?_,Z⟩;rw[D.out];exact⟨Y,KF,_,KO,ol⟩
 ·have hb:jY l (s,i,k)=false:=by rw[A];exact decide_eq_false L
  have I:dH l a (s,i,k)=(a,a.isNone):=by unfold dH;rw[if_neg (by rw[hb];simp)]
  have D:=Lib.hid I;clear A hb I
  cases a with
  |none=>
   have z:aB W (F) 22 #[.slice none 0 0]:=h3;have zo:=z.lt;clear h3;go_enter Tryz.func117,Tryz.ntmps117;go_wp2_with fail;refine N.out.mono ?_;rintro e M ⟨rfl,o⟩;have z:=z.keep o;have Go:=z.cell;clear G1;go_wp2;go_ret;refine⟨by rw[D.out];rfl,?_,GrownIn.of_below o⟩;rw[D.out];exact⟨B.after o B.size,U.keep o,z⟩
  |some t=>
   obtain⟨g,z,ow⟩:=h3;have zo:=z.lt;go_enter Tryz.func117,Tryz.ntmps117;go_wp2_with fail;refine N.out.mono ?_;rintro e M ⟨rfl,o⟩;have z:=z.keep o;have Go:=z.cell;clear G1;go_wp2;go_ret;refine⟨by rw[D.out];rfl,?_,GrownIn.of_below o⟩;rw[D.out];exact⟨B.after o B.size,U.keep o,g,z,ow.keep o⟩
theorem vQ:∀args w,(callFunc 117 args).run Tryz.prog w=.ok (.enter 117 args) w:=enters_of Tryz.func117 (by kernel_rfl) rfl
theorem MY(w:World)(n:Int)(v:Value)(l:List Int)(hv:aD w v l)(_:l.length<=1048576):
  Calls Tryz.prog 15 #[.agg #[.int .i64 n,v]] w fun e w'=>∃ad i cp,e=.returned (.tuple #[.slice ad i cp,.bool (fH n l)])/\aL 3 w.heap.size w' (.slice ad i cp) (fS n l)/\Below w.heap.size w w':=by
 have Q:=hv;obtain⟨a,c,rfl⟩:=hv.shape;have c9:∀(fn:Fn) (first cap:Array Value) (w:World),(Instr.makeFunc fn first cap).run Tryz.prog w=.ok (.func fn first cap) w:=fun _ _ _ _=>rfl;have K0:=aB.new w 32 #[.int .i64 n,.slice a l.length c]
 cases M:aN n l with
 |false=>
  have hr:iI n l=none:=by unfold iI;rw[M];rfl
  have I:fH n l=false:=by unfold fH;rw[hr];rfl
  have K:fS n l=[]:=by unfold fS;rw[hr];rfl
  have H:=Lib.hid (And.intro I K);have Z:=Lib.hid M;clear hr I K M;go_enter Tryz.func15,Tryz.ntmps15;go_wp2_with (go_at_call 111;refine(eZ n l _ _ (Q.alloc _)).mono ?_;rintro e R ⟨rfl,z⟩;rw[Z.out]);go_ret2;exact⟨none,0,0,by rw[H.out.1];rfl,by rw[H.out.2];exact aL.nil _ _ _,(aM _ _).after z (by simp)⟩
 |true=>
  obtain⟨h0,h5,A,U⟩:=jS M;obtain⟨N,rfl⟩:=Int.eq_ofNat_of_zero_le h0;have S:N<=5:=by omega
  have O:l.length=2^N:=by
   have e2:(N:Int).toNat=N:=by omega
   rw[e2]at A
   exact_mod_cast A
  have hr:iI N l=qL N l:=by unfold iI;rw[M];rfl
  have L:∀F V,w.heap.size<F->nA w F N (.slice a l.length c) none V->Calls Tryz.prog 116 #[.agg #[.int .i64 N,.slice a l.length c],.func (.func 117) #[] #[.pointer (some ⟨w.heap.size,0,none⟩),.pointer (some ⟨F,0,none⟩)]] V fun e w'=>
    e=.returned (.tuple #[])/\nA w F N (.slice a l.length c) (iI N l) w'/\GrownIn V w' (fun b=>b=F):=fun F V a8 hV=>by
   rw[hr];refine CV N S l _ O 117 vQ _ _ (dH l) (nA w F N (.slice a l.length c)) _ (I1 w F N _) V ⟨a,c,rfl⟩ (fun b hb=>by have:=(hV.2.2:aB V F 22 #[.slice none 0 0]).lt;omega) ?_ none hV;intro a' s i k W hs a7 hk _ _ D _;exact L1 w F a8 N S l _ Q O U a' s i k W hs a7 hk D
  have HV:=Lib.hid L;have Z:=Lib.hid M;clear L hr M A U O;go_enter Tryz.func15,Tryz.ntmps15;go_wp2_with fail;refine(eZ N l _ _ (Q.alloc _)).mono ?_;rintro e R ⟨rfl,z⟩;rw[Z.out];have K1:=K0.keep z;have Y:Below w.heap.size w R:=(aM _ _).after z (by simp);have G1:=K1.cell;have z1:=K1.lt;clear z K0;go_wp2_with fail;have R0:nA w R.heap.size N (.slice a l.length c) none (R.alloc (.cells #[.slice none 0 0] 22)):=⟨Y.alloc Y.size _,K1.alloc _,aB.new _ _ _⟩;refine(HV.out R.heap.size _ z1 R0).mono ?_;rintro e w2 ⟨rfl,⟨B2,K2,o⟩,c7⟩;clear G1 R0
  cases D:iI N l with
  |none=>
   rw[D]at o;have Ko:aB w2 R.heap.size 22 #[.slice none 0 0]:=o;have I:fH N l=false:=by unfold fH;rw[D];rfl
   have K:fS N l=[]:=by unfold fS;rw[D];rfl
   have H:=Lib.hid (And.intro I K);have Go:=Ko.cell;clear o D I K;go_wp2_with fail;go_quiet (fail);go_wp2;go_ret2;exact⟨none,0,0,by rw[H.out.1];rfl,by rw[H.out.2];exact aL.nil _ _ _,B2.drewN' _⟩
  |some t=>
   rw[D]at o;obtain⟨g,Ko,ow⟩:=o;have I:fH N l=true:=by unfold fH;rw[D];rfl
   have K:fS N l=NV (some t):=by unfold fS;rw[D]
   have H:=Lib.hid (And.intro I K);have Go:=Ko.cell;have y1:=Y.size;clear D I K;go_wp2_with fail;go_quiet (fail);go_wp2;go_ret2;exact⟨some ⟨g,0,none⟩,3,3,by rw[H.out.1];rfl,by rw[H.out.2];exact((ow.toW.mono (by omega)).drewN _),B2.drewN' _⟩
theorem jP(n:Int)(l:List Int)(v:Value)(w:World)(M:aD w v l)(Q:l.length<=1048576):
  Calls Tryz.prog 17 #[.agg #[.int .i64 n,v]] w fun e w'=>e=.returned (.bool (cY n l))/\Below w.heap.size w w':=by
 have z:=M;obtain⟨a,c,rfl⟩:=M.shape;have N:=aB.new w 32 #[.int .i64 n,.slice a l.length c];go_enter Tryz.func17,Tryz.ntmps17;go_wp2_with fail;refine(MY _ n _ l (z.alloc _) Q).mono ?_;rintro e R ⟨Z,U,q1,rfl,Y,o⟩;have O:=N.keep o;have F:Below w.heap.size w R:=(aM _ _).after o (by simp);have S:=O.cell;go_wp2_with fail;refine(eZ n l _ _ (z.below F (Nat.le_refl _))).mono ?_;rintro e w2 ⟨rfl,K⟩;have L:=F.after K F.size
 cases D:aN n l with
 |false=>
  have A:cY n l=false:=by unfold cY;rw[D];rfl
  have I:=Lib.hid A;clear A D;go_wp2;go_ret;exact⟨by rw[I.out];rfl,L⟩
 |true=>
  have A:cY n l=!fH n l:=by unfold cY;rw[D];rfl
  have I:=Lib.hid A;clear A D;go_wp2;go_ret;exact⟨by rw[I.out];rfl,L⟩
end
end Go.Proofs.YtipejodijbjpcaaGreatDoor
