/- Lemmas for CardClaims, part 10 of 52. No condition. -/
import Derived.Test.YtipejodijbjpcaaGreatDoorQ03
import Derived.Test.YtipejodijbjpcaaGreatDoorQ05
import Derived.Test.YtipejodijbjpcaaGreatDoorQ08
import Derived.Test.YtipejodijbjpcaaGreatDoorQ09
import Derived.Deep.RegionHeld3
set_option maxRecDepth 100000
set_option maxHeartbeats 64000000
namespace Go.Proofs.YtipejodijbjpcaaGreatDoor
section
open Go.RowKit Go.G5
theorem EL(n:Nat)(hn:n<=5)(l:List Int)(v:Value)(w:World)(hv:aD w v l)(hl:l.length=2^n)(z:∀k,(Y:k<l.length)->-1000<=l[k]/\l[k]<=1000)(s i k:Nat)(D:s<2^n)(hi:i<n)(Y:k<n):
  Calls Tryz.prog 189 #[v,.int .i64 s,.int .i64 i,.int .i64 k] w fun e w'=>e=.returned (.bool (jY l (s,i,k)))/\Below w.heap.size w w':=by
 obtain⟨a,b,c8,c,rfl,b4,o,F,hb⟩:=hv.view Tryz.prog 22 3 Tryz.underlying22 aG;have h1:=eE s i n D hi;have h2:=eE s k n D Y;have h3:=eE (aP s i) k n h1 Y;rw[<-nG]at h3;have p5:(2:Nat)^n<=32:=Nat.pow_le_pow_right (n:=2) (by decide) hn;rw[<-hl]at h1 h2 h3 D p5;have c0:=F s D;have c1:=F _ h1;have c2:=F _ h2;have c3:=F _ h3;have i0:=fun W=>o W s D;have i1:=fun W=>o W _ h1;have i2:=fun W=>o W _ h2;have i3:=fun W=>o W _ h3;have b0:=z s D;have b1:=z _ h1;have b2:=z _ h2;have U:=z _ h3;have hex:iL l s i k=l[aP s i ||| aP s k]+l[s]-l[aP s i]-l[aP s k]:=by
  unfold iL;rw[aJ l _ h3,aJ l _ D,aJ l _ h1,aJ l _ h2]
 have q1:=eK s i (by omega) (by omega);have q2:=eK s k (by omega) (by omega);have q3:=FM (aP s i) (aP s k) (by omega) (by omega);have q4:=eK (aP s i) k (by omega) (by omega);rw[<-nG]at q4;obtain⟨u1,I⟩:∃u,u=aP s i:=⟨_,rfl⟩;obtain⟨u2,K⟩:∃u,u=aP s k:=⟨_,rfl⟩;simp only[<-I,<-K]at c1 c2 c3 i1 i2 i3 b1 b2 U hex q1 q2 q3 q4 h1 h2 h3;obtain⟨u3,L⟩:∃u,u=u1 ||| u2:=⟨_,rfl⟩;simp only[<-L]at c3 i3 U hex q3 q4 h3;obtain⟨R,M⟩:∃x,x=l[s]:=⟨_,rfl⟩;obtain⟨x1,N⟩:∃x,x=l[u1]:=⟨_,rfl⟩;obtain⟨S,O⟩:∃x,x=l[u2]:=⟨_,rfl⟩;obtain⟨x3,Q⟩:∃x,x=l[u3]:=⟨_,rfl⟩;rw[<-M]at c0 b0 hex;rw[<-N]at c1 b1 hex;rw[<-O]at c2 b2 hex;rw[<-Q]at c3 U hex;have Z:=bJ i 6 (by omega);have pk:=bJ k 6 (by omega);have d0:(2:Int)^i<=64:=by simpa using Z.1
 have e4:(2:Int)^k<=64:=by simpa using pk.1
 have e0:=Z.2;have e5:=pk.2;have wi:IntKind.i64.wrap ((2:Int)^i)=2^i:=by rw[IntKind.wrap_i64];omega
 have wk:IntKind.i64.wrap ((2:Int)^k)=2^k:=by rw[IntKind.wrap_i64];omega
 have w1:IntKind.i64.wrap (x3+R)=x3+R:=by rw[IntKind.wrap_i64];omega
 have w2:IntKind.i64.wrap (x1+S)=x1+S:=by rw[IntKind.wrap_i64];omega
 have A:jY l (s,i,k)=decide (x1+S<x3+R):=by
  unfold jY;simp only[hex]
  by_cases h:x1+S<x3+R
  ·rw[decide_eq_true h,decide_eq_true (by omega)]
  ·rw[decide_eq_false h,decide_eq_false (by omega)]
 have HB:=Lib.hid A;have z0:(0:Int)<=(s:Int):=by omega
 clear o hb z hex I K L M N O Q Z pk q3 F hl A;go_enter Tryz.func189,Tryz.ntmps189;go_wp2_with fail;go_quiet (fail);go_wp2;go_ret;exact⟨aE HB.out.symm,(Below.refl _ _).drewN' _⟩
theorem xK(c s:Nat):(bR (c:Int) s==0)=!aW c s:=by
 have h:=gP c s;have h2:bR (c:Int) s=0∨bR (c:Int) s=1:=by
  unfold bR;omega
 rcases h2 with h2|h2
 ·rw[h2]at h ⊢;rw[<-h];rfl
 ·rw[h2]at h ⊢;rw[<-h];rfl
theorem aC.lit3'{E:TypeId}{B:Nat}(w:World)(A:B<=w.heap.size)(x y z:Int)(D:bA x)(F:bA y)(I:bA z):aC E B (w.alloc (.cells #[.int .i64 x,.int .i64 y,.int .i64 z] E)) (.slice (some ⟨w.heap.size,0,none⟩) 3 3) [x,y,z]:=
 ⟨World.ownsRow_lit w #[.int .i64 x,.int .i64 y,.int .i64 z] 3 A (by decide) rfl,by
  intro q o;simp only[List.mem_cons,List.not_mem_nil,or_false]at o
  rcases o with rfl|rfl|rfl<;>assumption⟩
theorem MN(w:World)(n:Int)(v:Value)(l:List Int)(hv:aD w v l)(_:l.length<=1048576):
  Calls Tryz.prog 157 #[.agg #[.int .i64 n,v]] w fun e w'=>∃ad i cp,e=.returned (.tuple #[.slice ad i cp,.bool (fH n l)])/\aL 3 w.heap.size w' (.slice ad i cp) (fS n l)/\Below w.heap.size w w':=by
 have b4:=hv;obtain⟨a,c,rfl⟩:=hv.shape;have K0:=aB.new w 32 #[.int .i64 n,.slice a l.length c]
 cases hf:aN n l with
 |false=>
  have hr:iI n l=none:=by unfold iI;rw[hf];rfl
  have Z:fH n l=false:=by unfold fH;rw[hr];rfl
  have hL:fS n l=[]:=by unfold fS;rw[hr];rfl
  have H:=Lib.hid (And.intro Z hL);have HF:=Lib.hid hf;clear hr Z hL hf;go_enter Tryz.func157,Tryz.ntmps157;go_wp2_with fail;go_loopw [4] (fun i wr=>i=.int .i64 0/\Below w.heap.size w wr/\aB wr w.heap.size 32 #[.int .i64 n,.slice a l.length c]) (fun _ _=>0)
  case atStart=>exact⟨rfl,aM _ _,K0⟩
  case round=>
   obtain⟨rfl,B,K⟩:=hrel;have G1:=K.cell;go_wp2_with (go_at_call 129;refine(cI n l _ _ (b4.below B (Nat.le_refl _))).mono ?_;rintro e w1 ⟨rfl,L⟩;rw[HF.out]);have S:=B.after L B.size;go_ret2;exact⟨_,0,0,by rw[H.out.1];rfl,by rw[H.out.2];exact((aC.lit0 w1 (Nat.le_refl _)).mono S.size).toW,S.alloc S.size _⟩
 |true=>
  obtain⟨h0,h5,O,e0⟩:=jS hf;obtain⟨N,rfl⟩:=Int.eq_ofNat_of_zero_le h0;have c7:N<=5:=by omega
  have b1:l.length=2^N:=by
   have e2:(N:Int).toNat=N:=by omega
   rw[e2]at O
   exact_mod_cast O
  have f7:(2:Nat)^N<=32:=Nat.pow_le_pow_right (n:=2) (by decide) c7;have g6:l.length<=32:=by omega
  have hr:iI N l=(eC (dH l) (iE N l.length) none).1:=by unfold iI qL;rw[hf,if_pos rfl];simp only[Int.toNat_natCast];rw[b1]
  have HR:=Lib.hid hr;have HF:=Lib.hid hf;have e9:=Lib.hid e0;have b7:=Lib.hid b1;clear hr hf O e0 b1 f7;go_enter Tryz.func157,Tryz.ntmps157;go_wp2_with fail;go_loopw [4] (fun i wr=>∃s:Nat,s<=l.length/\i=.int .i64 s/\eC (dH l) (iE N s) none=(none,true)/\Below w.heap.size w wr/\aB wr w.heap.size 32 #[.int .i64 N,.slice a l.length c]) (fun i _=>l.length-(intOf i).toNat)
  case atStart=>exact⟨0,Nat.zero_le _,rfl,rfl,aM _ _,K0⟩
  case round=>
   obtain⟨s,hs,rfl,o,B,K⟩:=hrel;obtain⟨wo,rfl⟩:∃wo:World,wo=wr:=⟨_,rfl⟩;have b8:=Lib.hid o;clear o K0;have G1:=K.cell;go_wp2_with fail;refine(cI N l _ _ (b4.below B (Nat.le_refl _))).mono ?_;rintro e w1 ⟨rfl,L⟩;rw[HF.out];have K:=K.keep L;have S:=B.after L B.size;clear G1 L B;have G1:=K.cell
   by_cases e4:s<l.length
   ·go_wp2_with fail
    go_loopw [5] (fun i wr=>∃k:Nat,k<=N/\i=.int .i64 k/\eC (dH l) (iE N s++iQ N s k) none=(none,true)/\Below w.heap.size w wr/\aB wr w.heap.size 32 #[.int .i64 N,.slice a l.length c]) (fun i _=>N-(intOf i).toNat)
    case atStart=>exact⟨0,Nat.zero_le _,rfl,by rw[show iQ N s 0=[] from rfl,List.append_nil];exact b8.out,S,K⟩
    case round=>
     obtain⟨i,hi,rfl,o,B2,K⟩:=hrel;obtain⟨wi,rfl⟩:∃wo:World,wo=wr:=⟨_,rfl⟩;have b9:=Lib.hid o;clear o G1;have G1:=K.cell
     by_cases f6:i<N
     ·have A:=DO s i (i+1) (Nat.le_refl _)
      have f0:=Lib.hid A;clear A;go_wp2_with fail;go_loopw [6] (fun i' wr=>∃k:Nat,i<k/\k<=N/\i'=.int .i64 k/\eC (dH l) ((iE N s++iQ N s i)++kF s i k) none=(none,true)/\Below w.heap.size w wr/\aB wr w.heap.size 32 #[.int .i64 N,.slice a l.length c]) (fun i' _=>N-(intOf i').toNat)
      case atStart=>exact⟨i+1,by omega,by omega,by go_num,by rw[f0.out,List.append_nil];exact b9.out,B2,K⟩
      case round=>
       obtain⟨k,f5,hk,rfl,o,U,K⟩:=hrel;obtain⟨wk,rfl⟩:∃wo:World,wo=wr:=⟨_,rfl⟩;have Q:=Lib.hid o;clear o G1;have G1:=K.cell
       by_cases c9:k<N
       ·have f3:=dY (s:Int) i (by omega) (by omega)
        have f4:=dY (s:Int) k (by omega) (by omega);have F:=xK s i;have I:=xK s k;obtain⟨y,hy⟩:∃y,y=bR (s:Int) i:=⟨_,rfl⟩;obtain⟨z,hz⟩:∃y,y=bR (s:Int) k:=⟨_,rfl⟩;rw[<-hy]at f3 F;rw[<-hz]at f4 I;have b3:kF s i (k+1)=kF s i k++(if (decide (i<k)&&(!aW s i&&!aW s k)) then [(s,i,k)] else []):=rfl;rw[decide_eq_true f5,Bool.true_and]at b3;have a9:=Lib.hid b3;clear hy hz b3
        cases h1:aW s i with
        |true=>
         have f8:(y==0)=false:=by rw[F,h1];rfl
         have H1:=Lib.hid h1;clear h1 F I;go_wp2;go_roundw
         case rel=>exact⟨k+1,by omega,by omega,by go_num,by rw[a9.out,H1.out];simpa using Q.out,U,K⟩
         case measure=>simp[intOf];omega
        |false=>
         have f8:(y==0)=true:=by rw[F,h1];rfl
         cases h2:aW s k with
         |true=>
          have f9:(z==0)=false:=by rw[I,h2];rfl
          have H2:=Lib.hid h2;clear h1 h2 F I;go_wp2;go_roundw
          case rel=>exact⟨k+1,by omega,by omega,by go_num,by rw[a9.out,H2.out];simpa using Q.out,U,K⟩
          case measure=>simp[intOf];omega
         |false=>
          have f9:(z==0)=true:=by rw[I,h2];rfl
          have a7:kF s i (k+1)=kF s i k++[(s,i,k)]:=by rw[a9.out,h1,h2];rfl
          have M:=EL N c7 l _ wk (b4.below U (Nat.le_refl _)) b7.out e9.out s i k (by rw[<-b7.out];exact e4) (by omega) c9;have a6:eC (dH l) (((iE N s++iQ N s i)++kF s i k)++[(s,i,k)]) none=dH l none (s,i,k):=by rw[MH Q.out,IF]
          have b6:=Lib.hid M;have Y:=Lib.hid a6;have c6:=Lib.hid a7;clear h1 h2 F I M a6 a7
          cases hb:jY l (s,i,k) with
          |false=>
           have A:dH l none (s,i,k)=(none,true):=by unfold dH;rw[hb];rfl
           have c5:=Lib.hid A;have HB:=Lib.hid hb;clear A hb;go_wp2_with (go_at_call 189;refine b6.out.mono ?_;rintro e w4 ⟨rfl,R⟩;rw[HB.out]);go_roundw
           case rel=>exact⟨k+1,by omega,by omega,by go_num,by rw[c6.out,<-List.append_assoc,Y.out,c5.out],U.after R U.size,K.keep R⟩
           case measure=>simp[intOf];omega
          |true=>
           have A:dH l none (s,i,k)=(some (s,i,k),false):=by unfold dH;rw[hb];rfl
           have D:iI N l=some (s,i,k):=by
            obtain⟨r,hr⟩:=vF N l.length s i (k+1) e4 f6 c9;rw[HR.out,hr,c6.out,<-List.append_assoc,DQ (Y.out.trans A)]
           have Z:fH N l=true:=by unfold fH;rw[D];rfl
           have hL:fS N l=[(s:Int),(i:Int),(k:Int)]:=by unfold fS;rw[D];rfl
           have H:=Lib.hid (And.intro Z hL);have HB:=Lib.hid hb;clear A hb D Z hL;go_wp2_with (go_at_call 189;refine b6.out.mono ?_;rintro e w4 ⟨rfl,R⟩;rw[HB.out]);have B4:=U.after R U.size;go_ret2;exact⟨_,3,3,by rw[H.out.1];rfl,by rw[H.out.2];exact(aC.lit3' w4 B4.size s i k ⟨by omega,by omega⟩ ⟨by omega,by omega⟩ ⟨by omega,by omega⟩).toW,B4.alloc B4.size _⟩
       ·have d0:k=N:=by omega
        subst d0;go_wp2;go_roundw
        case rel=>exact⟨i+1,by omega,by go_num,by rw[show iQ k s (i+1)=iQ k s i++kF s i k from rfl,<-List.append_assoc];exact Q.out,U,K⟩
        case measure=>simp[intOf];omega
     ·have c8:i=N:=by omega
      subst c8;go_wp2;go_roundw
      case rel=>exact⟨s+1,by omega,by go_num,b9.out,B2,K⟩
      case measure=>simp[intOf];omega
   ·have e5:s=l.length:=by omega
    subst e5;have D:iI N l=none:=by rw[HR.out,b8.out]
    have Z:fH N l=false:=by unfold fH;rw[D];rfl
    have hL:fS N l=[]:=by unfold fS;rw[D];rfl
    have H:=Lib.hid (And.intro Z hL);clear D Z hL;go_wp2;go_ret2;exact⟨_,0,0,by rw[H.out.1];rfl,by rw[H.out.2];exact((aC.lit0 w1 (Nat.le_refl _)).mono S.size).toW,S.alloc S.size _⟩
theorem iK(n:Int)(l:List Int)(v:Value)(w:World)(M:aD w v l)(Q:l.length<=1048576):
  Calls Tryz.prog 57 #[.agg #[.int .i64 n,v]] w fun e w'=>e=.returned (.bool (cY n l))/\Below w.heap.size w w':=by
 have z:=M;obtain⟨a,c,rfl⟩:=M.shape;have N:=aB.new w 32 #[.int .i64 n,.slice a l.length c];go_enter Tryz.func57,Tryz.ntmps57;go_wp2_with fail;refine(MN _ n _ l (z.alloc _) Q).mono ?_;rintro e R ⟨Z,U,q1,rfl,Y,o⟩;have O:=N.keep o;have F:Below w.heap.size w R:=(aM _ _).after o (by simp);have S:=O.cell;go_wp2_with fail;refine(cI n l _ _ (z.below F (Nat.le_refl _))).mono ?_;rintro e w2 ⟨rfl,K⟩;have L:=F.after K F.size
 cases D:aN n l with
 |false=>
  have A:cY n l=false:=by unfold cY;rw[D];rfl
  have I:=Lib.hid A;clear A D;go_wp2;go_ret;exact⟨by rw[I.out];rfl,L⟩
 |true=>
  have A:cY n l=!fH n l:=by unfold cY;rw[D];rfl
  have I:=Lib.hid A;clear A D;go_wp2;go_ret;exact⟨by rw[I.out];rfl,L⟩
end
section
open Go.RowKit Go.G5
def fT(n:Int)(l:List Int):Bool:=(bP n l&&lD n l)&&cY n l
def pZ(l:List Int)(e:Nat):Bool:=!decide ((1:Int)<l.getD (2^e) 0)
def dW(n:Int)(l:List Int):Bool:=fT n l&&bX (pZ l) n.toNat
theorem qZ{n:Int}{l:List Int}(h:fT n l=true):aN n l=true:=by
 unfold fT bP at h;simp only[Bool.and_eq_true]at h;exact h.1.1.1
theorem EM(n:Int)(l:List Int)(v:Value)(w:World)(L:aD w v l)(Y:l.length<=1048576):
  Calls Tryz.prog 355 #[.agg #[.int .i64 n,v]] w fun e w'=>e=.returned (.bool (fT n l))/\Below w.heap.size w w':=by
 obtain⟨a,c,rfl⟩:=L.shape;have Q:=aB.new w 32 #[.int .i64 n,.slice a l.length c];go_enter Tryz.func355,Tryz.ntmps355;go_wp2_with fail;refine(nC n l _ _ (L.alloc _)).mono ?_;rintro e Z ⟨rfl,z⟩;have R:=Q.keep z;have F:Below w.heap.size w Z:=(aM _ _).after z (by simp);clear z Q
 cases K:bP n l with
 |false=>
  have o:fT n l=false:=by unfold fT;rw[K];rfl
  have D:=Lib.hid o;clear o K;go_wp2;go_ret;exact⟨by rw[D.out];rfl,F⟩
 |true=>
  have O:=Lib.hid K;clear K;have S:=R.cell;go_wp2_with fail;refine(TV n l _ _ (L.below F (Nat.le_refl _))).mono ?_;rintro e w2 ⟨rfl,A⟩;have U:=R.keep A;have I:=F.after A F.size;clear A S
  cases M:lD n l with
  |false=>
   have o:fT n l=false:=by unfold fT;rw[O.out,M];rfl
   have D:=Lib.hid o;clear o M;go_wp2;go_ret;exact⟨by rw[D.out];rfl,I⟩
  |true=>
   have o:fT n l=cY n l:=by unfold fT;rw[O.out,M];rfl
   have D:=Lib.hid o;clear o M;have G2:=U.cell;go_wp2_with fail;refine(jP n l _ _ (L.below I (Nat.le_refl _)) Y).mono ?_;rintro e w3 ⟨rfl,N⟩;go_wp2;go_ret;exact⟨by rw[D.out];rfl,I.after N I.size⟩
theorem sC(n:Int)(l:List Int)(v:Value)(w:World)(L:aD w v l)(Y:l.length<=1048576):
  Calls Tryz.prog 344 #[.agg #[.int .i64 n,v]] w fun e w'=>e=.returned (.bool (fT n l))/\Below w.heap.size w w':=by
 obtain⟨a,c,rfl⟩:=L.shape;have Q:=aB.new w 32 #[.int .i64 n,.slice a l.length c];go_enter Tryz.func344,Tryz.ntmps344;go_wp2_with fail;refine(kJ n l _ _ (L.alloc _)).mono ?_;rintro e Z ⟨rfl,z⟩;have R:=Q.keep z;have F:Below w.heap.size w Z:=(aM _ _).after z (by simp);clear z Q
 cases K:bP n l with
 |false=>
  have o:fT n l=false:=by unfold fT;rw[K];rfl
  have D:=Lib.hid o;clear o K;go_wp2;go_ret;exact⟨by rw[D.out];rfl,F⟩
 |true=>
  have O:=Lib.hid K;clear K;have S:=R.cell;go_wp2_with fail;refine(TB n l _ _ (L.below F (Nat.le_refl _))).mono ?_;rintro e w2 ⟨rfl,A⟩;have U:=R.keep A;have I:=F.after A F.size;clear A S
  cases M:lD n l with
  |false=>
   have o:fT n l=false:=by unfold fT;rw[O.out,M];rfl
   have D:=Lib.hid o;clear o M;go_wp2;go_ret;exact⟨by rw[D.out];rfl,I⟩
  |true=>
   have o:fT n l=cY n l:=by unfold fT;rw[O.out,M];rfl
   have D:=Lib.hid o;clear o M;have G2:=U.cell;go_wp2_with fail;refine(iK n l _ _ (L.below I (Nat.le_refl _)) Y).mono ?_;rintro e w3 ⟨rfl,N⟩;go_wp2;go_ret;exact⟨by rw[D.out];rfl,I.after N I.size⟩
theorem DU(n:Int)(l:List Int)(v:Value)(w:World)(hv:aD w v l)(hl:l.length<=1048576):
  Calls Tryz.prog 320 #[.agg #[.int .i64 n,v]] w fun e w'=>e=.returned (.bool (dW n l))/\Below w.heap.size w w':=by
 have U:=hv;obtain⟨a,b,e0,c,rfl,b8,Q,hc,hb⟩:=hv.view Tryz.prog 22 3 Tryz.underlying22 aG;have K0:=aB.new w 32 #[.int .i64 n,.slice a l.length c]
 cases K:fT n l with
 |false=>
  have I:dW n l=false:=by unfold dW;rw[K];rfl
  have Y:=Lib.hid I;have HF:=Lib.hid K;clear I K hc;go_enter Tryz.func320,Tryz.ntmps320;go_wp2_with (go_at_call 355;refine(EM n l _ _ (U.alloc _) hl).mono ?_;rintro e w1 ⟨rfl,z⟩;rw[HF.out]);go_ret;exact⟨aE Y.out.symm,(aM _ _).after z (by simp)⟩
 |true=>
  obtain⟨N,rfl,d0,S,b7,b3⟩:=bN (qZ K);have I:dW N l=bX (pZ l) N:=by unfold dW;rw[K];simp
  have Y:=Lib.hid I;have HF:=Lib.hid K;have a9:=Lib.hid S;have HC:=Lib.hid hc;have a8:=Lib.hid Q;clear I K S hc Q b3;go_enter Tryz.func320,Tryz.ntmps320;go_wp2_with fail;refine(EM N l _ _ (U.alloc _) hl).mono ?_;rintro e w1 ⟨rfl,z⟩;rw[HF.out];have K1:=K0.keep z;have B1:Below w.heap.size w w1:=(aM _ _).after z (by simp);have G1:=K1.cell;have M:=aK HC.out hb B1 (Nat.le_refl _);have a6:=Lib.hid M;clear K0 z M;go_wp2_with fail;go_loop [9] (fun i=>∃k:Nat,k<=N/\i=.int .i64 k/\bX (pZ l) k=true) (fun i=>N-(intOf i).toNat)
  case atStart=>exact⟨0,Nat.zero_le _,rfl,rfl⟩
  case round=>
   obtain⟨k,hk,rfl,D⟩:=hrel;have H:=Lib.hid D;clear D
   by_cases R:k<N
   ·have Z:2^k<l.length:=by rw[a9.out];exact Nat.pow_lt_pow_right (by decide) R
    have c0:=a6.out (2^k) Z;have i0:=fun W=>a8.out W (2^k) Z;have o:((2^k:Nat):Int)=(2:Int)^k:=by simp
    simp only[o]at i0;have A:pZ l k=!decide ((1:Int)<l[2^k]):=by unfold pZ;rw[aJ l _ Z]
    obtain⟨x,I⟩:∃x,x=l[2^k]:=⟨_,rfl⟩;rw[<-I]at c0 A;have HO:=Lib.hid A;have e4:(2:Int)^k<=32:=by rw[<-o];omega
    have e5:=(bJ k k (Nat.le_refl _)).2;have wk:IntKind.i64.wrap ((2:Int)^k)=2^k:=by rw[IntKind.wrap_i64];omega
    clear A I o Z
    by_cases O:(1:Int)<x
    ·have F:dW N l=false:=by rw[Y.out];exact cL R (by rw[HO.out,decide_eq_true O];rfl)
     have L:=Lib.hid F;clear F;go_wp2;go_ret;exact⟨aE L.out.symm,B1⟩
    ·have hu:pZ l k=true:=by rw[HO.out,decide_eq_false O];rfl
     have HU:=Lib.hid hu;clear hu;go_wp2;go_round
     case rel=>exact⟨k+1,by omega,by go_num,dM H.out HU.out⟩
     case measure=>simp[intOf];omega
   ·have b1:k=N:=by omega
    subst b1;go_wp2;go_ret;exact⟨aE (by rw[Y.out,H.out]),B1⟩
theorem vM(n:Int)(l:List Int)(v:Value)(w:World)(hv:aD w v l)(hl:l.length<=1048576):
  Calls Tryz.prog 297 #[.agg #[.int .i64 n,v]] w fun e w'=>e=.returned (.bool (dW n l))/\Below w.heap.size w w':=by
 have F:=hv;obtain⟨a,b,e4,c,rfl,b9,Z,hc,hb⟩:=hv.view Tryz.prog 22 3 Tryz.underlying22 aG;have K0:=aB.new w 32 #[.int .i64 n,.slice a l.length c]
 cases Q:fT n l with
 |false=>
  have M:dW n l=false:=by unfold dW;rw[Q];rfl
  have HX:=Lib.hid M;have U:=Lib.hid Q;clear M Q hc;go_enter Tryz.func297,Tryz.ntmps297;go_wp2_with fail;go_loopw [3] (fun i wr=>i=.int .i64 0/\Below w.heap.size w wr/\aB wr w.heap.size 32 #[.int .i64 n,.slice a l.length c]) (fun _ _=>0)
  case atStart=>exact⟨rfl,aM _ _,K0⟩
  case round=>
   obtain⟨rfl,B,K⟩:=hrel;have R:=K.cell;go_wp2_with fail;refine(sC n l _ _ (F.below B (Nat.le_refl _)) hl).mono ?_;rintro e w1 ⟨rfl,z⟩;rw[U.out];have D:=B.after z B.size;have K1:=K.keep z;clear R;have R:=K1.cell;go_wp2_with fail;refine(sC n l _ _ (F.below D (Nat.le_refl _)) hl).mono ?_;rintro e w2 ⟨rfl,O⟩;rw[U.out];go_wp2;go_ret;exact⟨aE HX.out.symm,D.after O D.size⟩
 |true=>
  obtain⟨N,rfl,e0,a6,b8,b6⟩:=bN (qZ Q);have M:dW N l=bX (pZ l) N:=by unfold dW;rw[Q];simp
  have HX:=Lib.hid M;have U:=Lib.hid Q;have b1:=Lib.hid a6;have HC:=Lib.hid hc;have b0:=Lib.hid Z;clear M Q a6 hc Z b6;go_enter Tryz.func297,Tryz.ntmps297;go_wp2_with fail;go_loopw [3] (fun i wr=>∃k:Nat,k<=N/\i=.int .i64 k/\bX (pZ l) k=true/\Below w.heap.size w wr/\aB wr w.heap.size 32 #[.int .i64 N,.slice a l.length c]) (fun i _=>N-(intOf i).toNat)
  case atStart=>exact⟨0,Nat.zero_le _,rfl,rfl,aM _ _,K0⟩
  case round=>
   obtain⟨k,hk,rfl,I,B,K⟩:=hrel;obtain⟨wo,rfl⟩:∃wo:World,wo=wr:=⟨_,rfl⟩;have H:=Lib.hid I;clear I K0;have R:=K.cell;go_wp2_with fail;refine(sC N l _ _ (F.below B (Nat.le_refl _)) hl).mono ?_;rintro e w1 ⟨rfl,z⟩;rw[U.out];have K:=K.keep z;have D:=B.after z B.size;clear R z B;have R:=K.cell
   by_cases a1:k<N
   ·have hp:2^k<l.length:=by rw[b1.out];exact Nat.pow_lt_pow_right (by decide) a1
    have c0:=aK HC.out hb D (Nat.le_refl _) (2^k) hp;have i0:=fun W=>b0.out W (2^k) hp;have o:((2^k:Nat):Int)=(2:Int)^k:=by simp
    simp only[o]at i0;have A:pZ l k=!decide ((1:Int)<l[2^k]):=by unfold pZ;rw[aJ l _ hp]
    obtain⟨x,M⟩:∃x,x=l[2^k]:=⟨_,rfl⟩;rw[<-M]at c0 A;have HO:=Lib.hid A;have e5:(2:Int)^k<=32:=by rw[<-o];omega
    have e6:=(bJ k k (Nat.le_refl _)).2;have wk:IntKind.i64.wrap ((2:Int)^k)=2^k:=by rw[IntKind.wrap_i64];omega
    clear A M o hp
    by_cases Y:(1:Int)<x
    ·have L:dW N l=false:=by rw[HX.out];exact cL a1 (by rw[HO.out,decide_eq_true Y];rfl)
     have S:=Lib.hid L;clear L;go_wp2_with fail;go_quiet (fail);go_wp2;go_ret;exact⟨aE S.out.symm,D.drewN' _⟩
    ·have hu:pZ l k=true:=by rw[HO.out,decide_eq_false Y];rfl
     have HU:=Lib.hid hu;clear hu;go_wp2_with fail;go_quiet (fail);go_wp2;go_roundw
     case rel=>exact⟨k+1,by omega,by go_num,dM H.out HU.out,D.drewN' _,K.drewN _⟩
     case measure=>simp[intOf];omega
   ·have b5:k=N:=by omega
    subst b5;go_wp2_with fail;refine(sC k l _ _ (F.below D (Nat.le_refl _)) hl).mono ?_;rintro e w2 ⟨rfl,O⟩;rw[U.out];go_wp2;go_ret;exact⟨aE (by rw[HX.out,H.out]),D.after O D.size⟩
end
section
open Go.RowKit Go.G5
def mX(l:List Int)(s:Nat):Int:=l.getD (l.length-1-s) 0
def kP(l:List Int):List Int:=bM (mX l) l.length
def sT(n:Int)(l:List Int):Int:=if aN n l then n else 0
def sH(n:Int)(l:List Int):List Int:=if aN n l then kP l else []
def oT(n:Int)(l:List Int):Bool:=aN n l&&decide (l=kP l)
def eF(n:Int)(l:List Int):Bool:=(cY n l&&oT n l)&&decide (2<=n)
def gA(l:List Int):Nat->Nat
 |0=>1
 |k+1=>if k<2 then 1 else if l.getD k 0<l.getD (gA l k) 0 then k else gA l k
def gZ(n:Int)(l:List Int):Int:=if eF n l then (gA l (l.length-1):Int) else 0
def gL(n:Int)(l:List Int):Int:=if eF n l then l.getD (gA l (l.length-1)) 0 else 0
theorem OR(l:List Int):gA l 2=1:=rfl
theorem sP(l:List Int)(k:Nat)(h:2<=k):gA l (k+1)=if l.getD k 0<l.getD (gA l k) 0 then k else gA l k:=by rw[gA,if_neg (by omega)]
theorem vD(l:List Int):∀k,2<=k->1<=gA l k/\gA l k<k:=by
 intro k
 induction k with
 |zero=>intro h;omega
 |succ k ih=>
  intro h
  by_cases o:2<=k
  ·have:=ih o
   rw[sP l k o]
   split<;>omega
  ·have:k=1:=by omega
   subst this;rw[OR];omega
theorem TC(l:List Int):(kP l).length=l.length:=by unfold kP bM;simp
theorem wM(l:List Int)(s:Nat)(h:s<l.length):mX l s=l[l.length-1-s]:=by unfold mX;exact aJ l _ (by omega)
theorem UI(n:Int)(l:List Int)(h:aN n l=true):aN n (kP l)=true:=by
 obtain⟨F,I,o,z⟩:=jS h;unfold aN dB;rw[TC,bL.2 ⟨F,I⟩,decide_eq_true o];simp only[Bool.true_and,List.all_eq_true];intro x D;unfold kP bM at D;obtain⟨s,A,rfl⟩:=List.mem_map.1 D;rw[List.mem_range]at A;rw[wM l s A];exact bL.2 (z _ (by omega))
theorem uG:∀n:Nat,n<=5->∀s:Nat,s<2^n->dE (2^n-1) s=2^n-1-s:=by decide +kernel
end
section
open Go.RowKit Go.G5
def cZ(n:Int)(l:List Int)(m:Int)(k:List Int):Bool:=(dW n l&&dW m k)&&decide (n=m)
def bH(l:List Int)(s:Nat):Bool:=decide (l.getD s 0=(aY s:Int))
def fJ(l k:List Int):Nat->Nat
 |0=>0
 |t+1=>if decide (aY (fJ l k t)<aY t)&&(bH l t&&bH k t) then t else fJ l k t
def gK(l k:List Int)(t:Nat):Int:=l.getD t 0+k.getD (l.length-1-t) 0
def dQ(l k:List Int):Nat->Nat
 |0=>0
 |t+1=>if gK l k t<gK l k (dQ l k t) then t else dQ l k t
def gO(n:Int)(l:List Int)(m:Int)(k:List Int):Int:=if cZ n l m k then (fJ l k l.length:Int) else 0
def lG(n:Int)(l:List Int)(m:Int)(k:List Int):Int:=if cZ n l m k then (dQ l k l.length:Int) else 0
def xR(n:Int)(l:List Int)(m:Int)(k:List Int):Int:=if cZ n l m k then gK l k (dQ l k l.length) else 0
theorem qQ(l k:List Int):∀t,0<t->fJ l k t<t:=by
 intro t
 induction t with
 |zero=>intro h;omega
 |succ t ih=>
  intro _;rw[fJ]
  split
  ·omega
  ·rcases Nat.eq_zero_or_pos t with rfl|h
   ·simp[fJ]
   ·have:=ih h;omega
theorem wJ(l k:List Int):∀t,0<t->dQ l k t<t:=by
 intro t
 induction t with
 |zero=>intro h;omega
 |succ t ih=>
  intro _;rw[dQ]
  split
  ·omega
  ·rcases Nat.eq_zero_or_pos t with rfl|h
   ·simp[dQ]
   ·have:=ih h;omega
theorem I7(l k:List Int):fJ l k 1=0:=by
 have:=qQ l k 1 (by omega);omega
theorem JG(l k:List Int):dQ l k 1=0:=by
 have:=wJ l k 1 (by omega);omega
theorem kH{n m:Int}{l k:List Int}(h:cZ n l m k=true):m=n/\∃N:Nat,n=N/\N<=5/\l.length=2^N/\l.length<=32/\k.length=l.length/\(∀i,(L:i<l.length)->-1000<=l[i]/\l[i]<=1000)/\(∀i,(L:i<k.length)->-1000<=k[i]/\k[i]<=1000):=by
 unfold cZ dW at h;simp only[Bool.and_eq_true,decide_eq_true_eq]at h;obtain⟨⟨⟨h1,_⟩,h2,_⟩,rfl⟩:=h;obtain⟨N,rfl,z,D,o,F⟩:=bN (qZ h1);obtain⟨M,Q,K,O,I,A⟩:=bN (qZ h2);have:N=M:=by omega
 subst this;exact⟨rfl,N,rfl,z,D,o,by omega,F,A⟩
end
section
open Go.RowKit Go.G5
theorem qY(x:List Int)(v:Value)(w:World)(L:aD w v x):
  Calls Tryz.prog 299 #[v] w fun e w'=>e=.returned (.bool (dB x (-5000) 5000&&decide (x.length<=5)))/\w=w':=by
 obtain⟨a,b,M,c,rfl,A,K,O,hb⟩:=L.view Tryz.prog 22 3 Tryz.underlying22 aG;go_enter Tryz.func299,Tryz.ntmps299;go_wp2;go_loop [3] (fun i=>∃k:Nat,k<=x.length/\i=.int .i64 k/\(x.take k).all (fun x=>cM x (-5000) 5000)=true) (fun i=>x.length-(intOf i).toNat)
 case atStart=>exact⟨0,Nat.zero_le _,rfl,by simp⟩
 case round=>
  obtain⟨k,Q,rfl,o⟩:=hrel;have H:=Lib.hid o;clear o
  by_cases hlt:k<x.length
  ·cases D:cM x[k] (-5000) 5000 with
   |true=>
    go_wp2_with (go_at_call 188;refine(aR _ _ _ _).mono ?_;rintro e w' ⟨rfl,rfl⟩);go_round
    case rel=>exact⟨k+1,by omega,by go_num,by rw[dD _ _ _ hlt,H.out,D];rfl⟩
    case measure=>simp[intOf];omega
   |false=>
    go_wp2_with (go_at_call 188;refine(aR _ _ _ _).mono ?_;rintro e w' ⟨rfl,rfl⟩);go_ret;exact⟨aE (by unfold dB;rw[gB _ _ _ hlt D];rfl),rfl⟩
  ·have F:dB x (-5000) 5000=true:=by unfold dB;rw[<-eH (fun x=>cM x (-5000) 5000) x k (by omega),H.out]
   have z:=Lib.hid F;clear F
   by_cases N:x.length<=5
   ·go_wp2
    go_ret;exact⟨aE (by rw[z.out];simp;omega),rfl⟩
   ·have I:decide ((x.length:Int)<=5)=false:=decide_eq_false (by omega)
    go_wp2;go_ret;exact⟨aE (by first|rfl|(rw[z.out];simp;omega)),rfl⟩
def cR(n:Int)(x:List Int):Bool:=decide ((x.length:Int)=n)&&dB x (-5000) 5000
theorem zO(n:Int)(l:List Int)(v:Value)(x:List Int)(u:Value)(w:World)(F:aD w v l)(D:aD w u x):
  Calls Tryz.prog 245 #[.agg #[.int .i64 n,v],u] w fun e w'=>e=.returned (.bool (cR n x))/\Below w.heap.size w w':=by
 obtain⟨K,M,rfl⟩:=F.shape;obtain⟨I,L,rfl⟩:=D.shape
 by_cases o:(x.length:Int)=n
 ·have z:cR n x=dB x (-5000) 5000:=by unfold cR;rw[decide_eq_true o];rfl
  have ht:((x.length:Int)==n)=true:=by simp[o]
  have A:=Lib.hid z;clear z o;go_enter Tryz.func245,Tryz.ntmps245;go_wp2_with (go_at_call 131;refine(kV x _ _ _ _ (D.alloc _)).mono ?_;rintro e w' ⟨rfl,rfl⟩);go_ret;exact⟨by rw[A.out];rfl,aM _ _⟩
 ·have z:cR n x=false:=by unfold cR;rw[decide_eq_false o];rfl
  have ht:((x.length:Int)==n)=false:=by simp[o]
  have A:=Lib.hid z;clear z o;go_enter Tryz.func245,Tryz.ntmps245;go_wp2;go_ret;exact⟨by rw[A.out];rfl,aM _ _⟩
theorem jM(n:Int)(v:Value)(l:List Int)(w:World)(o:aD w v l)(D:0<=n)(h1:n<=40):
  Calls Tryz.prog 127 #[.agg #[.int .i64 n,v]] w fun e w'=>e=.returned (.int .i64 (2^n.toNat-1))/\Below w.heap.size w w':=by
 obtain⟨z,A,rfl⟩:=o.shape;have h2:=bJ n.toNat 40 (by omega);have h3:=h2.1;have h4:=h2.2;simp at h3;clear h2;go_enter Tryz.func127,Tryz.ntmps127;go_wp2;go_ret;exact⟨rfl,aM _ _⟩
def aS(l x:List Int)(s:Int):Int:=l.getD s.toNat 0-wt x s
theorem rY(n:Int)(l:List Int)(v:Value)(x:List Int)(u:Value)(s:Int)(w:World)(S:aD w v l)(D:aD w u x)(N:0<=s)(hs:s<l.length)(R:l.length<=64)
  (A:∀k,(z:k<l.length)->-1000<=l[k]/\l[k]<=1000) (F:∀k,(z:k<x.length)->-5000<=x[k]/\x[k]<=5000) (a1:x.length<=6):
  Calls Tryz.prog 126 #[.agg #[.int .i64 n,v],u,.int .i64 s] w fun e w'=>e=.returned (.int .i64 (aS l x s))/\Below w.heap.size w w':=by
 obtain⟨a,b,a6,c,rfl,L,Q,I,hb⟩:=S.view Tryz.prog 22 3 Tryz.underlying22 aG;obtain⟨au,cu,rfl⟩:=D.shape;obtain⟨k,rfl⟩:=Int.eq_ofNat_of_zero_le N;have z:k<l.length:=by omega
 have O:=aK I hb (aM w (.cells #[.int .i64 n,.slice a l.length c] 32)) (Nat.le_refl _) k z;have Z:=A k z;have U:=wT x k (fun j o=>by have:=F j o;omega) x.length (Nat.le_refl _);have Y:-6000000<=wt x k/\wt x k<=6000000:=by unfold wt;omega
 have K:l.getD (k:Int).toNat 0=l[k]:=by simp[z]
 have M:=Lib.hid K;clear I A U K;go_enter Tryz.func126,Tryz.ntmps126;go_wp2;go_quiet ((go_at_call 132;first|exact kB (lN x _ _ _ ((D.alloc _).drewN _) (by omega) (by omega) (fun j o=>by have:=F j o;omega) (by omega))|exact lR (lN x _ _ _ ((D.alloc _).drewN _) (by omega) (by omega) (fun j o=>by have:=F j o;omega) (by omega))));go_wp2;go_ret;exact⟨eJ (by unfold aS;rw[M.out]),(aM _ _).drewN' _⟩
def mZ(l x:List Int):Nat->Bool
 |0=>true
 |k+1=>mZ l x k&&decide (aS l x k<=0)
def wK(n:Int)(l x:List Int):Bool:=
 bP n l&&cR n x&&mZ l x l.length&&(aS l x (2^n.toNat-1)==0)
theorem iV{n:Int}{x:List Int}(h:cR n x=true):(x.length:Int)=n/\∀k,(o:k<x.length)->-5000<=x[k]/\x[k]<=5000:=by
 unfold cR dB at h;simp only[Bool.and_eq_true,List.all_eq_true,decide_eq_true_eq]at h;exact⟨h.1,fun k o=>bL.1 (h.2 _ (List.getElem_mem o))⟩
theorem jD{n:Int}{l:List Int}(h:bP n l=true):aN n l=true:=by
 unfold bP at h;simp only[Bool.and_eq_true]at h;exact h.1
end
end Go.Proofs.YtipejodijbjpcaaGreatDoor
