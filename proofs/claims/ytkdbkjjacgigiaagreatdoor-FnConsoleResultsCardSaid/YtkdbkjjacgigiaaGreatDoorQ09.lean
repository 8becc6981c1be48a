/- Lemmas for CardConsoleResults. No condition. -/
import Derived.Test.YtkdbkjjacgigiaaGreatDoorQ08
set_option maxRecDepth 100000
set_option maxHeartbeats 64000000
namespace Go.Proofs.YtkdbkjjacgigiaaGreatDoor
section
open Go.RowKit Go.G5 Go.Proofs.Tryz
theorem NY(c s:Nat):(dI (c:Int) s==0)=!cZ c s:=by
 have h:=oP c s;have h2:dI (c:Int) s=0∨dI (c:Int) s=1:=by unfold dI;omega
 rcases h2 with h2|h2
 ·rw[h2]at h ⊢;rw[<-h];rfl
 ·rw[h2]at h ⊢;rw[<-h];rfl
theorem DO{α:Type}(n:Nat)(hn:n<=5)(l:List Int)(lv:Value)(hl:l.length=2^n)(c:FuncId)(he:∀args w,(callFunc c args).run prog w=.ok (.enter c args) w)(g1 g2:Nat)
  (step:α->kN->α×Bool) (M:α->World->Prop) (P:Nat->Prop) (R:∀a W W',M a W->Below W W W'->M a W')
  (w:World) (g5:∃a c,lv=aA a l.length c) (hP:∀b,P b->b<w.heap.size)
  (hcl:∀a (s i k:Nat) W,s<2^n->i<k->k<n->cZ s i=false->cZ s k=false->M a W->GrownIn w W P->Calls prog c #[s,i,k,.pointer (some ⟨g1,0,none⟩),.pointer (some ⟨g2,0,none⟩)] W fun e w'=>e=.returned (.bool (step a (s,i,k)).2)/\M (step a (s,i,k)).1 w'/\GrownIn W w' P)
  (a0:α) (h0:M a0 w):
  Calls prog 259 #[.agg #[n,lv],.func (.func c) #[] #[.pointer (some ⟨g1,0,none⟩),.pointer (some ⟨g2,0,none⟩)]] w fun e w'=>e=.returned (.tuple #[])/\M (hH step (kK n (2^n)) a0).1 w'/\GrownIn w w' P:=by
 obtain⟨a,cp,rfl⟩:=g5;have g6:(2:Nat)^n<=32:=Nat.pow_le_pow_right (n:=2) aQ hn;obtain⟨N,hN⟩:∃N:Nat,N=2^n:=⟨_,rfl⟩;rw[<-hN]at hl g6 hcl ⊢;obtain⟨T,hT⟩:=aJ (kK n N);rw[<-hT];have f9:l.length<=32:=aD;have K0:=aP.new w 27 #[n,aA a l.length cp];have R0:=R a0 w _ h0 (bF w (.cells #[n,aA a l.length cp] 27));have c7:GrownIn w (w.alloc (.cells #[n,aA a l.length cp] 27)) P:=GrownIn.of_below (bF _ _);have HT:=aH hT;have HL:=aH hl;have f5:=aH hcl;have HM:=aH R;have HP:=aH hP;clear hT hl hcl R hP hN;go_enter func259,ntmps259;go_wp2_with fail;go_loopw [10] (fun s wr=>∃(k:Nat) (b:α),k<=l.length/\s=aG k/\hH step (kK n k) a0=(b,true)/\M b wr/\GrownIn w wr P/\aP wr w 27 #[n,aA a l.length cp]) (fun s _=>l.length-(intOf s).toNat)
 case atStart=>exact⟨0,a0,Nat.zero_le _,rfl,rfl,R0,c7,K0⟩
 case round=>
  obtain⟨s,b,hs,rfl,F,D,O,K⟩:=hrel;obtain⟨wo,rfl⟩:∃wo:World,wo=wr:=⟨_,rfl⟩;have HR:=aH F;have a9:=aH D;have c9:=aH O;clear F D O R0 c7 K0;by_cases g7:s<l.length
  ·have f0:s<N:=by rw[<-HL.out];exact g7
   have e0:=aH f0;have G1:=K.cell;clear f0;go_wp2_with fail;go_loopw [15] (fun i wr=>∃(k:Nat) (b:α),k<=n/\i=aG k/\hH step (kK n s++lT n s k) a0=(b,true)/\M b wr/\GrownIn w wr P/\aP wr w 27 #[n,aA a l.length cp]) (fun i _=>n-(intOf i).toNat)
   case atStart=>exact⟨0,b,Nat.zero_le _,rfl,by rw[show lT n s 0=[] from rfl,List.append_nil];exact HR.out,a9.out,c9.out,K⟩
   case round=>
    obtain⟨i,b2,hi,rfl,F,D,O,K⟩:=hrel;obtain⟨wi,rfl⟩:∃wo:World,wo=wr:=⟨_,rfl⟩;have d0:=aH F;have Z:=aH D;have a8:=aH O;clear F D O G1;by_cases g0:i<n
    ·have f3:=S9 s i (i+1) aI;have f6:=aH f3;clear f3;go_wp2_with fail;go_loopw [6] (fun i' wr=>∃(k:Nat) (b:α),i<k/\k<=n/\i'=aG k/\hH step ((kK n s++lT n s i)++pE s i k) a0=(b,true)/\M b wr/\GrownIn w wr P/\aP wr w 27 #[n,aA a l.length cp]) (fun i' _=>n-(intOf i').toNat)
     case atStart=>exact⟨i+1,b2,by omega,by omega,by go_num,by rw[f6.out,List.append_nil];exact d0.out,Z.out,a8.out,K⟩
     case round=>
      obtain⟨k,b3,e6,hk,rfl,F,D,O,K⟩:=hrel;obtain⟨wk,rfl⟩:∃wo:World,wo=wr:=⟨_,rfl⟩;have a6:=aH F;have J:=aH D;have I:=aH O;have G1:=K.cell;clear F D O;by_cases e8:k<n
      ·have f7:=jN (s:Int) i aD aD;have f8:=jN (s:Int) k aD aD;have S:=NY s i;have Y:=NY s k;obtain⟨y,hy⟩:=aJ (dI (s:Int) i);obtain⟨z,hz⟩:=aJ (dI (s:Int) k);rw[<-hy]at f7 S;rw[<-hz]at f8 Y;have b8:pE s i (k+1)=pE s i k++(if (decide (i<k)&&(!cZ s i&&!cZ s k)) then [(s,i,k)] else []):=rfl;rw[decide_eq_true e6,Bool.true_and]at b8;have b5:=aH b8;clear hy hz b8
       cases h1:cZ s i with
       |true=>
        have g8:(y==0)=false:=by rw[S,h1];rfl
        have H1:=aH h1;clear h1 S Y;go_wp2;go_roundw
        case rel=>exact⟨k+1,b3,by omega,by omega,by go_num,by rw[b5.out,H1.out];simpa using a6.out,J.out,I.out,K⟩
        case measure=>simp[intOf];omega
       |false=>
        have g8:(y==0)=true:=by rw[S,h1];rfl
        cases h2:cZ s k with
        |true=>
         have g9:(z==0)=false:=by rw[Y,h2];rfl
         have H2:=aH h2;clear h1 h2 S Y;go_wp2;go_roundw
         case rel=>exact⟨k+1,b3,by omega,by omega,by go_num,by rw[b5.out,H2.out];simpa using a6.out,J.out,I.out,K⟩
         case measure=>simp[intOf];omega
        |false=>
         have g9:(z==0)=true:=by rw[Y,h2];rfl
         have b7:=f5.out b3 s i k wk e0.out e6 e8 h1 h2 J.out I.out;have b4:pE s i (k+1)=pE s i k++[(s,i,k)]:=by rw[b5.out,h1,h2];rfl
         obtain⟨r,hr⟩:=aJ (step b3 (s,i,k));have b1:hH step [(s,i,k)] b3=r:=by rw[YH,hr]
         rw[<-hr]at b7;have a1:hH step (((kK n s++lT n s i)++pE s i k)++[(s,i,k)]) a0=r:=by rw[abU a6.out];exact b1
         obtain⟨ra,rb⟩:=r;have c8:=aH b7;have e4:=aH b4;have b0:=aH a1;clear h1 h2 S Y b7 b4 b1 a1 hr
         cases rb with
         |true=>
          go_wp2_with (go_at_fn c;refine c8.out.mono ?_;rintro e w4 ⟨rfl,b6,a7⟩);have K4:=K.growIn a7 (fun h=>by have:=HP.out _ h;omega);have GG:=I.out.trans a7;go_roundw
          case rel=>exact⟨k+1,ra,by omega,by omega,by go_num,by rw[e4.out,<-List.append_assoc];exact b0.out,b6,GG,K4⟩
          case measure=>simp[intOf];omega
         |false=>
          go_wp2_with (go_at_fn c;refine c8.out.mono ?_;rintro e w4 ⟨rfl,b6,a7⟩);refine bodyPost_ret (v:=.tuple #[]) (results_none rfl _ _ _) rfl ⟨rfl,?_,I.out.trans a7⟩;have hT:(hH step T a0).1=ra:=by obtain⟨r,hr⟩:=S8 n N s i (k+1) e0.out g0 e8;rw[HT.out,hr,e4.out,<-List.append_assoc,SV b0.out]
          rw[hT];exact b6
      ·have e9:k=n:=aD;subst e9;go_wp2;go_roundw
       case rel=>exact⟨i+1,b3,by omega,by go_num,by rw[show lT k s (i+1)=lT k s i++pE s i k from rfl,<-List.append_assoc];exact a6.out,J.out,I.out,K⟩
       case measure=>simp[intOf];omega
    ·have e7:i=n:=aD;subst e7;have G1:=K.cell;go_wp2;go_roundw
     case rel=>exact⟨s+1,b2,by omega,by go_num,d0.out,Z.out,a8.out,K⟩
     case measure=>simp[intOf];omega
  ·have f2:s=l.length:=aD;subst f2;go_wp2;go_end0;refine⟨rfl,?_,c9.out⟩;rw[HT.out,<-HL.out,HR.out];exact a9.out
theorem NM(n:Nat)(hn:n<=5)(l:List Int)(v:Value)(w:World)(hv:aK w v l)(hl:l.length=2^n)(D:∀k,(hk:k<l.length)->-1000<=l[k]/\l[k]<=1000)(s i k:Nat)(F:s<2^n)(hi:i<n)(hk:k<n):
  Calls prog 261 #[.agg #[n,v],s,i,k] w fun e w'=>e=.returned (rZ l s i k)/\Below w w w':=by
 obtain⟨a,b,c8,c,rfl,a9,z,hc,hb⟩:=hv.view prog 25 3 underlying25 aN;have hc:=aR hc hb (bF w (.cells #[n,aA a l.length c] 27)) aI;have h1:=eI s i n F hi;have h2:=eI s k n F hk;have h3:=eI (bX s i) k n h1 hk;rw[<-sQ]at h3;have p5:(2:Nat)^n<=32:=Nat.pow_le_pow_right (n:=2) aQ hn;rw[<-hl]at h1 h2 h3 F p5;have c0:=hc s F;have c1:=hc _ h1;have c2:=hc _ h2;have c3:=hc _ h3;have i0:=fun W=>z W s F;have i1:=fun W=>z W _ h1;have i2:=fun W=>z W _ h2;have i3:=fun W=>z W _ h3;have b0:=D s F;have b1:=D _ h1;have b2:=D _ h2;have b3:=D _ h3;have hex:rZ l s i k=l[bX s i ||| bX s k]+l[s]-l[bX s i]-l[bX s k]:=by unfold rZ;rw[aS l _ h3,aS l _ F,aS l _ h1,aS l _ h2]
 have q1:=fQ s i aD aD;have q2:=fQ s k aD aD;have q3:=M8 (bX s i) (bX s k) aD aD;have Y:=fQ (bX s i) k aD aD;rw[<-sQ]at Y;obtain⟨u1,J⟩:=aJ (bX s i);obtain⟨u2,K⟩:=aJ (bX s k);simp only[<-J,<-K]at c1 c2 c3 i1 i2 i3 b1 b2 b3 hex q1 q2 q3 Y h1 h2 h3;obtain⟨u3,M⟩:=aJ (u1 ||| u2);simp only[<-M]at c3 i3 b3 hex q3 Y h3;obtain⟨I,N⟩:=aJ (l[s]);obtain⟨x1,O⟩:=aJ (l[u1]);obtain⟨x2,R⟩:=aJ (l[u2]);obtain⟨x3,S⟩:=aJ (l[u3]);rw[<-N]at c0 b0 hex;rw[<-O]at c1 b1 hex;rw[<-R]at c2 b2 hex;rw[<-S]at c3 b3 hex;have pi:=cJ i 6 aD;have pk:=cJ k 6 aD;have d0:(2:Int)^i<=64:=by simpa using pi.1
 have e4:(2:Int)^k<=64:=by simpa using pk.1
 have e0:=pi.2;have e5:=pk.2;have wi:IntKind.i64.wrap ((2:Int)^i)=2^i:=by rw[IntKind.wrap_i64];omega
 have wk:IntKind.i64.wrap ((2:Int)^k)=2^k:=by rw[IntKind.wrap_i64];omega
 have w1:IntKind.i64.wrap (x3+I)=x3+I:=by rw[IntKind.wrap_i64];omega
 have w2:IntKind.i64.wrap (x3+I-x1)=x3+I-x1:=by rw[IntKind.wrap_i64];omega
 have w3:IntKind.i64.wrap (x3+I-x1-x2)=x3+I-x1-x2:=by rw[IntKind.wrap_i64];omega
 have Z:=aH hex;have z0:(0:Int)<=(s:Int):=aD;clear z hb D hex J K M N O R S pi pk Y hc hl;go_enter func261,ntmps261;go_wp2_with fail;go_quiet (fail);go_wp2;go_ret;exact⟨fL Z.out.symm,(bF _ _).drewN' _⟩
def vJ(w:World)(z:Nat)(n:Nat)(v:Value)(a:Option kN)(W:World):Prop:=
 Below w w W/\aP W w 27 #[n,v]/\match a with
  |none=>aP W (z) 25 #[()]
  |some t=>∃g,aP W (z) 25 #[aA (some ⟨g,0,none⟩) 3 3]/\aM 3 (z+1) W (aA (some ⟨g,0,none⟩) 3 3) (amX (some t))
theorem YZ(w:World)(z:Nat)(n:Nat)(v:Value)(a:Option kN)(W W':World)(h:vJ w z n v a W)(hb:Below W W W'):vJ w z n v a W':=by
 obtain⟨h1,h2,h3⟩:=h;refine⟨h1.after hb h1.size,h2.keep hb,?_⟩
 cases a with
 |none=>exact aP.keep h3 hb
 |some t=>obtain⟨g,D,F⟩:=h3;exact⟨g,D.keep hb,F.keep hb⟩
theorem aM.lit3{E:TypeId}{B:Nat}(w:World)(hB:B<=w.heap.size)(x y z:Int)(F:dL x)(I:dL y)(J:dL z):aM E B (w.alloc (.cells #[x,y,z] E)) (aA (some ⟨w,0,none⟩) 3 3) [x,y,z]:=
 ⟨World.ownsRow_lit w #[x,y,z] 3 hB aQ rfl,by
  intro q D;simp only[List.mem_cons,List.not_mem_nil,or_false]at D
  rcases D with rfl|rfl|rfl<;>assumption⟩
theorem aaU(w:World)(J:Nat)(e4:w.heap.size<J)(n:Nat)(hn:n<=5)(l:List Int)(v:Value)(hv:aK w v l)(hl:l.length=2^n)(Y:∀k,(hk:k<l.length)->-1000<=l[k]/\l[k]<=1000)(a:Option kN)(s i k:Nat)(W:World)(hs:s<2^n)(e0:i<k)(hk:k<n)(hR:vJ w J n v a W):
  Calls prog 286 #[s,i,k,.pointer (some ⟨w,0,none⟩),.pointer (some ⟨J,0,none⟩)] W fun e w'=>
   e=.returned (.bool (mP l a (s,i,k)).2)/\vJ w J n v (mP l a (s,i,k)).1 w'/\GrownIn W w' (fun b=>b=J):=by
 obtain⟨B,Z,h3⟩:=hR;have e5:(2:Nat)^n<=32:=Nat.pow_le_pow_right (n:=2) aQ hn;have hex:=NM n hn l v W (hv.below B aI) hl Y s i k hs aD hk;have F:GR l (s,i,k)=decide (0<rZ l s i k):=rfl;have b1:=VN n l hl Y s i k hs aD hk;obtain⟨av,cv,rfl⟩:=hv.shape;obtain⟨x,hx⟩:=aJ (rZ l s i k);rw[<-hx]at hex F b1;have b5:dL (s:Int):=⟨by omega,by omega⟩;have b3:dL (i:Int):=⟨by omega,by omega⟩;have b4:dL (k:Int):=⟨by omega,by omega⟩;have G1:=Z.cell;have yB:=B.size;have O:=aH hex;have e7:s<32:=aD;clear hl Y hx hex hs;by_cases N:0<x
 ·have hb:GR l (s,i,k)=true:=by rw[F];exact decide_eq_true N
  have K:mP l a (s,i,k)=(some (s,i,k),false):=by unfold mP;rw[if_pos hb]
  have I:=aH K;have D:∃u,aP W (J) 25 #[u]:=by
   cases a with
   |none=>exact⟨_,h3⟩
   |some t=>obtain⟨g,k1,_⟩:=h3;exact⟨_,k1⟩
  obtain⟨u,D⟩:=D;have zo:=D.lt;clear F hb K h3;go_enter func286,ntmps286;go_wp2_with fail;refine O.out.mono ?_;rintro e w1 ⟨rfl,z⟩;have D:=D.keep z;have Z:=Z.keep z;have B1:=B.after z B.size;have y1:=z.size;have Go:=D.cell;have Fo:=D.frozen;have f0:=D.lt;clear G1;go_wp2;refine bN ?_;intro Wf R;obtain⟨W2,M⟩:=aJ (w1.setCell ⟨J,0,none⟩ (aA (some ⟨w1,0,none⟩) 3 3));rw[<-M]at R;have S:w1.grownBy W2 (some (J)):=by rw[M];exact bQ (World.grownBy.refl _ _) 0 _
  have b7:W2.heap.size=w1.heap.size:=by rw[M];simp
  have KO:aP W2 (J) 25 #[aA (some ⟨w1,0,none⟩) 3 3]:=by rw[M];have:=D.set 0 (aA (some ⟨w1,0,none⟩) 3 3);simpa using this
  have KF:=Z.grow S (by intro h;have:=Option.some.inj h;omega);have BF:=B1.grown S B1.size jI;have ol:=aM.lit3 (E:=3) (B:=J+1) W2 aD s i k b5 b3 b4;rw[b7]at ol;have a7:=(GrownIn.of_below (P:=fun b=>b=J) z).trans ((GrownIn.of_row S (fun q hq=>(Option.some.inj hq).symm)).trans (GrownIn.of_below (bF W2 (.cells #[s,i,k] 3))));have KO:=KO.alloc (.cells #[s,i,k] 3);have KF:=KF.alloc (.cells #[s,i,k] 3);have BF:=BF.alloc BF.size (.cells #[s,i,k] 3);rw[<-R]at KO KF BF ol a7;clear R Go Fo;go_ret;refine⟨by rw[I.out];rfl,?_,a7⟩;rw[I.out];exact⟨BF,KF,_,KO,ol⟩
 ·have hb:GR l (s,i,k)=false:=by rw[F];exact decide_eq_false N
  have K:mP l a (s,i,k)=(a,a.isNone):=by unfold mP;rw[if_neg (by rw[hb];simp)]
  have I:=aH K;clear F hb K
  cases a with
  |none=>have D:aP W (J) 25 #[()]:=h3;have zo:=D.lt;clear h3;go_enter func286,ntmps286;go_wp2_with fail;refine O.out.mono ?_;rintro e w1 ⟨rfl,z⟩;have D:=D.keep z;have Go:=D.cell;clear G1;go_wp2;go_ret;refine⟨by rw[I.out];rfl,?_,GrownIn.of_below z⟩;rw[I.out];exact⟨B.after z B.size,Z.keep z,D⟩
  |some t=>obtain⟨g,D,ow⟩:=h3;have zo:=D.lt;go_enter func286,ntmps286;go_wp2_with fail;refine O.out.mono ?_;rintro e w1 ⟨rfl,z⟩;have D:=D.keep z;have Go:=D.cell;clear G1;go_wp2;go_ret;refine⟨by rw[I.out];rfl,?_,GrownIn.of_below z⟩;rw[I.out];exact⟨B.after z B.size,Z.keep z,g,D,ow.keep z⟩
theorem JE:∀args w,(callFunc 286 args).run prog w=.ok (.enter 286 args) w:=enters_of func286 aO rfl
theorem ab0(w:World)(n:Int)(v:Value)(l:List Int)(hv:aK w v l)(_:l.length<=1048576):
  Calls prog 207 #[.agg #[n,v]] w fun e w'=>∃ad i cp,e=.returned (.tuple #[aA ad i cp,.bool (lC n l)])/\bK 3 w.heap.size w' (aA ad i cp) (lU n l)/\Below w w w':=by
 have S:=hv;obtain⟨a,c,rfl⟩:=hv.shape;have c8:∀(fn:Fn) (first cap:Array Value) (w:World),(Instr.makeFunc fn first cap).run prog w=.ok (.func fn first cap) w:=fun _ _ _ _=>rfl;have K0:=aP.new w 27 #[n,aA a l.length c]
 cases O:aY n l with
 |false=>
  have hr:sD n l=none:=by unfold sD;rw[O];rfl
  have hB:lC n l=false:=by unfold lC;rw[hr];rfl
  have K:lU n l=[]:=by unfold lU;rw[hr];rfl
  have H:=aH (And.intro hB K);have HF:=aH O;clear hr hB K O;go_enter func207,ntmps207;go_wp2_with (go_at_call 132;refine(dM n l _ _ (S.alloc _)).mono ?_;rintro e w1 ⟨rfl,D⟩;rw[HF.out]);go_ret2;exact⟨none,0,0,by rw[H.out.1];rfl,by rw[H.out.2];exact bK.nil _ _ _,(bF _ _).after D (by simp)⟩
 |true=>
  obtain⟨h0,h5,F,Z⟩:=kP O;obtain⟨N,rfl⟩:=Int.eq_ofNat_of_zero_le h0;have Y:N<=5:=aD;have R:l.length=2^N:=by
   have e2:(N:Int).toNat=N:=aD;rw[e2]at F
   exact_mod_cast F
  have hr:sD N l=aeR N l:=by unfold sD;rw[O];rfl
  have M:∀J V,w.heap.size<J->vJ w J N (aA a l.length c) none V->Calls prog 259 #[.agg #[N,aA a l.length c],.func (.func 286) #[] #[.pointer (some ⟨w,0,none⟩),.pointer (some ⟨J,0,none⟩)]] V fun e w'=>
    e=.returned (.tuple #[])/\vJ w J N (aA a l.length c) (sD N l) w'/\GrownIn V w' (fun b=>b=J):=fun J V b0 hV=>by
   rw[hr];refine DO N Y l _ R 286 JE _ _ (mP l) (vJ w J N (aA a l.length c)) _ (YZ w J N _) V ⟨a,c,rfl⟩ (fun b hb=>by have:=(hV.2.2:aP V J 25 #[()]).lt;omega) ?_ none hV;intro a' s i k W hs a9 hk _ _ I _;exact aaU w J b0 N Y l _ S R Z a' s i k W hs a9 hk I
  have HV:=aH M;have HF:=aH O;clear M hr O F Z R;go_enter func207,ntmps207;go_wp2_with fail;refine(dM N l _ _ (S.alloc _)).mono ?_;rintro e w1 ⟨rfl,D⟩;rw[HF.out];have K1:=K0.keep D;have B1:Below w w w1:=(bF _ _).after D (by simp);have G1:=K1.cell;have z1:=K1.lt;clear D K0;go_wp2_with fail;have R0:vJ w w1.heap.size N (aA a l.length c) none (w1.alloc (.cells #[()] 25)):=⟨B1.alloc B1.size _,K1.alloc _,aP.new _ _ _⟩;refine(HV.out w1.heap.size _ z1 R0).mono ?_;rintro e w2 ⟨rfl,⟨B2,K2,z⟩,c7⟩;clear G1 R0
  cases I:sD N l with
  |none=>
   rw[I]at z;have Ko:aP w2 w1 25 #[()]:=z;have hB:lC N l=false:=by unfold lC;rw[I];rfl
   have K:lU N l=[]:=by unfold lU;rw[I];rfl
   have H:=aH (And.intro hB K);have Go:=Ko.cell;clear z I hB K;go_wp2_with fail;go_quiet (fail);go_wp2;go_ret2;exact⟨none,0,0,by rw[H.out.1];rfl,by rw[H.out.2];exact bK.nil _ _ _,B2.drewN' _⟩
  |some t=>
   rw[I]at z;obtain⟨g,Ko,ow⟩:=z;have hB:lC N l=true:=by unfold lC;rw[I];rfl
   have K:lU N l=amX (some t):=by unfold lU;rw[I]
   have H:=aH (And.intro hB K);have Go:=Ko.cell;have y1:=B1.size;clear I hB K;go_wp2_with fail;go_quiet (fail);go_wp2;go_ret2;exact⟨some ⟨g,0,none⟩,3,3,by rw[H.out.1];rfl,by rw[H.out.2];exact((ow.toW.mono aD).drewN _),B2.drewN' _⟩
theorem pX(n:Int)(l:List Int)(v:Value)(w:World)(O:aK w v l)(hl:l.length<=1048576):
  Calls prog 184 #[.agg #[n,v]] w fun e w'=>e=.returned (.bool (fO n l))/\Below w w w':=by
 have D:=O;obtain⟨a,c,rfl⟩:=O.shape;have R:=aP.new w 27 #[n,aA a l.length c];go_enter func184,ntmps184;go_wp2_with fail;refine(ab0 _ n _ l (D.alloc _) hl).mono ?_;rintro e w1 ⟨p1,Z,q1,rfl,o1,z⟩;have S:=R.keep z;have J:Below w w w1:=(bF _ _).after z (by simp);have Y:=S.cell;go_wp2_with fail;refine(dM n l _ _ (D.below J aI)).mono ?_;rintro e w2 ⟨rfl,M⟩;have N:=J.after M J.size
 cases I:aY n l with
 |false=>
  have F:fO n l=false:=by unfold fO;rw[I];rfl
  have K:=aH F;clear F I;go_wp2;go_ret;exact⟨by rw[K.out];rfl,N⟩
 |true=>
  have F:fO n l=!lC n l:=by unfold fO;rw[I];rfl
  have K:=aH F;clear F I;go_wp2;go_ret;exact⟨by rw[K.out];rfl,N⟩
theorem agE(n:Nat)(hn:n<=5)(l:List Int)(v:Value)(w:World)(hv:aK w v l)(hl:l.length=2^n)(D:∀k,(hk:k<l.length)->-1000<=l[k]/\l[k]<=1000)(s i k:Nat)(I:s<2^n)(hi:i<n)(hk:k<n):
  Calls prog 80 #[v,s,i,k] w fun e w'=>e=.returned (.bool (GR l (s,i,k)))/\Below w w w':=by
 obtain⟨a,b,c9,c,rfl,b5,z,hc,hb⟩:=hv.view prog 25 3 underlying25 aN;have h1:=eI s i n I hi;have h2:=eI s k n I hk;have h3:=eI (bX s i) k n h1 hk;rw[<-sQ]at h3;have p5:(2:Nat)^n<=32:=Nat.pow_le_pow_right (n:=2) aQ hn;rw[<-hl]at h1 h2 h3 I p5;have c0:=hc s I;have c1:=hc _ h1;have c2:=hc _ h2;have c3:=hc _ h3;have i0:=fun W=>z W s I;have i1:=fun W=>z W _ h1;have i2:=fun W=>z W _ h2;have i3:=fun W=>z W _ h3;have b0:=D s I;have b1:=D _ h1;have b2:=D _ h2;have b3:=D _ h3;have hex:rZ l s i k=l[bX s i ||| bX s k]+l[s]-l[bX s i]-l[bX s k]:=by unfold rZ;rw[aS l _ h3,aS l _ I,aS l _ h1,aS l _ h2]
 have q1:=fQ s i aD aD;have q2:=fQ s k aD aD;have q3:=M8 (bX s i) (bX s k) aD aD;have q4:=fQ (bX s i) k aD aD;rw[<-sQ]at q4;obtain⟨u1,J⟩:=aJ (bX s i);obtain⟨u2,K⟩:=aJ (bX s k);simp only[<-J,<-K]at c1 c2 c3 i1 i2 i3 b1 b2 b3 hex q1 q2 q3 q4 h1 h2 h3;obtain⟨u3,M⟩:=aJ (u1 ||| u2);simp only[<-M]at c3 i3 b3 hex q3 q4 h3;obtain⟨Y,N⟩:=aJ (l[s]);obtain⟨x1,O⟩:=aJ (l[u1]);obtain⟨Z,R⟩:=aJ (l[u2]);obtain⟨x3,S⟩:=aJ (l[u3]);rw[<-N]at c0 b0 hex;rw[<-O]at c1 b1 hex;rw[<-R]at c2 b2 hex;rw[<-S]at c3 b3 hex;have pi:=cJ i 6 aD;have pk:=cJ k 6 aD;have e0:(2:Int)^i<=64:=by simpa using pi.1
 have e5:(2:Int)^k<=64:=by simpa using pk.1
 have e4:=pi.2;have e6:=pk.2;have wi:IntKind.i64.wrap ((2:Int)^i)=2^i:=by rw[IntKind.wrap_i64];omega
 have wk:IntKind.i64.wrap ((2:Int)^k)=2^k:=by rw[IntKind.wrap_i64];omega
 have w1:IntKind.i64.wrap (x3+Y)=x3+Y:=by rw[IntKind.wrap_i64];omega
 have w2:IntKind.i64.wrap (x1+Z)=x1+Z:=by rw[IntKind.wrap_i64];omega
 have F:GR l (s,i,k)=decide (x1+Z<x3+Y):=by
  unfold GR;simp only[hex];by_cases h:x1+Z<x3+Y
  ·rw[decide_eq_true h,decide_eq_true aD]
  ·rw[decide_eq_false h,decide_eq_false aD]
 have HB:=aH F;have z0:(0:Int)<=(s:Int):=aD;clear z hb D hex J K M N O R S pi pk q3 hc hl F;go_enter func80,ntmps80;go_wp2_with fail;go_quiet (fail);go_wp2;go_ret;exact⟨aW HB.out.symm,(Below.refl _ _).drewN' _⟩
theorem xN(c s:Nat):(dI (c:Int) s==0)=!cZ c s:=by
 have h:=oP c s;have h2:dI (c:Int) s=0∨dI (c:Int) s=1:=by unfold dI;omega
 rcases h2 with h2|h2
 ·rw[h2]at h ⊢;rw[<-h];rfl
 ·rw[h2]at h ⊢;rw[<-h];rfl
theorem aM.lit3'{E:TypeId}{B:Nat}(w:World)(hB:B<=w.heap.size)(x y z:Int)(F:dL x)(I:dL y)(J:dL z):aM E B (w.alloc (.cells #[x,y,z] E)) (aA (some ⟨w,0,none⟩) 3 3) [x,y,z]:=
 ⟨World.ownsRow_lit w #[x,y,z] 3 hB aQ rfl,by
  intro q D;simp only[List.mem_cons,List.not_mem_nil,or_false]at D
  rcases D with rfl|rfl|rfl<;>assumption⟩
theorem ab1(w:World)(n:Int)(v:Value)(l:List Int)(hv:aK w v l)(_:l.length<=1048576):
  Calls prog 24 #[.agg #[n,v]] w fun e w'=>∃ad i cp,e=.returned (.tuple #[aA ad i cp,.bool (lC n l)])/\bK 3 w.heap.size w' (aA ad i cp) (lU n l)/\Below w w w':=by
 have b7:=hv;obtain⟨a,c,rfl⟩:=hv.shape;have K0:=aP.new w 27 #[n,aA a l.length c]
 cases hf:aY n l with
 |false=>
  have hr:sD n l=none:=by unfold sD;rw[hf];rfl
  have hB:lC n l=false:=by unfold lC;rw[hr];rfl
  have hL:lU n l=[]:=by unfold lU;rw[hr];rfl
  have H:=aH (And.intro hB hL);have HF:=aH hf;clear hr hB hL hf;go_enter func24,ntmps24;go_wp2_with fail;go_loopw [4] (fun i wr=>i=aG 0/\Below w w wr/\aP wr w 27 #[n,aA a l.length c]) (fun _ _=>0)
  case atStart=>exact⟨rfl,bF _ _,K0⟩
  case round=>obtain⟨rfl,B,K⟩:=hrel;have G1:=K.cell;go_wp2_with (go_at_call 20;refine(dH n l _ _ (b7.below B aI)).mono ?_;rintro e w1 ⟨rfl,O⟩;rw[HF.out]);have B1:=B.after O B.size;go_ret2;exact⟨_,0,0,by rw[H.out.1];rfl,by rw[H.out.2];exact((aM.lit0 w1 aI).mono B1.size).toW,B1.alloc B1.size _⟩
 |true=>
  obtain⟨h0,h5,S,e6⟩:=kP hf;obtain⟨N,rfl⟩:=Int.eq_ofNat_of_zero_le h0;have d0:N<=5:=aD;have b5:l.length=2^N:=by
   have e2:(N:Int).toNat=N:=aD;rw[e2]at S
   exact_mod_cast S
  have g0:(2:Nat)^N<=32:=Nat.pow_le_pow_right (n:=2) aQ d0;have h6:l.length<=32:=aD;have hr:sD N l=(hH (mP l) (kK N l.length) none).1:=by unfold sD aeR;rw[hf,if_pos rfl];simp only[Int.toNat_natCast];rw[b5]
  have HR:=aH hr;have HF:=aH hf;have f3:=aH e6;have c5:=aH b5;clear hr hf S e6 b5 g0;go_enter func24,ntmps24;go_wp2_with fail;go_loopw [4] (fun i wr=>∃s:Nat,s<=l.length/\i=aG s/\hH (mP l) (kK N s) none=(none,true)/\Below w w wr/\aP wr w 27 #[N,aA a l.length c]) (fun i _=>l.length-(intOf i).toNat)
  case atStart=>exact⟨0,Nat.zero_le _,rfl,rfl,bF _ _,K0⟩
  case round=>
   obtain⟨s,hs,rfl,D,B,K⟩:=hrel;obtain⟨wo,rfl⟩:∃wo:World,wo=wr:=⟨_,rfl⟩;have c6:=aH D;clear D K0;have G1:=K.cell;go_wp2_with fail;refine(dH N l _ _ (b7.below B aI)).mono ?_;rintro e w1 ⟨rfl,O⟩;rw[HF.out];have K:=K.keep O;have B1:=B.after O B.size;clear G1 O B;have G1:=K.cell;by_cases e7:s<l.length
   ·go_wp2_with fail
    go_loopw [5] (fun i wr=>∃k:Nat,k<=N/\i=aG k/\hH (mP l) (kK N s++lT N s k) none=(none,true)/\Below w w wr/\aP wr w 27 #[N,aA a l.length c]) (fun i _=>N-(intOf i).toNat)
    case atStart=>exact⟨0,Nat.zero_le _,rfl,by rw[show lT N s 0=[] from rfl,List.append_nil];exact c6.out,B1,K⟩
    case round=>
     obtain⟨i,hi,rfl,D,B2,K⟩:=hrel;obtain⟨wi,rfl⟩:∃wo:World,wo=wr:=⟨_,rfl⟩;have c7:=aH D;clear D G1;have G1:=K.cell;by_cases f9:i<N
     ·have F:=S9 s i (i+1) aI;have f4:=aH F;clear F;go_wp2_with fail;go_loopw [6] (fun i' wr=>∃k:Nat,i<k/\k<=N/\i'=aG k/\hH (mP l) ((kK N s++lT N s i)++pE s i k) none=(none,true)/\Below w w wr/\aP wr w 27 #[N,aA a l.length c]) (fun i' _=>N-(intOf i').toNat)
      case atStart=>exact⟨i+1,by omega,by omega,by go_num,by rw[f4.out,List.append_nil];exact c7.out,B2,K⟩
      case round=>
       obtain⟨k,f8,hk,rfl,D,B3,K⟩:=hrel;obtain⟨wk,rfl⟩:∃wo:World,wo=wr:=⟨_,rfl⟩;have Y:=aH D;clear D G1;have G1:=K.cell;by_cases e4:k<N
       ·have f6:=jN (s:Int) i aD aD;have f7:=jN (s:Int) k aD aD;have J:=xN s i;have M:=xN s k;obtain⟨y,hy⟩:=aJ (dI (s:Int) i);obtain⟨z,hz⟩:=aJ (dI (s:Int) k);rw[<-hy]at f6 J;rw[<-hz]at f7 M;have b6:pE s i (k+1)=pE s i k++(if (decide (i<k)&&(!cZ s i&&!cZ s k)) then [(s,i,k)] else []):=rfl;rw[decide_eq_true f8,Bool.true_and]at b6;have b3:=aH b6;clear hy hz b6
        cases h1:cZ s i with
        |true=>
         have g2:(y==0)=false:=by rw[J,h1];rfl
         have H1:=aH h1;clear h1 J M;go_wp2;go_roundw
         case rel=>exact⟨k+1,by omega,by omega,by go_num,by rw[b3.out,H1.out];simpa using Y.out,B3,K⟩
         case measure=>simp[intOf];omega
        |false=>
         have g2:(y==0)=true:=by rw[J,h1];rfl
         cases h2:cZ s k with
         |true=>
          have g5:(z==0)=false:=by rw[M,h2];rfl
          have H2:=aH h2;clear h1 h2 J M;go_wp2;go_roundw
          case rel=>exact⟨k+1,by omega,by omega,by go_num,by rw[b3.out,H2.out];simpa using Y.out,B3,K⟩
          case measure=>simp[intOf];omega
         |false=>
          have g5:(z==0)=true:=by rw[M,h2];rfl
          have b0:pE s i (k+1)=pE s i k++[(s,i,k)]:=by rw[b3.out,h1,h2];rfl
          have R:=agE N d0 l _ wk (b7.below B3 aI) c5.out f3.out s i k (by rw[<-c5.out];exact e7) aD e4;have a9:hH (mP l) (((kK N s++lT N s i)++pE s i k)++[(s,i,k)]) none=mP l none (s,i,k):=by rw[abU Y.out,YH]
          have b9:=aH R;have a7:=aH a9;have c9:=aH b0;clear h1 h2 J M R a9 b0
          cases hb:GR l (s,i,k) with
          |false=>
           have F:mP l none (s,i,k)=(none,true):=by unfold mP;rw[hb];rfl
           have c8:=aH F;have HB:=aH hb;clear F hb;go_wp2_with (go_at_call 80;refine b9.out.mono ?_;rintro e w4 ⟨rfl,Z⟩;rw[HB.out]);go_roundw
           case rel=>exact⟨k+1,by omega,by omega,by go_num,by rw[c9.out,<-List.append_assoc,a7.out,c8.out],B3.after Z B3.size,K.keep Z⟩
           case measure=>simp[intOf];omega
          |true=>
           have F:mP l none (s,i,k)=(some (s,i,k),false):=by unfold mP;rw[hb];rfl
           have I:sD N l=some (s,i,k):=by obtain⟨r,hr⟩:=S8 N l.length s i (k+1) e7 f9 e4;rw[HR.out,hr,c9.out,<-List.append_assoc,SV (a7.out.trans F)]
           have hB:lC N l=true:=by unfold lC;rw[I];rfl
           have hL:lU N l=[(s:Int),(i:Int),(k:Int)]:=by unfold lU;rw[I];rfl
           have H:=aH (And.intro hB hL);have HB:=aH hb;clear F hb I hB hL;go_wp2_with (go_at_call 80;refine b9.out.mono ?_;rintro e w4 ⟨rfl,Z⟩;rw[HB.out]);have B4:=B3.after Z B3.size;go_ret2;exact⟨_,3,3,by rw[H.out.1];rfl,by rw[H.out.2];exact(aM.lit3' w4 B4.size s i k ⟨by omega,by omega⟩ ⟨by omega,by omega⟩ ⟨by omega,by omega⟩).toW,B4.alloc B4.size _⟩
       ·have e5:k=N:=aD;subst e5;go_wp2;go_roundw
        case rel=>exact⟨i+1,by omega,by go_num,by rw[show lT k s (i+1)=lT k s i++pE s i k from rfl,<-List.append_assoc];exact Y.out,B3,K⟩
        case measure=>simp[intOf];omega
     ·have e0:i=N:=aD;subst e0;go_wp2;go_roundw
      case rel=>exact⟨s+1,by omega,by go_num,c7.out,B2,K⟩
      case measure=>simp[intOf];omega
   ·have e8:s=l.length:=aD;subst e8;have I:sD N l=none:=by rw[HR.out,c6.out]
    have hB:lC N l=false:=by unfold lC;rw[I];rfl
    have hL:lU N l=[]:=by unfold lU;rw[I];rfl
    have H:=aH (And.intro hB hL);clear I hB hL;go_wp2;go_ret2;exact⟨_,0,0,by rw[H.out.1];rfl,by rw[H.out.2];exact((aM.lit0 w1 aI).mono B1.size).toW,B1.alloc B1.size _⟩
theorem pY(n:Int)(l:List Int)(v:Value)(w:World)(O:aK w v l)(hl:l.length<=1048576):
  Calls prog 43 #[.agg #[n,v]] w fun e w'=>e=.returned (.bool (fO n l))/\Below w w w':=by
 have D:=O;obtain⟨a,c,rfl⟩:=O.shape;have R:=aP.new w 27 #[n,aA a l.length c];go_enter func43,ntmps43;go_wp2_with fail;refine(ab1 _ n _ l (D.alloc _) hl).mono ?_;rintro e w1 ⟨p1,Z,q1,rfl,o1,z⟩;have S:=R.keep z;have J:Below w w w1:=(bF _ _).after z (by simp);have Y:=S.cell;go_wp2_with fail;refine(dH n l _ _ (D.below J aI)).mono ?_;rintro e w2 ⟨rfl,M⟩;have N:=J.after M J.size
 cases I:aY n l with
 |false=>
  have F:fO n l=false:=by unfold fO;rw[I];rfl
  have K:=aH F;clear F I;go_wp2;go_ret;exact⟨by rw[K.out];rfl,N⟩
 |true=>
  have F:fO n l=!lC n l:=by unfold fO;rw[I];rfl
  have K:=aH F;clear F I;go_wp2;go_ret;exact⟨by rw[K.out];rfl,N⟩
def eZ(n:Int)(l:List Int):Bool:=(eD n l&&mU n l)&&fO n l
def AT(l:List Int)(e:Nat):Bool:=!decide ((1:Int)<l.getD (2^e) 0)
def dQ(n:Int)(l:List Int):Bool:=eZ n l&&cA (AT l) n.toNat
theorem sO{n:Int}{l:List Int}(h:eZ n l=true):aY n l=true:=by
 unfold eZ eD at h;simp only[Bool.and_eq_true]at h;exact h.1.1.1
theorem vI(n:Int)(l:List Int)(v:Value)(w:World)(N:aK w v l)(hl:l.length<=1048576):
  Calls prog 189 #[.agg #[n,v]] w fun e w'=>e=.returned (.bool (eZ n l))/\Below w w w':=by
 obtain⟨a,c,rfl⟩:=N.shape;have Y:=aP.new w 27 #[n,aA a l.length c];go_enter func189,ntmps189;go_wp2_with fail;refine(xX n l _ _ (N.alloc _)).mono ?_;rintro e w1 ⟨rfl,D⟩;have Z:=Y.keep D;have J:Below w w w1:=(bF _ _).after D (by simp);clear D Y
 cases M:eD n l with
 |false=>
  have z:eZ n l=false:=by unfold eZ;rw[M];rfl
  have I:=aH z;clear z M;go_wp2;go_ret;exact⟨by rw[I.out];rfl,J⟩
 |true=>
  have S:=aH M;clear M;have G1:=Z.cell;go_wp2_with fail;refine(WE n l _ _ (N.below J aI)).mono ?_;rintro e w2 ⟨rfl,F⟩;have K2:=Z.keep F;have K:=J.after F J.size;clear F G1
  cases O:mU n l with
  |false=>
   have z:eZ n l=false:=by unfold eZ;rw[S.out,O];rfl
   have I:=aH z;clear z O;go_wp2;go_ret;exact⟨by rw[I.out];rfl,K⟩
  |true=>
   have z:eZ n l=fO n l:=by unfold eZ;rw[S.out,O];rfl
   have I:=aH z;clear z O;have G2:=K2.cell;go_wp2_with fail;refine(pX n l _ _ (N.below K aI) hl).mono ?_;rintro e w3 ⟨rfl,R⟩;go_wp2;go_ret;exact⟨by rw[I.out];rfl,K.after R K.size⟩
theorem yE(n:Int)(l:List Int)(v:Value)(w:World)(N:aK w v l)(hl:l.length<=1048576):
  Calls prog 47 #[.agg #[n,v]] w fun e w'=>e=.returned (.bool (eZ n l))/\Below w w w':=by
 obtain⟨a,c,rfl⟩:=N.shape;have Y:=aP.new w 27 #[n,aA a l.length c];go_enter func47,ntmps47;go_wp2_with fail;refine(xY n l _ _ (N.alloc _)).mono ?_;rintro e w1 ⟨rfl,D⟩;have Z:=Y.keep D;have J:Below w w w1:=(bF _ _).after D (by simp);clear D Y
 cases M:eD n l with
 |false=>
  have z:eZ n l=false:=by unfold eZ;rw[M];rfl
  have I:=aH z;clear z M;go_wp2;go_ret;exact⟨by rw[I.out];rfl,J⟩
 |true=>
  have S:=aH M;clear M;have G1:=Z.cell;go_wp2_with fail;refine(WF n l _ _ (N.below J aI)).mono ?_;rintro e w2 ⟨rfl,F⟩;have K2:=Z.keep F;have K:=J.after F J.size;clear F G1
  cases O:mU n l with
  |false=>
   have z:eZ n l=false:=by unfold eZ;rw[S.out,O];rfl
   have I:=aH z;clear z O;go_wp2;go_ret;exact⟨by rw[I.out];rfl,K⟩
  |true=>
   have z:eZ n l=fO n l:=by unfold eZ;rw[S.out,O];rfl
   have I:=aH z;clear z O;have G2:=K2.cell;go_wp2_with fail;refine(pY n l _ _ (N.below K aI) hl).mono ?_;rintro e w3 ⟨rfl,R⟩;go_wp2;go_ret;exact⟨by rw[I.out];rfl,K.after R K.size⟩
theorem lX(n:Int)(l:List Int)(v:Value)(w:World)(hv:aK w v l)(hl:l.length<=1048576):
  Calls prog 190 #[.agg #[n,v]] w fun e w'=>e=.returned (.bool (dQ n l))/\Below w w w':=by
 have a6:=hv;obtain⟨a,b,e4,c,rfl,c5,Y,hc,hb⟩:=hv.view prog 25 3 underlying25 aN;have K0:=aP.new w 27 #[n,aA a l.length c]
 cases M:eZ n l with
 |false=>
  have K:dQ n l=false:=by unfold dQ;rw[M];rfl
  have HX:=aH K;have HF:=aH M;clear K M hc;go_enter func190,ntmps190;go_wp2_with (go_at_call 189;refine(vI n l _ _ (a6.alloc _) hl).mono ?_;rintro e w1 ⟨rfl,D⟩;rw[HF.out]);go_ret;exact⟨aW HX.out.symm,(bF _ _).after D (by simp)⟩
 |true=>
  obtain⟨N,rfl,e0,a1,b9,b6⟩:=cS (sO M);have K:dQ N l=cA (AT l) N:=by unfold dQ;rw[M];simp
  have HX:=aH K;have HF:=aH M;have b4:=aH a1;have HC:=aH hc;have b3:=aH Y;clear K M a1 hc Y b6;go_enter func190,ntmps190;go_wp2_with fail;refine(vI N l _ _ (a6.alloc _) hl).mono ?_;rintro e w1 ⟨rfl,D⟩;rw[HF.out];have K1:=K0.keep D;have B1:Below w w w1:=(bF _ _).after D (by simp);have G1:=K1.cell;have R:=aR HC.out hb B1 aI;have b0:=aH R;clear K0 D R;go_wp2_with fail;go_loop [9] (fun i=>∃k:Nat,k<=N/\i=aG k/\cA (AT l) k=true) (fun i=>N-(intOf i).toNat)
  case atStart=>exact⟨0,Nat.zero_le _,rfl,rfl⟩
  case round=>
   obtain⟨k,hk,rfl,I⟩:=hrel;have H:=aH I;clear I;by_cases Z:k<N
   ·have hp:2^k<l.length:=by rw[b4.out];exact Nat.pow_lt_pow_right aQ Z
    have c0:=b0.out (2^k) hp;have i0:=fun W=>b3.out W (2^k) hp;have z:((2^k:Nat):Int)=(2:Int)^k:=by simp
    simp only[z]at i0;have F:AT l k=!decide ((1:Int)<l[2^k]):=by unfold AT;rw[aS l _ hp]
    obtain⟨x,K⟩:=aJ (l[2^k]);rw[<-K]at c0 F;have HO:=aH F;have e5:(2:Int)^k<=32:=by rw[<-z];omega
    have e6:=(cJ k k aI).2;have wk:IntKind.i64.wrap ((2:Int)^k)=2^k:=by rw[IntKind.wrap_i64];omega
    clear F K z hp;by_cases S:(1:Int)<x
    ·have J:dQ N l=false:=by rw[HX.out];exact cW Z (by rw[HO.out,decide_eq_true S];rfl)
     have O:=aH J;clear J;go_wp2;go_ret;exact⟨aW O.out.symm,B1⟩
    ·have hu:AT l k=true:=by rw[HO.out,decide_eq_false S];rfl
     have HU:=aH hu;clear hu;go_wp2;go_round
     case rel=>exact⟨k+1,by omega,by go_num,dG H.out HU.out⟩
     case measure=>simp[intOf];omega
   ·have b5:k=N:=aD;subst b5;go_wp2;go_ret;exact⟨aW (by rw[HX.out,H.out]),B1⟩
theorem ajJ(n:Int)(l:List Int)(v:Value)(w:World)(hv:aK w v l)(hl:l.length<=1048576):
  Calls prog 48 #[.agg #[n,v]] w fun e w'=>e=.returned (.bool (dQ n l))/\Below w w w':=by
 have J:=hv;obtain⟨a,b,e6,c,rfl,c6,a8,hc,hb⟩:=hv.view prog 25 3 underlying25 aN;have K0:=aP.new w 27 #[n,aA a l.length c]
 cases Y:eZ n l with
 |false=>
  have R:dQ n l=false:=by unfold dQ;rw[Y];rfl
  have HX:=aH R;have HF:=aH Y;clear R Y hc;go_enter func48,ntmps48;go_wp2_with fail;go_loopw [3] (fun i wr=>i=aG 0/\Below w w wr/\aP wr w 27 #[n,aA a l.length c]) (fun _ _=>0)
  case atStart=>exact⟨rfl,bF _ _,K0⟩
  case round=>obtain⟨rfl,B,K⟩:=hrel;have Z:=K.cell;go_wp2_with fail;refine(yE n l _ _ (J.below B aI) hl).mono ?_;rintro e w1 ⟨rfl,D⟩;rw[HF.out];have I:=B.after D B.size;have K1:=K.keep D;clear Z;have Z:=K1.cell;go_wp2_with fail;refine(yE n l _ _ (J.below I aI) hl).mono ?_;rintro e w2 ⟨rfl,S⟩;rw[HF.out];go_wp2;go_ret;exact⟨aW HX.out.symm,I.after S I.size⟩
 |true=>
  obtain⟨N,rfl,e5,b0,c5,b8⟩:=cS (sO Y);have R:dQ N l=cA (AT l) N:=by unfold dQ;rw[Y];simp
  have HX:=aH R;have HF:=aH Y;have b5:=aH b0;have HC:=aH hc;have b4:=aH a8;clear R Y b0 hc a8 b8;go_enter func48,ntmps48;go_wp2_with fail;go_loopw [3] (fun i wr=>∃k:Nat,k<=N/\i=aG k/\cA (AT l) k=true/\Below w w wr/\aP wr w 27 #[N,aA a l.length c]) (fun i _=>N-(intOf i).toNat)
  case atStart=>exact⟨0,Nat.zero_le _,rfl,rfl,bF _ _,K0⟩
  case round=>
   obtain⟨k,hk,rfl,M,B,K⟩:=hrel;obtain⟨wo,rfl⟩:∃wo:World,wo=wr:=⟨_,rfl⟩;have H:=aH M;clear M K0;have Z:=K.cell;go_wp2_with fail;refine(yE N l _ _ (J.below B aI) hl).mono ?_;rintro e w1 ⟨rfl,D⟩;rw[HF.out];have K:=K.keep D;have I:=B.after D B.size;clear Z D B;have Z:=K.cell;by_cases a9:k<N
   ·have hp:2^k<l.length:=by rw[b5.out];exact Nat.pow_lt_pow_right aQ a9
    have c0:=aR HC.out hb I aI (2^k) hp;have i0:=fun W=>b4.out W (2^k) hp;have z:((2^k:Nat):Int)=(2:Int)^k:=by simp
    simp only[z]at i0;have F:AT l k=!decide ((1:Int)<l[2^k]):=by unfold AT;rw[aS l _ hp]
    obtain⟨x,R⟩:=aJ (l[2^k]);rw[<-R]at c0 F;have HO:=aH F;have e7:(2:Int)^k<=32:=by rw[<-z];omega
    have e8:=(cJ k k aI).2;have wk:IntKind.i64.wrap ((2:Int)^k)=2^k:=by rw[IntKind.wrap_i64];omega
    clear F R z hp;by_cases a7:(1:Int)<x
    ·have O:dQ N l=false:=by rw[HX.out];exact cW a9 (by rw[HO.out,decide_eq_true a7];rfl)
     have a1:=aH O;clear O;go_wp2_with fail;go_quiet (fail);go_wp2;go_ret;exact⟨aW a1.out.symm,I.drewN' _⟩
    ·have hu:AT l k=true:=by rw[HO.out,decide_eq_false a7];rfl
     have HU:=aH hu;clear hu;go_wp2_with fail;go_quiet (fail);go_wp2;go_roundw
     case rel=>exact⟨k+1,by omega,by go_num,dG H.out HU.out,I.drewN' _,K.drewN _⟩
     case measure=>simp[intOf];omega
   ·have b7:k=N:=aD;subst b7;go_wp2_with fail;refine(yE k l _ _ (J.below I aI) hl).mono ?_;rintro e w2 ⟨rfl,S⟩;rw[HF.out];go_wp2;go_ret;exact⟨aW (by rw[HX.out,H.out]),I.after S I.size⟩
def uW(l:List Int)(s:Nat):Int:=l.getD (l.length-1-s) 0
def qT(l:List Int):List Int:=eY (uW l) l.length
def DD(n:Int)(l:List Int):Int:=if aY n l then n else 0
def CE(n:Int)(l:List Int):List Int:=if aY n l then qT l else []
def sW(n:Int)(l:List Int):Bool:=aY n l&&decide (l=qT l)
def gK(n:Int)(l:List Int):Bool:=(fO n l&&sW n l)&&decide (2<=n)
def jM(l:List Int):Nat->Nat
 |0=>1
 |k+1=>if k<2 then 1 else if l.getD k 0<l.getD (jM l k) 0 then k else jM l k
def nZ(n:Int)(l:List Int):Int:=if gK n l then (jM l (l.length-1):Int) else 0
def lO(n:Int)(l:List Int):Int:=if gK n l then l.getD (jM l (l.length-1)) 0 else 0
theorem acB(l:List Int):jM l 2=1:=rfl
theorem CK(l:List Int)(k:Nat)(h:2<=k):jM l (k+1)=if l.getD k 0<l.getD (jM l k) 0 then k else jM l k:=by rw[jM,if_neg aD]
theorem RI(l:List Int):∀k,2<=k->1<=jM l k/\jM l k<k:=by
 intro k
 induction k with
 |zero=>intro h;omega
 |succ k ih=>
  intro h;by_cases hk:2<=k
  ·have:=ih hk;rw[CK l k hk]
   split<;>omega
  ·have:k=1:=aD;subst this;rw[acB];omega
theorem al1(l:List Int):(qT l).length=l.length:=by unfold qT eY;simp
theorem JX(l:List Int)(s:Nat)(h:s<l.length):uW l s=l[l.length-1-s]:=by unfold uW;exact aS l _ aD
theorem aoU(n:Int)(l:List Int)(h:aY n l=true):aY n (qT l)=true:=by
 obtain⟨J,K,z,D⟩:=kP h;unfold aY kA;rw[al1,cR.2 ⟨J,K⟩,decide_eq_true z];simp only[Bool.true_and,List.all_eq_true];intro x I;unfold qT eY at I;obtain⟨s,F,rfl⟩:=List.mem_map.1 I;rw[List.mem_range]at F;rw[JX l s F];exact cR.2 (D _ aD)
theorem OM:∀n:Nat,n<=5->∀s:Nat,s<2^n->cO (2^n-1) s=2^n-1-s:=by decide +kernel
theorem AM(x:List Int)(v:Value)(w:World)(Z:aK w v x):
  Calls prog 125 #[v] w fun e w'=>e=.returned (.bool (kA x (-5000) 5000&&decide (x.length<=5)))/\w=w':=by
 obtain⟨a,b,a1,c,rfl,M,S,hc,hb⟩:=Z.view prog 25 3 underlying25 aN;go_enter func125,ntmps125;go_wp2;go_loop [3] (fun i=>∃k:Nat,k<=x.length/\i=aG k/\(x.take k).all (fun x=>dV x (-5000) 5000)=true) (fun i=>x.length-(intOf i).toNat)
 case atStart=>exact⟨0,Nat.zero_le _,rfl,by simp⟩
 case round=>
  obtain⟨k,hk,rfl,z⟩:=hrel;have H:=aH z;clear z;by_cases hlt:k<x.length
  ·cases O:dV x[k] (-5000) 5000 with
   |true=>exact ahX
   |false=>go_wp2_with (go_at_call 77;refine(cP _ _ _ _).mono ?_;rintro e w' ⟨rfl,rfl⟩);go_ret;exact⟨aW (by unfold kA;rw[jK _ _ _ hlt O];rfl),rfl⟩
  ·have F:kA x (-5000) 5000=true:=by unfold kA;rw[<-kO (fun x=>dV x (-5000) 5000) x k aD,H.out]
   have I:=aH F;clear F;by_cases R:x.length<=5
   ·go_wp2;go_ret;exact⟨aW (by rw[I.out];simp;omega),rfl⟩
   ·have a7:decide ((x.length:Int)<=5)=false:=decide_eq_false aD;go_wp2;go_ret;exact⟨aW (by first|rfl|(rw[I.out];simp;omega)),rfl⟩
def fZ(n:Int)(x:List Int):Bool:=decide ((x.length:Int)=n)&&kA x (-5000) 5000
theorem N7(n:Int)(l:List Int)(v:Value)(x:List Int)(u:Value)(w:World)(I:aK w v l)(F:aK w u x):
  Calls prog 343 #[.agg #[n,v],u] w fun e w'=>e=.returned (.bool (fZ n x))/\Below w w w':=by
 obtain⟨K,N,rfl⟩:=I.shape;obtain⟨J,M,rfl⟩:=F.shape;by_cases hl:(x.length:Int)=n
 ·have z:fZ n x=kA x (-5000) 5000:=by unfold fZ;rw[decide_eq_true hl];rfl
  have ht:((x.length:Int)==n)=true:=by simp[hl]
  have D:=aH z;clear z hl;go_enter func343,ntmps343;go_wp2_with (go_at_call 175;refine(FN x _ _ _ _ (F.alloc _)).mono ?_;rintro e w' ⟨rfl,rfl⟩);go_ret;exact⟨by rw[D.out];rfl,bF _ _⟩
 ·have z:fZ n x=false:=by unfold fZ;rw[decide_eq_false hl];rfl
  have ht:((x.length:Int)==n)=false:=by simp[hl]
  have D:=aH z;clear z hl;go_enter func343,ntmps343;go_wp2;go_ret;exact⟨by rw[D.out];rfl,bF _ _⟩
theorem sF(n:Int)(v:Value)(l:List Int)(w:World)(z:aK w v l)(I:0<=n)(h1:n<=40):
  Calls prog 272 #[.agg #[n,v]] w fun e w'=>e=.returned (aG (2^n.toNat-1))/\Below w w w':=by
 obtain⟨D,F,rfl⟩:=z.shape;have h2:=cJ n.toNat 40 aD;have h3:=h2.1;have h4:=h2.2;simp at h3;clear h2;go_enter func272,ntmps272;go_wp2;go_ret;exact⟨rfl,bF _ _⟩
def dS(l x:List Int)(s:Int):Int:=l.getD s.toNat 0-wt x s
theorem SY(n:Int)(l:List Int)(v:Value)(x:List Int)(u:Value)(s:Int)(w:World)(Y:aK w v l)(F:aK w u x)(N:0<=s)(hs:s<l.length)(S:l.length<=64)
  (D:∀k,(hk:k<l.length)->-1000<=l[k]/\l[k]<=1000) (I:∀k,(hk:k<x.length)->-5000<=x[k]/\x[k]<=5000) (a6:x.length<=6):
  Calls prog 365 #[.agg #[n,v],u,s] w fun e w'=>e=.returned (dS l x s)/\Below w w w':=by
 obtain⟨a,b,a7,c,rfl,K,R,hc,hb⟩:=Y.view prog 25 3 underlying25 aN;obtain⟨au,cu,rfl⟩:=F.shape;obtain⟨k,rfl⟩:=Int.eq_ofNat_of_zero_le N;have hk:k<l.length:=aD;have O:=aR hc hb (bF w (.cells #[n,aA a l.length c] 27)) aI k hk;have a1:=D k hk;have hw:=ab3 x k (fun j z=>by have:=I j z;omega) x.length aI;have Z:-6000000<=wt x k/\wt x k<=6000000:=by unfold wt;omega
 have J:l.getD (k:Int).toNat 0=l[k]:=by simp[hk]
 have M:=aH J;clear hc D hw J;go_enter func365,ntmps365;go_wp2;go_quiet ((go_at_call 384;first|exact gL (JF x _ _ _ ((F.alloc _).drewN _) aD aD (fun j z=>by have:=I j z;omega) aD)|exact jF (JF x _ _ _ ((F.alloc _).drewN _) aD aD (fun j z=>by have:=I j z;omega) aD)));go_wp2;go_ret;exact⟨fL (by unfold dS;rw[M.out]),(bF _ _).drewN' _⟩
theorem OF{n:Int}{x:List Int}(h:fZ n x=true):(x.length:Int)=n/\∀k,(hk:k<x.length)->-5000<=x[k]/\x[k]<=5000:=by
 unfold fZ kA at h;simp only[Bool.and_eq_true,List.all_eq_true,decide_eq_true_eq]at h;exact⟨h.1,fun k hk=>cR.1 (h.2 _ (List.getElem_mem hk))⟩
theorem IE{n:Int}{l:List Int}(h:eD n l=true):aY n l=true:=by
 unfold eD at h;simp only[Bool.and_eq_true]at h;exact h.1
end
end Go.Proofs.YtkdbkjjacgigiaaGreatDoor
