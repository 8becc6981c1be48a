/- Lemmas for CardRunConsole. No condition. -/
import Derived.Test.YtkdbkjjacgigiaaGreatDoorR06
set_option maxRecDepth 100000
set_option maxHeartbeats 64000000
namespace Go.Proofs.YtkdbkjjacgigiaaGreatDoor
section
open Go.RowKit Go.G5 Go.Proofs.Tryz
variable(w:World)(n:Int)(v:Value)(l:aI)
theorem QI(c s:Nat):(fE (c:Int) s==0)=!eI c s:=by
 have h:=rP c s;have h2:fE (c:Int) s=0\/fE (c:Int) s=1:=by unfold fE;omega
 rcases h2 with h2|h2
 .rw[h2]at h |-;rw[<-h];rfl
 .rw[h2]at h |-;rw[<-h];rfl
theorem IB{α:Type}(n:Nat)(hn:n<=5)(l:aI)(lv:Value)(hl:l.length=2^n)(c:FuncId)(he:∀args w,(callFunc c args).run prog w=.ok (.enter c args) w)(g1 g2:Nat)
  (step:α->mJ->α×Bool) (M:α->World->Prop) (P:Nat->Prop) (R:∀a W W',M a W->Below W W W'->M a W')
  (w:World) (g4:∃a c,lv=aD a l c) (hP:∀b,P b->b<w.heap.size)
  (hcl:∀a (s i k:Nat) W,s<2^n->i<k->k<n->eI s i=false->eI s k=false->M a W->GrownIn w W P->Calls prog c #[s,i,k,aP (some ⟨g1,0,none⟩),aP (some ⟨g2,0,none⟩)] W fun e w'=>e=aQ (aG (step a (s,i,k)).2)/\M (step a (s,i,k)).1 w'/\GrownIn W w' P)
  (a0:α) (h0:M a0 w):
  Calls prog 259 #[aM #[n,lv],.func (.func c) #[] #[aP (some ⟨g1,0,none⟩),aP (some ⟨g2,0,none⟩)]] w fun e w'=>e=aQ (aS #[])/\M (jX step (lR n (2^n)) a0).1 w'/\GrownIn w w' P:=by
 obtain⟨a,cp,rfl⟩:=g4;have g5:(2:Nat)^n<=32:=bQ (n:=2) bZ hn;obtain⟨N,hN⟩:∃N:Nat,N=2^n:=⟨_,rfl⟩;rw[<-hN]at hl g5 hcl |-;obtain⟨T,hT⟩:=aW (lR n N);rw[<-hT];have f9:l.length<=32:=aA;have K0:=bK.new w 27 #[n,aD a l cp];have R0:=R a0 w _ h0 (cQ w (.cells #[n,aD a l cp] 27));have c7:GrownIn w (w.alloc (.cells #[n,aD a l cp] 27)) P:=GrownIn.of_below (cQ _ _);have HT:=aT hT;have HL:=aT hl;have f5:=aT hcl;have HM:=aT R;have HP:=aT hP;clear hT hl hcl R hP hN;go_enter func259,ntmps259;go_wp2_with fail;go_loopw [10] (fun s wr=>∃(k:Nat) (b:α),k<=l/\s=aO k/\jX step (lR n k) a0=(b,true)/\M b wr/\GrownIn w wr P/\bK wr w 27 #[n,aD a l cp]) (fun s _=>l.length-(intOf s).toNat)
 .exact⟨0,a0,aZ _,rfl,rfl,R0,c7,K0⟩
 obtain⟨s,b,hs,rfl,F,D,O,K⟩:=hrel;obtain⟨wo,rfl⟩:∃wo:World,wo=wr:=⟨_,rfl⟩;have HR:=aT F;have a9:=aT D;have c9:=aT O;clear F D O R0 c7 K0;by_cases g6:s<l.length
 .have f0:s<N:=by rw[<-HL.out];exact g6
  have e0:=aT f0;have G1:=K.cell;clear f0;go_wp2_with fail;go_loopw [15] (fun i wr=>∃(k:Nat) (b:α),k<=n/\i=aO k/\jX step (lR n s++nO n s k) a0=(b,true)/\M b wr/\GrownIn w wr P/\bK wr w 27 #[n,aD a l cp]) (fun i _=>n-(intOf i).toNat)
  .exact⟨0,b,aZ _,rfl,by rw[show nO n s 0=[] from rfl,List.append_nil];exact HR.out,a9.out,c9.out,K⟩
  obtain⟨i,b2,hi,rfl,F,D,O,K⟩:=hrel;obtain⟨wi,rfl⟩:∃wo:World,wo=wr:=⟨_,rfl⟩;have d0:=aT F;have Z:=aT D;have a8:=aT O;clear F D O G1;by_cases g0:i<n
  .have f3:=V7 s i (i+1) aU;have f6:=aT f3;clear f3;go_wp2_with fail;go_loopw [6] (fun i' wr=>∃(k:Nat) (b:α),i<k/\k<=n/\i'=aO k/\jX step ((lR n s++nO n s i)++rA s i k) a0=(b,true)/\M b wr/\GrownIn w wr P/\bK wr w 27 #[n,aD a l cp]) (fun i' _=>n-(intOf i').toNat)
   .exact⟨i+1,b2,aA,aA,cD,by rw[f6.out,List.append_nil];exact d0.out,Z.out,a8.out,K⟩
   obtain⟨k,b3,e6,hk,rfl,F,D,O,K⟩:=hrel;obtain⟨wk,rfl⟩:∃wo:World,wo=wr:=⟨_,rfl⟩;have a6:=aT F;have J:=aT D;have I:=aT O;have G1:=K.cell;clear F D O;by_cases e8:k<n
   .have f7:=lL (s:Int) i aA aA;have f8:=lL (s:Int) k aA aA;have S:=QI s i;have Y:=QI s k;obtain⟨y,hy⟩:=aW (fE (s:Int) i);obtain⟨z,hz⟩:=aW (fE (s:Int) k);rw[<-hy]at f7 S;rw[<-hz]at f8 Y;have b8:rA s i (k+1)=rA s i k++(if (decide (i<k)&&(!eI s i&&!eI s k)) then [(s,i,k)] else []):=rfl;rw[bH e6,Bool.true_and]at b8;have b5:=aT b8;clear hy hz b8
    cases h1:eI s i with
    |true=>
     have g7:(y==0)=false:=by rw[S,h1];rfl
     have H1:=aT h1;clear h1 S Y;go_wp2;go_roundw
     .exact⟨k+1,b3,aA,aA,cD,by rw[b5.out,H1.out];simpa using a6.out,J.out,I.out,K⟩
     exact aY
    |false=>
     have g7:(y==0)=true:=by rw[S,h1];rfl
     cases h2:eI s k with
     |true=>
      have g8:(z==0)=false:=by rw[Y,h2];rfl
      have H2:=aT h2;clear h1 h2 S Y;go_wp2;go_roundw
      .exact⟨k+1,b3,aA,aA,cD,by rw[b5.out,H2.out];simpa using a6.out,J.out,I.out,K⟩
      exact aY
     |false=>
      have g8:(z==0)=true:=by rw[Y,h2];rfl
      have b7:=f5.out b3 s i k wk e0.out e6 e8 h1 h2 J.out I.out;have b4:rA s i (k+1)=rA s i k++[(s,i,k)]:=by rw[b5.out,h1,h2];rfl
      obtain⟨r,hr⟩:=aW (step b3 (s,i,k));have b1:jX step [(s,i,k)] b3=r:=by rw[aaV,hr]
      rw[<-hr]at b7;have a1:jX step (((lR n s++nO n s i)++rA s i k)++[(s,i,k)]) a0=r:=by rw[ad5 a6.out];exact b1
      obtain⟨ra,rb⟩:=r;have c8:=aT b7;have e4:=aT b4;have b0:=aT a1;clear h1 h2 S Y b7 b4 b1 a1 hr
      cases rb with
      |true=>
       go_wp2_with (go_at_fn c;refine aV c8.out ?_;rintro w4 ⟨b6,a7⟩);have K4:=K.growIn a7 (fun h=>by have:=HP.out _ h;omega);have GG:=I.out.trans a7;go_roundw
       .exact⟨k+1,ra,aA,aA,cD,by rw[e4.out,<-eY];exact b0.out,b6,GG,K4⟩
       exact aY
      |false=>
       go_wp2_with (go_at_fn c;refine aV c8.out ?_;rintro w4 ⟨b6,a7⟩);refine bW (v:=aS #[]) (results_none rfl _ _ _) rfl ⟨rfl,?_,I.out.trans a7⟩;have hT:(jX step T a0).1=ra:=by obtain⟨r,hr⟩:=MJ n N s i (k+1) e0.out g0 e8;rw[HT.out,hr,e4.out,<-eY,VT b0.out]
       rw[hT];exact b6
   .have e9:k=n:=aA;subst e9;go_wp2;go_roundw
    .exact⟨i+1,b3,aA,cD,by rw[show nO k s (i+1)=nO k s i++rA s i k from rfl,<-eY];exact a6.out,J.out,I.out,K⟩
    exact aY
  .have e7:i=n:=aA;subst e7;have G1:=K.cell;go_wp2;go_roundw
   .exact⟨s+1,b2,aA,cD,d0.out,Z.out,a8.out,K⟩
   exact aY
 .have f2:s=l.length:=aA;subst f2;go_wp2;go_end0;refine⟨rfl,?_,c9.out⟩;rw[HT.out,<-HL.out,HR.out];exact a9.out
theorem P6(n:Nat)(hn:n<=5)(l:aI)(v:Value)(w:World)(hv:Ints w v l)(hl:l.length=2^n)(D:∀k,(hk:k<l.length)->-1000<=l[k]/\l[k]<=1000)(s i k:Nat)(F:s<2^n)(hi:i<n)(hk:k<n):
  aH 261 #[aM #[n,v],s,i,k] w (nB l s i k):=by
 obtain⟨a,b,c7,c,rfl,a9,z,hc,hb⟩:=hv.vw;have hc:=bY hc hb (cQ w (.cells #[n,aD a l c] 27)) aU;have h1:=gI s i n F hi;have h2:=gI s k n F hk;have h3:=gI (dF s i) k n h1 hk;rw[<-tM]at h3;have p5:(2:Nat)^n<=32:=bQ (n:=2) bZ hn;rw[<-hl]at h1 h2 h3 F p5;have c0:=hc s F;have c1:=hc _ h1;have c2:=hc _ h2;have c3:=hc _ h3;have i0:=fun W=>z W s F;have i1:=fun W=>z W _ h1;have i2:=fun W=>z W _ h2;have i3:=fun W=>z W _ h3;have b0:=D s F;have b1:=D _ h1;have b2:=D _ h2;have b3:=D _ h3;have hex:nB l s i k=l[dF s i ||| dF s k]+l[s]-l[dF s i]-l[dF s k]:=by unfold nB;rw[cJ l _ h3,cJ l _ F,cJ l _ h1,cJ l _ h2]
 have q1:=iU s i aA aA;have q2:=iU s k aA aA;have q3:=PT (dF s i) (dF s k) aA aA;have Y:=iU (dF s i) k aA aA;rw[<-tM]at Y;obtain⟨u1,J⟩:=aW (dF s i);obtain⟨u2,K⟩:=aW (dF s k);simp only[<-J,<-K]at c1 c2 c3 i1 i2 i3 b1 b2 b3 hex q1 q2 q3 Y h1 h2 h3;obtain⟨u3,M⟩:=aW (u1 ||| u2);simp only[<-M]at c3 i3 b3 hex q3 Y h3;obtain⟨I,N⟩:=aW (l[s]);obtain⟨x1,O⟩:=aW (l[u1]);obtain⟨x2,R⟩:=aW (l[u2]);obtain⟨x3,S⟩:=aW (l[u3]);rw[<-N]at c0 b0 hex;rw[<-O]at c1 b1 hex;rw[<-R]at c2 b2 hex;rw[<-S]at c3 b3 hex;have pi:=dW i 6 aA;have pk:=dW k 6 aA;have c9:(2:Int)^i<=64:=by simpa using pi.1
 have e0:(2:Int)^k<=64:=by simpa using pk.1
 have d0:=pi.2;have e4:=pk.2;have wi:IntKind.i64.wrap ((2:Int)^i)=2^i:=dV;have wk:IntKind.i64.wrap ((2:Int)^k)=2^k:=dV;have w1:IntKind.i64.wrap (x3+I)=x3+I:=dV;have w2:IntKind.i64.wrap (x3+I-x1)=x3+I-x1:=dV;have w3:IntKind.i64.wrap (x3+I-x1-x2)=x3+I-x1-x2:=dV;have Z:=aT hex;have z0:(0:Int)<=(s:Int):=aA;clear z hb D hex J K M N O R S pi pk Y hc hl;go_enter func261,ntmps261;go_wp2_with fail;go_quiet (fail);go_wp2;go_ret;exact⟨jK Z.out.symm,(cQ _ _).drewN' _⟩
def yH(w:World)(z:Nat)(n:Nat)(v:Value)(a:Option mJ)(W:World):Prop:=
 Below w w W/\bK W w 27 #[n,v]/\match a with
  |none=>bK W (z) 25 #[()]
  |some t=>∃g,bK W (z) 25 #[aD (some ⟨g,0,none⟩) 3 3]/\bB 3 (z+1) W (aD (some ⟨g,0,none⟩) 3 3) (apD (some t))
theorem abD(z:Nat)(n:Nat)(v:Value)(a:Option mJ)(W W':World)(h:yH w z n v a W)(hb:Below W W W'):yH w z n v a W':=by
 obtain⟨h1,h2,h3⟩:=h;refine⟨h1.after hb h1.size,h2.keep hb,?_⟩
 cases a with
 |none=>exact bK.keep h3 hb
 |some t=>obtain⟨g,D,F⟩:=h3;exact⟨g,D.keep hb,F.keep hb⟩
theorem bB.lit3{E:TypeId}{B:Nat}(w:World)(hB:B<=w.heap.size)(x y z:Int)(F:fM x)(I:fM y)(J:fM z):bB E B (w.alloc (.cells #[x,y,z] E)) (aD (some ⟨w,0,none⟩) 3 3) [x,y,z]:=
 ⟨World.ownsRow_lit w #[x,y,z] 3 hB bZ rfl,by
  intro q D;simp only[List.mem_cons,List.not_mem_nil,or_false]at D
  rcases D with rfl|rfl|rfl<;>assumption⟩
theorem ac8(J:Nat)(e4:w.heap.size<J)(n:Nat)(hn:n<=5)(l:aI)(v:Value)(hv:Ints w v l)(hl:l.length=2^n)(Y:∀k,(hk:k<l.length)->-1000<=l[k]/\l[k]<=1000)(a:Option mJ)(s i k:Nat)(W:World)(hs:s<2^n)(e0:i<k)(hk:k<n)(hR:yH w J n v a W):
  Calls prog 286 #[s,i,k,aP (some ⟨w,0,none⟩),aP (some ⟨J,0,none⟩)] W fun e w'=>
   e=aQ (aG (kW l a (s,i,k)).2)/\yH w J n v (kW l a (s,i,k)).1 w'/\GrownIn W w' (fun b=>b=J):=by
 obtain⟨B,Z,h3⟩:=hR;have e5:(2:Nat)^n<=32:=bQ (n:=2) bZ hn;have hex:=P6 n hn l v W (hv.below B aU) hl Y s i k hs aA hk;have F:zM l (s,i,k)=decide (0<nB l s i k):=rfl;have b1:=YI n l hl Y s i k hs aA hk;obtain⟨av,cv,rfl⟩:=hv.shape;obtain⟨x,hx⟩:=aW (nB l s i k);rw[<-hx]at hex F b1;have b5:fM (s:Int):=⟨aA,aA⟩;have b3:fM (i:Int):=⟨aA,aA⟩;have b4:fM (k:Int):=⟨aA,aA⟩;have G1:=Z.cell;have yB:=B.size;have O:=aT hex;have e7:s<32:=aA;clear hl Y hx hex hs;by_cases N:0<x
 .have hb:zM l (s,i,k)=true:=by rw[F];exact bH N
  have K:kW l a (s,i,k)=(some (s,i,k),false):=by unfold kW;rw[if_pos hb]
  have I:=aT K;have D:∃u,bK W (J) 25 #[u]:=by
   cases a with
   |none=>exact⟨_,h3⟩
   |some t=>obtain⟨g,k1,_⟩:=h3;exact⟨_,k1⟩
  obtain⟨u,D⟩:=D;have zo:=D.lt;clear F hb K h3;go_enter func286,ntmps286;go_wp2_with fail;refine aV O.out ?_;intro w1 z;have D:=D.keep z;have Z:=Z.keep z;have B1:=B.after z B.size;have y1:=z.size;have Go:=D.cell;have Fo:=D.frozen;have f0:=D.lt;clear G1;go_wp2;refine cT ?_;intro Wf R;obtain⟨W2,M⟩:=aW (w1.setCell ⟨J,0,none⟩ (aD (some ⟨w1,0,none⟩) 3 3));rw[<-M]at R;have S:w1.grownBy W2 (some (J)):=by rw[M];exact cX (dO _ _) 0 _
  have b7:W2.heap.size=w1.heap.size:=by rw[M];simp
  have KO:bK W2 (J) 25 #[aD (some ⟨w1,0,none⟩) 3 3]:=by rw[M];have:=D.set 0 (aD (some ⟨w1,0,none⟩) 3 3);simpa using this
  have KF:=Z.grow S (by intro h;have:=cI h;omega);have BF:=B1.grown S B1.size kF;have ol:=bB.lit3 (E:=3) (B:=J+1) W2 aA s i k b5 b3 b4;rw[b7]at ol;have a7:=(GrownIn.of_below (P:=fun b=>b=J) z).trans ((GrownIn.of_row S (fun q hq=>(cI hq).symm)).trans (GrownIn.of_below (cQ W2 (.cells #[s,i,k] 3))));have KO:=KO.alloc (.cells #[s,i,k] 3);have KF:=KF.alloc (.cells #[s,i,k] 3);have BF:=BF.alloc BF.size (.cells #[s,i,k] 3);rw[<-R]at KO KF BF ol a7;clear R Go Fo;go_ret;refine⟨by rw[I.out];rfl,?_,a7⟩;rw[I.out];exact⟨BF,KF,_,KO,ol⟩
 .have hb:zM l (s,i,k)=false:=by rw[F];exact bG N
  have K:kW l a (s,i,k)=(a,a.isNone):=by unfold kW;rw[if_neg (by rw[hb];simp)]
  have I:=aT K;clear F hb K
  cases a with
  |none=>have D:bK W (J) 25 #[()]:=h3;have zo:=D.lt;clear h3;go_enter func286,ntmps286;go_wp2_with fail;refine aV O.out ?_;intro w1 z;have D:=D.keep z;have Go:=D.cell;clear G1;go_wp2;go_ret;refine⟨by rw[I.out];rfl,?_,GrownIn.of_below z⟩;rw[I.out];exact⟨B.after z B.size,Z.keep z,D⟩
  |some t=>obtain⟨g,D,ow⟩:=h3;have zo:=D.lt;go_enter func286,ntmps286;go_wp2_with fail;refine aV O.out ?_;intro w1 z;have D:=D.keep z;have Go:=D.cell;clear G1;go_wp2;go_ret;refine⟨by rw[I.out];rfl,?_,GrownIn.of_below z⟩;rw[I.out];exact⟨B.after z B.size,Z.keep z,g,D,ow.keep z⟩
theorem ML:∀args w,(callFunc 286 args).run prog w=.ok (.enter 286 args) w:=enters_of func286 bM rfl
theorem aeC(hv:Ints w v l)(_:l.length<=1048576):
  Calls prog 207 #[aM #[n,v]] w fun e w'=>∃ad i cp,e=aQ (aS #[aD ad i cp,aG (mS n l)])/\cY 3 w.heap.size w' (aD ad i cp) (pE n l)/\Below w w w':=by
 have S:=hv;obtain⟨a,c,rfl⟩:=hv.shape;have c8:∀(fn:Fn) (first cap:Array Value) (w:World),(Instr.makeFunc fn first cap).run prog w=.ok (.func fn first cap) w:=fun _ _ _ _=>rfl;have K0:=bK.new w 27 #[n,aD a l c]
 cases O:cS n l with
 |false=>
  have hr:sR n l=none:=by unfold sR;rw[O];rfl
  have hB:mS n l=false:=by unfold mS;rw[hr];rfl
  have K:pE n l=[]:=by unfold pE;rw[hr];rfl
  have H:=aT (And.intro hB K);have HF:=aT O;clear hr hB K O;go_enter func207,ntmps207;go_wp2_with (go_at_call 132;refine aV (fO n l _ _ (S.alloc _)) ?_;intro w1 D;rw[HF.out]);go_ret2;exact⟨none,0,0,by rw[H.out.1];rfl,by rw[H.out.2];exact cY.nil _ _ _,(cQ _ _).after D bF⟩
 |true=>
  obtain⟨h0,h5,F,Z⟩:=nE O;obtain⟨N,rfl⟩:=cN h0;have Y:N<=5:=aA;have R:l.length=2^N:=by
   have e2:(N:Int).toNat=N:=aA;rw[e2]at F
   exact_mod_cast F
  have hr:sR N l=ER N l:=by unfold sR;rw[O];rfl
  have M:∀J V,w.heap.size<J->yH w J N (aD a l c) none V->Calls prog 259 #[aM #[N,aD a l c],.func (.func 286) #[] #[aP (some ⟨w,0,none⟩),aP (some ⟨J,0,none⟩)]] V fun e w'=>
    e=aQ (aS #[])/\yH w J N (aD a l c) (sR N l) w'/\GrownIn V w' (fun b=>b=J):=fun J V b0 hV=>by
   rw[hr];refine IB N Y l _ R 286 ML _ _ (kW l) (yH w J N (aD a l c)) _ (abD w J N _) V ⟨a,c,rfl⟩ (fun b hb=>by have:=(hV.2.2:bK V J 25 #[()]).lt;omega) ?_ none hV;intro a' s i k W hs a9 hk _ _ I _;exact ac8 w J b0 N Y l _ S R Z a' s i k W hs a9 hk I
  have HV:=aT M;have HF:=aT O;clear M hr O F Z R;go_enter func207,ntmps207;go_wp2_with fail;refine aV (fO N l _ _ (S.alloc _)) ?_;intro w1 D;rw[HF.out];have K1:=K0.keep D;have B1:Below w w w1:=(cQ _ _).after D bF;have G1:=K1.cell;have z1:=K1.lt;clear D K0;go_wp2_with fail;have R0:yH w w1.heap.size N (aD a l c) none (w1.alloc (.cells #[()] 25)):=⟨B1.alloc B1.size _,K1.alloc _,bK.new _ _ _⟩;refine(HV.out w1.heap.size _ z1 R0).mono ?_;rintro e w2 ⟨rfl,⟨B2,K2,z⟩,c7⟩;clear G1 R0
  cases I:sR N l with
  |none=>
   rw[I]at z;have Ko:bK w2 w1 25 #[()]:=z;have hB:mS N l=false:=by unfold mS;rw[I];rfl
   have K:pE N l=[]:=by unfold pE;rw[I];rfl
   have H:=aT (And.intro hB K);have Go:=Ko.cell;clear z I hB K;go_wp2_with fail;go_quiet (fail);go_wp2;go_ret2;exact⟨none,0,0,by rw[H.out.1];rfl,by rw[H.out.2];exact cY.nil _ _ _,B2.drewN' _⟩
  |some t=>
   rw[I]at z;obtain⟨g,Ko,ow⟩:=z;have hB:mS N l=true:=by unfold mS;rw[I];rfl
   have K:pE N l=apD (some t):=by unfold pE;rw[I]
   have H:=aT (And.intro hB K);have Go:=Ko.cell;have y1:=B1.size;clear I hB K;go_wp2_with fail;go_quiet (fail);go_wp2;go_ret2;exact⟨some ⟨g,0,none⟩,3,3,by rw[H.out.1];rfl,by rw[H.out.2];exact((ow.toW.mono aA).drewN _),B2.drewN' _⟩
theorem tP(v:Value)(w:World)(O:Ints w v l)(hl:l.length<=1048576):
  aH 184 #[aM #[n,v]] w (aG (iW n l)):=by
 have D:=O;obtain⟨a,c,rfl⟩:=O.shape;have R:=bK.new w 27 #[n,aD a l c];go_enter func184,ntmps184;go_wp2_with fail;refine(aeC _ n _ l (D.alloc _) hl).mono ?_;rintro e w1 ⟨p1,Z,q1,rfl,o1,z⟩;have S:=R.keep z;have J:Below w w w1:=(cQ _ _).after z bF;have Y:=S.cell;go_wp2_with fail;refine aV (fO n l _ _ (D.below J aU)) ?_;intro w2 M;have N:=J.after M J.size
 cases I:cS n l with
 |false=>
  have F:iW n l=false:=by unfold iW;rw[I];rfl
  have K:=aT F;clear F I;go_wp2;go_ret;exact⟨by rw[K.out];rfl,N⟩
 |true=>
  have F:iW n l=!mS n l:=by unfold iW;rw[I];rfl
  have K:=aT F;clear F I;go_wp2;go_ret;exact⟨by rw[K.out];rfl,N⟩
theorem aiP(n:Nat)(hn:n<=5)(l:aI)(v:Value)(w:World)(hv:Ints w v l)(hl:l.length=2^n)(D:∀k,(hk:k<l.length)->-1000<=l[k]/\l[k]<=1000)(s i k:Nat)(I:s<2^n)(hi:i<n)(hk:k<n):
  aH 80 #[v,s,i,k] w (aG (zM l (s,i,k))):=by
 obtain⟨a,b,c8,c,rfl,b4,z,hc,hb⟩:=hv.vw;have h1:=gI s i n I hi;have h2:=gI s k n I hk;have h3:=gI (dF s i) k n h1 hk;rw[<-tM]at h3;have p5:(2:Nat)^n<=32:=bQ (n:=2) bZ hn;rw[<-hl]at h1 h2 h3 I p5;have c0:=hc s I;have c1:=hc _ h1;have c2:=hc _ h2;have c3:=hc _ h3;have i0:=fun W=>z W s I;have i1:=fun W=>z W _ h1;have i2:=fun W=>z W _ h2;have i3:=fun W=>z W _ h3;have b0:=D s I;have b1:=D _ h1;have b2:=D _ h2;have Z:=D _ h3;have hex:nB l s i k=l[dF s i ||| dF s k]+l[s]-l[dF s i]-l[dF s k]:=by unfold nB;rw[cJ l _ h3,cJ l _ I,cJ l _ h1,cJ l _ h2]
 have q1:=iU s i aA aA;have q2:=iU s k aA aA;have q3:=PT (dF s i) (dF s k) aA aA;have q4:=iU (dF s i) k aA aA;rw[<-tM]at q4;obtain⟨u1,J⟩:=aW (dF s i);obtain⟨u2,K⟩:=aW (dF s k);simp only[<-J,<-K]at c1 c2 c3 i1 i2 i3 b1 b2 Z hex q1 q2 q3 q4 h1 h2 h3;obtain⟨u3,M⟩:=aW (u1 ||| u2);simp only[<-M]at c3 i3 Z hex q3 q4 h3;obtain⟨Y,N⟩:=aW (l[s]);obtain⟨x1,O⟩:=aW (l[u1]);obtain⟨x2,R⟩:=aW (l[u2]);obtain⟨x3,S⟩:=aW (l[u3]);rw[<-N]at c0 b0 hex;rw[<-O]at c1 b1 hex;rw[<-R]at c2 b2 hex;rw[<-S]at c3 Z hex;have pi:=dW i 6 aA;have pk:=dW k 6 aA;have d0:(2:Int)^i<=64:=by simpa using pi.1
 have e4:(2:Int)^k<=64:=by simpa using pk.1
 have e0:=pi.2;have e5:=pk.2;have wi:IntKind.i64.wrap ((2:Int)^i)=2^i:=dV;have wk:IntKind.i64.wrap ((2:Int)^k)=2^k:=dV;have w1:IntKind.i64.wrap (x3+Y)=x3+Y:=dV;have w2:IntKind.i64.wrap (x1+x2)=x1+x2:=dV;have F:zM l (s,i,k)=decide (x1+x2<x3+Y):=by
  unfold zM;simp only[hex];by_cases h:x1+x2<x3+Y
  .rw[bH h,bH aA]
  .rw[bG h,bG aA]
 have HB:=aT F;have z0:(0:Int)<=(s:Int):=aA;clear z hb D hex J K M N O R S pi pk q3 hc hl F;go_enter func80,ntmps80;go_wp2_with fail;go_quiet (fail);go_wp2;go_ret;exact⟨cP HB.out.symm,(bJ _ _).drewN' _⟩
theorem AM(c s:Nat):(fE (c:Int) s==0)=!eI c s:=by
 have h:=rP c s;have h2:fE (c:Int) s=0\/fE (c:Int) s=1:=by unfold fE;omega
 rcases h2 with h2|h2
 .rw[h2]at h |-;rw[<-h];rfl
 .rw[h2]at h |-;rw[<-h];rfl
theorem bB.lit3'{E:TypeId}{B:Nat}(w:World)(hB:B<=w.heap.size)(x y z:Int)(F:fM x)(I:fM y)(J:fM z):bB E B (w.alloc (.cells #[x,y,z] E)) (aD (some ⟨w,0,none⟩) 3 3) [x,y,z]:=
 ⟨World.ownsRow_lit w #[x,y,z] 3 hB bZ rfl,by
  intro q D;simp only[List.mem_cons,List.not_mem_nil,or_false]at D
  rcases D with rfl|rfl|rfl<;>assumption⟩
theorem aeD(hv:Ints w v l)(_:l.length<=1048576):
  Calls prog 24 #[aM #[n,v]] w fun e w'=>∃ad i cp,e=aQ (aS #[aD ad i cp,aG (mS n l)])/\cY 3 w.heap.size w' (aD ad i cp) (pE n l)/\Below w w w':=by
 have b7:=hv;obtain⟨a,c,rfl⟩:=hv.shape;have K0:=bK.new w 27 #[n,aD a l c]
 cases hf:cS n l with
 |false=>
  have hr:sR n l=none:=by unfold sR;rw[hf];rfl
  have hB:mS n l=false:=by unfold mS;rw[hr];rfl
  have hL:pE n l=[]:=by unfold pE;rw[hr];rfl
  have H:=aT (And.intro hB hL);have HF:=aT hf;clear hr hB hL hf;go_enter func24,ntmps24;go_wp2_with fail;go_loopw [4] (fun i wr=>i=aO 0/\Below w w wr/\bK wr w 27 #[n,aD a l c]) (fun _ _=>0)
  .exact⟨rfl,cQ _ _,K0⟩
  obtain⟨rfl,B,K⟩:=hrel;have G1:=K.cell;go_wp2_with (go_at_call 20;refine aV (fD n l _ _ (b7.below B aU)) ?_;intro w1 O;rw[HF.out]);have B1:=B.after O B.size;go_ret2;exact⟨_,0,0,by rw[H.out.1];rfl,by rw[H.out.2];exact((bB.lit0 w1 aU).mono B1.size).toW,B1.alloc B1.size _⟩
 |true=>
  obtain⟨h0,h5,S,e6⟩:=nE hf;obtain⟨N,rfl⟩:=cN h0;have d0:N<=5:=aA;have b5:l.length=2^N:=by
   have e2:(N:Int).toNat=N:=aA;rw[e2]at S
   exact_mod_cast S
  have g0:(2:Nat)^N<=32:=bQ (n:=2) bZ d0;have g9:l.length<=32:=aA;have hr:sR N l=(jX (kW l) (lR N l.length) none).1:=by unfold sR ER;rw[hf,if_pos rfl];simp only[Int.toNat_natCast];rw[b5]
  have HR:=aT hr;have HF:=aT hf;have f3:=aT e6;have c5:=aT b5;clear hr hf S e6 b5 g0;go_enter func24,ntmps24;go_wp2_with fail;go_loopw [4] (fun i wr=>∃s:Nat,s<=l/\i=aO s/\jX (kW l) (lR N s) none=(none,true)/\Below w w wr/\bK wr w 27 #[N,aD a l c]) (fun i _=>l.length-(intOf i).toNat)
  .exact⟨0,aZ _,rfl,rfl,cQ _ _,K0⟩
  obtain⟨s,hs,rfl,D,B,K⟩:=hrel;obtain⟨wo,rfl⟩:∃wo:World,wo=wr:=⟨_,rfl⟩;have c6:=aT D;clear D K0;have G1:=K.cell;go_wp2_with fail;refine aV (fD N l _ _ (b7.below B aU)) ?_;intro w1 O;rw[HF.out];have K:=K.keep O;have B1:=B.after O B.size;clear G1 O B;have G1:=K.cell;by_cases e7:s<l
  .go_wp2_with fail
   go_loopw [5] (fun i wr=>∃k:Nat,k<=N/\i=aO k/\jX (kW l) (lR N s++nO N s k) none=(none,true)/\Below w w wr/\bK wr w 27 #[N,aD a l c]) (fun i _=>N-(intOf i).toNat)
   .exact⟨0,aZ _,rfl,by rw[show nO N s 0=[] from rfl,List.append_nil];exact c6.out,B1,K⟩
   obtain⟨i,hi,rfl,D,B2,K⟩:=hrel;obtain⟨wi,rfl⟩:∃wo:World,wo=wr:=⟨_,rfl⟩;have c7:=aT D;clear D G1;have G1:=K.cell;by_cases f9:i<N
   .have F:=V7 s i (i+1) aU;have f4:=aT F;clear F;go_wp2_with fail;go_loopw [6] (fun i' wr=>∃k:Nat,i<k/\k<=N/\i'=aO k/\jX (kW l) ((lR N s++nO N s i)++rA s i k) none=(none,true)/\Below w w wr/\bK wr w 27 #[N,aD a l c]) (fun i' _=>N-(intOf i').toNat)
    .exact⟨i+1,aA,aA,cD,by rw[f4.out,List.append_nil];exact c7.out,B2,K⟩
    obtain⟨k,f8,hk,rfl,D,B3,K⟩:=hrel;obtain⟨wk,rfl⟩:∃wo:World,wo=wr:=⟨_,rfl⟩;have Y:=aT D;clear D G1;have G1:=K.cell;by_cases e4:k<N
    .have f6:=lL (s:Int) i aA aA;have f7:=lL (s:Int) k aA aA;have J:=AM s i;have M:=AM s k;obtain⟨y,hy⟩:=aW (fE (s:Int) i);obtain⟨z,hz⟩:=aW (fE (s:Int) k);rw[<-hy]at f6 J;rw[<-hz]at f7 M;have b6:rA s i (k+1)=rA s i k++(if (decide (i<k)&&(!eI s i&&!eI s k)) then [(s,i,k)] else []):=rfl;rw[bH f8,Bool.true_and]at b6;have b3:=aT b6;clear hy hz b6
     cases h1:eI s i with
     |true=>
      have g2:(y==0)=false:=by rw[J,h1];rfl
      have H1:=aT h1;clear h1 J M;go_wp2;go_roundw
      .exact⟨k+1,aA,aA,cD,by rw[b3.out,H1.out];simpa using Y.out,B3,K⟩
      exact aY
     |false=>
      have g2:(y==0)=true:=by rw[J,h1];rfl
      cases h2:eI s k with
      |true=>
       have g4:(z==0)=false:=by rw[M,h2];rfl
       have H2:=aT h2;clear h1 h2 J M;go_wp2;go_roundw
       .exact⟨k+1,aA,aA,cD,by rw[b3.out,H2.out];simpa using Y.out,B3,K⟩
       exact aY
      |false=>
       have g4:(z==0)=true:=by rw[M,h2];rfl
       have b0:rA s i (k+1)=rA s i k++[(s,i,k)]:=by rw[b3.out,h1,h2];rfl
       have R:=aiP N d0 l _ wk (b7.below B3 aU) c5.out f3.out s i k (by rw[<-c5.out];exact e7) aA e4;have a9:jX (kW l) (((lR N s++nO N s i)++rA s i k)++[(s,i,k)]) none=kW l none (s,i,k):=by rw[ad5 Y.out,aaV]
       have b9:=aT R;have a7:=aT a9;have c9:=aT b0;clear h1 h2 J M R a9 b0
       cases hb:zM l (s,i,k) with
       |false=>
        have F:kW l none (s,i,k)=(none,true):=by unfold kW;rw[hb];rfl
        have c8:=aT F;have HB:=aT hb;clear F hb;go_wp2_with (go_at_call 80;refine aV b9.out ?_;intro w4 Z;rw[HB.out]);go_roundw
        .exact⟨k+1,aA,aA,cD,by rw[c9.out,<-eY,a7.out,c8.out],B3.after Z B3.size,K.keep Z⟩
        exact aY
       |true=>
        have F:kW l none (s,i,k)=(some (s,i,k),false):=by unfold kW;rw[hb];rfl
        have I:sR N l=some (s,i,k):=by obtain⟨r,hr⟩:=MJ N l.length s i (k+1) e7 f9 e4;rw[HR.out,hr,c9.out,<-eY,VT (a7.out.trans F)]
        have hB:mS N l=true:=by unfold mS;rw[I];rfl
        have hL:pE N l=[(s:Int),(i:Int),(k:Int)]:=by unfold pE;rw[I];rfl
        have H:=aT (And.intro hB hL);have HB:=aT hb;clear F hb I hB hL;go_wp2_with (go_at_call 80;refine aV b9.out ?_;intro w4 Z;rw[HB.out]);have B4:=B3.after Z B3.size;go_ret2;exact⟨_,3,3,by rw[H.out.1];rfl,by rw[H.out.2];exact(bB.lit3' w4 B4.size s i k ⟨aA,aA⟩ ⟨aA,aA⟩ ⟨aA,aA⟩).toW,B4.alloc B4.size _⟩
    .have e5:k=N:=aA;subst e5;go_wp2;go_roundw
     .exact⟨i+1,aA,cD,by rw[show nO k s (i+1)=nO k s i++rA s i k from rfl,<-eY];exact Y.out,B3,K⟩
     exact aY
   .have e0:i=N:=aA;subst e0;go_wp2;go_roundw
    .exact⟨s+1,aA,cD,c7.out,B2,K⟩
    exact aY
  .have e8:s=l.length:=aA;subst e8;have I:sR N l=none:=by rw[HR.out,c6.out]
   have hB:mS N l=false:=by unfold mS;rw[I];rfl
   have hL:pE N l=[]:=by unfold pE;rw[I];rfl
   have H:=aT (And.intro hB hL);clear I hB hL;go_wp2;go_ret2;exact⟨_,0,0,by rw[H.out.1];rfl,by rw[H.out.2];exact((bB.lit0 w1 aU).mono B1.size).toW,B1.alloc B1.size _⟩
theorem tQ(v:Value)(w:World)(O:Ints w v l)(hl:l.length<=1048576):
  aH 43 #[aM #[n,v]] w (aG (iW n l)):=by
 have D:=O;obtain⟨a,c,rfl⟩:=O.shape;have R:=bK.new w 27 #[n,aD a l c];go_enter func43,ntmps43;go_wp2_with fail;refine(aeD _ n _ l (D.alloc _) hl).mono ?_;rintro e w1 ⟨p1,Z,q1,rfl,o1,z⟩;have S:=R.keep z;have J:Below w w w1:=(cQ _ _).after z bF;have Y:=S.cell;go_wp2_with fail;refine aV (fD n l _ _ (D.below J aU)) ?_;intro w2 M;have N:=J.after M J.size
 cases I:cS n l with
 |false=>
  have F:iW n l=false:=by unfold iW;rw[I];rfl
  have K:=aT F;clear F I;go_wp2;go_ret;exact⟨by rw[K.out];rfl,N⟩
 |true=>
  have F:iW n l=!mS n l:=by unfold iW;rw[I];rfl
  have K:=aT F;clear F I;go_wp2;go_ret;exact⟨by rw[K.out];rfl,N⟩
def gU(n:Int)(l:List Int):Bool:=(gP n l&&rG n l)&&iW n l
def BQ(l:List Int)(e:Nat):Bool:=!decide ((1:Int)<l.getD (2^e) 0)
def eX(n:Int)(l:List Int):Bool:=gU n l&&dP (BQ l) n.toNat
theorem uA{n:Int}{l:aI}(h:gU n l=true):cS n l=true:=by
 unfold gU gP at h;simp only[Bool.and_eq_true]at h;exact h.1.1.1
theorem yD(v:Value)(w:World)(N:Ints w v l)(hl:l.length<=1048576):
  aH 189 #[aM #[n,v]] w (aG (gU n l)):=by
 obtain⟨a,c,rfl⟩:=N.shape;have Y:=bK.new w 27 #[n,aD a l c];go_enter func189,ntmps189;go_wp2_with fail;refine aV (A8 n l _ _ (N.alloc _)) ?_;intro w1 D;have Z:=Y.keep D;have J:Below w w w1:=(cQ _ _).after D bF;clear D Y
 cases M:gP n l with
 |false=>
  have z:gU n l=false:=by unfold gU;rw[M];rfl
  have I:=aT z;clear z M;go_wp2;go_ret;exact⟨by rw[I.out];rfl,J⟩
 |true=>
  have S:=aT M;clear M;have G1:=Z.cell;go_wp2_with fail;refine aV (ZA n l _ _ (N.below J aU)) ?_;intro w2 F;have K2:=Z.keep F;have K:=J.after F J.size;clear F G1
  cases O:rG n l with
  |false=>
   have z:gU n l=false:=by unfold gU;rw[S.out,O];rfl
   have I:=aT z;clear z O;go_wp2;go_ret;exact⟨by rw[I.out];rfl,K⟩
  |true=>
   have z:gU n l=iW n l:=by unfold gU;rw[S.out,O];rfl
   have I:=aT z;clear z O;have G2:=K2.cell;go_wp2_with fail;refine aV (tP n l _ _ (N.below K aU) hl) ?_;intro w3 R;go_wp2;go_ret;exact⟨by rw[I.out];rfl,K.after R K.size⟩
theorem rZ(v:Value)(w:World)(N:Ints w v l)(hl:l.length<=1048576):
  aH 47 #[aM #[n,v]] w (aG (gU n l)):=by
 obtain⟨a,c,rfl⟩:=N.shape;have Y:=bK.new w 27 #[n,aD a l c];go_enter func47,ntmps47;go_wp2_with fail;refine aV (A9 n l _ _ (N.alloc _)) ?_;intro w1 D;have Z:=Y.keep D;have J:Below w w w1:=(cQ _ _).after D bF;clear D Y
 cases M:gP n l with
 |false=>
  have z:gU n l=false:=by unfold gU;rw[M];rfl
  have I:=aT z;clear z M;go_wp2;go_ret;exact⟨by rw[I.out];rfl,J⟩
 |true=>
  have S:=aT M;clear M;have G1:=Z.cell;go_wp2_with fail;refine aV (ZB n l _ _ (N.below J aU)) ?_;intro w2 F;have K2:=Z.keep F;have K:=J.after F J.size;clear F G1
  cases O:rG n l with
  |false=>
   have z:gU n l=false:=by unfold gU;rw[S.out,O];rfl
   have I:=aT z;clear z O;go_wp2;go_ret;exact⟨by rw[I.out];rfl,K⟩
  |true=>
   have z:gU n l=iW n l:=by unfold gU;rw[S.out,O];rfl
   have I:=aT z;clear z O;have G2:=K2.cell;go_wp2_with fail;refine aV (tQ n l _ _ (N.below K aU) hl) ?_;intro w3 R;go_wp2;go_ret;exact⟨by rw[I.out];rfl,K.after R K.size⟩
theorem pQ(v:Value)(w:World)(hv:Ints w v l)(hl:l.length<=1048576):
  aH 190 #[aM #[n,v]] w (aG (eX n l)):=by
 have a6:=hv;obtain⟨a,b,e4,c,rfl,c5,Y,hc,hb⟩:=hv.vw;have K0:=bK.new w 27 #[n,aD a l c]
 cases M:gU n l with
 |false=>
  have K:eX n l=false:=by unfold eX;rw[M];rfl
  have HX:=aT K;have HF:=aT M;clear K M hc;go_enter func190,ntmps190;go_wp2_with (go_at_call 189;refine aV (yD n l _ _ (a6.alloc _) hl) ?_;intro w1 D;rw[HF.out]);go_ret;exact⟨cP HX.out.symm,(cQ _ _).after D bF⟩
 |true=>
  obtain⟨N,rfl,e0,a1,b9,b6⟩:=eJ (uA M);have K:eX N l=dP (BQ l) N:=by unfold eX;rw[M];simp
  have HX:=aT K;have HF:=aT M;have b4:=aT a1;have HC:=aT hc;have b3:=aT Y;clear K M a1 hc Y b6;go_enter func190,ntmps190;go_wp2_with fail;refine aV (yD N l _ _ (a6.alloc _) hl) ?_;intro w1 D;rw[HF.out];have K1:=K0.keep D;have B1:Below w w w1:=(cQ _ _).after D bF;have G1:=K1.cell;have R:=bY HC.out hb B1 aU;have b0:=aT R;clear K0 D R;go_wp2_with fail;go_loop [9] (fun i=>∃k:Nat,k<=N/\i=aO k/\dP (BQ l) k=true) (fun i=>N-(intOf i).toNat)
  .exact⟨0,aZ _,rfl,rfl⟩
  obtain⟨k,hk,rfl,I⟩:=hrel;have H:=aT I;clear I;by_cases Z:k<N
  .have hp:2^k<l.length:=by rw[b4.out];exact Nat.pow_lt_pow_right bZ Z
   have c0:=b0.out (2^k) hp;have i0:=fun W=>b3.out W (2^k) hp;have z:((2^k:Nat):Int)=(2:Int)^k:=bF;simp only[z]at i0;have F:BQ l k=!decide ((1:Int)<l[2^k]):=by unfold BQ;rw[cJ l _ hp]
   obtain⟨x,K⟩:=aW (l[2^k]);rw[<-K]at c0 F;have HO:=aT F;have e5:(2:Int)^k<=32:=by rw[<-z];omega
   have e6:=(dW k k aU).2;have wk:IntKind.i64.wrap ((2:Int)^k)=2^k:=dV;clear F K z hp;by_cases S:(1:Int)<x
   .have J:eX N l=false:=by rw[HX.out];exact eT Z (by rw[HO.out,bH S];rfl)
    have O:=aT J;clear J;go_wp2;go_ret;exact⟨cP O.out.symm,B1⟩
   .have hu:BQ l k=true:=by rw[HO.out,bG S];rfl
    have HU:=aT hu;clear hu;go_wp2;go_round
    .exact⟨k+1,aA,cD,fJ H.out HU.out⟩
    exact aY
  .have b5:k=N:=aA;subst b5;go_wp2;go_ret;exact⟨cP (by rw[HX.out,H.out]),B1⟩
theorem pT(v:Value)(w:World)(hv:Ints w v l)(hl:l.length<=1048576):
  aH 48 #[aM #[n,v]] w (aG (eX n l)):=by
 have J:=hv;obtain⟨a,b,e6,c,rfl,c6,a8,hc,hb⟩:=hv.vw;have K0:=bK.new w 27 #[n,aD a l c]
 cases Y:gU n l with
 |false=>
  have R:eX n l=false:=by unfold eX;rw[Y];rfl
  have HX:=aT R;have HF:=aT Y;clear R Y hc;go_enter func48,ntmps48;go_wp2_with fail;go_loopw [3] (fun i wr=>i=aO 0/\Below w w wr/\bK wr w 27 #[n,aD a l c]) (fun _ _=>0)
  .exact⟨rfl,cQ _ _,K0⟩
  obtain⟨rfl,B,K⟩:=hrel;have Z:=K.cell;go_wp2_with fail;refine aV (rZ n l _ _ (J.below B aU) hl) ?_;intro w1 D;rw[HF.out];have I:=B.after D B.size;have K1:=K.keep D;clear Z;have Z:=K1.cell;go_wp2_with fail;refine aV (rZ n l _ _ (J.below I aU) hl) ?_;intro w2 S;rw[HF.out];go_wp2;go_ret;exact⟨cP HX.out.symm,I.after S I.size⟩
 |true=>
  obtain⟨N,rfl,e5,b0,c5,b8⟩:=eJ (uA Y);have R:eX N l=dP (BQ l) N:=by unfold eX;rw[Y];simp
  have HX:=aT R;have HF:=aT Y;have b5:=aT b0;have HC:=aT hc;have b4:=aT a8;clear R Y b0 hc a8 b8;go_enter func48,ntmps48;go_wp2_with fail;go_loopw [3] (fun i wr=>∃k:Nat,k<=N/\i=aO k/\dP (BQ l) k=true/\Below w w wr/\bK wr w 27 #[N,aD a l c]) (fun i _=>N-(intOf i).toNat)
  .exact⟨0,aZ _,rfl,rfl,cQ _ _,K0⟩
  obtain⟨k,hk,rfl,M,B,K⟩:=hrel;obtain⟨wo,rfl⟩:∃wo:World,wo=wr:=⟨_,rfl⟩;have H:=aT M;clear M K0;have Z:=K.cell;go_wp2_with fail;refine aV (rZ N l _ _ (J.below B aU) hl) ?_;intro w1 D;rw[HF.out];have K:=K.keep D;have I:=B.after D B.size;clear Z D B;have Z:=K.cell;by_cases a9:k<N
  .have hp:2^k<l.length:=by rw[b5.out];exact Nat.pow_lt_pow_right bZ a9
   have c0:=bY HC.out hb I aU (2^k) hp;have i0:=fun W=>b4.out W (2^k) hp;have z:((2^k:Nat):Int)=(2:Int)^k:=bF;simp only[z]at i0;have F:BQ l k=!decide ((1:Int)<l[2^k]):=by unfold BQ;rw[cJ l _ hp]
   obtain⟨x,R⟩:=aW (l[2^k]);rw[<-R]at c0 F;have HO:=aT F;have e7:(2:Int)^k<=32:=by rw[<-z];omega
   have e8:=(dW k k aU).2;have wk:IntKind.i64.wrap ((2:Int)^k)=2^k:=dV;clear F R z hp;by_cases a7:(1:Int)<x
   .have O:eX N l=false:=by rw[HX.out];exact eT a9 (by rw[HO.out,bH a7];rfl)
    have a1:=aT O;clear O;go_wp2_with fail;go_quiet (fail);go_wp2;go_ret;exact⟨cP a1.out.symm,I.drewN' _⟩
   .have hu:BQ l k=true:=by rw[HO.out,bG a7];rfl
    have HU:=aT hu;clear hu;go_wp2_with fail;go_quiet (fail);go_wp2;go_roundw
    .exact⟨k+1,aA,cD,fJ H.out HU.out,I.drewN' _,K.drewN _⟩
    exact aY
  .have b7:k=N:=aA;subst b7;go_wp2_with fail;refine aV (rZ k l _ _ (J.below I aU) hl) ?_;intro w2 S;rw[HF.out];go_wp2;go_ret;exact⟨cP (by rw[HX.out,H.out]),I.after S I.size⟩
def xU(l:List Int)(s:Nat):Int:=l.getD (l.length-1-s) 0
def tZ(l:List Int):List Int:=iT (xU l) l.length
def GX(n:Int)(l:List Int):Int:=if cS n l then n else 0
def EM(n:Int)(l:List Int):List Int:=if cS n l then tZ l else []
def uG(n:Int)(l:List Int):Bool:=cS n l&&decide (l=tZ l)
def jQ(n:Int)(l:List Int):Bool:=(iW n l&&uG n l)&&decide (2<=n)
def lY(l:List Int):Nat->Nat
 |0=>1
 |k+1=>if k<2 then 1 else if l.getD k 0<l.getD (lY l k) 0 then k else lY l k
def nU(n:Int)(l:List Int):Int:=if jQ n l then (lY l (l.length-1):Int) else 0
def mA(n:Int)(l:List Int):Int:=if jQ n l then l.getD (lY l (l.length-1)) 0 else 0
theorem aeM:lY l 2=1:=rfl
theorem ES(k:Nat)(h:2<=k):lY l (k+1)=if l.getD k 0<l.getD (lY l k) 0 then k else lY l k:=by rw[lY,if_neg aA]
theorem UK:∀k,2<=k->1<=lY l k/\lY l k<k:=by
 intro k
 induction k with
 |zero=>intro h;omega
 |succ k ih=>
  intro h;by_cases hk:2<=k
  .have:=ih hk;rw[ES l k hk]
   split<;>omega
  .have:k=1:=aA;subst this;rw[aeM];omega
theorem aoN:(tZ l).length=l.length:=by unfold tZ iT;simp
theorem NB(s:Nat)(h:s<l):xU l s=l[l.length-1-s]:=by unfold xU;exact cJ l _ aA
theorem arA(h:cS n l=true):cS n (tZ l)=true:=by
 obtain⟨J,K,z,D⟩:=nE h;unfold cS nC;rw[aoN,eW.2 ⟨J,K⟩,bH z];simp only[Bool.true_and,List.all_eq_true];intro x I;unfold tZ iT at I;obtain⟨s,F,rfl⟩:=List.mem_map.1 I;rw[List.mem_range]at F;rw[NB l s F];exact eW.2 (D _ aA)
theorem RC:∀n:Nat,n<=5->∀s:Nat,s<2^n->dY (2^n-1) s=2^n-1-s:=dS
theorem DF(x:aI)(v:Value)(w:World)(Z:Ints w v x):
  Calls prog 125 #[v] w fun e w'=>e=aQ (aG (nC x (-5000) 5000&&decide (x.length<=5)))/\w=w':=by
 obtain⟨a,b,a1,c,rfl,M,S,hc,hb⟩:=Z.vw;go_enter func125,ntmps125;go_wp2;go_loop [3] (fun i=>∃k:Nat,k<=x/\i=aO k/\(x.take k).all (fun x=>fN x (-5000) 5000)=true) (fun i=>x.length-(intOf i).toNat)
 .exact⟨0,aZ _,rfl,bF⟩
 obtain⟨k,hk,rfl,z⟩:=hrel;have H:=aT z;clear z;by_cases hlt:k<x
 .cases O:fN x[k] (-5000) 5000 with
  |true=>exact akU
  |false=>go_wp2_with (go_at_call 77;refine aV (eH _ _ _ _) ?_;rintro w' rfl);go_ret;exact⟨cP (by unfold nC;rw[lW _ _ _ hlt O];rfl),rfl⟩
 .have F:nC x (-5000) 5000=true:=by unfold nC;rw[<-nD (fun x=>fN x (-5000) 5000) x k aA,H.out]
  have I:=aT F;clear F;by_cases R:x.length<=5
  .go_wp2;go_ret;exact⟨cP (by rw[I.out];simp;omega),rfl⟩
  .have a7:decide ((x.length:Int)<=5)=false:=bG aA;go_wp2;go_ret;exact⟨cP (by first|rfl|(rw[I.out];simp;omega)),rfl⟩
def jY(n:Int)(x:List Int):Bool:=decide ((x.length:Int)=n)&&nC x (-5000) 5000
theorem QM(v:Value)(x:aI)(u:Value)(w:World)(I:Ints w v l)(F:Ints w u x):
  aH 343 #[aM #[n,v],u] w (aG (jY n x)):=by
 obtain⟨K,N,rfl⟩:=I.shape;obtain⟨J,M,rfl⟩:=F.shape;by_cases hl:(x.length:Int)=n
 .have z:jY n x=nC x (-5000) 5000:=by unfold jY;rw[bH hl];rfl
  have ht:((x.length:Int)==n)=true:=by simp[hl]
  have D:=aT z;clear z hl;go_enter func343,ntmps343;go_wp2_with (go_at_call 175;refine aV (J0 x _ _ _ _ (F.alloc _)) ?_;rintro w' rfl);go_ret;exact⟨by rw[D.out];rfl,cQ _ _⟩
 .have z:jY n x=false:=by unfold jY;rw[bG hl];rfl
  have ht:((x.length:Int)==n)=false:=by simp[hl]
  have D:=aT z;clear z hl;go_enter func343,ntmps343;go_wp2;go_ret;exact⟨by rw[D.out];rfl,cQ _ _⟩
theorem vA(w:World)(z:Ints w v l)(I:0<=n)(h1:n<=40):
  aH 272 #[aM #[n,v]] w (aO (2^n.toNat-1)):=by
 obtain⟨D,F,rfl⟩:=z.shape;have h2:=dW n.toNat 40 aA;have h3:=h2.1;have h4:=h2.2;simp at h3;clear h2;go_enter func272,ntmps272;go_wp2;go_ret;exact⟨rfl,cQ _ _⟩
def fT(l x:List Int)(s:Int):Int:=l.getD s.toNat 0-wt x s
theorem VV(v:Value)(x:aI)(u:Value)(s:Int)(w:World)(Y:Ints w v l)(F:Ints w u x)(N:0<=s)(hs:s<l.length)(S:l.length<=64)
  (D:∀k,(hk:k<l.length)->-1000<=l[k]/\l[k]<=1000) (I:∀k,(hk:k<x.length)->-5000<=x[k]/\x[k]<=5000) (a6:x.length<=6):
  aH 365 #[aM #[n,v],u,s] w (fT l x s):=by
 obtain⟨a,b,a7,c,rfl,K,R,hc,hb⟩:=Y.vw;obtain⟨au,cu,rfl⟩:=F.shape;obtain⟨k,rfl⟩:=cN N;have hk:k<l.length:=aA;have O:=bY hc hb (cQ w (.cells #[n,aD a l c] 27)) aU k hk;have a1:=D k hk;have hw:=aeF x k (fun j z=>by have:=I j z;omega) x.length aU;have Z:-6000000<=wt x k/\wt x k<=6000000:=by unfold wt;omega
 have J:l.getD (k:Int).toNat 0=l[k]:=by simp[hk]
 have M:=aT J;clear hc D hw J;go_enter func365,ntmps365;go_wp2;go_quiet ((go_at_call 384;first|exact kH (MM x _ _ _ ((F.alloc _).drewN _) aA aA (fun j z=>by have:=I j z;omega) aA)|exact lO (MM x _ _ _ ((F.alloc _).drewN _) aA aA (fun j z=>by have:=I j z;omega) aA)));go_wp2;go_ret;exact⟨jK (by unfold fT;rw[M.out]),(cQ _ _).drewN' _⟩
theorem QY{n:Int}{x:aI}(h:jY n x=true):(x.length:Int)=n/\∀k,(hk:k<x.length)->-5000<=x[k]/\x[k]<=5000:=by
 unfold jY nC at h;simp only[Bool.and_eq_true,List.all_eq_true,decide_eq_true_eq]at h;exact⟨h.1,fun k hk=>eW.1 (h.2 _ (aX hk))⟩
theorem LC{n:Int}{l:aI}(h:gP n l=true):cS n l=true:=by
 unfold gP at h;simp only[Bool.and_eq_true]at h;exact h.1
theorem af2(n:Nat)(hn:n<=5)(l:aI)(v:Value)(g s:Nat)(W:World)(hv:Ints W v l)(hl:l.length=2^n)(hs:s<2^n)(c0:W.cell? ⟨g,0,none⟩=some (aO n))(c1:W.cell? ⟨g,1,none⟩=some v):
  Calls prog 339 #[s,aP (some ⟨g,0,none⟩)] W fun e w'=>e=aQ (xU l s)/\Below W W w':=by
 have R:=hv;obtain⟨a,b,S,c,rfl,a1,J,hc,hb⟩:=hv.vw;have Z:=NB l s aA;have p5:(2:Nat)^n<=32:=bQ (n:=2) bZ hn;have hd:=RC n hn s hs;have z:=AK (2^n-1) s aA aA;rw[hd]at z;have N:=dJ n;have D:((2^n-1:Nat):Int)=(2:Int)^n-1:=by rw[Int.ofNat_sub N];simp
 rw[D]at z;have I:=hc (l.length-1-s) aA;have F:=fun W=>J W (l.length-1-s) aA;rw[<-Z]at I;rw[hl]at I F;have e0:∀x:Ext W,x.w.cell? ⟨g,0,none⟩=some (aO n):=fun x=>x.cell c0;have e1:∀x:Ext W,x.w.cell? ⟨g,1,none⟩=some (aD a l c):=fun x=>x.cell c1;have e2:∀x:Ext W,x.w.cell? ⟨b,S+(2^n-1-s),none⟩=some (aO (xU l s)):=fun x=>x.cell I;obtain⟨q,O⟩:=aW (xU l s);rw[<-O]at e2;obtain⟨m,hm⟩:=aW (2^n-1-s);simp only[<-hm]at F e2 z;have HQ:=aT O;have K:=aT (fun(x:Ext W)=>vA (n:Int) (aD a l c) l x.w (x.ints R) aA aA);have Y:l.length=2^n:=hl;rw[<-Y]at F;have a8:=aT hl;clear hc J hb Z hd I O hm D hl Y;go_enter func339,ntmps339;go_wp2_with fail;refine cW _ bM bM ?_
 repeat(first|go_big_quiet_skip|(go_big_quiet_want;go_big_quiet_op;first|go_big_quiet_on|(apply Exists.intro;refine⟨fun _=>?_,?_⟩;(go_at_call 272;exact dI (K.out _));go_big_quiet_on)))
 refine wpQuiet_nil ?_;rintro w3 ⟨⟨w3,M⟩,rfl⟩
 try dsimp only
 go_wp2;go_ret;exact⟨jK HQ.out,M⟩
theorem NS:∀args w,(callFunc 339 args).run prog w=.ok (.enter 339 args) w:=enters_of func339 bM rfl
theorem atH(hv:Ints w v l)(_:l.length<=1048576):
  Calls prog 267 #[aM #[n,v]] w fun e w'=>∃ad i S,e=aQ (aS #[aM #[(GX n l),aD ad i S],aG (cS n l)])/\bB 3 w w' (aD ad i S) (EM n l)/\Below w w w':=by
 obtain⟨a,c,rfl⟩:=hv.shape;have e6:∀(fn:Fn) (first cap:Array Value) (w:World),(Instr.makeFunc fn first cap).run prog w=.ok (.func fn first cap) w:=fun _ _ _ _=>rfl;go_enter func267,ntmps267;go_wp2_with fail;refine cZ ?_;intro V hV;have B:Below w w V:=iJ hV;have K1:bK V w 27 #[n,aD a l c]:=iQ hV;have F:bK V (w+1) 27 #[aK,()]:=jL hV;clear hV;refine aV (fO n l _ _ (hv.below B aU)) ?_;intro w1 J;have K1:=K1.keep J;have F:=F.keep J;have B1:=B.after J B.size;have c9:=hv.below B1 aU;clear B J;have G1:=K1.cell;have z1:=K1.lt;have z2:=F.lt
 cases K:cS n l with
 |false=>
  have Z:GX n l=0:=by unfold GX;rw[K];rfl
  have Y:EM n l=[]:=by unfold EM;rw[K];rfl
  have HN:=aT Z;have HL:=aT Y;have HF:=aT K;have G2:=F.cell;have F2:=F.frozen;clear Z Y;go_wp2;refine cT ?_;intro Wf z;have M:bK Wf (w+1) 27 #[aK,()]:=by rw[z];have:=(F.set 0 (aO 0)).set 1 (aD none 0 0);simpa using this
  have Bf:Below w w Wf:=by rw[z];exact bX (bX B1 cK _) cK _
  have Gf:=M.cell;clear z G1 G2 F2;exact bW (v:=aS #[aM #[aK,()],aG false]) (by simp[results,results267,go_sem,Gf]) rfl ⟨none,0,0,by rw[HN.out,HF.out],by rw[HL.out];exact bB.nil _ _ _,Bf⟩
 |true=>
  obtain⟨h0,h5,I,a7⟩:=nE K;obtain⟨N,rfl⟩:=cN h0;have a1:N<=5:=aA;have R:l.length=2^N:=by
   have e2:(N:Int).toNat=N:=aA;rw[e2]at I
   exact_mod_cast I
  have Z:GX N l=N:=by unfold GX;rw[K];rfl
  have Y:EM N l=tZ l:=by unfold EM;rw[K];rfl
  have D:iT (xU l) (2^N)=tZ l:=by unfold tZ;rw[R]
  have a6:cS N (iT (xU l) (2^N))=true:=by rw[D];exact arA N l K
  have a8:∀W,Ints W (aD a l c) l->W.cell? ⟨w,0,none⟩=some (aO N)->W.cell? ⟨w,1,none⟩=some (aD a l c)->Calls prog 337 #[N,.func (.func 339) #[] #[aP (some ⟨w,0,none⟩)]] W fun e w'=>
    ∃ad i S,e=aQ (aS #[aM #[N,aD ad i S],aG true])/\bB 3 W w' (aD ad i S) (tZ l)/\Below W W w':=fun W hW c0 c1=>by
   have:=O8 W N a1 339 NS w.heap.size (xU l) (fun s hs=>by rw[NB l s aA];have:=a7 (l.length-1-s) aA;exact⟨aA,aA⟩)
    (fun s W' hs hB=>af2 N a1 l _ w.heap.size s W' (hW.keep hB) R hs (keep hB c0) (keep hB c1))
   rw[a6,if_pos rfl,if_pos rfl,D]at this;exact this
  have HN:=aT Z;have HL:=aT Y;have HF:=aT K;have c6:=aT a8;clear Z Y K D a6 a8 R I a7;go_wp2_with fail;refine(c6.out _ c9 (G1 0) (G1 1)).mono ?_;rintro e w3 ⟨p3,i3,q3,rfl,o3,O⟩;have F:=F.keep O;have B3:=B1.after O B1.size;have G2:=F.cell;have F2:=F.frozen;have z3:=F.lt;clear G1 O;go_wp2;refine cT ?_;intro Wf z;have M:bK Wf (w+1) 27 #[N,aD p3 i3 q3]:=by rw[z];have:=(F.set 0 (aO N)).set 1 (aD p3 i3 q3);simpa using this
  have Bf:Below w w Wf:=by rw[z];exact bX (bX B3 cK _) cK _
  have of:bB 3 w Wf (aD p3 i3 q3) (tZ l):=by rw[z];exact((o3.setBelow cK _).setBelow cK _).mono cK
  have Gf:=M.cell;clear z G2 F2;exact bW (v:=aS #[aM #[N,aD p3 i3 q3],aG true]) (by simp[results,results267,go_sem,Gf]) rfl ⟨p3,i3,q3,by rw[HN.out,HF.out],by rw[HL.out];exact of,Bf⟩
theorem ae6(n F:Int)(v J:Value)(l D:aI)(w:World)(I:Ints w v l)(z:Ints w J D):
  aH 268 #[aM #[n,v],aM #[F,J]] w (aG (n==F&&decide (l=D))):=by
 obtain⟨a,c,rfl⟩:=I.shape;obtain⟨K,M,rfl⟩:=z.shape
 cases h:(n==F) with
 |false=>go_enter func268,ntmps268;go_wp2;go_ret;exact⟨rfl,wU _ _ _⟩
 |true=>go_enter func268,ntmps268;go_wp2_with (go_at_call 340;refine aV (RS _ _ l D _ ((I.alloc _).alloc _) ((z.alloc _).alloc _)) ?_;rintro O ⟨N,rfl⟩);go_ret;exact⟨rfl,(wU _ _ _).drewN' _⟩
theorem aa7(v:Value)(w:World)(O:Ints w v l)(hl:l.length<=1048576):
  aH 188 #[aM #[n,v]] w (aG (uG n l)):=by
 obtain⟨a,c,rfl⟩:=O.shape;have K0:=bK.new w 27 #[n,aD a l c];go_enter func188,ntmps188;go_wp2_with fail;refine(atH _ n _ l (O.alloc _) hl).mono ?_;rintro e w1 ⟨p1,Z,q1,rfl,o1,I⟩;have M:=K0.keep I;have D:Below w w w1:=(cQ _ _).after I bF;have y1:=D.size;have z1:=M.lt
 cases F:cS n l with
 |false=>
  have J:uG n l=false:=by unfold uG;rw[F];rfl
  have HX:=aT J;clear J F;go_wp2;go_ret;exact⟨by rw[HX.out];rfl,rB⟩
 |true=>
  have J:uG n l=decide (l=tZ l):=by unfold uG;rw[F];rfl
  have Y:GX n l=n:=by unfold GX;rw[F];rfl
  have S:EM n l=tZ l:=by unfold EM;rw[F];rfl
  rw[S]at o1;have z:=fun W (h1:Ints W (aD a l c) l) (h2:Ints W (aD p1 Z q1) (tZ l))=>ae6 n n _ _ l (tZ l) W h1 h2;simp only[beq_self_eq_true,Bool.true_and,<-J]at z;have K:=aT z;have ca:∀i,(w1.alloc (.cells #[n,aD p1 Z q1] 27)).cell? ⟨w,i,none⟩=(#[aO n,aD a l c]:Array Value)[i]?:=(M.alloc _).cell;rw[Y];have R:=O.below D aU;clear J Y S z F;have G1:=M.cell;go_wp2_with (go_at_call 268;refine aV (K.out _ (R.alloc _) (o1.alloc _).ints) ?_;intro w2 N);go_ret;exact⟨rfl,(D.alloc D.size _).after N (D.alloc D.size _).size⟩
theorem PW(v:Value)(w:World)(N:Ints w v l)(hl:l.length<=1048576):
  aH 275 #[aM #[n,v]] w (aG (jQ n l)):=by
 obtain⟨a,c,rfl⟩:=N.shape;have S:=bK.new w 27 #[n,aD a l c];go_enter func275,ntmps275;go_wp2_with fail;refine aV (tP n l _ _ (N.alloc _) hl) ?_;intro w1 D;have Y:=S.keep D;have J:Below w w w1:=(cQ _ _).after D bF;clear D S
 cases K:iW n l with
 |false=>
  have z:jQ n l=false:=by unfold jQ;rw[K];rfl
  have I:=aT z;clear z K;go_wp2;go_ret;exact⟨by rw[I.out];rfl,J⟩
 |true=>
  have R:=aT K;clear K;have Z:=Y.cell;go_wp2_with fail;refine aV (aa7 n l _ _ (N.below J aU) hl) ?_;intro w2 F;have K2:=Y.keep F;have O:=J.after F J.size;clear F Z
  cases M:uG n l with
  |false=>
   have z:jQ n l=false:=by unfold jQ;rw[R.out,M];rfl
   have I:=aT z;clear z M;go_wp2;go_ret;exact⟨by rw[I.out];rfl,O⟩
  |true=>
   have z:jQ n l=decide (2<=n):=by unfold jQ;rw[R.out,M];rfl
   have I:=aT z;clear z M;have G2:=K2.cell;go_wp2;go_ret;exact⟨by rw[I.out];rfl,O⟩
theorem SV{n:Int}{l:aI}(h:jQ n l=true):cS n l=true/\2<=n:=by
 unfold jQ iW at h;simp only[Bool.and_eq_true,decide_eq_true_eq]at h;exact⟨h.1.1.1,h.2⟩
theorem YQ{n:Int}{l:aI}(h:jQ n l=true):4<=l.length/\l.length<=32/\(l.length:Int)=2^n.toNat/\n<=5/\∀k,(hk:k<l.length)->-1000<=l[k]/\l[k]<=1000:=by
 obtain⟨h1,h2⟩:=SV h;obtain⟨N,I,z,F⟩:=nE h1;obtain⟨m,hm⟩:∃m:Nat,n.toNat=m:=⟨_,rfl⟩;have D:2<=m/\m<=5:=aA;have K:(2:Nat)^2<=2^m:=bQ bZ D.1;have M:(2:Nat)^m<=2^5:=bQ bZ D.2;have J:l.length=2^m:=by rw[hm]at z;exact_mod_cast z
 exact⟨aA,aA,z,I,F⟩
theorem ajJ{p:Prop}(h:p:=by
  by_cases e8:x<y
  .have b6:=aT (b7.out.trans (if_pos e8));go_wp2_with fail;go_quiet (fail);go_wp2;go_roundw
   .exact⟨k+1,aA,aA,cD,by rw[b6.out],B3.drewN' _,K3.drewN _⟩
   exact aY
  .have b6:=aT (b7.out.trans (if_neg e8));go_wp2_with fail;go_quiet (fail);go_wp2;go_roundw
   .exact⟨k+1,aA,aA,cD,by rw[b6.out],B3.drewN' _,K3.drewN _⟩
   exact aY):p:=h
theorem VE(hv:Ints w v l)(hl:l.length<=1048576):
  aH 200 #[aM #[n,v]] w (aS #[(mA n l),(nU n l),aG (jQ n l)]):=by
 have N:=hv;obtain⟨a,b,f9,c,rfl,e0,Z,hc,hb⟩:=hv.vw;have K0:=bK.new w 27 #[n,aD a l c]
 cases I:jQ n l with
 |false=>
  have S:mA n l=0:=by unfold mA;rw[I];rfl
  have Y:nU n l=0:=by unfold nU;rw[I];rfl
  have H:=aT (And.intro S Y);have HF:=aT I;clear S Y I hc;go_enter func200,ntmps200;go_wp2_with (go_at_call 275;refine aV (PW n l _ _ (N.alloc _) hl) ?_;intro w1 z;rw[HF.out]);go_ret3;exact⟨by rw[H.out.1,H.out.2];rfl,(cQ _ _).after z bF⟩
 |true=>
  obtain⟨h4,f6,M,f7,a7⟩:=YQ I;have e5:0<=n:=by have:=(SV I).2;omega
  have S:mA n l=l.getD (lY l (l.length-1)) 0:=by unfold mA;rw[I];rfl
  have Y:nU n l=(lY l (l.length-1):Int):=by unfold nU;rw[I];rfl
  have H:=aT (And.intro S Y);have HF:=aT I;have f3:=aT a7;have HC:=aT hc;have O:=aT Z;have R:=aT M;have c7:=aT (fun(W:World) (hW:Ints W (aD a l c) l)=>vA n (aD a l c) l W hW e5 aA);clear S Y I a7 hc Z M;go_enter func200,ntmps200;go_wp2_with fail;refine aV (PW n l _ _ (N.alloc _) hl) ?_;intro w1 z;rw[HF.out];have K1:=K0.keep z;have B1:Below w w w1:=(cQ _ _).after z bF;clear K0 z;go_wp2_with fail;go_loopw [5,6] (fun b8 i wr=>∃k:Nat,2<=k/\k<=l.length-1/\i=aO k/\b8=aO (lY l k:Int)/\Below w w wr/\bK wr w 27 #[n,aD a l c]) (fun _ i _=>l.length-(intOf i).toNat)
  .exact⟨2,aA,aA,rfl,rfl,B1,K1⟩
  obtain⟨k,a1,hk,rfl,rfl,B,K⟩:=hrel;have G1:=K.cell;have b9:=UK l k a1;obtain⟨p,hp⟩:=aW (lY l k);rw[<-hp]at b9 |-;have cp:=HC.out p aA;have J:=bY HC.out hb B aU p aA;have ip:=fun W=>O.out W p aA;by_cases hlt:k<l.length-1
  .have D:=ES l k a1;rw[<-hp,cJ l k aA,cJ l p aA]at D;have ck:=bY HC.out hb B aU k aA;have ik:=fun W=>O.out W k aA;obtain⟨x,hx⟩:=aW (l[k]);obtain⟨y,hy⟩:=aW (l[p]);rw[<-hx]at ck D;rw[<-hy]at J D;have a8:(k:Int)<2^n.toNat-1:=by rw[<-R.out];omega
   have b7:=aT D;clear D hp hx hy cp;go_wp2_with fail;refine aV (c7.out _ (N.below B aU)) ?_;intro w3 F;have B3:=B.after F B.size;have K3:=K.keep F;have ck:=keep F ck;have J:=keep F J;clear G1 F;have G3:=K3.cell;exact ajJ
  .have a6:k=l.length-1:=aA;have a8:¬(k:Int)<2^n.toNat-1:=by rw[<-R.out];omega
   have hg:l.getD p 0=l[p]:=cJ l p aA;obtain⟨y,hy⟩:=aW (l[p]);rw[<-hy]at J hg;have HP:=aT hp;have HG:=aT hg;have b5:=aT a6;clear hp hg a6 hy cp;go_wp2_with fail;refine aV (c7.out _ (N.below B aU)) ?_;intro w3 F;have B3:=B.after F B.size;have K3:=K.keep F;have J:=keep F J;clear G1 F;have G3:=K3.cell;go_wp2;go_ret3;exact⟨by rw[H.out.1,H.out.2,<-b5.out,<-HP.out,HG.out];rfl,B3⟩
theorem atI(hv:Ints w v l)(_:l.length<=1048576):
  Calls prog 97 #[aM #[n,v]] w fun e w'=>∃ad i F,e=aQ (aS #[aM #[(GX n l),aD ad i F],aG (cS n l)])/\bB 3 w w' (aD ad i F) (EM n l)/\Below w w w':=by
 obtain⟨a,b,g8,c,rfl,e5,c8,hc,hb⟩:=hv.vw;go_enter func97,ntmps97;go_wp2_with fail;refine cZ ?_;intro V hV;have B:Below w w V:=iJ hV;have Z:bK V w 27 #[n,aD a l c]:=iQ hV;have D:bK V (w+1) 27 #[aK,()]:=jL hV;clear hV;refine aV (fD n l _ _ (hv.below B aU)) ?_;intro w1 J;have Z:=Z.keep J;have D:=D.keep J;have Y:=B.after J B.size;have g0:=hv.below Y aU;clear B J;have G1:=Z.cell;have z1:=Z.lt;have z2:=D.lt
 cases K:cS n l with
 |false=>
  have hN:GX n l=0:=by unfold GX;rw[K];rfl
  have hL:EM n l=[]:=by unfold EM;rw[K];rfl
  have HN:=aT hN;have HL:=aT hL;have HF:=aT K;have G2:=D.cell;have F2:=D.frozen;clear hN hL;go_wp2;refine cT ?_;intro Wf z;have O:bK Wf (w+1) 27 #[aK,()]:=by rw[z];have:=(D.set 0 (aO 0)).set 1 (aD none 0 0);simpa using this
  have Bf:Below w w Wf:=by rw[z];exact bX (bX Y cK _) cK _
  have Gf:=O.cell;clear z G1 G2 F2;exact bW (v:=aS #[aM #[aK,()],aG false]) (by simp[results,results97,go_sem,Gf]) rfl ⟨none,0,0,by rw[HN.out,HF.out],by rw[HL.out];exact bB.nil _ _ _,Bf⟩
 |true=>
  obtain⟨h0,h5,R,a7⟩:=nE K;have e4:l.length<=32:=by have hp:=(nX h0 h5).1;omega
  have hN:GX n l=n:=by unfold GX;rw[K];rfl
  have hL:EM n l=iT (xU l) l.length:=by unfold EM;rw[K];rfl
  have HN:=aT hN;have HL:=aT hL;have HF:=aT K;have b8:=aT a7;have o0:=bB.lit0 (E:=3) (B:=w1.heap.size) w1 aU;clear hN hL K R a7;go_wp2_with fail;go_loopw [4,5] (fun out i wr=>∃(k:Nat) (ad:Option Addr) (N F:Nat),k<=l/\out=aD ad N F/\i=aO k/\bB 3 w1 wr (aD ad N F) (iT (xU l) k)/\Below w1 w1 wr)
   (fun _ i _=>l.length-(intOf i).toNat)
  .exact⟨0,_,_,_,aZ _,rfl,rfl,o0,cQ _ _⟩
  obtain⟨k,ad,N,F,hk,rfl,rfl,ho,B⟩:=hrel;have HO:=aT ho;have Kr:=Z.keep B;clear ho o0 G1;have G1:=Kr.cell;have yB:=B.size;by_cases hlt:k<l
  .have S:=I9 (xU l) k;have a8:=NB l k hlt;have ck:=bY hc hb (Y.after B Y.size) aU (l.length-1-k) aA;have ik:=fun W=>c8 W (l.length-1-k) aA;have I:=b8.out (l.length-1-k) aA;have g2:IntKind.i64.wrap ((l.length:Int)-1)=(l.length:Int)-1:=dV;have g4:IntKind.i64.wrap ((l.length:Int)-1-k)=((l.length-1-k:Nat):Int):=dV;rw[<-a8]at ck I;obtain⟨x,hx⟩:=aW (xU l k);rw[<-hx]at ck I S;have f7:(iT (xU l) k).length<=32:=by unfold iT;simp;omega
   have b9:=aT S;have g5:=I.1;have g6:=I.2;clear S a8 hx I;go_wp2_with (at_builtin;refine kX rfl _ _ _ rfl 3 underlying25 intElem w1.heap.size _ _ x wr.heap.size rfl rfl (cR wr #[x] 3 0 _ rfl) (HO.out.alloc _) ⟨aA,aA⟩ aA bO ?_;intro v' w6 M c7 f8;obtain⟨av,nv,cv,rfl⟩:=M.shape3);have B6:Below w1 w1 w6:=(B.alloc B.size (.cells #[x] 3)).grown c7 bO (fun q hq=>(HO.out.lt q hq).1);go_roundw
   .exact⟨k+1,av,nv,cv,aA,rfl,cD,by rw[b9.out];exact M,B6⟩
   exact aY
  .have c9:k=l.length:=aA;subst c9;have D:=D.keep B;have B7:=Y.after B Y.size;have G2:=D.cell;have F2:=D.frozen;have h6:=D.lt;go_wp2;refine cT ?_;intro Wf z;have O:bK Wf (w+1) 27 #[n,aD ad N F]:=by rw[z];have:=(D.set 0 (aO n)).set 1 (aD ad N F);simpa using this
   have Bf:Below w w Wf:=by rw[z];exact bX (bX B7 cK _) cK _
   have of:bB 3 w Wf (aD ad N F) (iT (xU l) l.length):=by rw[z];exact((HO.out.setBelow cK _).setBelow cK _).mono cK
   have Gf:=O.cell;clear z G1 G2 F2;exact bW (v:=aS #[aM #[n,aD ad N F],aG true]) (by simp[results,results97,go_sem,Gf]) rfl ⟨ad,N,F,by rw[HN.out,HF.out],by rw[HL.out];exact of,Bf⟩
theorem aa8(v:Value)(w:World)(M:Ints w v l)(hl:l.length<=1048576):
  aH 46 #[aM #[n,v]] w (aG (uG n l)):=by
 obtain⟨a,c,rfl⟩:=M.shape;have K0:=bK.new w 27 #[n,aD a l c];go_enter func46,ntmps46;go_wp2_with fail;refine(atI _ n _ l (M.alloc _) hl).mono ?_;rintro e w1 ⟨p1,i1,q1,rfl,Z,D⟩;have R:=K0.keep D;have J:Below w w w1:=(cQ _ _).after D bF;have y1:=J.size;have z1:=R.lt
 cases F:cS n l with
 |false=>
  have I:uG n l=false:=by unfold uG;rw[F];rfl
  have HX:=aT I;clear I F;go_wp2;go_ret;exact⟨by rw[HX.out];rfl,rB⟩
 |true=>
  have I:uG n l=decide (l=tZ l):=by unfold uG;rw[F];rfl
  have S:EM n l=tZ l:=by unfold EM;rw[F];rfl
  rw[S]at Z;have z:=fun W (h1:Ints W (aD a l c) l) (h2:Ints W (aD p1 i1 q1) (tZ l))=>afO _ _ l (tZ l) W h1 h2;simp only[<-I]at z;have K:=aT z;obtain⟨N,Y⟩:=aW (GX n l);rw[<-Y];have O:=M.below J aU;clear I Y S z F;have G1:=R.cell;go_wp2_with (go_at_call 98;refine aV (K.out _ (O.alloc _) (Z.alloc _).ints) ?_;rintro w2 ⟨nn,rfl⟩);go_ret;exact⟨rfl,(J.alloc J.size _).drewN' _⟩
theorem QR(v:Value)(w:World)(N:Ints w v l)(hl:l.length<=1048576):
  aH 99 #[aM #[n,v]] w (aG (jQ n l)):=by
 obtain⟨a,c,rfl⟩:=N.shape;have K:=bK.new w 27 #[n,aD a l c];have S:=K.cell;by_cases O:2<=n
 .go_enter func99,ntmps99;go_wp2_with fail;refine aV (tQ n l _ _ (N.alloc _) hl) ?_;intro w1 D;have Y:=K.keep D;have I:Below w w w1:=(cQ _ _).after D bF;clear D K S
  cases J:iW n l with
  |false=>
   have z:jQ n l=false:=by unfold jQ;rw[J];rfl
   have F:=aT z;clear z J;go_wp2;go_ret;exact⟨by rw[F.out];rfl,I⟩
  |true=>
   have z:jQ n l=uG n l:=by unfold jQ;rw[J,bH O];simp
   have F:=aT z;clear J z;have Z:=Y.cell;go_wp2_with fail;refine aV (aa8 n l _ _ (N.below I aU) hl) ?_;intro w2 M;have R:=I.after M I.size;go_wp2;go_ret;exact⟨by rw[F.out];rfl,R⟩
 .have z:jQ n l=false:=by unfold jQ;rw[bG O];simp
  have F:=aT z;clear z;go_enter func99,ntmps99;go_wp2;go_ret;exact⟨by rw[F.out];rfl,cQ _ _⟩
theorem VF(hv:Ints w v l)(hl:l.length<=1048576):
  aH 52 #[aM #[n,v]] w (aS #[(mA n l),(nU n l),aG (jQ n l)]):=by
 have N:=hv;obtain⟨a,b,f9,c,rfl,e0,Z,hc,hb⟩:=hv.vw;have K0:=bK.new w 27 #[n,aD a l c]
 cases I:jQ n l with
 |false=>
  have S:mA n l=0:=by unfold mA;rw[I];rfl
  have Y:nU n l=0:=by unfold nU;rw[I];rfl
  have H:=aT (And.intro S Y);have HF:=aT I;clear S Y I hc;go_enter func52,ntmps52;go_wp2_with (go_at_call 99;refine aV (QR n l _ _ (N.alloc _) hl) ?_;intro w1 z;rw[HF.out]);go_ret3;exact⟨by rw[H.out.1,H.out.2];rfl,(cQ _ _).after z bF⟩
 |true=>
  obtain⟨h4,f6,M,f7,a7⟩:=YQ I;have e5:0<=n:=by have:=(SV I).2;omega
  have S:mA n l=l.getD (lY l (l.length-1)) 0:=by unfold mA;rw[I];rfl
  have Y:nU n l=(lY l (l.length-1):Int):=by unfold nU;rw[I];rfl
  have H:=aT (And.intro S Y);have HF:=aT I;have f3:=aT a7;have HC:=aT hc;have O:=aT Z;have R:=aT M;clear S Y I a7 hc Z M;go_enter func52,ntmps52;go_wp2_with fail;refine aV (QR n l _ _ (N.alloc _) hl) ?_;intro w1 z;rw[HF.out];have K1:=K0.keep z;have B1:Below w w w1:=(cQ _ _).after z bF;clear K0 z;go_wp2_with fail;go_loopw [5,6] (fun b8 i wr=>∃k:Nat,2<=k/\k<=l.length-1/\i=aO k/\b8=aO (lY l k:Int)/\Below w w wr/\bK wr w 27 #[n,aD a l c]) (fun _ i _=>l.length-(intOf i).toNat)
  .exact⟨2,aA,aA,rfl,rfl,B1,K1⟩
  obtain⟨k,a1,hk,rfl,rfl,B,K⟩:=hrel;have G1:=K.cell;have b9:=UK l k a1;obtain⟨p,hp⟩:=aW (lY l k);rw[<-hp]at b9 |-;have cp:=HC.out p aA;have J:=bY HC.out hb B aU p aA;have ip:=fun W=>O.out W p aA;by_cases hlt:k<l.length-1
  .have D:=ES l k a1;rw[<-hp,cJ l k aA,cJ l p aA]at D;have ck:=bY HC.out hb B aU k aA;have ik:=fun W=>O.out W k aA;obtain⟨x,hx⟩:=aW (l[k]);obtain⟨y,hy⟩:=aW (l[p]);rw[<-hx]at ck D;rw[<-hy]at J D;have a8:(k:Int)<2^n.toNat-1:=by rw[<-R.out];omega
   have b7:=aT D;clear D hp hx hy cp;have f8:IntKind.i64.wrap ((l.length:Int)-1)=(l.length:Int)-1:=dV;have e4:(k:Int)<(l.length:Int)-1:=aA;have B3:=B;have K3:=K;exact ajJ
  .have a6:k=l.length-1:=aA;have a8:¬(k:Int)<2^n.toNat-1:=by rw[<-R.out];omega
   have hg:l.getD p 0=l[p]:=cJ l p aA;obtain⟨y,hy⟩:=aW (l[p]);rw[<-hy]at J hg;have HP:=aT hp;have HG:=aT hg;have b5:=aT a6;clear hp hg a6 hy cp;have f8:IntKind.i64.wrap ((l.length:Int)-1)=(l.length:Int)-1:=dV;have e4:¬(k:Int)<(l.length:Int)-1:=aA;have B3:=B;go_wp2;go_ret3;exact⟨by rw[H.out.1,H.out.2,<-b5.out,<-HP.out,HG.out];rfl,B3⟩
theorem NP(n:Nat)(hn:n<=5)(c:FuncId)(he:∀args w,(callFunc c args).run prog w=.ok (.enter c args) w)(g g':Nat)(F:Nat->Int)(hF:∀s,s<2^n->fM (F s))
  (hw:∀(s:Nat) W',s<2^n->Below w w W'->Calls prog c #[(s:Int),aP (some ⟨g,0,none⟩),aP (some ⟨g',0,none⟩)] W' fun e J=>e=aQ (F s)/\Below W' W' J):
  Calls prog 337 #[(n:Int),.func (.func c) #[] #[aP (some ⟨g,0,none⟩),aP (some ⟨g',0,none⟩)]] w fun e w'=>
   ∃ad i D,e=aQ (aS #[aM #[aO (if cS n (iT F (2^n)) then (n:Int) else 0),aD ad i D],aG (cS n (iT F (2^n)))])/\bB 3 w w' (aD ad i D) (if cS n (iT F (2^n)) then iT F (2^n) else [])/\Below w w w':=by
 exact apM
def DL(l:List Int)(s:Nat):Int:=-(l.getD s 0)
def mP(l:List Int):List Int:=iT (DL l) l.length
def EL(n:Int)(l:List Int):Int:=if cS n l then n else 0
def EK(n:Int)(l:List Int):List Int:=if cS n l then mP l else []
theorem xT:(mP l).length=l.length:=by unfold mP iT;simp
theorem NA(s:Nat)(h:s<l):DL l s=-l[s]:=by unfold DL;rw[cJ l _ h]
theorem adW(s:Nat)(h:s<l):(mP l)[s]'(by rw[xT];exact h)=-l[s]:=by
 unfold mP iT;rw[List.getElem_map,List.getElem_range];exact NA l s h
theorem adX(h:cS n l=true):cS n (mP l)=true:=by
 obtain⟨I,J,z,D⟩:=nE h;unfold cS nC;rw[xT,eW.2 ⟨I,J⟩,bH z];simp only[Bool.true_and,List.all_eq_true];intro x K;obtain⟨s,F,rfl⟩:=List.getElem_of_mem K;rw[xT]at F;rw[adW l s F];have:=D s F;exact eW.2 ⟨aA,aA⟩
theorem afZ(v:Value)(g h s:Nat)(W:World)(hv:Ints W v l)(I:s<l)(F:∀k,(hk:k<l.length)->-1000<=l[k]/\l[k]<=1000)
  (Z:W.cell? ⟨h,0,none⟩=some (aO (-1))) (c1:W.cell? ⟨g,1,none⟩=some v):
  Calls prog 338 #[s,aP (some ⟨h,0,none⟩),aP (some ⟨g,0,none⟩)] W fun e w'=>e=aQ (DL l s)/\Below W W w':=by
 obtain⟨a,b,N,c,rfl,R,D,hc,hb⟩:=hv.vw;have M:=NA l s I;have z:=hc s I;have O:=fun W=>D W s I;have K:=F s I;obtain⟨x,S⟩:=aW (l[s]);rw[<-S]at M z K;have e0:∀y:Ext W,y.w.cell? ⟨h,0,none⟩=some (aO (-1)):=fun y=>y.cell Z;have e1:∀x:Ext W,x.w.cell? ⟨g,1,none⟩=some (aD a l c):=fun x=>x.cell c1;have e2:∀y:Ext W,y.w.cell? ⟨b,N+s,none⟩=some (aO x):=fun y=>y.cell z;have Y:=aT M;clear hc D hb M z S F;go_enter func338,ntmps338;go_wp2_with fail;refine cW _ bM bM ?_
 repeat(first|go_big_quiet_skip|(go_big_quiet_want;go_big_quiet_op;first|go_big_quiet_on|(apply Exists.intro;refine⟨fun _=>?_,?_⟩;(fail);go_big_quiet_on)))
 refine wpQuiet_nil ?_;rintro w3 ⟨⟨w3,J⟩,rfl⟩
 try dsimp only
 go_wp2;go_ret;exact⟨jK (by rw[Y.out]),J⟩
theorem NR:∀args w,(callFunc 338 args).run prog w=.ok (.enter 338 args) w:=enters_of func338 bM rfl
theorem atD(hv:Ints w v l)(_:l.length<=1048576):
  Calls prog 265 #[aM #[n,v],aO (-1)] w fun e w'=>∃ad i cp,e=aQ (aS #[aM #[(EL n l),aD ad i cp],aG (cS n l)])/\bB 3 w w' (aD ad i cp) (EK n l)/\Below w w w':=by
 obtain⟨a,c,rfl⟩:=hv.shape;have e8:∀(fn:Fn) (first cap:Array Value) (w:World),(Instr.makeFunc fn first cap).run prog w=.ok (.func fn first cap) w:=fun _ _ _ _=>rfl;have Z:=aT (fun W=>kD (-1) (-1000) 1000 W);rw[show fN (-1) (-1000) 1000=true from bZ]at Z;go_enter func265,ntmps265;go_wp2_with fail;refine cZ ?_;intro V hV;have B:Below w w V:=by rw[hV];exact bl3 _ _ _ _
 have K1:bK V w 27 #[n,aD a l c]:=by rw[hV];exact((bK.new _ _ _).alloc _).alloc _
 have O:bK V (w+1) 3 #[aO (-1)]:=by rw[hV];have:=(bK.new (w.alloc (.cells #[n,aD a l c] 27)) 3 #[aO (-1)]).alloc (.cells #[aK,()] 27);simpa using this
 have F:bK V (w.heap.size+1+1) 27 #[aK,()]:=by rw[hV];have:=bK.new ((w.alloc (.cells #[n,aD a l c] 27)).alloc (.cells #[aO (-1)] 3)) 27 #[aK,()];simpa using this
 clear hV;refine aV (fO n l _ _ (hv.below B aU)) ?_;intro w1 I;have K1:=K1.keep I;have O:=O.keep I;have M:=O.cell;have F:=F.keep I;have B1:=B.after I B.size;have e4:=hv.below B1 aU;clear B I;have G1:=K1.cell;have z1:=K1.lt;have z2:=F.lt
 cases K:cS n l with
 |false=>
  have hN:EL n l=0:=by unfold EL;rw[K];rfl
  have hL:EK n l=[]:=by unfold EK;rw[K];rfl
  have HN:=aT hN;have HL:=aT hL;have HF:=aT K;have G2:=F.cell;have F2:=F.frozen;clear hN hL;go_wp2;refine cT ?_;intro Wf z;have R:bK Wf (w.heap.size+1+1) 27 #[aK,()]:=by rw[z];have:=(F.set 0 (aO 0)).set 1 (aD none 0 0);simpa using this
  have Bf:Below w w Wf:=by rw[z];exact bX (bX B1 cK _) cK _
  have Gf:=R.cell;clear z G1 M G2 F2;exact bW (v:=aS #[aM #[aK,()],aG false]) (by simp[results,results265,go_sem,Gf]) rfl ⟨none,0,0,by rw[HN.out,HF.out],by rw[HL.out];exact bB.nil _ _ _,Bf⟩
 |true=>
  obtain⟨h0,h5,J,Y⟩:=nE K;obtain⟨N,rfl⟩:=cN h0;have d0:N<=5:=aA;have b0:l.length=2^N:=by
   have e2:(N:Int).toNat=N:=aA;rw[e2]at J
   exact_mod_cast J
  have hN:EL N l=N:=by unfold EL;rw[K];rfl
  have hL:EK N l=mP l:=by unfold EK;rw[K];rfl
  have D:iT (DL l) (2^N)=mP l:=by unfold mP;rw[b0]
  have a9:cS N (iT (DL l) (2^N))=true:=by rw[D];exact adX N l K
  have b1:∀W,Ints W (aD a l c) l->W.cell? ⟨w+1,0,none⟩=some (aO (-1))->W.cell? ⟨w,1,none⟩=some (aD a l c)->Calls prog 337 #[N,.func (.func 338) #[] #[aP (some ⟨w+1,0,none⟩),aP (some ⟨w,0,none⟩)]] W fun e w'=>
    ∃ad i cp,e=aQ (aS #[aM #[N,aD ad i cp],aG true])/\bB 3 W w' (aD ad i cp) (mP l)/\Below W W w':=fun W hW c0 c1=>by
   have:=NP W N d0 338 NR (w.heap.size+1) w.heap.size (DL l) (fun s hs=>by rw[NA l s aA];have:=Y s aA;exact⟨aA,aA⟩)
    (fun s W' hs hB=>afZ l _ w.heap.size (w.heap.size+1) s W' (hW.keep hB) aA Y (keep hB c0) (keep hB c1))
   rw[a9,if_pos rfl,if_pos rfl,D]at this;exact this
  have HN:=aT hN;have HL:=aT hL;have HF:=aT K;have c8:=aT b1;clear hN hL K D a9 b1 b0 J Y;go_wp2_with fail;refine aV (Z.out _) ?_;rintro w2 rfl;go_wp2_with fail;refine(c8.out _ e4 (M 0) (G1 1)).mono ?_;rintro e w3 ⟨p3,i3,q3,rfl,o3,S⟩;have F:=F.keep S;have B3:=B1.after S B1.size;have G2:=F.cell;have F2:=F.frozen;have z3:=F.lt;clear G1 M S;go_wp2;refine cT ?_;intro Wf z;have R:bK Wf (w.heap.size+1+1) 27 #[N,aD p3 i3 q3]:=by rw[z];have:=(F.set 0 (aO N)).set 1 (aD p3 i3 q3);simpa using this
  have Bf:Below w w Wf:=by rw[z];exact bX (bX B3 cK _) cK _
  have of:bB 3 w Wf (aD p3 i3 q3) (mP l):=by rw[z];exact((o3.setBelow cK _).setBelow cK _).mono cK
  have Gf:=R.cell;clear z G2 F2;exact bW (v:=aS #[aM #[N,aD p3 i3 q3],aG true]) (by simp[results,results265,go_sem,Gf]) rfl ⟨p3,i3,q3,by rw[HN.out,HF.out],by rw[HL.out];exact of,Bf⟩
theorem atE(hv:Ints w v l)(_:l.length<=1048576):
  Calls prog 96 #[aM #[n,v],aO (-1)] w fun e w'=>∃ad i F,e=aQ (aS #[aM #[(EL n l),aD ad i F],aG (cS n l)])/\bB 3 w w' (aD ad i F) (EK n l)/\Below w w w':=by
 obtain⟨a,b,j2,c,rfl,g0,f0,hc,hb⟩:=hv.vw;have a7:=aT (fun W=>eH (-1) (-1000) 1000 W);rw[show fN (-1) (-1000) 1000=true from bZ]at a7;go_enter func96,ntmps96;go_wp2_with fail;refine cZ ?_;intro V hV;have B:Below w w V:=by rw[hV];exact bl3 _ _ _ _
 have K1:bK V w 27 #[n,aD a l c]:=by rw[hV];exact((bK.new _ _ _).alloc _).alloc _
 have D:bK V (w+1) 27 #[aK,()]:=by rw[hV];have:=(bK.new (w.alloc (.cells #[n,aD a l c] 27)) 27 #[aK,()]).alloc (.cells #[] 3);simpa using this
 have o0:bB 3 (w.heap.size+1+1) V (aD (some ⟨w+1+1,0,none⟩) 0 0) []:=by rw[hV];have:=bB.lit0 (E:=3) (B:=w.heap.size+1+1) ((w.alloc (.cells #[n,aD a l c] 27)).alloc (.cells #[aK,()] 27)) bF;simpa using this
 clear hV;refine aV (fD n l _ _ (hv.below B aU)) ?_;intro w1 I;have K1:=K1.keep I;have D:=D.keep I;have o0:=o0.keep I;have B1:=B.after I B.size;have i7:=hv.below B1 aU;clear B I;have G1:=K1.cell;have z1:=K1.lt;have z2:=D.lt
 cases M:cS n l with
 |false=>
  have hN:EL n l=0:=by unfold EL;rw[M];rfl
  have hL:EK n l=[]:=by unfold EK;rw[M];rfl
  have HN:=aT hN;have HL:=aT hL;have HF:=aT M;have G2:=D.cell;have F2:=D.frozen;clear hN hL;go_wp2;refine cT ?_;intro Wf z;have R:bK Wf (w+1) 27 #[aK,()]:=by rw[z];have:=(D.set 0 (aO 0)).set 1 (aD none 0 0);simpa using this
  have Bf:Below w w Wf:=by rw[z];exact bX (bX B1 cK _) cK _
  have Gf:=R.cell;clear z G1 G2 F2;exact bW (v:=aS #[aM #[aK,()],aG false]) (by simp[results,results96,go_sem,Gf]) rfl ⟨none,0,0,by rw[HN.out,HF.out],by rw[HL.out];exact bB.nil _ _ _,Bf⟩
 |true=>
  obtain⟨h0,h5,Z,b1⟩:=nE M;have f9:l.length<=32:=by have hp:=(nX h0 h5).1;omega
  have hN:EL n l=n:=by unfold EL;rw[M];rfl
  have hL:EK n l=iT (DL l) l.length:=by unfold EK;rw[M];rfl
  have b5:=adX n l M;have HN:=aT hN;have HL:=aT hL;have HF:=aT M;have e8:=aT b5;have e4:=aT b1;clear hN hL M Z b1 b5;go_wp2_with fail;refine aV (a7.out _) ?_;rintro w2 rfl;go_wp2_with fail;go_loopw [6,7] (fun out i wr=>∃(k:Nat) (ad:Option Addr) (J F:Nat),k<=l/\out=aD ad J F/\i=aO k/\bB 3 (w.heap.size+1+1) wr (aD ad J F) (iT (DL l) k)/\bK wr w 27 #[n,aD a l c]/\bK wr (w+1) 27 #[aK,()]/\Below w w wr)
   (fun _ i _=>l.length-(intOf i).toNat)
  .exact⟨0,_,_,_,aZ _,rfl,rfl,o0,K1,D,B1⟩
  obtain⟨k,ad,J,F,hk,rfl,rfl,ho,Kr,S,B⟩:=hrel;have HO:=aT ho;clear ho o0 G1 K1 D z1 z2;have G1:=Kr.cell;have yB:=B.size;have z2:=S.lt;by_cases hlt:k<l
  .have N:=I9 (DL l) k;have b6:=NA l k hlt;have ck:=bY hc hb B aU k hlt;have ik:=fun W=>f0 W k hlt;have K:=e4.out k hlt;rw[b6]at N;obtain⟨x,hx⟩:=aW (l[k]);rw[<-hx]at ck K N;have i1:(iT (DL l) k).length<=32:=by unfold iT;simp;omega
   have e6:=aT N;have i8:=K.1;have j0:=K.2;clear N b6 hx K;go_wp2_with (at_builtin;refine kX rfl _ _ _ rfl 3 underlying25 intElem (w.heap.size+1+1) _ _ (-x) wr.heap.size rfl rfl (cR wr #[aO (-x)] 3 0 _ rfl) (HO.out.alloc _) ⟨aA,aA⟩ aA bO ?_;intro v' w6 O Y i6;obtain⟨av,nv,cv,rfl⟩:=O.shape3);have a1:=HO.out.lt;have B6:Below w w w6:=(B.alloc B.size (.cells #[aO (-x)] 3)).grown Y bO (fun q hq=>by have:=(a1 q hq).1;omega);have K6:=(Kr.alloc (.cells #[aO (-x)] 3)).grow Y (fun e=>by have:=(a1 _ e).1;omega);have K7:=(S.alloc (.cells #[aO (-x)] 3)).grow Y (fun e=>by have:=(a1 _ e).1;omega);go_roundw
   .exact⟨k+1,av,nv,cv,aA,rfl,cD,by rw[e6.out];exact O,K6,K7,B6⟩
   exact aY
  .have f2:k=l.length:=aA;subst f2;have b3:=fun(W:World) (h:Ints W (aD ad J F) (mP l))=>QU W n ad J F (mP l) h e8.out;have e5:=aT b3;clear b3;go_wp2_with fail;refine aV (e5.out wr HO.out.ints) ?_;intro w4 b4;have D:=S.keep b4;have B4:=B.after b4 B.size;have o4:=HO.out.keep b4;have F2:=D.frozen;have G2:=D.cell;have z4:=D.lt;clear G1;go_wp2;refine cT ?_;intro Wf z;have R:bK Wf (w+1) 27 #[n,aD ad J F]:=by rw[z];have:=((D.set 0 (aO n)).set 1 (aD ad J F)).alloc (.cells #[n,aD ad J F] 27);simpa using this
   have hg:w4.grownBy Wf (some (w.heap.size+1)):=by rw[z];exact YX (cX (cX (dO _ _) 0 _) 1 _) (anW _ (cQ _ _))
   have Bf:Below w w Wf:=B4.grown hg B4.size kF;have f4:=o4.lt;have of:=(o4.grow hg (fun q hq e=>by have:=cI hq;have:=(f4 _ e).1;omega)).mono (B':=w.heap.size) aA;have Gf:=R.cell;clear z G2 F2;exact bW (v:=aS #[aM #[n,aD ad J F],aG true]) (by simp[results,results96,go_sem,Gf]) rfl ⟨ad,J,F,by rw[HN.out,HF.out],by rw[HL.out];exact of,Bf⟩
