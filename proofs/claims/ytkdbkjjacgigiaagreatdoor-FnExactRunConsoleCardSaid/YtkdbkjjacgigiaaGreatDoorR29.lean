/- Lemmas for CardRunConsole. No condition. -/
import Derived.Test.YtkdbkjjacgigiaaGreatDoorR17
import Derived.Test.YtkdbkjjacgigiaaGreatDoorR18
import Derived.Test.YtkdbkjjacgigiaaGreatDoorR19
import Derived.Test.YtkdbkjjacgigiaaGreatDoorR25
set_option maxRecDepth 100000
set_option maxHeartbeats 64000000
namespace Go.Proofs.YtkdbkjjacgigiaaGreatDoor
section
open Go.RowKit Go.G5 Go.Proofs.Tryz
variable(w:World)(n:Int)(v:Value)(l:aI)
theorem anV(hv:Ints w v l):
  aH 38 #[aM #[n,v]] w (aS #[(qP n l),aG (cS n l)]):=by
 have a8:=hv;obtain⟨a,c,rfl⟩:=hv.shape;have K0:=bK.new w 27 #[n,aD a l c]
 cases hf:cS n l with
 |false=>
  have hg:qP n l=0:=by unfold qP;rw[hf];rfl
  have HG:=aT hg;have HF:=aT hf;clear hg hf;go_enter func38,ntmps38;go_wp2_with (go_at_call 20;refine aV (fD n l _ _ (a8.alloc _)) ?_;intro w1 S;rw[HF.out]);go_ret2;exact⟨by rw[HG.out];rfl,(cQ _ _).after S bF⟩
 |true=>
  obtain⟨N,rfl,g6,Z,j8,D⟩:=eJ hf;have b8:qP (N:Int) l=jR ((wQ N l.length).map (BM l)) 0:=by unfold qP;rw[hf,if_pos rfl,cA,aiB,Z]
  have b7:∀s i,s<2^N->i<N->∀k,k<N->-4000<=nB l s i k/\nB l s i k<=4000:=fun s i Y hi k hk=>YI N l Z D s i k Y hi hk;have HG:=aT b8;have HF:=aT hf;have f8:=aT Z;have f9:=aT D;have k8:=aT b7;clear b8 hf Z D b7;go_enter func38,ntmps38;go_wp2_with fail;refine aV (fD N l _ _ (a8.alloc _)) ?_;intro w1 S;rw[HF.out];have K1:=K0.keep S;have B1:Below w w w1:=(cQ _ _).after S bF;have G1:=K1.cell;clear K0 S;have e5:=a8.below B1 aU;obtain⟨av,b,l5,cv,h7,c6,F,hc,hb⟩:=e5.vw;injection h7 with e1 _ e3;subst e1 e3;have HC:=aT hc;have f7:=aT F;clear hc F c6 e5;go_wp2_with fail;go_loopw [4,6] (fun nv sv wr=>∃s:Nat,s<=l.length/\sv=aO s/\nv=aO (jR ((wQ N s).map (BM l)) 0)/\Below w1 w1 wr) (fun _ sv _=>l.length-(intOf sv).toNat)
  .exact⟨0,aZ _,rfl,rfl,bJ _ _⟩
  obtain⟨s,Y,rfl,rfl,B⟩:=hrel;obtain⟨wo,rfl⟩:∃wo:World,wo=wr:=⟨_,rfl⟩;have K:=K1.keep B;have G:=K.cell;clear G1;obtain⟨M,R⟩:=aW (jR ((wQ N s).map (BM l)) 0);rw[<-R];have O:=aT R;clear R;by_cases h6:s<l.length
  .have c8:(s:Int)<(l.length:Int):=aA;go_wp2_with fail;go_loopw [4,7] (fun nv iv wr=>∃i:Nat,i<=N/\iv=aO i/\nv=aO (jR ((wQ N s++yW s i).map (BM l)) 0)/\Below w1 w1 wr) (fun _ iv _=>N-(intOf iv).toNat)
   .exact⟨0,aZ _,rfl,by rw[show yW s 0=[] from rfl,List.append_nil,O.out],B⟩
   obtain⟨i,hi,rfl,rfl,B2⟩:=hrel;obtain⟨wi,rfl⟩:∃wo:World,wo=wr:=⟨_,rfl⟩;have K2:=K1.keep B2;have G2:=K2.cell;clear G K O B;obtain⟨M2,R⟩:=aW (jR ((wQ N s++yW s i).map (BM l)) 0);rw[<-R];have O:=aT R;clear R;by_cases h0:i<N
   .have b9:(i:Int)<(N:Int):=aA;go_wp2_with fail;go_loopw [4,8] (fun nv kv wr=>∃k:Nat,k<=i/\kv=aO k/\nv=aO (jR (((wQ N s++yW s i)++J8 s i k).map (BM l)) 0)/\Below w1 w1 wr) (fun _ kv _=>i-(intOf kv).toNat)
    .exact⟨0,aZ _,rfl,by rw[show J8 s i 0=[] from rfl,List.append_nil,O.out],B2⟩
    obtain⟨k,hk,rfl,rfl,B3⟩:=hrel;obtain⟨wk,rfl⟩:∃wo:World,wo=wr:=⟨_,rfl⟩;clear G2 K2 O B2;obtain⟨M3,R⟩:=aW (jR (((wQ N s++yW s i)++J8 s i k).map (BM l)) 0);rw[<-R];have O:=aT R;clear R;by_cases l2:k<i
    .have c5:(k:Int)<(i:Int):=aA;have c9:J8 s i (k+1)=J8 s i k++(if (!eI s i&&!eI s k) then [(s,i,k)] else []):=rfl;have a1:=aT c9;have g7:=lL (s:Int) i aA aA;have g8:=lL (s:Int) k aA aA;have I:=AM s i;have J:=AM s k;obtain⟨y,hy⟩:=aW (fE (s:Int) i);obtain⟨z,hz⟩:=aW (fE (s:Int) k);rw[<-hy]at g7 I;rw[<-hz]at g8 J;clear hy hz c9
     cases h1:eI s i with
     |true=>
      have h8:(y==0)=false:=by rw[I,h1];rfl
      have H1:=aT h1;clear h1 I J;go_wp2;go_roundw
      .exact⟨k+1,aA,cD,by rw[a1.out,H1.out,O.out];simp,B3⟩
      exact aY
     |false=>
      have h8:(y==0)=true:=by rw[I,h1];rfl
      cases h2:eI s k with
      |true=>
       have h9:(z==0)=false:=by rw[J,h2];rfl
       have H2:=aT h2;clear h1 h2 I J;go_wp2;go_roundw
       .exact⟨k+1,aA,cD,by rw[a1.out,H2.out,O.out];simp,B3⟩
       exact aY
      |false=>
       have h9:(z==0)=true:=by rw[J,h2];rfl
       have a7:jR (((wQ N s++yW s i)++J8 s i (k+1)).map (BM l)) 0=max M3 (nB l s i k):=by rw[a1.out,h1,h2,O.out,<-eY,List.map_append];exact afX _ _ _
       have hl:=f8.out;have D:=f9.out;have hc:=bY HC.out hb B3 aU;have F:=f7.out;have hn:=g6;have Y:s<2^N:=by rw[<-hl];exact h6
       have hi:=h0;have hk:k<N:=aA;have h1:=gI s i N Y hi;have h2:=gI s k N Y hk;have h3:=gI (dF s i) k N h1 hk;rw[<-tM]at h3;have p5:(2:Nat)^N<=32:=bQ (n:=2) bZ hn;rw[<-hl]at h1 h2 h3 Y p5;have c0:=hc s Y;have c1:=hc _ h1;have c2:=hc _ h2;have c3:=hc _ h3;have i0:=fun W=>F W s Y;have i1:=fun W=>F W _ h1;have i2:=fun W=>F W _ h2;have i3:=fun W=>F W _ h3;have b0:=D s Y;have b1:=D _ h1;have b2:=D _ h2;have b3:=D _ h3;have hex:nB l s i k=l[dF s i ||| dF s k]+l[s]-l[dF s i]-l[dF s k]:=by unfold nB;rw[cJ l _ h3,cJ l _ Y,cJ l _ h1,cJ l _ h2]
       have q1:=iU s i aA aA;have q2:=iU s k aA aA;have q3:=PT (dF s i) (dF s k) aA aA;have q4:=iU (dF s i) k aA aA;rw[<-tM]at q4;obtain⟨u1,d0⟩:=aW (dF s i);obtain⟨u2,e0⟩:=aW (dF s k);simp only[<-d0,<-e0]at c1 c2 c3 i1 i2 i3 b1 b2 b3 hex q1 q2 q3 q4 h1 h2 h3;obtain⟨u3,e4⟩:=aW (u1 ||| u2);simp only[<-e4]at c3 i3 b3 hex q3 q4 h3;obtain⟨x0,e6⟩:=aW (l[s]);obtain⟨x1,e7⟩:=aW (l[u1]);obtain⟨x2,e8⟩:=aW (l[u2]);obtain⟨x3,e9⟩:=aW (l[u3]);rw[<-e6]at c0 b0 hex;rw[<-e7]at c1 b1 hex;rw[<-e8]at c2 b2 hex;rw[<-e9]at c3 b3 hex;have pi:=dW i 6 aA;have pk:=dW k 6 aA;have l7:(2:Int)^i<=64:=by simpa using pi.1
       have l9:(2:Int)^k<=64:=by simpa using pk.1
       have l8:=pi.2;have m2:=pk.2;have wi:IntKind.i64.wrap ((2:Int)^i)=2^i:=dV;have wk:IntKind.i64.wrap ((2:Int)^k)=2^k:=dV;have m6:IntKind.i64.wrap (x3+x0)=x3+x0:=dV;have m7:IntKind.i64.wrap (x3+x0-x1)=x3+x0-x1:=dV;have m8:IntKind.i64.wrap (x3+x0-x1-x2)=x3+x0-x1-x2:=dV;have z0:(0:Int)<=(s:Int):=aA;rw[hex]at a7;have g2:=aT a7;clear F D hex d0 e0 e4 e6 e7 e8 e9 pi pk q3 hc hl a7 h1 h2 I J;go_wp2_with fail;go_quiet (fail);go_wp2;go_roundw
       .exact⟨k+1,aA,cD,by rw[g2.out],B3.drewN' _⟩
       exact aY
    .have c5:¬(k:Int)<(i:Int):=aA;have h5:k=i:=aA;subst h5;go_wp2;go_roundw
     .exact⟨k+1,aA,cD,by rw[show yW s (k+1)=yW s k++J8 s k k from rfl,<-eY,O.out],B3⟩
     exact aY
   .have b9:¬(i:Int)<(N:Int):=aA;have g9:i=N:=aA;subst g9;go_wp2;go_roundw
    .exact⟨s+1,aA,cD,by rw[show wQ i (s+1)=wQ i s++yW s i from rfl,O.out],B2⟩
    exact aY
  .have c8:¬(s:Int)<(l.length:Int):=aA;have c7:s=l.length:=aA;have b6:M=qP (N:Int) l:=by rw[HG.out,O.out,c7]
   have g0:=aT b6;clear c7 b6;go_wp2;go_ret2;exact⟨by rw[g0.out];rfl,B1.after B B1.size⟩
theorem nA(b:Bool)(x:aB)(w:World):
  Calls prog 42 #[aG b,aR x] w fun e w'=>e=aQ (aR (lT b x))/\w=w':=by
 cases b
 .go_enter func42,ntmps42;go_wp2;go_ret;exact⟨rfl,rfl⟩
 .go_enter func42,ntmps42;go_wp2;go_ret;exact⟨rfl,rfl⟩
theorem ah8(hv:Ints w v l)(hl:l.length<=1048576):
  aH 14 #[aM #[n,v]] w (aR (sL n l)):=by
 have a8:=hv;obtain⟨a,c,rfl⟩:=hv.shape;have K0:=bK.new w 27 #[n,aD a l c]
 cases hf:cS n l with
 |false=>
  have hx:sL n l=aN:=by unfold sL;rw[hf];rfl
  have HX:=aT hx;have HF:=aT hf;clear hx hf;go_enter func14,ntmps14;go_wp2_with fail;refine aV (fD n l _ _ (a8.alloc _)) ?_;intro w1 b1;rw[HF.out];go_wp2;go_ret;exact⟨dA HX.out.symm,(cQ _ _).after b1 bF⟩
 |true=>
  have hx:=QG hf;rw[show fY=eQ from rfl,U0]at hx;have l9:=DJ hf;have m2:=JU hf;have g5:=SX n l;have g6:=vY n l;have e5:=eB (qP n l) ⟨aA,aA⟩;obtain⟨F,hF⟩:=aW (jA n l);obtain⟨g,hg⟩:=aW (qP n l);obtain⟨N,hN⟩:=aW (dB g);rw[<-hF,<-hg]at hx;rw[<-hF]at g6;rw[<-hg]at g5 e5;rw[<-hN]at e5 hx;have HX:=aT hx;have HF:=aT hf;have a6:=fun(W:World) (h:Ints W (aD a l c) l)=>EW n l _ W h;have a7:=fun(W:World) (h:Ints W (aD a l c) l)=>anV W n _ l h;rw[<-hF]at a6;rw[<-hg]at a7;have e9:=aT a6;have f0:=aT a7;have k9:=aT hN;clear hx hf hF hg a6 a7 hN;go_enter func14,ntmps14;go_wp2_with fail;refine aV (fD n l _ _ (a8.alloc _)) ?_;intro w1 b1;rw[HF.out];have B:Below w w w1:=(cQ _ _).after b1 bF;have K:=K0.keep b1;clear K0 b1;have G:=K.cell;go_wp2_with fail;refine aV (e9.out _ (a8.below B aU)) ?_;intro w2 b2;have B:=B.after b2 B.size;have K:=K.keep b2;clear G b2;have G:=K.cell;go_wp2_with fail;refine aV (f0.out _ (a8.below B aU)) ?_;intro w3 b3;have B:=B.after b3 B.size;have K:=K.keep b3;have a9:=a8.below B aU;clear G b3 e9 f0;have G:=K.cell;have g0:=G 0;have g1:=G 1;simp only[List.getElem?_toArray,List.getElem?_cons_zero,List.getElem?_cons_succ]at g0 g1;clear G;go_upto_region 5 with fail;go_cut [3] (fun v wx=>∃X,v=aR X/\X=CT F N (gY (iN n l)) (gY (kR n l))/\X.size<=4100/\Below w3 w3 wx)
  case rest=>
   obtain⟨X,rfl,hX,o8,b4⟩:=hcut;have D:=a9.keep b4;have K2:=K.keep b4;have B2:=B.after b4 B.size;have l3:=aT hX;have G:=K2.cell;have g0:=G 0;have g1:=G 1;simp only[List.getElem?_toArray,List.getElem?_cons_zero,List.getElem?_cons_succ]at g0 g1;clear G hX;have q0:∀y:Ext wc,y.w.cell? ⟨w,0,none⟩=some (aO n):=fun y=>y.cell g0;have q1:∀y:Ext wc,y.w.cell? ⟨w,1,none⟩=some (aD a l c):=fun y=>y.cell g1;have Q0:=fun y:Ext wc=>tQ n l _ y.w ((D.keep y.b)) hl;have Q1:=fun y:Ext wc=>apA n l _ y.w ((D.keep y.b)) hl;have Q2:=fun y:Ext wc=>ZB n l _ y.w ((D.keep y.b));have Q3:=fun y:Ext wc=>A9 n l _ y.w ((D.keep y.b));have Q4:=fun y:Ext wc=>aa8 n l _ y.w ((D.keep y.b)) hl;have Q5:=fun y:Ext wc=>rZ n l _ y.w ((D.keep y.b)) hl;have Q6:=fun y:Ext wc=>pT n l _ y.w ((D.keep y.b)) hl;obtain⟨f3,I⟩:=aW (iW n l);rw[<-I]at Q0;obtain⟨f4,J⟩:=aW (wP n l);rw[<-J]at Q1;obtain⟨f5,O⟩:=aW (rG n l);rw[<-O]at Q2;obtain⟨f6,R⟩:=aW (gP n l);rw[<-R]at Q3;obtain⟨f7,Y⟩:=aW (uG n l);rw[<-Y]at Q4;obtain⟨f8,Z⟩:=aW (gU n l);rw[<-Z]at Q5;obtain⟨f9,a1⟩:=aW (eX n l);rw[<-a1]at Q6;have j8:=aT (And.intro I (And.intro J (And.intro O (And.intro R (And.intro Y (And.intro Z a1))))));have Q0:=aT Q0;have Q1:=aT Q1;have Q2:=aT Q2;have Q3:=aT Q3;have Q4:=aT Q4;have Q5:=aT Q5;have Q6:=aT Q6;obtain⟨t0,b6⟩:=aW (lT f3 (⟨#[32,115,117,98,109,111,100,117,108,97,114]⟩:aB));have Y0:=fun y:Ext wc=>nA f3 (⟨#[32,115,117,98,109,111,100,117,108,97,114]⟩:aB) y.w;rw[<-b6]at Y0;have Y0:=aT Y0;have z0:t0.size<=14:=by rw[b6];exact dC (fR _ _) bZ
   obtain⟨t1,b7⟩:=aW (lT f4 (⟨#[32,115,117,112,101,114,109,111,100,117,108,97,114]⟩:aB));have Y1:=fun y:Ext wc=>nA f4 (⟨#[32,115,117,112,101,114,109,111,100,117,108,97,114]⟩:aB) y.w;rw[<-b7]at Y1;have Y1:=aT Y1;have z1:t1.size<=14:=by rw[b7];exact dC (fR _ _) bZ
   obtain⟨t2,b8⟩:=aW (lT f5 (⟨#[32,105,110,99,114,101,97,115,105,110,103]⟩:aB));have Y2:=fun y:Ext wc=>nA f5 (⟨#[32,105,110,99,114,101,97,115,105,110,103]⟩:aB) y.w;rw[<-b8]at Y2;have Y2:=aT Y2;have z2:t2.size<=14:=by rw[b8];exact dC (fR _ _) bZ
   obtain⟨t3,b9⟩:=aW (lT f6 (⟨#[32,103,114,111,117,110,100,101,100]⟩:aB));have Y3:=fun y:Ext wc=>nA f6 (⟨#[32,103,114,111,117,110,100,101,100]⟩:aB) y.w;rw[<-b9]at Y3;have Y3:=aT Y3;have z3:t3.size<=14:=by rw[b9];exact dC (fR _ _) bZ
   obtain⟨t4,c5⟩:=aW (lT f7 (⟨#[32,115,121,109,109,101,116,114,105,99]⟩:aB));have Y4:=fun y:Ext wc=>nA f7 (⟨#[32,115,121,109,109,101,116,114,105,99]⟩:aB) y.w;rw[<-c5]at Y4;have Y4:=aT Y4;have z4:t4.size<=14:=by rw[c5];exact dC (fR _ _) bZ
   obtain⟨t5,c6⟩:=aW (lT f8 (⟨#[32,112,111,108,121,109,97,116,114,111,105,100]⟩:aB));have Y5:=fun y:Ext wc=>nA f8 (⟨#[32,112,111,108,121,109,97,116,114,111,105,100]⟩:aB) y.w;rw[<-c6]at Y5;have Y5:=aT Y5;have z5:t5.size<=14:=by rw[c6];exact dC (fR _ _) bZ
   obtain⟨t6,c7⟩:=aW (lT f9 (⟨#[32,109,97,116,114,111,105,100]⟩:aB));have Y6:=fun y:Ext wc=>nA f9 (⟨#[32,109,97,116,114,111,105,100]⟩:aB) y.w;rw[<-c7]at Y6;have Y6:=aT Y6;have z6:t6.size<=14:=by rw[c7];exact dC (fR _ _) bZ
   have l1:=aT (And.intro b6 (And.intro b7 (And.intro b8 (And.intro b9 (And.intro c5 (And.intro c6 c7))))));clear g0 g1 I J O R Y Z a1 b6 b7 b8 b9 c5 c6 c7 a9 D K2 l9 m2 g5 g6 e5 K;have s0:(X++t0).size<=4114:=by simp only[ByteArray.size_append];omega
   have s1:(X++t0++t1).size<=4128:=by simp only[ByteArray.size_append];omega
   have s2:(X++t0++t1++t2).size<=4142:=by simp only[ByteArray.size_append];omega
   have s3:(X++t0++t1++t2++t3).size<=4156:=by simp only[ByteArray.size_append];omega
   have s4:(X++t0++t1++t2++t3++t4).size<=4170:=by simp only[ByteArray.size_append];omega
   have s5:(X++t0++t1++t2++t3++t4++t5).size<=4184:=by simp only[ByteArray.size_append];omega
   have s6:(X++t0++t1++t2++t3++t4++t5++t6).size<=4198:=by simp only[ByteArray.size_append];omega
   go_wp2_with fail;refine cW _ bM bM ?_
   repeat(first|go_big_quiet_skip|(go_big_quiet_want;go_big_quiet_op;first|go_big_quiet_on|(apply Exists.intro;refine⟨fun _=>?_,?_⟩;(first|(go_at_call 43;with_reducible exact dI (Q0.out _))|(go_at_call 44;with_reducible exact dI (Q1.out _))|(go_at_call 45;with_reducible exact dI (Q2.out _))|(go_at_call 23;with_reducible exact dI (Q3.out _))|(go_at_call 46;with_reducible exact dI (Q4.out _))|(go_at_call 47;with_reducible exact dI (Q5.out _))|(go_at_call 48;with_reducible exact dI (Q6.out _))|(go_at_call 42;first|(with_reducible exact fA (Y0.out _))|(with_reducible exact fA (Y1.out _))|(with_reducible exact fA (Y2.out _))|(with_reducible exact fA (Y3.out _))|(with_reducible exact fA (Y4.out _))|(with_reducible exact fA (Y5.out _))|(with_reducible exact fA (Y6.out _))));go_big_quiet_on)))
   refine wpQuiet_nil ?_;rintro w5 ⟨⟨w5,b5⟩,rfl⟩
   try dsimp only
   go_wp2_with fail;go_ret;refine⟨dA ?_,B2.after b5 B2.size⟩;obtain⟨h0,h1,h2,h3,h4,h5,h6⟩:=j8.out;obtain⟨k0,k1,k2,k3,k4,k5,k6⟩:=l1.out;rw[HX.out,<-h0,<-h1,<-h2,<-h3,<-h4,<-h5,<-h6,k0,k1,k2,k3,k4,k5,k6,l3.out]
   rfl
  case first=>
   have q0:∀y:Ext w3,y.w.cell? ⟨w,0,none⟩=some (aO n):=fun y=>y.cell g0;have q1:∀y:Ext w3,y.w.cell? ⟨w,1,none⟩=some (aD a l c):=fun y=>y.cell g1;have e4:=fun W:World=>iL g ⟨aA,aA⟩ W;rw[<-k9.out]at e4;have k7:=aT e4;have o9:Ints w3.drew (aD a l c) l:=a9.drew';clear e4 g0 g1;refine KD (C:=fun w'=>∃x:Ext w3,w'=x.w) bM bM bM ⟨⟨w3.drew,(bJ _ _).drew⟩,rfl⟩ ?_;have bd:Below w3 w3 w3.drew:=(bJ _ _).drew
   repeat(refine jU (by rfl) ?_;(first|go_big_quiet_skip|(go_big_quiet_want;go_big_quiet_op;go_big_quiet_on));refine wpQuiet_nil ?_)
   refine kO 8 _ _ rfl (enters_of func8 bM rfl) bM ?_;intro KK z;go_simp;refine aV (k7.out _) ?_;intro wa ba;have ba:=bd.after ba bd.size;refine⟨_,rfl,?_⟩;go_simp;refine z _ _ ⟨⟨wa,ba⟩,rfl⟩ ?_;clear z KK
   repeat(refine jU (by rfl) ?_;(first|go_big_quiet_skip|(go_big_quiet_want;go_big_quiet_op;go_big_quiet_on));refine wpQuiet_nil ?_)
   refine kO 40 _ _ rfl (enters_of func40 bM rfl) bM ?_;intro KK z;go_simp;refine(ak8 wa n _ l (a9.keep ba) hl).mono ?_;rintro e wb ⟨p1,i1,r1,rfl,o1,bb⟩;have bb:=ba.after bb ba.size;have rM:=o1.ints.inR;have sM:(gY (iN n l)).size<=708:=by have:=pK _ rM;omega
   refine⟨_,rfl,?_⟩;go_simp;refine z _ _ ⟨⟨wb,bb⟩,rfl⟩ ?_;clear z KK
   repeat(refine jU (by rfl) ?_;(first|go_big_quiet_skip|(go_big_quiet_want;go_big_quiet_op;go_big_quiet_on));refine wpQuiet_nil ?_)
   refine kO 39 _ _ rfl (enters_of func39 bM rfl) bM ?_;intro KK z;go_simp;refine aV (zT (iN n l) _ wb o1.ints aA) ?_;intro wd bc;have bc:=bb.after bc bb.size;obtain⟨M,hM⟩:=aW (gY (iN n l));rw[<-hM]at sM |-;have k8:=aT hM;clear hM;refine⟨_,rfl,?_⟩;go_simp;refine z _ _ ⟨⟨wd,bc⟩,rfl⟩ ?_;clear z KK;have e0:(⟨#[102,117,110,99,116,105,111,110,32]⟩:aB).size=9:=rfl;have e1:(⟨#[32,103,97,112,32]⟩:aB).size=5:=rfl;have e2:(⟨#[32,109,97,115,115,101,115,32]⟩:aB).size=8:=rfl;have e3:(⟨#[32,115,104,97,112,108,101,121,32]⟩:aB).size=9:=rfl
   repeat(refine jU (by rfl) ?_;(first|go_big_quiet_skip|(go_big_quiet_want;go_big_quiet_op;go_big_quiet_on));refine wpQuiet_nil ?_)
   refine kO 41 _ _ rfl (enters_of func41 bM rfl) bM ?_;intro KK z;go_simp;refine(arW wd n _ l (a9.keep bc) hl).mono ?_;rintro e we ⟨p2,i2,r2,rfl,o2,be⟩;have be:=bc.after be bc.size;have rS:=o2.ints.inR;have sS:(gY (kR n l)).size<=708:=by have:=pK _ rS;omega
   refine⟨_,rfl,?_⟩;go_simp;refine z _ _ ⟨⟨we,be⟩,rfl⟩ ?_;clear z KK
   repeat(refine jU (by rfl) ?_;(first|go_big_quiet_skip|(go_big_quiet_want;go_big_quiet_op;go_big_quiet_on));refine wpQuiet_nil ?_)
   refine kO 39 _ _ rfl (enters_of func39 bM rfl) bM ?_;intro KK z;go_simp;refine aV (zT (kR n l) _ we o2.ints aA) ?_;intro wf bf;have bf:=be.after bf be.size;obtain⟨S,hS⟩:=aW (gY (kR n l));rw[<-hS]at sS |-;have l0:=aT hS;clear hS;refine⟨_,rfl,?_⟩;go_simp;refine z _ _ ⟨⟨wf,bf⟩,rfl⟩ ?_;clear z KK
   repeat(refine jU (by rfl) ?_;(first|go_big_quiet_skip|(go_big_quiet_want;go_big_quiet_op;go_big_quiet_on));refine wpQuiet_nil ?_)
   refine V9 ?_;go_wp2_with fail;go_meet;exact⟨_,rfl,by rw[k8.out,l0.out];rfl,KY F N M S aA aA aA aA,bf⟩
theorem ajL{p:Prop}(h:p:=by
  clear D;go_wp2_with fail;refine cW _ bM bM ?_
  repeat(first|go_big_quiet_skip|(go_big_quiet_want;go_big_quiet_op;first|go_big_quiet_on|(apply Exists.intro;refine⟨fun _=>?_,?_⟩;(fail);go_big_quiet_on)))
  refine wpQuiet_nil ?_;rintro w5 ⟨⟨w5,b5⟩,rfl⟩
  try dsimp only
  go_wp2;go_roundw
  .exact⟨t+1,aA,aA,cD,by rw[a7.out],Br.after b5 Br.size⟩
  exact aY):p:=h
theorem auO(hv:Ints w v l):
  aH 50 #[aM #[n,v]] w (aS #[(BE n l),(EJ n l),aG (cS n l)]):=by
 have e9:=hv;obtain⟨a,b,b3,c,rfl,e0,a9,hc,hb⟩:=hv.vw;have HC:=aT hc;have S:=aT a9;clear hc a9;go_enter func50,ntmps50;go_wp2_with fail;refine cZ ?_;intro V hV;have B:Below w w V:=jP hV;have K:bK V w 27 #[n,aD a l c]:=jV hV;clear hV;refine aV (fD n l _ V (hv.below B aU)) ?_;intro w1 b1;have K:=K.keep b1;have B:=B.after b1 B.size;have G:=K.cell;have z:=K.lt
 cases Z:cS n l with
 |false=>
  have N:BE n l=0/\EJ n l=0:=by unfold BE EJ;rw[Z];exact⟨rfl,rfl⟩
  have Y:=aT (And.intro N Z);clear N Z;go_wp2;go_ret3;exact⟨by rw[Y.out.1.1,Y.out.1.2,Y.out.2];rfl,B⟩
 |true=>
  have N:BE n l=l.getD (nW l l.length) 0/\EJ n l=(nW l l.length:Int):=by unfold BE EJ;rw[Z];exact⟨rfl,rfl⟩
  have O:l.length<=32/\0<l.length:=by obtain⟨N',hN,h5,e8,O,_⟩:=eJ Z;have:=dJ N';exact⟨O,aA⟩
  have Y:=aT (And.intro N Z);have h1:=aoK l;clear N Z;go_wp2_with fail;go_loopw [5,6] (fun b9 i wr=>∃t:Nat,1<=t/\t<=l/\i=aO t/\b9=aO (nW l t:Int)/\Below w1 w1 wr) (fun _ i _=>l.length-(intOf i).toNat)
  .exact⟨1,aU,aA,rfl,by rw[h1];rfl,bJ _ _⟩
  obtain⟨t,c6,ht,rfl,rfl,Br⟩:=hrel;obtain⟨wo,rfl⟩:∃z:World,z=wr:=⟨_,rfl⟩;have Bw:=B.after Br B.size;have Kw:=K.keep Br;have J:=M8 l t c6;clear G z;have G:=Kw.cell;have z:=Kw.lt;by_cases hlt:t<l
  .have b0:(t:Int)<(l.length:Int):=aA;have I:nW l t<l.length:=aA;have D:=VI l t;have M:=bY HC.out hb Bw aU t hlt;have f0:=fun W=>S.out W t hlt;have F:=bY HC.out hb Bw aU _ I;have a6:=fun W=>S.out W _ I;rw[<-cJ l t hlt]at M;rw[<-cJ l _ I]at F;obtain⟨q,R⟩:=aW (nW l t);simp only[<-R]at D F a6;rw[<-R];obtain⟨x,N⟩:=aW (l.getD t 0);obtain⟨y,hy⟩:=aW (l.getD q 0);rw[<-N,<-hy]at D;rw[<-N]at M;rw[<-hy]at F;have e1:∀y:Ext wo,y.w.cell? ⟨w,1,none⟩=some (aD a l c):=fun y=>y.cell (Kw.cell 1);have e2:∀z:Ext wo,z.w.cell? ⟨b,b3+t,none⟩=some (aO x):=fun z=>z.cell M;have e3:∀z:Ext wo,z.w.cell? ⟨b,b3+q,none⟩=some (aO y):=fun z=>z.cell F;clear R N hy J I M F;by_cases a8:y<x
   .rw[if_pos a8]at D;have a7:=aT D;exact ajL
   .rw[if_neg a8]at D;have a7:=aT D;exact ajL
  .have b0:¬(t:Int)<(l.length:Int):=aA;have c7:t=l.length:=aA;subst c7;have F:=bY HC.out hb Bw aU _ J;have a6:=fun W=>S.out W _ J;obtain⟨q,R⟩:=aW (nW l l.length);simp only[<-R]at F a6 J;rw[<-cJ l _ J]at F;rw[<-R];obtain⟨y,hy⟩:=aW (l.getD q 0);rw[<-hy]at F;have HY:=aT hy;have HQ:=aT R;clear hy R;go_wp2;go_ret3;exact⟨by rw[Y.out.1.1,Y.out.1.2,Y.out.2,<-HQ.out,<-HY.out];rfl,Bw⟩
theorem auE(hv:Ints w v l):
  aH 51 #[aM #[n,v]] w (aS #[(D7 n l),aG (cS n l)]):=by
 have m7:=hv;obtain⟨a,b,I,c,rfl,k6,g4,hc,hb⟩:=hv.vw;have HC:=aT hc;have a8:=aT g4;clear hc g4;go_enter func51,ntmps51;go_wp2_with fail;refine cZ ?_;intro V hV;have B:Below w w V:=jP hV;have K:bK V w 27 #[n,aD a l c]:=jV hV;clear hV;refine aV (fD n l _ V (hv.below B aU)) ?_;intro w1 b1;have K:=K.keep b1;have B:=B.after b1 B.size;have G:=K.cell;have z:=K.lt
 cases hf:cS n l with
 |false=>
  have hx:D7 n l=0:=by unfold D7;rw[hf];rfl
  have HX:=aT (And.intro hx hf);clear hx hf;go_wp2;go_ret2;exact⟨by rw[HX.out.1,HX.out.2];rfl,B⟩
 |true=>
  obtain⟨N,rfl,h5,g5,k5,g6⟩:=eJ hf;have hx:D7 N l=(lB l N N:Int):=by unfold D7;rw[hf,if_pos rfl,cA]
  have c7:=fZ N w1 aA;rw[show((2:Int)^N-1)=((lM N 0 0:Nat):Int) by
   rw[YF];have:((2^N:Nat):Int)=(2:Int)^N:=bF;have:=dJ N;omega]at c7
  have i7:=aT c7;have HX:=aT (And.intro hx hf);have a9:=aT g5;have b0:=aT g6;clear hx hf c7 g5 g6;go_wp2_with fail;refine aV i7.out ?_;rintro w2 rfl;go_wp2_with fail;go_loopw [4,5,6] (fun av bv i wr=>∃e:Nat,e<=N/\i=aO e/\av=aO (lB l N e:Int)/\bv=aO (lM N (lB l N e) e:Int)/\Below w1 w1 wr) (fun _ _ i _=>N-(intOf i).toNat)
  .exact⟨0,aZ _,rfl,rfl,rfl,bJ _ _⟩
  obtain⟨e,he,rfl,rfl,rfl,Br⟩:=hrel;obtain⟨wo,rfl⟩:∃z:World,z=wr:=⟨_,rfl⟩;have Kw:=K.keep Br;clear G z;have G:=Kw.cell;have z:=Kw.lt;by_cases hlt:e<N
  .have g7:(e:Int)<(N:Int):=aA;have Bw:=B.after Br B.size;have e7:=MZ l N h5 e he;have j4:(2:Nat)^e<=32:=bQ (n:=2) (j:=5) bZ aA;have j3:(2:Nat)^N<=32:=bQ (n:=2) (j:=5) bZ aA;have D:=UQ l N e;obtain⟨x,hx⟩:=aW (lB l N e);rw[<-hx]at e7 D |-;obtain⟨⟨f1,f2⟩,⟨f3,f4⟩,⟨f5,f6⟩,f7,f8⟩:=OS N aA e hlt x aA e7;have g8:=iU x e aA aA;have g9:=f1;rw[f2]at D;rw[f1]at g8 D;have b4:fW l x e=l.getD (x+2^e) 0-l.getD x 0:=by unfold fW;rw[f1]
   have d0:=AJ b0.out (x+2^e);have g0:=AJ b0.out x;have O:x+2^e<l.length:=by have:=a9.out;omega
   have R:x<l.length:=by have:=a9.out;omega
   have a1:=bY HC.out hb Bw aU _ O;have b3:=bY HC.out hb Bw aU _ R;have j8:=fun W=>a8.out W _ O;have m9:=fun W=>a8.out W _ R;rw[<-cJ l _ O]at a1;rw[<-cJ l _ R]at b3;have c8:=AJ b0.out (lM N x (e+1));have c9:=AJ b0.out (lM N x e);have J:lM N x (e+1)<l.length:=by have:=a9.out;omega
   have M:lM N x e<l.length:=by have:=a9.out;omega
   have Y:=bY HC.out hb Bw aU _ J;have Z:=bY HC.out hb Bw aU _ M;have h0:=(fun(W:World)=>a8.out W _ J);have j7:=fun W=>a8.out W _ M;rw[<-cJ l _ J]at Y;rw[<-cJ l _ M]at Z;have H3:=aT f3;obtain⟨y,hy⟩:=aW (lM N x e);obtain⟨z',e8⟩:∃z',z'=lM N x (e+1):=⟨_,rfl⟩;obtain⟨x',b8⟩:∃x',x'=x+2^e:=⟨_,rfl⟩;simp only[<-hy,<-e8]at f5 f6 c8 c9 Y Z h0 j7 D;rw[<-b8]at g8 D b4 d0 a1;simp only[<-b8]at j8;rw[<-hy];have HY:=aT hy;have HZ:=aT e8;have j0:=aT b8;obtain⟨p,hp⟩:=aW (l.getD z' 0);obtain⟨q,hq⟩:=aW (l.getD y 0);obtain⟨r,hr⟩:=aW (l.getD x' 0);obtain⟨s,hs⟩:=aW (l.getD x 0);rw[<-hr,<-hs]at b4;rw[b4]at D;rw[<-hr]at d0 a1;rw[<-hs]at g0 b3;rw[<-hp]at c8 Y D;rw[<-hq]at c9 Z D;have m8:IntKind.i64.wrap (p-q)=p-q:=dV;have k9:IntKind.i64.wrap (r-s)=r-s:=dV;have b7:(y:Int)-2^e=(z':Int):=by have:((2^e:Nat):Int)=(2:Int)^e:=bF;omega
   have l0:IntKind.i64.wrap ((y:Int)-2^e)=(y:Int)-2^e:=by rw[b7,oJ];omega
   simp only[<-b7]at h0;have i8:=aT b7;clear b7;have a6:=dW e 6 aA;have m5:(2:Int)^e<=64:=by simpa using a6.1
   have m6:=a6.2;have m4:(0:Int)<=(e:Int):=Int.natCast_nonneg _;have e0:∀y:Ext wo,y.w.cell? ⟨w,0,none⟩=some (aO (N:Int)):=fun y=>y.cell (Kw.cell 0);have e1:∀y:Ext wo,y.w.cell? ⟨w,1,none⟩=some (aD a l c):=fun y=>y.cell (Kw.cell 1);have e2:∀y:Ext wo,y.w.cell? ⟨b,I+z',none⟩=some (aO p):=fun y=>y.cell Y;have e3:∀z:Ext wo,z.w.cell? ⟨b,I+y,none⟩=some (aO q):=fun z=>z.cell Z;have e4:∀z:Ext wo,z.w.cell? ⟨b,I+x',none⟩=some (aO r):=fun z=>z.cell a1;have e5:∀z:Ext wo,z.w.cell? ⟨b,I+x,none⟩=some (aO s):=fun z=>z.cell b3;clear hx f1 f2 f3 f4 f5 f6 f7 f8 e7 j4 j3 hy e8 b8 hp hq hr hs b4 g9 J M O R a6 Y Z a1 b3 c8 c9 d0 g0;by_cases g2:p-q<=r-s
   .rw[if_pos g2]at D;have S:=aT D;clear D;go_wp2_with fail;refine cW _ bM bM ?_
    repeat(first|go_big_quiet_skip|(go_big_quiet_want;go_big_quiet_op;first|go_big_quiet_on|(apply Exists.intro;refine⟨fun _=>?_,?_⟩;(fail);go_big_quiet_on)))
    refine wpQuiet_nil ?_;rintro w5 ⟨⟨w5,F⟩,rfl⟩
    try dsimp only
    have e0:∀y:Ext w5,y.w.cell? ⟨w,0,none⟩=some (aO (N:Int)):=fun y=>e0 ⟨y.w,F.after y.b F.size⟩;have e1:∀y:Ext w5,y.w.cell? ⟨w,1,none⟩=some (aD a l c):=fun y=>e1 ⟨y.w,F.after y.b F.size⟩;have e2:∀y:Ext w5,y.w.cell? ⟨b,I+z',none⟩=some (aO p):=fun y=>e2 ⟨y.w,F.after y.b F.size⟩;have e3:∀z:Ext w5,z.w.cell? ⟨b,I+y,none⟩=some (aO q):=fun y=>e3 ⟨y.w,F.after y.b F.size⟩;go_wp2_with fail;refine cW _ bM bM ?_
    repeat(first|go_big_quiet_skip|(go_big_quiet_want;go_big_quiet_op;first|go_big_quiet_on|(apply Exists.intro;refine⟨fun _=>?_,?_⟩;(fail);go_big_quiet_on)))
    refine wpQuiet_nil ?_;rintro w6 ⟨⟨w6,c6⟩,rfl⟩
    try dsimp only
    have b6:=F.after c6 F.size;go_wp2;go_roundw
    .exact⟨e+1,aA,cD,by rw[S.out],by rw[S.out,j0.out,H3.out,HY.out],Br.after b6 Br.size⟩
    exact aY
   .rw[if_neg g2]at D;have S:=aT D;clear D;go_wp2_with fail;refine cW _ bM bM ?_
    repeat(first|go_big_quiet_skip|(go_big_quiet_want;go_big_quiet_op;first|go_big_quiet_on|(apply Exists.intro;refine⟨fun _=>?_,?_⟩;(fail);go_big_quiet_on)))
    refine wpQuiet_nil ?_;rintro w5 ⟨⟨w5,F⟩,rfl⟩
    try dsimp only
    have e0:∀y:Ext w5,y.w.cell? ⟨w,0,none⟩=some (aO (N:Int)):=fun y=>e0 ⟨y.w,F.after y.b F.size⟩;have e1:∀y:Ext w5,y.w.cell? ⟨w,1,none⟩=some (aD a l c):=fun y=>e1 ⟨y.w,F.after y.b F.size⟩;have e2:∀y:Ext w5,y.w.cell? ⟨b,I+z',none⟩=some (aO p):=fun y=>e2 ⟨y.w,F.after y.b F.size⟩;have e3:∀z:Ext w5,z.w.cell? ⟨b,I+y,none⟩=some (aO q):=fun y=>e3 ⟨y.w,F.after y.b F.size⟩;go_wp2_with fail;refine cW _ bM bM ?_
    repeat(first|go_big_quiet_skip|(go_big_quiet_want;go_big_quiet_op;first|go_big_quiet_on|(apply Exists.intro;refine⟨fun _=>?_,?_⟩;(fail);go_big_quiet_on)))
    refine wpQuiet_nil ?_;rintro w6 ⟨⟨w6,c6⟩,rfl⟩
    try dsimp only
    have b6:=F.after c6 F.size;go_wp2;go_roundw
    .exact⟨e+1,aA,cD,by rw[S.out],by rw[S.out,<-HZ.out,i8.out],Br.after b6 Br.size⟩
    exact aY
  .have g7:¬(e:Int)<(N:Int):=aA;have hE:e=N:=aA;subst hE;go_wp2;go_ret2;exact⟨by rw[HX.out.1,HX.out.2];rfl,B.after Br B.size⟩
theorem ajA{p:Prop}(h:p:=by
  clear G z b9
  cases bC with
  |false=>go_wp2;go_ret;exact⟨dA (M.out.trans i1.out),B9⟩
  |true=>
   have a0:=K9.cell 0;simp only[List.getElem?_toArray,List.getElem?_cons_zero]at a0;have p0:∀y:Ext w9,y.w.cell? ⟨w,0,none⟩=some (aO n):=fun y=>y.cell a0;have R6:=aT (fun y:Ext w9=>m5.out y.w);have R7:=aT (fun y:Ext w9=>m6.out y.w);go_wp2_with fail;refine cW _ bM bM ?_
   repeat(first|go_big_quiet_skip|(go_big_quiet_want;go_big_quiet_op;first|go_big_quiet_on|(apply Exists.intro;refine⟨fun _=>?_,?_⟩;(first|(go_at_call 8;exact dI (R6.out _))|(go_at_call 22;exact dI (R7.out _)));go_big_quiet_on)))
   refine wpQuiet_nil ?_;rintro wa ⟨⟨wa,ba⟩,rfl⟩
   try dsimp only
   go_wp2;go_ret;exact⟨dA (M.out.trans i1.out),B9.after ba B9.size⟩):p:=h
theorem amM(hv:Ints w v l)(hl:l.length<=1048576):
  aH 15 #[aM #[n,v]] w (aR (BS n l)):=by
 have F:=hv;obtain⟨a,c,rfl⟩:=hv.shape;have K0:=bK.new w 27 #[n,aD a l c]
 cases J:cS n l with
 |false=>have M:=aT (UH J);have HF:=aT J;clear J;go_enter func15,ntmps15;go_wp2_with fail;refine aV (fD n l _ _ (F.alloc _)) ?_;intro w1 b1;rw[HF.out];go_wp2;go_ret;exact⟨dA M.out.symm,(cQ _ _).after b1 bF⟩
 |true=>
  obtain⟨TT,a9⟩:=aW (BS n l);have g8:(∀x∈sG n l,fM x)->TT.size<=10700:=by rw[a9,DT J];exact PQ J
  have hx:xlT n l=TT:=by rw[a9,DT J]
  unfold xlT at hx;have p5:=ZS J;have p6:=Z4 J;have o6:=YG J;have o5:=YC n l;have o7:=SQ n l;have d0:0<l.length:=by obtain⟨N,_,_,h2,_⟩:=eJ J;have:=dJ N;omega
  have p7:zQ n l=gR l:=by unfold zQ;rw[J];rfl
  have j1:D7 n l=(lB l n.toNat n.toNat:Int):=by unfold D7;rw[J];rfl
  have O:lB l n.toNat n.toNat<l.length:=by obtain⟨N,rfl,h5,h2,_⟩:=eJ J;rw[cA,h2];exact MZ l N h5 N aU
  have c5:P5 n l=l.getD (lB l n.toNat n.toNat) 0:=rfl;have f8:=fun(W:World) (h:Ints W (aD a l c) l)=>DE W n _ l h d0;have c9:=fun(W:World) (h:Ints W (aD a l c) l)=>EH W n _ l h;have c8:=fun(W:World) (h:Ints W (aD a l c) l)=>auO W n _ l h;have c6:=fun(W:World) (h:Ints W (aD a l c) l)=>auE W n _ l h;have c7:=fun(W:World) (h:Ints W (aD a l c) l)=>UT W n _ l h hl;have b0:=fun(W:World) (h:Ints W (aD a l c) l)=>VF W n _ l h hl;simp only[J]at c9 c8;simp only[J,j1]at c6;obtain⟨bD,f7⟩:=aW (zG n l);obtain⟨bC,f6⟩:=aW (jQ n l);rw[<-f7,<-f6]at hx;simp only[<-f7]at c7;simp only[<-f6]at b0;obtain⟨d,hd⟩:=aW (lB l n.toNat n.toNat);simp only[<-hd]at c6 O c5;obtain⟨N1,Y⟩:=aW (gR l);obtain⟨N2,a6⟩:=aW (BE n l);obtain⟨N3,a7⟩:=aW (P5 n l);obtain⟨N4,a8⟩:=aW (mA n l);obtain⟨S2,f4⟩:=aW (EJ n l);obtain⟨S4,f5⟩:=aW (nU n l);obtain⟨Z,hZ⟩:=aW (sJ n l);obtain⟨D,hD⟩:=aW (sG n l);rw[<-Y,<-a6,<-a7,<-a8,<-f4,<-f5,<-hZ,<-hD]at hx;simp only[<-Y]at f8;simp only[<-hZ]at c9;simp only[<-a6,<-f4]at c8;rw[<-a7]at c5;simp only[<-hD]at c7;simp only[<-a8,<-f5]at b0;rw[<-Y]at p5;rw[<-a6]at p6;rw[<-a7]at o6;rw[<-a8]at o5;rw[<-hD]at o7 g8;have q1:=eB N1 ⟨aA,aA⟩;have q2:=gK n Z;have q3:=eB N2 ⟨aA,aA⟩;have q4:=gN n S2;have q5:=eB N3 ⟨aA,aA⟩;have q6:=eB N4 ⟨aA,aA⟩;have q7:=gN n S4;have i1:=aT a9;have M:=aT hx;have s8:=aT g8;have HF:=aT J;have l0:=aT c5;have e0:=aT O;have l5:=aT f8;have l7:=aT c9;have l6:=aT c8;have l1:=aT c6;have l2:=aT c7;have h9:=aT b0;clear hx J a9 g8 f8 c9 c8 c6 c7 b0 f7 f6 hd Y a6 a7 a8 f4 f5 hZ hD p7 j1 c5 O d0;have f9:=fun W:World=>iL N1 ⟨aA,aA⟩ W;have g2:=fun W:World=>iL N2 ⟨aA,aA⟩ W;have g4:=fun W:World=>kL n S2 W;have g5:=fun W:World=>iL N3 ⟨aA,aA⟩ W;have g6:=fun W:World=>iL N4 ⟨aA,aA⟩ W;have g7:=fun W:World=>kL n S4 W;have g0:=fun(p:Option Addr) (q:Nat) (W:World) (h:Ints W (aD p Z q) Z)=>lV n Z _ W h;have I:=M.out;obtain⟨F1,e5⟩:=aW (dB N1);rw[<-e5]at q1 I;simp only[<-e5]at f9;have l8:=aT f9;clear e5 f9;obtain⟨F2,e6⟩:=aW (eG n Z);rw[<-e6]at q2 I;simp only[<-e6]at g0;have l9:=aT g0;clear e6 g0;obtain⟨F3,e7⟩:=aW (dB N2);rw[<-e7]at q3 I;simp only[<-e7]at g2;have m2:=aT g2;clear e7 g2;obtain⟨F4,e8⟩:=aW (dH n S2);rw[<-e8]at q4 I;simp only[<-e8]at g4;have m3:=aT g4;clear e8 g4;obtain⟨F5,e9⟩:=aW (dB N3);rw[<-e9]at q5 I;simp only[<-e9]at g5;have m4:=aT g5;clear e9 g5;obtain⟨F6,f0⟩:=aW (dB N4);rw[<-f0]at q6 I;simp only[<-f0]at g6;have m5:=aT g6;clear f0 g6;obtain⟨F7,f2⟩:=aW (dH n S4);rw[<-f2]at q7 I;simp only[<-f2]at g7;have m6:=aT g7;clear f2 g7;have M:=aT I;clear I;obtain⟨_,ab,r1,_,q8,_,j2,hc,hb⟩:=F.vw;injection q8 with x1 _ x3;subst x1 x3;have HC:=aT hc;have l4:=aT j2;clear hc j2;go_enter func15,ntmps15;go_wp2_with fail;refine aV (fD n l _ _ (F.alloc _)) ?_;intro w1 b1;rw[HF.out];have B1:Below w w w1:=(cQ _ _).after b1 bF;have K1:=K0.keep b1;clear K0 b1;have G:=K1.cell;have z:=K1.lt;go_wp2_with fail;refine(l7.out _ (F.below B1 aU)).mono ?_;rintro e w3 ⟨pZ,iZ,qZ,rfl,oZ,b3⟩;have o9:iZ=Z.length:=oZ.ints.capLe.1;subst o9;have i8:=oZ.ints;have B3:=B1.after b3 B1.size;have K3:=K1.keep b3;clear B1 K1 G z b3 oZ;have G:=K3.cell;have z:=K3.lt;go_wp2_with fail;refine aV (l6.out _ (F.below B3 aU)) ?_;intro w4 b4;have j0:=i8.keep b4;have B4:=B3.after b4 B3.size;have K4:=K3.keep b4;clear B3 K3 G z b4 i8;have G:=K4.cell;have z:=K4.lt;go_wp2_with fail;refine aV (l1.out _ (F.below B4 aU)) ?_;intro R b5;have hZ:=j0.keep b5;have B5:=B4.after b5 B4.size;have K5:=K4.keep b5;clear B4 K4 G z b5 j0;go_upto_region 6 with fail;go_cut [10] (fun v wx=>∃X,v=aR X/\X=UG F1 F2 F3 F4 F5/\Below R R wx)
  case rest=>
   obtain⟨X,rfl,hX,b6⟩:=hcut;have u7:X.size<=10300:=by rw[hX];exact WB F1 F2 F3 F4 F5 q1 q2 q3 q4 q5
   have g9:=M.out;rw[<-hX]at g9;have M:=aT g9;have B6:=B5.after b6 B5.size;have K6:=K5.keep b6;clear hX g9 b6 B5 K5 hZ;have G:=K6.cell;have z:=K6.lt;go_wp2_with fail;refine(l2.out _ (F.below B6 aU)).mono ?_;rintro e w7 ⟨pD,iD,qD,rfl,oD,b7⟩;have o8:iD=D.length:=oD.ints.capLe.1;subst o8;have S:=oD.ints;have B7:=B6.after b7 B6.size;have K7:=K6.keep b7;clear B6 K6 G z b7 oD
   cases bD with
   |false=>have K:=M.out;simp only[PP,if_neg Bool.false_ne_true]at K;have M:=aT K;clear K S;have G:=K7.cell;have z:=K7.lt;go_wp2_with fail;refine aV (h9.out _ (F.below B7 aU)) ?_;intro w9 b9;have B9:=B7.after b9 B7.size;have K9:=K7.keep b9;exact ajA
   |true=>
    have p9:(gY D).size<=200:=by have:=pK D S.inR;omega
    have hn:=zT D _ w7 S aA;have K:=M.out;obtain⟨F8,f3⟩:=aW (gY D);rw[<-f3]at K p9;simp only[<-f3]at hn;have HN:=aT hn;simp only[PP,if_pos]at K;have M:=aT K;clear K S f3 hn;have G:=K7.cell;have z:=K7.lt;go_wp2_with fail;refine aV HN.out ?_;intro w8 b8;have B8:=B7.after b8 B7.size;have K8:=K7.keep b8;clear G z b8 B7 K7;have G:=K8.cell;have z:=K8.lt;go_wp2_with fail;refine aV (h9.out _ (F.below B8 aU)) ?_;intro w9 b9;have B9:=B8.after b9 B8.size;have K9:=K8.keep b9;exact ajA
  case first=>
   have a0:=K5.cell 0;have a1:=K5.cell 1;simp only[List.getElem?_toArray,List.getElem?_cons_zero,List.getElem?_cons_succ]at a0 a1;have ck:=bY HC.out hb B5 aU d e0.out;have ik:=fun W=>l4.out W d e0.out;rw[<-cJ l d e0.out,<-l0.out]at ck;have q0:=F.below B5 aU;have p0:∀y:Ext R,y.w.cell? ⟨w,0,none⟩=some (aO n):=fun y=>y.cell a0;have p1:∀y:Ext R,y.w.cell? ⟨w,1,none⟩=some (aD a l c):=fun y=>y.cell a1;have p2:∀y:Ext R,y.w.cell? ⟨ab,r1+d,none⟩=some (aO N3):=fun y=>y.cell ck;have R0:=aT (fun y:Ext R=>l5.out y.w (y.ints q0));have R1:=aT (fun y:Ext R=>l8.out y.w);have R3:=aT (fun y:Ext R=>m2.out y.w);have R5:=aT (fun y:Ext R=>m4.out y.w);have R4:=aT (fun y:Ext R=>m3.out y.w);have R2:=aT (fun y:Ext R=>l9.out pZ qZ y.w (hZ.keep y.b));clear a0 a1 ck;refine cW _ bM bM ?_
   repeat(first|go_big_quiet_skip|(go_big_quiet_want;go_big_quiet_op;first|go_big_quiet_on|(apply Exists.intro;refine⟨fun _=>?_,?_⟩;(first|(go_at_call 28;exact dI (R0.out _))|(go_at_call 8;first|(with_reducible exact dI (R1.out _))|(with_reducible exact dI (R3.out _))|(with_reducible exact dI (R5.out _)))|(go_at_call 22;exact dI (R4.out _))|(go_at_call 9;exact dI (R2.out _)));go_big_quiet_on)))
   refine wpQuiet_nil ?_;rintro w6 ⟨⟨w6,b6⟩,rfl⟩
   try dsimp only
   go_wp2_with fail;go_meet;exact⟨_,rfl,rfl,b6⟩
theorem alD(hv:Ints w v l)(hl:l.length<=1048576):
  aH 161 #[aM #[n,v]] w (aR (zR n l)):=by
 have F:=hv;obtain⟨a,c,rfl⟩:=hv.shape;have K0:=bK.new w 27 #[n,aD a l c];obtain⟨M,hM⟩:=aW (lE n l);have D:=fun(W:World) (h:Ints W (aD a l c) l)=>XK W n _ l h hl;have Y:=fun(W:World) (h:Ints W (aD a l c) l)=>asO W n _ l h hl;simp only[<-hM]at D Y
 cases hf:eX n l with
 |false=>simp only[hf]at D;have a8:=aT D;have HX:=aT (TL hf);have HF:=aT hf;clear hf D Y hM;go_enter func161,ntmps161;go_wp2_with fail;refine(a8.out _ (F.alloc _)).mono ?_;rintro e w1 ⟨pB,iB,qB,rfl,oB,b1⟩;have B1:Below w w w1:=(cQ _ _).after b1 bF;go_wp2;go_ret;exact⟨dA HX.out.symm,B1.alloc B1.size _⟩
 |true=>
  simp only[hf]at D;have o0:=YD n l;have o1:=aaR n l;have s1:=gK M (iX n l);have s2:=gK M (jW n l);have s3:=gK n (rD n l);have s4:=eB (yA n l) ⟨aA,aA⟩;have s5:=eB (sK n l) ⟨aA,aA⟩;have z:=JB hf;unfold mlT at z;rw[<-hM]at z;obtain⟨bC,d0⟩:=aW (D5 n l);obtain⟨bP,e0⟩:=aW (yE n l);rw[<-d0,<-e0]at z;have e4:=fun(W:World) (h:Ints W (aD a l c) l)=>aqI W n _ l h hl;have e8:=fun(W:World) (h:Ints W (aD a l c) l)=>arJ W n _ l h hl;simp only[<-d0]at e4;simp only[<-e0]at e8;have e6:=fun W:World=>iL (yA n l) ⟨aA,aA⟩ W;have e7:=fun W:World=>iL (sK n l) ⟨aA,aA⟩ W;obtain⟨N1,c7⟩:=aW (dB (yA n l));obtain⟨N2,c8⟩:=aW (dB (sK n l));rw[<-c7]at s4 z;rw[<-c8]at s5 z;simp only[<-c7]at e6;simp only[<-c8]at e7;have e9:=fun(p:Option Addr) (q:Nat) (W:World) (h:Ints W (.slice p (iX n l).length q) (iX n l))=>lV M (iX n l) _ W h;have f0:=fun(p:Option Addr) (q:Nat) (W:World) (h:Ints W (.slice p (jW n l).length q) (jW n l))=>lV M (jW n l) _ W h;have f2:=fun(p:Option Addr) (q:Nat) (W:World) (h:Ints W (.slice p (rD n l).length q) (rD n l))=>lV n (rD n l) _ W h;obtain⟨F1,O⟩:=aW (eG M (iX n l));obtain⟨F2,R⟩:=aW (eG M (jW n l));obtain⟨F3,S⟩:=aW (eG n (rD n l));rw[<-O,<-R,<-S]at z;rw[<-O]at s1;rw[<-R]at s2;rw[<-S]at s3;simp only[<-O]at e9;simp only[<-R]at f0;simp only[<-S]at f2;have f5:=aT e9;have f6:=aT f0;have f7:=aT f2;have i7:=aT e6;have i8:=aT e7;have Z:=aT z;have a8:=aT D;have i1:=aT Y;have i6:=aT e4;have j0:=aT e8;clear hM hf z D Y e4 e8 e6 e7 d0 e0 c7 c8 O R S e9 f0 f2;go_enter func161,ntmps161;go_wp2_with fail;refine(a8.out _ (F.alloc _)).mono ?_;rintro e w2 ⟨pB,iB,qB,rfl,oB,b2⟩;have k0:iB=(iX n l).length:=oB.ints.capLe.1;subst k0;have B2:Below w w w2:=(cQ _ _).after b2 bF;have K2:=K0.keep b2;clear K0 b2;have N:=bK.new w2 29 #[M,.slice pB (iX n l).length qB];have hB:=oB.ints.alloc (.cells #[M,.slice pB (iX n l).length qB] 29);have J:=B2.alloc B2.size (.cells #[M,.slice pB (iX n l).length qB] 29);have b0:=K2.alloc (.cells #[M,.slice pB (iX n l).length qB] 29);have G:=b0.cell;go_wp2_with fail;refine(i1.out _ (F.below J aU)).mono ?_;rintro e w3 ⟨pC,iC,qC,rfl,oC,b3⟩;have k1:iC=(jW n l).length:=oC.ints.capLe.1;subst k1;have B3:=J.after b3 J.size;have K3:=b0.keep b3;have N:=N.keep b3;have hB:=hB.keep b3;clear G B2 J K2 b0 b3;have KC:=bK.new w3 29 #[M,.slice pC (jW n l).length qC];have hC:=oC.ints.alloc (.cells #[M,.slice pC (jW n l).length qC] 29);have K:=B3.alloc B3.size (.cells #[M,.slice pC (jW n l).length qC] 29);have c5:=K3.alloc (.cells #[M,.slice pC (jW n l).length qC] 29);have N:=N.alloc (.cells #[M,.slice pC (jW n l).length qC] 29);have hB:=hB.alloc (.cells #[M,.slice pC (jW n l).length qC] 29);have G:=c5.cell;go_wp2_with fail;refine(asZ _ n _ l (F.below K aU) hl).mono ?_;rintro e I ⟨pF,iF,qF,rfl,oF,b4⟩;have k2:iF=(rD n l).length:=oF.ints.capLe.1;subst k2;have B4:=K.after b4 K.size;have K4:=c5.keep b4;have N:=N.keep b4;have KC:=KC.keep b4;have hB:=hB.keep b4;have hC:=hC.keep b4;have g4:=oF.ints;clear G B3 K K3 c5 b4;go_upto_region 6 with fail;go_cut [9] (fun v wx=>∃X,v=aR X/\X=TI F1 F2 F3/\Below I I wx)
  case rest=>
   obtain⟨X,rfl,hX,b5⟩:=hcut;have j9:X.size<=30100:=by rw[hX];exact VG F1 F2 F3 s1 s2 s3
   have HX:=aT hX;have B5:=B4.after b5 B4.size;have K5:=K4.keep b5;clear hX b5 B4 K4 N KC hB hC g4 oB oC oF f5 f6 f7;have G:=K5.cell;go_wp2_with fail;refine aV (i6.out _ (F.below B5 aU)) ?_;intro w6 b6;have B6:=B5.after b6 B5.size;have K6:=K5.keep b6;clear B5 K5 G b6;go_upto_if 50 with fail;go_cut [9] (fun v wx=>∃X2,v=aR X2/\X2=TJ bC X N1/\Below w6 w6 wx)
   case rest=>
    obtain⟨X2,rfl,c9,b7⟩:=hcut;have l8:X2.size<=30140:=by rw[c9];exact VH bC X N1 30100 j9 s4
    have f8:=aT c9;have B7:=B6.after b7 B6.size;have K7:=K6.keep b7;clear c9 b7 B6 K6;have G:=K7.cell;go_wp2_with fail;refine aV (j0.out _ (F.below B7 aU)) ?_;intro w8 b8;have B8:=B7.after b8 B7.size;clear B7 K7 G b8
    cases bP with
    |false=>
     have z:X2=zR n l:=by rw[Z.out,f8.out,HX.out];rfl
     have a9:=aT z;clear z;go_wp2;go_ret;exact⟨dA a9.out,B8⟩
    |true=>
     have z:TK true X2 N2=zR n l:=by rw[Z.out,f8.out,HX.out]
     have a9:=aT z;clear z;go_wp2_with fail;refine aV (i8.out _) ?_;intro w9 b9;go_wp2;go_ret;exact⟨dA a9.out,B8.after b9 B8.size⟩
   case first=>
    cases bC with
    |false=>go_wp2_with fail;go_meet;exact⟨X,rfl,rfl,bJ _ _⟩
    |true=>go_wp2_with fail;refine aV (i7.out _) ?_;intro w9 b9;go_wp2_with fail;go_meet;exact⟨_,rfl,rfl,b9⟩
  case first=>
   have a0:=K4.cell 0;have a1:=N.cell 0;have a2:=N.cell 1;have a3:=KC.cell 0;have a4:=KC.cell 1;simp only[List.getElem?_toArray,List.getElem?_cons_zero,List.getElem?_cons_succ]at a0 a1 a2 a3 a4;have q0:∀y:Ext I,y.w.cell? ⟨w,0,none⟩=some (aO n):=fun y=>y.cell a0;have q1:∀y:Ext I,y.w.cell? ⟨w2,0,none⟩=some (aO M):=fun y=>y.cell a1;have q2:∀y:Ext I,y.w.cell? ⟨w2,1,none⟩=some (.slice pB (iX n l).length qB):=fun y=>y.cell a2;have q3:∀y:Ext I,y.w.cell? ⟨w3,0,none⟩=some (aO M):=fun y=>y.cell a3;have q4:∀y:Ext I,y.w.cell? ⟨w3,1,none⟩=some (.slice pC (jW n l).length qC):=fun y=>y.cell a4;have R1:=aT (fun y:Ext I=>f5.out pB qB y.w (hB.keep y.b));have R2:=aT (fun y:Ext I=>f6.out pC qC y.w (hC.keep y.b));have R3:=aT (fun y:Ext I=>f7.out pF qF y.w (g4.keep y.b));clear a0 a1 a2 a3 a4;refine cW _ bM bM ?_
   repeat(first|go_big_quiet_skip|(go_big_quiet_want;go_big_quiet_op;first|go_big_quiet_on|(apply Exists.intro;refine⟨fun _=>?_,?_⟩;(go_at_call 9;first|(with_reducible exact dI (R1.out _))|(with_reducible exact dI (R2.out _))|(with_reducible exact dI (R3.out _)));go_big_quiet_on)))
   refine wpQuiet_nil ?_;rintro w5 ⟨⟨w5,b5⟩,rfl⟩
   try dsimp only
   go_wp2_with fail;go_meet;exact⟨_,rfl,rfl,b5⟩
