/- Lemmas for CardReports. No condition. -/
import Derived.Test.YtcpoomdoodlkjaaGreatDoorQ17
import Derived.Test.YtcpoomdoodlkjaaGreatDoorQ34
set_option maxRecDepth 100000
set_option maxHeartbeats 64000000
namespace Go.Proofs.YtcpoomdoodlkjaaGreatDoor
section
open Go.RowKit Go.G5 Go.Proofs.Tryz
theorem aa6(w:World)(n:Int)(v:Value)(l:List Int)(hv:aO w v l)(hl:l.length<=1048576)(hp:sR w):
  Calls prog 12 #[.agg #[n,v]] w fun e w'=>e=.returned (.string (uN n l))/\Below w w w':=by
 have z:=hv;obtain⟨a,c,rfl⟩:=hv.shape;have K0:=aR.new w 26 #[n,ajH a l.length c]
 cases hf:bH n l with
 |false=>
  have hx:uN n l=ByteArray.empty:=by unfold uN;rw[hf];rfl
  have HX:=aJ hx;have HF:=aJ hf;clear hx hf;go_enter func12,ntmps12;go_wp2_with fail;refine(dS n l _ _ (z.alloc _)).mono ?_;rintro e w1 ⟨rfl,b1⟩;rw[HF.out];go_wp2;go_ret;exact⟨bX HX.out.symm,(aY _ _).after b1 (by simp)⟩
 |true=>
  have hx:=JC hf;have HX:=aJ hx;have r5:=xT hf;have r6:=BN hf;have r4:=MM n l;have HF:=aJ hf;clear hx hf;go_enter func12,ntmps12;go_wp2_with fail;refine(dS n l _ _ (z.alloc _)).mono ?_;rintro e w1 ⟨rfl,b1⟩;rw[HF.out];have B:Below w w w1:=(aY _ _).after b1 (by simp);have K:=K0.keep b1;clear K0 b1;have G:=K.cell;go_wp2_with fail;refine(adZ _ n _ l (z.below B aK)).mono ?_;rintro e w2 ⟨rfl,b2⟩;have B1:=B.after b2 B.size;have K1:=K.keep b2;clear B K G b2;obtain⟨D,d7⟩:=aN w2.heap.size;have zb:w.heap.size<D:=by rw[d7];exact K1.lt
  have L1:gQ D (w2.alloc (.cells #[()] 45)) []:=by rw[d7];exact gQ.new w2
  have K2:=K1.alloc (.cells #[()] 45);have B2:=B1.alloc B1.size (.cells #[()] 45);have G1:=K2.cell;go_wp2_with fail;rw[<-d7];clear d7;clear G1;refine(U1 n l _ _ (z.below B2 aK) (hp.keep B2)).mono ?_;rintro e w3 ⟨rfl,b3⟩;have B3:=B2.after b3 B2.size;have K3:=K2.keep b3;have L3:=L1.keep b3;clear B2 K2 L1;clear b3;go_wp2_with fail;refine(dN D [] [(⟨#[102,117,110,99,116,105,111,110]⟩:ByteArray),mB n l] w3.heap.size 2 2 _ (L3.keep (aY _ _)) rfl (fO (aX _ _ _ _ _ rfl) (aX _ _ _ _ _ rfl)) (by simp)).mono ?_;rintro e w4 ⟨rfl,L4,b4⟩;have B4:=(B3.alloc B3.size _).after b4 aI;have K4:=bU (K3.alloc _) b4 aI;clear B3 K3 L3 b4;obtain⟨X4,c9⟩:=aN ([]++[(⟨#[102,117,110,99,116,105,111,110]⟩:ByteArray),mB n l]);rw[<-c9]at L4;have r0:X4.length<=2:=by rw[c9];simp only[List.length_append,List.length_cons,List.length_nil];omega
  go_wp2_with fail;refine(eT D X4 (⟨#[103,97,112]⟩:ByteArray) (lX n l) ⟨by omega,by omega⟩ _ L4 (hp.keep B4) aI).mono ?_;rintro e w5 ⟨rfl,L5,b5⟩;have B5:=B4.after b5 aI;have K5:=bU K4 b5 aI;clear B4 K4 L4 b5;obtain⟨X5,d0⟩:=aN (X4++[(⟨#[103,97,112]⟩:ByteArray),bM (lX n l)]);rw[<-d0]at L5;have r1:X5.length<=4:=by rw[d0];simp only[List.length_append,List.length_cons,List.length_nil];omega
  have G:=K5.cell;go_wp2_with fail;clear G;refine(abS _ n _ l (z.below B5 aK) hl).mono ?_;rintro e w6 ⟨pM,iM,qM,rfl,oM,b6⟩;have B6:=B5.after b6 B5.size;have K6:=K5.keep b6;have L6:=L5.keep b6;clear B5 K5 L5;clear b6;have rM:=oM.ints.inR;go_wp2_with fail;refine(kU D X5 (⟨#[109,97,115,115,101,115]⟩:ByteArray) _ (fL n l) _ oM.ints aI L6 (hp.keep B6) aI).mono ?_;rintro e w7 ⟨rfl,L7,b7⟩;have B7:=B6.after b7 aI;have K7:=bU K6 b7 aI;clear B6 K6 L6 b7;clear oM;obtain⟨X7,d5⟩:=aN (X5++[(⟨#[109,97,115,115,101,115]⟩:ByteArray),eU (fL n l)]);rw[<-d5]at L7;have r2:X7.length<=6:=by rw[d5];simp only[List.length_append,List.length_cons,List.length_nil];omega
  have G:=K7.cell;go_wp2_with fail;clear G;refine(ag1 _ n _ l (z.below B7 aK) hl).mono ?_;rintro e w8 ⟨pS,iS,qS,rfl,oS,b8⟩;have B8:=B7.after b8 B7.size;have K8:=K7.keep b8;have L8:=L7.keep b8;clear B7 K7 L7;clear b8;have rS:=oS.ints.inR;go_wp2_with fail;refine(kU D X7 (⟨#[115,104,97,112,108,101,121]⟩:ByteArray) _ (jA n l) _ oS.ints aI L8 (hp.keep B8) aI).mono ?_;rintro e w9 ⟨rfl,L9,b9⟩;have B9:=B8.after b9 aI;have K9:=bU K8 b9 aI;clear B8 K8 L8 b9;clear oS;obtain⟨X9,d6⟩:=aN (X7++[(⟨#[115,104,97,112,108,101,121]⟩:ByteArray),eU (jA n l)]);rw[<-d6]at L9;have r3:X9.length<=8:=by rw[d6];simp only[List.length_append,List.length_cons,List.length_nil];omega
  have G:=K9.cell;go_wp2_with fail;clear G;refine(sA n l _ _ (z.below B9 aK) hl).mono ?_;rintro e s2 ⟨rfl,a8⟩;have g9:=B9.after a8 B9.size;have i7:=K9.keep a8;have j5:=L9.keep a8;clear B9 K9 L9;clear a8;go_wp2_with fail;refine(fV D X9 (⟨#[115,117,98,109,111,100,117,108,97,114]⟩:ByteArray) (gO n l) _ j5 aI).mono ?_;rintro e s3 ⟨rfl,e8,g2⟩;have S:=g9.after g2 aI;have d9:=bU i7 g2 aI;clear g9 i7 j5 g2;obtain⟨f5,F⟩:=aN (X9++dY (gO n l) (⟨#[115,117,98,109,111,100,117,108,97,114]⟩:ByteArray));rw[<-F]at e8;have p8:f5.length<=9:=by rw[F];rw[List.length_append];have:=cQ (gO n l) (⟨#[115,117,98,109,111,100,117,108,97,114]⟩:ByteArray);omega
  have G:=d9.cell;go_wp2_with fail;clear G;refine(ae6 n l _ _ (z.below S aK) hl).mono ?_;rintro e s4 ⟨rfl,a9⟩;have h0:=S.after a9 S.size;have i8:=d9.keep a9;have j6:=e8.keep a9;clear S d9 e8;clear a9;go_wp2_with fail;refine(fV D f5 (⟨#[115,117,112,101,114,109,111,100,117,108,97,114]⟩:ByteArray) (sO n l) _ j6 aI).mono ?_;rintro e s5 ⟨rfl,e9,g3⟩;have Y:=h0.after g3 aI;have e0:=bU i8 g3 aI;clear h0 i8 j6 g3;obtain⟨f6,I⟩:=aN (f5++dY (sO n l) (⟨#[115,117,112,101,114,109,111,100,117,108,97,114]⟩:ByteArray));rw[<-I]at e9;have p9:f6.length<=10:=by rw[I];rw[List.length_append];have:=cQ (sO n l) (⟨#[115,117,112,101,114,109,111,100,117,108,97,114]⟩:ByteArray);omega
  have G:=e0.cell;go_wp2_with fail;clear G;refine(SG n l _ _ (z.below Y aK)).mono ?_;rintro e s6 ⟨rfl,b0⟩;have h5:=Y.after b0 Y.size;have j0:=e0.keep b0;have j7:=e9.keep b0;clear Y e0 e9;clear b0;go_wp2_with fail;refine(fV D f6 (⟨#[105,110,99,114,101,97,115,105,110,103]⟩:ByteArray) (mK n l) _ j7 aI).mono ?_;rintro e s7 ⟨rfl,f0,g4⟩;have Z:=h5.after g4 aI;have e4:=bU j0 g4 aI;clear h5 j0 j7 g4;obtain⟨f7,J⟩:=aN (f6++dY (mK n l) (⟨#[105,110,99,114,101,97,115,105,110,103]⟩:ByteArray));rw[<-J]at f0;have q0:f7.length<=11:=by rw[J];rw[List.length_append];have:=cQ (mK n l) (⟨#[105,110,99,114,101,97,115,105,110,103]⟩:ByteArray);omega
  have G:=e4.cell;go_wp2_with fail;clear G;refine(yU n l _ _ (z.below Z aK)).mono ?_;rintro e s8 ⟨rfl,c5⟩;have h6:=Z.after c5 Z.size;have j1:=e4.keep c5;have j8:=f0.keep c5;clear Z e4 f0;clear c5;go_wp2_with fail;refine(fV D f7 (⟨#[103,114,111,117,110,100,101,100]⟩:ByteArray) (fZ n l) _ j8 aI).mono ?_;rintro e s9 ⟨rfl,f2,g5⟩;have a1:=h6.after g5 aI;have e5:=bU j1 g5 aI;clear h6 j1 j8 g5;obtain⟨f8,M⟩:=aN (f7++dY (fZ n l) (⟨#[103,114,111,117,110,100,101,100]⟩:ByteArray));rw[<-M]at f2;have q1:f8.length<=12:=by rw[M];rw[List.length_append];have:=cQ (fZ n l) (⟨#[103,114,111,117,110,100,101,100]⟩:ByteArray);omega
  have G:=e5.cell;go_wp2_with fail;clear G;refine(UA n l _ _ (z.below a1 aK) hl).mono ?_;rintro e t1 ⟨rfl,c6⟩;have h7:=a1.after c6 a1.size;have j2:=e5.keep c6;have j9:=f2.keep c6;clear a1 e5 f2;clear c6;go_wp2_with fail;refine(fV D f8 (⟨#[115,121,109,109,101,116,114,105,99]⟩:ByteArray) (pK n l) _ j9 aI).mono ?_;rintro e t6 ⟨rfl,f3,g6⟩;have a6:=h7.after g6 aI;have e6:=bU j2 g6 aI;clear h7 j2 j9 g6;obtain⟨f9,N⟩:=aN (f8++dY (pK n l) (⟨#[115,121,109,109,101,116,114,105,99]⟩:ByteArray));rw[<-N]at f3;have q2:f9.length<=13:=by rw[N];rw[List.length_append];have:=cQ (pK n l) (⟨#[115,121,109,109,101,116,114,105,99]⟩:ByteArray);omega
  have G:=e6.cell;go_wp2_with fail;clear G;refine(uB n l _ _ (z.below a6 aK) hl).mono ?_;rintro e t7 ⟨rfl,c7⟩;have h9:=a6.after c7 a6.size;have j3:=e6.keep c7;have k0:=f3.keep c7;clear a6 e6 f3;clear c7;go_wp2_with fail;refine(fV D f9 (⟨#[112,111,108,121,109,97,116,114,111,105,100]⟩:ByteArray) (eR n l) _ k0 aI).mono ?_;rintro e t8 ⟨rfl,f4,g7⟩;have a7:=h9.after g7 aI;have e7:=bU j3 g7 aI;clear h9 j3 k0 g7;obtain⟨g0,O⟩:=aN (f9++dY (eR n l) (⟨#[112,111,108,121,109,97,116,114,111,105,100]⟩:ByteArray));rw[<-O]at f4;have q3:g0.length<=14:=by rw[O];rw[List.length_append];have:=cQ (eR n l) (⟨#[112,111,108,121,109,97,116,114,111,105,100]⟩:ByteArray);omega
  have G:=e7.cell;go_wp2_with fail;clear G;refine(lN n l _ _ (z.below a7 aK) hl).mono ?_;rintro e t9 ⟨rfl,c8⟩;have i1:=a7.after c8 a7.size;have j4:=e7.keep c8;have k1:=f4.keep c8;clear a7 e7 f4;clear c8;go_wp2_with fail;refine(fV D g0 (⟨#[109,97,116,114,111,105,100]⟩:ByteArray) (dE n l) _ k1 aI).mono ?_;rintro e u0 ⟨rfl,k2,g8⟩;have i6:=i1.after g8 aI;have q8:=bU j4 g8 aI;clear i1 j4 k1 g8;obtain⟨g1,R⟩:=aN (g0++dY (dE n l) (⟨#[109,97,116,114,111,105,100]⟩:ByteArray));rw[<-R]at k2;have q4:g1.length<=15:=by rw[R];rw[List.length_append];have:=cQ (dE n l) (⟨#[109,97,116,114,111,105,100]⟩:ByteArray);omega
  have hT:bZ eD g1=uN n l:=by rw[HX.out,R,O,N,M,J,I,F,d6,d5,d0,c9];rfl
  have hz:=YS n l rM rS;rw[<-hT]at hz;have HT:=aJ hT;clear hT c9 d0 d5 d6 F I J M N O R;obtain⟨lv,KL,oL⟩:=k2;have G:=KL.cell;have zL:=KL.lt;go_wp2_with fail;clear G;refine(dM (D+1) lv g1 _ oL aI aI).mono ?_;rintro e wz ⟨rfl,bz⟩;go_wp2;go_ret;exact⟨bX HT.out,i6.after bz i6.size⟩
theorem ad0(w:World)(n:Int)(v:Value)(l:List Int)(hv:aO w v l):
  Calls prog 53 #[.agg #[n,v]] w fun e w'=>e=.returned (.tuple #[(lX n l),.bool (bH n l)])/\Below w w w':=by
 have a8:=hv;obtain⟨a,c,rfl⟩:=hv.shape;have K0:=aR.new w 26 #[n,ajH a l.length c]
 cases hf:bH n l with
 |false=>
  have hg:lX n l=0:=by unfold lX;rw[hf];rfl
  have HG:=aJ hg;have HF:=aJ hf;clear hg hf;go_enter func53,ntmps53;go_wp2_with (go_at_call 51;refine(dG n l _ _ (a8.alloc _)).mono ?_;rintro e w1 ⟨rfl,S⟩;rw[HF.out]);go_ret2;exact⟨by rw[HG.out];rfl,(aY _ _).after S (by simp)⟩
 |true=>
  obtain⟨N,rfl,f9,Z,j1,D⟩:=cU hf;have b8:lX (N:Int) l=gA ((sP N l.length).map (wD l)) 0:=by unfold lX;rw[hf,if_pos rfl,Int.toNat_natCast,abA,Z]
  have b7:∀s i,s<2^N->i<N->∀k,k<N->-4000<=kJ l s i k/\kJ l s i k<=4000:=fun s i Y hi k hk=>RH N l Z D s i k Y hi hk;have HG:=aJ b8;have HF:=aJ hf;have f3:=aJ Z;have f4:=aJ D;have k2:=aJ b7;clear b8 hf Z D b7;go_enter func53,ntmps53;go_wp2_with fail;refine(dG N l _ _ (a8.alloc _)).mono ?_;rintro e w1 ⟨rfl,S⟩;rw[HF.out];have K1:=K0.keep S;have B1:Below w w w1:=(aY _ _).after S (by simp);have G1:=K1.cell;clear K0 S;have d7:=a8.below B1 aK;obtain⟨av,b,k9,cv,g6,c6,F,hc,hb⟩:=d7.view prog 24 3 underlying24 aP;injection g6 with e1 _ e3;subst e1 e3;have HC:=aJ hc;have f2:=aJ F;clear hc F c6 d7;go_wp2_with fail;go_loopw [4,6] (fun nv sv wr=>∃s:Nat,s<=l.length/\sv=ajJ s/\nv=ajJ (gA ((sP N s).map (wD l)) 0)/\Below w1 w1 wr) (fun _ sv _=>l.length-(intOf sv).toNat)
  case atStart=>exact⟨0,Nat.zero_le _,rfl,rfl,Below.refl _ _⟩
  case round=>
   obtain⟨s,Y,rfl,rfl,B⟩:=hrel;obtain⟨wo,rfl⟩:∃wo:World,wo=wr:=⟨_,rfl⟩;have K:=K1.keep B;have G:=K.cell;clear G1;obtain⟨M,R⟩:=aN (gA ((sP N s).map (wD l)) 0);rw[<-R];have O:=aJ R;clear R;by_cases g5:s<l.length
   ·have c8:(s:Int)<(l.length:Int):=aI;go_wp2_with fail;go_loopw [4,7] (fun nv iv wr=>∃i:Nat,i<=N/\iv=ajJ i/\nv=ajJ (gA ((sP N s++uU s i).map (wD l)) 0)/\Below w1 w1 wr) (fun _ iv _=>N-(intOf iv).toNat)
    case atStart=>exact⟨0,Nat.zero_le _,rfl,by rw[show uU s 0=[] from rfl,List.append_nil,O.out],B⟩
    case round=>
     obtain⟨i,hi,rfl,rfl,B2⟩:=hrel;obtain⟨wi,rfl⟩:∃wo:World,wo=wr:=⟨_,rfl⟩;have K2:=K1.keep B2;have G2:=K2.cell;clear G K O B;obtain⟨M2,R⟩:=aN (gA ((sP N s++uU s i).map (wD l)) 0);rw[<-R];have O:=aJ R;clear R;by_cases g3:i<N
     ·have b9:(i:Int)<(N:Int):=aI;go_wp2_with fail;go_loopw [4,8] (fun nv kv wr=>∃k:Nat,k<=i/\kv=ajJ k/\nv=ajJ (gA (((sP N s++uU s i)++CA s i k).map (wD l)) 0)/\Below w1 w1 wr) (fun _ kv _=>i-(intOf kv).toNat)
      case atStart=>exact⟨0,Nat.zero_le _,rfl,by rw[show CA s i 0=[] from rfl,List.append_nil,O.out],B2⟩
      case round=>
       obtain⟨k,hk,rfl,rfl,B3⟩:=hrel;obtain⟨wk,rfl⟩:∃wo:World,wo=wr:=⟨_,rfl⟩;clear G2 K2 O B2;obtain⟨M3,R⟩:=aN (gA (((sP N s++uU s i)++CA s i k).map (wD l)) 0);rw[<-R];have O:=aJ R;clear R;by_cases k6:k<i
       ·have c5:(k:Int)<(i:Int):=aI;have c9:CA s i (k+1)=CA s i k++(if (!cZ s i&&!cZ s k) then [(s,i,k)] else []):=rfl;have a1:=aJ c9;have g0:=jL (s:Int) i aI aI;have g1:=jL (s:Int) k aI aI;have I:=vR s i;have J:=vR s k;obtain⟨y,hy⟩:=aN (dL (s:Int) i);obtain⟨z,hz⟩:=aN (dL (s:Int) k);rw[<-hy]at g0 I;rw[<-hz]at g1 J;clear hy hz c9
        cases h1:cZ s i with
        |true=>
         have g7:(y==0)=false:=by rw[I,h1];rfl
         have H1:=aJ h1;clear h1 I J;go_wp2;go_roundw
         case rel=>exact⟨k+1,by omega,by go_num,by rw[a1.out,H1.out,O.out];simp,B3⟩
         case measure=>simp[intOf];omega
        |false=>
         have g7:(y==0)=true:=by rw[I,h1];rfl
         cases h2:cZ s k with
         |true=>
          have g8:(z==0)=false:=by rw[J,h2];rfl
          have H2:=aJ h2;clear h1 h2 I J;go_wp2;go_roundw
          case rel=>exact⟨k+1,by omega,by go_num,by rw[a1.out,H2.out,O.out];simp,B3⟩
          case measure=>simp[intOf];omega
         |false=>
          have g8:(z==0)=true:=by rw[J,h2];rfl
          have a7:gA (((sP N s++uU s i)++CA s i (k+1)).map (wD l)) 0=max M3 (kJ l s i k):=by rw[a1.out,h1,h2,O.out,<-List.append_assoc,List.map_append];exact ZJ _ _ _
          have hl:=f3.out;have D:=f4.out;have hc:=aT HC.out hb B3 aK;have F:=f2.out;have hn:=f9;have Y:s<2^N:=by rw[<-hl];exact g5
          have hi:=g3;have hk:k<N:=aI;have h1:=eM s i N Y hi;have h2:=eM s k N Y hk;have h3:=eM (bO s i) k N h1 hk;rw[<-nZ]at h3;have p5:(2:Nat)^N<=32:=Nat.pow_le_pow_right (n:=2) aV hn;rw[<-hl]at h1 h2 h3 Y p5;have c0:=hc s Y;have c1:=hc _ h1;have c2:=hc _ h2;have c3:=hc _ h3;have i0:=fun W=>F W s Y;have i1:=fun W=>F W _ h1;have i2:=fun W=>F W _ h2;have i3:=fun W=>F W _ h3;have b0:=D s Y;have b1:=D _ h1;have b2:=D _ h2;have b3:=D _ h3;have hex:kJ l s i k=l[bO s i ||| bO s k]+l[s]-l[bO s i]-l[bO s k]:=by unfold kJ;rw[aU l _ h3,aU l _ Y,aU l _ h1,aU l _ h2]
          have q1:=fW s i aI aI;have q2:=fW s k aI aI;have q3:=IN (bO s i) (bO s k) aI aI;have q4:=fW (bO s i) k aI aI;rw[<-nZ]at q4;obtain⟨u1,d0⟩:=aN (bO s i);obtain⟨u2,d5⟩:=aN (bO s k);simp only[<-d0,<-d5]at c1 c2 c3 i1 i2 i3 b1 b2 b3 hex q1 q2 q3 q4 h1 h2 h3;obtain⟨u3,d6⟩:=aN (u1 ||| u2);simp only[<-d6]at c3 i3 b3 hex q3 q4 h3;obtain⟨x0,d8⟩:=aN (l[s]);obtain⟨x1,d9⟩:=aN (l[u1]);obtain⟨x2,e0⟩:=aN (l[u2]);obtain⟨x3,e4⟩:=aN (l[u3]);rw[<-d8]at c0 b0 hex;rw[<-d9]at c1 b1 hex;rw[<-e0]at c2 b2 hex;rw[<-e4]at c3 b3 hex;have pi:=cK i 6 aI;have pk:=cK k 6 aI;have l1:(2:Int)^i<=64:=by simpa using pi.1
          have l3:(2:Int)^k<=64:=by simpa using pk.1
          have l2:=pi.2;have l4:=pk.2;have wi:IntKind.i64.wrap ((2:Int)^i)=2^i:=by rw[IntKind.wrap_i64];omega
          have wk:IntKind.i64.wrap ((2:Int)^k)=2^k:=by rw[IntKind.wrap_i64];omega
          have l8:IntKind.i64.wrap (x3+x0)=x3+x0:=by rw[IntKind.wrap_i64];omega
          have l9:IntKind.i64.wrap (x3+x0-x1)=x3+x0-x1:=by rw[IntKind.wrap_i64];omega
          have m1:IntKind.i64.wrap (x3+x0-x1-x2)=x3+x0-x1-x2:=by rw[IntKind.wrap_i64];omega
          have z0:(0:Int)<=(s:Int):=aI;rw[hex]at a7;have f6:=aJ a7;clear F D hex d0 d5 d6 d8 d9 e0 e4 pi pk q3 hc hl a7 h1 h2 I J;go_wp2_with fail;go_quiet (fail);go_wp2;go_roundw
          case rel=>exact⟨k+1,by omega,by go_num,by rw[f6.out],B3.drewN' _⟩
          case measure=>simp[intOf];omega
       ·have c5:¬(k:Int)<(i:Int):=aI;have g4:k=i:=aI;subst g4;go_wp2;go_roundw
        case rel=>exact⟨k+1,by omega,by go_num,by rw[show uU s (k+1)=uU s k++CA s k k from rfl,<-List.append_assoc,O.out],B3⟩
        case measure=>simp[intOf];omega
     ·have b9:¬(i:Int)<(N:Int):=aI;have g2:i=N:=aI;subst g2;go_wp2;go_roundw
      case rel=>exact⟨s+1,by omega,by go_num,by rw[show sP i (s+1)=sP i s++uU s i from rfl,O.out],B2⟩
      case measure=>simp[intOf];omega
   ·have c8:¬(s:Int)<(l.length:Int):=aI;have c7:s=l.length:=aI;have b6:M=lX (N:Int) l:=by rw[HG.out,O.out,c7]
    have f5:=aJ b6;clear c7 b6;go_wp2;go_ret2;exact⟨by rw[f5.out];rfl,B1.after B B1.size⟩
theorem kI(b:Bool)(x:ByteArray)(w:World):
  Calls prog 58 #[.bool b,.string x] w fun e w'=>e=.returned (.string (jI b x))/\w=w':=by
 cases b
 ·go_enter func58,ntmps58;go_wp2;go_ret;exact⟨rfl,rfl⟩
 ·go_enter func58,ntmps58;go_wp2;go_ret;exact⟨rfl,rfl⟩
theorem aa7(w:World)(n:Int)(v:Value)(l:List Int)(hv:aO w v l)(hl:l.length<=1048576):
  Calls prog 13 #[.agg #[n,v]] w fun e w'=>e=.returned (.string (uN n l))/\Below w w w':=by
 have a8:=hv;obtain⟨a,c,rfl⟩:=hv.shape;have K0:=aR.new w 26 #[n,ajH a l.length c]
 cases hf:bH n l with
 |false=>
  have hx:uN n l=ByteArray.empty:=by unfold uN;rw[hf];rfl
  have HX:=aJ hx;have HF:=aJ hf;clear hx hf;go_enter func13,ntmps13;go_wp2_with fail;refine(dG n l _ _ (a8.alloc _)).mono ?_;rintro e w1 ⟨rfl,b1⟩;rw[HF.out];go_wp2;go_ret;exact⟨bX HX.out.symm,(aY _ _).after b1 (by simp)⟩
 |true=>
  have hx:=JC hf;rw[show eD=dP from rfl,NW]at hx;have l4:=xT hf;have l5:=BN hf;have f8:=MM n l;have f9:=JD n l;have d7:=cT (lX n l) ⟨by omega,by omega⟩;obtain⟨F,hF⟩:=aN (mB n l);obtain⟨g,hg⟩:=aN (lX n l);obtain⟨N,hN⟩:=aN (bM g);rw[<-hF,<-hg]at hx;rw[<-hF]at f9;rw[<-hg]at f8 d7;rw[<-hN]at d7 hx;have HX:=aJ hx;have HF:=aJ hf;have a6:=fun(W:World) (h:aO W (ajH a l.length c) l)=>U2 n l _ W h;have a7:=fun(W:World) (h:aO W (ajH a l.length c) l)=>ad0 W n _ l h;rw[<-hF]at a6;rw[<-hg]at a7;have e5:=aJ a6;have e6:=aJ a7;have j7:=aJ hN;clear hx hf hF hg a6 a7 hN;go_enter func13,ntmps13;go_wp2_with fail;refine(dG n l _ _ (a8.alloc _)).mono ?_;rintro e w1 ⟨rfl,b1⟩;rw[HF.out];have B:Below w w w1:=(aY _ _).after b1 (by simp);have K:=K0.keep b1;clear K0 b1;have G:=K.cell;go_wp2_with fail;refine(e5.out _ (a8.below B aK)).mono ?_;rintro e w2 ⟨rfl,b2⟩;have B:=B.after b2 B.size;have K:=K.keep b2;clear G b2;have G:=K.cell;go_wp2_with fail;refine(e6.out _ (a8.below B aK)).mono ?_;rintro e w3 ⟨rfl,b3⟩;have B:=B.after b3 B.size;have K:=K.keep b3;have a9:=a8.below B aK;clear G b3 e5 e6;have G:=K.cell;have g0:=G 0;have g1:=G 1;simp only[List.getElem?_toArray,List.getElem?_cons_zero,List.getElem?_cons_succ]at g0 g1;clear G;go_upto_region 5 with fail;go_cut [3] (fun v wx=>∃X,v=.string X/\X=xE F N (eU (fL n l)) (eU (jA n l))/\X.size<=4100/\Below w3 w3 wx)
  case rest=>
   obtain⟨X,rfl,hX,o0,b4⟩:=hcut;have D:=a9.keep b4;have K2:=K.keep b4;have B2:=B.after b4 B.size;have k8:=aJ hX;have G:=K2.cell;have g0:=G 0;have g1:=G 1;simp only[List.getElem?_toArray,List.getElem?_cons_zero,List.getElem?_cons_succ]at g0 g1;clear G hX;have q0:∀y:Ext wc,y.w.cell? ⟨w.heap.size,0,none⟩=some (ajJ n):=fun y=>y.cell g0;have q1:∀y:Ext wc,y.w.cell? ⟨w.heap.size,1,none⟩=some (ajH a l.length c):=fun y=>y.cell g1;have Q0:=fun y:Ext wc=>sB n l _ y.w ((D.keep y.b)) hl;have Q1:=fun y:Ext wc=>ae7 n l _ y.w ((D.keep y.b)) hl;have Q2:=fun y:Ext wc=>SH n l _ y.w ((D.keep y.b));have Q3:=fun y:Ext wc=>yW n l _ y.w ((D.keep y.b));have Q4:=fun y:Ext wc=>UB n l _ y.w ((D.keep y.b)) hl;have Q5:=fun y:Ext wc=>mS n l _ y.w ((D.keep y.b)) hl;have Q6:=fun y:Ext wc=>lO n l _ y.w ((D.keep y.b)) hl;obtain⟨e8,I⟩:=aN (gO n l);rw[<-I]at Q0;obtain⟨e9,J⟩:=aN (sO n l);rw[<-J]at Q1;obtain⟨f0,O⟩:=aN (mK n l);rw[<-O]at Q2;obtain⟨f2,R⟩:=aN (fZ n l);rw[<-R]at Q3;obtain⟨f3,Y⟩:=aN (pK n l);rw[<-Y]at Q4;obtain⟨f4,Z⟩:=aN (eR n l);rw[<-Z]at Q5;obtain⟨f5,a1⟩:=aN (dE n l);rw[<-a1]at Q6;have j3:=aJ (And.intro I (And.intro J (And.intro O (And.intro R (And.intro Y (And.intro Z a1))))));have Q0:=aJ Q0;have Q1:=aJ Q1;have Q2:=aJ Q2;have Q3:=aJ Q3;have Q4:=aJ Q4;have Q5:=aJ Q5;have Q6:=aJ Q6;obtain⟨t0,b6⟩:=aN (jI e8 (⟨#[32,115,117,98,109,111,100,117,108,97,114]⟩:ByteArray));have Y0:=fun y:Ext wc=>kI e8 (⟨#[32,115,117,98,109,111,100,117,108,97,114]⟩:ByteArray) y.w;rw[<-b6]at Y0;have Y0:=aJ Y0;have z0:t0.size<=14:=by rw[b6];exact Nat.le_trans (dU _ _) aV
   obtain⟨t1,b7⟩:=aN (jI e9 (⟨#[32,115,117,112,101,114,109,111,100,117,108,97,114]⟩:ByteArray));have Y1:=fun y:Ext wc=>kI e9 (⟨#[32,115,117,112,101,114,109,111,100,117,108,97,114]⟩:ByteArray) y.w;rw[<-b7]at Y1;have Y1:=aJ Y1;have z1:t1.size<=14:=by rw[b7];exact Nat.le_trans (dU _ _) aV
   obtain⟨t2,b8⟩:=aN (jI f0 (⟨#[32,105,110,99,114,101,97,115,105,110,103]⟩:ByteArray));have Y2:=fun y:Ext wc=>kI f0 (⟨#[32,105,110,99,114,101,97,115,105,110,103]⟩:ByteArray) y.w;rw[<-b8]at Y2;have Y2:=aJ Y2;have z2:t2.size<=14:=by rw[b8];exact Nat.le_trans (dU _ _) aV
   obtain⟨t3,b9⟩:=aN (jI f2 (⟨#[32,103,114,111,117,110,100,101,100]⟩:ByteArray));have Y3:=fun y:Ext wc=>kI f2 (⟨#[32,103,114,111,117,110,100,101,100]⟩:ByteArray) y.w;rw[<-b9]at Y3;have Y3:=aJ Y3;have z3:t3.size<=14:=by rw[b9];exact Nat.le_trans (dU _ _) aV
   obtain⟨t4,c5⟩:=aN (jI f3 (⟨#[32,115,121,109,109,101,116,114,105,99]⟩:ByteArray));have Y4:=fun y:Ext wc=>kI f3 (⟨#[32,115,121,109,109,101,116,114,105,99]⟩:ByteArray) y.w;rw[<-c5]at Y4;have Y4:=aJ Y4;have z4:t4.size<=14:=by rw[c5];exact Nat.le_trans (dU _ _) aV
   obtain⟨t5,c6⟩:=aN (jI f4 (⟨#[32,112,111,108,121,109,97,116,114,111,105,100]⟩:ByteArray));have Y5:=fun y:Ext wc=>kI f4 (⟨#[32,112,111,108,121,109,97,116,114,111,105,100]⟩:ByteArray) y.w;rw[<-c6]at Y5;have Y5:=aJ Y5;have z5:t5.size<=14:=by rw[c6];exact Nat.le_trans (dU _ _) aV
   obtain⟨t6,c7⟩:=aN (jI f5 (⟨#[32,109,97,116,114,111,105,100]⟩:ByteArray));have Y6:=fun y:Ext wc=>kI f5 (⟨#[32,109,97,116,114,111,105,100]⟩:ByteArray) y.w;rw[<-c7]at Y6;have Y6:=aJ Y6;have z6:t6.size<=14:=by rw[c7];exact Nat.le_trans (dU _ _) aV
   have j9:=aJ (And.intro b6 (And.intro b7 (And.intro b8 (And.intro b9 (And.intro c5 (And.intro c6 c7))))));clear g0 g1 I J O R Y Z a1 b6 b7 b8 b9 c5 c6 c7 a9 D K2 l4 l5 f8 f9 d7 K;have s0:(X++t0).size<=4114:=by simp only[ByteArray.size_append];omega
   have s1:(X++t0++t1).size<=4128:=by simp only[ByteArray.size_append];omega
   have s2:(X++t0++t1++t2).size<=4142:=by simp only[ByteArray.size_append];omega
   have s3:(X++t0++t1++t2++t3).size<=4156:=by simp only[ByteArray.size_append];omega
   have s4:(X++t0++t1++t2++t3++t4).size<=4170:=by simp only[ByteArray.size_append];omega
   have s5:(X++t0++t1++t2++t3++t4++t5).size<=4184:=by simp only[ByteArray.size_append];omega
   have s6:(X++t0++t1++t2++t3++t4++t5++t6).size<=4198:=by simp only[ByteArray.size_append];omega
   go_wp2_with fail;refine bJ _ aQ aQ ?_
   repeat(first|go_big_quiet_skip|(go_big_quiet_want;go_big_quiet_op;first|go_big_quiet_on|(apply Exists.intro;refine⟨fun _=>?_,?_⟩;(first|(go_at_call 59;with_reducible exact bK (Q0.out _))|(go_at_call 60;with_reducible exact bK (Q1.out _))|(go_at_call 61;with_reducible exact bK (Q2.out _))|(go_at_call 62;with_reducible exact bK (Q3.out _))|(go_at_call 63;with_reducible exact bK (Q4.out _))|(go_at_call 64;with_reducible exact bK (Q5.out _))|(go_at_call 65;with_reducible exact bK (Q6.out _))|(go_at_call 58;first|(with_reducible exact cO (Y0.out _))|(with_reducible exact cO (Y1.out _))|(with_reducible exact cO (Y2.out _))|(with_reducible exact cO (Y3.out _))|(with_reducible exact cO (Y4.out _))|(with_reducible exact cO (Y5.out _))|(with_reducible exact cO (Y6.out _))));go_big_quiet_on)))
   refine wpQuiet_nil ?_;rintro w5 ⟨⟨w5,b5⟩,rfl⟩
   try dsimp only
   go_wp2_with fail;go_ret;refine⟨bX ?_,B2.after b5 B2.size⟩;obtain⟨h0,h1,h2,h3,h4,h5,h6⟩:=j3.out;obtain⟨k0,k1,k2,k3,k4,k5,k6⟩:=j9.out;rw[HX.out,<-h0,<-h1,<-h2,<-h3,<-h4,<-h5,<-h6,k0,k1,k2,k3,k4,k5,k6,k8.out]
   rfl
  case first=>
   have q0:∀y:Ext w3,y.w.cell? ⟨w.heap.size,0,none⟩=some (ajJ n):=fun y=>y.cell g0;have q1:∀y:Ext w3,y.w.cell? ⟨w.heap.size,1,none⟩=some (ajH a l.length c):=fun y=>y.cell g1;have d6:=fun W:World=>fU g ⟨by omega,by omega⟩ W;rw[<-j7.out]at d6;have j5:=aJ d6;have o3:aO w3.drew (ajH a l.length c) l:=a9.drew';clear d6 g0 g1;refine CC (C:=fun w'=>∃x:Ext w3,w'=x.w) aQ aQ aQ ⟨⟨w3.drew,(Below.refl _ _).drew⟩,rfl⟩ ?_;have bd:Below w3 w3 w3.drew:=(Below.refl _ _).drew
   repeat(refine gG (by rfl) ?_;(first|go_big_quiet_skip|(go_big_quiet_want;go_big_quiet_op;go_big_quiet_on));refine wpQuiet_nil ?_)
   refine gY 54 _ _ rfl (enters_of func54 aQ rfl) aQ ?_;intro KK z;go_simp;refine(j5.out _).mono ?_;rintro e wa ⟨rfl,ba⟩;have ba:=bd.after ba bd.size;refine⟨_,rfl,?_⟩;go_simp;refine z _ _ ⟨⟨wa,ba⟩,rfl⟩ ?_;clear z KK
   repeat(refine gG (by rfl) ?_;(first|go_big_quiet_skip|(go_big_quiet_want;go_big_quiet_op;go_big_quiet_on));refine wpQuiet_nil ?_)
   refine gY 56 _ _ rfl (enters_of func56 aQ rfl) aQ ?_;intro KK z;go_simp;refine(abT wa n _ l (a9.keep ba) hl).mono ?_;rintro e wb ⟨p1,i1,r1,rfl,o1,bb⟩;have bb:=ba.after bb ba.size;have rM:=o1.ints.inR;have sM:(eU (fL n l)).size<=708:=by have:=lM _ rM;omega
   refine⟨_,rfl,?_⟩;go_simp;refine z _ _ ⟨⟨wb,bb⟩,rfl⟩ ?_;clear z KK
   repeat(refine gG (by rfl) ?_;(first|go_big_quiet_skip|(go_big_quiet_want;go_big_quiet_op;go_big_quiet_on));refine wpQuiet_nil ?_)
   refine gY 55 _ _ rfl (enters_of func55 aQ rfl) aQ ?_;intro KK z;go_simp;refine(vG (fL n l) _ wb o1.ints aI).mono ?_;rintro e wd ⟨rfl,bc⟩;have bc:=bb.after bc bb.size;obtain⟨M,hM⟩:=aN (eU (fL n l));rw[<-hM]at sM ⊢;have j6:=aJ hM;clear hM;refine⟨_,rfl,?_⟩;go_simp;refine z _ _ ⟨⟨wd,bc⟩,rfl⟩ ?_;clear z KK;have e0:(⟨#[102,117,110,99,116,105,111,110,32]⟩:ByteArray).size=9:=rfl;have e1:(⟨#[32,103,97,112,32]⟩:ByteArray).size=5:=rfl;have e2:(⟨#[32,109,97,115,115,101,115,32]⟩:ByteArray).size=8:=rfl;have e3:(⟨#[32,115,104,97,112,108,101,121,32]⟩:ByteArray).size=9:=rfl
   repeat(refine gG (by rfl) ?_;(first|go_big_quiet_skip|(go_big_quiet_want;go_big_quiet_op;go_big_quiet_on));refine wpQuiet_nil ?_)
   refine gY 57 _ _ rfl (enters_of func57 aQ rfl) aQ ?_;intro KK z;go_simp;refine(ag2 wd n _ l (a9.keep bc) hl).mono ?_;rintro e we ⟨p2,i2,r2,rfl,o2,be⟩;have be:=bc.after be bc.size;have rS:=o2.ints.inR;have sS:(eU (jA n l)).size<=708:=by have:=lM _ rS;omega
   refine⟨_,rfl,?_⟩;go_simp;refine z _ _ ⟨⟨we,be⟩,rfl⟩ ?_;clear z KK
   repeat(refine gG (by rfl) ?_;(first|go_big_quiet_skip|(go_big_quiet_want;go_big_quiet_op;go_big_quiet_on));refine wpQuiet_nil ?_)
   refine gY 55 _ _ rfl (enters_of func55 aQ rfl) aQ ?_;intro KK z;go_simp;refine(vG (jA n l) _ we o2.ints aI).mono ?_;rintro e wf ⟨rfl,bf⟩;have bf:=be.after bf be.size;obtain⟨S,hS⟩:=aN (eU (jA n l));rw[<-hS]at sS ⊢;have j8:=aJ hS;clear hS;refine⟨_,rfl,?_⟩;go_simp;refine z _ _ ⟨⟨wf,bf⟩,rfl⟩ ?_;clear z KK
   repeat(refine gG (by rfl) ?_;(first|go_big_quiet_skip|(go_big_quiet_want;go_big_quiet_op;go_big_quiet_on));refine wpQuiet_nil ?_)
   refine O0 ?_;go_wp2_with fail;go_meet;exact⟨_,rfl,by rw[j6.out,j8.out];rfl,CR F N M S aI aI aI aI,bf⟩
end
end Go.Proofs.YtcpoomdoodlkjaaGreatDoor
