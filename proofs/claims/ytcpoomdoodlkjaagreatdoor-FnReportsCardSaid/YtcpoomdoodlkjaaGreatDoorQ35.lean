/- Lemmas for CardReports. No condition. -/
import Derived.Test.YtcpoomdoodlkjaaGreatDoorQ17
import Derived.Test.YtcpoomdoodlkjaaGreatDoorQ34
set_option maxRecDepth 100000
set_option maxHeartbeats 64000000
namespace Go.Proofs.YtcpoomdoodlkjaaGreatDoor
section
open Go.RowKit Go.G5 Go.Proofs.Tryz
theorem abA(w:World)(n:Int)(v:Value)(l:List Int)(hv:aR w v l)(hl:l.length<=1048576)(hp:sV w):
  Calls prog 12 #[.agg #[n,v]] w fun e w'=>e=.returned (.string (uQ n l))/\Below w w w':=by
 have z:=hv;obtain⟨a,c,rfl⟩:=hv.shape;have K0:=aU.new w 26 #[n,aI a l.length c]
 cases hf:bM n l with
 |false=>
  have hx:uQ n l=ByteArray.empty:=by unfold uQ;rw[hf];rfl
  have HX:=aN hx;have HF:=aN hf;clear hx hf;go_enter func12,ntmps12;go_wp2_with fail;refine(dV n l _ _ (z.alloc _)).mono ?_;rintro e w1 ⟨rfl,b1⟩;rw[HF.out];go_wp2;go_ret;exact⟨cI HX.out.symm,(bF _ _).after b1 (by simp)⟩
 |true=>
  have hx:=JG hf;have HX:=aN hx;have r5:=xW hf;have r6:=BQ hf;have r4:=MQ n l;have HF:=aN hf;clear hx hf;go_enter func12,ntmps12;go_wp2_with fail;refine(dV n l _ _ (z.alloc _)).mono ?_;rintro e w1 ⟨rfl,b1⟩;rw[HF.out];have B:Below w w w1:=(bF _ _).after b1 (by simp);have K:=K0.keep b1;clear K0 b1;have G:=K.cell;go_wp2_with fail;refine(ad3 _ n _ l (z.below B aO)).mono ?_;rintro e w2 ⟨rfl,b2⟩;have B1:=B.after b2 B.size;have K1:=K.keep b2;clear B K G b2;obtain⟨D,d7⟩:=aQ w2.heap.size;have zb:w.heap.size<D:=by rw[d7];exact K1.lt
  have L1:gT D (w2.alloc (.cells #[()] 45)) []:=by rw[d7];exact gT.new w2
  have K2:=K1.alloc (.cells #[()] 45);have B2:=B1.alloc B1.size (.cells #[()] 45);have G1:=K2.cell;go_wp2_with fail;rw[<-d7];clear d7;clear G1;refine(U5 n l _ _ (z.below B2 aO) (hp.keep B2)).mono ?_;rintro e w3 ⟨rfl,b3⟩;have B3:=B2.after b3 B2.size;have K3:=K2.keep b3;have L3:=L1.keep b3;clear B2 K2 L1;clear b3;go_wp2_with fail;refine(dQ D [] [(⟨#[102,117,110,99,116,105,111,110]⟩:ByteArray),mE n l] w3.heap.size 2 2 _ (L3.keep (bF _ _)) rfl (fR (bB _ _ _ _ _ rfl) (bB _ _ _ _ _ rfl)) (by simp)).mono ?_;rintro e w4 ⟨rfl,L4,b4⟩;have B4:=(B3.alloc B3.size _).after b4 aK;have K4:=bY (K3.alloc _) b4 aK;clear B3 K3 L3 b4;obtain⟨X4,c9⟩:=aQ ([]++[(⟨#[102,117,110,99,116,105,111,110]⟩:ByteArray),mE n l]);rw[<-c9]at L4;have r0:X4.length<=2:=by rw[c9];simp only[List.length_append,List.length_cons,List.length_nil];omega
  go_wp2_with fail;refine(eW D X4 (⟨#[103,97,112]⟩:ByteArray) (mA n l) ⟨by omega,by omega⟩ _ L4 (hp.keep B4) aK).mono ?_;rintro e w5 ⟨rfl,L5,b5⟩;have B5:=B4.after b5 aK;have K5:=bY K4 b5 aK;clear B4 K4 L4 b5;obtain⟨X5,d0⟩:=aQ (X4++[(⟨#[103,97,112]⟩:ByteArray),bQ (mA n l)]);rw[<-d0]at L5;have r1:X5.length<=4:=by rw[d0];simp only[List.length_append,List.length_cons,List.length_nil];omega
  have G:=K5.cell;go_wp2_with fail;clear G;refine(abW _ n _ l (z.below B5 aO) hl).mono ?_;rintro e w6 ⟨pM,iM,qM,rfl,oM,b6⟩;have B6:=B5.after b6 B5.size;have K6:=K5.keep b6;have L6:=L5.keep b6;clear B5 K5 L5;clear b6;have rM:=oM.ints.inR;go_wp2_with fail;refine(kX D X5 (⟨#[109,97,115,115,101,115]⟩:ByteArray) _ (fO n l) _ oM.ints aK L6 (hp.keep B6) aK).mono ?_;rintro e w7 ⟨rfl,L7,b7⟩;have B7:=B6.after b7 aK;have K7:=bY K6 b7 aK;clear B6 K6 L6 b7;clear oM;obtain⟨X7,d5⟩:=aQ (X5++[(⟨#[109,97,115,115,101,115]⟩:ByteArray),eX (fO n l)]);rw[<-d5]at L7;have r2:X7.length<=6:=by rw[d5];simp only[List.length_append,List.length_cons,List.length_nil];omega
  have G:=K7.cell;go_wp2_with fail;clear G;refine(ag5 _ n _ l (z.below B7 aO) hl).mono ?_;rintro e w8 ⟨pS,iS,qS,rfl,oS,b8⟩;have B8:=B7.after b8 B7.size;have K8:=K7.keep b8;have L8:=L7.keep b8;clear B7 K7 L7;clear b8;have rS:=oS.ints.inR;go_wp2_with fail;refine(kX D X7 (⟨#[115,104,97,112,108,101,121]⟩:ByteArray) _ (jD n l) _ oS.ints aK L8 (hp.keep B8) aK).mono ?_;rintro e w9 ⟨rfl,L9,b9⟩;have B9:=B8.after b9 aK;have K9:=bY K8 b9 aK;clear B8 K8 L8 b9;clear oS;obtain⟨X9,d6⟩:=aQ (X7++[(⟨#[115,104,97,112,108,101,121]⟩:ByteArray),eX (jD n l)]);rw[<-d6]at L9;have r3:X9.length<=8:=by rw[d6];simp only[List.length_append,List.length_cons,List.length_nil];omega
  have G:=K9.cell;go_wp2_with fail;clear G;refine(sD n l _ _ (z.below B9 aO) hl).mono ?_;rintro e s2 ⟨rfl,a8⟩;have g9:=B9.after a8 B9.size;have i7:=K9.keep a8;have j5:=L9.keep a8;clear B9 K9 L9;clear a8;go_wp2_with fail;refine(fY D X9 (⟨#[115,117,98,109,111,100,117,108,97,114]⟩:ByteArray) (gR n l) _ j5 aK).mono ?_;rintro e s3 ⟨rfl,e8,g2⟩;have S:=g9.after g2 aK;have d9:=bY i7 g2 aK;clear g9 i7 j5 g2;obtain⟨f5,F⟩:=aQ (X9++eB (gR n l) (⟨#[115,117,98,109,111,100,117,108,97,114]⟩:ByteArray));rw[<-F]at e8;have p8:f5.length<=9:=by rw[F];rw[List.length_append];have:=cT (gR n l) (⟨#[115,117,98,109,111,100,117,108,97,114]⟩:ByteArray);omega
  have G:=d9.cell;go_wp2_with fail;clear G;refine(afA n l _ _ (z.below S aO) hl).mono ?_;rintro e s4 ⟨rfl,a9⟩;have h0:=S.after a9 S.size;have i8:=d9.keep a9;have j6:=e8.keep a9;clear S d9 e8;clear a9;go_wp2_with fail;refine(fY D f5 (⟨#[115,117,112,101,114,109,111,100,117,108,97,114]⟩:ByteArray) (sR n l) _ j6 aK).mono ?_;rintro e s5 ⟨rfl,e9,g3⟩;have Y:=h0.after g3 aK;have e0:=bY i8 g3 aK;clear h0 i8 j6 g3;obtain⟨f6,I⟩:=aQ (f5++eB (sR n l) (⟨#[115,117,112,101,114,109,111,100,117,108,97,114]⟩:ByteArray));rw[<-I]at e9;have p9:f6.length<=10:=by rw[I];rw[List.length_append];have:=cT (sR n l) (⟨#[115,117,112,101,114,109,111,100,117,108,97,114]⟩:ByteArray);omega
  have G:=e0.cell;go_wp2_with fail;clear G;refine(SK n l _ _ (z.below Y aO)).mono ?_;rintro e s6 ⟨rfl,b0⟩;have h5:=Y.after b0 Y.size;have j0:=e0.keep b0;have j7:=e9.keep b0;clear Y e0 e9;clear b0;go_wp2_with fail;refine(fY D f6 (⟨#[105,110,99,114,101,97,115,105,110,103]⟩:ByteArray) (mN n l) _ j7 aK).mono ?_;rintro e s7 ⟨rfl,f0,g4⟩;have Z:=h5.after g4 aK;have e4:=bY j0 g4 aK;clear h5 j0 j7 g4;obtain⟨f7,J⟩:=aQ (f6++eB (mN n l) (⟨#[105,110,99,114,101,97,115,105,110,103]⟩:ByteArray));rw[<-J]at f0;have q0:f7.length<=11:=by rw[J];rw[List.length_append];have:=cT (mN n l) (⟨#[105,110,99,114,101,97,115,105,110,103]⟩:ByteArray);omega
  have G:=e4.cell;go_wp2_with fail;clear G;refine(yY n l _ _ (z.below Z aO)).mono ?_;rintro e s8 ⟨rfl,c5⟩;have h6:=Z.after c5 Z.size;have j1:=e4.keep c5;have j8:=f0.keep c5;clear Z e4 f0;clear c5;go_wp2_with fail;refine(fY D f7 (⟨#[103,114,111,117,110,100,101,100]⟩:ByteArray) (gE n l) _ j8 aK).mono ?_;rintro e s9 ⟨rfl,f2,g5⟩;have a1:=h6.after g5 aK;have e5:=bY j1 g5 aK;clear h6 j1 j8 g5;obtain⟨f8,M⟩:=aQ (f7++eB (gE n l) (⟨#[103,114,111,117,110,100,101,100]⟩:ByteArray));rw[<-M]at f2;have q1:f8.length<=12:=by rw[M];rw[List.length_append];have:=cT (gE n l) (⟨#[103,114,111,117,110,100,101,100]⟩:ByteArray);omega
  have G:=e5.cell;go_wp2_with fail;clear G;refine(UE n l _ _ (z.below a1 aO) hl).mono ?_;rintro e t1 ⟨rfl,c6⟩;have h7:=a1.after c6 a1.size;have j2:=e5.keep c6;have j9:=f2.keep c6;clear a1 e5 f2;clear c6;go_wp2_with fail;refine(fY D f8 (⟨#[115,121,109,109,101,116,114,105,99]⟩:ByteArray) (pT n l) _ j9 aK).mono ?_;rintro e t6 ⟨rfl,f3,g6⟩;have a6:=h7.after g6 aK;have e6:=bY j2 g6 aK;clear h7 j2 j9 g6;obtain⟨f9,N⟩:=aQ (f8++eB (pT n l) (⟨#[115,121,109,109,101,116,114,105,99]⟩:ByteArray));rw[<-N]at f3;have q2:f9.length<=13:=by rw[N];rw[List.length_append];have:=cT (pT n l) (⟨#[115,121,109,109,101,116,114,105,99]⟩:ByteArray);omega
  have G:=e6.cell;go_wp2_with fail;clear G;refine(uE n l _ _ (z.below a6 aO) hl).mono ?_;rintro e t7 ⟨rfl,c7⟩;have h9:=a6.after c7 a6.size;have j3:=e6.keep c7;have k0:=f3.keep c7;clear a6 e6 f3;clear c7;go_wp2_with fail;refine(fY D f9 (⟨#[112,111,108,121,109,97,116,114,111,105,100]⟩:ByteArray) (eU n l) _ k0 aK).mono ?_;rintro e t8 ⟨rfl,f4,g7⟩;have a7:=h9.after g7 aK;have e7:=bY j3 g7 aK;clear h9 j3 k0 g7;obtain⟨g0,O⟩:=aQ (f9++eB (eU n l) (⟨#[112,111,108,121,109,97,116,114,111,105,100]⟩:ByteArray));rw[<-O]at f4;have q3:g0.length<=14:=by rw[O];rw[List.length_append];have:=cT (eU n l) (⟨#[112,111,108,121,109,97,116,114,111,105,100]⟩:ByteArray);omega
  have G:=e7.cell;go_wp2_with fail;clear G;refine(lQ n l _ _ (z.below a7 aO) hl).mono ?_;rintro e t9 ⟨rfl,c8⟩;have i1:=a7.after c8 a7.size;have j4:=e7.keep c8;have k1:=f4.keep c8;clear a7 e7 f4;clear c8;go_wp2_with fail;refine(fY D g0 (⟨#[109,97,116,114,111,105,100]⟩:ByteArray) (dH n l) _ k1 aK).mono ?_;rintro e u0 ⟨rfl,k2,g8⟩;have i6:=i1.after g8 aK;have q8:=bY j4 g8 aK;clear i1 j4 k1 g8;obtain⟨g1,R⟩:=aQ (g0++eB (dH n l) (⟨#[109,97,116,114,111,105,100]⟩:ByteArray));rw[<-R]at k2;have q4:g1.length<=15:=by rw[R];rw[List.length_append];have:=cT (dH n l) (⟨#[109,97,116,114,111,105,100]⟩:ByteArray);omega
  have hT:cK eH g1=uQ n l:=by rw[HX.out,R,O,N,M,J,I,F,d6,d5,d0,c9];rfl
  have hz:=YW n l rM rS;rw[<-hT]at hz;have HT:=aN hT;clear hT c9 d0 d5 d6 F I J M N O R;obtain⟨lv,KL,oL⟩:=k2;have G:=KL.cell;have zL:=KL.lt;go_wp2_with fail;clear G;refine(dP (D+1) lv g1 _ oL aK aK).mono ?_;rintro e wz ⟨rfl,bz⟩;go_wp2;go_ret;exact⟨cI HT.out,i6.after bz i6.size⟩
theorem ad4(w:World)(n:Int)(v:Value)(l:List Int)(hv:aR w v l):
  Calls prog 53 #[.agg #[n,v]] w fun e w'=>e=.returned (.tuple #[(mA n l),.bool (bM n l)])/\Below w w w':=by
 have a8:=hv;obtain⟨a,c,rfl⟩:=hv.shape;have K0:=aU.new w 26 #[n,aI a l.length c]
 cases hf:bM n l with
 |false=>
  have hg:mA n l=0:=by unfold mA;rw[hf];rfl
  have HG:=aN hg;have HF:=aN hf;clear hg hf;go_enter func53,ntmps53;go_wp2_with (go_at_call 51;refine(dJ n l _ _ (a8.alloc _)).mono ?_;rintro e w1 ⟨rfl,S⟩;rw[HF.out]);go_ret2;exact⟨by rw[HG.out];rfl,(bF _ _).after S (by simp)⟩
 |true=>
  obtain⟨N,rfl,f9,Z,j1,D⟩:=cX hf;have b8:mA (N:Int) l=gG ((sT N l.length).map (wG l)) 0:=by unfold mA;rw[hf,if_pos rfl,Int.toNat_natCast,abE,Z]
  have b7:∀s i,s<2^N->i<N->∀k,k<N->-4000<=kM l s i k/\kM l s i k<=4000:=fun s i Y hi k hk=>RL N l Z D s i k Y hi hk;have HG:=aN b8;have HF:=aN hf;have f3:=aN Z;have f4:=aN D;have k2:=aN b7;clear b8 hf Z D b7;go_enter func53,ntmps53;go_wp2_with fail;refine(dJ N l _ _ (a8.alloc _)).mono ?_;rintro e w1 ⟨rfl,S⟩;rw[HF.out];have K1:=K0.keep S;have B1:Below w w w1:=(bF _ _).after S (by simp);have G1:=K1.cell;clear K0 S;have d7:=a8.below B1 aO;obtain⟨av,b,k9,cv,g6,c6,F,hc,hb⟩:=d7.view prog 24 3 underlying24 aS;injection g6 with e1 _ e3;subst e1 e3;have HC:=aN hc;have f2:=aN F;clear hc F c6 d7;go_wp2_with fail;go_loopw [4,6] (fun nv sv wr=>∃s:Nat,s<=l.length/\sv=aM s/\nv=aM (gG ((sT N s).map (wG l)) 0)/\Below w1 w1 wr) (fun _ sv _=>l.length-(intOf sv).toNat)
  case atStart=>exact⟨0,Nat.zero_le _,rfl,rfl,Below.refl _ _⟩
  case round=>
   obtain⟨s,Y,rfl,rfl,B⟩:=hrel;obtain⟨wo,rfl⟩:∃wo:World,wo=wr:=⟨_,rfl⟩;have K:=K1.keep B;have G:=K.cell;clear G1;obtain⟨M,R⟩:=aQ (gG ((sT N s).map (wG l)) 0);rw[<-R];have O:=aN R;clear R;by_cases g5:s<l.length
   ·have c8:(s:Int)<(l.length:Int):=aK;go_wp2_with fail;go_loopw [4,7] (fun nv iv wr=>∃i:Nat,i<=N/\iv=aM i/\nv=aM (gG ((sT N s++uX s i).map (wG l)) 0)/\Below w1 w1 wr) (fun _ iv _=>N-(intOf iv).toNat)
    case atStart=>exact⟨0,Nat.zero_le _,rfl,by rw[show uX s 0=[] from rfl,List.append_nil,O.out],B⟩
    case round=>
     obtain⟨i,hi,rfl,rfl,B2⟩:=hrel;obtain⟨wi,rfl⟩:∃wo:World,wo=wr:=⟨_,rfl⟩;have K2:=K1.keep B2;have G2:=K2.cell;clear G K O B;obtain⟨M2,R⟩:=aQ (gG ((sT N s++uX s i).map (wG l)) 0);rw[<-R];have O:=aN R;clear R;by_cases g3:i<N
     ·have b9:(i:Int)<(N:Int):=aK;go_wp2_with fail;go_loopw [4,8] (fun nv kv wr=>∃k:Nat,k<=i/\kv=aM k/\nv=aM (gG (((sT N s++uX s i)++CD s i k).map (wG l)) 0)/\Below w1 w1 wr) (fun _ kv _=>i-(intOf kv).toNat)
      case atStart=>exact⟨0,Nat.zero_le _,rfl,by rw[show CD s i 0=[] from rfl,List.append_nil,O.out],B2⟩
      case round=>
       obtain⟨k,hk,rfl,rfl,B3⟩:=hrel;obtain⟨wk,rfl⟩:∃wo:World,wo=wr:=⟨_,rfl⟩;clear G2 K2 O B2;obtain⟨M3,R⟩:=aQ (gG (((sT N s++uX s i)++CD s i k).map (wG l)) 0);rw[<-R];have O:=aN R;clear R;by_cases k6:k<i
       ·have c5:(k:Int)<(i:Int):=aK;have c9:CD s i (k+1)=CD s i k++(if (!dC s i&&!dC s k) then [(s,i,k)] else []):=rfl;have a1:=aN c9;have g0:=jO (s:Int) i aK aK;have g1:=jO (s:Int) k aK aK;have I:=vU s i;have J:=vU s k;obtain⟨y,hy⟩:=aQ (dO (s:Int) i);obtain⟨z,hz⟩:=aQ (dO (s:Int) k);rw[<-hy]at g0 I;rw[<-hz]at g1 J;clear hy hz c9
        cases h1:dC s i with
        |true=>
         have g7:(y==0)=false:=by rw[I,h1];rfl
         have H1:=aN h1;clear h1 I J;go_wp2;go_roundw
         case rel=>exact⟨k+1,by omega,by go_num,by rw[a1.out,H1.out,O.out];simp,B3⟩
         case measure=>simp[intOf];omega
        |false=>
         have g7:(y==0)=true:=by rw[I,h1];rfl
         cases h2:dC s k with
         |true=>
          have g8:(z==0)=false:=by rw[J,h2];rfl
          have H2:=aN h2;clear h1 h2 I J;go_wp2;go_roundw
          case rel=>exact⟨k+1,by omega,by go_num,by rw[a1.out,H2.out,O.out];simp,B3⟩
          case measure=>simp[intOf];omega
         |false=>
          have g8:(z==0)=true:=by rw[J,h2];rfl
          have a7:gG (((sT N s++uX s i)++CD s i (k+1)).map (wG l)) 0=max M3 (kM l s i k):=by rw[a1.out,h1,h2,O.out,<-List.append_assoc,List.map_append];exact ZN _ _ _
          have hl:=f3.out;have D:=f4.out;have hc:=aW HC.out hb B3 aO;have F:=f2.out;have hn:=f9;have Y:s<2^N:=by rw[<-hl];exact g5
          have hi:=g3;have hk:k<N:=aK;have h1:=eQ s i N Y hi;have h2:=eQ s k N Y hk;have h3:=eQ (bU s i) k N h1 hk;rw[<-oN]at h3;have p5:(2:Nat)^N<=32:=Nat.pow_le_pow_right (n:=2) aY hn;rw[<-hl]at h1 h2 h3 Y p5;have c0:=hc s Y;have c1:=hc _ h1;have c2:=hc _ h2;have c3:=hc _ h3;have i0:=fun W=>F W s Y;have i1:=fun W=>F W _ h1;have i2:=fun W=>F W _ h2;have i3:=fun W=>F W _ h3;have b0:=D s Y;have b1:=D _ h1;have b2:=D _ h2;have b3:=D _ h3;have hex:kM l s i k=l[bU s i ||| bU s k]+l[s]-l[bU s i]-l[bU s k]:=by unfold kM;rw[aX l _ h3,aX l _ Y,aX l _ h1,aX l _ h2]
          have q1:=fZ s i aK aK;have q2:=fZ s k aK aK;have q3:=IR (bU s i) (bU s k) aK aK;have q4:=fZ (bU s i) k aK aK;rw[<-oN]at q4;obtain⟨u1,d0⟩:=aQ (bU s i);obtain⟨u2,d5⟩:=aQ (bU s k);simp only[<-d0,<-d5]at c1 c2 c3 i1 i2 i3 b1 b2 b3 hex q1 q2 q3 q4 h1 h2 h3;obtain⟨u3,d6⟩:=aQ (u1 ||| u2);simp only[<-d6]at c3 i3 b3 hex q3 q4 h3;obtain⟨x0,d8⟩:=aQ (l[s]);obtain⟨x1,d9⟩:=aQ (l[u1]);obtain⟨x2,e0⟩:=aQ (l[u2]);obtain⟨x3,e4⟩:=aQ (l[u3]);rw[<-d8]at c0 b0 hex;rw[<-d9]at c1 b1 hex;rw[<-e0]at c2 b2 hex;rw[<-e4]at c3 b3 hex;have pi:=cO i 6 aK;have pk:=cO k 6 aK;have l1:(2:Int)^i<=64:=by simpa using pi.1
          have l3:(2:Int)^k<=64:=by simpa using pk.1
          have l2:=pi.2;have l4:=pk.2;have wi:IntKind.i64.wrap ((2:Int)^i)=2^i:=by rw[IntKind.wrap_i64];omega
          have wk:IntKind.i64.wrap ((2:Int)^k)=2^k:=by rw[IntKind.wrap_i64];omega
          have l8:IntKind.i64.wrap (x3+x0)=x3+x0:=by rw[IntKind.wrap_i64];omega
          have l9:IntKind.i64.wrap (x3+x0-x1)=x3+x0-x1:=by rw[IntKind.wrap_i64];omega
          have m1:IntKind.i64.wrap (x3+x0-x1-x2)=x3+x0-x1-x2:=by rw[IntKind.wrap_i64];omega
          have z0:(0:Int)<=(s:Int):=aK;rw[hex]at a7;have f6:=aN a7;clear F D hex d0 d5 d6 d8 d9 e0 e4 pi pk q3 hc hl a7 h1 h2 I J;go_wp2_with fail;go_quiet (fail);go_wp2;go_roundw
          case rel=>exact⟨k+1,by omega,by go_num,by rw[f6.out],B3.drewN' _⟩
          case measure=>simp[intOf];omega
       ·have c5:¬(k:Int)<(i:Int):=aK;have g4:k=i:=aK;subst g4;go_wp2;go_roundw
        case rel=>exact⟨k+1,by omega,by go_num,by rw[show uX s (k+1)=uX s k++CD s k k from rfl,<-List.append_assoc,O.out],B3⟩
        case measure=>simp[intOf];omega
     ·have b9:¬(i:Int)<(N:Int):=aK;have g2:i=N:=aK;subst g2;go_wp2;go_roundw
      case rel=>exact⟨s+1,by omega,by go_num,by rw[show sT i (s+1)=sT i s++uX s i from rfl,O.out],B2⟩
      case measure=>simp[intOf];omega
   ·have c8:¬(s:Int)<(l.length:Int):=aK;have c7:s=l.length:=aK;have b6:M=mA (N:Int) l:=by rw[HG.out,O.out,c7]
    have f5:=aN b6;clear c7 b6;go_wp2;go_ret2;exact⟨by rw[f5.out];rfl,B1.after B B1.size⟩
theorem kL(b:Bool)(x:ByteArray)(w:World):
  Calls prog 58 #[.bool b,.string x] w fun e w'=>e=.returned (.string (jL b x))/\w=w':=by
 cases b
 ·go_enter func58,ntmps58;go_wp2;go_ret;exact⟨rfl,rfl⟩
 ·go_enter func58,ntmps58;go_wp2;go_ret;exact⟨rfl,rfl⟩
theorem abB(w:World)(n:Int)(v:Value)(l:List Int)(hv:aR w v l)(hl:l.length<=1048576):
  Calls prog 13 #[.agg #[n,v]] w fun e w'=>e=.returned (.string (uQ n l))/\Below w w w':=by
 have a8:=hv;obtain⟨a,c,rfl⟩:=hv.shape;have K0:=aU.new w 26 #[n,aI a l.length c]
 cases hf:bM n l with
 |false=>
  have hx:uQ n l=ByteArray.empty:=by unfold uQ;rw[hf];rfl
  have HX:=aN hx;have HF:=aN hf;clear hx hf;go_enter func13,ntmps13;go_wp2_with fail;refine(dJ n l _ _ (a8.alloc _)).mono ?_;rintro e w1 ⟨rfl,b1⟩;rw[HF.out];go_wp2;go_ret;exact⟨cI HX.out.symm,(bF _ _).after b1 (by simp)⟩
 |true=>
  have hx:=JG hf;rw[show eH=dS from rfl,N5]at hx;have l4:=xW hf;have l5:=BQ hf;have f8:=MQ n l;have f9:=JH n l;have d7:=cW (mA n l) ⟨by omega,by omega⟩;obtain⟨F,hF⟩:=aQ (mE n l);obtain⟨g,hg⟩:=aQ (mA n l);obtain⟨N,hN⟩:=aQ (bQ g);rw[<-hF,<-hg]at hx;rw[<-hF]at f9;rw[<-hg]at f8 d7;rw[<-hN]at d7 hx;have HX:=aN hx;have HF:=aN hf;have a6:=fun(W:World) (h:aR W (aI a l.length c) l)=>U6 n l _ W h;have a7:=fun(W:World) (h:aR W (aI a l.length c) l)=>ad4 W n _ l h;rw[<-hF]at a6;rw[<-hg]at a7;have e5:=aN a6;have e6:=aN a7;have j7:=aN hN;clear hx hf hF hg a6 a7 hN;go_enter func13,ntmps13;go_wp2_with fail;refine(dJ n l _ _ (a8.alloc _)).mono ?_;rintro e w1 ⟨rfl,b1⟩;rw[HF.out];have B:Below w w w1:=(bF _ _).after b1 (by simp);have K:=K0.keep b1;clear K0 b1;have G:=K.cell;go_wp2_with fail;refine(e5.out _ (a8.below B aO)).mono ?_;rintro e w2 ⟨rfl,b2⟩;have B:=B.after b2 B.size;have K:=K.keep b2;clear G b2;have G:=K.cell;go_wp2_with fail;refine(e6.out _ (a8.below B aO)).mono ?_;rintro e w3 ⟨rfl,b3⟩;have B:=B.after b3 B.size;have K:=K.keep b3;have a9:=a8.below B aO;clear G b3 e5 e6;have G:=K.cell;have g0:=G 0;have g1:=G 1;simp only[List.getElem?_toArray,List.getElem?_cons_zero,List.getElem?_cons_succ]at g0 g1;clear G;go_upto_region 5 with fail;go_cut [3] (fun v wx=>∃X,v=.string X/\X=xH F N (eX (fO n l)) (eX (jD n l))/\X.size<=4100/\Below w3 w3 wx)
  case rest=>
   obtain⟨X,rfl,hX,o0,b4⟩:=hcut;have D:=a9.keep b4;have K2:=K.keep b4;have B2:=B.after b4 B.size;have k8:=aN hX;have G:=K2.cell;have g0:=G 0;have g1:=G 1;simp only[List.getElem?_toArray,List.getElem?_cons_zero,List.getElem?_cons_succ]at g0 g1;clear G hX;have q0:∀y:Ext wc,y.w.cell? ⟨w.heap.size,0,none⟩=some (aM n):=fun y=>y.cell g0;have q1:∀y:Ext wc,y.w.cell? ⟨w.heap.size,1,none⟩=some (aI a l.length c):=fun y=>y.cell g1;have Q0:=fun y:Ext wc=>sE n l _ y.w ((D.keep y.b)) hl;have Q1:=fun y:Ext wc=>afB n l _ y.w ((D.keep y.b)) hl;have Q2:=fun y:Ext wc=>SL n l _ y.w ((D.keep y.b));have Q3:=fun y:Ext wc=>yZ n l _ y.w ((D.keep y.b));have Q4:=fun y:Ext wc=>UF n l _ y.w ((D.keep y.b)) hl;have Q5:=fun y:Ext wc=>mV n l _ y.w ((D.keep y.b)) hl;have Q6:=fun y:Ext wc=>lR n l _ y.w ((D.keep y.b)) hl;obtain⟨e8,I⟩:=aQ (gR n l);rw[<-I]at Q0;obtain⟨e9,J⟩:=aQ (sR n l);rw[<-J]at Q1;obtain⟨f0,O⟩:=aQ (mN n l);rw[<-O]at Q2;obtain⟨f2,R⟩:=aQ (gE n l);rw[<-R]at Q3;obtain⟨f3,Y⟩:=aQ (pT n l);rw[<-Y]at Q4;obtain⟨f4,Z⟩:=aQ (eU n l);rw[<-Z]at Q5;obtain⟨f5,a1⟩:=aQ (dH n l);rw[<-a1]at Q6;have j3:=aN (And.intro I (And.intro J (And.intro O (And.intro R (And.intro Y (And.intro Z a1))))));have Q0:=aN Q0;have Q1:=aN Q1;have Q2:=aN Q2;have Q3:=aN Q3;have Q4:=aN Q4;have Q5:=aN Q5;have Q6:=aN Q6;obtain⟨t0,b6⟩:=aQ (jL e8 (⟨#[32,115,117,98,109,111,100,117,108,97,114]⟩:ByteArray));have Y0:=fun y:Ext wc=>kL e8 (⟨#[32,115,117,98,109,111,100,117,108,97,114]⟩:ByteArray) y.w;rw[<-b6]at Y0;have Y0:=aN Y0;have z0:t0.size<=14:=by rw[b6];exact Nat.le_trans (dX _ _) aY
   obtain⟨t1,b7⟩:=aQ (jL e9 (⟨#[32,115,117,112,101,114,109,111,100,117,108,97,114]⟩:ByteArray));have Y1:=fun y:Ext wc=>kL e9 (⟨#[32,115,117,112,101,114,109,111,100,117,108,97,114]⟩:ByteArray) y.w;rw[<-b7]at Y1;have Y1:=aN Y1;have z1:t1.size<=14:=by rw[b7];exact Nat.le_trans (dX _ _) aY
   obtain⟨t2,b8⟩:=aQ (jL f0 (⟨#[32,105,110,99,114,101,97,115,105,110,103]⟩:ByteArray));have Y2:=fun y:Ext wc=>kL f0 (⟨#[32,105,110,99,114,101,97,115,105,110,103]⟩:ByteArray) y.w;rw[<-b8]at Y2;have Y2:=aN Y2;have z2:t2.size<=14:=by rw[b8];exact Nat.le_trans (dX _ _) aY
   obtain⟨t3,b9⟩:=aQ (jL f2 (⟨#[32,103,114,111,117,110,100,101,100]⟩:ByteArray));have Y3:=fun y:Ext wc=>kL f2 (⟨#[32,103,114,111,117,110,100,101,100]⟩:ByteArray) y.w;rw[<-b9]at Y3;have Y3:=aN Y3;have z3:t3.size<=14:=by rw[b9];exact Nat.le_trans (dX _ _) aY
   obtain⟨t4,c5⟩:=aQ (jL f3 (⟨#[32,115,121,109,109,101,116,114,105,99]⟩:ByteArray));have Y4:=fun y:Ext wc=>kL f3 (⟨#[32,115,121,109,109,101,116,114,105,99]⟩:ByteArray) y.w;rw[<-c5]at Y4;have Y4:=aN Y4;have z4:t4.size<=14:=by rw[c5];exact Nat.le_trans (dX _ _) aY
   obtain⟨t5,c6⟩:=aQ (jL f4 (⟨#[32,112,111,108,121,109,97,116,114,111,105,100]⟩:ByteArray));have Y5:=fun y:Ext wc=>kL f4 (⟨#[32,112,111,108,121,109,97,116,114,111,105,100]⟩:ByteArray) y.w;rw[<-c6]at Y5;have Y5:=aN Y5;have z5:t5.size<=14:=by rw[c6];exact Nat.le_trans (dX _ _) aY
   obtain⟨t6,c7⟩:=aQ (jL f5 (⟨#[32,109,97,116,114,111,105,100]⟩:ByteArray));have Y6:=fun y:Ext wc=>kL f5 (⟨#[32,109,97,116,114,111,105,100]⟩:ByteArray) y.w;rw[<-c7]at Y6;have Y6:=aN Y6;have z6:t6.size<=14:=by rw[c7];exact Nat.le_trans (dX _ _) aY
   have j9:=aN (And.intro b6 (And.intro b7 (And.intro b8 (And.intro b9 (And.intro c5 (And.intro c6 c7))))));clear g0 g1 I J O R Y Z a1 b6 b7 b8 b9 c5 c6 c7 a9 D K2 l4 l5 f8 f9 d7 K;have s0:(X++t0).size<=4114:=by simp only[ByteArray.size_append];omega
   have s1:(X++t0++t1).size<=4128:=by simp only[ByteArray.size_append];omega
   have s2:(X++t0++t1++t2).size<=4142:=by simp only[ByteArray.size_append];omega
   have s3:(X++t0++t1++t2++t3).size<=4156:=by simp only[ByteArray.size_append];omega
   have s4:(X++t0++t1++t2++t3++t4).size<=4170:=by simp only[ByteArray.size_append];omega
   have s5:(X++t0++t1++t2++t3++t4++t5).size<=4184:=by simp only[ByteArray.size_append];omega
   have s6:(X++t0++t1++t2++t3++t4++t5++t6).size<=4198:=by simp only[ByteArray.size_append];omega
   go_wp2_with fail;refine bN _ aT aT ?_
   repeat(first|go_big_quiet_skip|(go_big_quiet_want;go_big_quiet_op;first|go_big_quiet_on|(apply Exists.intro;refine⟨fun _=>?_,?_⟩;(first|(go_at_call 59;with_reducible exact bO (Q0.out _))|(go_at_call 60;with_reducible exact bO (Q1.out _))|(go_at_call 61;with_reducible exact bO (Q2.out _))|(go_at_call 62;with_reducible exact bO (Q3.out _))|(go_at_call 63;with_reducible exact bO (Q4.out _))|(go_at_call 64;with_reducible exact bO (Q5.out _))|(go_at_call 65;with_reducible exact bO (Q6.out _))|(go_at_call 58;first|(with_reducible exact cR (Y0.out _))|(with_reducible exact cR (Y1.out _))|(with_reducible exact cR (Y2.out _))|(with_reducible exact cR (Y3.out _))|(with_reducible exact cR (Y4.out _))|(with_reducible exact cR (Y5.out _))|(with_reducible exact cR (Y6.out _))));go_big_quiet_on)))
   refine wpQuiet_nil ?_;rintro w5 ⟨⟨w5,b5⟩,rfl⟩
   try dsimp only
   go_wp2_with fail;go_ret;refine⟨cI ?_,B2.after b5 B2.size⟩;obtain⟨h0,h1,h2,h3,h4,h5,h6⟩:=j3.out;obtain⟨k0,k1,k2,k3,k4,k5,k6⟩:=j9.out;rw[HX.out,<-h0,<-h1,<-h2,<-h3,<-h4,<-h5,<-h6,k0,k1,k2,k3,k4,k5,k6,k8.out]
   rfl
  case first=>
   have q0:∀y:Ext w3,y.w.cell? ⟨w.heap.size,0,none⟩=some (aM n):=fun y=>y.cell g0;have q1:∀y:Ext w3,y.w.cell? ⟨w.heap.size,1,none⟩=some (aI a l.length c):=fun y=>y.cell g1;have d6:=fun W:World=>fX g ⟨by omega,by omega⟩ W;rw[<-j7.out]at d6;have j5:=aN d6;have o3:aR w3.drew (aI a l.length c) l:=a9.drew';clear d6 g0 g1;refine CG (C:=fun w'=>∃x:Ext w3,w'=x.w) aT aT aT ⟨⟨w3.drew,(Below.refl _ _).drew⟩,rfl⟩ ?_;have bd:Below w3 w3 w3.drew:=(Below.refl _ _).drew
   repeat(refine gJ (by rfl) ?_;(first|go_big_quiet_skip|(go_big_quiet_want;go_big_quiet_op;go_big_quiet_on));refine wpQuiet_nil ?_)
   refine iJ 54 _ _ rfl (enters_of func54 aT rfl) aT ?_;intro KK z;go_simp;refine(j5.out _).mono ?_;rintro e wa ⟨rfl,ba⟩;have ba:=bd.after ba bd.size;refine⟨_,rfl,?_⟩;go_simp;refine z _ _ ⟨⟨wa,ba⟩,rfl⟩ ?_;clear z KK
   repeat(refine gJ (by rfl) ?_;(first|go_big_quiet_skip|(go_big_quiet_want;go_big_quiet_op;go_big_quiet_on));refine wpQuiet_nil ?_)
   refine iJ 56 _ _ rfl (enters_of func56 aT rfl) aT ?_;intro KK z;go_simp;refine(abX wa n _ l (a9.keep ba) hl).mono ?_;rintro e wb ⟨p1,i1,r1,rfl,o1,bb⟩;have bb:=ba.after bb ba.size;have rM:=o1.ints.inR;have sM:(eX (fO n l)).size<=708:=by have:=lP _ rM;omega
   refine⟨_,rfl,?_⟩;go_simp;refine z _ _ ⟨⟨wb,bb⟩,rfl⟩ ?_;clear z KK
   repeat(refine gJ (by rfl) ?_;(first|go_big_quiet_skip|(go_big_quiet_want;go_big_quiet_op;go_big_quiet_on));refine wpQuiet_nil ?_)
   refine iJ 55 _ _ rfl (enters_of func55 aT rfl) aT ?_;intro KK z;go_simp;refine(vJ (fO n l) _ wb o1.ints aK).mono ?_;rintro e wd ⟨rfl,bc⟩;have bc:=bb.after bc bb.size;obtain⟨M,hM⟩:=aQ (eX (fO n l));rw[<-hM]at sM ⊢;have j6:=aN hM;clear hM;refine⟨_,rfl,?_⟩;go_simp;refine z _ _ ⟨⟨wd,bc⟩,rfl⟩ ?_;clear z KK;have e0:(⟨#[102,117,110,99,116,105,111,110,32]⟩:ByteArray).size=9:=rfl;have e1:(⟨#[32,103,97,112,32]⟩:ByteArray).size=5:=rfl;have e2:(⟨#[32,109,97,115,115,101,115,32]⟩:ByteArray).size=8:=rfl;have e3:(⟨#[32,115,104,97,112,108,101,121,32]⟩:ByteArray).size=9:=rfl
   repeat(refine gJ (by rfl) ?_;(first|go_big_quiet_skip|(go_big_quiet_want;go_big_quiet_op;go_big_quiet_on));refine wpQuiet_nil ?_)
   refine iJ 57 _ _ rfl (enters_of func57 aT rfl) aT ?_;intro KK z;go_simp;refine(ag6 wd n _ l (a9.keep bc) hl).mono ?_;rintro e we ⟨p2,i2,r2,rfl,o2,be⟩;have be:=bc.after be bc.size;have rS:=o2.ints.inR;have sS:(eX (jD n l)).size<=708:=by have:=lP _ rS;omega
   refine⟨_,rfl,?_⟩;go_simp;refine z _ _ ⟨⟨we,be⟩,rfl⟩ ?_;clear z KK
   repeat(refine gJ (by rfl) ?_;(first|go_big_quiet_skip|(go_big_quiet_want;go_big_quiet_op;go_big_quiet_on));refine wpQuiet_nil ?_)
   refine iJ 55 _ _ rfl (enters_of func55 aT rfl) aT ?_;intro KK z;go_simp;refine(vJ (jD n l) _ we o2.ints aK).mono ?_;rintro e wf ⟨rfl,bf⟩;have bf:=be.after bf be.size;obtain⟨S,hS⟩:=aQ (eX (jD n l));rw[<-hS]at sS ⊢;have j8:=aN hS;clear hS;refine⟨_,rfl,?_⟩;go_simp;refine z _ _ ⟨⟨wf,bf⟩,rfl⟩ ?_;clear z KK
   repeat(refine gJ (by rfl) ?_;(first|go_big_quiet_skip|(go_big_quiet_want;go_big_quiet_op;go_big_quiet_on));refine wpQuiet_nil ?_)
   refine O5 ?_;go_wp2_with fail;go_meet;exact⟨_,rfl,by rw[j6.out,j8.out];rfl,CU F N M S aK aK aK aK,bf⟩
end
end Go.Proofs.YtcpoomdoodlkjaaGreatDoor
