/- Lemmas for CardRunConsole. No condition. -/
import Derived.Test.YtkdbkjjacgigiaaGreatDoorR09
import Derived.Test.YtkdbkjjacgigiaaGreatDoorR10
import Derived.Test.YtkdbkjjacgigiaaGreatDoorR21
set_option maxRecDepth 100000
set_option maxHeartbeats 64000000
namespace Go.Proofs.YtkdbkjjacgigiaaGreatDoor
section
open Go.RowKit Go.G5 Go.Proofs.Tryz
def lI(x:Int):Int:=max (-9999) (min 9999 x)
theorem aqC(x:Int):-9999<=lI x/\lI x<=9999:=by unfold lI;omega
theorem CY(x:Int):fM (lI x):=by have:=aqC x;exact⟨aA,aA⟩
def kJ(l:List Int):ByteArray:=if (l.length=0\/40<l.length) then gT else dL jE ((l.map lI).map dB)
theorem OC(l:aI):(kJ l).size<=880:=by
 unfold kJ
 split
 .show 4<=880;omega
 .rename_i h
  have h1:=uN (l.map lI) (fun x z=>by
   obtain⟨y,_,rfl⟩:=List.mem_map.1 z;exact CY y)
  rw[List.length_map]at h1;omega
theorem aiX(l:aI):kJ l≠ByteArray.empty:=by
 unfold kJ
 split
 .intro e;exact absurd (congrArg ByteArray.size e) bZ
 .rename_i h;rw[Ne,yL,List.map_eq_nil_iff];intro e;subst e;exact h (.inl rfl)
theorem WV(l:aI)(v:Value)(w:World)(hv:Ints w v l)(hp:lA w):
  aH 283 #[v] w (aR (kJ l)):=by
 obtain⟨a,b,f2,c,rfl,O,M,hc,hb⟩:=hv.vw;have HC:=aT hc;have Z:=aT M;clear hc M O;by_cases h0:l.length=0
 .have D:kJ l=gT:=by unfold kJ;rw[if_pos (.inl h0)]
  have HX:=aT D;have hz:((l.length:Int)==0)=true:=by simp[h0]
  clear D h0;go_enter func283,ntmps283;go_wp2;go_ret;exact⟨dA HX.out.symm,bJ _ _⟩
 .have hz:((l.length:Int)==0)=false:=by rw[dZ];omega
  by_cases h4:40<l.length
  .have D:kJ l=gT:=by unfold kJ;rw[if_pos (.inr h4)]
   have HX:=aT D;have f9:(40:Int)<(l.length:Int):=aA;clear D h0;go_enter func283,ntmps283;go_wp2;go_ret;exact⟨dA HX.out.symm,bJ _ _⟩
  .have D:kJ l=dL jE ((l.map lI).map dB):=by unfold kJ;rw[if_neg aA]
   have HX:=aT D;have f9:¬(40:Int)<(l.length:Int):=aA;clear D h0;go_enter func283,ntmps283;go_wp2_with fail;go_loopw [3,16] (fun ov iv wr=>∃(k:Nat) (p:Option Addr) (n K:Nat),k<=l/\iv=aO k/\ov=aD p n K/\bB 3 w wr (aD p n K) ((l.take k).map lI)/\Below w w wr) (fun _ iv _=>l.length-(intOf iv).toNat)
   .exact⟨0,_,_,_,aZ _,rfl,rfl,bB.nil _ _ _,bJ _ _⟩
   obtain⟨k,p,n,K,hk,rfl,rfl,I,B⟩:=hrel;obtain⟨wz,rfl⟩:∃q:World,q=wr:=⟨_,rfl⟩;by_cases hlt:k<l
   .have R:(k:Int)<(l.length:Int):=aA;have a7:=bY HC.out hb B aU k hlt;have e6:=fun W=>Z.out W k hlt;have F:(l.take (k+1)).map lI=(l.take k).map lI++[lI l[k]]:=by rw[cH hlt,List.map_append];rfl
    have z:((l.take k).map lI).length=k:=bO;obtain⟨x,D⟩:=aW (l[k]);rw[<-D]at a7 F;have g4:=CY x;have j4:max (-9999) (min 9999 x)=lI x:=rfl;have b6:=aT F;have a1:=aT z;have zB:=B.size;clear D F z;go_wp2_with (at_builtin;refine eF rfl _ _ _ rfl 3 underlying25 intElem w.heap.size (aD p n K) ((l.take k).map lI) (lI x) _ rfl rfl (cR _ _ _ _ _ rfl) (I.alloc _) g4 (by rw[a1.out];omega) bO ?_;intro v7 w7 o7 g7;obtain⟨p7,i7,q7,rfl⟩:=o7.shape3);have rr:=I.lt;have B7:=(B.alloc zB (.cells #[(lI x)] 3)).grown g7 bO (fun q hq=>(rr _ hq).1);exact TB
   .have z:k=l.length:=aA;have S:bB 3 w wz (aD p n K) (l.map lI):=by rw[z,List.take_length]at I;exact I
    have R:¬(k:Int)<(l.length:Int):=aA;have hj:=xH (l.map lI) _ wz S.ints (by rw[List.length_map];omega) (hp.keep B);obtain⟨J,hJ⟩:=aW (dL jE ((l.map lI).map dB));rw[<-hJ]at hj;have f8:=aT (HX.out.trans hJ.symm);have HJ:=aT hj;clear z I S hj hJ;go_wp2_with fail;refine aV HJ.out ?_;intro w3 Y;go_wp2;go_ret;exact⟨dA f8.out.symm,B.after Y B.size⟩
theorem aq0(l:aI)(v:Value)(w:World)(hv:Ints w v l):
  aH 32 #[v] w (aR (kJ l)):=by
 obtain⟨a,b,f6,c,rfl,b1,b0,hc,hb⟩:=hv.vw;have HC:=aT hc;have b9:=aT b0;clear hc b0 b1;by_cases h4:40<l.length
 .have Z:kJ l=gT:=by unfold kJ;rw[if_pos (.inr h4)]
  have HX:=aT Z;have c7:¬(l.length:Int)<=40:=aA;have e8:(0:Int)<(l.length:Int):=aA;clear Z;go_enter func32,ntmps32;go_wp2_with fail;go_loopw [3,4] (fun sv iv wr=>iv=aO 0/\sv=.string ⟨#[]⟩/\Below w w wr) (fun _ _ _=>0)
  .exact⟨rfl,rfl,bJ _ _⟩
  obtain⟨rfl,rfl,B⟩:=hrel;go_wp2;go_ret;exact⟨dA HX.out.symm,B⟩
 .have b5:kJ l=if l=[] then gT else dL jE ((l.map lI).map dB):=by
   unfold kJ;by_cases D:l=[]
   .rw[if_pos D,if_pos (.inl (by rw[D];rfl))]
   .rw[if_neg D,if_neg (fun h=>h.elim (fun h=>D (eS h)) h4)]
  have a1:=aT b5;have c7:(l.length:Int)<=40:=aA;clear b5;have a9:∀x∈l.map lI,fM x:=fun x Z=>by obtain⟨y,_,rfl⟩:=List.mem_map.1 Z;exact CY y
  have b6:(l.map lI).length=l.length:=List.length_map ..;have I:=aT b6;have b8:=aT a9;clear b6 a9;go_enter func32,ntmps32;go_wp2_with fail;go_loopw [3,4] (fun sv iv wr=>∃(k:Nat) (S:aB),k<=l/\iv=aO k/\sv=aR S/\S=dL jE (((l.map lI).take k).map dB)/\Below w w wr) (fun _ iv _=>l.length-(intOf iv).toNat)
  .exact⟨0,_,aZ _,rfl,rfl,rfl,bJ _ _⟩
  obtain⟨k,S,hk,rfl,rfl,N,B⟩:=hrel;obtain⟨wz,rfl⟩:∃q:World,q=wr:=⟨_,rfl⟩;have f0:S.size<=22000:=by rw[N];exact AL (l.map lI) k b8.out (by rw[I.out];omega) (by rw[I.out];exact hk)
  by_cases hlt:k<l
  .have b4:(k:Int)<(l.length:Int):=aA;have d0:=bY HC.out hb B aU k hlt;have f4:=fun W=>b9.out W k hlt;have z:=ET (l.map lI) k (by rw[I.out];exact hlt);rw[List.getElem_map]at z;rw[<-N]at z;have O:k=0->S=aN:=fun h=>by rw[N,h];rfl
   obtain⟨x,Z⟩:=aW (l[k]);rw[<-Z]at d0 z;have f3:max (-9999) (min 9999 x)=lI x:=rfl;have hT:=eB (lI x) (CY x);have hF:=iL (lI x) (CY x) wz;obtain⟨T,a7⟩:=aW (dB (lI x));rw[<-a7]at z hT hF;have HF:=aT hF;have a6:=aT z;clear hF z Z a7 N;by_cases K:k=0
   .have c9:=O K;subst c9;have c5:=aT K;have e0:¬0<(k:Int):=aA;have a8:¬0<k:=aA;clear O K;go_wp2_with fail;refine aV HF.out ?_;intro w3 b3;have B:=B.after b3 B.size;go_wp2;go_roundw
    .exact⟨k+1,_,aA,cD,rfl,by rw[a6.out,if_pos c5.out],B⟩
    exact aY
   .have e0:0<(k:Int):=aA;have a8:0<k:=aA;have e9:(S++jE).size<=22001:=by rw[gW];show S.size+1<=22001;omega
    clear O;go_wp2_with fail;refine aV HF.out ?_;intro w3 b3;have B:=B.after b3 B.size;go_wp2;go_roundw
    .exact⟨k+1,_,aA,cD,rfl,by rw[a6.out,if_neg K];rfl,B⟩
    exact aY
  .have b4:¬(k:Int)<(l.length:Int):=aA;have J:S=dL jE ((l.map lI).map dB):=by rw[N,show k=(l.map lI).length by rw[I.out];omega,List.take_length]
   have Y:=wG S;have R:decide (S=aN)=decide (l=[]):=by rw[J];simp only[yL,List.map_eq_nil_iff]
   rw[R]at Y
   cases D:decide (l=[]) with
   |true=>
    have F:kJ l=gT:=by rw[a1.out,if_pos (eD D)]
    rw[D]at Y;have M:=aT F;clear D R J F N;go_wp2;go_ret;exact⟨dA M.out.symm,B⟩
   |false=>
    have F:kJ l=S:=by rw[a1.out,if_neg (eZ D)];exact J.symm
    rw[D]at Y;have M:=aT F;clear D R J F N;go_wp2;go_ret;exact⟨dA M.out.symm,B⟩
def zZ:ByteArray:=⟨#[115,101,116]⟩
def tL:ByteArray:=⟨#[111,102]⟩
def OV:ByteArray:=⟨#[102,111,114]⟩
def OK:ByteArray:=⟨#[97,110,100]⟩
def nM(k:Int)(S F G A:ByteArray):List ByteArray:=
 if k=1\/k=5 then [zZ,S,tL,F] else if k=2 then [tL,F] else if k=3 then [tL,F,OV,G] else if k=4 then [zZ,S,tL,F,OK,G] else [tL,A]
theorem LO{p:Prop}(h:p:=by
  go_wp2;go_ret;exact⟨_,_,_,rfl,by rw[I.out];exact(fI.lit w2 _ _ rfl (by simp only[List.length_cons,List.length_nil];unfold maxLen;omega) aU).mono D.size,D.alloc D.size _⟩):p:=h
theorem SJ(k z:Int)(v1:Value)(l1:aI)(K:Int)(v2:Value)(l2:aI)(O:Int)(v3:Value)(l3:aI)(q R:Int)(v4:Value)(w:World)
  (h1:Ints w v1 l1) (h2:Ints w v2 l2) (h3:Ints w v3 l3) (hp:lA w):
  Calls prog 284 #[clV k z v1 K v2 O v3 q R v4] w fun e w'=>∃ad i cp,e=aQ (aD ad i cp)/\fI 9 w w' (aD ad i cp) (nM k (dH z R) (jA z l1) (jA K l2) (eG O l3))/\Below w w w':=by
 have K0:=bK.new w 34 (clC k z v1 K v2 O v3 q R v4);have a1:=hp.keep (cQ w (.cells (clC k z v1 K v2 O v3 q R v4) 34));have hs:=iY z R _ a1;obtain⟨S,hS⟩:=aW (dH z R);obtain⟨F,hF⟩:=aW (jA z l1);obtain⟨G,hG⟩:=aW (jA K l2);obtain⟨A,hA⟩:=aW (eG O l3);rw[<-hS]at hs;rw[<-hS,<-hF,<-hG,<-hA];have HS:=aT hs;have HF:=aT hF;have HG:=aT hG;have HA:=aT hA;clear hs hS hF hG hA;go_enter func284,ntmps284;go_wp2_with fail;refine aV HS.out ?_;intro w1 b1;have M:Below w w w1:=(cQ _ _).after b1 bF;have K1:=K0.keep b1;clear K0 b1 HS;have N:=K1.cell;have c0:=N 0;have c1:=N 1;have c2:=N 2;have c3:=N 3;have c4:=N 4;simp only[clC,List.getElem?_toArray,List.getElem?_cons_zero,List.getElem?_cons_succ]at c0 c1 c2 c3 c4;have q1:∀y:Ext w1,y.w.cell? ⟨w,1,none⟩=some (aO z):=fun y=>y.cell c1;have q2:∀y:Ext w1,y.w.cell? ⟨w,2,none⟩=some v1:=fun y=>y.cell c2;have q3:∀y:Ext w1,y.w.cell? ⟨w,3,none⟩=some (aO K):=fun y=>y.cell c3;have q4:∀y:Ext w1,y.w.cell? ⟨w,4,none⟩=some v2:=fun y=>y.cell c4;have J:=hp.keep M;have Y:=fun y:Ext w1=>EV z l1 v1 y.w ((h1.below M aU).keep y.b) (J.keep y.b);rw[<-HF.out]at Y;have Y:=aT Y;have Z:=fun y:Ext w1=>EV K l2 v2 y.w ((h2.below M aU).keep y.b) (J.keep y.b);rw[<-HG.out]at Z;have Z:=aT Z;clear c0 c1 c2 c3 c4 N a1;go_wp2_with fail;refine cW _ bM bM ?_
 repeat(first|go_big_quiet_skip|(go_big_quiet_want;go_big_quiet_op;first|go_big_quiet_on|(apply Exists.intro;refine⟨fun _=>?_,?_⟩;(first|(go_at_call 178;with_reducible exact dI (Y.out _))|(go_at_call 178;with_reducible exact dI (Z.out _)));go_big_quiet_on)))
 refine wpQuiet_nil ?_;rintro w2 ⟨⟨w2,b2⟩,rfl⟩
 try dsimp only
 have D:=M.after b2 M.size;have K2:=K1.keep b2;have b8:=h3.below D aU;have d0:=hp.keep D;clear Y Z q1 q2 q3 q4 K1 b2 M J h1 h2 h3;have G2:=K2.cell;by_cases k1:k=1
 .subst k1;have I:=aT (show nM 1 S F G A=[zZ,S,tL,F] from rfl);exact LO
 .by_cases k5:k=5
  .subst k5;have I:=aT (show nM 5 S F G A=[zZ,S,tL,F] from rfl);exact LO
  .by_cases k2:k=2
   .subst k2;have I:=aT (show nM 2 S F G A=[tL,F] from rfl);exact LO
   .by_cases k3:k=3
    .subst k3;have I:=aT (show nM 3 S F G A=[tL,F,OV,G] from rfl);exact LO
    .by_cases k4:k=4
     .subst k4;have I:=aT (show nM 4 S F G A=[zZ,S,tL,F,OK,G] from rfl);exact LO
     .have hx:nM k S F G A=[tL,A]:=by unfold nM;rw[if_neg aA,if_neg k2,if_neg k3,if_neg k4]
      have e1:(k==1)=false:=by simpa using k1
      have e5:(k==5)=false:=by simpa using k5
      have e2:(k==2)=false:=by simpa using k2
      have e3:(k==3)=false:=by simpa using k3
      have e4:(k==4)=false:=by simpa using k4
      have hj:=lU O l3 v3 w2 b8 d0;rw[<-HA.out]at hj;have I:=aT hx;have HJ:=aT hj;clear hx hj k1 k2 k3 k4 k5;go_wp2_with fail;refine aV HJ.out ?_;intro w3 b3;have B3:=D.after b3 D.size;go_wp2;go_ret;exact⟨_,_,_,rfl,by rw[I.out];exact(fI.lit w3 [tL,A] 2 rfl (by unfold maxLen;omega) aU).mono B3.size,B3.alloc B3.size _⟩
def XA:ByteArray:=⟨#[108,105,115,116]⟩
def eQ:ByteArray:=⟨#[32]⟩
def J4(q:Int):Int:=max (-99999) (min 99999 q)
theorem M6(q:Int):fM (J4 q):=by unfold J4;exact⟨aA,aA⟩
def oT(k q:Int)(l:List Int):List ByteArray:=[jO k,dB (J4 q),XA,kJ l]
def pX(k z:Int)(D:List Int)(K:Int)(F:List Int)(M:Int)(I:List Int)(q N:Int)(J:List Int):List ByteArray:=
 oT k q J++nM k (dH z N) (jA z D) (jA K F) (eG M I)
def kY(k J:Int)(z:List Int)(K:Int)(D:List Int)(M:Int)(F:List Int)(q N:Int)(I:List Int):ByteArray:=
 if Lib.containsS (pX k J z K D M F q N I) ByteArray.empty=true then ByteArray.empty else dL eQ (pX k J z K D M F q N I)
theorem E9(k:Int):(jO k).size<=9:=by
 unfold jO
 repeat(split;(show _<=9;decide))
 decide
theorem acQ(k:Int)(S F G A:aB)(J:S.size<=10000)(D:F.size<=10000)(I:G.size<=10000)(z:A.size<=10000):(∀x∈nM k S F G A,x.size<=10000)/\(nM k S F G A).length<=6:=by
 have w1:zZ.size<=10000:=bZ;have K:tL.size<=10000:=bZ;have M:OV.size<=10000:=bZ;have N:OK.size<=10000:=bZ;unfold nM
 split
 .simp_all
 .split
  .simp_all
  .split
   .simp_all
   .split<;>simp_all
theorem KJ(k z:Int)(D:aI)(J:Int)(F:aI)(K:Int)(I:aI)(q M:Int)(N:aI):(∀x∈pX k z D J F K I q M N,x.size<=10000)/\(pX k z D J F K I q M N).length<=10:=by
 have O:=acQ k (dH z M) (jA z D) (jA J F) (eG K I) (by have:=gN z M;omega) (by have:=vY z D;omega) (by have:=vY J F;omega) (gK K I);have S:=E9 k;have a2:=eB (J4 q) (M6 q);have a3:XA.size<=10000:=bZ;have a4:=OC N;unfold pX;refine⟨fun x R=>?_,?_⟩
 .rcases dM.1 R with h|h
  .unfold oT at h;simp only[List.mem_cons,List.not_mem_nil,or_false]at h;rcases h with rfl|rfl|rfl|rfl
   .omega
   .omega
   .omega
   .omega
  .exact O.1 x h
 .rw[bN];have:=O.2;show 4+_<=10;omega
theorem af4(k:Int)(S F G A:aB):0<(nM k S F G A).length:=by
 unfold nM
 split
 .simp
 .split
  .simp
  .split
   .simp
   .split<;>simp
theorem fI.head{E:TypeId}{B:Nat}{w:World}{v:Value}{D:List aB}(h:fI E B w v D)(z:0<D.length):∃g n c,v=aD (some ⟨g,0,none⟩) n c:=by
 rcases h.at with⟨a,c,_,rfl⟩|⟨g,c,rfl,_⟩
 .simp at z
 .exact⟨g,_,c,rfl⟩
theorem XW(B:Nat)(w:World)(g n c:Nat)(D:List aB)(x:aB)(h:fI 9 B w (aD (some ⟨g,0,none⟩) n c) D)(M:D.length<=1000000):
  Calls prog 285 #[aD (some ⟨g,0,none⟩) n c,aR x] w fun e w'=>e=aQ (aG (Lib.containsS D x))/\w'=w:=by
 rcases h.at with⟨a,I,e,rfl⟩|⟨J,I,e,hc,K,z⟩
 .injection e with e1 e2 e3;subst e2;exact uZ g 0 0 c [] x w aU aA (fun j F=>by simp at F)
 .injection e with e1 e2 e3;injection e1 with e1;injection e1 with e1
  subst e1 e2 e3;have:=uZ g 0 D.length c D x w aU aA (fun j F=>by
   rw[z j D[j] (cG F)];simp[List.getD_eq_getElem?_getD,List.getElem?_eq_getElem F])
  rw[List.take_length]at this;exact this
theorem WL(k D:Int)(v1:Value)(O:aI)(J:Int)(v2:Value)(S:aI)(K:Int)(v3:Value)(Y:aI)(q M:Int)(v4:Value)(I:aI)(w:World)
  (h1:Ints w v1 O) (h2:Ints w v2 S) (h3:Ints w v3 Y) (h4:Ints w v4 I) (hp:lA w):
  aH 206 #[clV k D v1 J v2 K v3 q M v4] w (aR (kY k D O J S K Y q M I)):=by
 have K0:=bK.new w 34 (clC k D v1 J v2 K v3 q M v4);have e0:=hp.keep (cQ w (.cells (clC k D v1 J v2 K v3 q M v4) 34));have hs:=C9 (J4 q) (M6 q) _ e0;have d0:max (-99999) (min 99999 q)=J4 q:=rfl;have HS:=aT hs;clear hs;go_enter func206,ntmps206;go_wp2_with fail;refine aV HS.out ?_;intro w1 b1;have B1:Below w w w1:=(cQ _ _).after b1 bF;have K1:=K0.keep b1;clear K0 b1 HS e0;have G1:=K1.cell;go_upto_region 2 with fail;go_cut [4] (fun v wx=>∃g,v=aD (some ⟨g,0,none⟩) 4 4/\fI 9 w1 wx (aD (some ⟨g,0,none⟩) 4 4) (oT k q I)/\Below w1 w1 wx)
 case first=>
  have c7:bK w1.drew w.heap.size 34 (clC k D v1 J v2 K v3 q M v4):=K1;have bd:Below w1 w1 w1.drew:=(bJ _ _).drew;have i1:=c7.cell;have f7:=(h4.below B1 aU).keep bd;have f9:=(hp.keep B1).keep bd;have HT:=aT (fun(W:World) (h:Below w1.drew.heap.size w1.drew W)=>WV I v4 W (f7.keep h) (f9.keep h));obtain⟨T,hT⟩:=aW (kJ I);rw[<-hT]at HT;go_region_law
   (first
    |(go_simp;go_at_call 282;with_reducible refine aV (SK k _) ?_;intro w5 b5;have K5:=c7.keep b5;have G5:=K5.cell)
    |(go_simp;go_at_call 283;with_reducible refine aV (HT.out w5 b5) ?_;intro w6 b6))
  all_goals
   have B6:=(bd.after b5 bd.size).after b6 (bd.after b5 bd.size).size;have ol:=(fI.lit (E:=9) w6 (oT k q I) 4 rfl (by unfold maxLen;omega) aU).mono B6.size;have B7:=B6.alloc B6.size (.cells ((oT k q I).map Value.string).toArray 9);go_wp2_with fail;go_meet;exact⟨w6.heap.size,rfl,ol,B7⟩
 case rest=>
  obtain⟨g,rfl,o4,b4⟩:=hcut;have B4:=B1.after b4 B1.size;have K4:=K1.keep b4;have b8:=aT (SJ k D v1 O J v2 S K v3 Y q M v4 wc (h1.below B4 aU) (h2.below B4 aU) (h3.below B4 aU) (hp.keep B4));have a6:=KJ k D O J S K Y q M I;have a8:kY k D O J S K Y q M I=if Lib.containsS (pX k D O J S K Y q M I) aN=true then ByteArray.empty else dL eQ (pX k D O J S K Y q M I):=rfl;have Z:pX k D O J S K Y q M I=oT k q I++nM k (dH D M) (jA D O) (jA J S) (eG K Y):=rfl;obtain⟨P,hP⟩:=aW (pX k D O J S K Y q M I);obtain⟨Q,hQ⟩:=aW (nM k (dH D M) (jA D O) (jA J S) (eG K Y));obtain⟨R,hR⟩:=aW (oT k q I);rw[<-hP]at a6 a8 Z;rw[<-hQ]at b8;rw[<-hQ,<-hR]at Z;rw[<-hR]at o4;have c9:R.length=4:=by rw[hR];rfl
  have j7:Q.length<=6:=by have:=a6.2;rw[Z,bN]at this;omega
  have c6:=aT a8;have f2:=aT Z;have a1:=aT a6;have f4:=aT c9;have c8:0<Q.length:=by rw[hQ];exact af4 ..
  clear a8 Z a6 hP hQ hR c9 K1 G1 h1 h2 h3 h4 d0;have G4:=K4.cell;go_wp2_with fail;refine b8.out.mono ?_;rintro e w5 ⟨p5,i5,c5,rfl,o5,b5⟩;have B5:=B4.after b5 B4.size;have o4:=o4.keep b5;have z5:w1.heap.size<=w5.heap.size:=dC b4.size b5.size;have zw:w.heap.size<=w1.heap.size:=B1.size;rcases o5.at with⟨a,c',e,hq⟩|⟨g5,c',e,j9,k0,N⟩
  .rw[hq]at c8;simp at c8
  .injection e with e1 e2 e3;subst e1 e2 e3;have f0:=aT N;clear N G4;go_wp2_with (at_builtin;refine tJ rfl _ _ _ rfl 9 underlying52 yG w1.heap.size (aD (some ⟨g,0,none⟩) 4 4) R Q g5 Q.length _ rfl rfl rfl f0.out o4 (by rw[f4.out];omega) z5 ?_;intro v7 w7 o7 g7;obtain⟨p7,i7,q7,rfl⟩:=fI.head o7 (by rw[bN];omega));rw[<-f2.out]at o7;have rr:=o4.lt;have B7:=B5.grown g7 B5.size (fun q hq=>by have:=(rr q hq).1;omega);have F:=XW _ w7 _ _ _ P aN o7 (by have:=a1.out.2;omega)
   cases z:Lib.containsS P aN with
   |true=>
    have hr:kY k D O J S K Y q M I=aN:=by rw[c6.out,if_pos z]
    rw[z]at F;have F:=aT F;have HR:=aT hr;clear hr z;go_wp2_with fail;refine aV F.out ?_;rintro w8 rfl;go_wp2;go_ret;exact⟨dA HR.out.symm,B7⟩
   |false=>
    have hr:kY k D O J S K Y q M I=dL eQ P:=by rw[c6.out,if_neg (by rw[z];simp)]
    rw[z]at F;have F:=aT F;have HR:=aT hr;have HJ:=aT (I5 _ w7 _ P eQ o7 (by
     have h1:=CL eQ 10000 P a1.out.1;have h2:=a1.out.2;have h3:eQ.size=1:=rfl;rw[h3]at h1;omega) (by have:=a1.out.2;omega))
    clear hr z;go_wp2_with fail;refine aV F.out ?_;rintro w8 rfl;go_wp2_with fail;refine aV HJ.out ?_;intro w9 b9;go_wp2;go_ret;exact⟨dA HR.out.symm,B7.after b9 B7.size⟩
theorem lD(z x y:aB)(r:List aB):dL z (x::y::r)=x++z++dL z (y::r):=by
 refine fQ ?_;rw[lX,lX];show Lib.join ((x::y::r).map (·.data.toList)) z.data.toList=x.data.toList++z.data.toList++Lib.join ((y::r).map (·.data.toList)) z.data.toList;rw[List.map_cons,List.map_cons,Lib.join_cons,Lib.join_cons];simp[Lib.joinTail,List.append_assoc]
def apK:ByteArray:=⟨#[32,108,105,115,116,32]⟩
def ofS:ByteArray:=⟨#[32,111,102,32]⟩
def as1:ByteArray:=⟨#[32,102,111,114,32]⟩
def asF:ByteArray:=⟨#[32,97,110,100,32]⟩
def ao2:ByteArray:=⟨#[32,115,101,116,32]⟩
def yO(k q:Int)(l:List Int):ByteArray:=jO k++eQ++dB (J4 q)++apK++kJ l
theorem d1:eQ.data.toList=[32]:=rfl
theorem d2:tL.data.toList=[111,102]:=rfl
theorem d3:OV.data.toList=[102,111,114]:=rfl
theorem d4:OK.data.toList=[97,110,100]:=rfl
theorem d5:zZ.data.toList=[115,101,116]:=rfl
theorem d6:XA.data.toList=[108,105,115,116]:=rfl
theorem d7:apK.data.toList=[32,108,105,115,116,32]:=rfl
theorem d8:ofS.data.toList=[32,111,102,32]:=rfl
theorem d9:as1.data.toList=[32,102,111,114,32]:=rfl
theorem d10:asF.data.toList=[32,97,110,100,32]:=rfl
theorem d11:ao2.data.toList=[32,115,101,116,32]:=rfl
theorem S0(k q:Int)(l:aI)(F:aB):dL eQ (oT k q l++[tL,F])=yO k q l++ofS++F:=by
 unfold oT yO;simp only[List.cons_append,List.nil_append,lD,mL];refine fQ ?_;simp[d1,d2,d6,d7,d8]
theorem an3(k q:Int)(l:aI)(F G:aB):dL eQ (oT k q l++[tL,F,OV,G])=yO k q l++ofS++F++as1++G:=by
 unfold oT yO;simp only[List.cons_append,List.nil_append,lD,mL];refine fQ ?_;simp[d1,d2,d3,d6,d7,d8,d9]
theorem an4(k q:Int)(l:aI)(S F:aB):dL eQ (oT k q l++[zZ,S,tL,F])=yO k q l++ao2++S++ofS++F:=by
 unfold oT yO;simp only[List.cons_append,List.nil_append,lD,mL];refine fQ ?_;simp[d1,d2,d5,d6,d7,d8,d11]
theorem an2(k q:Int)(l:aI)(S F G:aB):dL eQ (oT k q l++[zZ,S,tL,F,OK,G])=yO k q l++ao2++S++ofS++F++asF++G:=by
 unfold oT yO;simp only[List.cons_append,List.nil_append,lD,mL];refine fQ ?_;simp[d1,d2,d4,d5,d6,d7,d8,d10,d11]
theorem aeE(k:Int)(h:1<=k/\k<=7):jO k≠ByteArray.empty:=by
 have:(jO k).size≠0:=by rcases(show k=1\/k=2\/k=3\/k=4\/k=5\/k=6\/k=7 from aA) with rfl|rfl|rfl|rfl|rfl|rfl|rfl<;>decide
 intro e;exact this (asI.2 e)
theorem abF(k:Int)(h:¬(1<=k/\k<=7)):jO k=aN:=by
 unfold jO;rw[if_neg aA,if_neg aA,if_neg aA,if_neg aA,if_neg aA,if_neg aA,if_neg aA];rfl
theorem KR(b:aB)(h:b.size≠0):¬ByteArray.empty=b:=fun e=>h (by rw[<-e];rfl)
theorem O2(k q:Int)(l:aI)(r:List aB):ByteArray.empty∈oT k q l++r↔(aN=jO k\/ByteArray.empty∈r):=by
 have a2:¬ByteArray.empty=dB (J4 q):=fun e=>ZG _ e.symm;have a3:¬ByteArray.empty=XA:=KR _ bZ;have a4:¬ByteArray.empty=kJ l:=fun e=>aiX _ e.symm;simp[oT,a2,a3,a4]
theorem tN(k D:Int)(I:aI)(M:Int)(J:aI)(N:Int)(K:aI)(q O:Int)(z:aI)(hk:1<=k/\k<=7)(r:List aB)(hr:nM k (dH D O) (jA D I) (jA M J) (eG N K)=r):
  kY k D I M J N K q O z=if Lib.containsS r aN=true then ByteArray.empty else dL eQ (oT k q z++r):=by
 have F:pX k D I M J N K q O z=oT k q z++r:=by unfold pX;rw[hr]
 unfold kY;rw[F];have hw:¬ByteArray.empty=jO k:=fun e=>aeE k hk e.symm;by_cases hm:Lib.containsS r aN=true
 .rw[if_pos hm,if_pos ((Lib.containsS_iff _ _).2 ((O2 k q z r).2 (.inr ((Lib.containsS_iff _ _).1 hm))))]
 .rw[if_neg hm,if_neg (fun h=>((O2 k q z r).1 ((Lib.containsS_iff _ _).1 h)).elim hw (fun h=>hm ((Lib.containsS_iff _ _).2 h)))]
theorem RG:¬ByteArray.empty=tL:=KR _ bZ
theorem as2:¬ByteArray.empty=OV:=KR _ bZ
theorem asG:¬ByteArray.empty=OK:=KR _ bZ
theorem al5:¬ByteArray.empty=zZ:=KR _ bZ
end
end Go.Proofs.YtkdbkjjacgigiaaGreatDoor
section
namespace Go.G5
open Go Go.RowKit
theorem T0{P:Program}{w:World}{t u z e D:TypeId}(ht:P.underlying t=some (.slice e))(F:P.underlying u=some (.slice D))(s x:Value):
  (Builtin.append_ #[t,u] z #[s,x]).run P w=(Builtin.append_ #[t,t] z #[s,x]).run P w:=by
 unfold Builtin.append_
 cases s with
 |slice b n c=>simp[run_underlying ht,run_underlying F]
 |_=>simp[run_underlying ht]
theorem R9{P:Program}{w:World}{ops:Array Oper}{rest:List Oper}{o:Oper}{a:Act}{Q:Exit->Act->World->Prop}(I:o.guard=none)(s x:Operand)(t u:TypeId)
  (ho:o.op=.call { callee:=.builtin .append,args:=#[s,x],argTypes:=#[t,u] })
  (E E':TypeId) (ht:P.underlying t=some (.slice E)) (Y:P.underlying u=some (.slice E')) (hE:StrElem P E) (B:Nat) (v:Value) (l z:List aB) (b m c:Nat) (hs:a.eval s=v) (hx:a.eval x=aD (some ⟨b,0,none⟩) m c) (hm:m=z.length)
  (hy:∀(j:Nat) y,z[j]?=some y->w.cell? ⟨b,0+j,none⟩=some (aR y))
  (D:fI E B w v l) (R:l.length+z.length<1000000) (hB:B<=w.heap.size)
  (h:∀F w',fI E B w' F (l++z)->w.grownBy w' v.ownBlock->(F.ownBlock=v.ownBlock\/F.ownBlock=some w.heap.size)->wpList P ops Q rest (a.put o.dst F) w'):wpList P ops Q (o::rest) a w:=by
 obtain⟨i,hi,hz,h1,Z⟩:=hE.get;subst hm;have M:∀j u,(z.map Value.string)[j]?=some u->w.cell? ((⟨b,0,none⟩:Addr).add j)=some u:=by intro j u J;rw[List.getElem?_map]at J;exact akC
 have S:∀u∈z.map Value.string,u.oneCell'=true:=by
  intro u Y;obtain⟨y,_,rfl⟩:=List.mem_map.1 Y
  rfl
 obtain⟨F,w',hr,h2,h3,_,h5⟩:=run_append_own_at (P:=P) w B t o.type E i (aR aN) 1 16 ht hi hz h1 Z rfl bZ v l.length (l.map Value.string) D ⟨b,0,none⟩ z.length c (z.map Value.string) bF M S (by unfold maxLen;omega) aA hB;refine wpList_plain I fun K hK=>?_;unfold Oper.wp execOp;simp only[ho,resolve,invoke,builtin,Sem.run_bind,Sem.run_pure,Result.andThen_ok,List.map_toArray,List.map_cons,List.map_nil,hs,hx,T0 ht Y,hr];exact hK _ _ (h F w' (by simpa[fI]using h2) h3 h5)
end Go.G5
namespace Go.Proofs.YtkdbkjjacgigiaaGreatDoor
open Go.RowKit Go.G5 Go.Proofs.Tryz
def kE(z:Nat)(w:World)(D:List ByteArray):Prop:=∃v,bK w z 143 #[v]/\fI 9 (z+1) w v D
theorem kE.keep{z:Nat}{w w':World}{D:List aB}(h:kE z w D)(hb:Below w w w'):kE z w' D:=by
 obtain⟨v,k,o⟩:=h;exact⟨v,k.keep hb,o.keep hb⟩
theorem kE.lt{z:Nat}{w:World}{D:List aB}(h:kE z w D):z<w.heap.size:=by
 obtain⟨v,k,o⟩:=h;exact k.lt
theorem kE.new(w:World):kE w.heap.size (w.alloc (.cells #[()] 143)) []:=⟨_,bK.new _ _ _,fI.nil _ _ _⟩
theorem dN{z g:Nat}{w w':World}{t:TypeId}{cs:Array Value}(h:bK w g t cs)(hb:Below z w w')(D:g<z):bK w' g t cs:=(hb.block g D).trans h
theorem fI.growIn{w w':World}{P:Nat->Prop}{E:TypeId}{B:Nat}{v:Value}{l:List aB}(h:fI E B w v l)(J:GrownIn w w' P)(K:∀k,v.ownBlock=some k->¬P k):fI E B w' v l:=by
 obtain⟨I,h1⟩:=h;refine⟨I,?_⟩;rcases h1 with h1|⟨g,cap,D,rfl,F,z,r⟩
 .exact .inl h1
 .exact .inr ⟨g,cap,D,rfl,F,by rw[J.block g (by have:=(dU.1 z).1;omega) (K g rfl)];exact z,r⟩
theorem U9(z:Nat)(v:Value)(M I:List aB)(b m c:Nat)(w:World)(K:bK w z 143 #[v])(Y:fI 9 (z+1) w v M)(hm:m=I.length)
  (hy:∀(j:Nat) y,I[j]?=some y->w.cell? ⟨b,0+j,none⟩=some (aR y)) (J:M.length+I.length<1000000):
  Calls prog 177 #[aP (some ⟨z,0,none⟩),aD (some ⟨b,0,none⟩) m c] w fun e w'=>e=aQ (aS #[])/\∃v',bK w' z 143 #[v']/\fI 9 (z+1) w' v' (M++I) /\
   (∀k,v'.ownBlock=some k->v.ownBlock=some k\/w.heap.size<=k)/\GrownIn w w' (fun k=>k=z\/v.ownBlock=some k):=by
 obtain⟨a,n,cp,rfl⟩:=Y.shape3;have zo:=K.lt;have hlt:=Y.lt;have G:=K.cell;have F:=K.frozen;go_enter func177,ntmps177;go_wp2_with (at_builtin;refine R9 rfl _ _ _ _ rfl 9 9 underlying143 underlying52 yG (z+1) (aD a n cp) M I b m c rfl rfl hm hy Y J aA ?_;intro v7 w7 Z g7 h7;obtain⟨O,N,R,rfl⟩:=Z.shape3;have S:=K.grow g7 (by intro e;have:=(hlt _ e).1;omega);have G7:=S.cell;have F7:=S.frozen);refine cT ?_;intro Wf D;have KF:bK Wf z 143 #[aD O N R]:=by rw[D];have:=S.set 0 (aD O N R);simpa using this
 have gF:w7.grownBy Wf (some z):=by rw[D];exact cX (dO _ _) 0 _
 have lt7:=Z.lt;have oF:fI 9 (z+1) Wf (aD O N R) (M++I):=Z.grown gF (by
  by_cases h:(Value.slice O N R).ownBlock=some z
  .have:=(lt7 _ h).1;omega
  .exact .inr h)
 have hG:GrownIn w Wf (fun k=>k=z\/(Value.slice a n cp).ownBlock=some k):=(GrownIn.of_row g7 (fun k hk=>.inr hk)).trans (GrownIn.of_row gF (fun k hk=>.inl (cI hk).symm));clear D G7 F7 G F;exact bodyPost_end (v:=aS #[]) (results_none rfl _ _ _) rfl ⟨rfl,_,KF,oF,fun k hk=>by
  rcases h7 with h|h
  .exact .inl (h▸hk)
  .rw[h]at hk;exact .inr (by have:=cI hk;omega),hG⟩
theorem VA{z:Nat}{v:Value}{F I:List aB}{w w':World}(K:bK w z 143 #[v])(J:fI 9 (z+1) w v F)
  (h:∃D,bK w' z 143 #[D]/\fI 9 (z+1) w' D (F++I)/\(∀k,D.ownBlock=some k->v.ownBlock=some k\/w.heap.size<=k)/\GrownIn w w' (fun k=>k=z\/v.ownBlock=some k)):kE z w' (F++I)/\Below z w w':=by
 obtain⟨D,k,o,_,g⟩:=h;have M:=K.lt;exact⟨⟨D,k,o⟩,Below.growIn (bJ z w) g aA (by
  rintro q (h|h)
  .omega
  .have:=(J.lt q h).1;omega)⟩
theorem fH(z:Nat)(I F:List aB)(b m c:Nat)(w:World)(L:kE z w I)(hm:m=F.length)
  (N:∀(j:Nat) y,F[j]?=some y->w.cell? ⟨b,0+j,none⟩=some (aR y)) (D:I.length+F.length<1000000):
  Calls prog 177 #[aP (some ⟨z,0,none⟩),aD (some ⟨b,0,none⟩) m c] w fun e w'=>e=aQ (aS #[])/\kE z w' (I++F)/\Below z w w':=by
 obtain⟨v,K,J⟩:=L;exact(U9 z v I F b m c w K J hm N D).mono fun e w' ⟨M,h⟩=>⟨M,VA K J h⟩
theorem jC{w:World}{b:Nat}{x y:aB}(F:w.cell? ⟨b,0,none⟩=some (aR x))(h1:w.cell? ⟨b,1,none⟩=some (aR y)):∀(j:Nat) z,[x,y][j]?=some z->w.cell? ⟨b,0+j,none⟩=some (aR z):=by
 intro j z D
 match j,D with
 |0,D=>cases D;exact F
 |1,D=>cases D;exact h1
theorem D2{w:World}{b:Nat}{x:aB}(F:w.cell? ⟨b,0,none⟩=some (aR x)):∀(j:Nat) z,[x][j]?=some z->w.cell? ⟨b,0+j,none⟩=some (aR z):=by
 intro j z D
 match j,D with
 |0,D=>cases D;exact F
theorem pH{B B':Nat}{w w1 z:World}(h:Below B' w w1)(k:Below B w1 z)(hB:B<=B'):Below B w z:=(h.mono hB).trans k
theorem gX(z:Nat)(D:List aB)(I:aB)(n:Int)(N:fM n)(w:World)(L:kE z w D)(O:lA w)(J:D.length<1000):
  Calls prog 179 #[aP (some ⟨z,0,none⟩),aR I,n] w fun e w'=>e=aQ (aS #[])/\kE z w' (D++[I,dB n])/\Below z w w':=by
 have Y:=L.lt;go_enter func179,ntmps179;go_wp2_with fail;refine aV (C9 n N w O) ?_;intro w1 F;have K:=L.keep F;go_wp2_with fail;refine aV (fH z D [I,dB n] w1.heap.size 2 2 _ (K.keep (cQ _ _)) rfl (jC (cR _ _ _ _ _ rfl) (cR _ _ _ _ _ rfl)) bO) ?_;rintro R ⟨M,b2⟩;have S:=F.size;go_wp2;exact bodyPost_end (v:=aS #[]) (results_none rfl _ _ _) rfl ⟨rfl,M,pH F (pH (cQ w1 _) b2 aA) aA⟩
theorem nK(z:Nat)(I:List aB)(J:aB)(Y:Value)(l:aI)(w:World)(S:Ints w Y l)(hl:l.length<=1000)(L:kE z w I)(hp:lA w)(R:I.length<1000):
  Calls prog 180 #[aP (some ⟨z,0,none⟩),aR J,Y] w fun e w'=>e=aQ (aS #[])/\kE z w' (I++[J,gY l])/\Below z w w':=by
 have zo:=L.lt;have O:=S;obtain⟨a,c,rfl⟩:=S.shape;by_cases D:l=[]
 .have F:gY l=gT:=by unfold gY;rw[if_pos D]
  have K:=aT F;have hz:¬(0:Int)<(l.length:Int):=by subst D;simp
  clear F D;go_enter func180,ntmps180;go_wp2_with fail;refine aV (fH z I [J,gT] w.heap.size 2 2 _ (L.keep (cQ _ _)) rfl (jC (cR _ _ _ _ _ rfl) (cR _ _ _ _ _ rfl)) bO) ?_;rintro w2 ⟨M,b2⟩;go_wp2;exact bodyPost_end (v:=aS #[]) (results_none rfl _ _ _) rfl ⟨rfl,by rw[K.out];exact M,pH (cQ w _) b2 aA⟩
 .have F:gY l=dL jE (l.map dB):=by unfold gY;rw[if_neg D]
  have K:=aT F;have hz:(0:Int)<(l.length:Int):=by have:l.length≠0:=fun e=>D (eS e);omega
  clear F D;go_enter func180,ntmps180;go_wp2_with fail;refine aV (xH l _ w O hl hp) ?_;intro w1 N;rw[<-K.out];have Z:=L.keep N;have z1:=N.size;go_wp2_with fail;refine aV (fH z I [J,gY l] w1.heap.size 2 2 _ (Z.keep (cQ _ _)) rfl (jC (cR _ _ _ _ _ rfl) (cR _ _ _ _ _ rfl)) bO) ?_;rintro w2 ⟨M,b2⟩;go_wp2;exact bodyPost_end (v:=aS #[]) (results_none rfl _ _ _) rfl ⟨rfl,M,pH N (pH (cQ w1 _) b2 aA) aA⟩
def fX(b:Bool)(x:ByteArray):List ByteArray:=if b then [x] else []
theorem jJ(z:Nat)(D:List aB)(F:aB)(h:Bool)(w:World)(L:kE z w D)(I:D.length<1000):
  Calls prog 183 #[aP (some ⟨z,0,none⟩),aR F,aG h] w fun e w'=>e=aQ (aS #[])/\kE z w' (D++fX h F)/\Below z w w':=by
 have M:=L.lt
 cases h with
 |false=>go_enter func183,ntmps183;go_wp2;exact bodyPost_end (v:=aS #[]) (results_none rfl _ _ _) rfl ⟨rfl,by show kE z w (D++[]);rw[List.append_nil];exact L,bJ _ _⟩
 |true=>go_enter func183,ntmps183;go_wp2_with fail;refine aV (fH z D [F] w.heap.size 1 1 _ (L.keep (cQ _ _)) rfl (D2 (cR _ _ _ _ _ rfl)) bO) ?_;rintro K ⟨J,b2⟩;go_wp2;exact bodyPost_end (v:=aS #[]) (results_none rfl _ _ _) rfl ⟨rfl,J,pH (cQ w _) b2 aA⟩
def fY:ByteArray:=⟨#[32]⟩
theorem fG(B:Nat)(v:Value)(D:List aB)(w:World)(F:fI 9 B w v D)(z:(dL fY D).size<=100000000)(K:D.length<=1000000):
  aH 191 #[v] w (aR (dL fY D)):=by
 obtain⟨a,n,c,rfl⟩:=F.shape3;have I:=aT (I5 B w (aD a n c) D fY F z K);go_enter func191,ntmps191;go_wp2_with fail;refine aV I.out ?_;intro w1 J;go_wp2;go_ret;exact⟨rfl,J⟩
def xF(z:Nat)(u:Value)(w:World)(D:List ByteArray):Prop:=∃v,bK w z 143 #[v]/\fI 9 (z+1) w v D/\∀k,v.ownBlock=some k->u.ownBlock≠some k
theorem xF.line{z:Nat}{u:Value}{w:World}{D:List aB}(h:xF z u w D):kE z w D:=by
 obtain⟨v,k,o,_⟩:=h;exact⟨v,k,o⟩
theorem xF.keep{z:Nat}{u:Value}{w w':World}{D:List aB}(h:xF z u w D)(hb:Below w w w'):xF z u w' D:=by
 obtain⟨v,k,o,a⟩:=h;exact⟨v,k.keep hb,o.keep hb,a⟩
theorem kE.far{z:Nat}{u:Value}{w w':World}{D:List aB}(h:kE z w D)(hb:Below w w w')(J:∀k,u.ownBlock=some k->w.heap.size<=k):xF z u w' D:=by
 obtain⟨v,k,o⟩:=h;exact⟨v,k.keep hb,o.keep hb,fun q I F=>by have:=(o.lt q I).2;have:=J q F;omega⟩
theorem aiW(D:Nat)(u:Value)(N M:List aB)(b m c:Nat)(w:World)(L:xF D u w N)(O:∀k,u.ownBlock=some k->D<k/\k<w.heap.size)(hm:m=M.length)
  (hy:∀(j:Nat) y,M[j]?=some y->w.cell? ⟨b,0+j,none⟩=some (aR y)) (F:N.length+M.length<1000000):
  Calls prog 177 #[aP (some ⟨D,0,none⟩),aD (some ⟨b,0,none⟩) m c] w fun e w'=>e=aQ (aS #[])/\xF D u w' (N++M)/\Below D w w'/\∀k,u.ownBlock=some k->w'.heap[k]?=w.heap[k]?:=by
 obtain⟨v,K,S,R⟩:=L;refine(U9 D v N M b m c w K S hm hy F).mono fun e w' ⟨Z,Y,k,o,z,g⟩=>⟨Z,⟨Y,k,o,fun q I J=>?_⟩,(VA K S ⟨Y,k,o,z,g⟩).2,fun q I=>?_⟩
 .rcases z q I with h|h
  .exact R q h J
  .have:=(O q J).2;omega
 .refine g.block q (O q I).2 ?_;rintro(h|h)
  .have:=(O q I).1;omega
  .exact R q h I
theorem EF(z:Nat)(u:Value)(F:List aB)(J:aB)(n:Int)(R:fM n)(w:World)(L:xF z u w F)(M:∀k,u.ownBlock=some k->z<k/\k<w.heap.size)(S:lA w)(K:F.length<1000):
  Calls prog 179 #[aP (some ⟨z,0,none⟩),aR J,n] w fun e w'=>e=aQ (aS #[])/\xF z u w' (F++[J,dB n])/\Below z w w'/\∀k,u.ownBlock=some k->w'.heap[k]?=w.heap[k]?:=by
 have zo:=L.line.lt;have I:=aT M;clear M;go_enter func179,ntmps179;go_wp2_with fail;refine aV (C9 n R w S) ?_;intro w1 D;have N:=L.keep D;have z1:=D.size;go_wp2_with fail;refine aV (aiW z u F [J,dB n] w1.heap.size 2 2 _ (N.keep (cQ _ _)) (fun k hk=>⟨(I.out k hk).1,by have:=(I.out k hk).2;simp;omega⟩) rfl (jC (cR _ _ _ _ _ rfl) (cR _ _ _ _ _ rfl)) bO) ?_;rintro Z ⟨O,b2,Y⟩;go_wp2;refine bodyPost_end (v:=aS #[]) (results_none rfl _ _ _) rfl ⟨rfl,O,pH D (pH (cQ w1 _) b2 aA) aA,fun k hk=>?_⟩;have h1:=(I.out k hk).2;rw[Y k hk,(cQ w1 _).block k aA,D.block k h1]
theorem EE{w w':World}{v:Value}{l:aI}(h:Ints w v l)(I:w.heap.size<=w'.heap.size)(F:∀k,v.ownBlock=some k->w'.heap[k]?=w.heap[k]?):Ints w' v l:=by
 obtain⟨a,c,rfl,h1,h2,h3,h4⟩:=h;refine⟨a,c,rfl,h1,h2,h3,?_⟩;rcases h4 with h4|⟨b,D,rfl,hb,hc⟩
 .exact .inl h4
 .refine .inr ⟨b,D,rfl,dX hb I,fun k hk=>?_⟩;have z:=hc k hk;have e:=F b rfl;unfold World.cell? at z |-;simp only at z |-;rw[e];exact z
end Go.Proofs.YtkdbkjjacgigiaaGreatDoor
end
namespace Go.Proofs.YtkdbkjjacgigiaaGreatDoor
section
open Go.RowKit Go.G5 Go.Proofs.Tryz
def lT(b:Bool)(x:ByteArray):ByteArray:=if b then x else ByteArray.empty
theorem mX(z:List aB)(h:z≠[])(b:Bool)(x y:aB)(D:y=eQ++x):dL eQ (z++fX b x)=dL eQ z++lT b y:=by
 subst D
 cases b with
 |false=>show dL eQ (z++[])=dL eQ z++ByteArray.empty;rw[List.append_nil];exact fQ (by rw[lX];simp)
 |true=>show dL eQ (z++[x])=dL eQ z++(eQ++x);rw[QP _ _ _ h];refine fQ ?_;simp only[lX,List.append_assoc]
theorem vS(z:List aB)(h:z≠[])(b:Bool)(x:aB):z++fX b x≠[]:=fun e=>h (List.append_eq_nil_iff.1 e).1
def KW(F G M S:ByteArray):List ByteArray:=[⟨#[102,117,110,99,116,105,111,110]⟩,F,⟨#[103,97,112]⟩,G,⟨#[109,97,115,115,101,115]⟩,M,⟨#[115,104,97,112,108,101,121]⟩,S]
def CT(F G M S:ByteArray):ByteArray:=⟨#[102,117,110,99,116,105,111,110,32]⟩++F++⟨#[32,103,97,112,32]⟩++G++⟨#[32,109,97,115,115,101,115,32]⟩++M++⟨#[32,115,104,97,112,108,101,121,32]⟩++S
theorem ah6(F G M S:aB):dL eQ (KW F G M S)=CT F G M S:=by
 unfold KW CT;simp only[lD,mL];refine fQ ?_;simp[eQ]
def QF(F G M S:ByteArray)(z D b2 I J K N:Bool):List ByteArray:=KW F G M S++fX z ⟨#[115,117,98,109,111,100,117,108,97,114]⟩++fX D ⟨#[115,117,112,101,114,109,111,100,117,108,97,114]⟩++fX b2 ⟨#[105,110,99,114,101,97,115,105,110,103]⟩++fX I ⟨#[103,114,111,117,110,100,101,100]⟩++fX J ⟨#[115,121,109,109,101,116,114,105,99]⟩++fX K ⟨#[112,111,108,121,109,97,116,114,111,105,100]⟩++fX N ⟨#[109,97,116,114,111,105,100]⟩
def M0(F G M S:ByteArray)(z D b2 I J K N:Bool):ByteArray:=CT F G M S++lT z ⟨#[32,115,117,98,109,111,100,117,108,97,114]⟩++lT D ⟨#[32,115,117,112,101,114,109,111,100,117,108,97,114]⟩++lT b2 ⟨#[32,105,110,99,114,101,97,115,105,110,103]⟩++lT I ⟨#[32,103,114,111,117,110,100,101,100]⟩++lT J ⟨#[32,115,121,109,109,101,116,114,105,99]⟩++lT K ⟨#[32,112,111,108,121,109,97,116,114,111,105,100]⟩++lT N ⟨#[32,109,97,116,114,111,105,100]⟩
theorem U0(F G M S:aB)(z D b2 I J K N:Bool):dL eQ (QF F G M S z D b2 I J K N)=M0 F G M S z D b2 I J K N:=by
 have O:KW F G M S≠[]:=by simp[KW]
 have h1:=vS _ O z ⟨#[115,117,98,109,111,100,117,108,97,114]⟩;have h2:=vS _ h1 D ⟨#[115,117,112,101,114,109,111,100,117,108,97,114]⟩;have h3:=vS _ h2 b2 ⟨#[105,110,99,114,101,97,115,105,110,103]⟩;have h4:=vS _ h3 I ⟨#[103,114,111,117,110,100,101,100]⟩;have R:=vS _ h4 J ⟨#[115,121,109,109,101,116,114,105,99]⟩;have Y:=vS _ R K ⟨#[112,111,108,121,109,97,116,114,111,105,100]⟩;unfold QF M0;rw[mX _ Y N _ ⟨#[32,109,97,116,114,111,105,100]⟩ rfl,mX _ R K _ ⟨#[32,112,111,108,121,109,97,116,114,111,105,100]⟩ rfl,mX _ h4 J _ ⟨#[32,115,121,109,109,101,116,114,105,99]⟩ rfl,mX _ h3 I _ ⟨#[32,103,114,111,117,110,100,101,100]⟩ rfl,mX _ h2 b2 _ ⟨#[32,105,110,99,114,101,97,115,105,110,103]⟩ rfl,mX _ h1 D _ ⟨#[32,115,117,112,101,114,109,111,100,117,108,97,114]⟩ rfl,mX _ O z _ ⟨#[32,115,117,98,109,111,100,117,108,97,114]⟩ rfl,ah6]
theorem eK(b:Bool)(x:aB):(fX b x).length<=1:=by cases b<;>simp[fX]
theorem xB{p:Prop}(h:p:=by first|(simp only[List.length_cons,List.length_nil];omega)|(have:=eK _ _;omega)|(simp[fX];omega)):p:=h
theorem fR(b:Bool)(x:aB):(lT b x).size<=x.size:=by cases b<;>simp[lT]
theorem pK(l:aI)(h:∀x∈l,fM x):(gY l).size<=22*l.length+4:=by
 unfold gY
 split
 .show 4<=_;omega
 .have:=uN l h;omega
theorem KY(F G M S:aB)(D:F.size<=1000)(I:G.size<=1000)(J:M.size<=1000)(K:S.size<=1000):(CT F G M S).size<=4100:=by
 unfold CT;simp only[ByteArray.size_append];have e1:(⟨#[102,117,110,99,116,105,111,110,32]⟩:aB).size=9:=rfl;have e2:(⟨#[32,103,97,112,32]⟩:aB).size=5:=rfl;have e3:(⟨#[32,109,97,115,115,101,115,32]⟩:aB).size=8:=rfl;have z:(⟨#[32,115,104,97,112,108,101,121,32]⟩:aB).size=9:=rfl;omega
theorem DJ{n:Int}{l:aI}(D:cS n l=true):(iN n l).length<=32:=by
 obtain⟨N,_,_,_,z,_⟩:=eJ D;unfold iN;rw[if_pos D,oW];exact z
theorem JU{n:Int}{l:aI}(z:cS n l=true):(kR n l).length<=5:=by
 obtain⟨N,rfl,D,_⟩:=eJ z;unfold kR;rw[if_pos z];simp[sO];omega
def sL(n:Int)(l:List Int):ByteArray:=if cS n l then dL fY (QF (jA n l) (dB (qP n l)) (gY (iN n l)) (gY (kR n l)) (iW n l) (wP n l) (rG n l) (gP n l) (uG n l) (gU n l) (eX n l)) else ByteArray.empty
theorem QG{n:Int}{l:aI}(z:cS n l=true):sL n l=dL fY (QF (jA n l) (dB (qP n l)) (gY (iN n l)) (gY (kR n l)) (iW n l) (wP n l) (rG n l) (gP n l) (uG n l) (gU n l) (eX n l)):=by unfold sL;rw[if_pos z]
theorem YU(F G M S:aB)(z D b2 I J K N:Bool)(O:F.size<=1000)(R:G.size<=1000)(Y:M.size<=1000)(Z:S.size<=1000):(M0 F G M S z D b2 I J K N).size<=5000:=by
 have h0:=KY F G M S O R Y Z;unfold M0;simp only[ByteArray.size_append];have s0:=fR z (⟨#[32,115,117,98,109,111,100,117,108,97,114]⟩:aB);have t0:(⟨#[32,115,117,98,109,111,100,117,108,97,114]⟩:aB).size=11:=rfl;have s1:=fR D (⟨#[32,115,117,112,101,114,109,111,100,117,108,97,114]⟩:aB);have t1:(⟨#[32,115,117,112,101,114,109,111,100,117,108,97,114]⟩:aB).size=13:=rfl;have s2:=fR b2 (⟨#[32,105,110,99,114,101,97,115,105,110,103]⟩:aB);have t2:(⟨#[32,105,110,99,114,101,97,115,105,110,103]⟩:aB).size=11:=rfl;have s3:=fR I (⟨#[32,103,114,111,117,110,100,101,100]⟩:aB);have t3:(⟨#[32,103,114,111,117,110,100,101,100]⟩:aB).size=9:=rfl;have s4:=fR J (⟨#[32,115,121,109,109,101,116,114,105,99]⟩:aB);have t4:(⟨#[32,115,121,109,109,101,116,114,105,99]⟩:aB).size=10:=rfl;have s5:=fR K (⟨#[32,112,111,108,121,109,97,116,114,111,105,100]⟩:aB);have t5:(⟨#[32,112,111,108,121,109,97,116,114,111,105,100]⟩:aB).size=12:=rfl;have s6:=fR N (⟨#[32,109,97,116,114,111,105,100]⟩:aB);have t6:(⟨#[32,109,97,116,114,111,105,100]⟩:aB).size=8:=rfl;omega
theorem QH(n:Int)(l:aI)(hm:∀x∈iN n l,fM x)(D:∀x∈kR n l,fM x):(sL n l).size<=5000:=by
 unfold sL
 split
 .rename_i z;have h1:=DJ z;have h2:=JU z;have h3:=pK _ hm;have h4:=pK _ D;have F:=vY n l;have I:=SX n l;have J:=eB (qP n l) ⟨aA,aA⟩;rw[show fY=eQ from rfl,U0];exact YU _ _ _ _ _ _ _ _ _ _ _ aA aA aA aA
 .simp
def qW:List ByteArray->ByteArray
 |[]=>ByteArray.empty
 |y::r=>eQ++y++qW r
theorem RW:∀r:List aB,(qW r).data.toList=Lib.joinTail [32] (r.map (·.data.toList))
 |[]=>rfl
 |y::r=>by rw[qW,lX,lX,RW r];simp[Lib.joinTail,d1]
theorem tR(z D:List aB)(h:z≠[]):dL eQ (z++D)=dL eQ z++qW D:=by
 cases z with
 |nil=>exact absurd rfl h
 |cons x r=>refine fQ ?_;rw[lX,RW];show Lib.join ((x::(r++D)).map (·.data.toList)) eQ.data.toList=Lib.join ((x::r).map (·.data.toList)) eQ.data.toList++_;rw[List.map_cons,List.map_cons,Lib.join_cons,Lib.join_cons,List.map_append,LJ,d1];simp[List.append_assoc]
def XX(N A:ByteArray):List ByteArray:=[(⟨#[99,111,118,101,114]⟩:ByteArray),(⟨#[112,97,99,107,105,110,103]⟩:ByteArray),N,(⟨#[111,102]⟩:ByteArray),A]
def MV(N A:ByteArray):ByteArray:=(⟨#[99,111,118,101,114,32,112,97,99,107,105,110,103,32]⟩:ByteArray)++N++(⟨#[32,111,102,32]⟩:ByteArray)++A
theorem aqE(N A:aB):dL eQ (XX N A)=MV N A:=by
 unfold XX MV;simp only[lD,mL];refine fQ ?_;simp[eQ]
def am2(b:Bool)(N S:ByteArray):List ByteArray:=if b then [(⟨#[116,114,97,110,115,118,101,114,115,97,108]⟩:ByteArray),N,(⟨#[98,121]⟩:ByteArray),S] else []
def MW(b:Bool)(X N S:ByteArray):ByteArray:=if b then X++(⟨#[32,116,114,97,110,115,118,101,114,115,97,108,32]⟩:ByteArray)++N++(⟨#[32,98,121,32]⟩:ByteArray)++S else X
theorem aqF(b:Bool)(X N S:aB):X++qW (am2 b N S)=MW b X N S:=by
 cases b with
 |false=>exact fQ (by rw[lX];show X.data.toList++[]=X.data.toList;simp)
 |true=>refine fQ ?_;simp[am2,MW,qW,eQ]
def am3(b:Bool)(N M P:ByteArray):List ByteArray:=if b then [(⟨#[115,109,97,108,108,101,115,116]⟩:ByteArray),N,(⟨#[103,114,101,101,100,121]⟩:ByteArray),M,(⟨#[112,114,105,99,101,115]⟩:ByteArray),P] else []
def MX(b:Bool)(X N M P:ByteArray):ByteArray:=if b then X++(⟨#[32,115,109,97,108,108,101,115,116,32]⟩:ByteArray)++N++(⟨#[32,103,114,101,101,100,121,32]⟩:ByteArray)++M++(⟨#[32,112,114,105,99,101,115,32]⟩:ByteArray)++P else X
theorem aqG(b:Bool)(X N M P:aB):X++qW (am3 b N M P)=MX b X N M P:=by
 cases b with
 |false=>exact fQ (by rw[lX];show X.data.toList++[]=X.data.toList;simp)
 |true=>refine fQ ?_;simp[am3,MX,qW,eQ]
def aeZ(g:Int)(l:List Int):List ByteArray:=(XX (dB ((oN g l).length:Int)) (eG g (oN g l))++am2 (nN g l) (dB (xD g l)) (dH g (qY g l)))++am3 (mH g l) (dB ((iV g l).length:Int)) (dB ((fC g l).length:Int)) (gY (gM g l))
def KN(g:Int)(l:List Int):ByteArray:=MX (mH g l) (MW (nN g l) (MV (dB ((oN g l).length:Int)) (eG g (oN g l))) (dB (xD g l)) (dH g (qY g l))) (dB ((iV g l).length:Int)) (dB ((fC g l).length:Int)) (gY (gM g l))
theorem asQ(g:Int)(l:aI):dL eQ (aeZ g l)=KN g l:=by
 unfold aeZ KN;rw[tR _ _ (by simp[XX]),tR _ _ (by simp[XX]),aqE,aqF,aqG]
def vV(g:Int)(l:List Int):ByteArray:=if cO g l then KN g l else ByteArray.empty
theorem D4{g:Int}{l:aI}(h:cO g l=true):vV g l=KN g l:=by unfold vV;rw[if_pos h]
theorem OQ{g:Int}{l:aI}(h:cO g l=false):vV g l=aN:=by unfold vV;rw[h];rfl
theorem L0(g:Int)(l:aI):(gM g l).length<=6:=by
 unfold gM
 split
 .rename_i h;rw[PE];unfold iH kB at h
  split at h
  .rename_i z;obtain⟨D,F,_⟩:=fF z;omega
  .simp at h
 .simp
theorem P3(N A:aB)(D:N.size<=21)(z:A.size<=10000):(MV N A).size<=10100:=by
 unfold MV;simp only[ByteArray.size_append];have e1:(⟨#[99,111,118,101,114,32,112,97,99,107,105,110,103,32]⟩:aB).size=14:=rfl;have e2:(⟨#[32,111,102,32]⟩:aB).size=4:=rfl;omega
theorem P4(b:Bool)(X N S:aB)(F:X.size<=10100)(z:N.size<=21)(D:S.size<=132):(MW b X N S).size<=10300:=by
 cases b with
 |false=>show X.size<=_;omega
 |true=>unfold MW;rw[if_pos rfl];simp only[ByteArray.size_append];have e1:(⟨#[32,116,114,97,110,115,118,101,114,115,97,108,32]⟩:aB).size=13:=rfl;have e2:(⟨#[32,98,121,32]⟩:aB).size=4:=rfl;omega
theorem aeX(b:Bool)(X N M P:aB)(I:X.size<=10300)(D:N.size<=21)(z:M.size<=21)(F:P.size<=200):(MX b X N M P).size<=11000:=by
 cases b with
 |false=>show X.size<=_;omega
 |true=>unfold MX;rw[if_pos rfl];simp only[ByteArray.size_append];have e1:(⟨#[32,115,109,97,108,108,101,115,116,32]⟩:aB).size=10:=rfl;have e2:(⟨#[32,103,114,101,101,100,121,32]⟩:aB).size=8:=rfl;have e3:(⟨#[32,112,114,105,99,101,115,32]⟩:aB).size=8:=rfl;omega
theorem aaF(g:Int)(l:aI):(oN g l).length<=64:=by
 unfold oN
 split
 .rename_i z;exact yC 64 l 0 [] [] (by simpa using kZ z) bF
 .simp
theorem UP(g:Int)(l:aI)(h:mH g l=true->∀x∈gM g l,fM x):(KN g l).size<=11000:=by
 have h1:=aaF g l;have h2:=eB ((oN g l).length:Int) ⟨aA,aA⟩;have h3:=gK g (oN g l);have h4:=aa9 g l;have D:=eB (xD g l) ⟨aA,aA⟩;have F:=gN g (qY g l);have I:=P3 _ _ h2 h3;have z:=P4 (nN g l) _ _ _ I D F;unfold KN
 cases hb:mH g l with
 |false=>exact dC z bZ
 |true=>have J:=JV g l;have K:=yN g l;have hc:=pK _ (h hb);have hd:=L0 g l;exact aeX _ _ _ _ _ z (eB _ ⟨aA,aA⟩) (eB _ ⟨aA,aA⟩) aA
theorem ao7(B:Nat)(v:Value)(l:aI)(w:World)(h:bB 3 B w v l)(hl:l.length<=1048576):
  Calls prog 324 #[v] w fun e w'=>e=aQ (aS #[])/\bB 3 B w' v (l.mergeSort fun x y=>decide (x<=y))/\w.grownBy w' v.ownBlock:=by
 have hr:∀x∈(l.mergeSort fun x y=>decide (x<=y)),fM x:=fun x F=>h.2 x (List.mem_mergeSort.1 F);rcases h.cases with⟨rfl,rfl⟩|⟨g,cap,rfl,hB,D⟩
 .refine(DY none 0 w).mono ?_;rintro e w' ⟨z,rfl⟩;exact⟨z,by simpa using h,dO _ _⟩
 .refine(MD g 0 cap l w (h.holds rfl) D aA).mono ?_;rintro e w' ⟨z,n,os,rfl⟩;have:=h.put (l.mergeSort fun x y=>decide (x<=y)) (List.length_mergeSort _) hr n os;exact⟨z,this.1,this.2⟩
theorem abY(B:Nat)(v:Value)(l:aI)(w:World)(h:bB 3 B w v l)(hl:l.length<=1048576):
  Calls prog 326 #[v] w fun e w'=>∃ad i c,e=aQ (aD ad i c)/\bB 3 B w' (aD ad i c) (Lib.compact l)/\w.grownBy w' v.ownBlock:=by
 rcases h.cases with⟨rfl,rfl⟩|⟨g,cap,rfl,hB,N⟩
 .refine(BJ none 0 w).mono ?_;rintro e w' ⟨I,rfl⟩;exact⟨none,0,0,I,h,dO _ _⟩
 .have D:=h.ints.capLe
  have hcl:(Lib.compact l).length<=l.length:=NY l.toArray l.length;refine(G8 g 0 cap l w (h.holds rfl) aA D.2.1).mono ?_;rintro e w' ⟨I,q,rfl⟩;have F:∀x∈Lib.compact l++List.replicate (l.length-(Lib.compact l).length) 0,fM x:=by
   intro x z;rcases dM.1 z with z|z
   .unfold Lib.compact Lib.compactUpTo at z;obtain⟨j,M,rfl⟩:=List.mem_map.1 z;have J:=List.mem_range.1 (List.mem_filter.1 M).1;rw[getElem!_pos l.toArray j (by simpa using J)];exact h.2 _ bF
   .have:=List.eq_of_mem_replicate z;subst this;exact⟨aA,aA⟩
  have K:=h.put (Lib.compact l++List.replicate (l.length-(Lib.compact l).length) 0) bO F q #[];rw[Go.Sort.grow_empty]at K;have hc:=K.1;have hcut:=bB.cut (n:=l.length) hc (Lib.compact l).length bF;rw[List.take_left]at hcut;exact⟨_,_,_,I,hcut,K.2⟩
theorem amZ(B:Nat)(v:Value)(l:aI)(w:World)(h:bB 3 B w v l)(hl:l.length<=1048576):
  Calls prog 325 #[v] w fun e w'=>∃ad i c,e=aQ (aD ad i c)/\cY 3 B w' (aD ad i c) l/\w=w':=by
 have I:=h.toW;rcases h.cases with⟨rfl,rfl⟩|⟨g,cap,rfl,hB,Y⟩
 .go_enter func325,ntmps325;go_wp2;go_ret;exact⟨none,0,0,rfl,I,rfl⟩
 .have z:=h.ints.capLe;have N:=z.2.1;have J:=z.2.2;unfold maxLen at J;clear z;go_enter func325,ntmps325;go_wp2;go_ret;refine⟨some ⟨g,0,none⟩,l.length,l.length,?_,?_,rfl⟩
  .rfl
  .refine⟨I.1,?_⟩;rcases I.2 with⟨e,_⟩|⟨S,M,D,e,F,K,R,O,hm,ht⟩
   .simp at e
   .simp only[Value.slice.injEq,Option.some.injEq,Addr.mk.injEq,and_true]at e;obtain⟨rfl,_,rfl⟩:=e;exact .inr ⟨g,l.length,D,rfl,F,K,aU,aA,aA,ht⟩
