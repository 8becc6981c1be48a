/- Lemmas for CardConsoleResults. No condition. -/
import Derived.Test.YtkdbkjjacgigiaaGreatDoorQ27
set_option maxRecDepth 100000
set_option maxHeartbeats 64000000
namespace Go.Proofs.YtkdbkjjacgigiaaGreatDoor
section
open Go.RowKit Go.G5 Go.Proofs.Tryz
def jA(x:Int):Int:=max (-9999) (min 9999 x)
theorem an1(x:Int):-9999<=jA x/\jA x<=9999:=by unfold jA;omega
theorem AB(x:Int):dL (jA x):=by have:=an1 x;exact⟨by omega,by omega⟩
def fW(l:List Int):ByteArray:=if (l.length=0∨40<l.length) then eF else bR eS ((l.map jA).map aX)
theorem LD(l:List Int):(fW l).size<=880:=by
 unfold fW
 split
 ·show 4<=880;omega
 ·rename_i h
  have h1:=nF (l.map jA) (fun x z=>by
   obtain⟨y,_,rfl⟩:=List.mem_map.1 z;exact AB y)
  rw[List.length_map]at h1;omega
theorem agM(l:List Int):fW l≠ByteArray.empty:=by
 unfold fW
 split
 ·intro e;exact absurd (congrArg ByteArray.size e) aQ
 ·rename_i h;rw[Ne,vM,List.map_eq_nil_iff];intro e;subst e;exact h (.inl rfl)
theorem TW(l:List Int)(v:Value)(w:World)(hv:aK w v l)(hp:iY w):
  Calls prog 283 #[v] w fun e w'=>e=.returned (.string (fW l))/\Below w w w':=by
 obtain⟨a,b,f2,c,rfl,O,M,hc,hb⟩:=hv.view prog 25 3 underlying25 aN;have HC:=aH hc;have Z:=aH M;clear hc M O;by_cases h0:l.length=0
 ·have D:fW l=eF:=by unfold fW;rw[if_pos (.inl h0)]
  have HX:=aH D;have hz:((l.length:Int)==0)=true:=by simp[h0]
  clear D h0;go_enter func283,ntmps283;go_wp2;go_ret;exact⟨bJ HX.out.symm,Below.refl _ _⟩
 ·have hz:((l.length:Int)==0)=false:=by rw[beq_eq_false_iff_ne];omega
  by_cases h4:40<l.length
  ·have D:fW l=eF:=by unfold fW;rw[if_pos (.inr h4)]
   have HX:=aH D;have f9:(40:Int)<(l.length:Int):=aD;clear D h0;go_enter func283,ntmps283;go_wp2;go_ret;exact⟨bJ HX.out.symm,Below.refl _ _⟩
  ·have D:fW l=bR eS ((l.map jA).map aX):=by unfold fW;rw[if_neg aD]
   have HX:=aH D;have f9:¬(40:Int)<(l.length:Int):=aD;clear D h0;go_enter func283,ntmps283;go_wp2_with fail;go_loopw [3,16] (fun ov iv wr=>∃(k:Nat) (p:Option Addr) (n K:Nat),k<=l.length/\iv=aG k/\ov=aA p n K/\aM 3 w wr (aA p n K) ((l.take k).map jA)/\Below w w wr) (fun _ iv _=>l.length-(intOf iv).toNat)
   case atStart=>exact⟨0,_,_,_,Nat.zero_le _,rfl,rfl,aM.nil _ _ _,Below.refl _ _⟩
   case round=>
    obtain⟨k,p,n,K,hk,rfl,rfl,I,B⟩:=hrel;obtain⟨wz,rfl⟩:∃q:World,q=wr:=⟨_,rfl⟩;by_cases hlt:k<l.length
    ·have R:(k:Int)<(l.length:Int):=aD;have a7:=aR HC.out hb B aI k hlt;have e6:=fun W=>Z.out W k hlt;have F:(l.take (k+1)).map jA=(l.take k).map jA++[jA l[k]]:=by rw[List.take_succ_eq_append_getElem hlt,List.map_append];rfl
     have z:((l.take k).map jA).length=k:=by simp;omega
     obtain⟨x,D⟩:=aJ (l[k]);rw[<-D]at a7 F;have g5:=AB x;have j5:max (-9999) (min 9999 x)=jA x:=rfl;have b6:=aH F;have a1:=aH z;have zB:=B.size;clear D F z;go_wp2_with (at_builtin;refine dA rfl _ _ _ rfl 3 underlying25 aN w.heap.size (aA p n K) ((l.take k).map jA) (jA x) _ rfl rfl (aZ _ _ _ _ _ rfl) (I.alloc _) g5 (by rw[a1.out];omega) aT ?_;intro v7 w7 o7 g7;obtain⟨p7,i7,q7,rfl⟩:=o7.shape3);have rr:=I.lt;have B7:=(B.alloc zB (.cells #[(jA x)] 3)).grown g7 aT (fun q hq=>(rr _ hq).1);exact W7
    ·have z:k=l.length:=aD;have S:aM 3 w wz (aA p n K) (l.map jA):=by rw[z,List.take_length]at I;exact I
     have R:¬(k:Int)<(l.length:Int):=aD;have hj:=uN (l.map jA) _ wz S.ints (by rw[List.length_map];omega) (hp.keep B);obtain⟨J,hJ⟩:=aJ (bR eS ((l.map jA).map aX));rw[<-hJ]at hj;have f8:=aH (HX.out.trans hJ.symm);have HJ:=aH hj;clear z I S hj hJ;go_wp2_with fail;refine HJ.out.mono ?_;rintro e w3 ⟨rfl,Y⟩;go_wp2;go_ret;exact⟨bJ f8.out.symm,B.after Y B.size⟩
theorem aoJ(l:List Int)(v:Value)(w:World)(hv:aK w v l):
  Calls prog 32 #[v] w fun e w'=>e=.returned (.string (fW l))/\Below w w w':=by
 obtain⟨a,b,f6,c,rfl,b1,b0,hc,hb⟩:=hv.view prog 25 3 underlying25 aN;have HC:=aH hc;have b9:=aH b0;clear hc b0 b1;by_cases h4:40<l.length
 ·have Z:fW l=eF:=by unfold fW;rw[if_pos (.inr h4)]
  have HX:=aH Z;have c7:¬(l.length:Int)<=40:=aD;have e8:(0:Int)<(l.length:Int):=aD;clear Z;go_enter func32,ntmps32;go_wp2_with fail;go_loopw [3,4] (fun sv iv wr=>iv=aG 0/\sv=.string ⟨#[]⟩/\Below w w wr) (fun _ _ _=>0)
  case atStart=>exact⟨rfl,rfl,Below.refl _ _⟩
  case round=>obtain⟨rfl,rfl,B⟩:=hrel;go_wp2;go_ret;exact⟨bJ HX.out.symm,B⟩
 ·have b5:fW l=if l=[] then eF else bR eS ((l.map jA).map aX):=by
   unfold fW;by_cases D:l=[]
   ·rw[if_pos D,if_pos (.inl (by rw[D];rfl))]
   ·rw[if_neg D,if_neg (fun h=>h.elim (fun h=>D (List.eq_nil_of_length_eq_zero h)) h4)]
  have a1:=aH b5;have c7:(l.length:Int)<=40:=aD;clear b5;have a9:∀x∈l.map jA,dL x:=fun x Z=>by obtain⟨y,_,rfl⟩:=List.mem_map.1 Z;exact AB y
  have b6:(l.map jA).length=l.length:=List.length_map ..;have I:=aH b6;have b8:=aH a9;clear b6 a9;go_enter func32,ntmps32;go_wp2_with fail;go_loopw [3,4] (fun sv iv wr=>∃(k:Nat) (S:ByteArray),k<=l.length/\iv=aG k/\sv=.string S/\S=bR eS (((l.map jA).take k).map aX)/\Below w w wr) (fun _ iv _=>l.length-(intOf iv).toNat)
  case atStart=>exact⟨0,_,Nat.zero_le _,rfl,rfl,rfl,Below.refl _ _⟩
  case round=>
   obtain⟨k,S,hk,rfl,rfl,N,B⟩:=hrel;obtain⟨wz,rfl⟩:∃q:World,q=wr:=⟨_,rfl⟩;have f0:S.size<=22000:=by rw[N];exact xL (l.map jA) k b8.out (by rw[I.out];omega) (by rw[I.out];exact hk)
   by_cases hlt:k<l.length
   ·have b4:(k:Int)<(l.length:Int):=aD;have d0:=aR HC.out hb B aI k hlt;have f4:=fun W=>b9.out W k hlt;have z:=CM (l.map jA) k (by rw[I.out];exact hlt);rw[List.getElem_map]at z;rw[<-N]at z;have O:k=0->S=ByteArray.empty:=fun h=>by rw[N,h];rfl
    obtain⟨x,Z⟩:=aJ (l[k]);rw[<-Z]at d0 z;have f3:max (-9999) (min 9999 x)=jA x:=rfl;have hT:=cM (jA x) (AB x);have hF:=fS (jA x) (AB x) wz;obtain⟨T,a7⟩:=aJ (aX (jA x));rw[<-a7]at z hT hF;have HF:=aH hF;have a6:=aH z;clear hF z Z a7 N;by_cases K:k=0
    ·have c9:=O K;subst c9;have c5:=aH K;have e0:¬0<(k:Int):=aD;have a8:¬0<k:=aD;clear O K;go_wp2_with fail;refine HF.out.mono ?_;rintro e w3 ⟨rfl,b3⟩;have B:=B.after b3 B.size;go_wp2;go_roundw
     case rel=>exact⟨k+1,_,by omega,by go_num,rfl,by rw[a6.out,if_pos c5.out],B⟩
     case measure=>simp[intOf];omega
    ·have e0:0<(k:Int):=aD;have a8:0<k:=aD;have e9:(S++eS).size<=22001:=by rw[ByteArray.size_append];show S.size+1<=22001;omega
     clear O;go_wp2_with fail;refine HF.out.mono ?_;rintro e w3 ⟨rfl,b3⟩;have B:=B.after b3 B.size;go_wp2;go_roundw
     case rel=>exact⟨k+1,_,by omega,by go_num,rfl,by rw[a6.out,if_neg K];rfl,B⟩
     case measure=>simp[intOf];omega
   ·have b4:¬(k:Int)<(l.length:Int):=aD;have J:S=bR eS ((l.map jA).map aX):=by rw[N,show k=(l.map jA).length by rw[I.out];omega,List.take_length]
    have Y:=tK S;have R:decide (S=ByteArray.empty)=decide (l=[]):=by rw[J];simp only[vM,List.map_eq_nil_iff]
    rw[R]at Y
    cases D:decide (l=[]) with
    |true=>
     have F:fW l=eF:=by rw[a1.out,if_pos (of_decide_eq_true D)]
     rw[D]at Y;have M:=aH F;clear D R J F N;go_wp2;go_ret;exact⟨bJ M.out.symm,B⟩
    |false=>
     have F:fW l=S:=by rw[a1.out,if_neg (of_decide_eq_false D)];exact J.symm
     rw[D]at Y;have M:=aH F;clear D R J F N;go_wp2;go_ret;exact⟨bJ M.out.symm,B⟩
def wZ:ByteArray:=⟨#[115,101,116]⟩
def pJ:ByteArray:=⟨#[111,102]⟩
def LZ:ByteArray:=⟨#[102,111,114]⟩
def LK:ByteArray:=⟨#[97,110,100]⟩
def kX(k:Int)(S F G A:ByteArray):List ByteArray:=
 if k=1∨k=5 then [wZ,S,pJ,F] else if k=2 then [pJ,F] else if k=3 then [pJ,F,LZ,G] else if k=4 then [wZ,S,pJ,F,LK,G] else [pJ,A]
theorem IS{p:Prop}(h:p:=by
  go_wp2;go_ret;exact⟨_,_,_,rfl,by rw[I.out];exact(dK.lit w2 _ _ rfl (by simp only[List.length_cons,List.length_nil];unfold maxLen;omega) aI).mono D.size,D.alloc D.size _⟩):p:=h
theorem PM(k z:Int)(Y:Value)(l1:List Int)(K:Int)(v2:Value)(l2:List Int)(O:Int)(v3:Value)(l3:List Int)(q R:Int)(v4:Value)(w:World)
  (h1:aK w Y l1) (h2:aK w v2 l2) (h3:aK w v3 l3) (hp:iY w):
  Calls prog 284 #[clV k z Y K v2 O v3 q R v4] w fun e w'=>∃ad i cp,e=.returned (aA ad i cp)/\dK 9 w w' (aA ad i cp) (kX k (bG z R) (dC z l1) (dC K l2) (bZ O l3))/\Below w w w':=by
 have K0:=aP.new w 34 (clC k z Y K v2 O v3 q R v4);have a6:=hp.keep (bF w (.cells (clC k z Y K v2 O v3 q R v4) 34));have hs:=fC z R _ a6;obtain⟨S,hS⟩:=aJ (bG z R);obtain⟨F,hF⟩:=aJ (dC z l1);obtain⟨G,hG⟩:=aJ (dC K l2);obtain⟨A,hA⟩:=aJ (bZ O l3);rw[<-hS]at hs;rw[<-hS,<-hF,<-hG,<-hA];have HS:=aH hs;have HF:=aH hF;have HG:=aH hG;have HA:=aH hA;clear hs hS hF hG hA;go_enter func284,ntmps284;go_wp2_with fail;refine HS.out.mono ?_;rintro e w1 ⟨rfl,b1⟩;have M:Below w w w1:=(bF _ _).after b1 (by simp);have K1:=K0.keep b1;clear K0 b1 HS;have N:=K1.cell;have c0:=N 0;have c1:=N 1;have c2:=N 2;have c3:=N 3;have c4:=N 4;simp only[clC,List.getElem?_toArray,List.getElem?_cons_zero,List.getElem?_cons_succ]at c0 c1 c2 c3 c4;have q1:∀y:Ext w1,y.w.cell? ⟨w.heap.size,1,none⟩=some (aG z):=fun y=>y.cell c1;have q2:∀y:Ext w1,y.w.cell? ⟨w.heap.size,2,none⟩=some Y:=fun y=>y.cell c2;have q3:∀y:Ext w1,y.w.cell? ⟨w.heap.size,3,none⟩=some (aG K):=fun y=>y.cell c3;have q4:∀y:Ext w1,y.w.cell? ⟨w.heap.size,4,none⟩=some v2:=fun y=>y.cell c4;have J:=hp.keep M;have Z:=fun y:Ext w1=>CO z l1 Y y.w ((h1.below M aI).keep y.b) (J.keep y.b);rw[<-HF.out]at Z;have Z:=aH Z;have QG:=fun y:Ext w1=>CO K l2 v2 y.w ((h2.below M aI).keep y.b) (J.keep y.b);rw[<-HG.out]at QG;have QG:=aH QG;clear c0 c1 c2 c3 c4 N a6;go_wp2_with fail;refine bH _ aO aO ?_
 repeat(first|go_big_quiet_skip|(go_big_quiet_want;go_big_quiet_op;first|go_big_quiet_on|(apply Exists.intro;refine⟨fun _=>?_,?_⟩;(first|(go_at_call 178;with_reducible exact bW (Z.out _))|(go_at_call 178;with_reducible exact bW (QG.out _)));go_big_quiet_on)))
 refine wpQuiet_nil ?_;rintro w2 ⟨⟨w2,b2⟩,rfl⟩
 try dsimp only
 have D:=M.after b2 M.size;have K2:=K1.keep b2;have b9:=h3.below D aI;have e0:=hp.keep D;clear Z QG q1 q2 q3 q4 K1 b2 M J h1 h2 h3;have G2:=K2.cell;by_cases k1:k=1
 ·subst k1;have I:=aH (show kX 1 S F G A=[wZ,S,pJ,F] from rfl);exact IS
 ·by_cases k5:k=5
  ·subst k5;have I:=aH (show kX 5 S F G A=[wZ,S,pJ,F] from rfl);exact IS
  ·by_cases k2:k=2
   ·subst k2;have I:=aH (show kX 2 S F G A=[pJ,F] from rfl);exact IS
   ·by_cases k3:k=3
    ·subst k3;have I:=aH (show kX 3 S F G A=[pJ,F,LZ,G] from rfl);exact IS
    ·by_cases k4:k=4
     ·subst k4;have I:=aH (show kX 4 S F G A=[wZ,S,pJ,F,LK,G] from rfl);exact IS
     ·have hx:kX k S F G A=[pJ,A]:=by unfold kX;rw[if_neg aD,if_neg k2,if_neg k3,if_neg k4]
      have e1:(k==1)=false:=by simpa using k1
      have e5:(k==5)=false:=by simpa using k5
      have e2:(k==2)=false:=by simpa using k2
      have e3:(k==3)=false:=by simpa using k3
      have e4:(k==4)=false:=by simpa using k4
      have hj:=jJ O l3 v3 w2 b9 e0;rw[<-HA.out]at hj;have I:=aH hx;have HJ:=aH hj;clear hx hj k1 k2 k3 k4 k5;go_wp2_with fail;refine HJ.out.mono ?_;rintro e w3 ⟨rfl,b3⟩;have B3:=D.after b3 D.size;go_wp2;go_ret;exact⟨_,_,_,rfl,by rw[I.out];exact(dK.lit w3 [pJ,A] 2 rfl (by unfold maxLen;omega) aI).mono B3.size,B3.alloc B3.size _⟩
def T9:ByteArray:=⟨#[108,105,115,116]⟩
def cU:ByteArray:=⟨#[32]⟩
def FS(q:Int):Int:=max (-99999) (min 99999 q)
theorem JT(q:Int):dL (FS q):=by unfold FS;exact⟨by omega,by omega⟩
def lP(k q:Int)(l:List Int):List ByteArray:=[fP k,aX (FS q),T9,fW l]
def mA(k z:Int)(D:List Int)(K:Int)(F:List Int)(M:Int)(I:List Int)(q N:Int)(J:List Int):List ByteArray:=
 lP k q J++kX k (bG z N) (dC z D) (dC K F) (bZ M I)
def fR(k J:Int)(z:List Int)(K:Int)(D:List Int)(M:Int)(F:List Int)(q N:Int)(I:List Int):ByteArray:=
 if Lib.containsS (mA k J z K D M F q N I) ByteArray.empty=true then ByteArray.empty else bR cU (mA k J z K D M F q N I)
theorem CX(k:Int):(fP k).size<=9:=by
 unfold fP
 repeat(split;(show _<=9;decide))
 decide
theorem aaF(k:Int)(S F G A:ByteArray)(J:S.size<=10000)(D:F.size<=10000)(I:G.size<=10000)(z:A.size<=10000):(∀x∈kX k S F G A,x.size<=10000)/\(kX k S F G A).length<=6:=by
 have w1:wZ.size<=10000:=by decide
 have K:pJ.size<=10000:=by decide
 have M:LZ.size<=10000:=by decide
 have N:LK.size<=10000:=by decide
 unfold kX
 split
 ·simp_all
 ·split
  ·simp_all
  ·split
   ·simp_all
   ·split<;>simp_all
theorem GV(k z:Int)(D:List Int)(J:Int)(F:List Int)(K:Int)(I:List Int)(q M:Int)(N:List Int):(∀x∈mA k z D J F K I q M N,x.size<=10000)/\(mA k z D J F K I q M N).length<=10:=by
 have O:=aaF k (bG z M) (dC z D) (dC J F) (bZ K I) (by have:=fA z M;omega) (by have:=tD z D;omega) (by have:=tD J F;omega) (fG K I);have S:=CX k;have a2:=cM (FS q) (JT q);have a3:T9.size<=10000:=by decide
 have a4:=LD N;unfold mA;refine⟨fun x R=>?_,?_⟩
 ·rcases List.mem_append.1 R with h|h
  ·unfold lP at h;simp only[List.mem_cons,List.not_mem_nil,or_false]at h;rcases h with rfl|rfl|rfl|rfl
   ·omega
   ·omega
   ·omega
   ·omega
  ·exact O.1 x h
 ·rw[List.length_append];have:=O.2;show 4+_<=10;omega
theorem adZ(k:Int)(S F G A:ByteArray):0<(kX k S F G A).length:=by
 unfold kX
 split
 ·simp
 ·split
  ·simp
  ·split
   ·simp
   ·split<;>simp
theorem dK.head{E:TypeId}{B:Nat}{w:World}{v:Value}{D:List ByteArray}(h:dK E B w v D)(z:0<D.length):∃g n c,v=aA (some ⟨g,0,none⟩) n c:=by
 rcases h.at with⟨a,c,_,rfl⟩|⟨g,c,rfl,_⟩
 ·simp at z
 ·exact⟨g,_,c,rfl⟩
theorem U5(B:Nat)(w:World)(g n c:Nat)(D:List ByteArray)(x:ByteArray)(h:dK 9 B w (aA (some ⟨g,0,none⟩) n c) D)(M:D.length<=1000000):
  Calls prog 285 #[aA (some ⟨g,0,none⟩) n c,.string x] w fun e w'=>e=.returned (.bool (Lib.containsS D x))/\w'=w:=by
 rcases h.at with⟨a,I,e,rfl⟩|⟨J,I,e,hc,K,z⟩
 ·injection e with e1 e2 e3;subst e2;exact sC g 0 0 c [] x w aI aD (fun j F=>by simp at F)
 ·injection e with e1 e2 e3;injection e1 with e1;injection e1 with e1
  subst e1 e2 e3;have:=sC g 0 D.length c D x w aI aD (fun j F=>by
   rw[z j D[j] (List.getElem?_eq_getElem F)];simp[List.getD_eq_getElem?_getD,List.getElem?_eq_getElem F])
  rw[List.take_length]at this;exact this
theorem TN(k D:Int)(v1:Value)(O:List Int)(J:Int)(v2:Value)(S:List Int)(K:Int)(v3:Value)(Y:List Int)(q M:Int)(v4:Value)(I:List Int)(w:World)
  (h1:aK w v1 O) (h2:aK w v2 S) (h3:aK w v3 Y) (h4:aK w v4 I) (hp:iY w):
  Calls prog 206 #[clV k D v1 J v2 K v3 q M v4] w fun e w'=>e=.returned (.string (fR k D O J S K Y q M I))/\Below w w w':=by
 have K0:=aP.new w 34 (clC k D v1 J v2 K v3 q M v4);have e4:=hp.keep (bF w (.cells (clC k D v1 J v2 K v3 q M v4) 34));have hs:=AI (FS q) (JT q) _ e4;have e0:max (-99999) (min 99999 q)=FS q:=rfl;have HS:=aH hs;clear hs;go_enter func206,ntmps206;go_wp2_with fail;refine HS.out.mono ?_;rintro e w1 ⟨rfl,b1⟩;have B1:Below w w w1:=(bF _ _).after b1 (by simp);have K1:=K0.keep b1;clear K0 b1 HS e4;have G1:=K1.cell;go_upto_region 2 with fail;go_cut [4] (fun v wx=>∃g,v=aA (some ⟨g,0,none⟩) 4 4/\dK 9 w1 wx (aA (some ⟨g,0,none⟩) 4 4) (lP k q I)/\Below w1 w1 wx)
 case first=>
  have c8:aP w1.drew w.heap.size 34 (clC k D v1 J v2 K v3 q M v4):=K1;have bd:Below w1 w1 w1.drew:=(Below.refl _ _).drew;have i8:=c8.cell;have f8:=(h4.below B1 aI).keep bd;have g0:=(hp.keep B1).keep bd;have HT:=aH (fun(W:World) (h:Below w1.drew.heap.size w1.drew W)=>TW I v4 W (f8.keep h) (g0.keep h));obtain⟨T,hT⟩:=aJ (fW I);rw[<-hT]at HT;go_region_law
   (first
    |(go_simp;go_at_call 282;with_reducible refine(PN k _).mono ?_;rintro e w5 ⟨rfl,b5⟩;have K5:=c8.keep b5;have G5:=K5.cell)
    |(go_simp;go_at_call 283;with_reducible refine(HT.out w5 b5).mono ?_;rintro e w6 ⟨rfl,b6⟩))
  all_goals
   have B6:=(bd.after b5 bd.size).after b6 (bd.after b5 bd.size).size;have ol:=(dK.lit (E:=9) w6 (lP k q I) 4 rfl (by unfold maxLen;omega) aI).mono B6.size;have B7:=B6.alloc B6.size (.cells ((lP k q I).map Value.string).toArray 9);go_wp2_with fail;go_meet;exact⟨w6.heap.size,rfl,ol,B7⟩
 case rest=>
  obtain⟨g,rfl,o4,b4⟩:=hcut;have B4:=B1.after b4 B1.size;have K4:=K1.keep b4;have c6:=aH (PM k D v1 O J v2 S K v3 Y q M v4 wc (h1.below B4 aI) (h2.below B4 aI) (h3.below B4 aI) (hp.keep B4));have a6:=GV k D O J S K Y q M I;have a8:fR k D O J S K Y q M I=if Lib.containsS (mA k D O J S K Y q M I) ByteArray.empty=true then ByteArray.empty else bR cU (mA k D O J S K Y q M I):=rfl;have Z:mA k D O J S K Y q M I=lP k q I++kX k (bG D M) (dC D O) (dC J S) (bZ K Y):=rfl;obtain⟨P,hP⟩:=aJ (mA k D O J S K Y q M I);obtain⟨Q,hQ⟩:=aJ (kX k (bG D M) (dC D O) (dC J S) (bZ K Y));obtain⟨R,hR⟩:=aJ (lP k q I);rw[<-hP]at a6 a8 Z;rw[<-hQ]at c6;rw[<-hQ,<-hR]at Z;rw[<-hR]at o4;have d0:R.length=4:=by rw[hR];rfl
  have j9:Q.length<=6:=by have:=a6.2;rw[Z,List.length_append]at this;omega
  have c7:=aH a8;have f3:=aH Z;have a1:=aH a6;have f5:=aH d0;have c9:0<Q.length:=by rw[hQ];exact adZ ..
  clear a8 Z a6 hP hQ hR d0 K1 G1 h1 h2 h3 h4 e0;have G4:=K4.cell;go_wp2_with fail;refine c6.out.mono ?_;rintro e w5 ⟨p5,i5,c5,rfl,o5,b5⟩;have B5:=B4.after b5 B4.size;have o4:=o4.keep b5;have z5:w1.heap.size<=w5.heap.size:=Nat.le_trans b4.size b5.size;have zw:w.heap.size<=w1.heap.size:=B1.size;rcases o5.at with⟨a,c',e,hq⟩|⟨g5,c',e,k1,k2,N⟩
  ·rw[hq]at c9;simp at c9
  ·injection e with e1 e2 e3;subst e1 e2 e3;have f2:=aH N;clear N G4;go_wp2_with (at_builtin;refine xH rfl _ _ _ rfl 9 underlying52 zZ w1.heap.size (aA (some ⟨g,0,none⟩) 4 4) R Q g5 Q.length _ rfl rfl rfl f2.out o4 (by rw[f5.out];omega) z5 ?_;intro v7 w7 o7 g7;obtain⟨p7,i7,q7,rfl⟩:=dK.head o7 (by rw[List.length_append];omega));rw[<-f3.out]at o7;have rr:=o4.lt;have B7:=B5.grown g7 B5.size (fun q hq=>by have:=(rr q hq).1;omega);have F:=U5 _ w7 _ _ _ P ByteArray.empty o7 (by have:=a1.out.2;omega)
   cases z:Lib.containsS P ByteArray.empty with
   |true=>
    have hr:fR k D O J S K Y q M I=ByteArray.empty:=by rw[c7.out,if_pos z]
    rw[z]at F;have F:=aH F;have HR:=aH hr;clear hr z;go_wp2_with fail;refine F.out.mono ?_;rintro e w8 ⟨rfl,rfl⟩;go_wp2;go_ret;exact⟨bJ HR.out.symm,B7⟩
   |false=>
    have hr:fR k D O J S K Y q M I=bR cU P:=by rw[c7.out,if_neg (by rw[z];simp)]
    rw[z]at F;have F:=aH F;have HR:=aH hr;have HJ:=aH (ES _ w7 _ P cU o7 (by
     have h1:=vS cU 10000 P a1.out.1;have h2:=a1.out.2;have h3:cU.size=1:=rfl;rw[h3]at h1;omega) (by have:=a1.out.2;omega))
    clear hr z;go_wp2_with fail;refine F.out.mono ?_;rintro e w8 ⟨rfl,rfl⟩;go_wp2_with fail;refine HJ.out.mono ?_;rintro e w9 ⟨rfl,b9⟩;go_wp2;go_ret;exact⟨bJ HR.out.symm,B7.after b9 B7.size⟩
theorem iU(z x y:ByteArray)(r:List ByteArray):bR z (x::y::r)=x++z++bR z (y::r):=by
 refine dO ?_;rw[jL,jL];show Lib.join ((x::y::r).map (·.data.toList)) z.data.toList=x.data.toList++z.data.toList++Lib.join ((y::r).map (·.data.toList)) z.data.toList;rw[List.map_cons,List.map_cons,Lib.join_cons,Lib.join_cons];simp[Lib.joinTail,List.append_assoc]
def am4:ByteArray:=⟨#[32,108,105,115,116,32]⟩
def ofS:ByteArray:=⟨#[32,111,102,32]⟩
def aqI:ByteArray:=⟨#[32,102,111,114,32]⟩
def ap1:ByteArray:=⟨#[32,97,110,100,32]⟩
def amH:ByteArray:=⟨#[32,115,101,116,32]⟩
def vQ(k q:Int)(l:List Int):ByteArray:=fP k++cU++aX (FS q)++am4++fW l
theorem d1:cU.data.toList=[32]:=rfl
theorem d2:pJ.data.toList=[111,102]:=rfl
theorem d3:LZ.data.toList=[102,111,114]:=rfl
theorem d4:LK.data.toList=[97,110,100]:=rfl
theorem d5:wZ.data.toList=[115,101,116]:=rfl
theorem d6:T9.data.toList=[108,105,115,116]:=rfl
theorem d7:am4.data.toList=[32,108,105,115,116,32]:=rfl
theorem d8:ofS.data.toList=[32,111,102,32]:=rfl
theorem d9:aqI.data.toList=[32,102,111,114,32]:=rfl
theorem d10:ap1.data.toList=[32,97,110,100,32]:=rfl
theorem d11:amH.data.toList=[32,115,101,116,32]:=rfl
theorem P5(k q:Int)(l:List Int)(F:ByteArray):bR cU (lP k q l++[pJ,F])=vQ k q l++ofS++F:=by
 unfold lP vQ;simp only[List.cons_append,List.nil_append,iU,jD];refine dO ?_;simp[d1,d2,d6,d7,d8]
theorem alK(k q:Int)(l:List Int)(F G:ByteArray):bR cU (lP k q l++[pJ,F,LZ,G])=vQ k q l++ofS++F++aqI++G:=by
 unfold lP vQ;simp only[List.cons_append,List.nil_append,iU,jD];refine dO ?_;simp[d1,d2,d3,d6,d7,d8,d9]
theorem alL(k q:Int)(l:List Int)(S F:ByteArray):bR cU (lP k q l++[wZ,S,pJ,F])=vQ k q l++amH++S++ofS++F:=by
 unfold lP vQ;simp only[List.cons_append,List.nil_append,iU,jD];refine dO ?_;simp[d1,d2,d5,d6,d7,d8,d11]
theorem alJ(k q:Int)(l:List Int)(S F G:ByteArray):bR cU (lP k q l++[wZ,S,pJ,F,LK,G])=vQ k q l++amH++S++ofS++F++ap1++G:=by
 unfold lP vQ;simp only[List.cons_append,List.nil_append,iU,jD];refine dO ?_;simp[d1,d2,d4,d5,d6,d7,d8,d10,d11]
theorem ab2(k:Int)(h:1<=k/\k<=7):fP k≠ByteArray.empty:=by
 have:(fP k).size≠0:=by rcases(show k=1∨k=2∨k=3∨k=4∨k=5∨k=6∨k=7 by omega) with rfl|rfl|rfl|rfl|rfl|rfl|rfl<;>decide
 intro e;exact this (ap4.2 e)
theorem Y8(k:Int)(h:¬(1<=k/\k<=7)):fP k=ByteArray.empty:=by
 unfold fP;rw[if_neg aD,if_neg aD,if_neg aD,if_neg aD,if_neg aD,if_neg aD,if_neg aD];rfl
theorem G6(b:ByteArray)(h:b.size≠0):¬ByteArray.empty=b:=fun e=>h (by rw[<-e];rfl)
theorem MD(k q:Int)(l:List Int)(r:List ByteArray):ByteArray.empty∈lP k q l++r↔(ByteArray.empty=fP k∨ByteArray.empty∈r):=by
 have a2:¬ByteArray.empty=aX (FS q):=fun e=>WK _ e.symm;have a3:¬ByteArray.empty=T9:=G6 _ aQ;have a4:¬ByteArray.empty=fW l:=fun e=>agM _ e.symm;simp[lP,a2,a3,a4]
theorem pT(k D:Int)(I:List Int)(M:Int)(J:List Int)(N:Int)(K:List Int)(q O:Int)(z:List Int)(hk:1<=k/\k<=7)(r:List ByteArray)(hr:kX k (bG D O) (dC D I) (dC M J) (bZ N K)=r):
  fR k D I M J N K q O z=if Lib.containsS r ByteArray.empty=true then ByteArray.empty else bR cU (lP k q z++r):=by
 have F:mA k D I M J N K q O z=lP k q z++r:=by unfold mA;rw[hr]
 unfold fR;rw[F];have hw:¬ByteArray.empty=fP k:=fun e=>ab2 k hk e.symm;by_cases hm:Lib.containsS r ByteArray.empty=true
 ·rw[if_pos hm,if_pos ((Lib.containsS_iff _ _).2 ((MD k q z r).2 (.inr ((Lib.containsS_iff _ _).1 hm))))]
 ·rw[if_neg hm,if_neg (fun h=>((MD k q z r).1 ((Lib.containsS_iff _ _).1 h)).elim hw (fun h=>hm ((Lib.containsS_iff _ _).2 h)))]
theorem OR:¬ByteArray.empty=pJ:=G6 _ aQ
theorem aqJ:¬ByteArray.empty=LZ:=G6 _ aQ
theorem ap2:¬ByteArray.empty=LK:=G6 _ aQ
theorem ajO:¬ByteArray.empty=wZ:=G6 _ aQ
end
end Go.Proofs.YtkdbkjjacgigiaaGreatDoor
