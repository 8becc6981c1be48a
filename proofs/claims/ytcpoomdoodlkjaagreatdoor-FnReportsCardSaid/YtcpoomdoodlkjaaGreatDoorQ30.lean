/- Lemmas for CardReports. No condition. -/
import Derived.Test.YtcpoomdoodlkjaaGreatDoorQ07
import Derived.Test.YtcpoomdoodlkjaaGreatDoorQ29
set_option maxRecDepth 100000
set_option maxHeartbeats 64000000
namespace Go.Proofs.YtcpoomdoodlkjaaGreatDoor
section
open Go.RowKit Go.G5 Go.Proofs.Tryz
def hJ:ByteArray:=⟨#[44]⟩
theorem sZ(l:List Int)(h:∀x∈l,dD x):(cK hJ (l.map bQ)).size<=l.length*22:=by
 have:=JQ hJ 21 (l.map bQ) (fun x z=>by obtain⟨y,D,rfl⟩:=List.mem_map.1 z;exact cW y (h y D));rw[List.length_map]at this;exact this
theorem wH(l:List Int)(v:Value)(w:World)(hv:aR w v l)(hl:l.length<=1000)(hp:sV w):
  Calls prog 163 #[v] w fun e w'=>e=.returned (.string (cK hJ (l.map bQ)))/\Below w w w':=by
 have I:=hv.inR;have d8:=sZ l I;obtain⟨a,b,e0,c,rfl,R,O,hc,hb⟩:=hv.view prog 24 3 underlying24 aS;have HC:=aN hc;have a6:=aN I;have a7:=aN O;clear hc I O R;go_enter func163,ntmps163;go_wp2_with (at_make;refine UO rfl _ _ _ rfl 9 underlying44 E1 l.length _ rfl rfl rfl aK ?_;intro w2 D hg);have b2:Below w w w2:=(Below.refl _ _).grown hg aO (by simp);go_loopw [3,11] (fun ov iv wr=>∃(k:Nat) (p:Option Addr) (n N:Nat),k<=l.length/\iv=aM k/\ov=aI p n N/\eI 9 w wr (aI p n N) ((l.take k).map bQ)/\Below w w wr) (fun _ iv _=>l.length-(intOf iv).toNat)
 case atStart=>exact⟨0,_,_,_,Nat.zero_le _,rfl,rfl,D,b2⟩
 case round=>
  obtain⟨k,p,n,N,hk,rfl,rfl,J,B⟩:=hrel;obtain⟨wz,rfl⟩:∃q:World,q=wr:=⟨_,rfl⟩;have Z:=hp.keep B;clear D b2 hg;by_cases hlt:k<l.length
  ·have S:(k:Int)<(l.length:Int):=aK;have F:=aW HC.out hb B aO;have b0:=F k hlt;have d5:=fun W=>a7.out W k hlt;have K:(l.take (k+1)).map bQ=(l.take k).map bQ++[bQ l[k]]:=by rw[List.take_succ_eq_append_getElem hlt,List.map_append];rfl
   have a1:=a6.out l[k] (List.getElem_mem hlt);have z:((l.take k).map bQ).length=k:=by simp;omega
   obtain⟨x,hx⟩:=aQ (l[k]);rw[<-hx]at b0 K a1;have a9:=aN K;have a8:=aN z;clear hx F K z;have hF:=aN (GL x a1 wz Z);go_wp2_with fail;refine hF.out.mono ?_;rintro e w3 ⟨rfl,M⟩;have J:=J.keep M;have B:=B.after M B.size;have zB:=B.size;clear M hF;go_wp2_with (at_builtin;refine AR rfl _ _ _ rfl 9 underlying44 E1 w.heap.size (aI p n N) ((l.take k).map bQ) [bQ x] w3.heap.size 1 1 rfl rfl rfl (fun j y hy=>by match j,hy with|0,hy=>(cases hy;exact bB _ _ _ _ _ rfl)) (J.alloc _) (by rw[a8.out];simp;omega) aV ?_;intro v7 w7 o7 g7;obtain⟨p7,i7,q7,rfl⟩:=o7.shape3);have rr:=J.lt;have B7:=(B.alloc zB (.cells #[.string (bQ x)] 9)).grown g7 aV (fun q hq=>(rr _ hq).1);go_roundw
   case rel=>exact⟨k+1,p7,i7,q7,by omega,by go_num,rfl,by rw[a9.out];exact o7,B7⟩
   case measure=>simp[intOf];omega
  ·have z:k=l.length:=aK;have Y:eI 9 w wz (aI p n N) (l.map bQ):=by rw[z,List.take_length]at J;exact J
   have S:¬(k:Int)<(l.length:Int):=aK;have HJ:=aN (GU w.heap.size wz _ (l.map bQ) hJ Y aK (by rw[List.length_map];omega));clear z J Y Z;go_wp2_with fail;refine HJ.out.mono ?_;rintro e w3 ⟨rfl,M⟩;go_wp2;go_ret;exact⟨rfl,B.after M B.size⟩
def zI:ByteArray:=⟨#[110,111,110,101]⟩
def eX(l:List Int):ByteArray:=if l=[] then zI else cK hJ (l.map bQ)
theorem zS(l:List Int)(k:Nat)(h:∀x∈l,dD x)(hl:l.length<=1000)(hk:k<=l.length):(cK hJ ((l.take k).map bQ)).size<=22000:=by
 have h1:=sZ (l.take k) (fun x z=>h x (List.mem_of_mem_take z));rw[List.length_take]at h1;have:min k l.length=k:=aK;rw[this]at h1;omega
theorem zR(l:List Int)(k:Nat)(hk:k<l.length):cK hJ ((l.take (k+1)).map bQ)=if k=0 then bQ l[k] else cK hJ ((l.take k).map bQ)++hJ++bQ l[k]:=by
 have h:=JS hJ (l.map bQ) k (by rw[List.length_map];exact hk);rw[List.getElem_map,<-List.map_take,<-List.map_take]at h;exact h
theorem AX(l:List Int):(cK hJ (l.map bQ)=ByteArray.empty)=(l=[]):=by
 refine propext ⟨fun h=>?_,fun h=>by subst h;rfl⟩
 cases l with
 |nil=>rfl
 |cons x l=>exact absurd h (SR hJ (bQ x) (l.map bQ) (aeA x))
theorem NH(b:ByteArray):(b.toList==[])=decide (b=ByteArray.empty):=by
 rw[Lib.toList_data];by_cases h:b=ByteArray.empty
 ·subst h;rfl
 ·rw[decide_eq_false h]
  cases hb:b.data.toList with
  |nil=>exact absurd (eV (by rw[hb];rfl)) h
  |cons x r=>rfl
theorem vJ(l:List Int)(v:Value)(w:World)(hv:aR w v l)(hl:l.length<=1000):
  Calls prog 55 #[v] w fun e w'=>e=.returned (.string (eX l))/\Below w w w':=by
 have a8:=hv.inR;obtain⟨a,b,d9,c,rfl,b0,a9,hc,hb⟩:=hv.view prog 24 3 underlying24 aS;have HC:=aN hc;have Z:=aN a8;have b4:=aN a9;clear hc a8 a9 b0;go_enter func55,ntmps55;go_wp2_with fail;go_loopw [3,4] (fun sv iv wr=>∃(k:Nat) (S:ByteArray),k<=l.length/\iv=aM k/\sv=.string S/\S=cK hJ ((l.take k).map bQ)/\Below w w wr) (fun _ iv _=>l.length-(intOf iv).toNat)
 case atStart=>exact⟨0,_,Nat.zero_le _,rfl,rfl,rfl,Below.refl _ _⟩
 case round=>
  obtain⟨k,S,hk,rfl,rfl,K,B⟩:=hrel;obtain⟨wz,rfl⟩:∃q:World,q=wr:=⟨_,rfl⟩;have d6:S.size<=22000:=by rw[K];exact zS l k Z.out hl hk
  by_cases hlt:k<l.length
  ·have b1:(k:Int)<(l.length:Int):=aK;have b9:=aW HC.out hb B aO k hlt;have d8:=fun W=>b4.out W k hlt;have D:=zR l k hlt;have R:=Z.out l[k] (List.getElem_mem hlt);rw[<-K]at D;have M:k=0->S=ByteArray.empty:=fun h=>by rw[K,h];rfl
   obtain⟨x,hx⟩:=aQ (l[k]);rw[<-hx]at b9 D R;have hT:=cW x R;have hF:=fX x R wz;obtain⟨T,a6⟩:=aQ (bQ x);rw[<-a6]at D hT hF;have HF:=aN hF;have a1:=aN D;clear hF D hx a6 K;by_cases I:k=0
   ·have b8:=M I;subst b8;have b5:=aN I;have c5:¬0<(k:Int):=aK;have a7:¬0<k:=aK;clear M I;go_wp2_with fail;refine HF.out.mono ?_;rintro e w3 ⟨rfl,b3⟩;have B:=B.after b3 B.size;go_wp2;go_roundw
    case rel=>exact⟨k+1,_,by omega,by go_num,rfl,by rw[a1.out,if_pos b5.out],B⟩
    case measure=>simp[intOf];omega
   ·have c5:0<(k:Int):=aK;have a7:0<k:=aK;have d5:(S++hJ).size<=22001:=by rw[ByteArray.size_append];show S.size+1<=22001;omega
    clear M;go_wp2_with fail;refine HF.out.mono ?_;rintro e w3 ⟨rfl,b3⟩;have B:=B.after b3 B.size;go_wp2;go_roundw
    case rel=>exact⟨k+1,_,by omega,by go_num,rfl,by rw[a1.out,if_neg I];rfl,B⟩
    case measure=>simp[intOf];omega
  ·have b1:¬(k:Int)<(l.length:Int):=aK;have F:S=cK hJ (l.map bQ):=by rw[K,show k=l.length by omega,List.take_length]
   have O:=NH S;have N:decide (S=ByteArray.empty)=decide (l=[]):=by rw[F];simp only[AX]
   rw[N]at O
   cases Y:decide (l=[]) with
   |true=>
    have z:eX l=zI:=by unfold eX;rw[if_pos (of_decide_eq_true Y)]
    rw[Y]at O;have J:=aN z;clear Y N F z K;go_wp2;go_ret;exact⟨cI J.out.symm,B⟩
   |false=>
    have z:eX l=S:=by unfold eX;rw[if_neg (of_decide_eq_false Y)];exact F.symm
    rw[Y]at O;have J:=aN z;clear Y N F z K;go_wp2;go_ret;exact⟨cI J.out.symm,B⟩
def QK:ByteArray:=⟨#[45]⟩
def pK(n s:Int):Bool:=eZ n 0 6&&fD n.toNat s
def bZ(n s:Int):ByteArray:=if pK n s=true then (if s=0 then QK else cK hJ ((gX s).map bQ)) else ByteArray.empty
theorem BO{n s:Int}(h:pK n s=true):0<=n/\n<=6/\0<=s/\s<64:=by
 unfold pK at h;rw[Bool.and_eq_true]at h;have h1:=dK.1 h.1;have h2:=mT.1 h.2;have:=mC h1.1 h1.2;exact⟨h1.1,h1.2,h2.1,by omega⟩
theorem agA:∀s:Nat,s<64->(jE s 6=[]↔s=0):=by decide +kernel
theorem GJ(s:Int)(z:0<=s)(h:s<64):gX s=[]↔s=0:=by
 unfold gX;rw[agA s.toNat aK];omega
theorem af8(s:Int):∀x∈gX s,dD x:=fun x z=>by
 have:=WS s x z;exact⟨by omega,by omega⟩
theorem fF(n s:Int):(bZ n s).size<=132:=by
 unfold bZ
 split
 ·split
  ·show 1<=132;omega
  ·have h1:=sZ (gX s) (af8 s);have h2:=vE s;omega
 ·simp
theorem ae5(n s:Int)(h:pK n s=true):bZ n s≠ByteArray.empty:=by
 unfold bZ;rw[if_pos h];have z:=BO h
 split
 ·intro e;have:=congrArg ByteArray.size e;exact absurd this aY
 ·rename_i D;rw[Ne,AX,GJ s z.2.2.1 z.2.2.2];exact D
theorem gM(n s:Int)(w:World)(hp:sV w):
  Calls prog 71 #[n,s] w fun e w'=>e=.returned (.string (bZ n s))/\Below w w w':=by
 have z:=jF n 0 6 w
 cases h1:eZ n 0 6 with
 |false=>
  have I:bZ n s=ByteArray.empty:=by unfold bZ pK;rw[h1];rfl
  have J:=aN I;rw[h1]at z;have M:=aN z;clear z I h1;go_enter func71,ntmps71;go_wp2_with fail;refine M.out.mono ?_;rintro e w1 ⟨rfl,rfl⟩;go_wp2;go_ret;exact⟨cI J.out.symm,Below.refl _ _⟩
 |true=>
  have hb:=dK.1 h1;have D:=abI n s w hb.1 aK;rw[h1]at z;have M:=aN z
  cases h2:fD n.toNat s with
  |false=>
   have I:bZ n s=ByteArray.empty:=by unfold bZ pK;rw[h1,h2];rfl
   rw[h2]at D;have J:=aN I;have O:=aN D;clear z I h1 h2 D;go_enter func71,ntmps71;go_wp2_with fail;refine M.out.mono ?_;rintro e w1 ⟨rfl,rfl⟩;go_wp2_with fail;refine O.out.mono ?_;rintro e w1 ⟨rfl,rfl⟩;go_wp2;go_ret;exact⟨cI J.out.symm,Below.refl _ _⟩
  |true=>
   have F:pK n s=true:=by unfold pK;rw[h1,h2];rfl
   obtain⟨_,_,S,N⟩:=BO F;rw[h2]at D;have O:=aN D;by_cases K:s=0
   ·have I:bZ n s=QK:=by unfold bZ;rw[if_pos F,if_pos K]
    have J:=aN I;have Y:(s==0)=true:=by simpa using K
    clear z I h1 h2 D F K;go_enter func71,ntmps71;go_wp2_with fail;refine M.out.mono ?_;rintro e w1 ⟨rfl,rfl⟩;go_wp2_with fail;refine O.out.mono ?_;rintro e w1 ⟨rfl,rfl⟩;go_wp2;go_ret;exact⟨cI J.out.symm,Below.refl _ _⟩
   ·have I:bZ n s=cK hJ ((gX s).map bQ):=by unfold bZ;rw[if_pos F,if_neg K]
    have J:=aN I;have Y:(s==0)=false:=by simpa using K
    have Z:=aN (rI s w S N);clear z I h1 h2 D F K;go_enter func71,ntmps71;go_wp2_with fail;refine M.out.mono ?_;rintro e w1 ⟨rfl,rfl⟩;go_wp2_with fail;refine O.out.mono ?_;rintro e w1 ⟨rfl,rfl⟩;go_wp2_with fail;refine Z.out.mono ?_;rintro e w1 ⟨ad,i,cp,rfl,o1,R⟩;have HJ:=aN (wH (gX s) _ w1 o1.ints (by have:=vE s;omega) (hp.keep R));go_wp2_with fail;refine HJ.out.mono ?_;rintro e w2 ⟨rfl,b2⟩;go_wp2;go_ret;exact⟨cI J.out.symm,R.after b2 R.size⟩
theorem kS(n s:Int)(w:World):
  Calls prog 80 #[n,s] w fun e w'=>e=.returned (.string (bZ n s))/\Below w w w':=by
 have D:=cQ n 0 6 w
 cases h1:eZ n 0 6 with
 |false=>
  have O:bZ n s=ByteArray.empty:=by unfold bZ pK;rw[h1];rfl
  have HX:=aN O;rw[h1]at D;have HW:=aN D;clear D O h1;go_enter func80,ntmps80;go_wp2_with fail;refine HW.out.mono ?_;rintro e w1 ⟨rfl,rfl⟩;go_wp2;go_ret;exact⟨cI HX.out.symm,Below.refl _ _⟩
 |true=>
  have hb:=dK.1 h1;have a7:=BA n w hb.1 aK;have z:=cQ s 0 (2^n.toNat-1) w;rw[DC]at z;obtain⟨f,hf⟩:∃f:Int,f=2^n.toNat-1:=⟨_,rfl⟩;rw[<-hf]at a7 z;rw[h1]at D;have HW:=aN D;have b5:=aN a7;clear hf a7
  cases h2:fD n.toNat s with
  |false=>
   have O:bZ n s=ByteArray.empty:=by unfold bZ pK;rw[h1,h2];rfl
   rw[h2]at z;have HX:=aN O;have HI:=aN z;clear D O h1 h2 z;go_enter func80,ntmps80;go_wp2_with fail;refine HW.out.mono ?_;rintro e w1 ⟨rfl,rfl⟩;go_wp2_with fail;refine b5.out.mono ?_;rintro e w1 ⟨rfl,rfl⟩;go_wp2_with fail;refine HI.out.mono ?_;rintro e w1 ⟨rfl,rfl⟩;go_wp2;go_ret;exact⟨cI HX.out.symm,Below.refl _ _⟩
  |true=>
   have N:pK n s=true:=by unfold pK;rw[h1,h2];rfl
   obtain⟨_,_,a8,J⟩:=BO N;rw[h2]at z;have HI:=aN z;have g1:=aN N;have HE:=aN (SW s w a8 J);obtain⟨l,hl⟩:=aQ (gX s);have e9:l.length<=1000:=by rw[hl];have:=vE s;omega
   have f0:(l=[])=(s=0):=by rw[hl];exact propext (GJ s a8 J)
   have d0:bZ n s=if l=[] then QK else cK hJ (l.map bQ):=by unfold bZ;rw[if_pos N,hl];simp only[GJ s a8 J]
   have b7:=aN d0;rw[<-hl]at HE;clear D h1 h2 z N f0 d0 hl;go_enter func80,ntmps80;go_wp2_with fail;refine HW.out.mono ?_;rintro e w1 ⟨rfl,rfl⟩;go_wp2_with fail;refine b5.out.mono ?_;rintro e w1 ⟨rfl,rfl⟩;go_wp2_with fail;refine HI.out.mono ?_;rintro e w1 ⟨rfl,rfl⟩;go_wp2_with fail;refine HE.out.mono ?_;rintro e w1 ⟨ad,i,cp,rfl,o1,b1⟩;have hv:=o1.ints;have c6:=hv.inR;have hi:i=l.length:=hv.capLe.1;subst hi;obtain⟨a,b,g7,c,f2,c8,c7,hc,hb⟩:=hv.view prog 24 3 underlying24 aS;injection f2 with e1 _ e3;subst e1 e3;have HC:=aN hc;have b6:=aN c6;have d8:=aN c7;have b4:=aN b1;clear hc c6 c7 c8 hv o1 b1;go_wp2_with fail;go_loopw [5,7] (fun sv iv wr=>∃(k:Nat) (S:ByteArray),k<=l.length/\iv=aM k/\sv=.string S/\S=cK hJ ((l.take k).map bQ)/\Below w1 w1 wr) (fun _ iv _=>l.length-(intOf iv).toNat)
   case atStart=>exact⟨0,_,Nat.zero_le _,rfl,rfl,rfl,Below.refl _ _⟩
   case round=>
    obtain⟨k,S,hk,rfl,rfl,Y,B⟩:=hrel;obtain⟨wz,rfl⟩:∃q:World,q=wr:=⟨_,rfl⟩;have g3:S.size<=22000:=by rw[Y];exact zS l k b6.out e9 hk
    by_cases hlt:k<l.length
    ·have c9:(k:Int)<(l.length:Int):=aK;have e7:=aW HC.out hb B aO k hlt;have g6:=fun W=>d8.out W k hlt;have I:=zR l k hlt;have a9:=b6.out l[k] (List.getElem_mem hlt);rw[<-Y]at I;have Z:k=0->S=ByteArray.empty:=fun h=>by rw[Y,h];rfl
     obtain⟨x,O⟩:=aQ (l[k]);rw[<-O]at e7 I a9;have hT:=cW x a9;have hF:=fX x a9 wz;obtain⟨T,b9⟩:=aQ (bQ x);rw[<-b9]at I hT hF;have HF:=aN hF;have b8:=aN I;clear hF I O b9 Y;by_cases M:k=0
     ·have e6:=Z M;subst e6;have d9:=aN M;have e8:¬0<(k:Int):=aK;have c5:¬0<k:=aK;clear Z M;go_wp2_with fail;refine HF.out.mono ?_;rintro e w3 ⟨rfl,b3⟩;have B:=B.after b3 B.size;go_wp2;go_roundw
      case rel=>exact⟨k+1,_,by omega,by go_num,rfl,by rw[b8.out,if_pos d9.out],B⟩
      case measure=>simp[intOf];omega
     ·have e8:0<(k:Int):=aK;have c5:0<k:=aK;have g2:(S++hJ).size<=22001:=by rw[ByteArray.size_append];show S.size+1<=22001;omega
      clear Z;go_wp2_with fail;refine HF.out.mono ?_;rintro e w3 ⟨rfl,b3⟩;have B:=B.after b3 B.size;go_wp2;go_roundw
      case rel=>exact⟨k+1,_,by omega,by go_num,rfl,by rw[b8.out,if_neg M];rfl,B⟩
      case measure=>simp[intOf];omega
    ·have c9:¬(k:Int)<(l.length:Int):=aK;have K:S=cK hJ (l.map bQ):=by rw[Y,show k=l.length by omega,List.take_length]
     have a6:=NH S;have a1:decide (S=ByteArray.empty)=decide (l=[]):=by rw[K];simp only[AX]
     rw[a1]at a6;have BB:=b4.out.after B b4.out.size
     cases h0:decide (l=[]) with
     |true=>
      have F:bZ n s=QK:=by rw[b7.out,if_pos (of_decide_eq_true h0)]
      rw[h0]at a6;have R:=aN F;clear h0 a1 K F Y;go_wp2;go_ret;exact⟨cI R.out.symm,BB⟩
     |false=>
      have F:bZ n s=S:=by rw[b7.out,if_neg (of_decide_eq_false h0)];exact K.symm
      rw[h0]at a6;have R:=aN F;clear h0 a1 K F Y;go_wp2;go_ret;exact⟨cI R.out.symm,BB⟩
def vV:ByteArray:=⟨#[124]⟩
def dB(g:Int)(l:List Int):ByteArray:=if bJ g l=true then (if l=[] then zI else cK vV (l.map (bZ g))) else ByteArray.empty
theorem ahN(l:List Int)(D:l.Pairwise (· < ·))(z:∀x∈l,0<=x):∀k,(h:k<l.length)->(k:Int)<=l[k]:=by
 intro k
 induction k with
 |zero=>intro h;have:=z _ (List.getElem_mem h);omega
 |succ k ih=>intro h;have h1:=ih aK;have h2:=List.pairwise_iff_getElem.1 D k (k+1) aK h aK;omega
theorem jT{g:Int}{l:List Int}(h:bJ g l=true):l.length<=64:=by
 obtain⟨z,D,hb,I⟩:=dT h;have F:=mC z D;by_cases hl:l.length=0
 ·omega
 ·have h1:=ahN l I (fun x J=>(hb x J).1) (l.length-1) aK;have h2:=(hb _ (List.getElem_mem (show l.length-1<l.length by omega))).2;omega
theorem ahT{g:Int}{l:List Int}(h:bJ g l=true):∀s∈l,pK g s=true:=by
 obtain⟨z,D,hb,I⟩:=dT h;intro s F;unfold pK;rw[dK.2 ⟨z,D⟩,mT.2 (hb s F)];rfl
theorem CI(g:Int)(l:List Int):(cK vV (l.map (bZ g))).size<=l.length*133:=by
 have:=JQ vV 132 (l.map (bZ g)) (fun x z=>by obtain⟨y,D,rfl⟩:=List.mem_map.1 z;exact fF g y);rw[List.length_map]at this;exact this
theorem aaE(g:Int)(l:List Int)(k:Nat)(hl:l.length<=64)(hk:k<=l.length):(cK vV ((l.take k).map (bZ g))).size<=22000:=by
 have h1:=CI g (l.take k);rw[List.length_take]at h1;have:min k l.length=k:=aK;rw[this]at h1;omega
theorem aaD(g:Int)(l:List Int)(k:Nat)(hk:k<l.length):cK vV ((l.take (k+1)).map (bZ g))=if k=0 then bZ g l[k] else cK vV ((l.take k).map (bZ g))++vV++bZ g l[k]:=by
 have h:=JS vV (l.map (bZ g)) k (by rw[List.length_map];exact hk);rw[List.getElem_map,<-List.map_take,<-List.map_take]at h;exact h
theorem fC(g:Int)(l:List Int):(dB g l).size<=10000:=by
 unfold dB
 split
 ·rename_i h
  split
  ·show 4<=10000;omega
  ·have h1:=CI g l;have h2:=jT h;omega
 ·simp
theorem adD(g:Int)(l:List Int)(h:∀s∈l,pK g s=true):(cK vV (l.map (bZ g))=ByteArray.empty)=(l=[]):=by
 refine propext ⟨fun h2=>?_,fun h2=>by subst h2;rfl⟩
 cases l with
 |nil=>rfl
 |cons x l=>exact absurd h2 (SR vV (bZ g x) (l.map (bZ g)) (ae5 g x (h x (by simp))))
theorem kQ(g:Int)(l:List Int)(v:Value)(w:World)(hv:aR w v l)(hp:sV w):
  Calls prog 70 #[.agg #[g,v]] w fun e w'=>e=.returned (.string (dB g l))/\Below w w w':=by
 have b5:=hv;obtain⟨a,b,f4,c,rfl,Z,Y,hc,hb⟩:=hv.view prog 24 3 underlying24 aS;have K0:=aU.new w 31 #[g,aI a l.length c];have HC:=aN hc;have a8:=aN Y;clear hc Y Z;go_enter func70,ntmps70;go_wp2_with fail;refine(dF g l _ _ (b5.alloc _)).mono ?_;rintro e w1 ⟨rfl,J⟩;have K1:=K0.keep J;have I:Below w w w1:=(bF _ _).after J (by simp);have G1:=K1.cell;clear K0 J
 cases K:bJ g l with
 |false=>
  have F:dB g l=ByteArray.empty:=by unfold dB;rw[K];rfl
  have O:=aN F;clear F K;go_wp2;go_ret;exact⟨cI O.out.symm,I⟩
 |true=>
  have e7:=jT K;by_cases z:l.length=0
  ·have F:dB g l=zI:=by unfold dB;rw[if_pos K,if_pos (List.eq_nil_of_length_eq_zero z)]
   have O:=aN F;have hz:((l.length:Int)==0)=true:=by simp[z]
   have f2:(l.length==0)=true:=by simp[z]
   clear F K z hz;go_wp2;go_ret;exact⟨cI O.out.symm,I⟩
  ·have F:dB g l=cK vV (l.map (bZ g)):=by unfold dB;rw[if_pos K,if_neg (fun h=>z (by rw[h];rfl))]
   have O:=aN F;have hz:(l.length==0)=false:=by simpa using z
   have b8:((l.length:Int)==0)=false:=by simp;intro h;exact z (by rw[h];rfl)
   clear F K z;go_wp2_with fail;go_loopw [3,16] (fun ov iv wr=>∃(k:Nat) (p:Option Addr) (n S:Nat),k<=l.length/\iv=aM k/\ov=aI p n S/\eI 9 w1 wr (aI p n S) ((l.take k).map (bZ g))/\Below w1 w1 wr) (fun _ iv _=>l.length-(intOf iv).toNat)
   case atStart=>exact⟨0,_,_,_,Nat.zero_le _,rfl,rfl,eI.nil _ _ _,Below.refl _ _⟩
   case round=>
    obtain⟨k,p,n,S,hk,rfl,rfl,M,B⟩:=hrel;obtain⟨wz,rfl⟩:∃q:World,q=wr:=⟨_,rfl⟩;have a7:=hp.keep (I.after B I.size);have Kz:=K1.keep B;have Gz:=Kz.cell;clear G1 hz b8;by_cases hlt:k<l.length
    ·have a1:(k:Int)<(l.length:Int):=aK;have b4:=aW HC.out hb (I.after B I.size) aO k hlt;have e8:=fun W=>a8.out W k hlt;have N:(l.take (k+1)).map (bZ g)=(l.take k).map (bZ g)++[bZ g l[k]]:=by rw[List.take_succ_eq_append_getElem hlt,List.map_append];rfl
     have D:((l.take k).map (bZ g)).length=k:=by simp;omega
     obtain⟨x,F⟩:=aQ (l[k]);rw[<-F]at b4 N;have b0:=aN N;have a9:=aN D;clear F N D;have hF:=aN (gM g x wz a7);go_wp2_with fail;refine hF.out.mono ?_;rintro e w3 ⟨rfl,R⟩;have M:=M.keep R;have B:=B.after R B.size;have zB:=B.size;clear R hF Gz;go_wp2_with (at_builtin;refine AR rfl _ _ _ rfl 9 underlying44 E1 w1.heap.size (aI p n S) ((l.take k).map (bZ g)) [bZ g x] w3.heap.size 1 1 rfl rfl rfl (fun j y hy=>by match j,hy with|0,hy=>(cases hy;exact bB _ _ _ _ _ rfl)) (M.alloc _) (by rw[a9.out];simp;omega) aV ?_;intro v7 w7 o7 g7;obtain⟨p7,i7,q7,rfl⟩:=o7.shape3);have rr:=M.lt;have B7:=(B.alloc zB (.cells #[.string (bZ g x)] 9)).grown g7 aV (fun q hq=>(rr _ hq).1);go_roundw
     case rel=>exact⟨k+1,p7,i7,q7,by omega,by go_num,rfl,by rw[b0.out];exact o7,B7⟩
     case measure=>simp[intOf];omega
    ·have D:k=l.length:=aK;have a6:eI 9 w1 wz (aI p n S) (l.map (bZ g)):=by rw[D,List.take_length]at M;exact M
     have a1:¬(k:Int)<(l.length:Int):=aK;have b1:=CI g l;have HJ:=aN (GU w1.heap.size wz _ (l.map (bZ g)) vV a6 aK (by rw[List.length_map];omega));have BB:=I.after B I.size;clear D M a6 a7 b1;go_wp2_with fail;refine HJ.out.mono ?_;rintro e w3 ⟨rfl,R⟩;go_wp2;go_ret;exact⟨cI O.out.symm,BB.after R BB.size⟩
def adA(w:World):Prop:=∃m,w.cell? ⟨0,0,none⟩=some (aM m)
theorem adA.keep{w w':World}(h:adA w)(hb:Below w w w'):adA w':=by
 obtain⟨m,hm⟩:=h;exact⟨m,Go.G5.keep hb hm⟩
end
section
open Go.RowKit Go.G5 Go.Proofs.Tryz
end
section
open Go.RowKit Go.G5 Go.Proofs.Tryz
end
section
open Go.RowKit Go.G5 Go.Proofs.Tryz
theorem lX{w W Wf:World}{r:Nat}{E:TypeId}{n m:Int}{a b:Value}{ad:Option Addr}{i D:Nat}{l:List Int}{B:Nat}
  (K:aU W r E #[n,a]) (o:aP 3 B W (aI ad i D) l) (hr:w.heap.size<=r) (hB:r<B) (hb:Below w w W)
  (z:Wf=(W.setCell ⟨r,0,none⟩ (aM m)).setCell ⟨r,1,none⟩ b):aU Wf r E #[m,b]/\aP 3 w Wf (aI ad i D) l/\Below w w Wf:=by
 refine⟨?_,?_,?_⟩
 ·rw[z];have:=(K.set 0 (aM m)).set 1 b;simpa using this
 ·rw[z];exact((o.setBelow (by show r<B;exact hB) _).setBelow (by show r<B;exact hB) _).mono aK
 ·rw[z];exact Below.setCell (Below.setCell hb hr _) hr _
end
end Go.Proofs.YtcpoomdoodlkjaaGreatDoor
section
namespace Go.G5
open Go Go.RowKit
def NN(w:World)(g n m:Nat)(z:Nat->Int):Prop:=∀k,k<n*m->w.cell? ⟨g,k,none⟩=some (aM (z k))
theorem NN.keep{w w':World}{g n m B:Nat}{z:Nat->Int}(h:NN w g n m z)(hb:Below B w w')(D:g<B):NN w' g n m z:=fun k hk=>by
 rw[hb.cell (p:=⟨g,k,none⟩) (by show g<B;exact D)];exact h k hk
end Go.G5
namespace Go.Proofs.YtcpoomdoodlkjaaGreatDoor
open Go.RowKit Go.G5 Go.Proofs.Tryz
theorem NU:(prog.info? 89).map (fun i=>(i.zero,i.size,i.bytes))=some (some (.agg #[aJ,aJ,aJ]),3,24):=aT
theorem XB(g n c k:Nat)(hk:k<n)(W:World):(Instr.indexAt 87 (aI (some ⟨g,0,none⟩) n c) (aM (k:Int))).run prog W=.ok (.pointer (some ⟨g,3*k,none⟩)) W:=by
 have D:=underlying87;have z:prog.elem 87=89:=by simp[Program.elem,D]
 obtain⟨i,F,_,I,_⟩:=info_parts NU;rw[run_indexAt_slice W 87 ⟨g,0,none⟩ n c .i64 k (by rw[z];exact D),if_pos ⟨by omega,by omega⟩,z];simp[sizeOf,typeInfo,F,I,Addr.add];rcases Nat.eq_zero_or_pos k with rfl|h
 ·simp
 ·rw[if_neg aK,Nat.mul_comm k 3]
theorem VR(w:World)(N:Nat)(Z:N<=5)(g n c:Nat)(z:Nat->Int)(J:NN w g n 3 z)(_:∀k,0<=z k/\z k<=63)(hn:n<=20):
  Calls prog 255 #[(N:Int),aI (some ⟨g,0,none⟩) n c] w fun e w'=>∃b:Bool,e=.returned (.bool b)/\w=w':=by
 have F:=aN J;clear J;go_enter func255,ntmps255;go_wp2_with fail;go_loop [5] (fun i=>∃k:Nat,k<=n/\i=aM (k:Int)) (fun i=>n-(intOf i).toNat)
 case atStart=>exact⟨0,Nat.zero_le _,rfl⟩
 case round=>
  obtain⟨k,hk,rfl⟩:=hrel;by_cases hlt:k<n
  ·have D:(k:Int)<(n:Int):=aK;have ik:=fun W=>XB g n c k hlt W;have c0:=F.out (3*k) aK;have c1:=F.out (3*k+1) aK;have c2:=F.out (3*k+2) aK;obtain⟨t0,I⟩:∃t,Hid (eZ (N:Int) 0 5=t):=⟨_,aN rfl⟩;obtain⟨Y,h1⟩:∃t,Hid (eZ (z (3*k)) 0 ((N:Int)-1)=t):=⟨_,aN rfl⟩;obtain⟨t2,h2⟩:∃t,Hid (eZ (z (3*k+1)) 0 ((N:Int)-1)=t):=⟨_,aN rfl⟩;obtain⟨t3,h3⟩:∃t,Hid (eZ (z (3*k+2)) 0 20=t):=⟨_,aN rfl⟩;have K:=aN (fun W=>cQ (N:Int) 0 5 W);have M:=aN (fun W=>cQ (z (3*k)) 0 ((N:Int)-1) W);have O:=aN (fun W=>cQ (z (3*k+1)) 0 ((N:Int)-1) W);have R:=aN (fun W=>cQ (z (3*k+2)) 0 20 W);go_wp2_with fail;refine(K.out w).mono ?_;rintro e w1 ⟨rfl,rfl⟩;rw[I.out];clear I
   cases t0 with
   |false=>go_wp2;go_ret;exact⟨false,rfl,rfl⟩
   |true=>
    go_wp2_with fail;refine(M.out w).mono ?_;rintro e w1 ⟨rfl,rfl⟩;rw[h1.out];clear h1
    cases Y with
    |false=>go_wp2;go_ret;exact⟨false,rfl,rfl⟩
    |true=>
     go_wp2_with fail;refine(O.out w).mono ?_;rintro e w1 ⟨rfl,rfl⟩;rw[h2.out];clear h2
     cases t2 with
     |false=>go_wp2;go_ret;exact⟨false,rfl,rfl⟩
     |true=>
      go_wp2_with fail;refine(R.out w).mono ?_;rintro e w1 ⟨rfl,rfl⟩;rw[h3.out];clear h3
      cases t3 with
      |false=>go_wp2;go_ret;exact⟨false,rfl,rfl⟩
      |true=>
       go_wp2;go_round
       case rel=>exact⟨k+1,by omega,by go_num⟩
       case measure=>simp[intOf];omega
  ·have D:¬(k:Int)<(n:Int):=aK;have S:(n:Int)<=20:=aK;go_wp2;go_ret;exact⟨.inr rfl,rfl⟩
theorem YP(w:World)(N:Nat)(hN:N<=5)(g n c:Nat)(z:Nat->Int)(S:NN w g n 3 z)(hg:g<w.heap.size)(hb:∀k,0<=z k/\z k<=63)(hn:n<=20):
  Calls prog 150 #[(N:Int),aI (some ⟨g,0,none⟩) n c] w fun e w'=>∃(ad:Option Addr) (i Y:Nat) (m:Int) (L:List Int) (b:Bool),e=.returned (.tuple #[.agg #[m,aI ad i Y],.bool b])/\dD m/\aP 3 w w' (aI ad i Y) L/\L.length<=64/\Below w w w':=by
 obtain⟨V,hV⟩:=aQ (w.alloc (.cells #[aJ,()] 26));have M:aU V w 26 #[aJ,()]:=eJ hV;have BV:Below w w V:=fU hV;have a8:=S.keep BV hg;have Z:=cQ (N:Int) 0 5 V;have c7:eZ (N:Int) 0 5=true:=dK.2 ⟨by omega,by omega⟩;rw[c7]at Z;have b8:=VR V N hN g n c z a8 hb hn;have HB:=aN hb;have HZ:=aN a8;have f3:=aN Z;have f2:=aN b8;clear S a8 Z c7 b8 hb;go_enter func150,ntmps150;go_wp2_with fail;refine bH ?_;intro J c5;obtain rfl:J=V:=by rw[c5,hV]
 clear hV c5;refine f3.out.mono ?_;rintro e w1 ⟨rfl,rfl⟩;go_wp2_with fail;refine f2.out.mono ?_;rintro e w1 ⟨b,rfl,rfl⟩;have M:=M
 cases b with
 |false=>have G:=M.cell;have F:=M.frozen;go_wp2;refine bG ?_;intro Wf a1;have t:=lX (w:=w) (E:=26) (m:=0) (b:=aI none 0 0) M (aP.nil 3 (J.heap.size) J) aO M.lt BV a1;have GF:=t.1.cell;exact bodyPost_ret (v:=.tuple #[.agg #[aJ,()],.bool false]) (by simp[results,results150,go_sem,GF]) rfl ⟨none,0,0,0,[],false,rfl,⟨by omega,by omega⟩,t.2.1,by simp,t.2.2⟩
 |true=>
  have k1:(2:Nat)^N<=32:=Nat.pow_le_pow_right (n:=2) aY hN;have a7:((2^N:Nat):Int)=(2:Int)^N:=by simp
  have tp:=cO N 5 hN;have j9:(2:Int)^N<=32:=by rw[<-a7];omega
  have k0:=tp.2;have k4:IntKind.i64.wrap ((2:Int)^N)=(2:Int)^N:=by rw[IntKind.wrap_i64];omega
  have b6:=aN a7;clear tp a7;have zV:=M.lt;have HK:=aN M;have b3:=aN BV;have o0:=aP.lit0 (E:=3) (B:=J.heap.size) J aO;clear M BV;go_wp2_with fail;go_loopw [6,7] (fun v i wr=>∃(s:Nat) (ad:Option Addr) (nn Y:Nat) (L:List Int),s<=2^N/\v=aI ad nn Y/\i=aM (s:Int)/\L.length=s/\(∀x∈L,0<=x/\x<=1300)/\aP 3 J wr (aI ad nn Y) L/\Below J J wr) (fun _ i _=>2^N-(intOf i).toNat)
  case atStart=>exact⟨0,_,_,_,[],Nat.zero_le _,rfl,rfl,rfl,by simp,o0,bF _ _⟩
  case round=>
   obtain⟨s,ad,nn,Y,L,hs,rfl,rfl,b9,hL,ho,R⟩:=hrel;clear o0;obtain⟨WC,f9⟩:∃WC:World,WC=wr:=⟨_,rfl⟩;subst f9;have d9:=HZ.out.keep R aK;have f5:=aN d9;have HL:=aN (And.intro b9 hL);have HO:=aN ho;have h0:L.length<=32:=aK;clear b9 hL ho d9;by_cases hlt:s<2^N
   ·have d0:(s:Int)<(2:Int)^N:=by rw[<-b6.out];exact_mod_cast hlt
    go_wp2_with fail;go_loopw [8,9] (fun x i wx=>∃(k:Nat) (X:Int),k<=n/\i=aM (k:Int)/\x=aM X/\0<=X/\X<=63*k/\Below WC WC wx) (fun _ i _=>n-(intOf i).toNat)
    case atStart=>exact⟨0,0,Nat.zero_le _,rfl,rfl,by omega,by omega,Below.refl _ _⟩
    case round=>
     obtain⟨k,X,hk,rfl,rfl,g1,j5,Bx⟩:=hrel;obtain⟨WX,g0⟩:∃WX:World,WX=wr:=⟨_,rfl⟩;subst g0;by_cases g2:k<n
     ·have c8:(k:Int)<(n:Int):=aK;have O:=f5.out.keep Bx (by have:=R.size;omega);have ik:=fun W=>XB g n c k g2 W;have c0:=O (3*k) aK;have c1:=O (3*k+1) aK;have c2:WX.drew.cell? ⟨g,3*k+2,none⟩=some (aM (z (3*k+2))):=O (3*k+2) aK;obtain⟨p,hp⟩:=Int.eq_ofNat_of_zero_le (HB.out (3*k)).1;obtain⟨q,hq⟩:=Int.eq_ofNat_of_zero_le (HB.out (3*k+1)).1;have hr:=HB.out (3*k+2);obtain⟨r,d7⟩:=aQ (z (3*k+2));rw[hp]at c0;rw[hq]at c1;rw[<-d7]at c2 hr;have k2:=hr.1;have k3:=hr.2;have h8:p<=63:=by have:=(HB.out (3*k)).2;omega
      have h9:q<=63:=by have:=(HB.out (3*k+1)).2;omega
      clear hp hq hr d7 O;obtain⟨t,ht⟩:∃t,(bits .and .i64 ((s:Int)/2^p) 1 != bits .and .i64 ((s:Int)/2^q) 1)=t:=⟨_,rfl⟩
      cases t with
      |false=>
       go_wp2_with fail;go_region
       all_goals
        go_wp2;go_roundw
        case rel=>exact⟨k+1,X,by omega,by go_num,rfl,g1,by omega,Bx.drew⟩
        case measure=>simp[intOf];omega
      |true=>
       go_wp2_with fail;go_region
       all_goals
        go_wp2;go_roundw
        case rel=>exact⟨k+1,X+r,by omega,by go_num,rfl,by omega,by omega,Bx.drew⟩
        case measure=>simp[intOf];omega
     ·have c8:¬(k:Int)<(n:Int):=aK;have j6:X<=1300:=aK;have zC:=Bx.size;have zW:=R.size;have b4:=aN (HO.out.keep Bx);have BX:=R.after Bx R.size;have zX:=BX.size;go_wp2_with (at_builtin;refine dI rfl _ _ _ rfl 3 underlying24 aS J.heap.size _ L X _ rfl rfl (bB _ _ _ _ _ rfl) (b4.out.alloc _) ⟨by omega,by omega⟩ aK aV ?_;intro v5 w5 o5 g5 h5;obtain⟨p5,i5,q5,rfl⟩:=o5.shape3);have B5:=(BX.alloc zX (.cells #[X] 3)).grown g5 aV (fun q hq=>(b4.out.lt q hq).1);go_roundw
      case rel=>
       refine⟨s+1,p5,i5,q5,L++[X],by omega,rfl,by go_num,by simp;exact HL.out.1,fun z S=>?_,o5,B5⟩;rcases List.mem_append.1 S with S|S
       ·exact HL.out.2 z S
       ·rw[List.mem_singleton.1 S];omega
      case measure=>simp[intOf];omega
   ·have d0:¬(s:Int)<(2:Int)^N:=by rw[<-b6.out];exact_mod_cast hlt
    obtain⟨K,c6⟩:=xR (bM (N:Int) L);have d6:=fun W hv=>wY W (N:Int) ad nn Y L hv K c6;have zC:=R.size;clear c6;go_wp2_with fail;refine(d6 WC HO.out.ints).mono ?_;rintro e w5 ⟨D,i',I,rfl,d8,b5⟩;have B5:=R.after b5 R.size;have B6:Below w w w5:=b3.out.after B5 b3.out.size;have K5:=(HK.out.keep B5);have o6:aP 3 J w5 (aI D i' I) (if K then L else []):=by
     rw[d8]
     cases K
     ·exact aP.nil _ _ _
     ·exact HO.out.keep b5
    have a6:dD (if K then (N:Int) else 0):=by cases K<;>exact⟨by simp;try omega,by simp;try omega⟩
    have c9:(if K then L else []).length<=64:=by cases K<;>simp;omega
    obtain⟨m6,d5⟩:=aQ ((if K then (N:Int) else 0));rw[<-d5]at a6 ⊢;have H6:=aN (And.intro a6 c9);clear d8 d5 d6 a6 c9;obtain⟨U,hU⟩:=aQ (w5.alloc (.cells #[m6,aI D i' I] 26));have KU:aU U w 26 #[aJ,()]:=by rw[hU];exact K5.alloc _
    have oU:aP 3 J U (aI D i' I) (if K then L else []):=by rw[hU];exact o6.alloc _
    have BU:Below w w U:=by rw[hU];exact B6.alloc B6.size _
    have KN:aU U w5 26 #[m6,aI D i' I]:=eJ hU;have G1:=KU.cell;have F1:=KU.frozen;have G2:=KN.cell;go_upto_region 15 with fail;rw[<-hU];clear hU;go_wp2;refine bG ?_;intro Wf a1;have t:=lX (w:=w) (E:=26) (m:=m6) (b:=aI D i' I) KU oU aO zV BU a1;have GF:=t.1.cell;exact bodyPost_ret (v:=.tuple #[.agg #[m6,aI D i' I],.bool K]) (by simp[results,results150,go_sem,GF]) rfl ⟨D,i',I,m6,_,K,rfl,H6.out.1,t.2.1,H6.out.2,t.2.2⟩
end Go.Proofs.YtcpoomdoodlkjaaGreatDoor
end
