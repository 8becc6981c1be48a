/- Lemmas for CardConsoleResults. No condition. -/
import Derived.Test.YtkdbkjjacgigiaaGreatDoorQ06
import Derived.Test.YtkdbkjjacgigiaaGreatDoorQ25
set_option maxRecDepth 100000
set_option maxHeartbeats 64000000
namespace Go.Proofs.YtkdbkjjacgigiaaGreatDoor
section
open Go.RowKit Go.G5 Go.Proofs.Tryz
def iY(w:World):Prop:=Lib.TabIs prog w "internal/strconv.uint64pow10" .u64 Lib.pow10Tab
theorem ajD:(prog.globalNamed "internal/strconv.uint64pow10").isSome=true:=aO
theorem iY.keep{w w':World}(h:iY w)(hb:Below w w w'):iY w':=by
 obtain⟨g,z⟩:=Option.isSome_iff_exists.1 ajD;exact Go.Joins.var_stays z h hb aI
theorem acA(w:World)(k:Nat)(os:Array Obj):Below w w (Sort.grow (w.drewN k) os):=by
 refine⟨rfl,rfl,rfl,?_,fun b hb=>?_⟩
 ·show w.heap.size<=(w.heap++os).size;simp
 ·show(w.heap++os)[b]?=w.heap[b]?;rw[Array.getElem?_append_left hb]
theorem AI(n:Int)(z:dL n)(w:World)(D:iY w):
  Calls prog 143 #[n] w fun e w'=>e=.returned (.string (aX n))/\Below w w w':=by
 go_enter func143,ntmps143;go_wp2_with (go_at_call 217;refine(O0 n z.1 z.2 _ D).mono ?_;rintro e w' ⟨rfl,k,os,rfl⟩);go_ret;exact⟨rfl,acA w k os⟩
def vW(s:ByteArray):ByteArray:=FU (if IW s then s.data.toList.tail else s.data.toList)
theorem al5(s:ByteArray):Lib.trimPrefix s.data.toList (⟨#[45]⟩:ByteArray).data.toList=(vW s).data.toList:=by
 unfold vW IW;rw[uV];show Lib.trimPrefix s.data.toList [45]=_
 cases h:s.data.toList with
 |nil=>rfl
 |cons b l=>
  by_cases hb:b=45
  ·subst hb;rfl
  ·have e:((b::l).headD 0==45)=false:=by simpa using hb
   have e2:([45]:List UInt8).isPrefixOf (b::l)=false:=by simp[List.isPrefixOf];exact fun h=>hb h.symm
   rw[e];unfold Lib.trimPrefix;rw[if_neg (by show ¬([45]:List UInt8).isPrefixOf (b::l)=true;rw[e2];simp)]
   rfl
theorem abM(s:ByteArray):qY (vW s).data.toList=qY s.data.toList:=by
 unfold vW;rw[uV]
 cases h:IW s with
 |false=>rfl
 |true=>
  unfold IW at h
  cases hl:s.data.toList with
  |nil=>rfl
  |cons b l=>
   rw[hl]at h;have:b=45:=by simpa using h
   subst this;exact(PA l).symm
theorem al4(s:ByteArray):(vW s).size<=s.size/\((vW s).size=s.size↔IW s=false):=by
 unfold vW
 cases h:IW s with
 |false=>rw[Lib.size_eq,uV,Lib.size_eq];simp
 |true=>
  unfold IW at h;rw[Lib.size_eq,uV,Lib.size_eq]
  cases hl:s.data.toList with
  |nil=>rw[hl]at h;simp at h
  |cons b l=>simp
theorem OS{s:ByteArray}(h:pB s=true):1<=(vW s).size/\(vW s).size<=9/\∀b∈(vW s).data.toList,mM b=true:=by
 obtain⟨h1,h2,h3⟩:=anH h;obtain⟨n,I⟩:=aJ (pN s);rw[<-I]at h1 h2 h3;have hd:(vW s).data.toList=Lib.decDigits n.natAbs:=by
  unfold vW IW;rw[uV,<-h1,IL];by_cases F:n<0
  ·rw[if_pos F];rfl
  ·rw[if_neg F];have:=VI n.natAbs;rw[if_neg (by simpa using this)]
 have D:=AE n.natAbs;have z:=rF 9 n.natAbs aD aQ;rw[Lib.size_eq,hd];refine⟨?_,z,(zS _).1⟩
 cases J:Lib.decDigits n.natAbs with
 |nil=>exact absurd J D
 |cons b l=>simp
theorem aoX{s:ByteArray}(h:9<(vW s).size):pB s=false:=by
 cases z:pB s with
 |false=>rfl
 |true=>have:=(OS z).2.1;omega
theorem aoY{s:ByteArray}(h:(vW s).size=0):pB s=false:=by
 cases z:pB s with
 |false=>rfl
 |true=>have:=(OS z).1;omega
theorem aq2{s:ByteArray}(b:UInt8)(hb:b∈(vW s).data.toList)(h:mM b=false):pB s=false:=by
 cases z:pB s with
 |false=>rfl
 |true=>have:=(OS z).2.2 b hb;rw[h]at this;cases this
theorem PP(l:List UInt8):DS l<=l.length:=List.countP_le_length
theorem aq3{s:ByteArray}(h:(vW s).size<=9):pB s=decide (aX (pN s)=s)/\-999999999<=pN s/\pN s<=999999999:=by
 have h1:=PP (vW s).data.toList;rw[Lib.size_eq]at h;have h2:=RB (vW s).data.toList 9 aD;rw[abM]at h2;have h3:-999999999<=pN s/\pN s<=999999999:=by
  unfold pN
  split<;>omega
 refine⟨?_,h3⟩;unfold pB;rw[decide_eq_true h3.1,decide_eq_true h3.2];simp
theorem aeL(s:ByteArray)(k:Nat)(h:k<s.size):s.data.toList.take (k+1)=s.data.toList.take k++[s[k]]:=by
 rw[List.take_succ_eq_append_getElem (by simpa using h)];rfl
theorem akH(s:ByteArray)(k:Nat)(h:k<s.size):s[k]∈s.data.toList:=by
 have:s.data.toList[k]'(by simpa using h)∈s.data.toList:=List.getElem_mem _;exact this
theorem dX(a b:ByteArray):(a.toList==b.toList)=decide (a=b):=by
 rw[Bool.eq_iff_iff,beq_iff_eq,decide_eq_true_iff];constructor
 ·intro h;refine dO ?_;rw[Lib.toList_data,Lib.toList_data]at h;exact h
 ·intro h;rw[h]
theorem agX{p:Prop}(h:p:=by
  have f5:=aH O;clear O he;go_wp2_with fail;rw[<-f5.out];refine(f4.out _ hp).mono ?_;rintro e w2 ⟨rfl,b2⟩;by_cases ht:T=s
  ·have z:pB s=true:=by rw[b6.out,decide_eq_true ht]
   have g9:(T.toList==s.toList)=true:=by rw[dX,decide_eq_true ht]
   have F:=aH z;clear z ht;go_wp2;go_ret2;exact⟨mJ (by rw[OU F.out,HM.out]) F.out.symm,b2⟩
  ·have z:pB s=false:=by rw[b6.out,decide_eq_false ht]
   have g9:(T.toList==s.toList)=false:=by rw[dX,decide_eq_false ht]
   have F:=aH z;clear z ht;go_wp2;go_ret2;exact⟨mJ (OT F.out).symm F.out.symm,b2⟩):p:=h
theorem aiD{p:Prop}(h:p:=by
  go_enter func91,ntmps91;go_wp2_with fail;refine(c5.out _).mono ?_;rintro e w1 ⟨rfl,rfl⟩;go_wp2;go_ret2;exact⟨mJ (OT F.out).symm F.out.symm,Below.refl _ _⟩):p:=h
theorem E5(s:ByteArray)(w:World)(_:s.size<=9223372036854775807)(hp:iY w):
  Calls prog 91 #[.string s] w fun e w'=>e=.returned (.tuple #[(pV s),.bool (pB s)])/\Below w w w':=by
 have b4:=al5 s;have a1:=al4 s;have R:=abM s;have J:=aoX (s:=s);have K:=aoY (s:=s);have M:=aq2 (s:=s);have N:=aq3 (s:=s);obtain⟨D,hD⟩:=aJ (vW s);rw[<-hD]at b4 a1 R J K M N;have b3:=fun W:World=>DJ s ⟨#[45]⟩ W;have c7:(⟨(Lib.trimPrefix s.data.toList (⟨#[45]⟩:ByteArray).data.toList).toArray⟩:ByteArray)=D:=by rw[b4]
 simp only[c7]at b3;have h8:=a1.1;have c5:=aH b3;have b9:=aH a1;have c6:=aH R;have a9:=aH J;have b0:=aH K;have a6:=aH M;have b7:=aH N;clear b4 a1 R J K M N hD b3 c7;by_cases h0:D.size=0
 ·have z:=b0.out h0;have e0:(D.size:Int)<1:=aD;have F:=aH z;clear z h0;exact aiD
 have e0:¬(D.size:Int)<1:=aD;by_cases h9:9<D.size
 ·have z:=a9.out h9;have e4:(9:Int)<(D.size:Int):=aD;have F:=aH z;clear z h0 h9;exact aiD
 have e4:¬(9:Int)<(D.size:Int):=aD;have e5:D.size<=9:=aD;clear h0 h9;go_enter func91,ntmps91;go_wp2_with fail;refine(c5.out _).mono ?_;rintro e w1 ⟨rfl,rfl⟩;go_wp2_with fail;clear e0 e4;go_loop [5,6] (fun nv iv=>∃k:Nat,k<=D.size/\iv=aG k/\nv=aG (qY (D.data.toList.take k):Int)) (fun _ iv=>D.size-(intOf iv).toNat)
 case atStart=>exact⟨0,Nat.zero_le _,rfl,rfl⟩
 case round=>
  obtain⟨k,hk,rfl,rfl⟩:=hrel;have b5:=RB (D.data.toList.take k) 9 (Nat.le_trans (PP _) (by rw[List.length_take];omega));by_cases hlt:k<D.size
  ·have e7:(k:Int)<(D.size:Int):=aD;have e9:=aeL D k hlt;have a8:=akH D k hlt;have Z:=TB (D.data.toList.take k) D[k];rw[<-e9]at Z;have f2:=RB (D.data.toList.take k) 8 (Nat.le_trans (PP _) (by rw[List.length_take];omega));obtain⟨v,hv⟩:=aJ (qY (D.data.toList.take k));rw[<-hv]at Z b5 f2 ⊢;have a7:=aH a8;have f7:=aH Z;have g0:=D[k].toNat_lt;clear e9 a8 Z hv;by_cases c8:D[k].toNat<48
   ·have I:mM D[k]=false:=by unfold mM;simp;omega
    have z:=a6.out _ a7.out I;have F:=aH z;have c9:(D[k].toNat:Int)<48:=aD;clear z I;go_wp2;go_ret2;exact⟨mJ (OT F.out).symm F.out.symm,Below.refl _ _⟩
   ·by_cases d0:57<D[k].toNat
    ·have I:mM D[k]=false:=by unfold mM;simp;omega
     have z:=a6.out _ a7.out I;have F:=aH z;have c9:¬(D[k].toNat:Int)<48:=aD;have g2:(57:Int)<(D[k].toNat:Int):=aD;clear z I c8 d0;go_wp2;go_ret2;exact⟨mJ (OT F.out).symm F.out.symm,Below.refl _ _⟩
    ·have I:mM D[k]=true:=by unfold mM;simp;omega
     have e8:(qY (D.data.toList.take (k+1)):Int)=(v:Int)*10+((D[k].toNat:Int)-48):=by rw[f7.out];unfold tM;rw[if_pos I];omega
     have f6:=aH e8;have c9:¬(D[k].toNat:Int)<48:=aD;have g2:¬(57:Int)<(D[k].toNat:Int):=aD;clear e8 I c8 d0;go_wp2;go_round
     case rel=>exact⟨k+1,by omega,by go_num,by rw[f6.out]⟩
     case measure=>simp[intOf];omega
  ·have e7:¬(k:Int)<(D.size:Int):=aD
   have e6:D.data.toList.take k=D.data.toList:=List.take_of_length_le (by rw[<-Lib.size_eq];omega);rw[e6,c6.out]at b5 ⊢;obtain⟨S,g7,g8⟩:=b7.out e5;have Y:pN s=if D.size=s.size then (qY s.data.toList:Int) else -(qY s.data.toList:Int):=by
    unfold pN;by_cases h:D.size=s.size
    ·rw[if_pos h,if_neg (by rw[b9.out.2.1 h];simp)]
    ·rw[if_neg h]
     cases hg:IW s with
     |true=>rw[if_pos rfl]
     |false=>exact absurd (b9.out.2.2 hg) h
   obtain⟨v,hv⟩:=aJ (qY s.data.toList);rw[<-hv]at Y b5 ⊢;obtain⟨m,hm⟩:=aJ (pN s);have b1:=fun W (h:iY W)=>AI m ⟨by omega,by omega⟩ W h;obtain⟨T,hT⟩:=aJ (aX m);rw[<-hm]at Y S g7 g8;simp only[<-hT]at b1;rw[<-hT]at S;have f4:=aH b1;have HM:=aH hm;have b6:=aH S;have b8:=aH Y;clear e6 hv hm hT b1 S Y;by_cases he:D.size=s.size
   ·have g6:((D.size:Int) != (s.size:Int))=false:=by rw[bne_eq_false_iff_eq];omega
    have O:=b8.out;rw[if_pos he]at O;exact agX
   ·have g6:((D.size:Int) != (s.size:Int))=true:=by rw[bne_iff_ne];omega
    have O:=b8.out;rw[if_neg he]at O;exact agX
end
end Go.Proofs.YtkdbkjjacgigiaaGreatDoor
section
namespace Go.G5
open Go Go.RowKit
structure StrElem (P:Program) (E:TypeId):Prop where
 info:(P.info? E).map (fun i=>(i.zero,i.size,i.bytes))=some (some (.string ByteArray.empty),1,16)
theorem StrElem.get{P:Program}{E:TypeId}(h:StrElem P E):∃i,P.info? E=some i/\i.zero=some (.string ByteArray.empty)/\i.size=1/\i.bytes=16:=info_parts h.info
def dK(E:TypeId)(B:Nat)(w:World)(v:Value)(z:List ByteArray):Prop:=w.ownsRow B E 1 v z.length (z.map Value.string)
theorem dK.nil(E:TypeId)(B:Nat)(w:World):dK E B w (aA none 0 0) []:=World.ownsRow_nil _ _ _ _
theorem dK.below{E:TypeId}{B B':Nat}{w w':World}{v:Value}{l:List ByteArray}(h:dK E B w v l)(hb:Below B' w w')(hB:w.heap.size<=B'):dK E B w' v l:=by
 obtain⟨z,h1⟩:=h;refine⟨z,?_⟩;exact W3
theorem dK.keep{E:TypeId}{B:Nat}{W w1:World}{v:Value}{l:List ByteArray}(h:dK E B W v l)(hb:Below W W w1):dK E B w1 v l:=h.below hb aI
theorem dK.alloc{E:TypeId}{B:Nat}{w:World}{v:Value}{l:List ByteArray}(h:dK E B w v l)(o:Obj):dK E B (w.alloc o) v l:=h.keep (bF w o)
theorem dK.drewN{E:TypeId}{B:Nat}{w:World}{v:Value}{l:List ByteArray}(h:dK E B w v l)(n:Nat):dK E B (w.drewN n) v l:=h.keep ((Below.refl w.heap.size w).drewN' n)
theorem dK.mono{E:TypeId}{B B':Nat}{w:World}{v:Value}{l:List ByteArray}(h:dK E B w v l)(hB:B'<=B):dK E B' w v l:=by
 obtain⟨D,h1⟩:=h;refine⟨D,?_⟩;rcases h1 with h1|⟨g,cap,z,rfl,F,r⟩
 ·exact .inl h1
 ·exact .inr ⟨g,cap,z,rfl,by omega,r⟩
theorem dK.lt{E:TypeId}{B:Nat}{w:World}{v:Value}{l:List ByteArray}(h:dK E B w v l):∀k,v.ownBlock=some k->B<=k/\k<w.heap.size:=World.ownsRow.lt h
theorem dK.grown{E:TypeId}{B:Nat}{w w':World}{row:Option Nat}{v:Value}{l:List ByteArray}(h:dK E B w v l)(D:w.grownBy w' row)(z:v.ownBlock=none∨v.ownBlock≠row):dK E B w' v l:=World.ownsRow.kept h D z
theorem dK.lit{E:TypeId}{B:Nat}(w:World)(z:List ByteArray)(n:Nat)(D:n=z.length)(hl:n<=maxLen)(hB:B<=w.heap.size):dK E B (w.alloc (.cells (z.map Value.string).toArray E)) (aA (some ⟨w,0,none⟩) n n) z:=by
 subst D;have this:(w.alloc (.cells (z.map Value.string).toArray E)).ownsRow B E 1 (aA (some ⟨w,0,none⟩) z.length z.length) z.length (z.map Value.string).toArray.toList:=World.ownsRow_lit w _ z.length hB hl (by simp);simpa[dK]using this
theorem dK.at{E:TypeId}{B:Nat}{w:World}{v:Value}{z:List ByteArray}(h:dK E B w v z):(∃a c,v=aA a 0 c/\z=[])∨∃g c,v=aA (some ⟨g,0,none⟩) z.length c/\z.length<=c/\g<w.heap.size/\∀(j:Nat) x,z[j]?=some x->w.cell? ⟨g,0+j,none⟩=some (.string x):=by
 have h2:=h;obtain⟨M,h1⟩:=h;rcases h1 with⟨rfl,D⟩|⟨g,cap,I,rfl,hB,K,D,hm,J,ht⟩
 ·exact .inl ⟨none,0,rfl,List.eq_nil_of_length_eq_zero D⟩
 ·refine .inr ⟨g,cap,rfl,D,(Array.getElem?_eq_some_iff.1 K).1,fun j x F=>?_⟩;have N:j<z.length:=(List.getElem?_eq_some_iff.1 F).1;rw[Nat.zero_add,World.ownsRow.cellAt h2 j aD];simp[F]
theorem dK.shape3{E:TypeId}{B:Nat}{w:World}{v:Value}{z:List ByteArray}(h:dK E B w v z):∃a n c,v=aA a n c:=by
 rcases h.at with⟨a,c,rfl,_⟩|⟨g,c,rfl,_⟩
 ·exact⟨_,_,_,rfl⟩
 ·exact⟨_,_,_,rfl⟩
theorem ahN{p:Prop}(h:p:=by
  cases hq:z[j]? with
  |none=>rw[hq]at J;cases J
  |some y=>
   rw[hq]at J
   cases J
   have:=hy j y hq;have e:(⟨b,0,none⟩:Addr).add j=⟨b,0+j,none⟩:=by
    unfold Addr.add;by_cases O:j=0
    ·subst O;simp
    ·simp[O]
   rw[e];exact this):p:=h
theorem xH{P:Program}{w:World}{ops:Array Oper}{rest:List Oper}{o:Oper}{a:Act}{Q:Exit->Act->World->Prop}(I:o.guard=none)(s x:Operand)(t:TypeId)
  (ho:o.op=.call { callee:=.builtin .append,args:=#[s,x],argTypes:=#[t,t] })
  (E:TypeId) (ht:P.underlying t=some (.slice E)) (hE:StrElem P E) (B:Nat) (v:Value) (l z:List ByteArray) (b m c:Nat) (hs:a.eval s=v) (hx:a.eval x=aA (some ⟨b,0,none⟩) m c) (hm:m=z.length)
  (hy:∀(j:Nat) y,z[j]?=some y->w.cell? ⟨b,0+j,none⟩=some (.string y))
  (D:dK E B w v l) (R:l.length+z.length<1000000) (hB:B<=w.heap.size)
  (h:∀F w',dK E B w' F (l++z)->w.grownBy w' v.ownBlock->wpList P ops Q rest (a.put o.dst F) w'):wpList P ops Q (o::rest) a w:=by
 obtain⟨i,hi,hz,h1,Z⟩:=hE.get;subst hm;refine wpList_append_own w I s x t ho B E i (.string ByteArray.empty) 1 16 ht hi hz h1 Z rfl aQ v l.length (l.map Value.string) hs D ⟨b,0,none⟩ z.length c (z.map Value.string) hx (by simp) ?_ ?_ ?_ ?_ hB ?_
 ·intro j u J;rw[List.getElem?_map]at J;exact ahN
 ·intro u Y;obtain⟨y,_,rfl⟩:=List.mem_map.1 Y
  rfl
 ·unfold maxLen;omega
 ·omega
 ·intro F w' N hg _;refine h F w' ?_ hg;simpa[dK]using N
theorem Y9{P:Program}{w:World}{ops:Array Oper}{rest:List Oper}{o:Oper}{a:Act}{Q:Exit->Act->World->Prop}(J:o.guard=none)(x c:Operand)(t:TypeId)(z:o.op=Op.makeSlice t x c)
  (E:TypeId) (ht:P.underlying t=some (.slice E)) (F:StrElem P E) (n:Nat) (C:Int) (hl:a.eval x=aG 0) (hc:a.eval c=aG C) (hC:C=(n:Int)) (N:n<=1000000)
  (I:∀w',dK E w.heap.size w' (aA (some ⟨w,0,none⟩) 0 n) []->w.grownBy w' none->wpList P ops Q rest (a.put o.dst (aA (some ⟨w,0,none⟩) 0 n)) w'):wpList P ops Q (o::rest) a w:=by
 obtain⟨i,K,M,h1,D⟩:=F.get;exact wpList_make_own w J x c t z w.heap.size E i (.string ByteArray.empty) 1 ht K M h1 .i64 .i64 C n hl hc hC (by rw[D];omega) (by unfold maxLen;omega) aI I
end Go.G5
namespace Go.Proofs.YtkdbkjjacgigiaaGreatDoor
open Go.RowKit Go.G5 Go.Proofs.Tryz
theorem zZ:StrElem prog 9:=⟨by kernel_rfl⟩
theorem ES(B:Nat)(w:World)(v:Value)(F:List ByteArray)(z:ByteArray)(h:dK 9 B w v F)(I:(bR z F).size<=100000000)(K:F.length<=1000000):
  Calls prog 269 #[v,.string z] w fun e w'=>e=.returned (.string (bR z F))/\Below w w w':=by
 rcases h.at with⟨a,c,rfl,rfl⟩|⟨g,c,rfl,hc,J,D⟩
 ·refine(FG a c z w).mono ?_;rintro e w' ⟨rfl,rfl⟩;exact⟨rfl,Below.refl _ _⟩
 ·refine(O2 g 0 c F z w D J aD hc ?_).mono ?_
  ·rw[wM]at I;have:(bR z F).data.toList=Lib.join (F.map (·.data.toList)) z.data.toList:=rfl;rw[<-this];omega
  ·rintro e w' ⟨rfl,hb⟩;exact⟨rfl,hb⟩
end Go.Proofs.YtkdbkjjacgigiaaGreatDoor
end
namespace Go.Proofs.YtkdbkjjacgigiaaGreatDoor
section
open Go.RowKit Go.G5 Go.Proofs.Tryz
def eS:ByteArray:=⟨#[44]⟩
theorem nF(l:List Int)(h:∀x∈l,dL x):(bR eS (l.map aX)).size<=l.length*22:=by
 have:=vS eS 21 (l.map aX) (fun x z=>by
  obtain⟨y,D,rfl⟩:=List.mem_map.1 z;exact cM y (h y D))
 rw[List.length_map]at this;exact this
theorem W7{p:Prop}(h:p:=by
  go_roundw
  case rel=>exact⟨k+1,p7,i7,q7,by omega,by go_num,rfl,by rw[b6.out];exact o7,B7⟩
  case measure=>simp[intOf];omega):p:=h
theorem uN(l:List Int)(v:Value)(w:World)(hv:aK w v l)(hl:l.length<=1000)(hp:iY w):
  Calls prog 262 #[v] w fun e w'=>e=.returned (.string (bR eS (l.map aX)))/\Below w w w':=by
 have b9:=hv.inR;have j6:=nF l b9;obtain⟨a,b,f2,c,rfl,O,M,hc,hb⟩:=hv.view prog 25 3 underlying25 aN;have HC:=aH hc;have f7:=aH b9;have Z:=aH M;clear hc b9 M O;go_enter func262,ntmps262;go_wp2_with (at_make;refine Y9 rfl _ _ _ rfl 9 underlying52 zZ l.length _ rfl rfl rfl aD ?_;intro w2 b4 hg);have b2:Below w w w2:=(Below.refl _ _).grown hg aI (by simp);go_loopw [3,11] (fun ov iv wr=>∃(k:Nat) (p:Option Addr) (n K:Nat),k<=l.length/\iv=aG k/\ov=aA p n K/\dK 9 w wr (aA p n K) ((l.take k).map aX)/\Below w w wr) (fun _ iv _=>l.length-(intOf iv).toNat)
 case atStart=>exact⟨0,_,_,_,Nat.zero_le _,rfl,rfl,b4,b2⟩
 case round=>
  obtain⟨k,p,n,K,hk,rfl,rfl,I,B⟩:=hrel;obtain⟨wz,rfl⟩:∃q:World,q=wr:=⟨_,rfl⟩;have a8:=hp.keep B;clear b4 b2 hg;by_cases hlt:k<l.length
  ·have R:(k:Int)<(l.length:Int):=aD;have b5:=aR HC.out hb B aI;have a7:=b5 k hlt;have e6:=fun W=>Z.out W k hlt;have F:(l.take (k+1)).map aX=(l.take k).map aX++[aX l[k]]:=by rw[List.take_succ_eq_append_getElem hlt,List.map_append];rfl
   have e9:=f7.out l[k] (List.getElem_mem hlt);have z:((l.take k).map aX).length=k:=by simp;omega
   obtain⟨x,D⟩:=aJ (l[k]);rw[<-D]at a7 F e9;have b6:=aH F;have a1:=aH z;clear D b5 F z;have hF:=aH (AI x e9 wz a8);go_wp2_with fail;refine hF.out.mono ?_;rintro e w3 ⟨rfl,Y⟩;have I:=I.keep Y;have B:=B.after Y B.size;have zB:=B.size;clear Y hF;go_wp2_with (at_builtin;refine xH rfl _ _ _ rfl 9 underlying52 zZ w.heap.size (aA p n K) ((l.take k).map aX) [aX x] w3.heap.size 1 1 rfl rfl rfl (fun j y hy=>by match j,hy with|0,hy=>(cases hy;exact aZ _ _ _ _ _ rfl)) (I.alloc _) (by rw[a1.out];simp;omega) aT ?_;intro v7 w7 o7 g7;obtain⟨p7,i7,q7,rfl⟩:=o7.shape3);have rr:=I.lt;have B7:=(B.alloc zB (.cells #[.string (aX x)] 9)).grown g7 aT (fun q hq=>(rr _ hq).1);exact W7
  ·have z:k=l.length:=aD;have S:dK 9 w wz (aA p n K) (l.map aX):=by rw[z,List.take_length]at I;exact I
   have R:¬(k:Int)<(l.length:Int):=aD;have HJ:=aH (ES w.heap.size wz _ (l.map aX) eS S aD (by rw[List.length_map];omega));clear z I S a8;go_wp2_with fail;refine HJ.out.mono ?_;rintro e w3 ⟨rfl,Y⟩;go_wp2;go_ret;exact⟨rfl,B.after Y B.size⟩
def eF:ByteArray:=⟨#[110,111,110,101]⟩
def eR(l:List Int):ByteArray:=if l=[] then eF else bR eS (l.map aX)
theorem xL(l:List Int)(k:Nat)(h:∀x∈l,dL x)(hl:l.length<=1000)(hk:k<=l.length):(bR eS ((l.take k).map aX)).size<=22000:=by
 have h1:=nF (l.take k) (fun x z=>h x (List.mem_of_mem_take z));rw[List.length_take]at h1;have:min k l.length=k:=aD;rw[this]at h1;omega
theorem CM(l:List Int)(k:Nat)(hk:k<l.length):bR eS ((l.take (k+1)).map aX)=if k=0 then aX l[k] else bR eS ((l.take k).map aX)++eS++aX l[k]:=by
 have h:=OA eS (l.map aX) k (by rw[List.length_map];exact hk);rw[List.getElem_map,<-List.map_take,<-List.map_take]at h;exact h
theorem vM(l:List Int):(bR eS (l.map aX)=ByteArray.empty)=(l=[]):=by
 refine propext ⟨fun h=>?_,fun h=>by subst h;rfl⟩
 cases l with
 |nil=>rfl
 |cons x l=>exact absurd h (WL eS (aX x) (l.map aX) (WK x))
theorem tK(b:ByteArray):(b.toList==[])=decide (b=ByteArray.empty):=by
 rw[Lib.toList_data];by_cases h:b=ByteArray.empty
 ·subst h;rfl
 ·rw[decide_eq_false h]
  cases hb:b.data.toList with
  |nil=>exact absurd (dO (by rw[hb];rfl)) h
  |cons x r=>rfl
theorem agP{p:Prop}(h:p:=by
  have i7:=fun W=>c8.out W k hlt;have a6:=CM l k hlt;have b9:=a8.out l[k] (List.getElem_mem hlt);rw[<-O]at a6;have b5:k=0->S=ByteArray.empty:=fun h=>by rw[O,h];rfl
  obtain⟨x,hx⟩:=aJ (l[k]);rw[<-hx]at e4 a6 b9;have hT:=cM x b9;have hF:=fS x b9 wz;obtain⟨T,e0⟩:=aJ (aX x);rw[<-e0]at a6 hT hF;have HF:=aH hF;have d0:=aH a6;clear hF a6 hx e0 O;by_cases a9:k=0
  ·have f5:=b5 a9;subst f5;have f0:=aH a9;have f7:¬0<(k:Int):=aD;have e5:¬0<k:=aD;clear b5 a9;go_wp2_with fail;refine HF.out.mono ?_;rintro e w3 ⟨rfl,b3⟩;have B:=B.after b3 B.size;go_wp2;go_roundw
   case rel=>exact⟨k+1,_,by omega,by go_num,rfl,by rw[d0.out,if_pos f0.out],B⟩
   case measure=>simp[intOf];omega
  ·have f7:0<(k:Int):=aD;have e5:0<k:=aD;have h9:(S++eS).size<=22001:=by rw[ByteArray.size_append];show S.size+1<=22001;omega
   clear b5;go_wp2_with fail;refine HF.out.mono ?_;rintro e w3 ⟨rfl,b3⟩;have B:=B.after b3 B.size;go_wp2;go_roundw
   case rel=>exact⟨k+1,_,by omega,by go_num,rfl,by rw[d0.out,if_neg a9];rfl,B⟩
   case measure=>simp[intOf];omega):p:=h
theorem wV(l:List Int)(v:Value)(w:World)(hv:aK w v l)(hl:l.length<=1000):
  Calls prog 39 #[v] w fun e w'=>e=.returned (.string (eR l))/\Below w w w':=by
 have R:=hv.inR;obtain⟨a,b,g2,c,rfl,Z,Y,hc,hb⟩:=hv.view prog 25 3 underlying25 aN;have HC:=aH hc;have a8:=aH R;have c8:=aH Y;clear hc R Y Z;go_enter func39,ntmps39;go_wp2_with fail;go_loopw [3,4] (fun sv iv wr=>∃(k:Nat) (S:ByteArray),k<=l.length/\iv=aG k/\sv=.string S/\S=bR eS ((l.take k).map aX)/\Below w w wr) (fun _ iv _=>l.length-(intOf iv).toNat)
 case atStart=>exact⟨0,_,Nat.zero_le _,rfl,rfl,rfl,Below.refl _ _⟩
 case round=>
  obtain⟨k,S,hk,rfl,rfl,O,B⟩:=hrel;obtain⟨wz,rfl⟩:∃q:World,q=wr:=⟨_,rfl⟩;have f6:S.size<=22000:=by rw[O];exact xL l k a8.out hl hk
  by_cases hlt:k<l.length
  ·have a1:(k:Int)<(l.length:Int):=aD;have e4:=aR HC.out hb B aI k hlt;exact agP
  ·have a1:¬(k:Int)<(l.length:Int):=aD;have D:S=bR eS (l.map aX):=by rw[O,show k=l.length by omega,List.take_length]
   have K:=tK S;have J:decide (S=ByteArray.empty)=decide (l=[]):=by rw[D];simp only[vM]
   rw[J]at K
   cases N:decide (l=[]) with
   |true=>
    have z:eR l=eF:=by unfold eR;rw[if_pos (of_decide_eq_true N)]
    rw[N]at K;have I:=aH z;clear N J D z O;go_wp2;go_ret;exact⟨bJ I.out.symm,B⟩
   |false=>
    have z:eR l=S:=by unfold eR;rw[if_neg (of_decide_eq_false N)];exact D.symm
    rw[N]at K;have I:=aH z;clear N J D z O;go_wp2;go_ret;exact⟨bJ I.out.symm,B⟩
def iX:ByteArray:=⟨#[45]⟩
def nD(n s:Int):Bool:=dV n 0 6&&eB n.toNat s
def bG(n s:Int):ByteArray:=if nD n s=true then (if s=0 then iX else bR eS ((eK s).map aX)) else ByteArray.empty
theorem FB{n s:Int}(h:nD n s=true):0<=n/\n<=6/\0<=s/\s<64:=by
 unfold nD at h;rw[Bool.and_eq_true]at h;have h1:=cR.1 h.1;have h2:=jQ.1 h.2;have:=lH h1.1 h1.2;exact⟨h1.1,h1.2,h2.1,by omega⟩
theorem aoA:∀s:Nat,s<64->(gT s 6=[]↔s=0):=by decide +kernel
theorem LX(s:Int)(z:0<=s)(h:s<64):eK s=[]↔s=0:=by
 unfold eK;rw[aoA s.toNat aD];omega
theorem an8(s:Int):∀x∈eK s,dL x:=fun x z=>by
 have:=PV s x z;exact⟨by omega,by omega⟩
theorem fA(n s:Int):(bG n s).size<=132:=by
 unfold bG
 split
 ·split
  ·show 1<=132;omega
  ·have h1:=nF (eK s) (an8 s);have h2:=uS s;omega
 ·simp
theorem amI(n s:Int)(h:nD n s=true):bG n s≠ByteArray.empty:=by
 unfold bG;rw[if_pos h];have z:=FB h
 split
 ·intro e;have:=congrArg ByteArray.size e;exact absurd this aQ
 ·rename_i D;rw[Ne,vM,LX s z.2.2.1 z.2.2.2];exact D
theorem ah2{p:Prop}(h:p:=by
  go_enter func197,ntmps197;go_wp2_with fail;refine N.out.mono ?_;rintro e w1 ⟨rfl,rfl⟩;go_wp2_with fail;refine O.out.mono ?_;rintro e w1 ⟨rfl,rfl⟩;go_wp2;go_ret;exact⟨bJ J.out.symm,Below.refl _ _⟩):p:=h
theorem fC(n s:Int)(w:World)(hp:iY w):
  Calls prog 197 #[n,s] w fun e w'=>e=.returned (.string (bG n s))/\Below w w w':=by
 have z:=gH n 0 6 w
 cases h1:dV n 0 6 with
 |false=>
  have I:bG n s=ByteArray.empty:=by unfold bG nD;rw[h1];rfl
  have J:=aH I;rw[h1]at z;have N:=aH z;clear z I h1;go_enter func197,ntmps197;go_wp2_with fail;refine N.out.mono ?_;rintro e w1 ⟨rfl,rfl⟩;go_wp2;go_ret;exact⟨bJ J.out.symm,Below.refl _ _⟩
 |true=>
  have hb:=cR.1 h1;have D:=af9 n s w hb.1 aD;rw[h1]at z;have N:=aH z
  cases h2:eB n.toNat s with
  |false=>
   have I:bG n s=ByteArray.empty:=by unfold bG nD;rw[h1,h2];rfl
   rw[h2]at D;have J:=aH I;have O:=aH D;clear z I h1 h2 D;exact ah2
  |true=>
   have F:nD n s=true:=by unfold nD;rw[h1,h2];rfl
   obtain⟨_,_,S,M⟩:=FB F;rw[h2]at D;have O:=aH D;by_cases K:s=0
   ·have I:bG n s=iX:=by unfold bG;rw[if_pos F,if_pos K]
    have J:=aH I;have Y:(s==0)=true:=by simpa using K
    clear z I h1 h2 D F K;exact ah2
   ·have I:bG n s=bR eS ((eK s).map aX):=by unfold bG;rw[if_pos F,if_neg K]
    have J:=aH I;have Y:(s==0)=false:=by simpa using K
    have Z:=aH (kS s w S M);clear z I h1 h2 D F K;go_enter func197,ntmps197;go_wp2_with fail;refine N.out.mono ?_;rintro e w1 ⟨rfl,rfl⟩;go_wp2_with fail;refine O.out.mono ?_;rintro e w1 ⟨rfl,rfl⟩;go_wp2_with fail;refine Z.out.mono ?_;rintro e w1 ⟨ad,i,cp,rfl,o1,R⟩;have HJ:=aH (uN (eK s) _ w1 o1.ints (by have:=uS s;omega) (hp.keep R));go_wp2_with fail;refine HJ.out.mono ?_;rintro e w2 ⟨rfl,b2⟩;go_wp2;go_ret;exact⟨bJ J.out.symm,R.after b2 R.size⟩
theorem nH(n s:Int)(w:World):
  Calls prog 22 #[n,s] w fun e w'=>e=.returned (.string (bG n s))/\Below w w w':=by
 have M:=cP n 0 6 w
 cases h1:dV n 0 6 with
 |false=>
  have hx:bG n s=ByteArray.empty:=by unfold bG nD;rw[h1];rfl
  have HX:=aH hx;rw[h1]at M;have HW:=aH M;clear M hx h1;go_enter func22,ntmps22;go_wp2_with fail;refine HW.out.mono ?_;rintro e w1 ⟨rfl,rfl⟩;go_wp2;go_ret;exact⟨bJ HX.out.symm,Below.refl _ _⟩
 |true=>
  have hb:=cR.1 h1;have b6:=ET n w hb.1 aD;have F:=cP s 0 (2^n.toNat-1) w;rw[xZ]at F;obtain⟨f,hf⟩:∃f:Int,f=2^n.toNat-1:=⟨_,rfl⟩;rw[<-hf]at b6 F;rw[h1]at M;have HW:=aH M;have c7:=aH b6;clear hf b6
  cases h2:eB n.toNat s with
  |false=>
   have hx:bG n s=ByteArray.empty:=by unfold bG nD;rw[h1,h2];rfl
   rw[h2]at F;have HX:=aH hx;have HI:=aH F;clear M hx h1 h2 F;go_enter func22,ntmps22;go_wp2_with fail;refine HW.out.mono ?_;rintro e w1 ⟨rfl,rfl⟩;go_wp2_with fail;refine c7.out.mono ?_;rintro e w1 ⟨rfl,rfl⟩;go_wp2_with fail;refine HI.out.mono ?_;rintro e w1 ⟨rfl,rfl⟩;go_wp2;go_ret;exact⟨bJ HX.out.symm,Below.refl _ _⟩
  |true=>
   have b0:nD n s=true:=by unfold nD;rw[h1,h2];rfl
   obtain⟨_,_,b7,a7⟩:=FB b0;rw[h2]at F;have HI:=aH F;have h8:=aH b0;have HE:=aH (MF s w b7 a7);obtain⟨l,hl⟩:=aJ (eK s);have f8:l.length<=1000:=by rw[hl];have:=uS s;omega
   have f9:(l=[])=(s=0):=by rw[hl];exact propext (LX s b7 a7)
   have e6:bG n s=if l=[] then iX else bR eS (l.map aX):=by unfold bG;rw[if_pos b0,hl];simp only[LX s b7 a7]
   have c9:=aH e6;rw[<-hl]at HE;clear M h1 h2 F b0 f9 e6 hl;go_enter func22,ntmps22;go_wp2_with fail;refine HW.out.mono ?_;rintro e w1 ⟨rfl,rfl⟩;go_wp2_with fail;refine c7.out.mono ?_;rintro e w1 ⟨rfl,rfl⟩;go_wp2_with fail;refine HI.out.mono ?_;rintro e w1 ⟨rfl,rfl⟩;go_wp2_with fail;refine HE.out.mono ?_;rintro e w1 ⟨ad,i,cp,rfl,o1,b1⟩;have hv:=o1.ints;have R:=hv.inR;have hi:i=l.length:=hv.capLe.1;subst hi;obtain⟨a,b,g2,c,g0,Z,Y,hc,hb⟩:=hv.view prog 25 3 underlying25 aN;injection g0 with e1 _ e3;subst e1 e3;have HC:=aH hc;have a8:=aH R;have c8:=aH Y;have c6:=aH b1;clear hc R Y Z hv o1 b1;go_wp2_with fail;go_loopw [5,7] (fun sv iv wr=>∃(k:Nat) (S:ByteArray),k<=l.length/\iv=aG k/\sv=.string S/\S=bR eS ((l.take k).map aX)/\Below w1 w1 wr) (fun _ iv _=>l.length-(intOf iv).toNat)
   case atStart=>exact⟨0,_,Nat.zero_le _,rfl,rfl,rfl,Below.refl _ _⟩
   case round=>
    obtain⟨k,S,hk,rfl,rfl,O,B⟩:=hrel;obtain⟨wz,rfl⟩:∃q:World,q=wr:=⟨_,rfl⟩;have f6:S.size<=22000:=by rw[O];exact xL l k a8.out f8 hk
    by_cases hlt:k<l.length
    ·have a1:(k:Int)<(l.length:Int):=aD;have e4:=aR HC.out hb B aI k hlt;exact agP
    ·have a1:¬(k:Int)<(l.length:Int):=aD;have D:S=bR eS (l.map aX):=by rw[O,show k=l.length by omega,List.take_length]
     have K:=tK S;have J:decide (S=ByteArray.empty)=decide (l=[]):=by rw[D];simp only[vM]
     rw[J]at K;have BB:=c6.out.after B c6.out.size
     cases N:decide (l=[]) with
     |true=>
      have z:bG n s=iX:=by rw[c9.out,if_pos (of_decide_eq_true N)]
      rw[N]at K;have I:=aH z;clear N J D z O;go_wp2;go_ret;exact⟨bJ I.out.symm,BB⟩
     |false=>
      have z:bG n s=S:=by rw[c9.out,if_neg (of_decide_eq_false N)];exact D.symm
      rw[N]at K;have I:=aH z;clear N J D z O;go_wp2;go_ret;exact⟨bJ I.out.symm,BB⟩
def bar:ByteArray:=⟨#[124]⟩
def bZ(g:Int)(l:List Int):ByteArray:=if aU g l=true then (if l=[] then eF else bR bar (l.map (bG g))) else ByteArray.empty
theorem ap3(l:List Int)(D:l.Pairwise (· < ·))(z:∀x∈l,0<=x):∀k,(h:k<l.length)->(k:Int)<=l[k]:=by
 intro k
 induction k with
 |zero=>intro h;have:=z _ (List.getElem_mem h);omega
 |succ k ih=>intro h;have h1:=ih aD;have h2:=List.pairwise_iff_getElem.1 D k (k+1) aD h aD;omega
theorem iL{g:Int}{l:List Int}(h:aU g l=true):l.length<=64:=by
 obtain⟨z,D,hb,I⟩:=dB h;have F:=lH z D;by_cases hl:l.length=0
 ·omega
 ·have h1:=ap3 l I (fun x J=>(hb x J).1) (l.length-1) aD;have h2:=(hb _ (List.getElem_mem (show l.length-1<l.length by omega))).2;omega
theorem aqD{g:Int}{l:List Int}(h:aU g l=true):∀s∈l,nD g s=true:=by
 obtain⟨z,D,hb,I⟩:=dB h;intro s F;unfold nD;rw[cR.2 ⟨z,D⟩,jQ.2 (hb s F)];rfl
theorem GS(g:Int)(l:List Int):(bR bar (l.map (bG g))).size<=l.length*133:=by
 have:=vS bar 132 (l.map (bG g)) (fun x z=>by
  obtain⟨y,D,rfl⟩:=List.mem_map.1 z;exact fA g y)
 rw[List.length_map]at this;exact this
theorem ae0(g:Int)(l:List Int)(k:Nat)(hl:l.length<=64)(hk:k<=l.length):(bR bar ((l.take k).map (bG g))).size<=22000:=by
 have h1:=GS g (l.take k);rw[List.length_take]at h1;have:min k l.length=k:=aD;rw[this]at h1;omega
theorem aeZ(g:Int)(l:List Int)(k:Nat)(hk:k<l.length):bR bar ((l.take (k+1)).map (bG g))=if k=0 then bG g l[k] else bR bar ((l.take k).map (bG g))++bar++bG g l[k]:=by
 have h:=OA bar (l.map (bG g)) k (by rw[List.length_map];exact hk);rw[List.getElem_map,<-List.map_take,<-List.map_take]at h;exact h
theorem fG(g:Int)(l:List Int):(bZ g l).size<=10000:=by
 unfold bZ
 split
 ·rename_i h
  split
  ·show 4<=10000;omega
  ·have h1:=GS g l;have h2:=iL h;omega
 ·simp
theorem akC(g:Int)(l:List Int)(h:∀s∈l,nD g s=true):(bR bar (l.map (bG g))=ByteArray.empty)=(l=[]):=by
 refine propext ⟨fun h2=>?_,fun h2=>by subst h2;rfl⟩
 cases l with
 |nil=>rfl
 |cons x l=>exact absurd h2 (WL bar (bG g x) (l.map (bG g)) (amI g x (h x (by simp))))
theorem jJ(g:Int)(l:List Int)(v:Value)(w:World)(hv:aK w v l)(hp:iY w):
  Calls prog 196 #[.agg #[g,v]] w fun e w'=>e=.returned (.string (bZ g l))/\Below w w w':=by
 have g8:=hv;obtain⟨a,b,f2,c,rfl,O,M,hc,hb⟩:=hv.view prog 25 3 underlying25 aN;have K0:=aP.new w 29 #[g,aA a l.length c];have HC:=aH hc;have Z:=aH M;clear hc M O;go_enter func196,ntmps196;go_wp2_with fail;refine(cQ g l _ _ (g8.alloc _)).mono ?_;rintro e w1 ⟨rfl,b7⟩;have K1:=K0.keep b7;have B1:Below w w w1:=(bF _ _).after b7 (by simp);have G1:=K1.cell;clear K0 b7
 cases hf:aU g l with
 |false=>
  have D:bZ g l=ByteArray.empty:=by unfold bZ;rw[hf];rfl
  have HX:=aH D;clear D hf;go_wp2;go_ret;exact⟨bJ HX.out.symm,B1⟩
 |true=>
  have j4:=iL hf;by_cases N:l.length=0
  ·have D:bZ g l=eF:=by unfold bZ;rw[if_pos hf,if_pos (List.eq_nil_of_length_eq_zero N)]
   have HX:=aH D;have hz:((l.length:Int)==0)=true:=by simp[N]
   have j7:(l.length==0)=true:=by simp[N]
   clear D hf N hz;go_wp2;go_ret;exact⟨bJ HX.out.symm,B1⟩
  ·have D:bZ g l=bR bar (l.map (bG g)):=by unfold bZ;rw[if_pos hf,if_neg (fun h=>N (by rw[h];rfl))]
   have HX:=aH D;have hz:(l.length==0)=false:=by simpa using N
   have g9:((l.length:Int)==0)=false:=by simp;intro h;exact N (by rw[h];rfl)
   clear D hf N;go_wp2_with fail;go_loopw [3,16] (fun ov iv wr=>∃(k:Nat) (p:Option Addr) (n K:Nat),k<=l.length/\iv=aG k/\ov=aA p n K/\dK 9 w1 wr (aA p n K) ((l.take k).map (bG g))/\Below w1 w1 wr) (fun _ iv _=>l.length-(intOf iv).toNat)
   case atStart=>exact⟨0,_,_,_,Nat.zero_le _,rfl,rfl,dK.nil _ _ _,Below.refl _ _⟩
   case round=>
    obtain⟨k,p,n,K,hk,rfl,rfl,I,B⟩:=hrel;obtain⟨wz,rfl⟩:∃q:World,q=wr:=⟨_,rfl⟩;have a8:=hp.keep (B1.after B B1.size);have Kz:=K1.keep B;have Gz:=Kz.cell;clear G1 hz g9;by_cases hlt:k<l.length
    ·have R:(k:Int)<(l.length:Int):=aD;have a7:=aR HC.out hb (B1.after B B1.size) aI k hlt;have e6:=fun W=>Z.out W k hlt;have F:(l.take (k+1)).map (bG g)=(l.take k).map (bG g)++[bG g l[k]]:=by rw[List.take_succ_eq_append_getElem hlt,List.map_append];rfl
     have z:((l.take k).map (bG g)).length=k:=by simp;omega
     obtain⟨x,D⟩:=aJ (l[k]);rw[<-D]at a7 F;have b6:=aH F;have a1:=aH z;clear D F z;have hF:=aH (fC g x wz a8);go_wp2_with fail;refine hF.out.mono ?_;rintro e w3 ⟨rfl,Y⟩;have I:=I.keep Y;have B:=B.after Y B.size;have zB:=B.size;clear Y hF Gz;go_wp2_with (at_builtin;refine xH rfl _ _ _ rfl 9 underlying52 zZ w1.heap.size (aA p n K) ((l.take k).map (bG g)) [bG g x] w3.heap.size 1 1 rfl rfl rfl (fun j y hy=>by match j,hy with|0,hy=>(cases hy;exact aZ _ _ _ _ _ rfl)) (I.alloc _) (by rw[a1.out];simp;omega) aT ?_;intro v7 w7 o7 g7;obtain⟨p7,i7,q7,rfl⟩:=o7.shape3);have rr:=I.lt;have B7:=(B.alloc zB (.cells #[.string (bG g x)] 9)).grown g7 aT (fun q hq=>(rr _ hq).1);exact W7
    ·have z:k=l.length:=aD;have S:dK 9 w1 wz (aA p n K) (l.map (bG g)):=by rw[z,List.take_length]at I;exact I
     have R:¬(k:Int)<(l.length:Int):=aD;have g2:=GS g l;have HJ:=aH (ES w1.heap.size wz _ (l.map (bG g)) bar S aD (by rw[List.length_map];omega));have BB:=B1.after B B1.size;clear z I S a8 g2;go_wp2_with fail;refine HJ.out.mono ?_;rintro e w3 ⟨rfl,Y⟩;go_wp2;go_ret;exact⟨bJ HX.out.symm,BB.after Y BB.size⟩
def sE(w:World):Prop:=∃m,w.cell? ⟨0,0,none⟩=some (aG m)
theorem sE.keep{w w':World}(h:sE w)(hb:Below w w w'):sE w':=by
 obtain⟨m,hm⟩:=h;exact⟨m,Go.G5.keep hb hm⟩
theorem DM(c:UInt8)(s:ByteArray)(w:World)(hm:sE w)(z:s.size<4294967281):
  Calls prog 33 #[.string s,.string ⟨#[c]⟩] w fun e w'=>e=.returned (.slice (some ⟨w,0,none⟩) (cI c s).length (cI c s).length)/\w'=w.alloc (.cells ((cI c s).map Value.string).toArray 9):=by
 obtain⟨m,hm⟩:=hm;have h:=MY s ⟨#[c]⟩ m w z hm (by show 1<=1;exact aI);rw[O6]at h;have hl:Lib.countB s ⟨#[c]⟩+1=(cI c s).length:=by rw[<-O6];exact(Lib.splitB_all ⟨#[c]⟩ (by show 1<=1;exact aI) 0 _ s rfl).symm
 rw[hl]at h;exact h
def pH(n:Int)(p:ByteArray):Bool:=pB p&&(decide (0<=pN p)&&decide (pN p<n))
def uY(z:List ByteArray):Nat->Nat
 |0=>0
 |k+1=>bX (uY z k) (pN (z.getD k ByteArray.empty)).toNat
def OV(z:List ByteArray):Nat:=uY z z.length
def lM(n:Int)(s:ByteArray):Bool:=dV n 0 6&&(decide (s=iX)||((cI 44 s).all (pH n)&&decide (bG n (OV (cI 44 s):Int)=s)))
def nC(n:Int)(s:ByteArray):Int:=if lM n s then (if s=iX then 0 else (OV (cI 44 s):Int)) else 0
theorem I1{n:Int}{s:ByteArray}(h:lM n s=false):nC n s=0:=by unfold nC;rw[h];rfl
theorem aa4{N:Nat}{p:ByteArray}(h:pH (N:Int) p=true):pB p=true/\∃e:Nat,pN p=(e:Int)/\e<N:=by
 unfold pH at h;simp only[Bool.and_eq_true,decide_eq_true_eq]at h;obtain⟨h1,h2,h3⟩:=h;obtain⟨e,z⟩:=Int.eq_ofNat_of_zero_le h2;exact⟨h1,e,z,by omega⟩
theorem IC(z:List ByteArray)(k:Nat)(h:k<z.length):z.getD k ByteArray.empty=z[k]:=by
 rw[List.getD_eq_getElem?_getD,List.getElem?_eq_getElem h];rfl
theorem abS(N:Nat)(z:List ByteArray):∀k,k<=z.length->(z.take k).all (pH (N:Int))=true->uY z k<2^N:=by
 intro k
 induction k with
 |zero=>intro _ _;exact Nat.two_pow_pos N
 |succ k ih=>
  intro hk h;rw[List.take_succ_eq_append_getElem hk,List.all_append,Bool.and_eq_true]at h;have h2:pH (N:Int) z[k]=true:=by simpa using h.2
  obtain⟨_,e,F,D⟩:=aa4 h2;rw[uY,IC z k hk,F,Int.toNat_natCast];exact eI _ e N (ih aD h.1) D
theorem CJ(P:ByteArray->Bool)(l:List ByteArray)(k:Nat)(h:k<l.length)(D:P l[k]=false):l.all P=false:=by
 cases z:l.all P with
 |false=>rfl
 |true=>have:=List.all_eq_true.1 z l[k] (List.getElem_mem h);rw[D]at this;cases this
theorem QQ{n:Int}{s:ByteArray}(hd:s≠iX)(h:(cI 44 s).all (pH n)=false):lM n s=false:=by
 unfold lM;rw[h,decide_eq_false hd];simp
theorem abR{n:Int}{s:ByteArray}(z:dV n 0 6=true)(hd:s≠iX)(h:(cI 44 s).all (pH n)=true):lM n s=decide (bG n (OV (cI 44 s):Int)=s):=by
 unfold lM;rw[h,decide_eq_false hd,z];simp
theorem QS{n:Int}{s:ByteArray}(hd:s≠iX)(h:lM n s=true):nC n s=(OV (cI 44 s):Int):=by unfold nC;rw[if_pos h,if_neg hd]
theorem YB{n:Int}(z:dV n 0 6=true):lM n iX=true/\nC n iX=0:=by
 have:lM n iX=true:=by unfold lM;rw[z];simp
 exact⟨this,by unfold nC;rw[if_pos this,if_pos rfl]⟩
theorem ao6{n:Int}{s:ByteArray}(z:dV n 0 6=false):lM n s=false:=by unfold lM;rw[z];rfl
theorem ao7{N:Nat}{s:ByteArray}(h:lM (N:Int) s=true):0<=nC (N:Int) s/\nC (N:Int) s<2^N:=by
 have I:((2^N:Nat):Int)=(2:Int)^N:=by push_cast;rfl
 have D:=Nat.two_pow_pos N;by_cases hd:s=iX
 ·subst hd;have:nC (N:Int) iX=0:=by unfold nC;rw[if_pos h,if_pos rfl]
  rw[this];omega
 ·rw[QS hd h]
  have z:(cI 44 s).all (pH (N:Int))=true:=by
   cases F:(cI 44 s).all (pH (N:Int)) with
   |true=>rfl
   |false=>rw[QQ hd F]at h;cases h
  have:=abS N (cI 44 s) _ aI (by rw[List.take_length];exact z);unfold OV;omega
end
end Go.Proofs.YtkdbkjjacgigiaaGreatDoor
