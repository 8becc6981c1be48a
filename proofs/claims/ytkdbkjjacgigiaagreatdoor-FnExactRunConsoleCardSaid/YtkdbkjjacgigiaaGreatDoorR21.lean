/- Lemmas for CardRunConsole. No condition. -/
import Derived.Test.YtkdbkjjacgigiaaGreatDoorR06
import Derived.Test.YtkdbkjjacgigiaaGreatDoorR20
import Derived.Deep.DeepCutAuto
set_option maxRecDepth 100000
set_option maxHeartbeats 64000000
section
namespace Go.G5
open Go Go.RowKit
structure StrElem (P:Program) (E:TypeId):Prop where
 info:(P.info? E).map (fun i=>(i.zero,i.size,i.bytes))=some (some (.string ByteArray.empty),1,16)
theorem StrElem.get{P:Program}{E:TypeId}(h:StrElem P E):∃i,P.info? E=some i/\i.zero=some (aR aN)/\i.size=1/\i.bytes=16:=info_parts h.info
def fI(E:TypeId)(B:Nat)(w:World)(v:Value)(z:List ByteArray):Prop:=w.ownsRow B E 1 v z.length (z.map Value.string)
theorem fI.nil(E:TypeId)(B:Nat)(w:World):fI E B w (aD none 0 0) []:=World.ownsRow_nil _ _ _ _
theorem fI.below{E:TypeId}{B B':Nat}{w w':World}{v:Value}{l:List aB}(h:fI E B w v l)(hb:Below B' w w')(hB:w.heap.size<=B'):fI E B w' v l:=by
 obtain⟨z,h1⟩:=h;refine⟨z,?_⟩;exact ZU
theorem fI.keep{E:TypeId}{B:Nat}{W w1:World}{v:Value}{l:List aB}(h:fI E B W v l)(hb:Below W W w1):fI E B w1 v l:=h.below hb aU
theorem fI.alloc{E:TypeId}{B:Nat}{w:World}{v:Value}{l:List aB}(h:fI E B w v l)(o:Obj):fI E B (w.alloc o) v l:=h.keep (cQ w o)
theorem fI.drewN{E:TypeId}{B:Nat}{w:World}{v:Value}{l:List aB}(h:fI E B w v l)(n:Nat):fI E B (w.drewN n) v l:=h.keep ((bJ w.heap.size w).drewN' n)
theorem fI.mono{E:TypeId}{B B':Nat}{w:World}{v:Value}{l:List aB}(h:fI E B w v l)(hB:B'<=B):fI E B' w v l:=by
 obtain⟨D,h1⟩:=h;refine⟨D,?_⟩;rcases h1 with h1|⟨g,cap,z,rfl,F,r⟩
 .exact .inl h1
 .exact .inr ⟨g,cap,z,rfl,aA,r⟩
theorem fI.lt{E:TypeId}{B:Nat}{w:World}{v:Value}{l:List aB}(h:fI E B w v l):∀k,v.ownBlock=some k->B<=k/\k<w.heap.size:=World.ownsRow.lt h
theorem fI.grown{E:TypeId}{B:Nat}{w w':World}{row:Option Nat}{v:Value}{l:List aB}(h:fI E B w v l)(D:w.grownBy w' row)(z:v.ownBlock=none\/v.ownBlock≠row):fI E B w' v l:=World.ownsRow.kept h D z
theorem fI.lit{E:TypeId}{B:Nat}(w:World)(z:List aB)(n:Nat)(D:n=z.length)(hl:n<=maxLen)(hB:B<=w.heap.size):fI E B (w.alloc (.cells (z.map Value.string).toArray E)) (aD (some ⟨w,0,none⟩) n n) z:=by
 subst D;have this:(w.alloc (.cells (z.map Value.string).toArray E)).ownsRow B E 1 (aD (some ⟨w,0,none⟩) z z.length) z.length (z.map Value.string).toArray.toList:=World.ownsRow_lit w _ z.length hB hl bF;simpa[fI]using this
theorem fI.at{E:TypeId}{B:Nat}{w:World}{v:Value}{z:List aB}(h:fI E B w v z):(∃a c,v=aD a 0 c/\z=[])\/∃g c,v=aD (some ⟨g,0,none⟩) z c/\z.length<=c/\g<w.heap.size/\∀(j:Nat) x,z[j]?=some x->w.cell? ⟨g,0+j,none⟩=some (aR x):=by
 have h2:=h;obtain⟨M,h1⟩:=h;rcases h1 with⟨rfl,D⟩|⟨g,cap,I,rfl,hB,K,D,hm,J,ht⟩
 .exact .inl ⟨none,0,rfl,eS D⟩
 .refine .inr ⟨g,cap,rfl,D,(dU.1 K).1,fun j x F=>?_⟩;have N:j<z.length:=(List.getElem?_eq_some_iff.1 F).1;rw[Nat.zero_add,World.ownsRow.cellAt h2 j aA];simp[F]
theorem fI.shape3{E:TypeId}{B:Nat}{w:World}{v:Value}{z:List aB}(h:fI E B w v z):∃a n c,v=aD a n c:=by
 rcases h.at with⟨a,c,rfl,_⟩|⟨g,c,rfl,_⟩
 .exact⟨_,_,_,rfl⟩
 .exact⟨_,_,_,rfl⟩
theorem akC{p:Prop}(h:p:=by
  cases hq:z[j]? with
  |none=>rw[hq]at J;cases J
  |some y=>
   rw[hq]at J
   cases J
   have:=hy j y hq;have e:(⟨b,0,none⟩:Addr).add j=⟨b,0+j,none⟩:=by
    unfold Addr.add;by_cases O:j=0
    .subst O;simp
    .simp[O]
   rw[e];exact this):p:=h
theorem tJ{P:Program}{w:World}{ops:Array Oper}{rest:List Oper}{o:Oper}{a:Act}{Q:Exit->Act->World->Prop}(I:o.guard=none)(s x:Operand)(t:TypeId)
  (ho:o.op=.call { callee:=.builtin .append,args:=#[s,x],argTypes:=#[t,t] })
  (E:TypeId) (ht:P.underlying t=some (.slice E)) (hE:StrElem P E) (B:Nat) (v:Value) (l z:List aB) (b m c:Nat) (hs:a.eval s=v) (hx:a.eval x=aD (some ⟨b,0,none⟩) m c) (hm:m=z.length)
  (hy:∀(j:Nat) y,z[j]?=some y->w.cell? ⟨b,0+j,none⟩=some (aR y))
  (D:fI E B w v l) (R:l.length+z.length<1000000) (hB:B<=w.heap.size)
  (h:∀F w',fI E B w' F (l++z)->w.grownBy w' v.ownBlock->wpList P ops Q rest (a.put o.dst F) w'):wpList P ops Q (o::rest) a w:=by
 obtain⟨i,hi,hz,h1,Z⟩:=hE.get;subst hm;refine wpList_append_own w I s x t ho B E i (aR aN) 1 16 ht hi hz h1 Z rfl bZ v l.length (l.map Value.string) hs D ⟨b,0,none⟩ z.length c (z.map Value.string) hx bF ?_ ?_ ?_ ?_ hB ?_
 .intro j u J;rw[List.getElem?_map]at J;exact akC
 .intro u Y;obtain⟨y,_,rfl⟩:=List.mem_map.1 Y
  rfl
 .unfold maxLen;omega
 .omega
 .intro F w' N hg _;refine h F w' ?_ hg;simpa[fI]using N
theorem abG{P:Program}{w:World}{ops:Array Oper}{rest:List Oper}{o:Oper}{a:Act}{Q:Exit->Act->World->Prop}(J:o.guard=none)(x c:Operand)(t:TypeId)(z:o.op=Op.makeSlice t x c)
  (E:TypeId) (ht:P.underlying t=some (.slice E)) (F:StrElem P E) (n:Nat) (C:Int) (hl:a.eval x=aO 0) (hc:a.eval c=aO C) (hC:C=(n:Int)) (N:n<=1000000)
  (I:∀w',fI E w.heap.size w' (aD (some ⟨w,0,none⟩) 0 n) []->w.grownBy w' none->wpList P ops Q rest (a.put o.dst (aD (some ⟨w,0,none⟩) 0 n)) w'):wpList P ops Q (o::rest) a w:=by
 obtain⟨i,K,M,h1,D⟩:=F.get;exact wpList_make_own w J x c t z w.heap.size E i (aR aN) 1 ht K M h1 .i64 .i64 C n hl hc hC (by rw[D];omega) (by unfold maxLen;omega) aU I
end Go.G5
namespace Go.Proofs.YtkdbkjjacgigiaaGreatDoor
open Go.RowKit Go.G5 Go.Proofs.Tryz
theorem yG:StrElem prog 9:=⟨by kernel_rfl⟩
theorem I5(B:Nat)(w:World)(v:Value)(F:List aB)(z:aB)(h:fI 9 B w v F)(I:(dL z F).size<=100000000)(K:F.length<=1000000):
  aH 269 #[v,aR z] w (aR (dL z F)):=by
 rcases h.at with⟨a,c,rfl,rfl⟩|⟨g,c,rfl,hc,J,D⟩
 .refine aV (JT a c z w) ?_;rintro w' rfl;exact⟨rfl,bJ _ _⟩
 .refine(RP g 0 c F z w D J aA hc ?_).mono ?_
  .rw[zK]at I;have:(dL z F).data.toList=Lib.join (F.map (·.data.toList)) z.data.toList:=rfl;rw[<-this];omega
  .rintro e w' ⟨rfl,hb⟩;exact⟨rfl,hb⟩
end Go.Proofs.YtkdbkjjacgigiaaGreatDoor
end
namespace Go.Proofs.YtkdbkjjacgigiaaGreatDoor
section
open Go.RowKit Go.G5 Go.Proofs.Tryz
variable(w:World)(n:Int)(v:Value)(l:aI)
def jE:ByteArray:=⟨#[44]⟩
theorem uN(h:∀x∈l,fM x):(dL jE (l.map dB)).size<=l.length*22:=by
 have:=CL jE 21 (l.map dB) (fun x z=>by
  obtain⟨y,D,rfl⟩:=List.mem_map.1 z;exact eB y (h y D))
 rw[List.length_map]at this;exact this
theorem TB{p:Prop}(h:p:=by
  go_roundw
  .exact⟨k+1,p7,i7,q7,aA,cD,rfl,by rw[b6.out];exact o7,B7⟩
  exact aY):p:=h
theorem xH(v:Value)(w:World)(hv:Ints w v l)(hl:l.length<=1000)(hp:lA w):
  aH 262 #[v] w (aR (dL jE (l.map dB))):=by
 have b9:=hv.inR;have j5:=uN l b9;obtain⟨a,b,f2,c,rfl,O,M,hc,hb⟩:=hv.vw;have HC:=aT hc;have f7:=aT b9;have Z:=aT M;clear hc b9 M O;go_enter func262,ntmps262;go_wp2_with (at_make;refine abG rfl _ _ _ rfl 9 underlying52 yG l.length _ rfl rfl rfl aA ?_;intro w2 b4 hg);have b2:Below w w w2:=(bJ _ _).grown hg aU bF;go_loopw [3,11] (fun ov iv wr=>∃(k:Nat) (p:Option Addr) (n K:Nat),k<=l/\iv=aO k/\ov=aD p n K/\fI 9 w wr (aD p n K) ((l.take k).map dB)/\Below w w wr) (fun _ iv _=>l.length-(intOf iv).toNat)
 .exact⟨0,_,_,_,aZ _,rfl,rfl,b4,b2⟩
 obtain⟨k,p,n,K,hk,rfl,rfl,I,B⟩:=hrel;obtain⟨wz,rfl⟩:∃q:World,q=wr:=⟨_,rfl⟩;have a8:=hp.keep B;clear b4 b2 hg;by_cases hlt:k<l
 .have R:(k:Int)<(l.length:Int):=aA;have b5:=bY HC.out hb B aU;have a7:=b5 k hlt;have e6:=fun W=>Z.out W k hlt;have F:(l.take (k+1)).map dB=(l.take k).map dB++[dB l[k]]:=by rw[cH hlt,List.map_append];rfl
  have e9:=f7.out l[k] (aX hlt);have z:((l.take k).map dB).length=k:=bO;obtain⟨x,D⟩:=aW (l[k]);rw[<-D]at a7 F e9;have b6:=aT F;have a1:=aT z;clear D b5 F z;have hF:=aT (C9 x e9 wz a8);go_wp2_with fail;refine aV hF.out ?_;intro w3 Y;have I:=I.keep Y;have B:=B.after Y B.size;have zB:=B.size;clear Y hF;go_wp2_with (at_builtin;refine tJ rfl _ _ _ rfl 9 underlying52 yG w.heap.size (aD p n K) ((l.take k).map dB) [dB x] w3.heap.size 1 1 rfl rfl rfl (fun j y hy=>by match j,hy with|0,hy=>(cases hy;exact cR _ _ _ _ _ rfl)) (I.alloc _) (by rw[a1.out];simp;omega) bO ?_;intro v7 w7 o7 g7;obtain⟨p7,i7,q7,rfl⟩:=o7.shape3);have rr:=I.lt;have B7:=(B.alloc zB (.cells #[aR (dB x)] 9)).grown g7 bO (fun q hq=>(rr _ hq).1);exact TB
 .have z:k=l.length:=aA;have S:fI 9 w wz (aD p n K) (l.map dB):=by rw[z,List.take_length]at I;exact I
  have R:¬(k:Int)<(l.length:Int):=aA;have HJ:=aT (I5 w.heap.size wz _ (l.map dB) jE S aA (by rw[List.length_map];omega));clear z I S a8;go_wp2_with fail;refine aV HJ.out ?_;intro w3 Y;go_wp2;go_ret;exact⟨rfl,B.after Y B.size⟩
def gT:ByteArray:=⟨#[110,111,110,101]⟩
def gY(l:List Int):ByteArray:=if l=[] then gT else dL jE (l.map dB)
theorem AL(k:Nat)(h:∀x∈l,fM x)(hl:l.length<=1000)(hk:k<=l):(dL jE ((l.take k).map dB)).size<=22000:=by
 have h1:=uN (l.take k) (fun x z=>h x (List.mem_of_mem_take z));rw[List.length_take]at h1;have:min k l.length=k:=aA;rw[this]at h1;omega
theorem ET(k:Nat)(hk:k<l):dL jE ((l.take (k+1)).map dB)=if k=0 then dB l[k] else dL jE ((l.take k).map dB)++jE++dB l[k]:=by
 have h:=QQ jE (l.map dB) k (by rw[List.length_map];exact hk);rw[List.getElem_map,<-List.map_take,<-List.map_take]at h;exact h
theorem yL:(dL jE (l.map dB)=aN)=(l=[]):=by
 refine propext ⟨fun h=>?_,fun h=>by subst h;rfl⟩
 cases l with
 |nil=>rfl
 |cons x l=>exact absurd h (ZH jE (dB x) (l.map dB) (ZG x))
theorem wG(b:aB):(b.toList==[])=decide (b=aN):=by
 rw[Lib.toList_data];by_cases h:b=aN
 .subst h;rfl
 .rw[bG h]
  cases hb:b.data.toList with
  |nil=>exact absurd (fQ (by rw[hb];rfl)) h
  |cons x r=>rfl
theorem ai5{p:Prop}(h:p:=by
  have i6:=fun W=>c8.out W k hlt;have a6:=ET l k hlt;have b9:=a8.out l[k] (aX hlt);rw[<-O]at a6;have b5:k=0->S=aN:=fun h=>by rw[O,h];rfl
  obtain⟨x,hx⟩:=aW (l[k]);rw[<-hx]at e4 a6 b9;have hT:=eB x b9;have hF:=iL x b9 wz;obtain⟨T,e0⟩:=aW (dB x);rw[<-e0]at a6 hT hF;have HF:=aT hF;have d0:=aT a6;clear hF a6 hx e0 O;by_cases a9:k=0
  .have f5:=b5 a9;subst f5;have f0:=aT a9;have f7:¬0<(k:Int):=aA;have e5:¬0<k:=aA;clear b5 a9;go_wp2_with fail;refine aV HF.out ?_;intro w3 b3;have B:=B.after b3 B.size;go_wp2;go_roundw
   .exact⟨k+1,_,aA,cD,rfl,by rw[d0.out,if_pos f0.out],B⟩
   exact aY
  .have f7:0<(k:Int):=aA;have e5:0<k:=aA;have h8:(S++jE).size<=22001:=by rw[gW];show S.size+1<=22001;omega
   clear b5;go_wp2_with fail;refine aV HF.out ?_;intro w3 b3;have B:=B.after b3 B.size;go_wp2;go_roundw
   .exact⟨k+1,_,aA,cD,rfl,by rw[d0.out,if_neg a9];rfl,B⟩
   exact aY):p:=h
theorem zT(v:Value)(w:World)(hv:Ints w v l)(hl:l.length<=1000):
  aH 39 #[v] w (aR (gY l)):=by
 have R:=hv.inR;obtain⟨a,b,g2,c,rfl,Z,Y,hc,hb⟩:=hv.vw;have HC:=aT hc;have a8:=aT R;have c8:=aT Y;clear hc R Y Z;go_enter func39,ntmps39;go_wp2_with fail;go_loopw [3,4] (fun sv iv wr=>∃(k:Nat) (S:aB),k<=l/\iv=aO k/\sv=aR S/\S=dL jE ((l.take k).map dB)/\Below w w wr) (fun _ iv _=>l.length-(intOf iv).toNat)
 .exact⟨0,_,aZ _,rfl,rfl,rfl,bJ _ _⟩
 obtain⟨k,S,hk,rfl,rfl,O,B⟩:=hrel;obtain⟨wz,rfl⟩:∃q:World,q=wr:=⟨_,rfl⟩;have f6:S.size<=22000:=by rw[O];exact AL l k a8.out hl hk
 by_cases hlt:k<l
 .have a1:(k:Int)<(l.length:Int):=aA;have e4:=bY HC.out hb B aU k hlt;exact ai5
 .have a1:¬(k:Int)<(l.length:Int):=aA;have D:S=dL jE (l.map dB):=by rw[O,show k=l.length from aA,List.take_length]
  have K:=wG S;have J:decide (S=aN)=decide (l=[]):=by rw[D];simp only[yL]
  rw[J]at K
  cases N:decide (l=[]) with
  |true=>
   have z:gY l=gT:=by unfold gY;rw[if_pos (eD N)]
   rw[N]at K;have I:=aT z;clear N J D z O;go_wp2;go_ret;exact⟨dA I.out.symm,B⟩
  |false=>
   have z:gY l=S:=by unfold gY;rw[if_neg (eZ N)];exact D.symm
   rw[N]at K;have I:=aT z;clear N J D z O;go_wp2;go_ret;exact⟨dA I.out.symm,B⟩
def lH:ByteArray:=⟨#[45]⟩
def sA(n s:Int):Bool:=fN n 0 6&&gL n.toNat s
def dH(n s:Int):ByteArray:=if sA n s=true then (if s=0 then lH else dL jE ((iP s).map dB)) else ByteArray.empty
theorem JQ{n s:Int}(h:sA n s=true):0<=n/\n<=6/\0<=s/\s<64:=by
 unfold sA at h;rw[fB]at h;have h1:=eW.1 h.1;have h2:=nF.1 h.2;have:=nY h1.1 h1.2;exact⟨h1.1,h1.2,h2.1,aA⟩
theorem aqN:∀s:Nat,s<64->(kN s 6=[]↔s=0):=dS
theorem OT(s:Int)(z:0<=s)(h:s<64):iP s=[]↔s=0:=by
 unfold iP;rw[aqN s.toNat aA];omega
theorem aqL(s:Int):∀x∈iP s,fM x:=fun x z=>by
 have:=SR s x z;exact⟨aA,aA⟩
theorem gN(n s:Int):(dH n s).size<=132:=by
 unfold dH
 split
 .split
  .show 1<=132;omega
  .have h1:=uN (iP s) (aqL s);have h2:=xQ s;omega
 .simp
theorem ao3(n s:Int)(h:sA n s=true):dH n s≠ByteArray.empty:=by
 unfold dH;rw[if_pos h];have z:=JQ h
 split
 .intro e;have:=congrArg ByteArray.size e;exact absurd this bZ
 .rename_i D;rw[Ne,yL,OT s z.2.2.1 z.2.2.2];exact D
theorem akV{p:Prop}(h:p:=by
  go_enter func197,ntmps197;go_wp2_with fail;refine aV N.out ?_;rintro w1 rfl;go_wp2_with fail;refine aV O.out ?_;rintro w1 rfl;go_wp2;go_ret;exact⟨dA J.out.symm,bJ _ _⟩):p:=h
theorem iY(n s:Int)(w:World)(hp:lA w):
  aH 197 #[n,s] w (aR (dH n s)):=by
 have z:=kD n 0 6 w
 cases h1:fN n 0 6 with
 |false=>
  have I:dH n s=aN:=by unfold dH sA;rw[h1];rfl
  have J:=aT I;rw[h1]at z;have N:=aT z;clear z I h1;go_enter func197,ntmps197;go_wp2_with fail;refine aV N.out ?_;rintro w1 rfl;go_wp2;go_ret;exact⟨dA J.out.symm,bJ _ _⟩
 |true=>
  have hb:=eW.1 h1;have D:=aiI n s w hb.1 aA;rw[h1]at z;have N:=aT z
  cases h2:gL n.toNat s with
  |false=>
   have I:dH n s=aN:=by unfold dH sA;rw[h1,h2];rfl
   rw[h2]at D;have J:=aT I;have O:=aT D;clear z I h1 h2 D;exact akV
  |true=>
   have F:sA n s=true:=by unfold sA;rw[h1,h2];rfl
   obtain⟨_,_,S,M⟩:=JQ F;rw[h2]at D;have O:=aT D;by_cases K:s=0
   .have I:dH n s=lH:=by unfold dH;rw[if_pos F,if_pos K]
    have J:=aT I;have Y:(s==0)=true:=by simpa using K
    clear z I h1 h2 D F K;exact akV
   .have I:dH n s=dL jE ((iP s).map dB):=by unfold dH;rw[if_pos F,if_neg K]
    have J:=aT I;have Y:(s==0)=false:=by simpa using K
    have Z:=aT (nJ s w S M);clear z I h1 h2 D F K;go_enter func197,ntmps197;go_wp2_with fail;refine aV N.out ?_;rintro w1 rfl;go_wp2_with fail;refine aV O.out ?_;rintro w1 rfl;go_wp2_with fail;refine Z.out.mono ?_;rintro e w1 ⟨ad,i,cp,rfl,o1,R⟩;have HJ:=aT (xH (iP s) _ w1 o1.ints (by have:=xQ s;omega) (hp.keep R));go_wp2_with fail;refine aV HJ.out ?_;intro w2 b2;go_wp2;go_ret;exact⟨dA J.out.symm,R.after b2 R.size⟩
theorem kL(n s:Int)(w:World):
  aH 22 #[n,s] w (aR (dH n s)):=by
 have M:=eH n 0 6 w
 cases h1:fN n 0 6 with
 |false=>
  have hx:dH n s=aN:=by unfold dH sA;rw[h1];rfl
  have HX:=aT hx;rw[h1]at M;have HW:=aT M;clear M hx h1;go_enter func22,ntmps22;go_wp2_with fail;refine aV HW.out ?_;rintro w1 rfl;go_wp2;go_ret;exact⟨dA HX.out.symm,bJ _ _⟩
 |true=>
  have hb:=eW.1 h1;have b6:=I6 n w hb.1 aA;have F:=eH s 0 (2^n.toNat-1) w;rw[BA]at F;obtain⟨f,hf⟩:∃f:Int,f=2^n.toNat-1:=⟨_,rfl⟩;rw[<-hf]at b6 F;rw[h1]at M;have HW:=aT M;have c7:=aT b6;clear hf b6
  cases h2:gL n.toNat s with
  |false=>
   have hx:dH n s=aN:=by unfold dH sA;rw[h1,h2];rfl
   rw[h2]at F;have HX:=aT hx;have HI:=aT F;clear M hx h1 h2 F;go_enter func22,ntmps22;go_wp2_with fail;refine aV HW.out ?_;rintro w1 rfl;go_wp2_with fail;refine aV c7.out ?_;rintro w1 rfl;go_wp2_with fail;refine aV HI.out ?_;rintro w1 rfl;go_wp2;go_ret;exact⟨dA HX.out.symm,bJ _ _⟩
  |true=>
   have b0:sA n s=true:=by unfold sA;rw[h1,h2];rfl
   obtain⟨_,_,b7,a7⟩:=JQ b0;rw[h2]at F;have HI:=aT F;have h7:=aT b0;have HE:=aT (I7 s w b7 a7);obtain⟨l,hl⟩:=aW (iP s);have f8:l.length<=1000:=by rw[hl];have:=xQ s;omega
   have f9:(l=[])=(s=0):=by rw[hl];exact propext (OT s b7 a7)
   have e6:dH n s=if l=[] then lH else dL jE (l.map dB):=by unfold dH;rw[if_pos b0,hl];simp only[OT s b7 a7]
   have c9:=aT e6;rw[<-hl]at HE;clear M h1 h2 F b0 f9 e6 hl;go_enter func22,ntmps22;go_wp2_with fail;refine aV HW.out ?_;rintro w1 rfl;go_wp2_with fail;refine aV c7.out ?_;rintro w1 rfl;go_wp2_with fail;refine aV HI.out ?_;rintro w1 rfl;go_wp2_with fail;refine HE.out.mono ?_;rintro e w1 ⟨ad,i,cp,rfl,o1,b1⟩;have hv:=o1.ints;have R:=hv.inR;have hi:i=l.length:=hv.capLe.1;subst hi;obtain⟨a,b,g2,c,g0,Z,Y,hc,hb⟩:=hv.vw;injection g0 with e1 _ e3;subst e1 e3;have HC:=aT hc;have a8:=aT R;have c8:=aT Y;have c6:=aT b1;clear hc R Y Z hv o1 b1;go_wp2_with fail;go_loopw [5,7] (fun sv iv wr=>∃(k:Nat) (S:aB),k<=l/\iv=aO k/\sv=aR S/\S=dL jE ((l.take k).map dB)/\Below w1 w1 wr) (fun _ iv _=>l.length-(intOf iv).toNat)
   .exact⟨0,_,aZ _,rfl,rfl,rfl,bJ _ _⟩
   obtain⟨k,S,hk,rfl,rfl,O,B⟩:=hrel;obtain⟨wz,rfl⟩:∃q:World,q=wr:=⟨_,rfl⟩;have f6:S.size<=22000:=by rw[O];exact AL l k a8.out f8 hk
   by_cases hlt:k<l
   .have a1:(k:Int)<(l.length:Int):=aA;have e4:=bY HC.out hb B aU k hlt;exact ai5
   .have a1:¬(k:Int)<(l.length:Int):=aA;have D:S=dL jE (l.map dB):=by rw[O,show k=l.length from aA,List.take_length]
    have K:=wG S;have J:decide (S=aN)=decide (l=[]):=by rw[D];simp only[yL]
    rw[J]at K;have BB:=c6.out.after B c6.out.size
    cases N:decide (l=[]) with
    |true=>
     have z:dH n s=lH:=by rw[c9.out,if_pos (eD N)]
     rw[N]at K;have I:=aT z;clear N J D z O;go_wp2;go_ret;exact⟨dA I.out.symm,BB⟩
    |false=>
     have z:dH n s=S:=by rw[c9.out,if_neg (eZ N)];exact D.symm
     rw[N]at K;have I:=aT z;clear N J D z O;go_wp2;go_ret;exact⟨dA I.out.symm,BB⟩
def AN:ByteArray:=⟨#[124]⟩
def eG(g:Int)(l:List Int):ByteArray:=if cO g l=true then (if l=[] then gT else dL AN (l.map (dH g))) else ByteArray.empty
theorem asH(D:l.Pairwise (· < ·))(z:∀x∈l,0<=x):∀k,(h:k<l.length)->(k:Int)<=l[k]:=by
 intro k
 induction k with
 |zero=>intro h;have:=z _ (aX h);omega
 |succ k ih=>intro h;have h1:=ih aA;have h2:=List.pairwise_iff_getElem.1 D k (k+1) aA h aA;omega
theorem kZ{g:Int}{l:aI}(h:cO g l=true):l.length<=64:=by
 obtain⟨z,D,hb,I⟩:=fF h;have F:=nY z D;by_cases hl:l.length=0
 .omega
 .have h1:=asH l I (fun x J=>(hb x J).1) (l.length-1) aA;have h2:=(hb _ (aX (show l.length-1<l.length from aA))).2;omega
theorem asW{g:Int}{l:aI}(h:cO g l=true):∀s∈l,sA g s=true:=by
 obtain⟨z,D,hb,I⟩:=fF h;intro s F;unfold sA;rw[eW.2 ⟨z,D⟩,nF.2 (hb s F)];rfl
theorem KI(g:Int)(l:aI):(dL AN (l.map (dH g))).size<=l.length*133:=by
 have:=CL AN 132 (l.map (dH g)) (fun x z=>by
  obtain⟨y,D,rfl⟩:=List.mem_map.1 z;exact gN g y)
 rw[List.length_map]at this;exact this
theorem ag8(g:Int)(l:aI)(k:Nat)(hl:l.length<=64)(hk:k<=l):(dL AN ((l.take k).map (dH g))).size<=22000:=by
 have h1:=KI g (l.take k);rw[List.length_take]at h1;have:min k l.length=k:=aA;rw[this]at h1;omega
theorem ag7(g:Int)(l:aI)(k:Nat)(hk:k<l):dL AN ((l.take (k+1)).map (dH g))=if k=0 then dH g l[k] else dL AN ((l.take k).map (dH g))++AN++dH g l[k]:=by
 have h:=QQ AN (l.map (dH g)) k (by rw[List.length_map];exact hk);rw[List.getElem_map,<-List.map_take,<-List.map_take]at h;exact h
theorem gK(g:Int)(l:aI):(eG g l).size<=10000:=by
 unfold eG
 split
 .rename_i h
  split
  .show 4<=10000;omega
  .have h1:=KI g l;have h2:=kZ h;omega
 .simp
theorem amR(g:Int)(l:aI)(h:∀s∈l,sA g s=true):(dL AN (l.map (dH g))=aN)=(l=[]):=by
 refine propext ⟨fun h2=>?_,fun h2=>by subst h2;rfl⟩
 cases l with
 |nil=>rfl
 |cons x l=>exact absurd h2 (ZH AN (dH g x) (l.map (dH g)) (ao3 g x (h x bF)))
theorem lU(g:Int)(l:aI)(v:Value)(w:World)(hv:Ints w v l)(hp:lA w):
  aH 196 #[aM #[g,v]] w (aR (eG g l)):=by
 have g6:=hv;obtain⟨a,b,f2,c,rfl,O,M,hc,hb⟩:=hv.vw;have K0:=bK.new w 29 #[g,aD a l c];have HC:=aT hc;have Z:=aT M;clear hc M O;go_enter func196,ntmps196;go_wp2_with fail;refine aV (eP g l _ _ (g6.alloc _)) ?_;intro w1 b7;have K1:=K0.keep b7;have B1:Below w w w1:=(cQ _ _).after b7 bF;have G1:=K1.cell;clear K0 b7
 cases hf:cO g l with
 |false=>
  have D:eG g l=aN:=by unfold eG;rw[hf];rfl
  have HX:=aT D;clear D hf;go_wp2;go_ret;exact⟨dA HX.out.symm,B1⟩
 |true=>
  have j3:=kZ hf;by_cases N:l.length=0
  .have D:eG g l=gT:=by unfold eG;rw[if_pos hf,if_pos (eS N)]
   have HX:=aT D;have hz:((l.length:Int)==0)=true:=by simp[N]
   have j6:(l.length==0)=true:=by simp[N]
   clear D hf N hz;go_wp2;go_ret;exact⟨dA HX.out.symm,B1⟩
  .have D:eG g l=dL AN (l.map (dH g)):=by unfold eG;rw[if_pos hf,if_neg (fun h=>N (by rw[h];rfl))]
   have HX:=aT D;have hz:(l.length==0)=false:=by simpa using N
   have g8:((l.length:Int)==0)=false:=by simp;intro h;exact N (by rw[h];rfl)
   clear D hf N;go_wp2_with fail;go_loopw [3,16] (fun ov iv wr=>∃(k:Nat) (p:Option Addr) (n K:Nat),k<=l/\iv=aO k/\ov=aD p n K/\fI 9 w1 wr (aD p n K) ((l.take k).map (dH g))/\Below w1 w1 wr) (fun _ iv _=>l.length-(intOf iv).toNat)
   .exact⟨0,_,_,_,aZ _,rfl,rfl,fI.nil _ _ _,bJ _ _⟩
   obtain⟨k,p,n,K,hk,rfl,rfl,I,B⟩:=hrel;obtain⟨wz,rfl⟩:∃q:World,q=wr:=⟨_,rfl⟩;have a8:=hp.keep (B1.after B B1.size);have Kz:=K1.keep B;have Gz:=Kz.cell;clear G1 hz g8;by_cases hlt:k<l
   .have R:(k:Int)<(l.length:Int):=aA;have a7:=bY HC.out hb (B1.after B B1.size) aU k hlt;have e6:=fun W=>Z.out W k hlt;have F:(l.take (k+1)).map (dH g)=(l.take k).map (dH g)++[dH g l[k]]:=by rw[cH hlt,List.map_append];rfl
    have z:((l.take k).map (dH g)).length=k:=bO;obtain⟨x,D⟩:=aW (l[k]);rw[<-D]at a7 F;have b6:=aT F;have a1:=aT z;clear D F z;have hF:=aT (iY g x wz a8);go_wp2_with fail;refine aV hF.out ?_;intro w3 Y;have I:=I.keep Y;have B:=B.after Y B.size;have zB:=B.size;clear Y hF Gz;go_wp2_with (at_builtin;refine tJ rfl _ _ _ rfl 9 underlying52 yG w1.heap.size (aD p n K) ((l.take k).map (dH g)) [dH g x] w3.heap.size 1 1 rfl rfl rfl (fun j y hy=>by match j,hy with|0,hy=>(cases hy;exact cR _ _ _ _ _ rfl)) (I.alloc _) (by rw[a1.out];simp;omega) bO ?_;intro v7 w7 o7 g7;obtain⟨p7,i7,q7,rfl⟩:=o7.shape3);have rr:=I.lt;have B7:=(B.alloc zB (.cells #[aR (dH g x)] 9)).grown g7 bO (fun q hq=>(rr _ hq).1);exact TB
   .have z:k=l.length:=aA;have S:fI 9 w1 wz (aD p n K) (l.map (dH g)):=by rw[z,List.take_length]at I;exact I
    have R:¬(k:Int)<(l.length:Int):=aA;have g2:=KI g l;have HJ:=aT (I5 w1.heap.size wz _ (l.map (dH g)) AN S aA (by rw[List.length_map];omega));have BB:=B1.after B B1.size;clear z I S a8 g2;go_wp2_with fail;refine aV HJ.out ?_;intro w3 Y;go_wp2;go_ret;exact⟨dA HX.out.symm,BB.after Y BB.size⟩
def uP(w:World):Prop:=∃m,w.cell? ⟨0,0,none⟩=some (aO m)
theorem uP.keep{w w':World}(h:uP w)(hb:Below w w w'):uP w':=by
 obtain⟨m,hm⟩:=h;exact⟨m,Go.G5.keep hb hm⟩
theorem H9(c:UInt8)(s:aB)(w:World)(hm:uP w)(z:s.size<4294967281):
  Calls prog 33 #[aR s,.string ⟨#[c]⟩] w fun e w'=>e=aQ (.slice (some ⟨w,0,none⟩) (dK c s).length (dK c s).length)/\w'=w.alloc (.cells ((dK c s).map Value.string).toArray 9):=by
 obtain⟨m,hm⟩:=hm;have h:=PK s ⟨#[c]⟩ m w z hm (by show 1<=1;exact aU);rw[RU]at h;have hl:Lib.countB s ⟨#[c]⟩+1=(dK c s).length:=by rw[<-RU];exact(Lib.splitB_all ⟨#[c]⟩ (by show 1<=1;exact aU) 0 _ s rfl).symm
 rw[hl]at h;exact h
def qJ(n:Int)(p:ByteArray):Bool:=pB p&&(decide (0<=pN p)&&decide (pN p<n))
def rI(z:List ByteArray):Nat->Nat
 |0=>0
 |k+1=>dF (rI z k) (pN (z.getD k ByteArray.empty)).toNat
def RJ(z:List ByteArray):Nat:=rI z z.length
def mU(n:Int)(s:ByteArray):Bool:=fN n 0 6&&(decide (s=lH)||((dK 44 s).all (qJ n)&&decide (dH n (RJ (dK 44 s):Int)=s)))
def pP(n:Int)(s:ByteArray):Int:=if mU n s then (if s=lH then 0 else (RJ (dK 44 s):Int)) else 0
theorem yT{n:Int}{s:aB}(h:mU n s=false):pP n s=0:=by unfold pP;rw[h];rfl
theorem SS{N:Nat}{p:aB}(h:qJ (N:Int) p=true):pB p=true/\∃e:Nat,pN p=(e:Int)/\e<N:=by
 unfold qJ at h;simp only[Bool.and_eq_true,decide_eq_true_eq]at h;obtain⟨h1,h2,h3⟩:=h;obtain⟨e,z⟩:=cN h2;exact⟨h1,e,z,aA⟩
theorem vG(z:List aB)(k:Nat)(h:k<z):z.getD k aN=z[k]:=by
 rw[bR,cG h];rfl
theorem TY(N:Nat)(z:List aB):∀k,k<=z.length->(z.take k).all (qJ (N:Int))=true->rI z k<2^N:=by
 intro k
 induction k with
 |zero=>intro _ _;exact dJ N
 |succ k ih=>
  intro hk h;rw[cH hk,List.all_append,fB]at h;have h2:qJ (N:Int) z[k]=true:=by simpa using h.2
  obtain⟨_,e,F,D⟩:=SS h2;rw[rI,vG z k hk,F,cA];exact gI _ e N (ih aA h.1) D
theorem uK(P:aB->Bool)(l:List aB)(k:Nat)(h:k<l)(D:P l[k]=false):l.all P=false:=by
 cases z:l.all P with
 |false=>rfl
 |true=>have:=List.all_eq_true.1 z l[k] (aX h);rw[D]at this;cases this
theorem TW{n:Int}{s:aB}(hd:s≠lH)(h:(dK 44 s).all (qJ n)=false):mU n s=false:=by
 unfold mU;rw[h,bG hd];simp
theorem ad3{n:Int}{s:aB}(z:fN n 0 6=true)(hd:s≠lH)(h:(dK 44 s).all (qJ n)=true):mU n s=decide (dH n (RJ (dK 44 s):Int)=s):=by
 unfold mU;rw[h,bG hd,z];simp
theorem TZ{n:Int}{s:aB}(hd:s≠lH)(h:mU n s=true):pP n s=(RJ (dK 44 s):Int):=by unfold pP;rw[if_pos h,if_neg hd]
theorem aaQ{n:Int}(z:fN n 0 6=true):mU n lH=true/\pP n lH=0:=by
 have:mU n lH=true:=by unfold mU;rw[z];simp
 exact⟨this,by unfold pP;rw[if_pos this,if_pos rfl]⟩
theorem TX{n:Int}{s:aB}(z:fN n 0 6=false):mU n s=false:=by unfold mU;rw[z];rfl
theorem arN{N:Nat}{s:aB}(h:mU (N:Int) s=true):0<=pP (N:Int) s/\pP (N:Int) s<2^N:=by
 have I:((2^N:Nat):Int)=(2:Int)^N:=by push_cast;rfl
 have D:=dJ N;by_cases hd:s=lH
 .subst hd;have:pP (N:Int) lH=0:=by unfold pP;rw[if_pos h,if_pos rfl]
  rw[this];omega
 .rw[TZ hd h]
  have z:(dK 44 s).all (qJ (N:Int))=true:=by
   cases F:(dK 44 s).all (qJ (N:Int)) with
   |true=>rfl
   |false=>rw[TW hd F]at h;cases h
  have:=TY N (dK 44 s) _ aU (by rw[List.take_length];exact z);unfold RJ;omega
theorem mE(b n c k:Nat)(hk:k<n)(W:World):(Instr.indexAt 52 (aD (some ⟨b,0,none⟩) n c) (aO (k:Int))).run prog W=.ok (aP (some ⟨b,k,none⟩)) W:=by
 have F:=underlying52;have D:prog.elem 52=9:=by simp[Program.elem,F]
 obtain⟨i,I,_,z,_⟩:=yG.get;rw[run_indexAt_slice W 52 ⟨b,0,none⟩ n c .i64 k (by rw[D];exact F),if_pos ⟨aA,aA⟩,D];simp[sizeOf,typeInfo,I,z,Addr.add];omega
theorem IG{w:World}{g:Nat}{t:TypeId}{z:List aB}(K:bK w g t (z.map Value.string).toArray)(k:Nat)(h:k<z):w.cell? ⟨g,k,none⟩=some (aR z[k]):=by
 rw[K.cell];simp[h]
theorem alZ(s:aB)(w:World)(hs:s.size<=2000000)(hp:lA w)(hm:uP w):
  aH 145 #[n,aR s] w (aS #[(pP n s),aG (mU n s)]):=by
 have a1:=kD n 0 6 w
 cases hn:fN n 0 6 with
 |false=>rw[hn]at a1;have F:=aT (TX (s:=s) hn);have HW:=aT a1;clear hn a1;go_enter func145,ntmps145;go_wp2_with fail;refine aV HW.out ?_;rintro w1 rfl;go_wp2;go_ret2;exact⟨gH (yT F.out).symm F.out.symm,bJ _ _⟩
 |true=>
 rw[hn]at a1;have HW:=aT a1;clear a1;by_cases hd:s=lH
 .subst hd;have HD:=aT (aaQ hn);have b9:((lH).toList==[45])=true:=by rw[show([45]:List UInt8)=lH.toList from dS,dR];simp
  clear hn;go_enter func145,ntmps145;go_wp2_with fail;refine aV HW.out ?_;rintro w1 rfl;go_wp2;go_ret2;exact⟨gH HD.out.2.symm HD.out.1.symm,bJ _ _⟩
 have b9:(s.toList==[45])=false:=by rw[show([45]:List UInt8)=lH.toList from dS,dR,bG hd]
 obtain⟨h0,h6⟩:=eW.1 hn;obtain⟨N,rfl⟩:=cN h0;have a7:=TW (n:=(N:Int)) hd;have a9:=ad3 hn hd;have b4:=TZ (n:=(N:Int)) hd;have b1:=TY N (dK 44 s);have f6:=xP 44 s;have S:=pJ 44 s;have e4:=H9 44 s w hm aA;obtain⟨D,f8⟩:=aW (dK 44 s);rw[<-f8]at a7 a9 b4 b1 f6 S e4;have f4:=fun k=>vG D k;have j7:(2:Nat)^N<=2^6:=bQ bZ aA;have c7:=aT a7;have e7:=aT a9;have f3:=aT b4;have g4:=aT b1;have d0:=aT S;have e9:=aT e4;have e5:=aT f4;clear a7 a9 b4 b1 S e4 f4 f8 hd hn;go_enter func145,ntmps145;go_wp2_with fail;refine aV HW.out ?_;rintro w1 rfl;go_wp2_with fail;refine aV e9.out ?_;rintro w1 rfl;have K1:bK (w.alloc (.cells (D.map Value.string).toArray 9)) w.heap.size 9 (D.map Value.string).toArray:=bK.new _ _ _;have B1:Below w w (w.alloc (.cells (D.map Value.string).toArray 9)):=cQ _ _;obtain⟨V,hV⟩:=aW (w.alloc (.cells (D.map Value.string).toArray 9));rw[<-hV]at K1 B1 |-;clear hV HW e9 b9;go_wp2_with fail;go_loopw [19,6] (fun iv uv wr=>∃k:Nat,k<=D.length/\iv=aO k/\uv=aO (rI D k:Int)/\(D.take k).all (qJ (N:Int))=true/\Below w w wr/\bK wr w 9 (D.map Value.string).toArray) (fun iv _ _=>D.length-(intOf iv).toNat)
 .exact⟨0,aZ _,rfl,rfl,rfl,B1,K1⟩
 obtain⟨k,hk,rfl,rfl,J,Y,Kw⟩:=hrel;have hu:=g4.out k hk J;have c6:=aT J;clear J B1 K1;by_cases hlt:k<D.length
 .have f7:(k:Int)<(D.length:Int):=aA;have a8:=IG Kw k hlt;have k0:=fun W=>mE w.heap.size D.length D.length k hlt W;have f5:=e5.out k hlt;have h8:=d0.out _ (aX hlt);have z:rI D (k+1)=dF (rI D k) (pN D[k]).toNat:=by rw[rI,f5]
  have Z:(D.take (k+1)).all (qJ (N:Int))=qJ (N:Int) D[k]:=by rw[cH hlt,List.all_append,c6.out];simp
  have b0:=uK (qJ (N:Int)) D k hlt;obtain⟨x,hx⟩:=aW (D[k]);rw[<-hx]at a8 h8 z Z b0;obtain⟨u,b3⟩:=aW (rI D k);rw[<-b3]at z hu |-;have K:=JJ x wr aA (hp.keep Y);have g5:=aT z;have g6:=aT Z;have c8:=aT b0;clear f5 z Z b0 hx b3 e5
  cases I:pB x with
  |false=>
   rw[I]at K;have O:qJ (N:Int) x=false:=by unfold qJ;rw[I];rfl
   have a6:=aT K;have F:=aT (c7.out (c8.out O));clear K O I;go_wp2_with fail;refine aV a6.out ?_;intro w2 b2;go_wp2;go_ret2;exact⟨gH (yT F.out).symm F.out.symm,Y.after b2 Y.size⟩
  |true=>
   rw[I,DP I]at K;have R:=fun W=>afF (N:Int) (pN x) W
   cases O:(decide (0<=pN x)&&decide (pN x<(N:Int))) with
   |false=>
    simp only[O]at R;have M:qJ (N:Int) x=false:=by unfold qJ;rw[O];simp
    obtain⟨y,hy⟩:=aW (pN x);rw[<-hy]at K;simp only[<-hy]at R;have a6:=aT K;have c9:=aT R;have F:=aT (c7.out (c8.out M));clear K O M I R hy;go_wp2_with fail;refine aV a6.out ?_;intro w2 b2;go_wp2_with fail;refine aV (c9.out _) ?_;rintro w3 rfl;go_wp2;go_ret2;exact⟨gH (yT F.out).symm F.out.symm,Y.after b2 Y.size⟩
   |true=>
    simp only[O]at R;have M:qJ (N:Int) x=true:=by unfold qJ;rw[I,O];rfl
    obtain⟨_,e,he,j9⟩:=SS M;have z:=g5.out;rw[he]at K z;simp only[he]at R;rw[cA]at z;have h7:=iU u e aA aA;have Z:(D.take (k+1)).all (qJ (N:Int))=true:=by rw[g6.out,M]
    have j8:(e:Int)<6:=aA;have b8:=JL (e:Int) aA;rw[cA]at b8;have k1:=b8.1;have k2:=b8.2;obtain⟨u2,f9⟩:=aW (dF u e);rw[<-f9]at h7 z;have e8:=aT z;have a6:=aT K;have c9:=aT R;have f0:=aT Z;clear K O M I R Z he b8 z f9;go_wp2_with fail;refine aV a6.out ?_;intro w2 b2;have B2:=Y.after b2 Y.size;have K2:=Kw.keep b2;clear Y Kw a8;go_wp2_with fail;refine aV (c9.out _) ?_;rintro w3 rfl;go_wp2;go_roundw
    .exact⟨k+1,aA,cD,by rw[e8.out],f0.out,B2,K2⟩
    exact aY
 .have f7:¬(k:Int)<(D.length:Int):=aA;have e0:k=D.length:=aA;have J:=c6.out;rw[e0,List.take_length]at J;have b5:=e7.out J;have c5:=f3.out;rw[show RJ D=rI D k by unfold RJ;rw[e0]]at b5 c5;have b6:=iY (N:Int) (rI D k:Int) wr (hp.keep Y);obtain⟨T,hT⟩:=aW (dH (N:Int) (rI D k:Int));rw[<-hT]at b6 b5;obtain⟨u,b3⟩:=aW (rI D k);rw[<-b3]at b6 c5 hu |-;have g2:=aT b6;have e6:=aT b5;have g7:=aT c5;clear e0 J b5 c5 b6 hT b3;go_wp2_with fail;refine aV g2.out ?_;intro w2 b2;by_cases ht:T=s
  .have I:mU (N:Int) s=true:=by rw[e6.out,bH ht]
   have b9:(T.toList==s.toList)=true:=by rw[dR,bH ht]
   have F:=aT I;clear I ht;go_wp2;go_ret2;exact⟨gH (g7.out F.out).symm F.out.symm,Y.after b2 Y.size⟩
  .have I:mU (N:Int) s=false:=by rw[e6.out,bG ht]
   have b9:(T.toList==s.toList)=false:=by rw[dR,bG ht]
   have F:=aT I;clear I ht;go_wp2;go_ret2;exact⟨gH (yT F.out).symm F.out.symm,Y.after b2 Y.size⟩
theorem SF{b c:UInt8}(h:b≠c):((b.toNat:Int) != (c.toNat:Int))=true:=by
 rw[bne_iff_ne];intro e;exact h (UInt8.toNat_inj.1 aA)
theorem SE{b c:UInt8}(h:b=c):((b.toNat:Int) != (c.toNat:Int))=false:=by rw[h];simp
theorem apQ{p:Prop}(h:p:=by
  obtain⟨c7,hg,b9⟩:=D;have j2:=e7.out _ (aX c7);have c6:K[j]=P:=by rw[<-vG K j c7];exact hg
  rw[c6]at j2;have J:rI K (j+1)=dF (rI K j) (pN P).toNat:=by rw[rI,hg]
  have b6:(K.take (j+1)).all (qJ (N:Int))=qJ (N:Int) P:=by rw[cH c7,List.all_append,Z.out,c6];simp
  have b3:=uK (qJ (N:Int)) K j c7;rw[c6]at b3;obtain⟨u,b7⟩:=aW (rI K j);rw[<-b7]at J hu |-;have M:=JK P wr aA;have h5:=aT J;have h7:=aT b6;have e4:=aT b3;have f6:=aT b9;clear hg J b6 b3 b7 c6 b9
  cases I:pB P with
  |false=>
   rw[I]at M;have Y:qJ (N:Int) P=false:=by unfold qJ;rw[I];rfl
   have a9:=aT M;have F:=aT (e0.out (e4.out Y));clear M Y I;go_wp2_with fail;refine aV a9.out ?_;intro w2 b2;go_wp2;go_ret2;exact⟨gH (yT F.out).symm F.out.symm,Bw.after b2 Bw.size⟩
  |true=>
   rw[I,DP I]at M;have S:=fun W=>eH (pN P) 0 ((N:Int)-1) W;have e9:fN (pN P) 0 ((N:Int)-1)=(decide (0<=pN P)&&decide (pN P<(N:Int))):=by
    unfold fN
    congr 1
    exact decide_eq_decide.2 aA
   simp only[e9]at S
   cases Y:(decide (0<=pN P)&&decide (pN P<(N:Int))) with
   |false=>
    simp only[Y]at S;have R:qJ (N:Int) P=false:=by unfold qJ;rw[Y];simp
    obtain⟨y,hy⟩:=aW (pN P);rw[<-hy]at M;simp only[<-hy]at S;have a9:=aT M;have e5:=aT S;have F:=aT (e0.out (e4.out R));clear M Y R I S hy e9;go_wp2_with fail;refine aV a9.out ?_;intro w2 b2;go_wp2_with fail;refine aV (e5.out _) ?_;rintro w3 rfl;go_wp2;go_ret2;exact⟨gH (yT F.out).symm F.out.symm,Bw.after b2 Bw.size⟩
   |true=>
    simp only[Y]at S;have R:qJ (N:Int) P=true:=by unfold qJ;rw[I,Y];rfl
    obtain⟨_,e,he,k4⟩:=SS R;have J:=h5.out;rw[he]at M J;simp only[he]at S;rw[cA]at J;have j1:=iU u e aA aA;have b6:(K.take (j+1)).all (qJ (N:Int))=true:=by rw[h7.out,R]
    have k3:(e:Int)<6:=aA;have c9:=JL (e:Int) aA;rw[cA]at c9;have k7:=c9.1;have k8:=c9.2;obtain⟨u2,g7⟩:=aW (dF u e);rw[<-g7]at j1 J;have f7:=aT J;have a9:=aT M;have e5:=aT S;have f8:=aT b6;clear M Y R I S b6 he c9 J g7 e9;go_wp2_with fail;refine aV a9.out ?_;intro w2 b2;have B2:=Bw.after b2 Bw.size;clear Bw;go_wp2_with fail;refine aV (e5.out _) ?_;rintro w3 rfl;go_wp2;go_roundw
    .exact⟨j+1,k+1,_,cD,rfl,by rw[f7.out],f8.out,f6.out,B2⟩
    exact aY):p:=h
theorem al0(s:aB)(w:World)(hs:s.size<=2000000):
  aH 166 #[n,aR s] w (aS #[(pP n s),aG (mU n s)]):=by
 have a7:=eH n 0 6 w
 cases hn:fN n 0 6 with
 |false=>rw[hn]at a7;have F:=aT (TX (s:=s) hn);have HW:=aT a7;clear hn a7;go_enter func166,ntmps166;go_wp2_with fail;refine aV HW.out ?_;rintro w1 rfl;go_wp2;go_ret2;exact⟨gH (yT F.out).symm F.out.symm,bJ _ _⟩
 |true=>
 rw[hn]at a7;have HW:=aT a7;clear a7;by_cases hd:s=lH
 .subst hd
  have z:dH n 0=lH:=by
   obtain⟨h0,h6⟩:=eW.1 hn;have j0:=(dW n.toNat n.toNat aU).2;have:sA n 0=true:=by unfold sA;rw[hn];exact nF.2 ⟨Int.le_refl _,j0⟩
   unfold dH;rw[if_pos this,if_pos rfl]
  have HD:=aT (aaQ hn);have j3:((lH).toList==[45])=true:=by rw[show([45]:List UInt8)=lH.toList from dS,dR];simp
  have a1:=kL n 0 w;rw[z]at a1;have e6:=aT a1;have k9:(lH.toList==lH.toList)=true:=bF;clear hn z a1;go_enter func166,ntmps166;go_wp2_with fail;refine aV HW.out ?_;rintro w1 rfl;go_wp2_with fail;go_loopw [6,7,8] (fun xv _ iv wr=>iv=aO 0/\xv=aO 0/\wr=w) (fun _ _ _ _=>0)
  .exact⟨rfl,rfl,rfl⟩
  obtain⟨rfl,rfl,rfl⟩:=hrel;go_wp2_with fail;refine aV e6.out ?_;intro w2 b2;go_wp2;go_ret2;exact⟨gH HD.out.2.symm HD.out.1.symm,b2⟩
 have j3:(s.toList==[45])=false:=by rw[show([45]:List UInt8)=lH.toList from dS,dR,bG hd]
 obtain⟨h0,h6⟩:=eW.1 hn;obtain⟨N,rfl⟩:=cN h0;have b0:=TW (n:=(N:Int)) hd;have b1:=ad3 hn hd;have b8:=TZ (n:=(N:Int)) hd;have b4:=TY N (dK 44 s);have a6:=pJ 44 s;have e8:=MY 44 s;obtain⟨K,g5⟩:=aW (dK 44 s);rw[<-g5]at b0 b1 b8 b4 a6 e8;have k1:(2:Nat)^N<=2^6:=bQ bZ aA;have e0:=aT b0;have f4:=aT b1;have g0:=aT b8;have f5:=aT b4;have e7:=aT a6;have f2:=aT e8;clear b0 b1 b8 b4 a6 g5 hd hn e8;go_enter func166,ntmps166;go_wp2_with fail;refine aV HW.out ?_;rintro w1 rfl;go_wp2_with fail;clear HW;go_loopw [6,7,8] (fun uv pv iv wr=>∃(j k:Nat) (P:aB),iv=aO k/\pv=aR P/\uv=aO (rI K j:Int)/\(K.take j).all (qJ (N:Int))=true/\(rR 44 s K j P k\/(k=s.size+1/\j=K.length))/\Below w w wr) (fun _ _ iv _=>s.size+1-(intOf iv).toNat)
 .exact⟨0,0,aN,rfl,rfl,rfl,rfl,.inl f2.out,bJ _ _⟩
 obtain⟨j,k,P,rfl,rfl,rfl,O,z,Bw⟩:=hrel;have Z:=aT O;clear O f2;rcases z with z|⟨i7,f0⟩
 .have k6:=z.2.1
  have k2:=z.2.2;have i8:(k:Int)<=(s.size:Int):=aA;have c8:j<=K:=by
   by_cases h:k<s.size
   .by_cases hc:s[k]=44
    .exact cM (AX z h hc).1
    .refine Nat.le_of_not_lt fun k5=>?_;have h1:=z.1;rw[List.drop_eq_nil_of_le aA]at h1;exact CQ _ _ _ (List.map_eq_nil_iff.1 h1.symm)
   .exact cM (AY z h).1
  have hu:=f5.out j c8 Z.out;by_cases hlt:k<s.size
  .have g2:(k:Int)<(s.size:Int):=aA;by_cases hc:s[k]=44
   .have h9:((s[k].toNat:Int) != 44)=false:=SE hc;have D:=AX z hlt hc;have D:j<K/\K.getD j aN=P/\(rR 44 s K (j+1) aN (k+1)\/(k+1=s.size+1/\j+1=K.length)):=⟨D.1,D.2.1,.inl D.2.2⟩;clear z hc c8;exact apQ
   .have h9:((s[k].toNat:Int) != 44)=true:=SF hc;have g4:=CF z hlt hc;have hz:=DM P s k hlt;have b9:=aT g4;have l1:P.size+1<=s.size:=aA;clear z hc g4 c8 hz;go_wp2;go_roundw
    .exact⟨j,k+1,_,cD,rfl,rfl,Z.out,.inl b9.out,Bw⟩
    exact aY
  .have g2:¬(k:Int)<(s.size:Int):=aA;have D:=AY z hlt;have D:j<K/\K.getD j aN=P/\(rR 44 s K (j+1) aN (k+1)\/(k+1=s.size+1/\j+1=K.length)):=⟨D.1,D.2.1,.inr ⟨aA,D.2.2⟩⟩;clear z c8;exact apQ
 .have i8:¬(k:Int)<=(s.size:Int):=aA;have hu:=f5.out j aA Z.out;have O:=Z.out;rw[f0,List.take_length]at O;have c5:=f4.out O;have d0:=g0.out;rw[show RJ K=rI K j by unfold RJ;rw[f0]]at c5 d0;have a1:=kL (N:Int) (rI K j:Int) wr;obtain⟨T,hT⟩:=aW (dH (N:Int) (rI K j:Int));rw[<-hT]at a1 c5;obtain⟨u,b7⟩:=aW (rI K j);rw[<-b7]at a1 d0 hu |-;have e6:=aT a1;have f3:=aT c5;have h8:=aT d0;clear i7 f0 O c5 d0 a1 hT b7;go_wp2_with fail;refine aV e6.out ?_;intro w2 b2;by_cases ht:T=s
  .have I:mU (N:Int) s=true:=by rw[f3.out,bH ht]
   have g6:(T.toList==s.toList)=true:=by rw[dR,bH ht]
   have F:=aT I;clear I ht;go_wp2;go_ret2;exact⟨gH (h8.out F.out).symm F.out.symm,Bw.after b2 Bw.size⟩
  .have I:mU (N:Int) s=false:=by rw[f3.out,bG ht]
   have g6:(T.toList==s.toList)=false:=by rw[dR,bG ht]
   have F:=aT I;clear I ht;go_wp2;go_ret2;exact⟨gH (yT F.out).symm F.out.symm,Bw.after b2 Bw.size⟩
def qX(n:Int)(s:ByteArray):Bool:=fN n 0 6&&(decide (s=gT)||((dK 124 s).all (mU n)&&cO n ((dK 124 s).map (pP n))))
def BH(n:Int)(s:ByteArray):Int:=if qX n s then n else 0
def zI(n:Int)(s:ByteArray):List Int:=if qX n s then (if s=gT then [] else (dK 124 s).map (pP n)) else []
theorem ad0{n:Int}{s:aB}(z:fN n 0 6=false):qX n s=false:=by unfold qX;rw[z];rfl
theorem NE{n:Int}{s:aB}(h:qX n s=false):BH n s=0/\zI n s=[]:=by unfold BH zI;rw[h];exact⟨rfl,rfl⟩
theorem NF{n:Int}(z:fN n 0 6=true):qX n gT=true/\BH n gT=n/\zI n gT=[]:=by
 have:qX n gT=true:=by unfold qX;rw[z];simp
 unfold BH zI;rw[this];exact⟨rfl,rfl,bF⟩
theorem aaI{n:Int}{s:aB}(hd:s≠gT)(h:(dK 124 s).all (mU n)=false):qX n s=false:=by
 unfold qX;rw[h,bG hd];simp
theorem aaJ{n:Int}{s:aB}(z:fN n 0 6=true)(hd:s≠gT)(h:(dK 124 s).all (mU n)=true):qX n s=cO n ((dK 124 s).map (pP n)):=by
 unfold qX;rw[h,bG hd,z];simp
theorem aaL{n:Int}{s:aB}(hd:s≠gT)(h:qX n s=true):BH n s=n/\zI n s=(dK 124 s).map (pP n):=by
 unfold BH zI;rw[if_pos h,if_pos h,if_neg hd];exact⟨rfl,rfl⟩
theorem atQ{n:Int}{s:aB}(h:qX n s=true):cO n (zI n s)=true:=by
 by_cases hd:s=gT
 .subst hd;have z:fN n 0 6=true:=by unfold qX at h;rw[fB]at h;exact h.1
  rw[(NF z).2.2];unfold cO gE CX;rw[z];simp
 .have z:fN n 0 6=true:=by unfold qX at h;rw[fB]at h;exact h.1
  have D:(dK 124 s).all (mU n)=true:=by
   cases F:(dK 124 s).all (mU n) with
   |true=>rfl
   |false=>rw[aaI hd F]at h;cases h
  rw[(aaL hd h).2,<-aaJ z hd D];exact h
theorem alY(s:aB):0<=pP n s/\pP n s<64:=by
 cases h:mU n s with
 |false=>rw[yT h];omega
 |true=>
  have D:fN n 0 6=true:=by unfold mU at h;rw[fB]at h;exact h.1
  obtain⟨z,F⟩:=eW.1 D;obtain⟨N,rfl⟩:=cN z;have h1:=arN h;have h2:=(dW N 6 aA).1;simp at h2;omega
theorem aaY(z:List aB)(k:Nat)(h:k<z):(z.take (k+1)).map (pP n)=(z.take k).map (pP n)++[pP n z[k]]:=by
 rw[cH h,List.map_append];rfl
theorem kS{w W Wf:World}{r:Nat}{E:TypeId}{n m:Int}{a b:Value}{ad:Option Addr}{i D:Nat}{l:aI}{B:Nat}
  (K:bK W r E #[n,a]) (o:bB 3 B W (aD ad i D) l) (hr:w.heap.size<=r) (hB:r<B) (hb:Below w w W)
  (z:Wf=(W.setCell ⟨r,0,none⟩ (aO m)).setCell ⟨r,1,none⟩ b):bK Wf r E #[m,b]/\bB 3 w Wf (aD ad i D) l/\Below w w Wf:=by
 refine⟨?_,?_,?_⟩
 .rw[z];have:=(K.set 0 (aO m)).set 1 b;simpa using this
 .rw[z];exact((o.setBelow (by show r<B;exact hB) _).setBelow (by show r<B;exact hB) _).mono aA
 .rw[z];exact bX (bX hb hr _) hr _
theorem ai1{p:Prop}(h:p:=by
  go_wp2_with fail;refine aV f4.out ?_;intro w2 b2;have I:=d0.keep b2;have e0:=b4.keep b2;have m8:=g5.keep b2;have o2:=ow.keep b2;have B2:=Bw.after b2 Bw.size;have z2:=b2.size;have G:=e0.cell;have F:=e0.frozen;have f0:=o2.lt;clear Y h9 Bw d0 b4 g5 ow b2;go_wp2_with (at_builtin;refine eF rfl _ _ _ rfl 3 underlying25 intElem (w.heap.size+3) _ l y w2.heap.size rfl rfl (cR _ _ _ _ _ rfl) (o2.alloc _) h6 aA bO ?_;intro v7 w7 o7 g7;obtain⟨p7,i7,q7,rfl⟩:=o7.shape3;have j7:=(e0.alloc (.cells #[y] 3)).grow g7 (by intro e;have:=(f0 _ e).1;omega);have G7:=j7.cell;have F7:=j7.frozen);have m6:=(I.alloc (.cells #[y] 3)).grow g7 (by intro e;have:=(f0 _ e).1;omega);have m9:=(m8.alloc (.cells #[y] 3)).grow g7 (by intro e;have:=(f0 _ e).1;omega);have B7:Below w w w7:=(B2.alloc B2.size (.cells #[y] 3)).grown g7 (by have:=B2.size;simp;omega) (fun q hq=>by have:=(f0 q hq).1;omega);have z7:=g7.size;simp at z7;go_roundw
  .refine⟨k+1,p7,i7,q7,aA,cD,i6.out,bX B7 (by show w.heap.size<=w.heap.size+1;omega) _,by show w.heap.size+3<=(w7.setCell _ _).heap.size;simp;omega,m6.far (by show w.heap.size≠w.heap.size+1;omega) _,?_,m9.far (by show w.heap.size+2≠w.heap.size+1;omega) _,?_⟩
   .have:=j7.set 1 (aD p7 i7 q7);simpa using this
   .rw[k8.out];exact o7.setBelow (by show w.heap.size+1<w.heap.size+3;omega) _
  exact aY):p:=h
theorem akO{p:Prop}(h:p:=by
  exact bW (v:=aS #[aM #[aK,()],aG false]) (by simp[results,results92,go_sem,GF]) rfl ⟨none,0,0,by rw[K.out.1,K.out.2.1],by rw[K.out.2.2];exact t.2.1,t.2.2⟩):p:=h
theorem alS(s:aB)(w:World)(hs:s.size<=2000000)(hp:lA w)(hm:uP w):
  Calls prog 92 #[n,aR s] w fun e w'=>∃ad i c,e=aQ (aS #[aM #[(BH n s),aD ad i c],aG (qX n s)])/\bB 3 w w' (aD ad i c) (zI n s)/\Below w w w':=by
 obtain⟨W1,N⟩:=aW (w.alloc (.cells #[aK,()] 29));have e8:=kD n 0 6 W1;have K0:bK W1 w 29 #[aK,()]:=jV N;have B0:Below w w W1:=jP N;have b9:W1.heap.size=w.heap.size+1:=by rw[N];simp
 cases hn:fN n 0 6 with
 |false=>rw[hn]at e8;have z:=ad0 (s:=s) hn;have K:=aT (And.intro z (NE z));have HW:=aT e8;have G:=K0.cell;have F:=K0.frozen;clear hn e8 z;go_enter func92,ntmps92;go_wp2_with fail;rw[<-N];clear N;refine aV HW.out ?_;rintro w1 rfl;go_wp2;refine cT ?_;intro Wf J;have t:=kS (w:=w) (E:=29) (m:=0) (b:=aD none 0 0) K0 (bB.nil 3 (W1.heap.size) W1) aU aA B0 J;have GF:=t.1.cell;exact akO
 |true=>
 rw[hn]at e8;have HW:=aT e8;obtain⟨V,hV⟩:=aW (W1.alloc (.cells #[n,()] 29));have b3:bK V w 29 #[aK,()]:=by rw[hV];exact K0.alloc _
 have f5:bK V (w+1) 29 #[n,()]:=by rw[hV,<-b9];exact bK.new _ _ _
 have BV:Below w w V:=by rw[hV];exact B0.alloc aA _
 have c5:V.heap.size=w.heap.size+2:=by rw[hV];simp;omega
 have HZ:=aT (And.intro b9 c5);have l8:w.heap.size+1<=W1.heap.size:=aA;by_cases hd:s=gT
 .subst hd;have HD:=aT (NF hn);have l6:(gT.toList==[110,111,110,101])=true:=by rw[show([110,111,110,101]:List UInt8)=gT.toList from dS,dR];simp
  have G0:=b3.cell;have F0:=b3.frozen;have G1:=f5.cell;clear hn e8 b9 c5;go_enter func92,ntmps92;go_wp2_with fail;rw[<-N];clear N;refine aV HW.out ?_;rintro w1 rfl;go_upto_region 4 with fail;rw[<-hV,HZ.out.1];clear hV;go_wp2_with fail;refine cT ?_;intro Wf J;have t:=kS (w:=w) (E:=29) (m:=n) (b:=aD none 0 0) b3 (bB.nil 3 (V.heap.size) V) aU (by have:=HZ.out;omega) BV J;have GF:=t.1.cell;exact bW (v:=aS #[aM #[n,()],aG true]) (by simp[results,results92,go_sem,GF]) rfl ⟨none,0,0,by rw[HD.out.1,HD.out.2.1],by rw[HD.out.2.2];exact t.2.1,t.2.2⟩
 have l6:(s.toList==[110,111,110,101])=false:=by rw[show([110,111,110,101]:List UInt8)=gT.toList from dS,dR,bG hd]
 have a1:=aaI (n:=n) hd;have a6:=aaJ hn hd;have a9:=aaL (n:=n) hd;have g9:=xP 124 s;have O:=pJ 124 s;have b0:=H9 124 s V (hm.keep (by rw[hV,N];exact wU _ _ _)) aA;obtain⟨D,h5⟩:=aW (dK 124 s);rw[<-h5]at a1 a6 a9 g9 O b0;rw[c5]at b0;have f7:=aT a1;have f8:=aT a6;have g2:=aT a9;have c8:=aT O;have g0:=aT b0;clear a1 a6 a9 O b0 h5 hd hn e8;go_enter func92,ntmps92;go_wp2_with fail;rw[<-N];clear N;refine aV HW.out ?_;rintro w1 rfl;go_upto_region 4 with fail;rw[<-hV];clear hV b9 c5;go_wp2_with fail;refine aV g0.out ?_;rintro w1 rfl;have e5:bK (V.alloc (.cells (D.map Value.string).toArray 9)) (w.heap.size+2) 9 (D.map Value.string).toArray:=by rw[<-HZ.out.2];exact bK.new _ _ _
 have c9:=b3.alloc (.cells (D.map Value.string).toArray 9);have e4:=f5.alloc (.cells (D.map Value.string).toArray 9);have BU:=BV.alloc BV.size (.cells (D.map Value.string).toArray 9);have o0:=bB.nil 3 (w.heap.size+3) (V.alloc (.cells (D.map Value.string).toArray 9));have zU:w.heap.size+3<=(V.alloc (.cells (D.map Value.string).toArray 9)).heap.size:=by have:=HZ.out.2;simp;omega
 obtain⟨U,hU⟩:=aW (V.alloc (.cells (D.map Value.string).toArray 9));rw[<-hU]at e5 c9 e4 BU o0 zU |-;clear hU HW g0 l6 b3 f5 BV K0 B0;go_wp2_with fail;go_loopw [23] (fun iv wr=>∃(k:Nat) (ad:Option Addr) (i c:Nat),k<=D/\iv=aO k/\(D.take k).all (mU n)=true/\Below w w wr/\w.heap.size+3<=wr.heap.size/\bK wr w 29 #[aK,()]/\bK wr (w+1) 29 #[n,aD ad i c]/\bK wr (w+2) 9 (D.map Value.string).toArray/\bB 3 (w.heap.size+3) wr (aD ad i c) ((D.take k).map (pP n))) (fun iv _=>D.length-(intOf iv).toNat)
 .exact⟨0,none,0,0,aZ _,rfl,rfl,BU,zU,c9,e4,e5,o0⟩
 obtain⟨k,ad,i,c,hk,rfl,M,Bw,zw,d0,b4,g5,ow⟩:=hrel;have b1:=aT M;clear M BU zU c9 e4 e5 o0;by_cases hlt:k<D
 .have h0:(k:Int)<(D.length:Int):=aA;have Y:=IG g5 k hlt;have h9:=fun W=>mE (w.heap.size+2) D.length D.length k hlt W;have k0:=c8.out _ (aX hlt);have R:(D.take (k+1)).all (mU n)=mU n D[k]:=by rw[cH hlt,List.all_append,b1.out];simp
  have a7:=uK (mU n) D k hlt;have a8:=aaY n D k hlt;obtain⟨x,hx⟩:=aW (D[k]);rw[<-hx]at Y k0 R a7 a8;have S:=alZ n x wr aA (hp.keep Bw) (hm.keep Bw);have n0:=alY n x;obtain⟨y,hy⟩:=aW (pP n x);rw[<-hy]at S n0 a8;have h6:fM y:=⟨aA,aA⟩;have e6:((D.take k).map (pP n)).length<=2000001:=by rw[List.length_map,List.length_take];omega
  obtain⟨l,hl⟩:=aW ((D.take k).map (pP n));rw[<-hl]at ow a8 e6;have j4:=aT R;have f9:=aT a7;have k8:=aT a8;clear R a7 a8 hx hy hl
  cases z:mU n x with
  |false=>rw[z]at S;have e7:=f7.out (f9.out z);have K:=aT (And.intro e7 (NE e7));have f4:=aT S;clear S z e7;go_wp2_with fail;refine aV f4.out ?_;intro w2 b2;have I:=d0.keep b2;have B2:=Bw.after b2 Bw.size;have G:=I.cell;have F:=I.frozen;clear Y h9;go_wp2;refine cT ?_;intro Wf J;have t:=kS (w:=w) (E:=29) (m:=0) (b:=aD none 0 0) I (bB.nil 3 (w2.heap.size) w2) aU I.lt B2 J;have GF:=t.1.cell;clear J G F;exact akO
  |true=>rw[z]at S;have R:=j4.out;rw[z]at R;have i6:=aT R;have f4:=aT S;clear S z R;exact ai1
 .have h0:¬(k:Int)<(D.length:Int):=aA;have g8:k=D.length:=aA;have M:=b1.out;rw[g8,List.take_length]at M ow;have b6:=f8.out M;have b8:=g2.out;have b7:=NE (n:=n) (s:=s);have e6:(D.map (pP n)).length<=2000001:=by rw[List.length_map];omega
  obtain⟨l,hl⟩:=aW (D.map (pP n));rw[<-hl]at ow b6 b8 e6;have j8:=eP n l _ wr ow.ints;rw[<-b6]at j8;have j9:=ow.ints.capLe.1;subst j9;have j5:=aT b8;have j3:=aT b7;have m4:=aT j8;have G1:=b4.cell;clear g8 M b6 b8 b7 j8 hl;go_wp2_with fail;refine aV m4.out ?_;intro w2 b2;have I:=d0.keep b2;have e0:=b4.keep b2;have o2:=ow.keep b2;have B2:=Bw.after b2 Bw.size;clear G1;have G0:=I.cell;have F0:=I.frozen;have G1:=e0.cell
  cases z:qX n s with
  |false=>have K:=aT (j3.out z);have Z:=aT z;clear z;go_wp2;refine cT ?_;intro Wf J;have t:=kS (w:=w) (E:=29) (m:=0) (b:=aD none 0 0) I (bB.nil 3 (w2.heap.size) w2) aU I.lt B2 J;have GF:=t.1.cell;clear J G0 F0 G1;exact bW (v:=aS #[aM #[aK,()],aG false]) (by simp[results,results92,go_sem,GF]) rfl ⟨none,0,0,by rw[K.out.1,Z.out],by rw[K.out.2];exact t.2.1,t.2.2⟩
  |true=>have K:=aT (j5.out z);have Z:=aT z;clear z;go_wp2;refine cT ?_;intro Wf J;have t:=kS (w:=w) (E:=29) (m:=n) (b:=aD ad l c) I o2 aU aA B2 J;have GF:=t.1.cell;clear J G0 F0 G1;exact bW (v:=aS #[aM #[n,aD ad l c],aG true]) (by simp[results,results92,go_sem,GF]) rfl ⟨_,_,_,by rw[K.out.1,Z.out],by rw[K.out.2];exact t.2.1,t.2.2⟩
theorem auS{n:Int}{s:aB}(h:(dK 124 s).all (mU n)=true):fN n 0 6=true:=by
 cases D:fN n 0 6 with
 |true=>rfl
 |false=>
  have z:=adH 124 s
  cases hc:dK 124 s with
  |nil=>exact absurd hc z
  |cons x r=>
   rw[hc,List.all_cons,TX D]at h
   cases h
theorem aqS:cO n []=fN n 0 6:=by
 unfold cO gE CX;simp
theorem aaK:qX n gT=fN n 0 6:=by
 cases z:fN n 0 6 with
 |true=>exact(NF z).1
 |false=>exact ad0 z
theorem adG{c:UInt8}{s:aB}{D:List aB}{j:Nat}{P:aB}{k:Nat}(z:rR c s D j P k):j<=D:=by
 refine Nat.le_of_not_lt fun F=>?_;have h1:=z.1;rw[List.drop_eq_nil_of_le aA]at h1;exact CQ _ _ _ (List.map_eq_nil_iff.1 h1.symm)
theorem apP{p:Prop}(h:p:=by
  obtain⟨b6,hg,c7⟩:=z;have k2:=e4.out _ (aX b6);have c9:M[j]=P:=by rw[<-vG M j b6];exact hg
  rw[c9]at k2;have a7:(M.take (j+1)).all (mU n)=mU n P:=by rw[cH b6,List.all_append,a9.out,c9];simp
  have b5:=uK (mU n) M j b6;have b8:=aaY n M j b6;rw[c9]at b5 b8;have Y:=al0 n P wr aA;have j6:=alY n P;obtain⟨y,hy⟩:=aW (pP n P);rw[<-hy]at Y j6 b8;have k3:fM y:=⟨aA,aA⟩;have k1:((M.take j).map (pP n)).length<=2000001:=by rw[List.length_map,List.length_take];omega
  obtain⟨l,hl⟩:=aW ((M.take j).map (pP n));rw[<-hl]at ow b8 k1;have j3:=aT a7;have f9:=aT b5;have j2:=aT b8;have g0:=aT c7;clear a7 b5 b8 hy hl hg c9 c7
  cases D:mU n P with
  |false=>rw[D]at Y;have f2:=f6.out (f9.out D);have N:=aT (And.intro f2 (NE f2));have e5:=aT Y;clear Y D f2;go_wp2_with fail;refine aV e5.out ?_;intro w2 b2;have I:=a1.keep b2;have B2:=Bw.after b2 Bw.size;have G:=I.cell;have F:=I.frozen;go_wp2;refine cT ?_;intro Wf O;have t:=kS (w:=w) (E:=29) (m:=0) (b:=aD none 0 0) I (bB.nil 3 (w2.heap.size) w2) aU I.lt B2 O;have GF:=t.1.cell;clear O G F;exact bW (v:=aS #[aM #[aK,()],aG false]) (by simp[results,results122,go_sem,GF]) rfl ⟨none,0,0,by rw[N.out.1,N.out.2.1],by rw[N.out.2.2];exact t.2.1,t.2.2⟩
  |true=>
   rw[D]at Y;have a7:=j3.out;rw[D]at a7;have g2:=aT a7;have e5:=aT Y;clear Y D a7;go_wp2_with fail;refine aV e5.out ?_;intro w2 b2;have I:=a1.keep b2;have b1:=R.keep b2;have o2:=ow.keep b2;have B2:=Bw.after b2 Bw.size;have z2:=b2.size;have G:=b1.cell;have F:=b1.frozen;have b7:=o2.lt;clear Bw a1 R ow b2;go_wp2_with (at_builtin;refine eF rfl _ _ _ rfl 3 underlying25 intElem (w.heap.size+2) _ l y w2.heap.size rfl rfl (cR _ _ _ _ _ rfl) (o2.alloc _) k3 aA bO ?_;intro v7 w7 o7 g7;obtain⟨p7,i7,q7,rfl⟩:=o7.shape3;have e7:=(b1.alloc (.cells #[y] 3)).grow g7 (by intro e;have:=(b7 _ e).1;omega);have G7:=e7.cell;have F7:=e7.frozen);have j5:=(I.alloc (.cells #[y] 3)).grow g7 (by intro e;have:=(b7 _ e).1;omega);have B7:Below w w w7:=(B2.alloc B2.size (.cells #[y] 3)).grown g7 (by have:=B2.size;simp;omega) (fun q hq=>by have:=(b7 q hq).1;omega);have z7:=g7.size;simp at z7;go_roundw
   .refine⟨j+1,k+1,_,p7,i7,q7,cD,rfl,g2.out,g0.out,bX B7 (by show w.heap.size<=w.heap.size+1;omega) _,by show w.heap.size+2<=(w7.setCell _ _).heap.size;simp;omega,j5.far (by show w.heap.size≠w.heap.size+1;omega) _,?_,?_⟩
    .have:=e7.set 1 (aD p7 i7 q7);simpa using this
    .rw[j2.out];exact o7.setBelow (by show w.heap.size+1<w.heap.size+2;omega) _
   exact aY):p:=h
theorem ai4{p:Prop}(h:p:=by
  have e9:=eA n l _ wr ow.ints;rw[<-a6]at e9;have j4:=aT a8;have j1:=aT Z;have j0:=aT e9;have G1:=R.cell;clear a6 a8 Z e9;go_wp2_with fail;refine aV j0.out ?_;intro w2 b2;have I:=a1.keep b2;have b1:=R.keep b2;have o2:=ow.keep b2;have B2:=Bw.after b2 Bw.size;clear G1;have G0:=I.cell;have F0:=I.frozen;have G1:=b1.cell
  cases D:qX n s with
  |false=>have N:=aT (j1.out D);have b0:=aT D;clear D;go_wp2;refine cT ?_;intro Wf O;have t:=kS (w:=w) (E:=29) (m:=0) (b:=aD none 0 0) I (bB.nil 3 (w2.heap.size) w2) aU I.lt B2 O;have GF:=t.1.cell;clear O G0 F0 G1;exact bW (v:=aS #[aM #[aK,()],aG false]) (by simp[results,results122,go_sem,GF]) rfl ⟨none,0,0,by rw[N.out.1,b0.out],by rw[N.out.2];exact t.2.1,t.2.2⟩
  |true=>
   have N:=aT (j4.out D);have b0:=aT D;clear D;go_wp2;refine cT ?_;intro Wf O;have t:=kS (w:=w) (E:=29) (m:=n) (b:=aD ad l c) I o2 aU aA B2 O;have GF:=t.1.cell;clear O G0 F0 G1;exact bW (v:=aS #[aM #[n,aD ad l c],aG true]) (by simp[results,results122,go_sem,GF]) rfl ⟨_,_,_,by rw[N.out.1,b0.out],by rw[N.out.2];exact t.2.1,t.2.2⟩):p:=h
theorem alT(s:aB)(w:World)(hs:s.size<=2000000):
  Calls prog 122 #[n,aR s] w fun e w'=>∃ad i c,e=aQ (aS #[aM #[(BH n s),aD ad i c],aG (qX n s)])/\bB 3 w w' (aD ad i c) (zI n s)/\Below w w w':=by
 obtain⟨V,hV⟩:=aW ((w.alloc (.cells #[aK,()] 29)).alloc (.cells #[n,()] 29));have e6:bK V w 29 #[aK,()]:=iQ hV;have c8:bK V (w+1) 29 #[n,()]:=by rw[hV];have:=bK.new (w.alloc (.cells #[aK,()] 29)) 29 #[n,()];simpa using this
 have BV:Below w w V:=iJ hV;have h7:w.heap.size+2<=V.heap.size:=by rw[hV];simp
 have o0:=bB.nil 3 (w.heap.size+2) V;by_cases hd:s=gT
 .subst hd;have h6:(gT.toList==[110,111,110,101])=true:=by rw[show([110,111,110,101]:List UInt8)=gT.toList from dS,dR];simp
  have a6:qX n gT=cO n []:=by rw[aaK,aqS]
  have a8:qX n gT=true->BH n gT=n/\zI n gT=[]:=fun h=>(NF (by rw[<-aaK];exact h)).2;have Z:=NE (n:=n) (s:=gT);obtain⟨s,h5⟩:=aW gT;rw[<-h5]at h6 a6 a8 Z |-;clear h5 hs;go_enter func122,ntmps122;go_upto_region 2 with fail;rw[<-hV];clear hV;go_wp2_with fail;go_loopw [7,8] (fun _ iv wr=>iv=aO 0/\wr=V) (fun _ _ _=>0)
  .exact⟨rfl,rfl⟩
  obtain⟨rfl,rfl⟩:=hrel;obtain⟨l,hl⟩:∃l:aI,l=[]:=⟨_,rfl⟩;obtain⟨ad,c,R,ow⟩:∃ad c,bK wr (w+1) 29 #[n,aD ad l c]/\bB 3 (w.heap.size+2) wr (aD ad l c) l:=⟨none,0,by rw[hl];exact c8,by rw[hl];exact o0⟩;rw[<-hl]at a6 a8;have Bw:=BV;have a1:=e6;clear hl c8 o0;have G1:=R.cell;exact ai4
 have h6:(s.toList==[110,111,110,101])=false:=by rw[show([110,111,110,101]:List UInt8)=gT.toList from dS,dR,bG hd]
 have b3:=aaI (n:=n) hd;have b4:=fun h=>aaJ (n:=n) (s:=s) (auS h) hd h;have b9:=aaL (n:=n) hd;have g6:=xP 124 s;have S:=pJ 124 s;have e8:=MY 124 s;obtain⟨M,h0⟩:=aW (dK 124 s);rw[<-h0]at b3 b4 b9 g6 S e8;have f6:=aT b3;have f8:=aT b4;have g4:=aT b9;have e4:=aT S;have f7:=aT e8;clear b3 b4 b9 S e8 h0 hd;go_enter func122,ntmps122;go_upto_region 2 with fail;rw[<-hV];clear hV;go_wp2_with fail;go_loopw [7,8] (fun pv iv wr=>∃(j k:Nat) (P:aB) (ad:Option Addr) (i c:Nat),iv=aO k/\pv=aR P/\(M.take j).all (mU n)=true/\(rR 124 s M j P k\/(k=s.size+1/\j=M.length))/\Below w w wr/\w.heap.size+2<=wr.heap.size/\bK wr w 29 #[aK,()]/\bK wr (w+1) 29 #[n,aD ad i c]/\bB 3 (w.heap.size+2) wr (aD ad i c) ((M.take j).map (pP n))) (fun _ iv _=>s.size+1-(intOf iv).toNat)
 .exact⟨0,0,aN,none,0,0,rfl,rfl,rfl,.inl f7.out,BV,h7,e6,c8,o0⟩
 obtain⟨j,k,P,ad,i,c,rfl,rfl,K,J,Bw,zw,a1,R,ow⟩:=hrel;have a9:=aT K;clear K f7 BV e6 c8 o0 h7;rcases J with J|⟨j9,g5⟩
 .have l5:=J.2.1;have l4:=J.2.2;have k0:(k:Int)<=(s.size:Int):=aA;have f0:=adG J;by_cases hlt:k<s.size
  .have g8:(k:Int)<(s.size:Int):=aA;by_cases hc:s[k]=124
   .have j7:((s[k].toNat:Int) != 124)=false:=SE hc;have z:=AX J hlt hc;have z:j<M/\M.getD j aN=P/\(rR 124 s M (j+1) aN (k+1)\/(k+1=s.size+1/\j+1=M.length)):=⟨z.1,z.2.1,.inl z.2.2⟩;clear J hc f0;exact apP
   .have j7:((s[k].toNat:Int) != 124)=true:=SF hc;have g9:=CF J hlt hc;have hz:=DM P s k hlt;have c7:=aT g9;have l9:P.size+1<=s.size:=aA;clear J hc g9 f0 hz;go_wp2;go_roundw
    .exact⟨j,k+1,_,ad,i,c,cD,rfl,a9.out,.inl c7.out,Bw,zw,a1,R,ow⟩
    exact aY
  .have g8:¬(k:Int)<(s.size:Int):=aA;have z:=AY J hlt;have z:j<M/\M.getD j aN=P/\(rR 124 s M (j+1) aN (k+1)\/(k+1=s.size+1/\j+1=M.length)):=⟨z.1,z.2.1,.inr ⟨aA,z.2.2⟩⟩;clear J f0;exact apP
 .have k0:¬(k:Int)<=(s.size:Int):=aA;have K:=a9.out;rw[g5,List.take_length]at K ow;have a6:=f8.out K;have a8:=g4.out;have Z:=NE (n:=n) (s:=s);obtain⟨l,hl⟩:=aW (M.map (pP n));rw[<-hl]at ow a6 a8;clear j9 g5 K hl;have j8:=ow.ints.capLe.1;subst j8;exact ai4
end
section
open Go.Shelf Go.Proofs.Tryz
theorem abJ{α:Type}{a b:α}(h:a=b:=by kernel_rfl):some a=some b:=congrArg some h
set_option maxRecDepth 100000
def T4:Go.Shelf.Ren:=⟨fun|125=>131|128=>173|129=>174|n=>n,fun|46=>117|3=>3|51=>139|53=>141|4=>4|5=>5|9=>9|n=>n,fun|n=>n⟩
theorem agC:Go.Proofs.Lays.n125 Tryz.prog T4:={
 mixed:=by kernel_rfl
 f125:=func131.trans abJ
 f128:=func173.trans abJ
 f129:=func174.trans abJ
 t3:=underlying3
 a3:=isAgg3
 z3:=sizeOf3
 v3:=zeroValue3
 t4:=underlying4
 a4:=isAgg4
 z4:=sizeOf4
 v4:=zeroValue4
 t5:=underlying5
 a5:=isAgg5
 z5:=sizeOf5
 v5:=zeroValue5
 t9:=underlying9
 a9:=isAgg9
 z9:=sizeOf9
 v9:=zeroValue9
 t46:=underlying117
 a46:=isAgg117
 z46:=sizeOf117
 v46:=zeroValue117
 t51:=underlying139
 a51:=isAgg139
 z51:=sizeOf139
 v51:=zeroValue139
 t53:=underlying141
 a53:=isAgg141
 z53:=sizeOf141
 v53:=zeroValue141 }
theorem acX(x:Int)(w:World)(z:0<=x)(h1:x<=18446744073709551615):
 Calls Tryz.prog 131 #[.int .u64 x] w fun e w'=>e=.returned (.int .i64 (Lib.bitLen x.toNat))/\w'=w:=Any.bits_Len agC x w z h1
end
section
open Go.RowKit Go.G5 Go.Proofs.Tryz
def BC(m:Nat):Int:=(Lib.bitLen m:Int)-1
theorem as5:∀n:Nat,n<6->Lib.bitLen (2^n)=n+1:=dS
theorem XM:∀m:Nat,m<256->Lib.bitLen m<=8:=dS
theorem as4(m:Nat)(h:m<256):-1<=BC m/\BC m<=7:=by
 have:=XM m h;unfold BC;omega
theorem adT(n:Nat)(h:n<6):BC (2^n)=n:=by unfold BC;rw[as5 n h];omega
def mC(s:ByteArray):Bool:=decide (s.size<=200)&&((dK 44 s).all pB&&cS (BC (dK 44 s).length) ((dK 44 s).map pN))
def sI(s:ByteArray):Int:=if mC s then BC (dK 44 s).length else 0
def rW(s:ByteArray):List Int:=if mC s then (dK 44 s).map pN else []
theorem IJ{s:aB}(h:mC s=false):sI s=0/\rW s=[]:=by unfold sI rW;rw[h];exact⟨rfl,rfl⟩
theorem YM{s:aB}(h:mC s=true):sI s=BC (dK 44 s).length/\rW s=(dK 44 s).map pN:=by unfold sI rW;rw[h];exact⟨rfl,rfl⟩
theorem adM{s:aB}(h:¬s.size<=200):mC s=false:=by unfold mC;rw[bG h];rfl
theorem ahU{s:aB}(h:(dK 44 s).all pB=false):mC s=false:=by unfold mC;rw[h];simp
theorem YL{s:aB}(z:s.size<=200)(h:(dK 44 s).all pB=true):mC s=cS (BC (dK 44 s).length) ((dK 44 s).map pN):=by
 unfold mC;rw[h,bH z];simp
theorem asX{s:aB}(h:mC s=true):cS (sI s) (rW s)=true:=by
 obtain⟨h1,h2⟩:=YM h;rw[h1,h2];unfold mC at h;simp only[Bool.and_eq_true]at h;exact h.2.2
theorem aqT{s:aB}(F:s.size<=200)(h:(dK 44 s).all pB=true)(D:∀n:Nat,n<6->(dK 44 s).length≠2^n):mC s=false:=by
 rw[YL F h]
 cases z:cS (BC (dK 44 s).length) ((dK 44 s).map pN) with
 |false=>rfl
 |true=>obtain⟨N,_,I,hl,_⟩:=eJ z;rw[List.length_map]at hl;exact absurd hl (D N aA)
theorem ad9(z:List aB)(k:Nat)(h:k<z):(z.take (k+1)).map pN=(z.take k).map pN++[pN z[k]]:=by
 rw[cH h,List.map_append];rfl
theorem adO{n:Int}{l:aI}(h:cS n l=true):l.length<=32:=by
 obtain⟨_,_,_,_,z,_⟩:=eJ h;exact z
def jA(n:Int)(l:List Int):ByteArray:=if cS n l=true then dL jE (l.map dB) else ByteArray.empty
theorem vY(n:Int)(l:aI):(jA n l).size<=704:=by
 unfold jA
 split
 .rename_i h
  obtain⟨N,_,_,_,D,z⟩:=eJ h;have:=uN l (fun x F=>by
   obtain⟨k,hk,rfl⟩:=List.mem_iff_getElem.1 F;have:=z k hk;exact⟨aA,aA⟩)
  omega
 .simp
theorem EV(n:Int)(l:aI)(v:Value)(w:World)(O:Ints w v l)(Z:lA w):
  aH 178 #[aM #[n,v]] w (aR (jA n l)):=by
 have I:=O;obtain⟨a,c,rfl⟩:=O.shape;have S:=bK.new w 27 #[n,aD a l c];go_enter func178,ntmps178;go_wp2_with fail;refine aV (fO n l _ _ (I.alloc _)) ?_;intro w1 D;have Y:=S.keep D;have z:Below w w w1:=(cQ _ _).after D bF;have G1:=Y.cell
 cases F:cS n l with
 |false=>
  have J:jA n l=aN:=by unfold jA;rw[F];rfl
  have K:=aT J;clear J F;go_wp2;go_ret;exact⟨dA K.out.symm,z⟩
 |true=>
  have J:jA n l=dL jE (l.map dB):=by unfold jA;rw[if_pos F]
  have M:=adO F;have R:=aT (xH l _ w1 (I.below z aU) aA (Z.keep z));have K:=aT J;clear J F M;go_wp2_with fail;refine aV R.out ?_;intro w2 N;go_wp2;go_ret;exact⟨dA K.out.symm,z.after N z.size⟩
theorem EW(n:Int)(l:aI)(v:Value)(w:World)(hv:Ints w v l):
  aH 7 #[aM #[n,v]] w (aR (jA n l)):=by
 have b5:=hv;have a9:=hv.inR;obtain⟨a,b,f5,c,rfl,b1,b0,hc,hb⟩:=hv.vw;have K0:=bK.new w 27 #[n,aD a l c];have HC:=aT hc;have Y:=aT a9;have b9:=aT b0;clear hc a9 b0 b1
 cases N:cS n l with
 |false=>
  have J:jA n l=aN:=by unfold jA;rw[N];rfl
  have HX:=aT J;have HF:=aT N;clear J N;go_enter func7,ntmps7;go_wp2_with fail;go_loopw [3,4] (fun sv iv wr=>iv=aO 0/\sv=.string ⟨#[]⟩/\Below w w wr/\bK wr w 27 #[n,aD a l c]) (fun _ _ _=>0)
  .exact⟨rfl,rfl,cQ _ _,K0⟩
  obtain⟨rfl,rfl,B,K⟩:=hrel;have G1:=K.cell;go_wp2_with fail;refine aV (fD n l _ _ (b5.below B aU)) ?_;intro w1 z;rw[HF.out];go_wp2;go_ret;exact⟨dA HX.out.symm,B.after z B.size⟩
 |true=>
  have J:jA n l=dL jE (l.map dB):=by unfold jA;rw[if_pos N]
  have d0:=adO N;have hl:l.length<=1000:=aA;have HX:=aT J;have HF:=aT N;clear J N d0;go_enter func7,ntmps7;go_wp2_with fail;go_loopw [3,4] (fun sv iv wr=>∃(k:Nat) (S:aB),k<=l/\iv=aO k/\sv=aR S/\S=dL jE ((l.take k).map dB)/\Below w w wr/\bK wr w 27 #[n,aD a l c]) (fun _ iv _=>l.length-(intOf iv).toNat)
  .exact⟨0,_,aZ _,rfl,rfl,rfl,cQ _ _,K0⟩
  obtain⟨k,S,hk,rfl,rfl,F,B,K⟩:=hrel;obtain⟨wz,rfl⟩:∃q:World,q=wr:=⟨_,rfl⟩;have HS:=aT F;clear F K0;have G1:=K.cell;go_wp2_with fail;refine aV (fD n l _ _ (b5.below B aU)) ?_;intro w1 z;rw[HF.out];have K:=K.keep z;have B:=B.after z B.size;clear G1 z;have G1:=K.cell;have F:=HS.out;have f2:S.size<=22000:=by rw[F];exact AL l k Y.out hl hk
  by_cases hlt:k<l
  .have b4:(k:Int)<(l.length:Int):=aA;have e5:=bY HC.out hb B aU k hlt;have f4:=fun W=>b9.out W k hlt;have D:=ET l k hlt;have O:=Y.out l[k] (aX hlt);rw[<-F]at D;have M:k=0->S=aN:=fun h=>by rw[F,h];rfl
   obtain⟨x,J⟩:=aW (l[k]);rw[<-J]at e5 D O;have hT:=eB x O;have hF:=iL x O w1;obtain⟨T,a7⟩:=aW (dB x);rw[<-a7]at D hT hF;have R:=aT hF;have Z:=aT D;clear hF D J a7 F HS;by_cases I:k=0
   .have e4:=M I;subst e4;have c5:=aT I;have e6:¬0<(k:Int):=aA;have a8:¬0<k:=aA;clear M I;go_wp2_with fail;refine aV R.out ?_;intro w3 b3;have B:=B.after b3 B.size;have K:=K.keep b3;go_wp2;go_roundw
    .exact⟨k+1,_,aA,cD,rfl,by rw[Z.out,if_pos c5.out],B,K⟩
    exact aY
   .have e6:0<(k:Int):=aA;have a8:0<k:=aA;have f0:(S++jE).size<=22001:=by rw[gW];show S.size+1<=22001;omega
    clear M;go_wp2_with fail;refine aV R.out ?_;intro w3 b3;have B:=B.after b3 B.size;have K:=K.keep b3;go_wp2;go_roundw
    .exact⟨k+1,_,aA,cD,rfl,by rw[Z.out,if_neg I];rfl,B,K⟩
    exact aY
  .have b4:¬(k:Int)<(l.length:Int):=aA;have a6:jA n l=S:=by rw[HX.out,F,show k=l.length from aA,List.take_length]
   have c7:=aT a6;clear a6 F HS;go_wp2;go_ret;exact⟨dA c7.out.symm,B⟩
theorem lV(g:Int)(l:aI)(v:Value)(w:World)(hv:Ints w v l):
  aH 9 #[aM #[g,v]] w (aR (eG g l)):=by
 have J:=hv;obtain⟨a,b,f6,c,rfl,c6,c5,hc,hb⟩:=hv.vw;have K0:=bK.new w 29 #[g,aD a l c];have HC:=aT hc;have e5:=aT c5;clear hc c5 c6
 cases R:cO g l with
 |false=>
  have hx:eG g l=aN:=by unfold eG;rw[R];rfl
  have HX:=aT hx;have HF:=aT R;clear hx R;go_enter func9,ntmps9;go_wp2_with fail;go_loopw [3,4] (fun sv iv wr=>iv=aO 0/\sv=.string ⟨#[]⟩/\Below w w wr/\bK wr w 29 #[g,aD a l c]) (fun _ _ _=>0)
  .exact⟨rfl,rfl,cQ _ _,K0⟩
  obtain⟨rfl,rfl,B,K⟩:=hrel;have G1:=K.cell;by_cases D:0<l.length
  .have f5:(0:Int)<(l.length:Int):=aA;go_wp2_with fail;refine aV (eA g l _ _ (J.below B aU)) ?_;intro w1 z;rw[HF.out];have K:=K.keep z;have B:=B.after z B.size;clear G1;have G1:=K.cell;go_wp2_with fail;refine aV (eA g l _ _ (J.below B aU)) ?_;intro w2 F;rw[HF.out];go_wp2;go_ret;exact⟨dA HX.out.symm,B.after F B.size⟩
  .have f5:¬(0:Int)<(l.length:Int):=aA;go_wp2_with fail;refine aV (eA g l _ _ (J.below B aU)) ?_;intro w2 F;rw[HF.out];go_wp2;go_ret;exact⟨dA HX.out.symm,B.after F B.size⟩
 |true=>
  have e9:=kZ R;have c8:eG g l=if l=[] then gT else dL AN (l.map (dH g)):=by unfold eG;rw[if_pos R]
  have O:(dL AN (l.map (dH g))=aN)=(l=[]):=amR g l (asW R);have e4:=aT O;have b4:=aT c8;have HF:=aT R;clear c8 R O;go_enter func9,ntmps9;go_wp2_with fail;go_loopw [3,4] (fun sv iv wr=>∃(k:Nat) (S:aB),k<=l/\iv=aO k/\sv=aR S/\S=dL AN ((l.take k).map (dH g))/\Below w w wr/\bK wr w 29 #[g,aD a l c]) (fun _ iv _=>l.length-(intOf iv).toNat)
  .exact⟨0,_,aZ _,rfl,rfl,rfl,cQ _ _,K0⟩
  obtain⟨k,S,hk,rfl,rfl,Z,B,K⟩:=hrel;obtain⟨wz,rfl⟩:∃q:World,q=wr:=⟨_,rfl⟩;have g6:S.size<=22000:=by rw[Z];exact ag8 g l k e9 hk
  have HS:=aT Z;clear Z K0;have G1:=K.cell;by_cases hlt:k<l
  .have c7:(k:Int)<(l.length:Int):=aA;go_wp2_with fail;refine aV (eA g l _ _ (J.below B aU)) ?_;intro w1 z;rw[HF.out];have K:=K.keep z;have B:=B.after z B.size;clear G1 z;have Z:=HS.out;have a6:=bY HC.out hb B aU k hlt;have g8:=fun W=>e5.out W k hlt;have I:=ag7 g l k hlt;rw[<-Z]at I;have a1:k=0->S=aN:=fun h=>by rw[Z,h];rfl
   obtain⟨x,hx⟩:=aW (l[k]);rw[<-hx]at a6 I;have hT:=gN g x;have hF:=fun y:Ext w1=>kL g x y.w;obtain⟨T,b8⟩:=aW (dH g x);rw[<-b8]at I hT hF;have b1:=aT hF;have b5:=aT I;have f0:=K.cell 0;have f1:=K.cell 1;simp only[List.getElem?_toArray,List.getElem?_cons_zero,List.getElem?_cons_succ]at f0 f1;have q0:∀y:Ext w1,y.w.cell? ⟨w,0,none⟩=some (aO g):=fun y=>y.cell f0;have q1:∀y:Ext w1,y.w.cell? ⟨w,1,none⟩=some (aD a l c):=fun y=>y.cell f1;have qk:∀y:Ext w1,y.w.cell? ⟨b,f6+k,none⟩=some (aO x):=fun y=>y.cell a6;clear hF I hx b8 Z HS f0 f1 a6;by_cases N:k=0
   .have f3:=a1 N;subst f3;have e6:=aT N;have f4:¬0<(k:Int):=aA;have b9:¬0<k:=aA;clear a1 N;go_wp2_with fail;refine cW _ bM bM ?_
    repeat(first|go_big_quiet_skip|(go_big_quiet_want;go_big_quiet_op;first|go_big_quiet_on|(apply Exists.intro;refine⟨fun _=>?_,?_⟩;(go_at_call 22;with_reducible exact dI (b1.out _));go_big_quiet_on)))
    refine wpQuiet_nil ?_;rintro w3 ⟨⟨w3,b3⟩,rfl⟩
    try dsimp only
    have B:=B.after b3 B.size;have K:=K.keep b3;go_wp2;go_roundw
    .exact⟨k+1,_,aA,cD,rfl,by rw[b5.out,if_pos e6.out],B,K⟩
    exact aY
   .have f4:0<(k:Int):=aA;have b9:0<k:=aA;have g5:(S++AN).size<=22001:=by rw[gW];show S.size+1<=22001;omega
    clear a1;go_wp2_with fail;refine cW _ bM bM ?_
    repeat(first|go_big_quiet_skip|(go_big_quiet_want;go_big_quiet_op;first|go_big_quiet_on|(apply Exists.intro;refine⟨fun _=>?_,?_⟩;(go_at_call 22;with_reducible exact dI (b1.out _));go_big_quiet_on)))
    refine wpQuiet_nil ?_;rintro w3 ⟨⟨w3,b3⟩,rfl⟩
    try dsimp only
    have B:=B.after b3 B.size;have K:=K.keep b3;go_wp2;go_roundw
    .exact⟨k+1,_,aA,cD,rfl,by rw[b5.out,if_neg N];rfl,B,K⟩
    exact aY
  .have c7:¬(k:Int)<(l.length:Int):=aA;have M:S=dL AN (l.map (dH g)):=by rw[HS.out,show k=l.length from aA,List.take_length]
   have a8:=wG S;have a7:decide (S=aN)=decide (l=[]):=by rw[M];simp only[e4.out]
   rw[a7]at a8
   cases h0:decide (l=[]) with
   |true=>
    have D:eG g l=gT:=by rw[b4.out,if_pos (eD h0)]
    rw[h0]at a8;have Y:=aT D;clear h0 a7 M D HS;go_wp2_with fail;refine aV (eA g l _ _ (J.below B aU)) ?_;intro w2 F;rw[HF.out];go_wp2;go_ret;exact⟨dA Y.out.symm,B.after F B.size⟩
   |false=>
    have D:eG g l=S:=by rw[b4.out,if_neg (eZ h0)];exact M.symm
    rw[h0]at a8;have Y:=aT D;clear h0 a7 M D HS;go_wp2;go_ret;exact⟨dA Y.out.symm,B⟩
