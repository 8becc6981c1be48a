/- Lemmas for CardReports. No condition. -/
import Derived.Test.YtcpoomdoodlkjaaGreatDoorQ19
import Derived.Test.YtcpoomdoodlkjaaGreatDoorQ20
set_option maxRecDepth 100000
set_option maxHeartbeats 64000000
namespace Go.Proofs.YtcpoomdoodlkjaaGreatDoor
section
open Go.RowKit Go.G5 Go.Proofs.Tryz
theorem TN:∀s:Nat,s<32->bR s=0->s=0:=by decide +kernel
theorem TP:∀s:Nat,s<32->0<bR s->∃e,e<5/\(s.testBit e=true/\∃t,t<32/\(s=bU t e/\t.testBit e=false/\bR s=bR t+1)):=by decide +kernel
theorem uG{n:Int}{l:List Int}(h:dH n l=true):eU n l=true:=by
 unfold dH at h;simp only[Bool.and_eq_true]at h;exact h.1
theorem kK{n:Int}{l:List Int}(h:dH n l=true):bM n l=true:=pH (uG h)
theorem ag0{N:Nat}{l:List Int}(h:dH N l=true):∀s,s<2^N->l.getD s 0<=(bR s:Int):=by
 have F:=uG h;have hf:=kK h;obtain⟨_,R,h5,b3,a8,b4⟩:=cX hf;have R:=Int.ofNat.inj R;subst R;have Y:gR N l=true:=by unfold eU at F;simp only[Bool.and_eq_true]at F;exact F.2
 have h0:l.getD 0 0=0:=by unfold eU gE at F;simp only[Bool.and_eq_true,decide_eq_true_eq]at F;exact F.1.1.2
 have h1:∀e,e<N->l.getD (2^e) 0<=1:=fun e he=>by unfold dH at h;simp only[Bool.and_eq_true,Int.toNat_natCast]at h;have:=eK.1 h.2 e he;unfold wJ at this;simp only[Bool.not_eq_true',decide_eq_false_iff_not]at this;omega
 have hex:=(ag8 N l hf).1 Y;have J:∀s i k:Nat,s<2^N->i<k->k<N->dC s i=false->dC s k=false->0<=kM (jZ l) s i k:=fun s i k a b c d e=>by rw[agB];have:=hex s i k a b c d e;omega
 have I:∀s e,eA (jZ l) s e=- eA l s e:=fun s e=>by unfold eA;rw[DO,DO];omega
 have D:∀s e,s<2^N->e<N->s.testBit e=false->l.getD (bU s e) 0<=l.getD s 0+1:=fun s e a b c=>by
  have O:=abC N (jZ l) J 0 s e a b (fun j hj=>by simp at hj) c;rw[I,I]at O;have g2:=h1 e b;have e0:bU 0 e=2^e:=by unfold bU;simp
  unfold eA at O;rw[e0]at O;omega
 have key:∀m s,bR s=m->s<2^N->l.getD s 0<=(m:Int):=by
  intro m
  induction m with
  |zero=>intro s K z;have p5:(2:Nat)^N<=32:=Nat.pow_le_pow_right (n:=2) aY h5;have:s=0:=TN s aK K;subst this;rw[h0];simp
  |succ m ih=>
   intro s K z;have p5:(2:Nat)^N<=32:=Nat.pow_le_pow_right (n:=2) aY h5;obtain⟨e,he,hb,t,_,ht,Z,b5⟩:=TP s aK aK;have S:e<N:=by
    rcases Nat.lt_or_ge e N with h|h
    ·exact h
    ·have:=Nat.testBit_lt_two_pow (Nat.lt_of_lt_of_le z (Nat.pow_le_pow_right aY h));rw[this]at hb;cases hb
   have M:t<2^N:=by rw[ht]at z;exact Nat.lt_of_le_of_lt (by unfold bU;exact Nat.left_le_or) z
   have h2:=ih t aK M;have h3:=D t e M S Z;rw[<-ht]at h3;omega
 exact fun s Y=>key (bR s) s rfl Y
def lN(l:List Int):Int:=l.getD (l.length-1) 0
def kG(l:List Int)(s:Nat):Bool:=eO l s&&decide (l.getD s 0=lN l)
def tN(l:List Int)(s:Nat):Bool:=!eO l s
def jB(n:Int)(l:List Int):Int:=if dH n l then n else 0
def fL(n:Int)(l:List Int):List Int:=if dH n l then bW (kG l) l.length else []
def gK(n:Int)(l:List Int):List Int:=if dH n l then jC (bW (tN l) l.length) else []
theorem afT(l:List Int)(s:Nat):kG l s=(decide (l.getD s 0=lN l)&&decide ((bR s:Int)=lN l)):=by
 unfold kG eO;by_cases h1:l.getD s 0=lN l
 ·rw[decide_eq_true h1,Bool.and_true,Bool.true_and,h1];by_cases h2:lN l=(bR s:Int)
  ·rw[decide_eq_true h2,decide_eq_true h2.symm]
  ·rw[decide_eq_false h2,decide_eq_false (fun e=>h2 e.symm)]
 ·rw[decide_eq_false h1,Bool.and_false,Bool.false_and]
theorem afZ{N:Nat}{l:List Int}(h:dH N l=true)(s:Nat)(z:s<2^N):tN l s=decide (l.getD s 0<(bR s:Int)):=by
 have h1:=ag0 h s z;unfold tN eO;by_cases h2:l.getD s 0=(bR s:Int)
 ·rw[decide_eq_true h2,decide_eq_false aK];rfl
 ·rw[decide_eq_false h2,decide_eq_true aK];rfl
def lK(l:List Int)(n s:Nat):Bool:=cJ (fun e=>dC s e||!(eA l s e==0)) n
def mM(n:Int)(l:List Int):List Int:=if eU n l then bW (lK l n.toNat) l.length else []
theorem E0{N:Nat}{l:List Int}(D:eU N l=true):∀s,s<2^N->0<=l.getD s 0:=by
 have hf:=pH D;obtain⟨_,K,S,O,Z,a7⟩:=cX hf;have K:=Int.ofNat.inj K;subst K;have h0:l.getD 0 0=0:=by unfold eU gE at D;simp only[Bool.and_eq_true,decide_eq_true_eq]at D;exact D.1.1.2
 have F:∀s e,s<2^N->e<N->l.getD s 0<=l.getD (bU s e) 0:=fun s e R Y=>by unfold eU mN at D;simp only[Bool.and_eq_true,Int.toNat_natCast]at D;have h1:=eK.1 D.1.2.2 s (by rw[O];exact R);have h2:=eK.1 h1 e Y;unfold wF eA at h2;simp only[Bool.not_eq_true',decide_eq_false_iff_not]at h2;omega
 have key:∀m s,bR s=m->s<2^N->0<=l.getD s 0:=by
  intro m
  induction m with
  |zero=>intro s I z;have p5:(2:Nat)^N<=32:=Nat.pow_le_pow_right (n:=2) aY S;have:s=0:=TN s aK I;subst this;rw[h0];simp
  |succ m ih=>
   intro s I z;have p5:(2:Nat)^N<=32:=Nat.pow_le_pow_right (n:=2) aY S;obtain⟨e,Y,hb,t,_,ht,a9,a8⟩:=TP s aK aK;have M:e<N:=by
    rcases Nat.lt_or_ge e N with h|h
    ·exact h
    ·have:=Nat.testBit_lt_two_pow (Nat.lt_of_lt_of_le z (Nat.pow_le_pow_right aY h));rw[this]at hb;cases hb
   have J:t<2^N:=by rw[ht]at z;exact Nat.lt_of_le_of_lt (by unfold bU;exact Nat.left_le_or) z
   have h2:=ih t aK J;have h3:=F t e J M;rw[<-ht]at h3;omega
 exact fun s R=>key (bR s) s rfl R
def mR(l:List Int)(s:Nat):Nat->Nat
 |0=>s
 |k+1=>if eA l s k=0 then bU (mR l s k) k else mR l s k
theorem AW(l:List Int)(s j:Nat):∀k,(mR l s k).testBit j=(s.testBit j||(decide (j<k)&&decide (eA l s j=0)))
 |0=>by simp[mR]
 |k+1=>by
  rw[mR];by_cases z:eA l s k=0
  ·rw[if_pos z,D8,AW l s j k];by_cases D:k=j
   ·subst D;rw[decide_eq_true (show k<k+1 by omega),decide_eq_true z];simp
   ·rw[decide_eq_false D,Bool.or_false];by_cases h:j<k
    ·rw[decide_eq_true h,decide_eq_true (show j<k+1 by omega)]
    ·rw[decide_eq_false h,decide_eq_false (show ¬j<k+1 by omega)]
  ·rw[if_neg z,AW l s j k];by_cases D:k=j
   ·subst D;rw[decide_eq_false z];simp
   ·by_cases h:j<k
    ·rw[decide_eq_true h,decide_eq_true (show j<k+1 by omega)]
    ·rw[decide_eq_false h,decide_eq_false (show ¬j<k+1 by omega)]
theorem GA(l:List Int)(s N:Nat)(z:s<2^N):∀k,k<=N->mR l s k<2^N
 |0,_=>z
 |k+1,h=>by
  rw[mR]
  split
  ·exact eQ _ _ _ (GA l s N z k aK) aK
  ·exact GA l s N z k aK
theorem YF(l:List Int)(s n:Nat):decide (mR l s n=s)=lK l n s:=by
 cases D:lK l n s with
 |true=>
  refine decide_eq_true (Nat.eq_of_testBit_eq fun j=>?_);rw[AW];by_cases z:j<n
  ·have:=eK.1 D j z;simp only[Bool.or_eq_true,Bool.not_eq_true',beq_eq_false_iff_ne]at this;rcases this with h|h
   ·rw[EV]at h;rw[h];rfl
   ·rw[decide_eq_false h];simp
  ·rw[decide_eq_false z];simp
 |false=>
  refine decide_eq_false (fun I=>?_);have:lK l n s=true:=eK.2 fun j z=>by
   have h1:=AW l s j n;rw[I,decide_eq_true z,Bool.true_and]at h1;by_cases F:eA l s j=0
   ·rw[decide_eq_true F,Bool.or_true]at h1;rw[EV,h1];rfl
   ·simp[F]
  rw[this]at D;cases D
theorem ad0{l:List Int}{n s e:Nat}(z:e<n)(h1:dC s e=false)(h2:eA l s e=0):lK l n s=false:=by
 cases D:lK l n s with
 |false=>rfl
 |true=>have:=eK.1 D e z;rw[h1,h2]at this;simp at this
theorem acR(s e:Nat)(h:dC s e=false):s<bU s e:=by
 have h1:s<=bU s e:=by unfold bU;exact Nat.left_le_or
 rcases Nat.lt_or_eq_of_le h1 with h2|h2
 ·exact h2
 ·have h3:=D8 s e e;rw[<-h2,<-EV,h]at h3;simp at h3
def rG(l:List Int):Nat->Option Int
 |0=>some 0
 |k+1=>match rG l k with
  |none=>none
  |some m=>if l.getD (k+1) 0=0 then none else some (max m (Int.tdiv ((bR (k+1):Int)+l.getD (k+1) 0-1) (l.getD (k+1) 0)))
def xN(n:Int)(l:List Int):Option Int:=if dH n l then rG l (l.length-1) else none
def qV(n:Int)(l:List Int):Int:=(xN n l).getD 0
def uZ(n:Int)(l:List Int):Bool:=(xN n l).isSome
theorem CJ(l:List Int)(k:Nat)(h:rG l k=none):∀m,k<=m->rG l m=none
 |0,hm=>by have:k=0:=aK;subst this;exact h
 |m+1,hm=>by
  by_cases hk:k=m+1
  ·subst hk;exact h
  ·rw[rG,CJ l k h m aK]
theorem yE(a b:Int)(z:0<=a)(hb:0<b):0<=Int.tdiv a b/\Int.tdiv a b<=a:=⟨Int.tdiv_nonneg z aK,Int.tdiv_le_self b z⟩
def nV(l:List Int)(N:Nat)(m:Int):Nat->Int
 |0=>m
 |k+1=>if l.getD k 0<lN l then min (nV l N m k) (Int.tdiv ((N:Int)-(bR k:Int)) (lN l-l.getD k 0)) else nV l N m k
def uF(n:Int)(l:List Int):Bool:=dH n l&&!(lN l==0)
def nM(n:Int)(l:List Int):Int:=if uF n l then nV l n.toNat 100 l.length else 0
theorem NB:∀N:Nat,N<6->∀s:Nat,s<2^N->bR s<=N:=by decide +kernel
theorem aeY:∀N:Nat,N<6->∀s:Nat,s<2^N->bR (cV (2^N-1) s)=N-bR s:=by decide +kernel
theorem TK(l:List Int)(N:Nat)(D:N<=5)(z:l.getD 0 0=0)(ht:0<lN l):∀k,nV l N N (k+1)=nV l N 100 (k+1)
 |0=>by have F:bR 0=0:=TQ;have h1:=yE (N:Int) (lN l) aK ht;simp only[nV,z,F];rw[if_pos ht,if_pos ht];simp only[Int.sub_zero,Int.natCast_zero];omega
 |k+1=>by
  rw[nV,TK l N D z ht k]
  rfl
theorem EZ(l:List Int)(N:Nat)(z:N<=5)(m:Int)(hm:0<=m/\m<=100):∀k,k<=2^N->0<=nV l N m k/\nV l N m k<=100
 |0,_=>hm
 |k+1,hk=>by
  have h1:=EZ l N z m hm k aK;have h2:=NB N aK k aK;rw[nV]
  split
  ·rename_i h;have:=yE ((N:Int)-(bR k:Int)) (lN l-l.getD k 0) aK aK;omega
  ·exact h1
theorem TV(n:Int)(l:List Int):0<=nM n l/\nM n l<=100:=by
 unfold nM
 split
 ·rename_i h;unfold uF at h;simp only[Bool.and_eq_true]at h;obtain⟨N,rfl,z,D,_⟩:=cX (kK h.1);rw[Int.toNat_natCast];exact EZ l N z 100 aK _ aK
 ·omega
theorem EJ(l:List Int)(hl:l.length<=32)(z:∀s,s<l.length->0<=l.getD s 0/\l.getD s 0<=1000):∀k m,k<l.length->rG l k=some m->0<=m/\m<=2000
 |0,m,_,h=>by cases h;omega
 |k+1,m,hk,h=>by
  rw[rG]at h
  cases hc:rG l k with
  |none=>rw[hc]at h;cases h
  |some m0=>
   rw[hc]at h;have h1:=EJ l hl z k m0 aK hc;simp only at h
   split at h
   ·cases h
   ·rename_i D;have h2:=z (k+1) hk;have h3:=rR (k+1) aK;have h4:=yE ((bR (k+1):Int)+l.getD (k+1) 0-1) (l.getD (k+1) 0) aK aK
    cases h
    omega
theorem BL{N:Nat}{l:List Int}(h:dH N l=true):0<=lN l/\l.getD 0 0=0:=by
 have z:=uG h;obtain⟨_,D,K,I,F,J⟩:=cX (kK h);have D:=Int.ofNat.inj D;subst D;have M:=Nat.two_pow_pos N;refine⟨E0 z _ aK,?_⟩;unfold eU gE at z;simp only[Bool.and_eq_true,decide_eq_true_eq]at z;exact z.1.1.2
theorem RF(n:Int)(l:List Int):0<=qV n l/\qV n l<=2000:=by
 unfold qV xN
 split
 ·rename_i h;obtain⟨N,rfl,J,I,z,D⟩:=cX (kK h);have K:=Nat.two_pow_pos N
  cases hc:rG l (l.length-1) with
  |none=>simp
  |some m=>refine EJ l z (fun s F=>⟨E0 (uG h) s aK,?_⟩) (l.length-1) m aK hc;rw[aX l s F];exact(D s F).2
 ·simp
theorem XV(w:World)(g N s:Nat)(l:List Int)(v:Value)(hv:aR w v l)(K:aU w g 26 #[N,v])(hs:s<l.length)(b3:l.length=2^N)(hN:N<=5):
  Calls prog 192 #[(s:Int),.pointer (some ⟨g,0,none⟩)] w fun e w'=>e=.returned (.bool (kG l s))/\Below w w w':=by
 have a8:=hv;obtain⟨a,b,a9,c,rfl,a6,R,hc,hb⟩:=hv.view prog 24 3 underlying24 aS;have c6:(2:Nat)^N<=32:=Nat.pow_le_pow_right (n:=2) aY hN;have c5:0<(2:Nat)^N:=Nat.two_pow_pos N;have F:l.length-1<l.length:=aK;have a7:((l.length-1:Nat):Int)=2^N-1:=by
  have:((2^N:Nat):Int)=(2:Int)^N:=by simp
  omega
 have ck:=hc s hs;have M:=hc (l.length-1) F;have ik:=fun W=>R W s hs;have b5:=fun W=>R W (l.length-1) F;rw[a7]at b5;have hg:l.getD s 0=l[s]:=aX l s hs;have a1:lN l=l[l.length-1]:=aX l _ F;have z:kG l s=(eO l s&&decide (l[s]=lN l)):=by unfold kG;rw[hg]
 obtain⟨x,hx⟩:=aQ (l[s]);obtain⟨t,ht⟩:=aQ (lN l);rw[<-hx,<-ht]at z;rw[<-hx]at ck;rw[<-a1,<-ht]at M;have e0:∀y:Ext w,y.w.cell? ⟨g,0,none⟩=some (aM N):=fun y=>y.cell (K.cell 0);have e1:∀y:Ext w,y.w.cell? ⟨g,1,none⟩=some (aI a l.length c):=fun y=>y.cell (K.cell 1);have e2:∀y:Ext w,y.w.cell? ⟨b,a9+s,none⟩=some (aM x):=fun y=>y.cell ck;have e3:∀y:Ext w,y.w.cell? ⟨b,a9+(l.length-1),none⟩=some (aM t):=fun y=>y.cell M;have D:∀y:Ext w,Calls prog 193 #[.agg #[(N:Int),aI a l.length c],s] y.w fun e w'=>e=.returned (.bool (eO l s))/\Below y.w.heap.size y.w w':=fun y=>sC y.w N _ l (y.ints a8) s hs aK;have Z:∀y:Ext w,Calls prog 182 #[.agg #[(N:Int),aI a l.length c]] y.w fun e w'=>e=.returned (aM (2^N-1))/\Below y.w.heap.size y.w w':=fun y=>by have:=tY (N:Int) (aI a l.length c) l y.w (y.ints a8) aK aK;rw[Int.toNat_natCast]at this;exact this
 have Y:=aN Z;clear hc R hb hg a1 hx ht ck M Z a7 a6 b3
 cases S:eO l s with
 |false=>
  rw[S]at z;simp only[S]at D;have I:=aN z;have J:=aN D;clear z D S;go_enter func192,ntmps192;go_wp2_with fail;refine bN _ aT aT ?_
  repeat(first|go_big_quiet_skip|(go_big_quiet_want;go_big_quiet_op;first|go_big_quiet_on|(apply Exists.intro;refine⟨fun _=>?_,?_⟩;(first|(go_at_call 193;exact bO (J.out _))|(go_at_call 182;exact bO (Y.out _)));go_big_quiet_on)))
  refine wpQuiet_nil ?_;rintro w3 ⟨⟨w3,O⟩,rfl⟩
  try dsimp only
  go_wp2;go_ret;exact⟨aZ (by rw[I.out];rfl),O⟩
 |true=>
  rw[S]at z;simp only[S]at D;have I:=aN z;have J:=aN D;clear z D S;go_enter func192,ntmps192;go_wp2_with fail;refine bN _ aT aT ?_
  repeat(first|go_big_quiet_skip|(go_big_quiet_want;go_big_quiet_op;first|go_big_quiet_on|(apply Exists.intro;refine⟨fun _=>?_,?_⟩;(first|(go_at_call 193;exact bO (J.out _))|(go_at_call 182;exact bO (Y.out _)));go_big_quiet_on)))
  refine wpQuiet_nil ?_;rintro w3 ⟨⟨w3,O⟩,rfl⟩
  try dsimp only
  go_wp2;go_ret;exact⟨aZ (by rw[I.out,Bool.true_and];exact rY _ _),O⟩
theorem E3:∀args w,(callFunc 192 args).run prog w=.ok (.enter 192 args) w:=enters_of func192 aT rfl
theorem YD(w:World)(g N s:Nat)(l:List Int)(v:Value)(F:aR w v l)(K:aU w g 26 #[N,v])(M:s<l.length)(J:l.length<=32):
  Calls prog 194 #[(s:Int),.pointer (some ⟨g,0,none⟩)] w fun e w'=>e=.returned (.bool (tN l s))/\Below w w w':=by
 have D:=F;obtain⟨a,c,rfl⟩:=F.shape;have G:=K.cell;have z:=K.lt;go_enter func194,ntmps194;go_wp2_with fail;refine(sC w N _ l D s M aK).mono ?_;rintro e w1 ⟨rfl,I⟩;go_wp2;go_ret;exact⟨aZ (by unfold tN;cases eO l s<;>rfl),I⟩
theorem E6:∀args w,(callFunc 194 args).run prog w=.ok (.enter 194 args) w:=enters_of func194 aT rfl
theorem QR(w:World)(n:Int)(v:Value)(l:List Int)(hv:aR w v l)(hl:l.length<=1048576):
  Calls prog 83 #[.agg #[n,v]] w fun e w'=>∃ad i S,e=.returned (.tuple #[.agg #[(jB n l),aI ad i S],.bool (dH n l)])/\aP 3 w w' (aI ad i S) (fL n l)/\Below w w w':=by
 obtain⟨a,c,rfl⟩:=hv.shape;go_enter func83,ntmps83;go_wp2_with fail;refine bH ?_;intro V hV;have B:Below w w V:=gD hV;have K1:aU V w 26 #[n,aI a l.length c]:=gO hV;have K:aU V (w.heap.size+1) 31 #[aJ,()]:=gY hV;clear hV;refine(lQ n l _ _ (hv.below B aO) hl).mono ?_;rintro e w1 ⟨rfl,F⟩;have J:=K1.keep F;have D:=K.keep F;have R:=B.after F B.size;have G1:=J.cell;have G2:=D.cell;have F2:=D.frozen;have z1:=J.lt;have z2:=D.lt;have b9:=hv.below R aO;clear K1 K B F
 cases I:dH n l with
 |false=>
  have Z:jB n l=0:=by unfold jB;rw[I];rfl
  have Y:fL n l=[]:=by unfold fL;rw[I];rfl
  have HN:=aN Z;have HL:=aN Y;have HF:=aN I;clear Z Y;go_wp2;refine bG ?_;intro Wf z;have M:aU Wf (w.heap.size+1) 31 #[aJ,()]:=by rw[z];have:=(D.set 0 (aM 0)).set 1 (aI none 0 0);simpa using this
  have Bf:Below w w Wf:=by rw[z];exact Below.setCell (Below.setCell R (by first|omega|(simp;done)|(simp;omega)) _) (by first|omega|(simp;done)|(simp;omega)) _
  have Gf:=M.cell;clear z G1 G2 F2;exact bodyPost_ret (v:=.tuple #[.agg #[aJ,()],.bool false]) (by simp[results,results83,go_sem,Gf]) rfl ⟨none,0,0,by rw[HN.out,HF.out],by rw[HL.out];exact aP.nil _ _ _,Bf⟩
 |true=>
  obtain⟨N,rfl,h5,O,c7,_⟩:=cX (kK I);have Z:jB N l=N:=by unfold jB;rw[I];rfl
  have Y:fL N l=bW (kG l) (2^N):=by unfold fL;rw[I,if_pos rfl,O]
  have HN:=aN Z;have HL:=aN Y;have HF:=aN I;have a6:Calls prog 191 #[(N:Int),.func (.func 192) #[] #[.pointer (some ⟨w,0,none⟩)]] w1 fun e w'=>
    ∃ad i S,e=.returned (.agg #[(N:Int),aI ad i S])/\aP 3 w1 w' (aI ad i S) (bW (kG l) (2^N))/\Below w1 w1 w':=
   wT w1 N aK 192 E3 w.heap.size (kG l) (fun s W' hs hB=>XV W' w.heap.size N s l _ (b9.keep hB) (J.keep hB) aK O h5)
  have b4:=aN a6;clear Z Y a6 I O;go_wp2_with fail;refine b4.out.mono ?_;rintro e w3 ⟨p3,i3,q3,rfl,o3,a1⟩;have B3:=R.after a1 R.size;have K:=D.keep a1;clear G1 G2 F2;have G2:=K.cell;have F2:=K.frozen;have z5:=K.lt;have y1:=R.size;go_wp2;refine bG ?_;intro Wf z;have M:aU Wf (w.heap.size+1) 31 #[N,aI p3 i3 q3]:=by rw[z];have:=(K.set 0 (aM N)).set 1 (aI p3 i3 q3);simpa using this
  have Bf:Below w w Wf:=by rw[z];exact Below.setCell (Below.setCell B3 (by first|omega|(simp;done)|(simp;omega)) _) (by first|omega|(simp;done)|(simp;omega)) _
  have of:aP 3 w Wf (aI p3 i3 q3) (bW (kG l) (2^N)):=by rw[z];exact((o3.setBelow (by first|omega|(simp;done)|(simp;omega)) _).setBelow (by first|omega|(simp;done)|(simp;omega)) _).mono (by first|omega|(simp;done)|(simp;omega))
  have Gf:=M.cell;clear z G2 F2;exact bodyPost_ret (v:=.tuple #[.agg #[N,aI p3 i3 q3],.bool true]) (by simp[results,results83,go_sem,Gf]) rfl ⟨p3,i3,q3,by rw[HN.out,HF.out],by rw[HL.out];exact of,Bf⟩
theorem ahP(w:World)(n:Int)(v:Value)(l:List Int)(hv:aR w v l)(hl:l.length<=1048576):
  Calls prog 84 #[.agg #[n,v]] w fun e w'=>∃ad i I,e=.returned (.tuple #[.agg #[(jB n l),aI ad i I],.bool (dH n l)])/\aP 3 w w' (aI ad i I) (gK n l)/\Below w w w':=by
 obtain⟨a,c,rfl⟩:=hv.shape;go_enter func84,ntmps84;go_wp2_with fail;refine bH ?_;intro V hV;have B:Below w w V:=gD hV;have K1:aU V w 26 #[n,aI a l.length c]:=gO hV;have F:aU V (w.heap.size+1) 31 #[aJ,()]:=gY hV;clear hV;refine(lQ n l _ _ (hv.below B aO) hl).mono ?_;rintro e w1 ⟨rfl,J⟩;have M:=K1.keep J;have D:=F.keep J;have S:=B.after J B.size;have G1:=M.cell;have G2:=D.cell;have F2:=D.frozen;have z1:=M.lt;have z2:=D.lt;have e0:=hv.below S aO;clear K1 F B J
 cases K:dH n l with
 |false=>
  have hN:jB n l=0:=by unfold jB;rw[K];rfl
  have hL:gK n l=[]:=by unfold gK;rw[K];rfl
  have HN:=aN hN;have HL:=aN hL;have HF:=aN K;clear hN hL;go_wp2;refine bG ?_;intro Wf z;have O:aU Wf (w.heap.size+1) 31 #[aJ,()]:=by rw[z];have:=(D.set 0 (aM 0)).set 1 (aI none 0 0);simpa using this
  have Bf:Below w w Wf:=by rw[z];exact Below.setCell (Below.setCell S (by first|omega|(simp;done)|(simp;omega)) _) (by first|omega|(simp;done)|(simp;omega)) _
  have Gf:=O.cell;clear z G1 G2 F2;exact bodyPost_ret (v:=.tuple #[.agg #[aJ,()],.bool false]) (by simp[results,results84,go_sem,Gf]) rfl ⟨none,0,0,by rw[HN.out,HF.out],by rw[HL.out];exact aP.nil _ _ _,Bf⟩
 |true=>
  obtain⟨N,rfl,h5,a8,a9,_⟩:=cX (kK K);have hN:jB N l=N:=by unfold jB;rw[K];rfl
  have hL:gK N l=jC (bW (tN l) (2^N)):=by unfold gK;rw[K,if_pos rfl,a8]
  have HN:=aN hN;have HL:=aN hL;have HF:=aN K;have a7:Calls prog 191 #[(N:Int),.func (.func 194) #[] #[.pointer (some ⟨w,0,none⟩)]] w1 fun e w'=>
    ∃ad i I,e=.returned (.agg #[(N:Int),aI ad i I])/\aP 3 w1 w' (aI ad i I) (bW (tN l) (2^N))/\Below w1 w1 w':=
   wT w1 N aK 194 E6 w.heap.size (tN l) (fun s W' hs hB=>YD W' w.heap.size N s l _ (e0.keep hB) (M.keep hB) aK a9)
  have b0:=fJ (tN l) (2^N);have b1:∀(W:World) (ad:Option Addr) (i I:Nat),aR W (aI ad i I) (bW (tN l) (2^N))->Calls prog 195 #[.agg #[(N:Int),aI ad i I]] W fun e w'=>
    ∃Y i' Z,e=.returned (.tuple #[.agg #[(N:Int),aI Y i' Z],.bool true])/\aP 3 W w' (aI Y i' Z) (jC (bW (tN l) (2^N)))/\Below W W w':=fun W ad i I hW=>
   FR N _ _ W hW aK (IW _ N aK)
  have c8:=aN a7;have d5:=aN b1;clear hN hL a7 b1 K a8 b0;go_wp2_with fail;refine c8.out.mono ?_;rintro e w3 ⟨p3,i3,q3,rfl,o3,R⟩;have B3:=S.after R S.size;have F:=D.keep R;clear G1 G2 F2;go_wp2_with fail;refine(d5.out _ p3 i3 q3 (o3.alloc _).ints).mono ?_;rintro e w5 ⟨p5,i5,q5,rfl,o5,d8⟩;have b5:Below w3 w3 w5:=(bF w3 _).after d8 (by simp);have B5:=B3.after b5 B3.size;have F:=F.keep b5;have G2:=F.cell;have F2:=F.frozen;have z5:=F.lt;have y3:=B3.size;have y1:=S.size;have z6:=R.size;have z7:=b5.size;go_wp2;refine bG ?_;intro Wf z;have O:aU Wf (w.heap.size+1) 31 #[N,aI p5 i5 q5]:=by rw[z];have:=(F.set 0 (aM N)).set 1 (aI p5 i5 q5);simpa using this
  have Bf:Below w w Wf:=by rw[z];exact Below.setCell (Below.setCell B5 (by first|omega|(simp;done)|(simp;omega)) _) (by first|omega|(simp;done)|(simp;omega)) _
  have of:aP 3 w Wf (aI p5 i5 q5) (jC (bW (tN l) (2^N))):=by rw[z];have e4:=o5.mono (B':=w3.heap.size) (by simp);exact((e4.setBelow (by first|omega|(simp;done)|(simp;omega)) _).setBelow (by first|omega|(simp;done)|(simp;omega)) _).mono (by first|omega|(simp;done)|(simp;omega))
  have Gf:=O.cell;clear z G2 F2;exact bodyPost_ret (v:=.tuple #[.agg #[N,aI p5 i5 q5],.bool true]) (by simp[results,results84,go_sem,Gf]) rfl ⟨p5,i5,q5,by rw[HN.out,HF.out],by rw[HL.out];exact of,Bf⟩
theorem agQ(t s:Nat):((t:Int)==(s:Int))=decide (t=s):=by
 by_cases h:t=s
 ·subst h;simp
 ·rw[decide_eq_false h,beq_eq_false_iff_ne];omega
theorem abJ{N s:Nat}(h:s<2^N):fD N (s:Int)=true:=by
 unfold fD;have:((2^N:Nat):Int)=(2:Int)^N:=by simp
 simp only[Bool.and_eq_true,decide_eq_true_eq];omega
theorem aaP(w:World)(N:Nat)(v:Value)(l:List Int)(hv:aR w v l)(hl:l.length<=1048576)(hf:eU N l=true)(s:Nat)(hs:s<2^N):
  Calls prog 276 #[.agg #[(N:Int),v],s] w fun e w'=>e=.returned (mR l s N)/\Below w w w':=by
 have a8:=hv;obtain⟨a,c,rfl⟩:=hv.shape;have K0:=aU.new w 26 #[(N:Int),aI a l.length c];obtain⟨_,hN,h5,b9,d7,a1⟩:=cX (pH hf);have hN:=Int.ofNat.inj hN;subst hN;have hg:∀k W,k<N->aR W (aI a l.length c) l->Calls prog 170 #[.agg #[(N:Int),aI a l.length c],(s:Int),(k:Int)] W fun e' w'=>e'=.returned (eA l s k)/\Below W W w':=fun k W hk hW=>by have h1:=eQ s k N hs hk;exact AZ N l _ s k W hW aK aK aK aK a1
 have F:=GA l s N hs;have b0:=aN F;have HG:=aN hg;have HF:=aN hf;have b1:=aN (abJ hs);have f3:(2:Nat)^N<=32:=Nat.pow_le_pow_right (n:=2) aY h5;obtain⟨R,hR⟩:=aQ (mR l s N);rw[<-hR];have HR:=aN hR;clear F hg hf a1 hR b9;go_enter func276,ntmps276;go_wp2_with fail;refine(uE N l _ _ (a8.alloc _) hl).mono ?_;rintro e w1 ⟨rfl,J⟩;rw[HF.out];have B1:Below w w w1:=(bF _ _).after J (by simp);have K1:=K0.keep J;have c6:=a8.below B1 aO;clear J K0;have G:=K1.cell;go_wp2_with (go_at_call 183;refine(qH N s _ aK).mono ?_;rintro e w2 ⟨rfl,rfl⟩;rw[b1.out]);go_loopw [5,20] (fun ov iv wr=>∃k:Nat,k<=N/\iv=aM k/\ov=aM (mR l s k)/\Below w1 w1 wr) (fun _ iv _=>N-(intOf iv).toNat)
 case atStart=>exact⟨0,Nat.zero_le _,rfl,rfl,Below.refl _ _⟩
 case round=>
  obtain⟨k,hk,rfl,rfl,B⟩:=hrel;obtain⟨wo,rfl⟩:∃wo:World,wo=wr:=⟨_,rfl⟩;clear G;have K:=K1.keep B;have G:=K.cell;by_cases b8:k<N
  ·have Y:(k:Int)<(N:Int):=aK;have z:mR l s (k+1)=if eA l s k=0 then bU (mR l s k) k else mR l s k:=rfl;have hlt:=b0.out k hk;have M:=HG.out k wo b8 (c6.below B aO);have a6:=fZ (mR l s k) k aK aK;obtain⟨t,ht⟩:=aQ (mR l s k);obtain⟨t2,a7⟩:=aQ (bU t k);obtain⟨x,hx⟩:=aQ (eA l s k);rw[<-ht]at z hlt a6 ⊢;rw[<-a7]at z a6;rw[<-hx]at z M;have S:=aN M;have D:=cO k 6 aK;have f0:(2:Int)^k<=64:=by simpa using D.1
   have f2:=D.2;have e9:(0:Int)<=(k:Int):=Int.natCast_nonneg _;clear ht a7 hx M D;by_cases O:x=0
   ·rw[if_pos O]at z;have c7:(x==0)=true:=by simp[O]
    have I:=aN z;clear z O;go_wp2_with (go_at_call 170;refine S.out.mono ?_;rintro e w3 ⟨rfl,b3⟩);go_roundw
    case rel=>exact⟨k+1,by omega,by go_num,by rw[I.out],B.after b3 B.size⟩
    case measure=>simp[intOf];omega
   ·rw[if_neg O]at z;have c7:(x==0)=false:=by simp[O]
    have I:=aN z;clear z O;go_wp2_with (go_at_call 170;refine S.out.mono ?_;rintro e w3 ⟨rfl,b3⟩);go_roundw
    case rel=>exact⟨k+1,by omega,by go_num,by rw[I.out],B.after b3 B.size⟩
    case measure=>simp[intOf];omega
  ·have Y:¬(k:Int)<(N:Int):=aK;have Z:k=N:=aK;subst Z;rw[<-HR.out];go_wp2;go_ret;exact⟨rfl,B1.after B B1.size⟩
theorem Y9(w:World)(N:Nat)(v:Value)(l:List Int)(I:aR w v l)(hl:l.length<=1048576)(M:eU N l=true)(s:Nat)(O:s<2^N):
  Calls prog 196 #[.agg #[(N:Int),v],s] w fun e w'=>e=.returned (.bool (lK l N s))/\Below w w w':=by
 have F:=I;obtain⟨a,c,rfl⟩:=I.shape;have hc:=fun W (h:aR W (aI a l.length c) l)=>aaP W N _ l h hl M s O;have z:=YF l s N;obtain⟨t,ht⟩:=aQ (mR l s N);simp only[<-ht]at hc;rw[<-ht]at z;have J:=aN hc;have D:=aN z;have R:(0:Int)<=(s:Int):=Int.natCast_nonneg _;clear hc z ht;go_enter func196,ntmps196;go_wp2_with fail;refine(J.out _ (F.alloc _)).mono ?_;rintro e w1 ⟨rfl,K⟩;go_wp2;go_ret;exact⟨aZ (by rw[<-D.out];exact agQ t s),(bF _ _).after K (by simp)⟩
theorem ahU(w:World)(n:Int)(v:Value)(l:List Int)(hv:aR w v l)(hl:l.length<=1048576):
  Calls prog 85 #[.agg #[n,v]] w fun e w'=>∃ad i cp,e=.returned (.tuple #[aI ad i cp,.bool (eU n l)])/\aP 3 w w' (aI ad i cp) (mM n l)/\Below w w w':=by
 have O:=hv;obtain⟨a,c,rfl⟩:=hv.shape;have K0:=aU.new w 26 #[n,aI a l.length c]
 cases J:eU n l with
 |false=>
  have R:mM n l=[]:=by unfold mM;rw[J];rfl
  have HL:=aN R;have HF:=aN J;clear R J;go_enter func85,ntmps85;go_wp2_with fail;refine(uE n l _ _ (O.alloc _) hl).mono ?_;rintro e w1 ⟨rfl,F⟩;rw[HF.out];go_wp2;go_ret2;exact⟨none,0,0,rfl,by rw[HL.out];exact aP.nil _ _ _,(bF _ _).after F (by simp)⟩
 |true=>
  obtain⟨N,rfl,h5,b8,d6,b9⟩:=cX (pH J);have R:mM N l=bW (lK l N) l.length:=by unfold mM;rw[J];rfl
  have M:=fun(W:World) (h:aR W (aI a l.length c) l) (s:Nat) (hs:s<l.length)=>Y9 W N _ l h hl J s aK;obtain⟨P,hP⟩:=aQ (lK l N);rw[<-hP]at R;simp only[<-hP]at M;have HL:=aN R;have HF:=aN J;have b4:=aN M;clear R J M hP b9 b8;go_enter func85,ntmps85;go_wp2_with fail;refine(uE N l _ _ (O.alloc _) hl).mono ?_;rintro e w1 ⟨rfl,F⟩;rw[HF.out];have B1:Below w w w1:=(bF _ _).after F (by simp);have K1:=K0.keep F;have c6:=O.below B1 aO;clear F K0;have G:=K1.cell;go_wp2_with fail;go_loopw [4,12] (fun ov iv wr=>∃(k:Nat) (p:Option Addr) (i q:Nat),k<=l.length/\iv=aM k/\ov=aI p i q/\aP 3 w1 wr (aI p i q) (bW P k)/\Below w1 w1 wr) (fun _ iv _=>l.length-(intOf iv).toNat)
  case atStart=>exact⟨0,_,_,_,Nat.zero_le _,rfl,rfl,aP.nil _ _ _,Below.refl _ _⟩
  case round=>
   obtain⟨k,p,i,q,hk,rfl,rfl,ho,B⟩:=hrel;obtain⟨wo,rfl⟩:∃wo:World,wo=wr:=⟨_,rfl⟩;clear G;have K:=K1.keep B;have G:=K.cell;by_cases b7:k<l.length
   ·have a6:(k:Int)<(l.length:Int):=aK;have a1:=fM P k;have e4:(bW P k).length<=64:=Nat.le_trans (fJ P k) aK;have S:=aN a1;clear a1;have Y:=aN (b4.out wo (c6.below B aO) k b7)
    cases I:P k with
    |false=>
     have D:=aN I;clear I;go_wp2_with fail;refine Y.out.mono ?_;rintro e w3 ⟨rfl,Z⟩;rw[D.out];go_wp2;go_roundw
     case rel=>exact⟨k+1,p,i,q,by omega,by go_num,rfl,by rw[S.out,D.out];exact ho.keep Z,B.after Z B.size⟩
     case measure=>simp[intOf];omega
    |true=>
     have D:=aN I;clear I;go_wp2_with fail;refine Y.out.mono ?_;rintro e w3 ⟨rfl,Z⟩;rw[D.out];have a8:=ho.keep Z;have B3:=B.after Z B.size;have rr:=a8.lt;go_wp2_with (at_builtin;refine cZ rfl _ _ _ rfl 3 underlying24 aS w1.heap.size (aI p i q) (bW P k) (k:Int) _ rfl rfl (bB _ _ _ _ _ rfl) (a8.alloc _) ⟨by omega,by omega⟩ aK (by have:=B3.size;simp;omega) ?_;intro v7 w7 o7 g7;obtain⟨p7,i7,q7,rfl⟩:=o7.shape3);have B7:=(B3.alloc B3.size (.cells #[(k:Int)] 3)).grown g7 (by have:=B3.size;simp;omega) (fun z hz=>(rr _ hz).1);go_roundw
     case rel=>exact⟨k+1,p7,i7,q7,by omega,by go_num,rfl,by rw[S.out,D.out];exact o7,B7⟩
     case measure=>simp[intOf];omega
   ·have a6:¬(k:Int)<(l.length:Int):=aK;have a7:k=l.length:=aK;subst a7;go_wp2;go_ret2;exact⟨p,i,q,rfl,by rw[HL.out];exact ho.mono B1.size,B1.after B B1.size⟩
end
end Go.Proofs.YtcpoomdoodlkjaaGreatDoor
