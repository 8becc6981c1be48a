/- Lemmas for CardReports. No condition. -/
import Derived.Test.YtcpoomdoodlkjaaGreatDoorQ19
import Derived.Test.YtcpoomdoodlkjaaGreatDoorQ20
set_option maxRecDepth 100000
set_option maxHeartbeats 64000000
namespace Go.Proofs.YtcpoomdoodlkjaaGreatDoor
section
open Go.RowKit Go.G5 Go.Proofs.Tryz
theorem TJ:∀s:Nat,s<32->bN s=0->s=0:=by decide +kernel
theorem TL:∀s:Nat,s<32->0<bN s->∃e,e<5/\(s.testBit e=true/\∃t,t<32/\(s=bO t e/\t.testBit e=false/\bN s=bN t+1)):=by decide +kernel
theorem uD{n:Int}{l:List Int}(h:dE n l=true):eR n l=true:=by
 unfold dE at h;simp only[Bool.and_eq_true]at h;exact h.1
theorem kH{n:Int}{l:List Int}(h:dE n l=true):bH n l=true:=oW (uD h)
theorem agW{N:Nat}{l:List Int}(h:dE N l=true):∀s,s<2^N->l.getD s 0<=(bN s:Int):=by
 have F:=uD h;have hf:=kH h;obtain⟨_,R,h5,b3,a8,b4⟩:=cU hf;have R:=Int.ofNat.inj R;subst R;have Y:gO N l=true:=by unfold eR at F;simp only[Bool.and_eq_true]at F;exact F.2
 have h0:l.getD 0 0=0:=by unfold eR fZ at F;simp only[Bool.and_eq_true,decide_eq_true_eq]at F;exact F.1.1.2
 have h1:∀e,e<N->l.getD (2^e) 0<=1:=fun e he=>by unfold dE at h;simp only[Bool.and_eq_true,Int.toNat_natCast]at h;have:=eH.1 h.2 e he;unfold wG at this;simp only[Bool.not_eq_true',decide_eq_false_iff_not]at this;omega
 have hex:=(ag4 N l hf).1 Y;have J:∀s i k:Nat,s<2^N->i<k->k<N->cZ s i=false->cZ s k=false->0<=kJ (jW l) s i k:=fun s i k a b c d e=>by rw[af7];have:=hex s i k a b c d e;omega
 have I:∀s e,dX (jW l) s e=- dX l s e:=fun s e=>by unfold dX;rw[DL,DL];omega
 have D:∀s e,s<2^N->e<N->s.testBit e=false->l.getD (bO s e) 0<=l.getD s 0+1:=fun s e a b c=>by
  have O:=aa8 N (jW l) J 0 s e a b (fun j hj=>by simp at hj) c;rw[I,I]at O;have g2:=h1 e b;have e0:bO 0 e=2^e:=by unfold bO;simp
  unfold dX at O;rw[e0]at O;omega
 have key:∀m s,bN s=m->s<2^N->l.getD s 0<=(m:Int):=by
  intro m
  induction m with
  |zero=>intro s K z;have p5:(2:Nat)^N<=32:=Nat.pow_le_pow_right (n:=2) aV h5;have:s=0:=TJ s aI K;subst this;rw[h0];simp
  |succ m ih=>
   intro s K z;have p5:(2:Nat)^N<=32:=Nat.pow_le_pow_right (n:=2) aV h5;obtain⟨e,he,hb,t,_,ht,Z,b5⟩:=TL s aI aI;have S:e<N:=by
    rcases Nat.lt_or_ge e N with h|h
    ·exact h
    ·have:=Nat.testBit_lt_two_pow (Nat.lt_of_lt_of_le z (Nat.pow_le_pow_right aV h));rw[this]at hb;cases hb
   have M:t<2^N:=by rw[ht]at z;exact Nat.lt_of_le_of_lt (by unfold bO;exact Nat.left_le_or) z
   have h2:=ih t aI M;have h3:=D t e M S Z;rw[<-ht]at h3;omega
 exact fun s Y=>key (bN s) s rfl Y
def lK(l:List Int):Int:=l.getD (l.length-1) 0
def kD(l:List Int)(s:Nat):Bool:=eJ l s&&decide (l.getD s 0=lK l)
def tK(l:List Int)(s:Nat):Bool:=!eJ l s
def iX(n:Int)(l:List Int):Int:=if dE n l then n else 0
def fI(n:Int)(l:List Int):List Int:=if dE n l then bQ (kD l) l.length else []
def gH(n:Int)(l:List Int):List Int:=if dE n l then iY (bQ (tK l) l.length) else []
theorem afP(l:List Int)(s:Nat):kD l s=(decide (l.getD s 0=lK l)&&decide ((bN s:Int)=lK l)):=by
 unfold kD eJ;by_cases h1:l.getD s 0=lK l
 ·rw[decide_eq_true h1,Bool.and_true,Bool.true_and,h1];by_cases h2:lK l=(bN s:Int)
  ·rw[decide_eq_true h2,decide_eq_true h2.symm]
  ·rw[decide_eq_false h2,decide_eq_false (fun e=>h2 e.symm)]
 ·rw[decide_eq_false h1,Bool.and_false,Bool.false_and]
theorem afV{N:Nat}{l:List Int}(h:dE N l=true)(s:Nat)(z:s<2^N):tK l s=decide (l.getD s 0<(bN s:Int)):=by
 have h1:=agW h s z;unfold tK eJ;by_cases h2:l.getD s 0=(bN s:Int)
 ·rw[decide_eq_true h2,decide_eq_false aI];rfl
 ·rw[decide_eq_false h2,decide_eq_true aI];rfl
def lH(l:List Int)(n s:Nat):Bool:=bY (fun e=>cZ s e||!(dX l s e==0)) n
def mJ(n:Int)(l:List Int):List Int:=if eR n l then bQ (lH l n.toNat) l.length else []
theorem EX{N:Nat}{l:List Int}(D:eR N l=true):∀s,s<2^N->0<=l.getD s 0:=by
 have hf:=oW D;obtain⟨_,K,S,O,Z,a7⟩:=cU hf;have K:=Int.ofNat.inj K;subst K;have h0:l.getD 0 0=0:=by unfold eR fZ at D;simp only[Bool.and_eq_true,decide_eq_true_eq]at D;exact D.1.1.2
 have F:∀s e,s<2^N->e<N->l.getD s 0<=l.getD (bO s e) 0:=fun s e R Y=>by unfold eR mK at D;simp only[Bool.and_eq_true,Int.toNat_natCast]at D;have h1:=eH.1 D.1.2.2 s (by rw[O];exact R);have h2:=eH.1 h1 e Y;unfold wC dX at h2;simp only[Bool.not_eq_true',decide_eq_false_iff_not]at h2;omega
 have key:∀m s,bN s=m->s<2^N->0<=l.getD s 0:=by
  intro m
  induction m with
  |zero=>intro s I z;have p5:(2:Nat)^N<=32:=Nat.pow_le_pow_right (n:=2) aV S;have:s=0:=TJ s aI I;subst this;rw[h0];simp
  |succ m ih=>
   intro s I z;have p5:(2:Nat)^N<=32:=Nat.pow_le_pow_right (n:=2) aV S;obtain⟨e,Y,hb,t,_,ht,a9,a8⟩:=TL s aI aI;have M:e<N:=by
    rcases Nat.lt_or_ge e N with h|h
    ·exact h
    ·have:=Nat.testBit_lt_two_pow (Nat.lt_of_lt_of_le z (Nat.pow_le_pow_right aV h));rw[this]at hb;cases hb
   have J:t<2^N:=by rw[ht]at z;exact Nat.lt_of_le_of_lt (by unfold bO;exact Nat.left_le_or) z
   have h2:=ih t aI J;have h3:=F t e J M;rw[<-ht]at h3;omega
 exact fun s R=>key (bN s) s rfl R
def mO(l:List Int)(s:Nat):Nat->Nat
 |0=>s
 |k+1=>if dX l s k=0 then bO (mO l s k) k else mO l s k
theorem AT(l:List Int)(s j:Nat):∀k,(mO l s k).testBit j=(s.testBit j||(decide (j<k)&&decide (dX l s j=0)))
 |0=>by simp[mO]
 |k+1=>by
  rw[mO];by_cases z:dX l s k=0
  ·rw[if_pos z,DX,AT l s j k];by_cases D:k=j
   ·subst D;rw[decide_eq_true (show k<k+1 by omega),decide_eq_true z];simp
   ·rw[decide_eq_false D,Bool.or_false];by_cases h:j<k
    ·rw[decide_eq_true h,decide_eq_true (show j<k+1 by omega)]
    ·rw[decide_eq_false h,decide_eq_false (show ¬j<k+1 by omega)]
  ·rw[if_neg z,AT l s j k];by_cases D:k=j
   ·subst D;rw[decide_eq_false z];simp
   ·by_cases h:j<k
    ·rw[decide_eq_true h,decide_eq_true (show j<k+1 by omega)]
    ·rw[decide_eq_false h,decide_eq_false (show ¬j<k+1 by omega)]
theorem FY(l:List Int)(s N:Nat)(z:s<2^N):∀k,k<=N->mO l s k<2^N
 |0,_=>z
 |k+1,h=>by
  rw[mO]
  split
  ·exact eM _ _ _ (FY l s N z k aI) aI
  ·exact FY l s N z k aI
theorem YB(l:List Int)(s n:Nat):decide (mO l s n=s)=lH l n s:=by
 cases D:lH l n s with
 |true=>
  refine decide_eq_true (Nat.eq_of_testBit_eq fun j=>?_);rw[AT];by_cases z:j<n
  ·have:=eH.1 D j z;simp only[Bool.or_eq_true,Bool.not_eq_true',beq_eq_false_iff_ne]at this;rcases this with h|h
   ·rw[ES]at h;rw[h];rfl
   ·rw[decide_eq_false h];simp
  ·rw[decide_eq_false z];simp
 |false=>
  refine decide_eq_false (fun I=>?_);have:lH l n s=true:=eH.2 fun j z=>by
   have h1:=AT l s j n;rw[I,decide_eq_true z,Bool.true_and]at h1;by_cases F:dX l s j=0
   ·rw[decide_eq_true F,Bool.or_true]at h1;rw[ES,h1];rfl
   ·simp[F]
  rw[this]at D;cases D
theorem adW{l:List Int}{n s e:Nat}(z:e<n)(h1:cZ s e=false)(h2:dX l s e=0):lH l n s=false:=by
 cases D:lH l n s with
 |false=>rfl
 |true=>have:=eH.1 D e z;rw[h1,h2]at this;simp at this
theorem acN(s e:Nat)(h:cZ s e=false):s<bO s e:=by
 have h1:s<=bO s e:=by unfold bO;exact Nat.left_le_or
 rcases Nat.lt_or_eq_of_le h1 with h2|h2
 ·exact h2
 ·have h3:=DX s e e;rw[<-h2,<-ES,h]at h3;simp at h3
def rB(l:List Int):Nat->Option Int
 |0=>some 0
 |k+1=>match rB l k with
  |none=>none
  |some m=>if l.getD (k+1) 0=0 then none else some (max m (Int.tdiv ((bN (k+1):Int)+l.getD (k+1) 0-1) (l.getD (k+1) 0)))
def xK(n:Int)(l:List Int):Option Int:=if dE n l then rB l (l.length-1) else none
def qQ(n:Int)(l:List Int):Int:=(xK n l).getD 0
def uW(n:Int)(l:List Int):Bool:=(xK n l).isSome
theorem CG(l : List Int)(k : Nat)(h : rB l k = none) : ∀ m, k <= m -> rB l m = none
  | 0, hm => by have : k = 0 := aI
                subst this; exact h
  | m + 1, hm => by
    by_cases hk : k = m + 1
    · subst hk; exact h
    · rw [rB, CG l k h m aI]
theorem xZ(a b:Int)(z:0<=a)(hb:0<b):0<=Int.tdiv a b/\Int.tdiv a b<=a:=⟨Int.tdiv_nonneg z aI,Int.tdiv_le_self b z⟩
def nS(l:List Int)(N:Nat)(m:Int):Nat->Int
 |0=>m
 |k+1=>if l.getD k 0<lK l then min (nS l N m k) (Int.tdiv ((N:Int)-(bN k:Int)) (lK l-l.getD k 0)) else nS l N m k
def uC(n:Int)(l:List Int):Bool:=dE n l&&!(lK l==0)
def nJ(n:Int)(l:List Int):Int:=if uC n l then nS l n.toNat 100 l.length else 0
theorem M7:∀N:Nat,N<6->∀s:Nat,s<2^N->bN s<=N:=by decide +kernel
theorem aeU:∀N:Nat,N<6->∀s:Nat,s<2^N->bN (cS (2^N-1) s)=N-bN s:=by decide +kernel
theorem TG(l:List Int)(N:Nat)(D:N<=5)(z:l.getD 0 0=0)(ht:0<lK l):∀k,nS l N N (k+1)=nS l N 100 (k+1)
 |0=>by have F:bN 0=0:=TM;have h1:=xZ (N:Int) (lK l) aI ht;simp only[nS,z,F];rw[if_pos ht,if_pos ht];simp only[Int.sub_zero,Int.natCast_zero];omega
 |k+1=>by
  rw[nS,TG l N D z ht k]
  rfl
theorem EW(l:List Int)(N:Nat)(z:N<=5)(m:Int)(hm:0<=m/\m<=100):∀k,k<=2^N->0<=nS l N m k/\nS l N m k<=100
 |0,_=>hm
 |k+1,hk=>by
  have h1:=EW l N z m hm k aI;have h2:=M7 N aI k aI;rw[nS]
  split
  ·rename_i h;have:=xZ ((N:Int)-(bN k:Int)) (lK l-l.getD k 0) aI aI;omega
  ·exact h1
theorem TQ(n:Int)(l:List Int):0<=nJ n l/\nJ n l<=100:=by
 unfold nJ
 split
 ·rename_i h;unfold uC at h;simp only[Bool.and_eq_true]at h;obtain⟨N,rfl,z,D,_⟩:=cU (kH h.1);rw[Int.toNat_natCast];exact EW l N z 100 aI _ aI
 ·omega
theorem EF(l:List Int)(hl:l.length<=32)(z:∀s,s<l.length->0<=l.getD s 0/\l.getD s 0<=1000):∀k m,k<l.length->rB l k=some m->0<=m/\m<=2000
 |0,m,_,h=>by cases h;omega
 |k+1,m,hk,h=>by
  rw[rB]at h
  cases hc:rB l k with
  |none=>rw[hc]at h;cases h
  |some m0=>
   rw[hc]at h;have h1:=EF l hl z k m0 aI hc;simp only at h
   split at h
   ·cases h
   ·rename_i D;have h2:=z (k+1) hk;have h3:=rK (k+1) aI;have h4:=xZ ((bN (k+1):Int)+l.getD (k+1) 0-1) (l.getD (k+1) 0) aI aI
    cases h
    omega
theorem BI{N:Nat}{l:List Int}(h:dE N l=true):0<=lK l/\l.getD 0 0=0:=by
 have z:=uD h;obtain⟨_,D,K,I,F,J⟩:=cU (kH h);have D:=Int.ofNat.inj D;subst D;have M:=Nat.two_pow_pos N;refine⟨EX z _ aI,?_⟩;unfold eR fZ at z;simp only[Bool.and_eq_true,decide_eq_true_eq]at z;exact z.1.1.2
theorem RB(n:Int)(l:List Int):0<=qQ n l/\qQ n l<=2000:=by
 unfold qQ xK
 split
 ·rename_i h;obtain⟨N,rfl,J,I,z,D⟩:=cU (kH h);have K:=Nat.two_pow_pos N
  cases hc:rB l (l.length-1) with
  |none=>simp
  |some m=>refine EF l z (fun s F=>⟨EX (uD h) s aI,?_⟩) (l.length-1) m aI hc;rw[aU l s F];exact(D s F).2
 ·simp
theorem XR(w:World)(g N s:Nat)(l:List Int)(v:Value)(hv:aO w v l)(K:aR w g 26 #[N,v])(hs:s<l.length)(b3:l.length=2^N)(hN:N<=5):
  Calls prog 192 #[(s:Int),.pointer (some ⟨g,0,none⟩)] w fun e w'=>e=.returned (.bool (kD l s))/\Below w w w':=by
 have a8:=hv;obtain⟨a,b,a9,c,rfl,a6,R,hc,hb⟩:=hv.view prog 24 3 underlying24 aP;have c6:(2:Nat)^N<=32:=Nat.pow_le_pow_right (n:=2) aV hN;have c5:0<(2:Nat)^N:=Nat.two_pow_pos N;have F:l.length-1<l.length:=aI;have a7:((l.length-1:Nat):Int)=2^N-1:=by
  have:((2^N:Nat):Int)=(2:Int)^N:=by simp
  omega
 have ck:=hc s hs;have M:=hc (l.length-1) F;have ik:=fun W=>R W s hs;have b5:=fun W=>R W (l.length-1) F;rw[a7]at b5;have hg:l.getD s 0=l[s]:=aU l s hs;have a1:lK l=l[l.length-1]:=aU l _ F;have z:kD l s=(eJ l s&&decide (l[s]=lK l)):=by unfold kD;rw[hg]
 obtain⟨x,hx⟩:=aN (l[s]);obtain⟨t,ht⟩:=aN (lK l);rw[<-hx,<-ht]at z;rw[<-hx]at ck;rw[<-a1,<-ht]at M;have e0:∀y:Ext w,y.w.cell? ⟨g,0,none⟩=some (ajJ N):=fun y=>y.cell (K.cell 0);have e1:∀y:Ext w,y.w.cell? ⟨g,1,none⟩=some (ajH a l.length c):=fun y=>y.cell (K.cell 1);have e2:∀y:Ext w,y.w.cell? ⟨b,a9+s,none⟩=some (ajJ x):=fun y=>y.cell ck;have e3:∀y:Ext w,y.w.cell? ⟨b,a9+(l.length-1),none⟩=some (ajJ t):=fun y=>y.cell M;have D:∀y:Ext w,Calls prog 193 #[.agg #[(N:Int),ajH a l.length c],s] y.w fun e w'=>e=.returned (.bool (eJ l s))/\Below y.w.heap.size y.w w':=fun y=>rZ y.w N _ l (y.ints a8) s hs aI;have Z:∀y:Ext w,Calls prog 182 #[.agg #[(N:Int),ajH a l.length c]] y.w fun e w'=>e=.returned (ajJ (2^N-1))/\Below y.w.heap.size y.w w':=fun y=>by have:=tV (N:Int) (ajH a l.length c) l y.w (y.ints a8) aI aI;rw[Int.toNat_natCast]at this;exact this
 have Y:=aJ Z;clear hc R hb hg a1 hx ht ck M Z a7 a6 b3
 cases S:eJ l s with
 |false=>
  rw[S]at z;simp only[S]at D;have I:=aJ z;have J:=aJ D;clear z D S;go_enter func192,ntmps192;go_wp2_with fail;refine bJ _ aQ aQ ?_
  repeat(first|go_big_quiet_skip|(go_big_quiet_want;go_big_quiet_op;first|go_big_quiet_on|(apply Exists.intro;refine⟨fun _=>?_,?_⟩;(first|(go_at_call 193;exact bK (J.out _))|(go_at_call 182;exact bK (Y.out _)));go_big_quiet_on)))
  refine wpQuiet_nil ?_;rintro w3 ⟨⟨w3,O⟩,rfl⟩
  try dsimp only
  go_wp2;go_ret;exact⟨aW (by rw[I.out];rfl),O⟩
 |true=>
  rw[S]at z;simp only[S]at D;have I:=aJ z;have J:=aJ D;clear z D S;go_enter func192,ntmps192;go_wp2_with fail;refine bJ _ aQ aQ ?_
  repeat(first|go_big_quiet_skip|(go_big_quiet_want;go_big_quiet_op;first|go_big_quiet_on|(apply Exists.intro;refine⟨fun _=>?_,?_⟩;(first|(go_at_call 193;exact bK (J.out _))|(go_at_call 182;exact bK (Y.out _)));go_big_quiet_on)))
  refine wpQuiet_nil ?_;rintro w3 ⟨⟨w3,O⟩,rfl⟩
  try dsimp only
  go_wp2;go_ret;exact⟨aW (by rw[I.out,Bool.true_and];exact rV _ _),O⟩
theorem E0:∀args w,(callFunc 192 args).run prog w=.ok (.enter 192 args) w:=enters_of func192 aQ rfl
theorem XZ(w:World)(g N s:Nat)(l:List Int)(v:Value)(F:aO w v l)(K:aR w g 26 #[N,v])(M:s<l.length)(J:l.length<=32):
  Calls prog 194 #[(s:Int),.pointer (some ⟨g,0,none⟩)] w fun e w'=>e=.returned (.bool (tK l s))/\Below w w w':=by
 have D:=F;obtain⟨a,c,rfl⟩:=F.shape;have G:=K.cell;have z:=K.lt;go_enter func194,ntmps194;go_wp2_with fail;refine(rZ w N _ l D s M aI).mono ?_;rintro e w1 ⟨rfl,I⟩;go_wp2;go_ret;exact⟨aW (by unfold tK;cases eJ l s<;>rfl),I⟩
theorem E3:∀args w,(callFunc 194 args).run prog w=.ok (.enter 194 args) w:=enters_of func194 aQ rfl
theorem QN(w:World)(n:Int)(v:Value)(l:List Int)(hv:aO w v l)(hl:l.length<=1048576):
  Calls prog 83 #[.agg #[n,v]] w fun e w'=>∃ad i S,e=.returned (.tuple #[.agg #[(iX n l),ajH ad i S],.bool (dE n l)])/\aM 3 w w' (ajH ad i S) (fI n l)/\Below w w w':=by
 obtain⟨a,c,rfl⟩:=hv.shape;go_enter func83,ntmps83;go_wp2_with fail;refine bB ?_;intro V hV;have B:Below w w V:=fY hV;have K1:aR V w 26 #[n,ajH a l.length c]:=gL hV;have K:aR V (w.heap.size+1) 31 #['0',()]:=gV hV;clear hV;refine(lN n l _ _ (hv.below B aK) hl).mono ?_;rintro e w1 ⟨rfl,F⟩;have J:=K1.keep F;have D:=K.keep F;have R:=B.after F B.size;have G1:=J.cell;have G2:=D.cell;have F2:=D.frozen;have z1:=J.lt;have z2:=D.lt;have b9:=hv.below R aK;clear K1 K B F
 cases I:dE n l with
 |false=>
  have Z:iX n l=0:=by unfold iX;rw[I];rfl
  have Y:fI n l=[]:=by unfold fI;rw[I];rfl
  have HN:=aJ Z;have HL:=aJ Y;have HF:=aJ I;clear Z Y;go_wp2;refine aZ ?_;intro Wf z;have M:aR Wf (w.heap.size+1) 31 #['0',()]:=by rw[z];have:=(D.set 0 (ajJ 0)).set 1 (ajH none 0 0);simpa using this
  have Bf:Below w w Wf:=by rw[z];exact Below.setCell (Below.setCell R (by first|omega|(simp;done)|(simp;omega)) _) (by first|omega|(simp;done)|(simp;omega)) _
  have Gf:=M.cell;clear z G1 G2 F2;exact bodyPost_ret (v:=.tuple #[.agg #['0',()],.bool false]) (by simp[results,results83,go_sem,Gf]) rfl ⟨none,0,0,by rw[HN.out,HF.out],by rw[HL.out];exact aM.nil _ _ _,Bf⟩
 |true=>
  obtain⟨N,rfl,h5,O,c7,_⟩:=cU (kH I);have Z:iX N l=N:=by unfold iX;rw[I];rfl
  have Y:fI N l=bQ (kD l) (2^N):=by unfold fI;rw[I,if_pos rfl,O]
  have HN:=aJ Z;have HL:=aJ Y;have HF:=aJ I;have a6:Calls prog 191 #[(N:Int),.func (.func 192) #[] #[.pointer (some ⟨w,0,none⟩)]] w1 fun e w'=>
    ∃ad i S,e=.returned (.agg #[(N:Int),ajH ad i S])/\aM 3 w1 w' (ajH ad i S) (bQ (kD l) (2^N))/\Below w1 w1 w':=
   wP w1 N aI 192 E0 w.heap.size (kD l) (fun s W' hs hB=>XR W' w.heap.size N s l _ (b9.keep hB) (J.keep hB) aI O h5)
  have b4:=aJ a6;clear Z Y a6 I O;go_wp2_with fail;refine b4.out.mono ?_;rintro e w3 ⟨p3,i3,q3,rfl,o3,a1⟩;have B3:=R.after a1 R.size;have K:=D.keep a1;clear G1 G2 F2;have G2:=K.cell;have F2:=K.frozen;have z5:=K.lt;have y1:=R.size;go_wp2;refine aZ ?_;intro Wf z;have M:aR Wf (w.heap.size+1) 31 #[N,ajH p3 i3 q3]:=by rw[z];have:=(K.set 0 (ajJ N)).set 1 (ajH p3 i3 q3);simpa using this
  have Bf:Below w w Wf:=by rw[z];exact Below.setCell (Below.setCell B3 (by first|omega|(simp;done)|(simp;omega)) _) (by first|omega|(simp;done)|(simp;omega)) _
  have of:aM 3 w Wf (ajH p3 i3 q3) (bQ (kD l) (2^N)):=by rw[z];exact((o3.setBelow (by first|omega|(simp;done)|(simp;omega)) _).setBelow (by first|omega|(simp;done)|(simp;omega)) _).mono (by first|omega|(simp;done)|(simp;omega))
  have Gf:=M.cell;clear z G2 F2;exact bodyPost_ret (v:=.tuple #[.agg #[N,ajH p3 i3 q3],.bool true]) (by simp[results,results83,go_sem,Gf]) rfl ⟨p3,i3,q3,by rw[HN.out,HF.out],by rw[HL.out];exact of,Bf⟩
theorem ahL(w:World)(n:Int)(v:Value)(l:List Int)(hv:aO w v l)(hl:l.length<=1048576):
  Calls prog 84 #[.agg #[n,v]] w fun e w'=>∃ad i I,e=.returned (.tuple #[.agg #[(iX n l),ajH ad i I],.bool (dE n l)])/\aM 3 w w' (ajH ad i I) (gH n l)/\Below w w w':=by
 obtain⟨a,c,rfl⟩:=hv.shape;go_enter func84,ntmps84;go_wp2_with fail;refine bB ?_;intro V hV;have B:Below w w V:=fY hV;have K1:aR V w 26 #[n,ajH a l.length c]:=gL hV;have F:aR V (w.heap.size+1) 31 #['0',()]:=gV hV;clear hV;refine(lN n l _ _ (hv.below B aK) hl).mono ?_;rintro e w1 ⟨rfl,J⟩;have M:=K1.keep J;have D:=F.keep J;have S:=B.after J B.size;have G1:=M.cell;have G2:=D.cell;have F2:=D.frozen;have z1:=M.lt;have z2:=D.lt;have e0:=hv.below S aK;clear K1 F B J
 cases K:dE n l with
 |false=>
  have hN:iX n l=0:=by unfold iX;rw[K];rfl
  have hL:gH n l=[]:=by unfold gH;rw[K];rfl
  have HN:=aJ hN;have HL:=aJ hL;have HF:=aJ K;clear hN hL;go_wp2;refine aZ ?_;intro Wf z;have O:aR Wf (w.heap.size+1) 31 #['0',()]:=by rw[z];have:=(D.set 0 (ajJ 0)).set 1 (ajH none 0 0);simpa using this
  have Bf:Below w w Wf:=by rw[z];exact Below.setCell (Below.setCell S (by first|omega|(simp;done)|(simp;omega)) _) (by first|omega|(simp;done)|(simp;omega)) _
  have Gf:=O.cell;clear z G1 G2 F2;exact bodyPost_ret (v:=.tuple #[.agg #['0',()],.bool false]) (by simp[results,results84,go_sem,Gf]) rfl ⟨none,0,0,by rw[HN.out,HF.out],by rw[HL.out];exact aM.nil _ _ _,Bf⟩
 |true=>
  obtain⟨N,rfl,h5,a8,a9,_⟩:=cU (kH K);have hN:iX N l=N:=by unfold iX;rw[K];rfl
  have hL:gH N l=iY (bQ (tK l) (2^N)):=by unfold gH;rw[K,if_pos rfl,a8]
  have HN:=aJ hN;have HL:=aJ hL;have HF:=aJ K;have a7:Calls prog 191 #[(N:Int),.func (.func 194) #[] #[.pointer (some ⟨w,0,none⟩)]] w1 fun e w'=>
    ∃ad i I,e=.returned (.agg #[(N:Int),ajH ad i I])/\aM 3 w1 w' (ajH ad i I) (bQ (tK l) (2^N))/\Below w1 w1 w':=
   wP w1 N aI 194 E3 w.heap.size (tK l) (fun s W' hs hB=>XZ W' w.heap.size N s l _ (e0.keep hB) (M.keep hB) aI a9)
  have b0:=fG (tK l) (2^N);have b1:∀(W:World) (ad:Option Addr) (i I:Nat),aO W (ajH ad i I) (bQ (tK l) (2^N))->Calls prog 195 #[.agg #[(N:Int),ajH ad i I]] W fun e w'=>
    ∃Y i' Z,e=.returned (.tuple #[.agg #[(N:Int),ajH Y i' Z],.bool true])/\aM 3 W w' (ajH Y i' Z) (iY (bQ (tK l) (2^N)))/\Below W W w':=fun W ad i I hW=>
   FO N _ _ W hW aI (IS _ N aI)
  have c8:=aJ a7;have d5:=aJ b1;clear hN hL a7 b1 K a8 b0;go_wp2_with fail;refine c8.out.mono ?_;rintro e w3 ⟨p3,i3,q3,rfl,o3,R⟩;have B3:=S.after R S.size;have F:=D.keep R;clear G1 G2 F2;go_wp2_with fail;refine(d5.out _ p3 i3 q3 (o3.alloc _).ints).mono ?_;rintro e w5 ⟨p5,i5,q5,rfl,o5,d8⟩;have b5:Below w3 w3 w5:=(aY w3 _).after d8 (by simp);have B5:=B3.after b5 B3.size;have F:=F.keep b5;have G2:=F.cell;have F2:=F.frozen;have z5:=F.lt;have y3:=B3.size;have y1:=S.size;have z6:=R.size;have z7:=b5.size;go_wp2;refine aZ ?_;intro Wf z;have O:aR Wf (w.heap.size+1) 31 #[N,ajH p5 i5 q5]:=by rw[z];have:=(F.set 0 (ajJ N)).set 1 (ajH p5 i5 q5);simpa using this
  have Bf:Below w w Wf:=by rw[z];exact Below.setCell (Below.setCell B5 (by first|omega|(simp;done)|(simp;omega)) _) (by first|omega|(simp;done)|(simp;omega)) _
  have of:aM 3 w Wf (ajH p5 i5 q5) (iY (bQ (tK l) (2^N))):=by rw[z];have e4:=o5.mono (B':=w3.heap.size) (by simp);exact((e4.setBelow (by first|omega|(simp;done)|(simp;omega)) _).setBelow (by first|omega|(simp;done)|(simp;omega)) _).mono (by first|omega|(simp;done)|(simp;omega))
  have Gf:=O.cell;clear z G2 F2;exact bodyPost_ret (v:=.tuple #[.agg #[N,ajH p5 i5 q5],.bool true]) (by simp[results,results84,go_sem,Gf]) rfl ⟨p5,i5,q5,by rw[HN.out,HF.out],by rw[HL.out];exact of,Bf⟩
theorem agM(t s:Nat):((t:Int)==(s:Int))=decide (t=s):=by
 by_cases h:t=s
 ·subst h;simp
 ·rw[decide_eq_false h,beq_eq_false_iff_ne];omega
theorem abF{N s:Nat}(h:s<2^N):fA N (s:Int)=true:=by
 unfold fA;have:((2^N:Nat):Int)=(2:Int)^N:=by simp
 simp only[Bool.and_eq_true,decide_eq_true_eq];omega
theorem aaL(w:World)(N:Nat)(v:Value)(l:List Int)(hv:aO w v l)(hl:l.length<=1048576)(hf:eR N l=true)(s:Nat)(hs:s<2^N):
  Calls prog 276 #[.agg #[(N:Int),v],s] w fun e w'=>e=.returned (mO l s N)/\Below w w w':=by
 have a8:=hv;obtain⟨a,c,rfl⟩:=hv.shape;have K0:=aR.new w 26 #[(N:Int),ajH a l.length c];obtain⟨_,hN,h5,b9,d7,a1⟩:=cU (oW hf);have hN:=Int.ofNat.inj hN;subst hN;have hg:∀k W,k<N->aO W (ajH a l.length c) l->Calls prog 170 #[.agg #[(N:Int),ajH a l.length c],(s:Int),(k:Int)] W fun e' w'=>e'=.returned (dX l s k)/\Below W W w':=fun k W hk hW=>by have h1:=eM s k N hs hk;exact AW N l _ s k W hW aI aI aI aI a1
 have F:=FY l s N hs;have b0:=aJ F;have HG:=aJ hg;have HF:=aJ hf;have b1:=aJ (abF hs);have f3:(2:Nat)^N<=32:=Nat.pow_le_pow_right (n:=2) aV h5;obtain⟨R,hR⟩:=aN (mO l s N);rw[<-hR];have HR:=aJ hR;clear F hg hf a1 hR b9;go_enter func276,ntmps276;go_wp2_with fail;refine(uB N l _ _ (a8.alloc _) hl).mono ?_;rintro e w1 ⟨rfl,J⟩;rw[HF.out];have B1:Below w w w1:=(aY _ _).after J (by simp);have K1:=K0.keep J;have c6:=a8.below B1 aK;clear J K0;have G:=K1.cell;go_wp2_with (go_at_call 183;refine(pX N s _ aI).mono ?_;rintro e w2 ⟨rfl,rfl⟩;rw[b1.out]);go_loopw [5,20] (fun ov iv wr=>∃k:Nat,k<=N/\iv=ajJ k/\ov=ajJ (mO l s k)/\Below w1 w1 wr) (fun _ iv _=>N-(intOf iv).toNat)
 case atStart=>exact⟨0,Nat.zero_le _,rfl,rfl,Below.refl _ _⟩
 case round=>
  obtain⟨k,hk,rfl,rfl,B⟩:=hrel;obtain⟨wo,rfl⟩:∃wo:World,wo=wr:=⟨_,rfl⟩;clear G;have K:=K1.keep B;have G:=K.cell;by_cases b8:k<N
  ·have Y:(k:Int)<(N:Int):=aI;have z:mO l s (k+1)=if dX l s k=0 then bO (mO l s k) k else mO l s k:=rfl;have hlt:=b0.out k hk;have M:=HG.out k wo b8 (c6.below B aK);have a6:=fW (mO l s k) k aI aI;obtain⟨t,ht⟩:=aN (mO l s k);obtain⟨t2,a7⟩:=aN (bO t k);obtain⟨x,hx⟩:=aN (dX l s k);rw[<-ht]at z hlt a6 ⊢;rw[<-a7]at z a6;rw[<-hx]at z M;have S:=aJ M;have D:=cK k 6 aI;have f0:(2:Int)^k<=64:=by simpa using D.1
   have f2:=D.2;have e9:(0:Int)<=(k:Int):=Int.natCast_nonneg _;clear ht a7 hx M D;by_cases O:x=0
   ·rw[if_pos O]at z;have c7:(x==0)=true:=by simp[O]
    have I:=aJ z;clear z O;go_wp2_with (go_at_call 170;refine S.out.mono ?_;rintro e w3 ⟨rfl,b3⟩);go_roundw
    case rel=>exact⟨k+1,by omega,by go_num,by rw[I.out],B.after b3 B.size⟩
    case measure=>simp[intOf];omega
   ·rw[if_neg O]at z;have c7:(x==0)=false:=by simp[O]
    have I:=aJ z;clear z O;go_wp2_with (go_at_call 170;refine S.out.mono ?_;rintro e w3 ⟨rfl,b3⟩);go_roundw
    case rel=>exact⟨k+1,by omega,by go_num,by rw[I.out],B.after b3 B.size⟩
    case measure=>simp[intOf];omega
  ·have Y:¬(k:Int)<(N:Int):=aI;have Z:k=N:=aI;subst Z;rw[<-HR.out];go_wp2;go_ret;exact⟨rfl,B1.after B B1.size⟩
theorem YY(w:World)(N:Nat)(v:Value)(l:List Int)(I:aO w v l)(hl:l.length<=1048576)(M:eR N l=true)(s:Nat)(O:s<2^N):
  Calls prog 196 #[.agg #[(N:Int),v],s] w fun e w'=>e=.returned (.bool (lH l N s))/\Below w w w':=by
 have F:=I;obtain⟨a,c,rfl⟩:=I.shape;have hc:=fun W (h:aO W (ajH a l.length c) l)=>aaL W N _ l h hl M s O;have z:=YB l s N;obtain⟨t,ht⟩:=aN (mO l s N);simp only[<-ht]at hc;rw[<-ht]at z;have J:=aJ hc;have D:=aJ z;have R:(0:Int)<=(s:Int):=Int.natCast_nonneg _;clear hc z ht;go_enter func196,ntmps196;go_wp2_with fail;refine(J.out _ (F.alloc _)).mono ?_;rintro e w1 ⟨rfl,K⟩;go_wp2;go_ret;exact⟨aW (by rw[<-D.out];exact agM t s),(aY _ _).after K (by simp)⟩
theorem ahQ(w:World)(n:Int)(v:Value)(l:List Int)(hv:aO w v l)(hl:l.length<=1048576):
  Calls prog 85 #[.agg #[n,v]] w fun e w'=>∃ad i cp,e=.returned (.tuple #[ajH ad i cp,.bool (eR n l)])/\aM 3 w w' (ajH ad i cp) (mJ n l)/\Below w w w':=by
 have O:=hv;obtain⟨a,c,rfl⟩:=hv.shape;have K0:=aR.new w 26 #[n,ajH a l.length c]
 cases J:eR n l with
 |false=>
  have R:mJ n l=[]:=by unfold mJ;rw[J];rfl
  have HL:=aJ R;have HF:=aJ J;clear R J;go_enter func85,ntmps85;go_wp2_with fail;refine(uB n l _ _ (O.alloc _) hl).mono ?_;rintro e w1 ⟨rfl,F⟩;rw[HF.out];go_wp2;go_ret2;exact⟨none,0,0,rfl,by rw[HL.out];exact aM.nil _ _ _,(aY _ _).after F (by simp)⟩
 |true=>
  obtain⟨N,rfl,h5,b8,d6,b9⟩:=cU (oW J);have R:mJ N l=bQ (lH l N) l.length:=by unfold mJ;rw[J];rfl
  have M:=fun(W:World) (h:aO W (ajH a l.length c) l) (s:Nat) (hs:s<l.length)=>YY W N _ l h hl J s aI;obtain⟨P,hP⟩:=aN (lH l N);rw[<-hP]at R;simp only[<-hP]at M;have HL:=aJ R;have HF:=aJ J;have b4:=aJ M;clear R J M hP b9 b8;go_enter func85,ntmps85;go_wp2_with fail;refine(uB N l _ _ (O.alloc _) hl).mono ?_;rintro e w1 ⟨rfl,F⟩;rw[HF.out];have B1:Below w w w1:=(aY _ _).after F (by simp);have K1:=K0.keep F;have c6:=O.below B1 aK;clear F K0;have G:=K1.cell;go_wp2_with fail;go_loopw [4,12] (fun ov iv wr=>∃(k:Nat) (p:Option Addr) (i q:Nat),k<=l.length/\iv=ajJ k/\ov=ajH p i q/\aM 3 w1 wr (ajH p i q) (bQ P k)/\Below w1 w1 wr) (fun _ iv _=>l.length-(intOf iv).toNat)
  case atStart=>exact⟨0,_,_,_,Nat.zero_le _,rfl,rfl,aM.nil _ _ _,Below.refl _ _⟩
  case round=>
   obtain⟨k,p,i,q,hk,rfl,rfl,ho,B⟩:=hrel;obtain⟨wo,rfl⟩:∃wo:World,wo=wr:=⟨_,rfl⟩;clear G;have K:=K1.keep B;have G:=K.cell;by_cases b7:k<l.length
   ·have a6:(k:Int)<(l.length:Int):=aI;have a1:=fJ P k;have e4:(bQ P k).length<=64:=Nat.le_trans (fG P k) aI;have S:=aJ a1;clear a1;have Y:=aJ (b4.out wo (c6.below B aK) k b7)
    cases I:P k with
    |false=>
     have D:=aJ I;clear I;go_wp2_with fail;refine Y.out.mono ?_;rintro e w3 ⟨rfl,Z⟩;rw[D.out];go_wp2;go_roundw
     case rel=>exact⟨k+1,p,i,q,by omega,by go_num,rfl,by rw[S.out,D.out];exact ho.keep Z,B.after Z B.size⟩
     case measure=>simp[intOf];omega
    |true=>
     have D:=aJ I;clear I;go_wp2_with fail;refine Y.out.mono ?_;rintro e w3 ⟨rfl,Z⟩;rw[D.out];have a8:=ho.keep Z;have B3:=B.after Z B.size;have rr:=a8.lt;go_wp2_with (at_builtin;refine cW rfl _ _ _ rfl 3 underlying24 aP w1.heap.size (ajH p i q) (bQ P k) (k:Int) _ rfl rfl (aX _ _ _ _ _ rfl) (a8.alloc _) ⟨by omega,by omega⟩ aI (by have:=B3.size;simp;omega) ?_;intro v7 w7 o7 g7;obtain⟨p7,i7,q7,rfl⟩:=o7.shape3);have B7:=(B3.alloc B3.size (.cells #[(k:Int)] 3)).grown g7 (by have:=B3.size;simp;omega) (fun z hz=>(rr _ hz).1);go_roundw
     case rel=>exact⟨k+1,p7,i7,q7,by omega,by go_num,rfl,by rw[S.out,D.out];exact o7,B7⟩
     case measure=>simp[intOf];omega
   ·have a6:¬(k:Int)<(l.length:Int):=aI;have a7:k=l.length:=aI;subst a7;go_wp2;go_ret2;exact⟨p,i,q,rfl,by rw[HL.out];exact ho.mono B1.size,B1.after B B1.size⟩
end
end Go.Proofs.YtcpoomdoodlkjaaGreatDoor
