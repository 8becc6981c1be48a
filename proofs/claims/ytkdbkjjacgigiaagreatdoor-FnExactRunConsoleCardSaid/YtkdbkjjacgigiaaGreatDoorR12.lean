/- Lemmas for CardRunConsole. No condition. -/
import Derived.Test.YtkdbkjjacgigiaaGreatDoorR11
set_option maxRecDepth 100000
set_option maxHeartbeats 64000000
namespace Go.Proofs.YtkdbkjjacgigiaaGreatDoor
section
open Go.RowKit Go.G5 Go.Proofs.Tryz
variable(w:World)(n:Int)(v:Value)(l:aI)
theorem ao1:∀T:List mJ,(∀t∈T,zM l t=false)->(jX (kW l) T none)=(none,true):=by
 intro T
 induction T with
 |nil=>intro _;rfl
 |cons t T ih=>
  intro h;have e:kW l none t=(none,true):=by unfold kW;rw[h t bF];rfl
  rw[jX,e,if_pos rfl];exact ih (fun u z=>h u (by simp[z]))
theorem arS:∀T:List mJ,(jX (kW l) T none).1=none->∀t∈T,zM l t=false:=by
 intro T
 induction T with
 |nil=>intro _ t ht;cases ht
 |cons u T ih=>
  intro h t ht;by_cases hb:zM l u=true
  .have e:kW l none u=(some u,false):=by unfold kW;rw[if_pos hb]
   rw[jX,e]at h;simp at h
  .have e:kW l none u=(none,true):=by unfold kW;rw[if_neg hb];rfl
   rw[jX,e,if_pos rfl]at h;rcases fK.1 ht with rfl|ht
   .simpa using hb
   .exact ih h t ht
theorem ar6(n N s i k:Nat)(D:s<N)(z:i<k)(hk:k<n)(h1:eI s i=false)(h2:eI s k=false):(s,i,k)∈lR n N:=by
 obtain⟨r,hr⟩:=MJ n N s i (k+1) D aA aA;rw[hr];refine List.mem_append_left _ (List.mem_append_right _ ?_);rw[rA,h1,h2,bH z];simp
theorem apE(s i k:Nat):∀t∈rA s i k,eI t.1 t.2.1=false/\eI t.1 t.2.2=false:=by
 induction k with
 |zero=>intro t h;cases h
 |succ k ih=>
  intro t h;rw[rA,dM]at h;rcases h with h|h
  .exact ih t h
  .split at h
   .rename_i hc;rw[eM]at h;simp only[Bool.and_eq_true,Bool.not_eq_true']at hc;subst h;exact⟨hc.2.1,hc.2.2⟩
   .cases h
theorem amF(n s i:Nat):∀t∈nO n s i,eI t.1 t.2.1=false/\eI t.1 t.2.2=false:=by
 induction i with
 |zero=>intro t h;cases h
 |succ i ih=>
  intro t h;rw[nO,dM]at h;rcases h with h|h
  .exact ih t h
  .exact apE s i n t h
theorem amG(n s:Nat):∀t∈lR n s,eI t.1 t.2.1=false/\eI t.1 t.2.2=false:=by
 induction s with
 |zero=>intro t h;cases h
 |succ s ih=>
  intro t h;rw[lR,dM]at h;rcases h with h|h
  .exact ih t h
  .exact amF n s n t h
theorem arZ(N:Nat)(l:aI)(z:cS N l=true):iW N l=true↔∀s i k:Nat,s<2^N->i<k->k<N->eI s i=false->eI s k=false->nB l s i k<=0:=by
 have I:sR (N:Int) l=ER N l:=by unfold sR;rw[z,if_pos rfl,cA]
 constructor
 .intro h s i k K D hk h1 h2
  have F:ER N l=none:=by
   unfold iW mS at h;rw[z,I,Bool.true_and,Bool.not_eq_true']at h
   cases J:ER N l with
   |none=>rfl
   |some t=>rw[J]at h;cases h
  have:=arS l _ F (s,i,k) (ar6 N (2^N) s i k K D hk h1 h2);unfold zM at this;have:=eZ this;dsimp only at this;omega
 .intro h
  have F:ER N l=none:=by
   unfold ER;rw[ao1 l _ (fun t ht=>by
    obtain⟨h1,h2,h3⟩:=abB N (2^N) t ht;have hb:=amG N (2^N) t ht;unfold zM;exact bG (by have:=h t.1 t.2.1 t.2.2 h1 h2 h3 hb.1 hb.2;omega))]
  unfold iW mS;rw[z,I,F];rfl
theorem LS(s:Nat):(mP l).getD s 0=-(l.getD s 0):=by
 by_cases h:s<l
 .rw[cJ (mP l) s (by rw[xT];exact h),adW l s h,cJ l s h]
 .rw[bR,List.getElem?_eq_none (by rw[xT];omega),bR,List.getElem?_eq_none aA];rfl
theorem aqO(s i k:Nat):nB (mP l) s i k=- nB l s i k:=by
 unfold nB;simp only[LS];omega
theorem MI(s e j:Nat):(dF s e).testBit j=(s.testBit j||decide (e=j)):=by
 unfold dF;rw[Nat.testBit_or,Nat.testBit_two_pow]
theorem aqP(s i k:Nat):nB l s i k=fW l (dF s i) k-fW l s k:=by
 unfold nB fW;rw[tM];omega
theorem anE(s i k:Nat):nB l s i k=nB l s k i:=by
 unfold nB;rw[Nat.or_comm (dF s i)];omega
theorem ah9(N:Nat)(l:aI)(h:∀s i k:Nat,s<2^N->i<k->k<N->eI s i=false->eI s k=false->0<=nB l s i k)
  (A B e:Nat) (hB:B<2^N) (he:e<N) (J:∀j,A.testBit j=true->B.testBit j=true) (D:B.testBit e=false):fW l A e<=fW l B e:=by
 have h':∀s i k:Nat,s<2^N->i≠k->i<N->k<N->s.testBit i=false->s.testBit k=false->0<=nB l s i k:=by
  intro s i k h1 h2 h3 h4 O R;rw[<-M9]at O R;rcases Nat.lt_or_gt_of_ne h2 with S|S
  .exact h s i k h1 S h4 O R
  .rw[anE];exact h s k i h1 S h3 R O
 have step:∀j,fW l A e<=fW l (A ||| B%2^j) e:=by
  intro j
  induction j with
  |zero=>simp[Nat.mod_one]
  |succ j ih=>
   by_cases hb:B.testBit j=true/\A.testBit j=false
   .have z:A ||| B%2^(j+1)=dF (A ||| B%2^j) j:=by
     apply Nat.eq_of_testBit_eq
     intro i;rw[MI,Nat.testBit_or,Nat.testBit_or,Nat.testBit_mod_two_pow,Nat.testBit_mod_two_pow];by_cases F:j=i
     .subst F;simp[hb.1]
     .rw[bG F,Bool.or_false]
      congr 2
      exact decide_eq_decide.2 ⟨fun q=>aA,fun q=>aA⟩
    have Z:j<N:=by
     rcases Nat.lt_or_ge j N with q|q
     .exact q
     .have:=Nat.testBit_lt_two_pow (x:=B) (i:=j) (dX hB (bQ bZ q));rw[this]at hb;cases hb.1
    have hlt:A ||| B%2^j<2^N:=by
     apply Nat.lt_pow_two_of_testBit
     intro i hi;have K:=Nat.testBit_lt_two_pow (x:=B) (i:=i) (dX hB (bQ bZ hi));rw[Nat.testBit_or,Nat.testBit_mod_two_pow,K]
     cases I:A.testBit i with
     |false=>simp
     |true=>rw[J i I]at K;cases K
    have a1:j≠e:=by intro q;rw[q,D]at hb;cases hb.1
    have h1:(A ||| B%2^j).testBit j=false:=by rw[Nat.testBit_or,Nat.testBit_mod_two_pow,hb.2];simp
    have h2:(A ||| B%2^j).testBit e=false:=by
     rw[Nat.testBit_or,Nat.testBit_mod_two_pow,D]
     cases I:A.testBit e with
     |false=>simp
     |true=>rw[J e I]at D;cases D
    have:=h' _ j e hlt a1 Z he h1 h2;rw[aqP]at this;rw[z];omega
   .have z:A ||| B%2^(j+1)=A ||| B%2^j:=by
     apply Nat.eq_of_testBit_eq
     intro i;rw[Nat.testBit_or,Nat.testBit_or,Nat.testBit_mod_two_pow,Nat.testBit_mod_two_pow];by_cases F:j=i
     .subst F
      cases I:A.testBit j with
      |true=>simp
      |false=>
       cases Y:B.testBit j with
       |false=>simp
       |true=>exact absurd ⟨Y,I⟩ hb
     .congr 2
      exact decide_eq_decide.2 ⟨fun q=>aA,fun q=>aA⟩
    rw[z];exact ih
 have M:A ||| B%2^N=B:=by
  rw[Nat.mod_eq_of_lt hB]
  apply Nat.eq_of_testBit_eq
  intro i;rw[Nat.testBit_or]
  cases I:A.testBit i with
  |false=>simp
  |true=>rw[J i I];rfl
 have:=step N;rw[M]at this;exact this
structure Perm (N:Nat) (o:List Int):Prop where
 len:o.length=N
 d:Dist N o
theorem Perm.nn{N:Nat}{o:aI}(h:Perm N o):∀x∈o,0<=x:=fun x z=>(h.d.bd x z).1
theorem Perm.fresh{N:Nat}{o:aI}(h:Perm N o)(k:Nat)(hk:k<o):o[k]∉o.take k:=by
 intro hm;have:=h.d.nd;have e:o=o.take k++(o[k]::o.drop (k+1)):=by rw[<-List.drop_eq_getElem_cons hk,List.take_append_drop]
 rw[e]at this;have h2:=(List.nodup_append.1 this).2.2;exact h2 _ hm _ List.mem_cons_self rfl
theorem aaM:∀s:Nat,s<32->dG s=0->s=0:=dS
theorem aaO:∀s:Nat,s<32->0<dG s->∃e,e<5/\(s.testBit e=true/\∃t,t<32/\(s=dF t e/\t.testBit e=false/\dG s=dG t+1)):=dS
theorem yF{n:Int}{l:aI}(h:eX n l=true):gU n l=true:=by
 unfold eX at h;simp only[Bool.and_eq_true]at h;exact h.1
theorem mZ{n:Int}{l:aI}(h:eX n l=true):cS n l=true:=uA (yF h)
theorem arP{N:Nat}{l:aI}(h:eX N l=true):∀s,s<2^N->l.getD s 0<=(dG s:Int):=by
 have F:=yF h;have hf:=mZ h;obtain⟨_,O,Z,b1,a7,b3⟩:=eJ hf;have O:=Int.ofNat.inj O;subst O;have S:iW N l=true:=by unfold gU at F;simp only[Bool.and_eq_true]at F;exact F.2
 have h0:l.getD 0 0=0:=by unfold gU gP at F;simp only[Bool.and_eq_true,decide_eq_true_eq]at F;exact F.1.1.2
 have h1:∀e,e<N->l.getD (2^e) 0<=1:=fun e he=>by unfold eX at h;simp only[Bool.and_eq_true,Int.toNat_natCast]at h;have:=gD.1 h.2 e he;unfold BQ at this;simp only[Bool.not_eq_true',decide_eq_false_iff_not]at this;omega
 have hex:=(arZ N l hf).1 S;have J:∀s i k:Nat,s<2^N->i<k->k<N->eI s i=false->eI s k=false->0<=nB (mP l) s i k:=fun s i k a b c d e=>by rw[aqO];have:=hex s i k a b c d e;omega
 have I:∀s e,fW (mP l) s e=- fW l s e:=fun s e=>by unfold fW;rw[LS,LS];omega
 have D:∀s e,s<2^N->e<N->s.testBit e=false->l.getD (dF s e) 0<=l.getD s 0+1:=fun s e a b c=>by
  have g1:=ah9 N (mP l) J 0 s e a b (fun j hj=>by simp at hj) c;rw[I,I]at g1;have g2:=h1 e b;have e0:dF 0 e=2^e:=by unfold dF;simp
  unfold fW at g1;rw[e0]at g1;omega
 have key:∀m s,dG s=m->s<2^N->l.getD s 0<=(m:Int):=by
  intro m
  induction m with
  |zero=>intro s K z;have p5:(2:Nat)^N<=32:=bQ (n:=2) bZ Z;have:s=0:=aaM s aA K;subst this;rw[h0];simp
  |succ m ih=>
   intro s K z;have p5:(2:Nat)^N<=32:=bQ (n:=2) bZ Z;obtain⟨e,he,hb,t,_,ht,Y,b4⟩:=aaO s aA aA;have R:e<N:=by
    rcases Nat.lt_or_ge e N with h|h
    .exact h
    .have:=Nat.testBit_lt_two_pow (dX z (bQ bZ h));rw[this]at hb;cases hb
   have M:t<2^N:=by rw[ht]at z;exact Nat.lt_of_le_of_lt (by unfold dF;exact Nat.left_le_or) z
   have h2:=ih t aA M;have h3:=D t e M R Y;rw[<-ht]at h3;omega
 exact fun s S=>key (dG s) s rfl S
def oY(l:List Int):Int:=l.getD (l.length-1) 0
def mV(l:List Int)(s:Nat):Bool:=gJ l s&&decide (l.getD s 0=oY l)
def xO(l:List Int)(s:Nat):Bool:=!gJ l s
def lE(n:Int)(l:List Int):Int:=if eX n l then n else 0
def iX(n:Int)(l:List Int):List Int:=if eX n l then dE (mV l) l.length else []
def jW(n:Int)(l:List Int):List Int:=if eX n l then lF (dE (xO l) l.length) else []
theorem ap6(s:Nat):mV l s=(decide (l.getD s 0=oY l)&&decide ((dG s:Int)=oY l)):=by
 unfold mV gJ;by_cases h1:l.getD s 0=oY l
 .rw[bH h1,Bool.and_true,Bool.true_and,h1];by_cases h2:oY l=(dG s:Int)
  .rw[bH h2,bH h2.symm]
  .rw[bG h2,bG (fun e=>h2 e.symm)]
 .rw[bG h1,Bool.and_false,Bool.false_and]
theorem aqB{N:Nat}{l:aI}(h:eX N l=true)(s:Nat)(z:s<2^N):xO l s=decide (l.getD s 0<(dG s:Int)):=by
 have h1:=arP h s z;unfold xO gJ;by_cases h2:l.getD s 0=(dG s:Int)
 .rw[bH h2,bG aA];rfl
 .rw[bG h2,bH aA];rfl
def oQ(l:List Int)(n s:Nat):Bool:=dP (fun e=>eI s e||!(fW l s e==0)) n
def rD(n:Int)(l:List Int):List Int:=if gU n l then dE (oQ l n.toNat) l.length else []
theorem NG{N:Nat}{l:aI}(D:gU N l=true):∀s,s<2^N->0<=l.getD s 0:=by
 have hf:=uA D;obtain⟨_,K,S,O,Z,a7⟩:=eJ hf;have K:=Int.ofNat.inj K;subst K;have h0:l.getD 0 0=0:=by unfold gU gP at D;simp only[Bool.and_eq_true,decide_eq_true_eq]at D;exact D.1.1.2
 have F:∀s e,s<2^N->e<N->l.getD s 0<=l.getD (dF s e) 0:=fun s e R Y=>by unfold gU rG at D;simp only[Bool.and_eq_true,Int.toNat_natCast]at D;have h1:=gD.1 D.1.2.2 s (by rw[O];exact R);have h2:=gD.1 h1 e Y;unfold BL fW at h2;simp only[Bool.not_eq_true',decide_eq_false_iff_not]at h2;omega
 have key:∀m s,dG s=m->s<2^N->0<=l.getD s 0:=by
  intro m
  induction m with
  |zero=>intro s I z;have p5:(2:Nat)^N<=32:=bQ (n:=2) bZ S;have:s=0:=aaM s aA I;subst this;rw[h0];simp
  |succ m ih=>
   intro s I z;have p5:(2:Nat)^N<=32:=bQ (n:=2) bZ S;obtain⟨e,Y,hb,t,_,ht,a9,a8⟩:=aaO s aA aA;have M:e<N:=by
    rcases Nat.lt_or_ge e N with h|h
    .exact h
    .have:=Nat.testBit_lt_two_pow (dX z (bQ bZ h));rw[this]at hb;cases hb
   have J:t<2^N:=by rw[ht]at z;exact Nat.lt_of_le_of_lt (by unfold dF;exact Nat.left_le_or) z
   have h2:=ih t aA J;have h3:=F t e J M;rw[<-ht]at h3;omega
 exact fun s R=>key (dG s) s rfl R
def rU(l:List Int)(s:Nat):Nat->Nat
 |0=>s
 |k+1=>if fW l s k=0 then dF (rU l s k) k else rU l s k
theorem IE(l:aI)(s j:Nat):∀k,(rU l s k).testBit j=(s.testBit j||(decide (j<k)&&decide (fW l s j=0)))
 |0=>by simp[rU]
 |k+1=>by
  rw[rU];by_cases z:fW l s k=0
  .rw[if_pos z,MI,IE l s j k];by_cases D:k=j
   .subst D;rw[bH (show k<k+1 from aA),bH z];simp
   .rw[bG D,Bool.or_false];by_cases h:j<k
    .rw[bH h,bH (show j<k+1 from aA)]
    .rw[bG h,bG (show ¬j<k+1 from aA)]
  .rw[if_neg z,IE l s j k];by_cases D:k=j
   .subst D;rw[bG z];simp
   .by_cases h:j<k
    .rw[bH h,bH (show j<k+1 from aA)]
    .rw[bG h,bG (show ¬j<k+1 from aA)]
theorem ON(l:aI)(s N:Nat)(z:s<2^N):∀k,k<=N->rU l s k<2^N
 |0,_=>z
 |k+1,h=>by
  rw[rU]
  split
  .exact gI _ _ _ (ON l s N z k aA) aA
  .exact ON l s N z k aA
theorem aeT(s n:Nat):decide (rU l s n=s)=oQ l n s:=by
 cases D:oQ l n s with
 |true=>
  refine bH (Nat.eq_of_testBit_eq fun j=>?_);rw[IE];by_cases z:j<n
  .have:=gD.1 D j z;simp only[Bool.or_eq_true,Bool.not_eq_true',beq_eq_false_iff_ne]at this;rcases this with h|h
   .rw[M9]at h;rw[h];rfl
   .rw[bG h];simp
  .rw[bG z];simp
 |false=>
  refine bG (fun I=>?_);have:oQ l n s=true:=gD.2 fun j z=>by
   have h1:=IE l s j n;rw[I,bH z,Bool.true_and]at h1;by_cases F:fW l s j=0
   .rw[bH F,Bool.or_true]at h1;rw[M9,h1];rfl
   .simp[F]
  rw[this]at D;cases D
theorem anQ{l:aI}{n s e:Nat}(z:e<n)(h1:eI s e=false)(h2:fW l s e=0):oQ l n s=false:=by
 cases D:oQ l n s with
 |false=>rfl
 |true=>have:=gD.1 D e z;rw[h1,h2]at this;simp at this
theorem al4(s e:Nat)(h:eI s e=false):s<dF s e:=by
 have h1:s<=dF s e:=by unfold dF;exact Nat.left_le_or
 rcases Nat.lt_or_eq_of_le h1 with h2|h2
 .exact h2
 .have h3:=MI s e e;rw[<-h2,<-M9,h]at h3;simp at h3
def RI(l k:List Int)(s t:Nat):Bool:=(dY t s==0)&&(gJ l t&&gJ k (dY s t))
def LT(l k:List Int)(s m:Nat):Bool:=dP (fun t=>!RI l k s t) m
def nG(l k:List Int)(s:Nat):Bool:=!LT l k s (s+1)
theorem OE(l k:aI)(s m:Nat):LT l k s (m+1)=(LT l k s m&&!RI l k s m):=rfl
theorem aeB{l k:aI}{s t:Nat}(h:t<=s)(z:RI l k s t=true):nG l k s=true:=by
 unfold nG LT;rw[eT (k:=t) aA (by rw[z];rfl)];rfl
def uR(P:Nat->Bool):Nat->Nat
 |0=>0
 |t+1=>if decide (dG (uR P t)<dG t)&&P t then t else uR P t
theorem VB(P:Nat->Bool)(t:Nat):uR P (t+1)=if decide (dG (uR P t)<dG t)&&P t then t else uR P t:=rfl
theorem S8(P:Nat->Bool):∀t,0<t->uR P t<t:=by
 intro t
 induction t with
 |zero=>intro h;omega
 |succ t ih=>
  intro _;rw[uR]
  split
  .omega
  .rcases Nat.eq_zero_or_pos t with rfl|h
   .simp[uR]
   .have:=ih h;omega
theorem aq4(P:Nat->Bool)(t:Nat):uR P t<=t:=by
 rcases Nat.eq_zero_or_pos t with rfl|h
 .exact aU
 .exact cM (S8 P t h)
theorem aoD(P:Nat->Bool):uR P 1=0:=by have:=S8 P 1 aA;omega
def DI(n:Int)(l:List Int)(m:Int)(k:List Int):Int:=if fP n l m k then (uR (nG l k) l.length:Int) else 0
def au0(l k:List Int)(s:Nat):Bool:=mV l s&&mV k s
def xN(n:Int)(l:List Int)(m:Int)(k:List Int):Int:=if fP n l m k then n else 0
def xM(n:Int)(l:List Int)(m:Int)(k:List Int):List Int:=if fP n l m k then dE (au0 l k) l.length else []
theorem aoT:∀s:Nat,s<32->∀t:Nat,t<32->((t &&& s==t)=(dY t s==0)):=dS
theorem ao8:∀s:Nat,s<32->∀t:Nat,t<32->(t &&& s=t->dY s t=s-t/\t<=s):=dS
theorem OO{n m:Int}{l k:aI}(h:fP n l m k=true):eX n l=true/\eX m k=true:=by
 unfold fP at h;simp only[Bool.and_eq_true]at h;exact h.1
theorem JA(P:Nat->Bool)(k s:Nat):(s:Int)∈dE P k↔(s<k/\P s=true):=by
 unfold dE;constructor
 .intro h;obtain⟨t,ht,z⟩:=List.mem_map.1 h;have:=Int.ofNat.inj z;subst this;have h1:=List.mem_filter.1 ht;exact⟨List.mem_range.1 h1.1,h1.2⟩
 .rintro⟨h1,h2⟩;exact List.mem_map.2 ⟨s,List.mem_filter.2 ⟨List.mem_range.2 h1,h2⟩,rfl⟩
theorem I1(P:Nat->Bool)(k s:Nat):jI (dE P k) (s:Int)=(decide (s<k)&&P s):=by
 unfold jI;by_cases h1:s<k
 .rw[bH h1,Bool.true_and]
  cases h2:P s with
  |true=>exact bH ((JA P k s).2 ⟨h1,h2⟩)
  |false=>exact bG (fun h=>by have:=((JA P k s).1 h).2;rw[h2]at this;cases this)
 .rw[bG h1,Bool.false_and];exact bG (fun h=>h1 ((JA P k s).1 h).1)
theorem WK(P Q:Nat->Bool)(k:Nat):(dE P k).filter (jI (dE Q k))=dE (fun s=>P s&&Q s) k:=by
 have e:dE P k=((List.range k).filter P).map Int.ofNat:=rfl;rw[e,List.filter_map,List.filter_filter];show _=((List.range k).filter _).map Int.ofNat
 congr 1
 refine List.filter_congr (fun s D=>?_);have z:=List.mem_range.1 D;have h1:=I1 Q k s;rw[bH z,Bool.true_and]at h1;show(jI (dE Q k) (s:Int)&&P s)=(P s&&Q s);rw[h1,Bool.and_comm]
theorem ac6(p:Int->Bool)(L:aI)(k:Nat)(h:k<L):(L.take (k+1)).filter p=(L.take k).filter p++(if p L[k] then [L[k]] else []):=by
 rw[cH h,List.filter_append]
 congr 1
 cases z:p L[k]<;>simp[z]
def vD(l:List Int):Nat->Option Int
 |0=>some 0
 |k+1=>match vD l k with
  |none=>none
  |some m=>if l.getD (k+1) 0=0 then none else some (max m (Int.tdiv ((dG (k+1):Int)+l.getD (k+1) 0-1) (l.getD (k+1) 0)))
def D6(n:Int)(l:List Int):Option Int:=if eX n l then vD l (l.length-1) else none
def yA(n:Int)(l:List Int):Int:=(D6 n l).getD 0
def D5(n:Int)(l:List Int):Bool:=(D6 n l).isSome
theorem UN(l:aI)(k:Nat)(h:vD l k=none):∀m,k<=m->vD l m=none
 |0,hm=>by have:k=0:=aA;subst this;exact h
 |m+1,hm=>by
  by_cases hk:k=m+1
  .subst hk;exact h
  .rw[vD,UN l k h m aA]
theorem DR(a b:Int)(z:0<=a)(hb:0<b):0<=Int.tdiv a b/\Int.tdiv a b<=a:=⟨Int.tdiv_nonneg z aA,Int.tdiv_le_self b z⟩
def tD(l:List Int)(N:Nat)(m:Int):Nat->Int
 |0=>m
 |k+1=>if l.getD k 0<oY l then min (tD l N m k) (Int.tdiv ((N:Int)-(dG k:Int)) (oY l-l.getD k 0)) else tD l N m k
def yE(n:Int)(l:List Int):Bool:=eX n l&&!(oY l==0)
def sK(n:Int)(l:List Int):Int:=if yE n l then tD l n.toNat 100 l.length else 0
theorem TS:∀N:Nat,N<6->∀s:Nat,s<2^N->dG s<=N:=dS
theorem aoV:∀N:Nat,N<6->∀s:Nat,s<2^N->dG (dY (2^N-1) s)=N-dG s:=dS
theorem aaG(l:aI)(N:Nat)(D:N<=5)(z:l.getD 0 0=0)(ht:0<oY l):∀k,tD l N N (k+1)=tD l N 100 (k+1)
 |0=>by have p0:dG 0=0:=PD;have h1:=DR (N:Int) (oY l) aA ht;simp only[tD,z,p0];rw[if_pos ht,if_pos ht];simp only[Int.sub_zero,Int.natCast_zero];omega
 |k+1=>by
  rw[tD,aaG l N D z ht k]
  rfl
theorem ND(l:aI)(N:Nat)(z:N<=5)(m:Int)(hm:0<=m/\m<=100):∀k,k<=2^N->0<=tD l N m k/\tD l N m k<=100
 |0,_=>hm
 |k+1,hk=>by
  have h1:=ND l N z m hm k aA;have h2:=TS N aA k aA;rw[tD]
  split
  .rename_i h;have:=DR ((N:Int)-(dG k:Int)) (oY l-l.getD k 0) aA aA;omega
  .exact h1
theorem aaR:0<=sK n l/\sK n l<=100:=by
 unfold sK
 split
 .rename_i h;unfold yE at h;simp only[Bool.and_eq_true]at h;obtain⟨N,rfl,z,D,_⟩:=eJ (mZ h.1);rw[cA];exact ND l N z 100 aA _ aA
 .omega
theorem MT(l:aI)(hl:l.length<=32)(z:∀s,s<l.length->0<=l.getD s 0/\l.getD s 0<=1000):∀k m,k<l.length->vD l k=some m->0<=m/\m<=2000
 |0,m,_,h=>by cases h;omega
 |k+1,m,hk,h=>by
  rw[vD]at h
  cases hc:vD l k with
  |none=>rw[hc]at h;cases h
  |some m0=>
   rw[hc]at h;have h1:=MT l hl z k m0 aA hc;simp only at h
   split at h
   .cases h
   .rename_i D;have h2:=z (k+1) hk;have h3:=xC (k+1) aA;have h4:=DR ((dG (k+1):Int)+l.getD (k+1) 0-1) (l.getD (k+1) 0) aA aA
    cases h
    omega
theorem JN{N:Nat}{l:aI}(h:eX N l=true):0<=oY l/\l.getD 0 0=0:=by
 have z:=yF h;obtain⟨_,D,K,I,F,J⟩:=eJ (mZ h);have D:=Int.ofNat.inj D;subst D;have p0:=dJ N;refine⟨NG z _ aA,?_⟩;unfold gU gP at z;simp only[Bool.and_eq_true,decide_eq_true_eq]at z;exact z.1.1.2
theorem YD:0<=yA n l/\yA n l<=2000:=by
 unfold yA D6
 split
 .rename_i h;obtain⟨N,rfl,J,I,z,D⟩:=eJ (mZ h);have p0:=dJ N
  cases hc:vD l (l.length-1) with
  |none=>simp
  |some m=>refine MT l z (fun s F=>⟨NG (yF h) s aA,?_⟩) (l.length-1) m aA hc;rw[cJ l s F];exact(D s F).2
 .simp
def nW(l:List Int):Nat->Nat
 |0=>0
 |t+1=>if l.getD (nW l t) 0<l.getD t 0 then t else nW l t
theorem VI(t:Nat):nW l (t+1)=if l.getD (nW l t) 0<l.getD t 0 then t else nW l t:=rfl
theorem M8:∀t,0<t->nW l t<t:=by
 intro t
 induction t with
 |zero=>intro h;omega
 |succ t ih=>
  intro _;rw[nW]
  split
  .omega
  .rcases Nat.eq_zero_or_pos t with rfl|h
   .simp[nW]
   .have:=ih h;omega
theorem aoK:nW l 1=0:=by have:=M8 l 1 aA;omega
def EJ(n:Int)(l:List Int):Int:=if cS n l then (nW l l.length:Int) else 0
def BE(n:Int)(l:List Int):Int:=if cS n l then l.getD (nW l l.length) 0 else 0
def lM(N x e:Nat):Nat:=x+(2^N-2^e)
def lB(l:List Int)(N:Nat):Nat->Nat
 |0=>0
 |e+1=>if l.getD (dY (lM N (lB l N e) e) (2^e)) 0-l.getD (lM N (lB l N e) e) 0<=fW l (lB l N e) e then dF (lB l N e) e else lB l N e
def D7(n:Int)(l:List Int):Int:=if cS n l then (lB l n.toNat n.toNat:Int) else 0
theorem auF:∀N,N<6->∀e,e<N->∀x,x<32->x<2^e->(dF x e=x+2^e/\dY (lM N x e) (2^e)=lM N x (e+1)):=dS
theorem auG:∀N,N<6->∀e,e<N->∀x,x<32->x<2^e->(lM N (x+2^e) (e+1)=lM N x e/\lM N x e<2^N):=dS
theorem auH:∀N,N<6->∀e,e<N->∀x,x<32->x<2^e->(2^e<=lM N x e/\lM N x e-2^e=lM N x (e+1)):=dS
theorem auI:∀N,N<6->∀e,e<N->∀x,x<32->x<2^e->(lM N x (e+1)<2^N/\x+2^e<2^N):=dS
theorem OS(N:Nat)(z:N<6)(e:Nat)(D:e<N)(x:Nat)(F:x<32)(h:x<2^e):(dF x e=x+2^e/\dY (lM N x e) (2^e)=lM N x (e+1))/\(lM N (x+2^e) (e+1)=lM N x e/\lM N x e<2^N)/\((2^e<=lM N x e/\lM N x e-2^e=lM N x (e+1))/\(lM N x (e+1)<2^N/\x+2^e<2^N)):=
 ⟨auF N z e D x F h,auG N z e D x F h,auH N z e D x F h,auI N z e D x F h⟩
theorem arL:∀n:Nat,n<6->∀s,s<32->s<2^n->dG s<=n:=dS
theorem MZ(N:Nat)(D:N<=5):∀e,e<=N->lB l N e<2^e:=by
 intro e
 induction e with
 |zero=>intro _;exact Nat.one_pos
 |succ e ih=>
  intro F;have h:=ih aA;have I:(2:Nat)^(e+1)=2*2^e:=by rw[Nat.pow_succ];omega
  have z:(2:Nat)^e<=32:=bQ (n:=2) (j:=5) bZ aA;rw[lB]
  split
  .rw[(OS N aA e aA _ aA h).1.1];omega
  .omega
theorem UQ(N e:Nat):lB l N (e+1)=if l.getD (dY (lM N (lB l N e) e) (2^e)) 0-l.getD (lM N (lB l N e) e) 0<=fW l (lB l N e) e then dF (lB l N e) e else lB l N e:=rfl
theorem YF(N:Nat):lM N 0 0=2^N-1:=by unfold lM;simp
theorem aqA(y e:Nat)(F:y<64)(z:e<6):bits .andNot .i64 (y:Int) (2^e)=((dY y (2^e):Nat):Int):=by
 have D:=Nat.pow_lt_pow_right (show 1<2 from bZ) z;have:=AK y (2^e) F (by simp at D;omega);rw[<-this];push_cast;rfl
theorem AJ{l:aI}(h:∀k,(hk:k<l.length)->-1000<=l[k]/\l[k]<=1000)(i:Nat):-1000<=l.getD i 0/\l.getD i 0<=1000:=by
 by_cases z:i<l
 .rw[cJ l i z];exact h i z
 .have e:l.getD i 0=0:=by unfold List.getD;rw[List.getElem?_eq_none aA];rfl
  rw[e];omega
def sN(l:List Int):Nat->Int
 |0=>l.getD 0 0
 |k+1=>min (sN l k) (l.getD k 0)
def gR(l:List Int):Int:=sN l l.length
def mY(l:List Int)(m:Int):Nat->List Int
 |0=>[]
 |k+1=>if l.getD k 0=m then mY l m k++[(k:Int)] else mY l m k
def sJ(n:Int)(l:List Int):List Int:=if cS n l then mY l (gR l) l.length else []
def tV(M:Int)(q:List Int):Nat->Int
 |0=>M
 |k+1=>cU (tV M q k) (q.getD k 0)
def vK(n:Int)(l:List Int):Int:=if iW n l then tV (2^n.toNat-1) (sJ n l) (sJ n l).length else 0
def zQ(n:Int)(l:List Int):Int:=if cS n l then gR l else 0
theorem adU:sN l 1=l.getD 0 0:=by show min (l.getD 0 0) (l.getD 0 0)=_;omega
theorem aiY(h:0<l.length):∀k,k<=l.length->∃i,i<l.length/\l.getD i 0=sN l k:=by
 intro k
 induction k with
 |zero=>intro _;exact⟨0,h,rfl⟩
 |succ k ih=>
  intro hk;obtain⟨i,z,D⟩:=ih aA;rw[sN];by_cases hc:sN l k<=l.getD k 0
  .exact⟨i,z,aA⟩
  .exact⟨k,aA,aA⟩
theorem atC(m:Int):∀k,∀s∈mY l m k,0<=s/\s<k:=by
 intro k
 induction k with
 |zero=>intro s h;simp[mY]at h
 |succ k ih=>
  intro s h;rw[mY]at h;by_cases hc:l.getD k 0=m
  .rw[if_pos hc]at h;rcases dM.1 h with h|h
   .have:=ih s h;omega
   .have:=eM.1 h;omega
  .rw[if_neg hc]at h;have:=ih s h;omega
theorem Z5(m:Int):∀k,(mY l m k).length<=k:=by
 intro k
 induction k with
 |zero=>simp[mY]
 |succ k ih=>
  rw[mY]
  split
  .simp;omega
  .omega
theorem auP(m:Int)(i:Nat)(z:l.getD i 0=m):∀k,i<k->mY l m k≠[]:=by
 intro k
 induction k with
 |zero=>intro h;omega
 |succ k ih=>
  intro hk;rw[mY];by_cases hc:l.getD k 0=m
  .rw[if_pos hc];simp
  .rw[if_neg hc];have:i≠k:=fun e=>hc (e▸z);exact ih aA
theorem VJ{n:Int}{l:aI}(h:cS n l=true):sJ n l≠[]/\(sJ n l).length<=32/\∀s∈sJ n l,0<=s/\s<2^n.toNat/\s<64:=by
 obtain⟨N,rfl,I,F,z,_⟩:=eJ h;have O:sJ (N:Int) l=mY l (gR l) l.length:=by unfold sJ;rw[h];rfl
 have D:0<l.length:=by rw[F];exact dJ N
 rw[O];obtain⟨i,K,J⟩:=aiY l D l.length aU;refine⟨auP l (gR l) i J l.length K,dC (Z5 l _ _) z,fun s M=>?_⟩;have:=atC l _ _ s M;have h4:((2^N:Nat):Int)=(2:Int)^N:=by push_cast;rfl
 simp only[Int.toNat_natCast];omega
theorem aaX(v:Value)(w:World)(hv:Ints w v l)(z:0<l.length):
  Calls prog 270 #[v] w fun e w'=>e=aQ (gR l)/\w=w':=by
 obtain⟨a,b,I,c,rfl,M,D,hc,hb⟩:=hv.vw;have h1:¬(l.length:Int)<1:=aA;have i0:∀W,(Instr.indexAt 25 (aD a l c) (aO 0)).run prog W=.ok (aP (some ⟨b,I,none⟩)) W:=fun W=>D W 0 z;have c0:w.cell? ⟨b,I,none⟩=some (aO (l.getD 0 0)):=by rw[cJ l 0 z];exact hc 0 z
 go_enter func270,ntmps270;go_wp2;go_loop [3,4] (fun m i=>∃k:Nat,1<=k/\k<=l/\i=aO k/\m=aO (sN l k)) (fun _ i=>l.length-(intOf i).toNat)
 .exact⟨1,aU,z,rfl,by rw[adU,cJ l 0 z]⟩
 obtain⟨k,Z,hk,rfl,rfl⟩:=hrel;by_cases hlt:k<l
 .have K:=hc k hlt;have Y:=fun W=>D W k hlt;have J:sN l (k+1)=min (sN l k) l[k]:=by rw[sN,cJ l k hlt]
  obtain⟨p,N⟩:=aW (l[k]);obtain⟨q,O⟩:=aW (sN l k);rw[<-N]at K J;rw[<-O]at J |-;have S:=aT J;clear J N O hc D;go_wp2;go_round
  .exact⟨k+1,aA,aA,cD,by rw[S.out]<;>(congr 1<;>(split<;>omega))⟩
  exact aY
 .have F:k=l.length:=aA;have R:=aT F;clear F;go_wp2;go_ret;exact⟨jK (by rw[R.out];rfl),rfl⟩
theorem DK(O:Ints w v l):
  aH 192 #[aM #[n,v]] w (aS #[(zQ n l),aG (cS n l)]):=by
 obtain⟨a,c,rfl⟩:=O.shape;go_enter func192,ntmps192;go_wp2_with fail;refine cZ ?_;intro V J;have B:Below w w V:=jP J;have K:bK V w 27 #[n,aD a l c]:=jV J;clear J;refine aV (fO n l _ V (O.below B aU)) ?_;intro w1 R;have K:=K.keep R;have B:=B.after R B.size;have G:=K.cell
 cases z:cS n l with
 |false=>
  have I:zQ n l=0:=by unfold zQ;rw[z];rfl
  have D:=aT (And.intro I z);clear I z;go_wp2;go_ret2;exact⟨by rw[D.out.1,D.out.2];rfl,B⟩
 |true=>
  have I:zQ n l=gR l:=by unfold zQ;rw[z];rfl
  have F:0<l.length:=by obtain⟨N,rfl,_,M,_⟩:=eJ z;rw[M];exact dJ N
  have D:=aT (And.intro I z);have S:=aT (aaX l _ w1 (O.below B aU) F);clear I z;go_wp2_with (go_at_call 270;refine aV S.out ?_;rintro w' rfl);go_ret2;exact⟨by rw[D.out.1,D.out.2];rfl,B⟩
theorem DE(hv:Ints w v l)(z:0<l.length):
  aH 28 #[aM #[n,v]] w (gR l):=by
 obtain⟨a,b,J,c,rfl,N,F,hc,hb⟩:=hv.vw;have D:=bY hc hb (cQ w (.cells #[n,aD a l c] 27)) aU;have i0:∀W,(Instr.indexAt 25 (aD a l c) (aO 0)).run prog W=.ok (aP (some ⟨b,J,none⟩)) W:=fun W=>F W 0 z;have c0:(w.alloc (.cells #[n,aD a l c] 27)).cell? ⟨b,J,none⟩=some (aO (l.getD 0 0)):=by rw[cJ l 0 z];exact D 0 z
 go_enter func28,ntmps28;go_wp2;go_loop [3,4] (fun m i=>∃k:Nat,1<=k/\k<=l/\i=aO k/\m=aO (sN l k)) (fun _ i=>l.length-(intOf i).toNat)
 .exact⟨1,aU,z,rfl,by rw[adU,cJ l 0 z]⟩
 obtain⟨k,a1,hk,rfl,rfl⟩:=hrel;by_cases hlt:k<l
 .have M:=D k hlt;have Z:=fun W=>F W k hlt;have K:sN l (k+1)=min (sN l k) l[k]:=by rw[sN,cJ l k hlt]
  obtain⟨p,O⟩:=aW (l[k]);obtain⟨q,R⟩:=aW (sN l k);rw[<-O]at M K;rw[<-R]at K |-;have Y:=aT K;clear K O R hc D F;go_wp2;go_round
  .exact⟨k+1,aA,aA,cD,by rw[Y.out]<;>(congr 1<;>(split<;>omega))⟩
  exact aY
 .have I:k=l.length:=aA;have S:=aT I;clear I;go_wp2;go_ret;exact⟨jK (by rw[S.out];rfl),cQ _ _⟩
theorem EG(hv:Ints w v l):
  Calls prog 193 #[aM #[n,v]] w fun e w'=>∃ad i c,e=aQ (aS #[aD ad i c,aG (cS n l)])/\bB 3 w w' (aD ad i c) (sJ n l)/\Below w w w':=by
 obtain⟨a,b,e8,c,rfl,c5,b5,hc,hb⟩:=hv.vw;go_enter func193,ntmps193;go_wp2_with fail;refine cZ ?_;intro V hV;have B:Below w w V:=jP hV;have K:bK V w 27 #[n,aD a l c]:=jV hV;clear hV;refine aV (DK V n _ l (hv.below B aU)) ?_;intro w1 b1;have K:=K.keep b1;have B:=B.after b1 B.size;have G:=K.cell
 cases D:cS n l with
 |false=>
  have hx:sJ n l=[]:=by unfold sJ;rw[D];rfl
  have S:=aT (And.intro hx D);clear hx D;go_wp2;go_ret2;exact⟨none,0,0,by rw[S.out.2];rfl,by rw[S.out.1];exact bB.nil _ _ _,B⟩
 |true=>
  have hx:sJ n l=mY l (gR l) l.length:=by unfold sJ;rw[D];rfl
  have hm:zQ n l=gR l:=by unfold zQ;rw[D];rfl
  have b9:l.length<=32:=by obtain⟨N,rfl,_,_,h,_⟩:=eJ D;exact h
  obtain⟨M,hM⟩:=aW (gR l);rw[hm,<-hM];have HM:=aT hM;have S:=aT (And.intro hx D);clear hx D hm hM;go_wp2_with fail;go_loopw [6,19] (fun out i wr=>∃(k:Nat) (ad:Option Addr) (nn Y:Nat),k<=l/\out=aD ad nn Y/\i=aO k/\bB 3 w wr (aD ad nn Y) (mY l (gR l) k)/\Below w w wr) (fun _ i _=>l.length-(intOf i).toNat)
  .exact⟨0,none,0,0,aZ _,rfl,rfl,bB.nil _ _ _,B⟩
  obtain⟨k,ad,nn,Y,hk,rfl,rfl,O,J⟩:=hrel;have R:=aT O;clear O;by_cases hlt:k<l
  .have a1:(k:Int)<(l.length:Int):=aA;have b3:=bY hc hb J aU k hlt;have e5:=fun W=>b5 W k hlt;have hn:mY l (gR l) (k+1)=if l[k]=M then mY l (gR l) k++[(k:Int)] else mY l (gR l) k:=by rw[mY,cJ l k hlt,HM.out]
   obtain⟨y,hy⟩:=aW (l[k]);rw[<-hy]at b3 hn;have HN:=aT hn;clear hn hy;by_cases z:y=M
   .have b0:(y==M)=true:=by simp[z]
    have I:=aT z;clear z;have o4:=R.out;have r4:=o4.lt;have zr:=J.size;go_wp2_with (at_builtin;refine eF rfl _ _ _ rfl 3 underlying25 intElem w.heap.size _ _ (k:Int) wr.heap.size rfl rfl bF (o4.alloc _) ⟨aA,aA⟩ (by have:=Z5 l (gR l) k;omega) bO ?_;intro v' w6 F b4;obtain⟨av,nv,cv,rfl⟩:=F.shape3);have B6:Below w w w6:=(J.alloc J.size (.cells #[(k:Int)] 3)).grown b4 bO (fun q hq=>(r4 q hq).1);go_roundw
    .exact⟨k+1,av,nv,cv,aA,rfl,cD,by rw[HN.out,if_pos I.out];exact F,B6⟩
    exact aY
   .have b0:(y==M)=false:=by simp[z]
    have I:=aT z;clear z;go_wp2;go_roundw
    .exact⟨k+1,ad,nn,Y,aA,rfl,cD,by rw[HN.out,if_neg I.out];exact R.out,J⟩
    exact aY
  .have a1:¬(k:Int)<(l.length:Int):=aA;have Z:k=l.length:=aA;have O:=R.out;rw[Z,<-S.out.1]at O;have R:=aT O;clear Z O;go_wp2;go_ret2;exact⟨ad,nn,Y,by rw[S.out.2];rfl,R.out,J⟩
theorem WT(hv:Ints w v l)(hl:l.length<=1048576):
  aH 209 #[aM #[n,v]] w (aS #[(vK n l),aG (iW n l)]):=by
 obtain⟨a,c,rfl⟩:=hv.shape;go_enter func209,ntmps209;go_wp2_with fail;refine cZ ?_;intro V hV;have B:Below w w V:=jP hV;have K:bK V w 27 #[n,aD a l c]:=jV hV;clear hV;refine aV (tP n l _ V (hv.below B aU) hl) ?_;intro w1 b1;have K:=K.keep b1;have B:=B.after b1 B.size;have G:=K.cell
 cases I:iW n l with
 |false=>
  have hx:vK n l=0:=by unfold vK;rw[I];rfl
  have S:=aT (And.intro hx I);clear hx I;go_wp2;go_ret2;exact⟨by rw[S.out.1,S.out.2];rfl,B⟩
 |true=>
  have hf:cS n l=true:=by unfold iW at I;exact(Bool.and_eq_true_iff.1 I).1
  have hx:vK n l=tV (2^n.toNat-1) (sJ n l) (sJ n l).length:=by unfold vK;rw[I];rfl
  obtain⟨_,a9,R⟩:=VJ hf;obtain⟨h0,h5,_,_⟩:=nE hf;have S:=aT (And.intro hx I);obtain⟨q,hq⟩:=aW (sJ n l);have O:=EG w1 n _ l (hv.below B aU);rw[<-hq]at O a9 R;have b8:=aT O;have HQ:=aT hq;have b9:=aT R;clear hx I hf O hq R;go_wp2_with fail;clear G;refine b8.out.mono ?_;rintro e w2 ⟨p,i,cc,rfl,o,b2⟩;have K:=K.keep b2;have B1:=B.after b2 B.size;have hi:i=q.length:=by obtain⟨_,_,h⟩:=o.shape;injection h
  subst hi;have G:=K.cell;go_wp2_with fail;clear G;refine aV (vA n _ l w2 (hv.below B1 aU) h0 aA) ?_;intro w3 b3;have B2:=B1.after b3 B1.size;have o:=o.keep b3;obtain⟨a1,bq,e8,c1,e0,c9,F,Z,D⟩:=o.ints.vw;injection e0 with h1 h2 h3;subst h1 h3;have hM:=dW n.toNat 5 aA;obtain⟨M,J⟩:∃M:Int,M=2^n.toNat-1:=⟨_,rfl⟩;have c6:0<=M/\M<64:=by have h1:=hM.1;have h2:=hM.2;simp at h1;omega
  rw[<-J];have b7:=aT J;clear hM J o;go_wp2_with fail;go_loop [6,21] (fun m i=>∃k:Nat,k<=q/\i=aO k/\m=aO (tV M q k)/\0<=tV M q k/\tV M q k<64) (fun _ i=>q.length-(intOf i).toNat)
  .exact⟨0,aZ _,rfl,rfl,c6⟩
  obtain⟨k,hk,rfl,rfl,D,Y⟩:=hrel;by_cases hlt:k<q
  .have a7:(k:Int)<(q.length:Int):=aA;have ck:=Z k hlt;have ik:=fun W=>F W k hlt;have hm:=b9.out _ (aX hlt);have hn:tV M q (k+1)=cU (tV M q k) q[k]:=by rw[tV,cJ q k hlt]
   obtain⟨y,hy⟩:=aW (q[k]);obtain⟨z,hz⟩:=aW (tV M q k);rw[<-hy]at ck hm hn;rw[<-hz]at hn D Y |-;have f7:=fV D aA hm.1 aA;have N:=mW z y 64 D Y;rw[<-hn]at N;have HN:=aT hn;have b6:=aT N;clear hn N hy hz hm Z F;go_wp2;go_round
   .exact⟨k+1,aA,cD,by rw[HN.out],b6.out⟩
   exact aY
  .have a7:¬(k:Int)<(q.length:Int):=aA;have a6:k=q.length:=aA;have HK:=aT a6;clear a6;go_wp2;go_ret2;exact⟨by rw[S.out.1,S.out.2,<-HQ.out,<-b7.out,<-HK.out];rfl,B2⟩
theorem EH(hv:Ints w v l):
  Calls prog 49 #[aM #[n,v]] w fun e w'=>∃ad i c,e=aQ (aS #[aD ad i c,aG (cS n l)])/\bB 3 w w' (aD ad i c) (sJ n l)/\Below w w w':=by
 obtain⟨a,b,e5,c,rfl,f0,b3,hc,hb⟩:=hv.vw;obtain⟨V,hV⟩:=aW ((w.alloc (.cells #[n,aD a l c] 27)).alloc (.cells #[] 3));have B:Below w w V:=iJ hV;have K:bK V w 27 #[n,aD a l c]:=iQ hV;have o0:bB 3 (w.heap.size+1) V (aD (some ⟨w+1,0,none⟩) 0 0) []:=by rw[hV];have:=bB.lit0 (E:=3) (B:=w.heap.size+1) (w.alloc (.cells #[n,aD a l c] 27)) bF;simpa using this
 go_enter func49,ntmps49;go_wp2_with fail;rw[<-hV];clear hV;go_loopw [4,5] (fun out i wr=>∃(k:Nat) (ad:Option Addr) (nn cp:Nat),k<=l/\out=aD ad nn cp/\i=aO k/\bB 3 (w.heap.size+1) wr (aD ad nn cp) (mY l (gR l) k)/\bK wr w 27 #[n,aD a l c]/\Below w w wr/\(cS n l=false->k=0)) (fun _ i _=>l.length-(intOf i).toNat)
 .exact⟨0,_,_,_,aZ _,rfl,rfl,o0,K,B,fun _=>rfl⟩
 obtain⟨k,ad,nn,cp,hk,rfl,rfl,ho,Kr,Br,hz⟩:=hrel;clear o0 K B;have HO:=aT ho;have HZ:=aT hz;have G:=Kr.cell;clear ho hz;go_wp2_with fail;clear G;refine aV (fD n l _ wr (hv.below Br aU)) ?_;intro w1 b1;have K1:=Kr.keep b1;have F:=Br.after b1 Br.size;have Z:=HO.out.keep b1;have G:=K1.cell;clear Kr
 cases I:cS n l with
 |false=>
  have hx:sJ n l=[]:=by unfold sJ;rw[I];rfl
  rw[HZ.out I]at Z;have HX:=aT (And.intro hx I);clear hx I;have O:=aT (fD n l _ w1 (hv.below F aU));go_wp2_with (go_at_call 20;refine aV O.out ?_;intro w2 b2);go_ret2;exact⟨ad,nn,cp,rfl,by rw[HX.out.1];exact(Z.keep b2).mono aA,F.after b2 F.size⟩
 |true=>
  have hx:sJ n l=mY l (gR l) l.length:=by unfold sJ;rw[I];rfl
  have e9:l.length<=32:=by obtain⟨N,rfl,_,_,h,_⟩:=eJ I;exact h
  have HX:=aT (And.intro hx I);clear hx;by_cases hlt:k<l
  .have b5:(k:Int)<(l.length:Int):=aA;have R:=aT (fun y:Ext w1=>DE y.w n _ l (y.ints (hv.below F aU)) aA);have Y:=bY hc hb F aU k hlt;have g6:=fun W=>b3 W k hlt;have hn:mY l (gR l) (k+1)=if l[k]=gR l then mY l (gR l) k++[(k:Int)] else mY l (gR l) k:=by rw[mY,cJ l k hlt]
   obtain⟨y,hy⟩:=aW (l[k]);rw[<-hy]at Y hn;obtain⟨M,hM⟩:=aW (gR l);have b6:mY l (gR l) (k+1)=if y=M then mY l (gR l) k++[(k:Int)] else mY l (gR l) k:=by rw[hn,hM]
   rw[<-hM]at R;have HN:=aT b6;have O1:=aT Z;have e4:∀x:Ext w1,x.w.cell? ⟨b,e5+k,none⟩=some (aO y):=fun x=>x.cell Y;have c0:∀x:Ext w1,x.w.cell? ⟨w,0,none⟩=some (aO n):=fun x=>x.cell (K1.cell 0);have c1:∀x:Ext w1,x.w.cell? ⟨w,1,none⟩=some (aD a l c):=fun x=>x.cell (K1.cell 1);clear hn hy b6 hM hc b3 Z Y I;by_cases D:y=M
   .have d0:(y==M)=true:=by simp[D]
    have S:=aT D;clear D;go_wp2_with fail;refine cW _ bM bM ?_
    repeat(first|go_big_quiet_skip|(go_big_quiet_want;go_big_quiet_op;first|go_big_quiet_on|(apply Exists.intro;refine⟨fun _=>?_,?_⟩;(go_at_call 28;exact dI (R.out _));go_big_quiet_on)))
    refine wpQuiet_nil ?_;rintro w3 ⟨⟨w3,z⟩,rfl⟩
    try dsimp only
    have K3:=K1.keep z;have B3:=F.after z F.size;have o3:=O1.out.keep z;have r3:=o3.lt;have z3:=K3.lt;clear G e4 c0 c1;go_wp2_with (at_builtin;refine eF rfl _ _ _ rfl 3 underlying25 intElem (w.heap.size+1) _ _ (k:Int) w3.heap.size rfl rfl bF (o3.alloc _) ⟨aA,aA⟩ (by have:=Z5 l (gR l) k;omega) bO ?_;intro v' w6 J b0;obtain⟨av,nv,cv,rfl⟩:=J.shape3);have B6:Below w w w6:=(B3.alloc B3.size (.cells #[(k:Int)] 3)).grown b0 bO (fun q hq=>by have:=(r3 q hq).1;omega);have K6:=(K3.alloc (.cells #[(k:Int)] 3)).grow b0 (fun e=>by have:=(r3 _ e).1;omega);go_roundw
    .exact⟨k+1,av,nv,cv,aA,rfl,cD,by rw[HN.out,if_pos S.out];exact J,K6,B6,fun h=>by rw[HX.out.2]at h;cases h⟩
    exact aY
   .have d0:(y==M)=false:=by simp[D]
    have S:=aT D;clear D;go_wp2_with fail;refine cW _ bM bM ?_
    repeat(first|go_big_quiet_skip|(go_big_quiet_want;go_big_quiet_op;first|go_big_quiet_on|(apply Exists.intro;refine⟨fun _=>?_,?_⟩;(go_at_call 28;exact dI (R.out _));go_big_quiet_on)))
    refine wpQuiet_nil ?_;rintro w3 ⟨⟨w3,z⟩,rfl⟩
    try dsimp only
    go_wp2;go_roundw
    .exact⟨k+1,ad,nn,cp,aA,rfl,cD,by rw[HN.out,if_neg S.out];exact O1.out.keep z,K1.keep z,F.after z F.size,fun h=>by rw[HX.out.2]at h;cases h⟩
    exact aY
  .have b5:¬(k:Int)<(l.length:Int):=aA;have b4:k=l.length:=aA;rw[b4,<-HX.out.1]at Z;have O1:=aT Z;have O:=aT (fD n l _ w1 (hv.below F aU));clear b4 Z I;go_wp2_with (go_at_call 20;refine aV O.out ?_;intro w2 b2);go_ret2;exact⟨ad,nn,cp,rfl,(O1.out.keep b2).mono aA,F.after b2 F.size⟩
theorem WU(hv:Ints w v l)(hl:l.length<=1048576):
  aH 27 #[aM #[n,v]] w (aS #[(vK n l),aG (iW n l)]):=by
 obtain⟨a,c,rfl⟩:=hv.shape;go_enter func27,ntmps27;go_wp2_with fail;refine cZ ?_;intro V hV;have B:Below w w V:=jP hV;have K:bK V w 27 #[n,aD a l c]:=jV hV;clear hV;refine aV (tQ n l _ V (hv.below B aU) hl) ?_;intro w1 b1;have K:=K.keep b1;have B:=B.after b1 B.size;have G:=K.cell
 cases J:iW n l with
 |false=>
  have hx:vK n l=0:=by unfold vK;rw[J];rfl
  have HX:=aT (And.intro hx J);clear hx J;go_wp2;go_ret2;exact⟨by rw[HX.out.1,HX.out.2];rfl,B⟩
 |true=>
  have hf:cS n l=true:=by unfold iW at J;exact(Bool.and_eq_true_iff.1 J).1
  have hx:vK n l=tV (2^n.toNat-1) (sJ n l) (sJ n l).length:=by unfold vK;rw[J];rfl
  obtain⟨b8,b7,a6⟩:=VJ hf;have D:0<(sJ n l).length:=List.length_pos_iff.2 b8;clear b8;obtain⟨h0,h5,_,_⟩:=nE hf;have HX:=aT (And.intro hx J);obtain⟨q,hq⟩:=aW (sJ n l);have Z:=EH w1 n _ l (hv.below B aU);rw[<-hq]at Z b7 a6 D;have c8:=aT Z;have HQ:=aT hq;have a7:=aT a6;clear hx J hf Z hq a6;go_wp2_with fail;clear G;refine c8.out.mono ?_;rintro e w2 ⟨p,i,cc,rfl,o,b2⟩;have K:=K.keep b2;have B1:=B.after b2 B.size;have hi:i=q.length:=by obtain⟨_,_,h⟩:=o.shape;injection h
  subst hi;obtain⟨a1,bq,N,c1,e8,e5,F,Y,I⟩:=o.ints.vw;injection e8 with h1 h2 h3;subst h1 h3;have hM:=dW n.toNat 5 aA;obtain⟨M,a9⟩:∃M:Int,M=2^n.toNat-1:=⟨_,rfl⟩;have g0:0<=M/\M<64:=by have h1:=hM.1;have h2:=hM.2;simp at h1;omega
  have c7:=aT a9;have e7:=a7.out _ (aX D);have R:tV M q 1=q[0]:=by
   show cU M (q.getD 0 0)=_;rw[cJ q 0 D];unfold cU;have e1:∀y:Nat,y<2^n.toNat->(2^n.toNat-1) &&& y=y:=fun y hy=>by rw[Nat.and_comm,Nat.and_two_pow_sub_one_eq_mod];exact Nat.mod_eq_of_lt hy
   have h4:((2^n.toNat:Nat):Int)=(2:Int)^n.toNat:=by push_cast;rfl
   have hp:=dJ n.toNat;have d0:M.toNat=2^n.toNat-1:=aA;rw[d0,e1 _ aA];omega
  have c0:w2.cell? ⟨bq,N,none⟩=some (aO q[0]):=Y 0 D;have i0:∀W,(Instr.indexAt 25 (aD p q cc) (aO 0)).run prog W=.ok (aP (some ⟨bq,N,none⟩)) W:=fun W=>F W 0 D;obtain⟨q0,b6⟩:=aW (q[0]);rw[<-b6]at R c0 e7;have O:=aT R;clear hM a9 o b6 R;go_wp2_with fail;go_loop [6,7] (fun m i=>∃k:Nat,1<=k/\k<=q/\i=aO k/\m=aO (tV M q k)/\0<=tV M q k/\tV M q k<64) (fun _ i=>q.length-(intOf i).toNat)
  .exact⟨1,aU,D,rfl,by rw[O.out],by rw[O.out];omega,by rw[O.out];omega⟩
  obtain⟨k,g5,hk,rfl,rfl,I,b0⟩:=hrel;by_cases hlt:k<q
  .have b4:(k:Int)<(q.length:Int):=aA;have ck:=Y k hlt;have ik:=fun W=>F W k hlt;have hm:=a7.out _ (aX hlt);have hn:tV M q (k+1)=cU (tV M q k) q[k]:=by rw[tV,cJ q k hlt]
   obtain⟨y,hy⟩:=aW (q[k]);obtain⟨z,hz⟩:=aW (tV M q k);rw[<-hy]at ck hm hn;rw[<-hz]at hn I b0 |-;have g4:=fV I aA hm.1 aA;have S:=mW z y 64 I b0;rw[<-hn]at S;have HN:=aT hn;have c6:=aT S;clear hn S hy hz hm Y F;go_wp2;go_round
   .exact⟨k+1,aA,aA,cD,by rw[HN.out],c6.out⟩
   exact aY
  .have b4:¬(k:Int)<(q.length:Int):=aA;have b3:k=q.length:=aA;have HK:=aT b3;clear b3;go_wp2;go_ret2;exact⟨by rw[HX.out.1,HX.out.2,<-HQ.out,<-c7.out,<-HK.out];rfl,B1⟩
