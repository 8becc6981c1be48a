/- Lemmas for CardReports. No condition. -/
import Derived.Test.YtcpoomdoodlkjaaGreatDoorQ40
set_option maxRecDepth 100000
set_option maxHeartbeats 64000000
namespace Go.Proofs.YtcpoomdoodlkjaaGreatDoor
section
open Go.RowKit Go.G5 Go.Proofs.Tryz
def wO(l:List Int)(s:Int):List Int:=dZ (l.map fun t=>bG s t)
def vZ(l:List Int)(s:Nat):Bool:=(wO l s).length==2^bN s
def mY(g:Int)(l:List Int):List Int:=if bF g l then bQ (vZ l) (2^g.toNat) else []
def rI(b:Int)(l:List Int):Nat->Int
 |0=>b
 |k+1=>max (rI b l k) (dI (l.getD k 0))
def sK(g:Int)(l:List Int):Int:=if bF g l then rI (-1) (mY g l) (mY g l).length else -2
def jG(l:List Int)(g:Nat):Nat->List Int
 |0=>List.replicate (g+1) 0
 |s+1=>(jG l g s).set (bN s) (max ((jG l g s).getD (bN s) 0) ((wO l s).length:Int))
def mU(g:Int)(l:List Int):List Int:=if bF g l then jG l g.toNat (2^g.toNat) else []
theorem yR(s t:Int)(z:0<=s)(h1:s<64):0<=bG s t/\bG s t<64:=lR s t 64 z h1
theorem NF(l:List Int)(s:Int)(z:0<=s)(h1:s<64):(wO l s).length<=64:=by
 refine(SA _ ?_).2;intro x D;obtain⟨t,_,rfl⟩:=List.mem_map.1 D;exact yR s t z h1
theorem M0(b:Int)(l:List Int)(h:∀x∈l,x<64)(hb:-1<=b/\b<=8):∀k,-1<=rI b l k/\rI b l k<=8:=by
 intro k
 induction k with
 |zero=>exact hb
 |succ k ih=>
  rw[rI];have h2:dI (l.getD k 0)<=8:=by
   have z:(l.getD k 0).toNat<256:=by
    rw[List.getD_eq_getElem?_getD]
    cases hk:l[k]? with
    |none=>simp
    |some x=>have:=h x (List.mem_of_getElem? hk);simp;omega
   have:=rK _ z;unfold dI;omega
  omega
theorem ID(g:Int)(l:List Int):∀x∈mY g l,0<=x/\x<64:=by
 unfold mY
 split
 ·rename_i h;intro x z;obtain⟨D,F,_,_⟩:=dQ h;have h1:=mN _ _ x z;have h2:(2:Nat)^g.toNat<=2^6:=Nat.pow_le_pow_right aV aI;omega
 ·intro x z;simp at z
theorem LX(g:Int)(l:List Int):-2<=sK g l/\sK g l<=8:=by
 unfold sK
 split
 ·have:=M0 (-1) (mY g l) (fun x z=>(ID g l x z).2) aI (mY g l).length;omega
 ·omega
theorem yP(l:List Int)(g:Nat):∀s,(jG l g s).length=g+1:=by
 intro s
 induction s with
 |zero=>simp[jG]
 |succ s ih=>rw[jG,List.length_set,ih]
theorem GO(l:List Int)(g:Nat):∀s,s<=64->∀x∈jG l g s,0<=x/\x<=64:=by
 intro s
 induction s with
 |zero=>intro _ x z;have:=List.eq_of_mem_replicate z;omega
 |succ s ih=>
  intro F x z;have ih:=ih aI;have ht:=NF l (s:Int) aI aI;rw[jG]at z;rcases List.mem_or_eq_of_mem_set z with h|h
  ·exact ih x h
  ·have D:0<=(jG l g s).getD (bN s) 0/\(jG l g s).getD (bN s) 0<=64:=by
    rw[List.getD_eq_getElem?_getD]
    cases hk:(jG l g s)[bN s]? with
    |none=>simp
    |some y=>exact ih y (List.mem_of_getElem? hk)
   omega
theorem QI:∀g:Nat,g<7->∀s:Nat,s<2^g->bN s<=g:=by decide +kernel
theorem acK(l:List Int)(s:Int)(k:Nat)(h:k<l.length):vH (dZ ((l.take k).map fun t=>bG s t)) (bG s l[k])=dZ ((l.take (k+1)).map fun t=>bG s t):=by
 rw[VU,List.take_succ_eq_append_getElem h,List.map_append];rfl
def jU(n:Nat):Nat->Nat
 |0=>1
 |i+1=>jU n i*(n-i)/(i+1)
def tG(n k:Nat):Nat->Nat
 |0=>1
 |i+1=>tG n k i*(n-k+(i+1))/(i+1)
theorem adC:∀n:Nat,n<7->∀k:Nat,k<7->k<=n->tG n k k=jU n k:=by decide +kernel
theorem WK:∀n:Nat,n<7->∀k:Nat,k<7->k<=n->0<jU n k/\jU n k<=20:=by decide +kernel
theorem afT:∀n:Nat,n<7->∀k:Nat,k<7->k<=n->∀i:Nat,i<7->i<=k->tG n k i<=20:=by decide +kernel
theorem acG:∀g:Nat,g<7->∀s:Nat,s<2^g->bN s<=g:=by decide +kernel
def qK(g:Nat)(l:List Int):Nat->Int
 |0=>0
 |k+1=>qK g l k+((60/jU g (bN (l.getD k 0).toNat):Nat):Int)
def sL(g:Int)(l:List Int):Int:=if bF g l then qK g.toNat l l.length else -1
theorem MV(g:Nat)(l:List Int):∀k,0<=qK g l k/\qK g l k<=60*k:=by
 intro k
 induction k with
 |zero=>simp[qK]
 |succ k ih=>rw[qK];have:=Nat.div_le_self 60 (jU g (bN (l.getD k 0).toNat));obtain⟨D,z⟩:=aN (60/jU g (bN (l.getD k 0).toNat));rw[<-z]at this ⊢;omega
theorem MW(g:Int)(l:List Int):-1<=sL g l/\sL g l<=3840:=by
 unfold sL
 split
 ·rename_i h;have h1:=MV g.toNat l l.length;have h2:=jQ h;omega
 ·omega
def lE(s e:Int):Int:=cI s (2^e.toNat)
def AL(s:Int):List Int:=(gU s).map (lE s)
def kZ(l:List Int):List Int:=l.flatMap AL
def XL(g:Int)(l:List Int):Int:=if bF g l then g else 0
def DR(g:Int)(l:List Int):List Int:=if bF g l then dZ (kZ l) else []
def lQ(l:List Int)(s:Int):Bool:=(gU s).all fun e=>fP l (s-2^e.toNat)
def oJ(g:Int)(l:List Int):Bool:=bF g l&&l.all (lQ l)
theorem ZE:∀s:Nat,s<64->∀e∈gU (s:Int),lE s e=(s:Int)-2^e.toNat:=by decide +kernel
theorem N7(s e:Int)(z:0<=s)(h1:s<64)(D:e∈gU s):lE s e=s-2^e.toNat:=by
 obtain⟨n,rfl⟩:=Int.eq_ofNat_of_zero_le z;exact ZE n aI e D
theorem abN(s e:Int)(z:0<=s/\s<64):0<=lE s e/\lE s e<64:=nQ s _ 64 z.1 z.2
theorem VZ(s:Int):(AL s).length<=6:=by unfold AL;rw[List.length_map];exact vB s
theorem DU(l:List Int):(kZ l).length<=6*l.length:=by
 unfold kZ
 induction l with
 |nil=>simp
 |cons t m ih=>rw[List.flatMap_cons,List.length_append,List.length_cons];have:=VZ t;omega
theorem ZU(l:List Int)(k:Nat)(h:k<l.length):kZ (l.take (k+1))=kZ (l.take k)++AL l[k]:=by
 unfold kZ;rw[List.take_succ_eq_append_getElem h,List.flatMap_append,List.flatMap_cons,List.flatMap_nil,List.append_nil]
theorem CN{g:Int}{l:List Int}(h:bF g l=true):l.length<=64:=by
 obtain⟨z,D,hm,F⟩:=dQ h;have:=lZ z D;exact WJ l 64 F (fun x I=>by have:=hm x I;omega)
theorem agZ(g:Int)(l:List Int):(DR g l).length<=384:=by
 unfold DR
 split
 ·rename_i h;have:=CN h;have:=DU l;have:=zR (kZ l);omega
 ·simp
theorem af3(g:Int)(l:List Int):(bF g l&&!((DR g l).any fun s=>!fP l s))=oJ g l:=by
 unfold oJ
 cases K:bF g l with
 |false=>rfl
 |true=>
  have M:DR g l=dZ (kZ l):=by unfold DR;rw[K];rfl
  rw[M,Bool.true_and,Bool.true_and,Bool.eq_iff_iff,Bool.not_eq_true',List.any_eq_false,List.all_eq_true];have z:=pV K;constructor
  ·intro h s I;unfold lQ;rw[List.all_eq_true];intro e D;obtain⟨k,hk,rfl⟩:=List.getElem_of_mem I;have hb:=z.2.2 k hk;have F:lE l[k] e∈dZ (kZ l):=by rw[pW];unfold kZ;exact List.mem_flatMap.2 ⟨_,I,List.mem_map.2 ⟨e,D,rfl⟩⟩
   have:=h _ F;rw[N7 _ e hb.1 hb.2 D]at this;simpa using this
  ·intro h x J;rw[pW]at J;unfold kZ at J;obtain⟨s,I,J⟩:=List.mem_flatMap.1 J;obtain⟨e,D,rfl⟩:=List.mem_map.1 J;obtain⟨k,hk,rfl⟩:=List.getElem_of_mem I;have hb:=z.2.2 k hk;have:=h _ I;unfold lQ at this;rw[List.all_eq_true]at this;have:=this e D;rw[N7 _ e hb.1 hb.2 D];simpa using this
def AC(F B D G Y C R:ByteArray):List ByteArray:=[(⟨#[102,97,109,105,108,121]⟩:ByteArray),F,(⟨#[98,108,111,99,107,101,114]⟩:ByteArray),B,(⟨#[100,105,109,101,110,115,105,111,110]⟩:ByteArray),D,(⟨#[103,114,111,119,116,104]⟩:ByteArray),G,(⟨#[108,121,109]⟩:ByteArray),Y,(⟨#[100,105,115,99,114,101,112,97,110,99,121]⟩:ByteArray),C,(⟨#[98,121]⟩:ByteArray),R]
def I5(F B D G Y:ByteArray):ByteArray:=(⟨#[102,97,109,105,108,121,32]⟩:ByteArray)++F++(⟨#[32,98,108,111,99,107,101,114,32]⟩:ByteArray)++B++(⟨#[32,100,105,109,101,110,115,105,111,110,32]⟩:ByteArray)++D++(⟨#[32,103,114,111,119,116,104,32]⟩:ByteArray)++G++(⟨#[32,108,121,109,32]⟩:ByteArray)++Y++(⟨#[32,100,105,115,99,114,101,112,97,110,99,121,32]⟩:ByteArray)
def vD(F B D G Y C R:ByteArray):ByteArray:=I5 F B D G Y++C++(⟨#[32,98,121,32]⟩:ByteArray)++R
theorem aa1(F B D G Y C R:ByteArray):bZ dP (AC F B D G Y C R)=vD F B D G Y C R:=by
 unfold AC vD I5;simp only[mV,nY];refine eS ?_;simp[dP]
def I7(F B D G Y C R:ByteArray)(z I b2 J K M:Bool):List ByteArray:=AC F B D G Y C R++dY z (⟨#[108,97,109,105,110,97,114]⟩:ByteArray)++dY I (⟨#[99,114,111,115,115,102,114,101,101]⟩:ByteArray)++dY b2 (⟨#[105,110,116,101,114,115,101,99,116,105,110,103]⟩:ByteArray)++dY J (⟨#[97,110,116,105,99,104,97,105,110]⟩:ByteArray)++dY K (⟨#[100,111,119,110]⟩:ByteArray)++dY M (⟨#[98,97,115,101,115]⟩:ByteArray)
def xD(F B D G Y C R:ByteArray)(z I b2 J K M:Bool):ByteArray:=vD F B D G Y C R++jI z (⟨#[32,108,97,109,105,110,97,114]⟩:ByteArray)++jI I (⟨#[32,99,114,111,115,115,102,114,101,101]⟩:ByteArray)++jI b2 (⟨#[32,105,110,116,101,114,115,101,99,116,105,110,103]⟩:ByteArray)++jI J (⟨#[32,97,110,116,105,99,104,97,105,110]⟩:ByteArray)++jI K (⟨#[32,100,111,119,110]⟩:ByteArray)++jI M (⟨#[32,98,97,115,101,115]⟩:ByteArray)
theorem aa4(F B D G Y C R:ByteArray)(z I b2 J K M:Bool):bZ dP (I7 F B D G Y C R z I b2 J K M)=xD F B D G Y C R z I b2 J K M:=by
 have N:AC F B D G Y C R≠[]:=by simp[AC]
 have h1:=rU _ N z (⟨#[108,97,109,105,110,97,114]⟩:ByteArray);have h2:=rU _ h1 I (⟨#[99,114,111,115,115,102,114,101,101]⟩:ByteArray);have h3:=rU _ h2 b2 (⟨#[105,110,116,101,114,115,101,99,116,105,110,103]⟩:ByteArray);have h4:=rU _ h3 J (⟨#[97,110,116,105,99,104,97,105,110]⟩:ByteArray);have O:=rU _ h4 K (⟨#[100,111,119,110]⟩:ByteArray);unfold I7 xD;rw[kF _ O M _ (⟨#[32,98,97,115,101,115]⟩:ByteArray) rfl,kF _ h4 K _ (⟨#[32,100,111,119,110]⟩:ByteArray) rfl,kF _ h3 J _ (⟨#[32,97,110,116,105,99,104,97,105,110]⟩:ByteArray) rfl,kF _ h2 b2 _ (⟨#[32,105,110,116,101,114,115,101,99,116,105,110,103]⟩:ByteArray) rfl,kF _ h1 I _ (⟨#[32,99,114,111,115,115,102,114,101,101]⟩:ByteArray) rfl,kF _ N z _ (⟨#[32,108,97,109,105,110,97,114]⟩:ByteArray) rfl,aa1]
theorem I6(F B D G Y:ByteArray)(M:F.size<=10000)(hB:B.size<=10000)(K:D.size<=21)(N:G.size<=200)(O:Y.size<=21):(I5 F B D G Y).size<=20400:=by
 unfold I5;simp only[ByteArray.size_append];have z:(⟨#[102,97,109,105,108,121,32]⟩:ByteArray).size=7:=rfl;have e1:(⟨#[32,98,108,111,99,107,101,114,32]⟩:ByteArray).size=9:=rfl;have e2:(⟨#[32,100,105,109,101,110,115,105,111,110,32]⟩:ByteArray).size=11:=rfl;have e3:(⟨#[32,103,114,111,119,116,104,32]⟩:ByteArray).size=8:=rfl;have I:(⟨#[32,108,121,109,32]⟩:ByteArray).size=5:=rfl;have J:(⟨#[32,100,105,115,99,114,101,112,97,110,99,121,32]⟩:ByteArray).size=13:=rfl;omega
theorem RO(F B D G Y C R:ByteArray)(I:F.size<=10000)(hB:B.size<=10000)(z:D.size<=21)(J:G.size<=200)(K:Y.size<=21)(hC:C.size<=21)(M:R.size<=132):(vD F B D G Y C R).size<=20600:=by
 have h:=I6 F B D G Y I hB z J K;unfold vD;simp only[ByteArray.size_append];have e:(⟨#[32,98,121,32]⟩:ByteArray).size=4:=rfl;omega
theorem RP(F B D G Y C R:ByteArray)(z I b2 J K M:Bool)(h:(vD F B D G Y C R).size<=20600):(xD F B D G Y C R z I b2 J K M).size<=20700:=by
 unfold xD;simp only[ByteArray.size_append];have N:=dU z (⟨#[32,108,97,109,105,110,97,114]⟩:ByteArray);have t0:(⟨#[32,108,97,109,105,110,97,114]⟩:ByteArray).size=8:=rfl;have O:=dU I (⟨#[32,99,114,111,115,115,102,114,101,101]⟩:ByteArray);have t1:(⟨#[32,99,114,111,115,115,102,114,101,101]⟩:ByteArray).size=10:=rfl;have S:=dU b2 (⟨#[32,105,110,116,101,114,115,101,99,116,105,110,103]⟩:ByteArray);have t2:(⟨#[32,105,110,116,101,114,115,101,99,116,105,110,103]⟩:ByteArray).size=13:=rfl;have Z:=dU J (⟨#[32,97,110,116,105,99,104,97,105,110]⟩:ByteArray);have t3:(⟨#[32,97,110,116,105,99,104,97,105,110]⟩:ByteArray).size=10:=rfl;have s4:=dU K (⟨#[32,100,111,119,110]⟩:ByteArray);have t4:(⟨#[32,100,111,119,110]⟩:ByteArray).size=5:=rfl;have s5:=dU M (⟨#[32,98,97,115,101,115]⟩:ByteArray);have t5:(⟨#[32,98,97,115,101,115]⟩:ByteArray).size=6:=rfl;omega
theorem GN(g:Int)(l:List Int):(mU g l).length<=7/\∀x∈mU g l,dA x:=by
 unfold mU
 split
 ·rename_i z;obtain⟨F,I,_,_⟩:=dQ z;have h2:(2:Nat)^g.toNat<=2^6:=Nat.pow_le_pow_right aV aI;refine⟨by rw[yP];omega,fun x D=>?_⟩;have:=GO l g.toNat (2^g.toNat) aI x D;exact⟨by omega,by omega⟩
 ·exact⟨by simp,by simp⟩
theorem FI(g:Int)(l:List Int):(eU (mU g l)).size<=200:=by
 have h:=GN g l;have h2:=lM (mU g l) h.2;omega
theorem QW(g:Int)(l:List Int):0<=wM g l/\wM g l<=6:=by
 unfold wM
 split
 ·rename_i z;obtain⟨D,F,_,_⟩:=dQ z;have hm:=dV z;have h2:(2:Nat)^g.toNat<=2^6:=Nat.pow_le_pow_right aV aI;have h3:=Nat.two_pow_pos g.toNat;have:=LQ l hm (2^g.toNat-1) aI;omega
 ·omega
def WT(g:Int)(l:List Int):ByteArray:=xD (cY g l) (cY (gW g l) (lA g l)) (bM (sK g l)) (eU (mU g l)) (bM (sL g l)) (bM (wM g l)) (bW g (yJ g l)) (tO g l) (mP g l) (lY g l) (qN g l) (oJ g l) (wI g l)
def fmL(g:Int)(l:List Int):List ByteArray:=I7 (cY g l) (cY (gW g l) (lA g l)) (bM (sK g l)) (eU (mU g l)) (bM (sL g l)) (bM (wM g l)) (bW g (yJ g l)) (tO g l) (mP g l) (lY g l) (qN g l) (oJ g l) (wI g l)
theorem aiU(g:Int)(l:List Int):bZ dP (fmL g l)=WT g l:=aa4 _ _ _ _ _ _ _ _ _ _ _ _ _
def CP(g:Int)(l:List Int):ByteArray:=if bF g l then WT g l else ByteArray.empty
theorem GH{g:Int}{l:List Int}(h:bF g l=true):CP g l=WT g l:=by unfold CP;rw[if_pos h]
theorem WS{g:Int}{l:List Int}(h:bF g l=false):CP g l=ByteArray.empty:=by unfold CP;rw[h];rfl
theorem adX(g:Int)(l:List Int):(WT g l).size<=20700:=by
 have h1:=LX g l;have h2:=MW g l;have h3:=QW g l;exact RP _ _ _ _ _ _ _ _ _ _ _ _ _ (RO _ _ _ _ _ _ _ (eZ _ _) (eZ _ _) (cT _ ⟨by omega,by omega⟩) (FI g l) (cT _ ⟨by omega,by omega⟩) (cT _ ⟨by omega,by omega⟩) (fC _ _))
theorem FT(w:World)(g:Int)(v:Value)(l:List Int)(hv:aO w v l)(hm:∀x∈l,0<=x/\x<64)(hl:l.length<=64)(s:Int)(hs:0<=s/\s<64):
  Calls prog 217 #[.agg #[g,v],s] w fun e w'=>∃ad i c,e=.returned (.agg #[g,ajH ad i c])/\dO 3 w.heap.size w' (ajH ad i c) (wO l s)/\Below w w w':=by
 obtain⟨a,b,f9,c,rfl,c8,R,hc,hb⟩:=hv.view prog 24 3 underlying24 aP;obtain⟨V,N⟩:=aN ((w.alloc (.cells #[g,ajH a l.length c] 31)).alloc (.cells #['0',()] 31));have B:Below w w V:=fY N;have K1:aR V w 31 #[g,ajH a l.length c]:=gL N;have K2:aR V (w.heap.size+1) 31 #['0',()]:=gV N;have HV:=aJ N;have HC:=aJ hc;have a7:=aJ R;have HM:=aJ hm;have z1:=K1.lt;have z2:=K2.lt;have f5:l.length<=1048576:=aI;clear N hc R hm;go_enter func217,ntmps217;go_wp2_with fail;rw[HV.out.symm];go_loopw [5,11] (fun ov iv wr=>∃(j:Nat) (p:Option Addr) (r m:Nat),j<=l.length/\iv=ajJ j/\ov=ajH p r m/\aM 3 V wr (ajH p r m) ((l.take j).map fun t=>bG s t)/\Below V V wr) (fun _ iv _=>l.length-(intOf iv).toNat)
 case atStart=>exact⟨0,_,_,_,Nat.zero_le _,rfl,rfl,aM.nil _ _ _,Below.refl _ _⟩
 case round=>
  obtain⟨j,p,r,m,hj,rfl,rfl,own,J⟩:=hrel;have z:=aJ own;have zw:=J.size;clear own;by_cases hlt:j<l.length
  ·have Y:(j:Int)<(l.length:Int):=aI;have ck:=aT HC.out hb (B.after J B.size) aK j hlt;have ik:=fun W=>a7.out W j hlt;have hx:=HM.out _ (List.getElem_mem hlt);have I:(l.take (j+1)).map (fun t=>bG s t)=(l.take j).map (fun t=>bG s t)++[bG s l[j]]:=by rw[List.take_succ_eq_append_getElem hlt,List.map_append];rfl
   obtain⟨x,a1⟩:=aN (l[j]);rw[<-a1]at ck hx I;have O:=eB hs.1 (show s<4611686018427387904 by omega) hx.1 (show x<4611686018427387904 by omega);have b6:=yR s x hs.1 hs.2;obtain⟨y,hy⟩:=aN (bG s x);rw[<-hy]at O b6 I;have a8:=aJ I;have S:((l.take j).map (fun t=>bG s t)).length<100:=by rw[List.length_map,List.length_take];omega
   clear a1 hy I;go_wp2_with (at_builtin;refine cW rfl _ _ _ rfl 3 underlying24 aP V.heap.size _ ((l.take j).map fun t=>bG s t) y wr.heap.size rfl rfl (aX _ _ _ _ _ rfl) (z.out.alloc _) ⟨by omega,by omega⟩ aI aS ?_;intro v' w6 K b1;obtain⟨av,nv,cv,rfl⟩:=K.shape3);have Z:=z.out.lt;have B6:Below V V w6:=(J.alloc J.size (.cells #[y] 3)).grown b1 aS (fun q hq=>(Z q hq).1);go_roundw
   case rel=>exact⟨j+1,av,nv,cv,by omega,by go_num,rfl,by rw[a8.out];exact K,B6⟩
   case measure=>simp[intOf];omega
  ·have Y:¬(j:Int)<(l.length:Int):=aI;have hT:wO l s=dZ ((l.take j).map fun t=>bG s t):=by rw[List.take_of_length_le aI];rfl
   have S:((l.take j).map (fun t=>bG s t)).length<=1048576:=by rw[List.length_map,List.length_take];omega
   have M:=JE g _ _ wr z.out.ints S;rw[<-hT]at M;have a6:=aJ M;have a9:=K1.keep J;have b0:=K2.keep J;have G:=a9.cell;clear hT M;go_wp2_with fail;refine a6.out.mono ?_;rintro e w3 ⟨p3,i3,q3,rfl,o3,b3⟩;have D:=b0.keep b3;have B3:=(B.after J B.size).after b3 (B.after J B.size).size;have z3:=D.lt;have G2:=D.cell;have F2:=D.frozen;clear G;go_wp2;refine aZ ?_;intro Wf F;have Kf:aR Wf (w.heap.size+1) 31 #[g,ajH p3 i3 q3]:=by rw[F];have:=(D.set 0 (ajJ g)).set 1 (ajH p3 i3 q3);simpa using this
   have Bf:Below w w Wf:=by rw[F];exact Below.setCell (Below.setCell B3 (by first|omega|(simp;done)|(simp;omega)) _) (by first|omega|(simp;done)|(simp;omega)) _
   have gf:GrownIn w3 Wf (fun k=>k=w.heap.size+1):=by rw[F];exact(GrownIn.of_row (fE w3 ⟨w.heap.size+1,0,none⟩ _) (fun k hk=>(Option.some.inj hk).symm)).trans (GrownIn.of_row (fE _ ⟨w.heap.size+1,1,none⟩ _) (fun k hk=>(Option.some.inj hk).symm))
   have b4:=o3.lt;have of:=o3.growIn gf (fun k hk e=>by have:=(b4 k hk).1;omega);have Gf:=Kf.cell;clear F G2 F2;exact bodyPost_ret (v:=.agg #[g,ajH p3 i3 q3]) (by simp[results,results217,go_sem,Gf]) rfl ⟨_,_,_,rfl,of.mono aI,Bf⟩
theorem QD(w:World)(N:Nat)(v:Value)(l:List Int)(hv:aO w v l)(K:bF (N:Int) l=true)(s:Int)(hs:fA N s=true):
  Calls prog 308 #[.agg #[(N:Int),v],s] w fun e w'=>∃ad i c,e=.returned (.tuple #[.agg #[(N:Int),ajH ad i c],.bool true])/\dO 3 w.heap.size w' (ajH ad i c) (wO l s)/\Below w w w':=by
 have hm:=dV K;have hl:=jQ K;obtain⟨h0,h6,b0,b4⟩:=dQ K;have hN:N<=6:=aI;have R:=mQ.1 hs;have hp:=cK N 6 hN;have O:=hp.1;simp at O;obtain⟨a,c,rfl⟩:=hv.shape;obtain⟨V,J⟩:=aN ((w.alloc (.cells #[(N:Int),ajH a l.length c] 31)).alloc (.cells #['0',()] 31));have B:Below w w V:=fY J;have K1:aR V w 31 #[(N:Int),ajH a l.length c]:=gL J;have K2:aR V (w.heap.size+1) 31 #['0',()]:=gV J;have M:∀W,W=V->Calls prog 101 #[.agg #[(N:Int),ajH a l.length c]] W fun e w'=>e=.returned (.bool true)/\Below W W w':=fun W h=>by rw[h];have:=dC (N:Int) l _ V (hv.below B aK);rw[K]at this;exact this
 have F:=fun W=>pX N s W aI;simp only[hs]at F;have S:=fun(W:World) (h:aO W (ajH a l.length c) l)=>FT W (N:Int) _ l h hm hl s ⟨R.1,by omega⟩;have HV:=aJ J;have a1:=aJ M;have a6:=aJ F;have a7:=aJ S;clear J M F S K hs R hm b0 b4 hp O;go_enter func308,ntmps308;go_wp2_with fail;refine(a1.out _ HV.out.symm).mono ?_;rintro e w1 ⟨rfl,Y⟩;rw[HV.out.symm]at Y;have Z:=B.after Y B.size;have a8:=K1.keep Y;have I:=K2.keep Y;have G1:=a8.cell;go_wp2_with (go_at_call 183;refine(a6.out _).mono ?_;rintro e w' ⟨rfl,rfl⟩);refine(a7.out w1 (hv.below Z aK)).mono ?_;rintro e w3 ⟨p3,i3,q3,rfl,o3,b3⟩;have z:=I.keep b3;have B3:=Z.after b3 Z.size;have z2:=I.lt;have z3:=z.lt;have G2:=z.cell;have F2:=z.frozen;clear G1;go_wp2;refine aZ ?_;intro Wf D;have Kf:aR Wf (w.heap.size+1) 31 #[(N:Int),ajH p3 i3 q3]:=by rw[D];have:=(z.set 0 (ajJ (N:Int))).set 1 (ajH p3 i3 q3);simpa using this
 have Bf:Below w w Wf:=by rw[D];exact Below.setCell (Below.setCell B3 (by first|omega|(simp;done)|(simp;omega)) _) (by first|omega|(simp;done)|(simp;omega)) _
 have gf:GrownIn w3 Wf (fun k=>k=w.heap.size+1):=by rw[D];exact(GrownIn.of_row (fE w3 ⟨w.heap.size+1,0,none⟩ _) (fun k hk=>(Option.some.inj hk).symm)).trans (GrownIn.of_row (fE _ ⟨w.heap.size+1,1,none⟩ _) (fun k hk=>(Option.some.inj hk).symm))
 have a9:=o3.lt;have of:=o3.growIn gf (fun k hk e=>by have:=(a9 k hk).1;omega);have Gf:=Kf.cell;clear D G2 F2;exact bodyPost_ret (v:=.tuple #[.agg #[(N:Int),ajH p3 i3 q3],.bool true]) (by simp[results,results308,go_sem,Gf]) rfl ⟨_,_,_,rfl,of.mono aI,Bf⟩
theorem VD(w:World)(N:Nat)(v:Value)(l:List Int)(hv:aO w v l)(Y:bF (N:Int) l=true)(s:Nat)(hs:s<2^N):
  Calls prog 281 #[.agg #[(N:Int),v],(s:Int)] w fun e w'=>e=.returned (.bool (vZ l s))/\Below w w w':=by
 obtain⟨h0,h6,a7,a8⟩:=dQ Y;have hN:N<=6:=aI;have S:(2:Nat)^N<=2^6:=Nat.pow_le_pow_right aV hN;have J:((2:Int)^N)=((2^N:Nat):Int):=by simp
 have M:fA N (s:Int)=true:=mQ.2 ⟨by omega,by rw[J];omega⟩;obtain⟨a,c,rfl⟩:=hv.shape;have F:=QD (w.alloc (.cells #[(N:Int),ajH a l.length c] 31)) N _ l (hv.alloc _) Y (s:Int) M;have K:=QI N aI s hs;have O:vZ l s=((wO l (s:Int)).length==2^bN s):=rfl;have z:=aJ (fun W=>gE s W aI);obtain⟨T,hT⟩:=aN (wO l (s:Int));rw[<-hT]at F O;obtain⟨p,hp⟩:=aN (bN s);rw[<-hp]at K O;simp only[<-hp]at z;have D:=cK p 6 aI;have a6:=D.1;have b8:=D.2;simp at a6;have I:((T.length:Int)==(2:Int)^p)=(T.length==2^p):=by
  have e:((2:Int)^p)=((2^p:Nat):Int):=by simp
  rw[e,Bool.eq_iff_iff,beq_iff_eq,beq_iff_eq];omega
 rw[<-I]at O;have HX:=aJ O;have R:=aJ F;have b9:p<=6:=aI;clear O F hT hp K M J Y a7 a8 I D S hs;go_enter func281,ntmps281;go_wp2_with fail;refine R.out.mono ?_;rintro e w1 ⟨p1,i1,q1,rfl,o1,b1⟩;have Z:i1=T.length:=o1.ints.capLe.1;subst Z;have B1:Below w w w1:=(aY _ _).after b1 (by simp);go_wp2_with fail;go_quiet ((go_at_call 165;first|exact iU (z.out _)|exact kC (z.out _)));go_wp2;go_ret;exact⟨aW HX.out.symm,(B1.alloc B1.size _).drewN' _⟩
theorem V6(w:World)(D N s:Nat)(l:List Int)(v:Value)(J:aO w v l)(F:bF (N:Int) l=true)(M:w.cell? ⟨D,0,none⟩=some (ajJ (N:Int)))(d1:w.cell? ⟨D,1,none⟩=some v)(I:s<2^N):
  Calls prog 280 #[(s:Int),.pointer (some ⟨D,0,none⟩)] w fun e w'=>e=.returned (.bool (vZ l s))/\Below w w w':=by
 obtain⟨a,c,rfl⟩:=J.shape;have hcl:=VD w N _ l J F s I;obtain⟨b,hb⟩:=aN (vZ l s);rw[<-hb]at hcl ⊢;have z:=aJ hcl;clear hcl hb F I;go_enter func280,ntmps280;go_wp2_with fail;refine z.out.mono ?_;rintro e w1 ⟨rfl,K⟩;go_wp2;go_ret;exact⟨rfl,K⟩
theorem DV:∀args w,(callFunc 280 args).run prog w=.ok (.enter 280 args) w:=enters_of func280 aQ rfl
theorem QA(w:World)(g:Int)(v:Value)(l:List Int)(hv:aO w v l)(M:bF g l=true):
  Calls prog 216 #[.agg #[g,v]] w fun e w'=>∃ad i c,e=.returned (.tuple #[.agg #[g,ajH ad i c],.bool true])/\aO w' (ajH ad i c) (mY g l)/\Below w w w':=by
 obtain⟨a,c,rfl⟩:=hv.shape;obtain⟨h0,h6,a6,a7⟩:=dQ M;obtain⟨N,rfl⟩:=Int.eq_ofNat_of_zero_le h0;have hN:N<=6:=aI;have hx:mY (N:Int) l=bQ (vZ l) (2^N):=by unfold mY;rw[M,Int.toNat_natCast];rfl
 have d9:∀(fn:Fn) (first cap:Array Value) (w:World),(Instr.makeFunc fn first cap).run prog w=.ok (.func fn first cap) w:=fun _ _ _ _=>rfl;obtain⟨V,K⟩:=aN ((w.alloc (.cells #[(N:Int),ajH a l.length c] 31)).alloc (.cells #['0',()] 31));have B:Below w w V:=fY K;have K1:aR V w 31 #[(N:Int),ajH a l.length c]:=gL K;have K2:aR V (w.heap.size+1) 31 #['0',()]:=gV K;have O:∀W,W=V->Calls prog 101 #[.agg #[(N:Int),ajH a l.length c]] W fun e w'=>e=.returned (.bool true)/\Below W W w':=fun W h=>by rw[h];have:=dC (N:Int) l _ V (hv.below B aK);rw[M]at this;exact this
 have F:∀W,aO W (ajH a l.length c) l->aR W w 31 #[(N:Int),ajH a l.length c]->Calls prog 191 #[(N:Int),.func (.func 280) #[] #[.pointer (some ⟨w,0,none⟩)]] W fun e w'=>
   ∃ad i cp,e=.returned (.agg #[(N:Int),ajH ad i cp])/\aM 3 W w' (ajH ad i cp) (bQ (vZ l) (2^N))/\Below W W w':=fun W h1 h2=>
  wP W N hN 280 DV w.heap.size (vZ l) (fun s W' hs hB=>by have k:=h2.keep hB;have k0:=k.cell 0;have k1:=k.cell 1;simp at k0 k1;exact V6 W' w.heap.size N s l _ (h1.keep hB) M k0 k1 hs)
 rw[<-hx]at F;have HV:=aJ K;have a1:=aJ O;have Z:=aJ F;clear K O F M a6 a7 hx;go_enter func216,ntmps216;go_wp2_with fail;refine(a1.out _ HV.out.symm).mono ?_;rintro e w1 ⟨rfl,R⟩;rw[HV.out.symm]at R;have Y:=B.after R B.size;have I:=K1.keep R;have J:=K2.keep R;have G1:=I.cell;go_wp2_with fail;refine(Z.out w1 (hv.below Y aK) I).mono ?_;rintro e w3 ⟨p3,i3,S,rfl,o3,b3⟩;have z:=J.keep b3;have B3:=Y.after b3 Y.size;have z2:=J.lt;have z3:=z.lt;have G2:=z.cell;have F2:=z.frozen;clear G1;go_wp2;refine aZ ?_;intro Wf D;have Kf:aR Wf (w.heap.size+1) 31 #[(N:Int),ajH p3 i3 S]:=by rw[D];have:=(z.set 0 (ajJ (N:Int))).set 1 (ajH p3 i3 S);simpa using this
 have Bf:Below w w Wf:=by rw[D];exact Below.setCell (Below.setCell B3 (by first|omega|(simp;done)|(simp;omega)) _) (by first|omega|(simp;done)|(simp;omega)) _
 have of:aM 3 w1 Wf (ajH p3 i3 S) (mY (N:Int) l):=by rw[D];exact(o3.setBelow (by show w.heap.size+1<_;omega) _).setBelow (by show w.heap.size+1<_;omega) _
 have Gf:=Kf.cell;clear D G2 F2;exact bodyPost_ret (v:=.tuple #[.agg #[(N:Int),ajH p3 i3 S],.bool true]) (by simp[results,results216,go_sem,Gf]) rfl ⟨_,_,_,rfl,of.ints,Bf⟩
theorem adN(w:World)(g:Int)(v:Value)(l:List Int)(hv:aO w v l)(hf:bF g l=true):
  Calls prog 104 #[.agg #[g,v]] w fun e w'=>e=.returned (sK g l)/\Below w w w':=by
 obtain⟨a,c,rfl⟩:=hv.shape;have S:sK g l=rI (-1) (mY g l) (mY g l).length:=by unfold sK;rw[hf];rfl
 have I:=QA (w.alloc (.cells #[g,ajH a l.length c] 31)) g _ l (hv.alloc _) hf;have D:=ID g l;have F:=M0 (-1) (mY g l) (fun x S=>(D x S).2) aI;obtain⟨T,hT⟩:=aN (mY g l);rw[<-hT]at S I D F;have HX:=aJ S;have a8:=aJ I;have a7:=aJ D;have a1:=aJ F;clear S I D F hf hT;go_enter func104,ntmps104;go_wp2_with fail;refine a8.out.mono ?_;rintro e w1 ⟨p1,i1,q1,rfl,o1,b1⟩;have b3:i1=T.length:=o1.capLe.1;subst b3;have B1:Below w w w1:=(aY _ _).after b1 (by simp);have Z:=o1.alloc (.cells #[g,ajH p1 T.length q1] 31);obtain⟨_,b,e0,_,b5,_,K,hc,hb⟩:=Z.view prog 24 3 underlying24 aP;injection b5 with x1 _ x3;subst x1 x3;have HC:=aJ hc;have a6:=aJ K;clear hc K o1 Z hb;go_wp2_with fail;go_loop [5,18] (fun mv iv=>∃j:Nat,j<=T.length/\iv=ajJ j/\mv=ajJ (rI (-1) T j)) (fun _ iv=>T.length-(intOf iv).toNat)
 case atStart=>exact⟨0,Nat.zero_le _,rfl,rfl⟩
 case round=>
  obtain⟨j,hj,rfl,rfl⟩:=hrel;have a9:=a1.out j;by_cases hlt:j<T.length
  ·have O:(j:Int)<(T.length:Int):=aI;have ck:=HC.out j hlt;have ik:=fun W=>a6.out W j hlt;have R:rI (-1) T (j+1)=max (rI (-1) T j) (dI T[j]):=by rw[rI,aU T j hlt]
   have Y:=a7.out _ (List.getElem_mem hlt);obtain⟨y,hy⟩:=aN (T[j]);rw[<-hy]at ck R Y;have J:=aJ (fun W=>vI y W Y.1 aI);have b4:=EN y aI;obtain⟨z,hz⟩:=aN (dI y);rw[<-hz]at R b4;simp only[<-hz]at J;obtain⟨M,hM⟩:=aN (rI (-1) T j);rw[<-hM]at R a9 ⊢;have HS:=aJ R;clear hy hz hM R;go_wp2_with (go_at_call 165;refine(J.out _).mono ?_;rintro e w' ⟨rfl,rfl⟩);go_round
   case rel=>exact⟨j+1,by omega,by go_num,by rw[HS.out];try omega⟩
   case measure=>simp[intOf];omega
  ·have O:¬(j:Int)<(T.length:Int):=aI;have N:j=T.length:=aI;have HJ:=aJ N;clear N;go_wp2;go_ret;exact⟨fF (by rw[HX.out,<-HJ.out]),B1.alloc B1.size _⟩
theorem SB(l:List Int)(g k:Nat)(hk:k<=g)(s:Nat):k<(jG l g s).length:=by rw[yP];omega
theorem U8(w:World)(N:Nat)(v:Value)(l:List Int)(hv:aO w v l)(S:bF (N:Int) l=true):
  Calls prog 105 #[.agg #[(N:Int),v]] w fun e w'=>∃ad i c,e=.returned (ajH ad i c)/\aO w' (ajH ad i c) (mU (N:Int) l)/\Below w w w':=by
 obtain⟨a,c,rfl⟩:=hv.shape;have hm:=dV S;have hl:=jQ S;obtain⟨h0,h6,f0,f2⟩:=dQ S;have hN:N<=6:=aI;have hp:=cK N 6 hN;have a9:=hp.1;have e9:=hp.2;simp at a9;have hx:mU (N:Int) l=jG l N (2^N):=by unfold mU;rw[S,Int.toNat_natCast];rfl
 obtain⟨V,hV⟩:=aN (w.alloc (.cells #[(N:Int),ajH a l.length c] 31));have B:Below w w V:=fR hV;have K1:aR V w 31 #[(N:Int),ajH a l.length c]:=eG hV;have a6:∀W,W=V->Calls prog 101 #[.agg #[(N:Int),ajH a l.length c]] W fun e w'=>e=.returned (.bool true)/\Below W W w':=fun W h=>by rw[h];have:=dC (N:Int) l _ V (hv.below B aK);rw[S]at this;exact this
 have O:=fun(W:World) (h:aO W (ajH a l.length c) l)=>iW (N:Int) _ l W h aI aI;obtain⟨M,hM⟩:=aN (2^N);have a1:(2:Int)^(N:Int).toNat-1=(M:Int)-1:=by rw[Int.toNat_natCast,hM];simp
 simp only[a1]at O;have g7:M<=64:=by have h:=Nat.pow_le_pow_right (show 0<2 by decide) hN;rw[hM];simpa using h
 have b0:∀s,s<M->bN s<=N:=fun s hs=>QI N aI s aI;have D:=fun(W:World) (s:Nat) (hs:s<M) (h:aO W (ajH a l.length c) l)=>FT W (N:Int) _ l h hm hl (s:Int) ⟨by omega,by omega⟩;rw[<-hM]at hx;have HV:=aJ hV;have d0:=aJ a6;have d5:=aJ O;have d8:=aJ D;have d6:=aJ b0;have HX:=aJ hx;clear hV a6 O D b0 hx S f0 f2 hm hp a9 e9 hM a1;go_enter func105,ntmps105;go_wp2_with fail;refine(d0.out _ HV.out.symm).mono ?_;rintro e w1 ⟨rfl,b1⟩;rw[HV.out.symm]at b1;have B1:=B.after b1 B.size;have J:=K1.keep b1;have G1:=J.cell;go_wp2_with (at_make;refine kX rfl _ _ _ rfl 3 underlying24 aP (N+1) _ _ rfl rfl (by go_num) (by go_num) aI ?_;intro w2 I hg;have B2:=B1.grown hg B1.size (fun q hq=>by cases hq);have K2:=J.grow hg (by simp);clear G1 hg;have G1:=K2.cell);have j7:=J.lt;refine(d5.out w2 (hv.below B2 aK)).mono ?_;rintro e w3 ⟨rfl,b3⟩;have B3:=B2.after b3 B2.size;have K3:=K2.keep b3;have o3:=I.keep b3;clear G1 I;go_wp2_with fail;go_loopw [16] (fun iv wr=>∃j:Nat,j<=M/\iv=ajJ j/\aM 3 w1 wr (ajH (some ⟨w1,0,none⟩) (N+1) (N+1)) (jG l N j)/\Below w w wr/\aR wr w 31 #[(N:Int),ajH a l.length c]) (fun iv _=>M-(intOf iv).toNat)
 case atStart=>exact⟨0,Nat.zero_le _,rfl,o3,B3,K3⟩
 case round=>
  obtain⟨j,hj,rfl,ho,Br,Kr⟩:=hrel;clear o3;by_cases hlt:j<M
  ·have a8:(j:Int)<(M:Int)-1+1:=aI;have b4:=d6.out j hlt;have z:jG l N (j+1)=(jG l N j).set (bN j) (max ((jG l N j).getD (bN j) 0) ((wO l (j:Int)).length:Int)):=rfl;have K:=GO l N j aI;have f3:=NF l (j:Int) aI aI;have hk:=SB l N (bN j) b4 j;have F:=yP l N j;have e6:(bN j:Int)<(N:Int)+1:=aI;have Y:=aJ (fun W=>gE j W aI);have D:=d8.out wr.drew j hlt (hv.below Br.drew aK);obtain⟨T,hT⟩:=aN (wO l (j:Int));rw[<-hT]at z f3 D;obtain⟨L,hL⟩:=aN (jG l N j);rw[<-hL]at z K hk F ho;obtain⟨k,R⟩:=aN (bN j);rw[<-R]at z hk b4 e6;simp only[<-R]at Y;rw[List.getD_eq_getElem?_getD,List.getElem?_eq_getElem hk,Option.getD_some]at z;have f7:=K _ (List.getElem_mem hk);obtain⟨y,hy⟩:=aN (L[k]);have d7:=aJ z;have Z:=aJ D;have c0:=ho.cellAt F.symm k hk;rw[<-hy]at c0 f7;have HY:=aJ hy;clear z D hT hL R K hy;have Kd:aR wr.drew w.heap.size 31 #[(N:Int),ajH a l.length c]:=Kr;have od:=ho.drewN 1;have j8:∀(p:Option Addr) (i q:Nat) (W:World),(Instr.field 31 (.agg #[(N:Int),ajH p i q]) 1).run prog W=.ok (ajH p i q) W:=fun _ _ _ _=>rfl;have G:=Kr.cell;have Gd:=Kd.cell;go_wp2_with (go_at_call 165;refine(Y.out _).mono ?_;rintro e w' ⟨rfl,rfl⟩);go_region_law
    (go_simp;go_at_call 217;refine Z.out.mono ?_;rintro e w5 ⟨p5,i5,q5,rfl,o5,b5⟩;have e7:i5=T.length:=o5.ints.capLe.1;subst e7;have o6:=od.keep b5;have c6:=o6.cellAt F.symm k hk;rw[<-HY.out]at c6;have f6:=o6.frozenAt F.symm k)
   all_goals
    have st:=o6.stored F.symm k (max y (T.length:Int)) ⟨by omega,by omega⟩;have B6:Below w w w5:=Br.drew.after b5 Br.drew.size;have K6:=Kd.keep b5;have B7:Below w w (w5.setCell ⟨w1.heap.size,k,none⟩ (ajJ (max y (T.length:Int)))):=Below.setCell B6 (by show w.heap.size<=w1.heap.size;omega) _;have K7:=K6.far (p:=⟨w1.heap.size,k,none⟩) (by show w.heap.size≠w1.heap.size;omega) (ajJ (max y (T.length:Int)));clear G Gd c0 c6 f6 od o6 o5;go_wp2;go_roundw
    case rel=>exact⟨j+1,by omega,by go_num,by rw[d7.out,<-HY.out];exact st.1,B7,K7⟩
    case measure=>simp[intOf];omega
  ·have a8:¬(j:Int)<(M:Int)-1+1:=aI;have a7:j=M:=aI;have HJ:=aJ a7;clear a7;go_wp2;go_ret;exact⟨_,_,_,rfl,by rw[HX.out,<-HJ.out];exact ho.ints,Br⟩
end
end Go.Proofs.YtcpoomdoodlkjaaGreatDoor
