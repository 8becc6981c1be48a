/- Lemmas for CardReports. No condition. -/
import Derived.Test.YtcpoomdoodlkjaaGreatDoorQ40
set_option maxRecDepth 100000
set_option maxHeartbeats 64000000
namespace Go.Proofs.YtcpoomdoodlkjaaGreatDoor
section
open Go.RowKit Go.G5 Go.Proofs.Tryz
def wR(l:List Int)(s:Int):List Int:=eD (l.map fun t=>bK s t)
def wC(l:List Int)(s:Nat):Bool:=(wR l s).length==2^bR s
def nJ(g:Int)(l:List Int):List Int:=if bJ g l then bW (wC l) (2^g.toNat) else []
def rP(b:Int)(l:List Int):Nat->Int
 |0=>b
 |k+1=>max (rP b l k) (dL (l.getD k 0))
def sO(g:Int)(l:List Int):Int:=if bJ g l then rP (-1) (nJ g l) (nJ g l).length else -2
def jJ(l:List Int)(g:Nat):Nat->List Int
 |0=>List.replicate (g+1) 0
 |s+1=>(jJ l g s).set (bR s) (max ((jJ l g s).getD (bR s) 0) ((wR l s).length:Int))
def mX(g:Int)(l:List Int):List Int:=if bJ g l then jJ l g.toNat (2^g.toNat) else []
theorem yU(s t:Int)(z:0<=s)(h1:s<64):0<=bK s t/\bK s t<64:=lU s t 64 z h1
theorem NJ(l:List Int)(s:Int)(z:0<=s)(h1:s<64):(wR l s).length<=64:=by
 refine(SE _ ?_).2;intro x D;obtain⟨t,_,rfl⟩:=List.mem_map.1 D;exact yU s t z h1
theorem M7(b:Int)(l:List Int)(h:∀x∈l,x<64)(hb:-1<=b/\b<=8):∀k,-1<=rP b l k/\rP b l k<=8:=by
 intro k
 induction k with
 |zero=>exact hb
 |succ k ih=>
  rw[rP];have h2:dL (l.getD k 0)<=8:=by
   have z:(l.getD k 0).toNat<256:=by
    rw[List.getD_eq_getElem?_getD]
    cases hk:l[k]? with
    |none=>simp
    |some x=>have:=h x (List.mem_of_getElem? hk);simp;omega
   have:=rR _ z;unfold dL;omega
  omega
theorem IG(g:Int)(l:List Int):∀x∈nJ g l,0<=x/\x<64:=by
 unfold nJ
 split
 ·rename_i h;intro x z;obtain⟨D,F,_,_⟩:=dT h;have h1:=mQ _ _ x z;have h2:(2:Nat)^g.toNat<=2^6:=Nat.pow_le_pow_right aY aK;omega
 ·intro x z;simp at z
theorem MA(g:Int)(l:List Int):-2<=sO g l/\sO g l<=8:=by
 unfold sO
 split
 ·have:=M7 (-1) (nJ g l) (fun x z=>(IG g l x z).2) aK (nJ g l).length;omega
 ·omega
theorem yS(l:List Int)(g:Nat):∀s,(jJ l g s).length=g+1:=by
 intro s
 induction s with
 |zero=>simp[jJ]
 |succ s ih=>rw[jJ,List.length_set,ih]
theorem GR(l:List Int)(g:Nat):∀s,s<=64->∀x∈jJ l g s,0<=x/\x<=64:=by
 intro s
 induction s with
 |zero=>intro _ x z;have:=List.eq_of_mem_replicate z;omega
 |succ s ih=>
  intro F x z;have ih:=ih aK;have ht:=NJ l (s:Int) aK aK;rw[jJ]at z;rcases List.mem_or_eq_of_mem_set z with h|h
  ·exact ih x h
  ·have D:0<=(jJ l g s).getD (bR s) 0/\(jJ l g s).getD (bR s) 0<=64:=by
    rw[List.getD_eq_getElem?_getD]
    cases hk:(jJ l g s)[bR s]? with
    |none=>simp
    |some y=>exact ih y (List.mem_of_getElem? hk)
   omega
theorem QM:∀g:Nat,g<7->∀s:Nat,s<2^g->bR s<=g:=by decide +kernel
theorem acO(l:List Int)(s:Int)(k:Nat)(h:k<l.length):vK (eD ((l.take k).map fun t=>bK s t)) (bK s l[k])=eD ((l.take (k+1)).map fun t=>bK s t):=by
 rw[VY,List.take_succ_eq_append_getElem h,List.map_append];rfl
def jX(n:Nat):Nat->Nat
 |0=>1
 |i+1=>jX n i*(n-i)/(i+1)
def tK(n k:Nat):Nat->Nat
 |0=>1
 |i+1=>tK n k i*(n-k+(i+1))/(i+1)
theorem adG:∀n:Nat,n<7->∀k:Nat,k<7->k<=n->tK n k k=jX n k:=by decide +kernel
theorem WO:∀n:Nat,n<7->∀k:Nat,k<7->k<=n->0<jX n k/\jX n k<=20:=by decide +kernel
theorem afX:∀n:Nat,n<7->∀k:Nat,k<7->k<=n->∀i:Nat,i<7->i<=k->tK n k i<=20:=by decide +kernel
theorem acL:∀g:Nat,g<7->∀s:Nat,s<2^g->bR s<=g:=by decide +kernel
def qQ(g:Nat)(l:List Int):Nat->Int
 |0=>0
 |k+1=>qQ g l k+((60/jX g (bR (l.getD k 0).toNat):Nat):Int)
def sP(g:Int)(l:List Int):Int:=if bJ g l then qQ g.toNat l l.length else -1
theorem MZ(g:Nat)(l:List Int):∀k,0<=qQ g l k/\qQ g l k<=60*k:=by
 intro k
 induction k with
 |zero=>simp[qQ]
 |succ k ih=>rw[qQ];have:=Nat.div_le_self 60 (jX g (bR (l.getD k 0).toNat));obtain⟨D,z⟩:=aQ (60/jX g (bR (l.getD k 0).toNat));rw[<-z]at this ⊢;omega
theorem M0(g:Int)(l:List Int):-1<=sP g l/\sP g l<=3840:=by
 unfold sP
 split
 ·rename_i h;have h1:=MZ g.toNat l l.length;have h2:=jT h;omega
 ·omega
def lH(s e:Int):Int:=cM s (2^e.toNat)
def AO(s:Int):List Int:=(gX s).map (lH s)
def lC(l:List Int):List Int:=l.flatMap AO
def XP(g:Int)(l:List Int):Int:=if bJ g l then g else 0
def DU(g:Int)(l:List Int):List Int:=if bJ g l then eD (lC l) else []
def lT(l:List Int)(s:Int):Bool:=(gX s).all fun e=>fS l (s-2^e.toNat)
def oP(g:Int)(l:List Int):Bool:=bJ g l&&l.all (lT l)
theorem ZI:∀s:Nat,s<64->∀e∈gX (s:Int),lH s e=(s:Int)-2^e.toNat:=by decide +kernel
theorem OB(s e:Int)(z:0<=s)(h1:s<64)(D:e∈gX s):lH s e=s-2^e.toNat:=by
 obtain⟨n,rfl⟩:=Int.eq_ofNat_of_zero_le z;exact ZI n aK e D
theorem abR(s e:Int)(z:0<=s/\s<64):0<=lH s e/\lH s e<64:=nT s _ 64 z.1 z.2
theorem V9(s:Int):(AO s).length<=6:=by unfold AO;rw[List.length_map];exact vE s
theorem DX(l:List Int):(lC l).length<=6*l.length:=by
 unfold lC
 induction l with
 |nil=>simp
 |cons t m ih=>rw[List.flatMap_cons,List.length_append,List.length_cons];have:=V9 t;omega
theorem ZY(l:List Int)(k:Nat)(h:k<l.length):lC (l.take (k+1))=lC (l.take k)++AO l[k]:=by
 unfold lC;rw[List.take_succ_eq_append_getElem h,List.flatMap_append,List.flatMap_cons,List.flatMap_nil,List.append_nil]
theorem CQ{g:Int}{l:List Int}(h:bJ g l=true):l.length<=64:=by
 obtain⟨z,D,hm,F⟩:=dT h;have:=mC z D;exact WN l 64 F (fun x I=>by have:=hm x I;omega)
theorem ag3(g:Int)(l:List Int):(DU g l).length<=384:=by
 unfold DU
 split
 ·rename_i h;have:=CQ h;have:=DX l;have:=zU (lC l);omega
 ·simp
theorem af7(g:Int)(l:List Int):(bJ g l&&!((DU g l).any fun s=>!fS l s))=oP g l:=by
 unfold oP
 cases K:bJ g l with
 |false=>rfl
 |true=>
  have M:DU g l=eD (lC l):=by unfold DU;rw[K];rfl
  rw[M,Bool.true_and,Bool.true_and,Bool.eq_iff_iff,Bool.not_eq_true',List.any_eq_false,List.all_eq_true];have z:=pY K;constructor
  ·intro h s I;unfold lT;rw[List.all_eq_true];intro e D;obtain⟨k,hk,rfl⟩:=List.getElem_of_mem I;have hb:=z.2.2 k hk;have F:lH l[k] e∈eD (lC l):=by rw[qE];unfold lC;exact List.mem_flatMap.2 ⟨_,I,List.mem_map.2 ⟨e,D,rfl⟩⟩
   have:=h _ F;rw[OB _ e hb.1 hb.2 D]at this;simpa using this
  ·intro h x J;rw[qE]at J;unfold lC at J;obtain⟨s,I,J⟩:=List.mem_flatMap.1 J;obtain⟨e,D,rfl⟩:=List.mem_map.1 J;obtain⟨k,hk,rfl⟩:=List.getElem_of_mem I;have hb:=z.2.2 k hk;have:=h _ I;unfold lT at this;rw[List.all_eq_true]at this;have:=this e D;rw[OB _ e hb.1 hb.2 D];simpa using this
def AF(F B D G Y C R:ByteArray):List ByteArray:=[(⟨#[102,97,109,105,108,121]⟩:ByteArray),F,(⟨#[98,108,111,99,107,101,114]⟩:ByteArray),B,(⟨#[100,105,109,101,110,115,105,111,110]⟩:ByteArray),D,(⟨#[103,114,111,119,116,104]⟩:ByteArray),G,(⟨#[108,121,109]⟩:ByteArray),Y,(⟨#[100,105,115,99,114,101,112,97,110,99,121]⟩:ByteArray),C,(⟨#[98,121]⟩:ByteArray),R]
def I9(F B D G Y:ByteArray):ByteArray:=(⟨#[102,97,109,105,108,121,32]⟩:ByteArray)++F++(⟨#[32,98,108,111,99,107,101,114,32]⟩:ByteArray)++B++(⟨#[32,100,105,109,101,110,115,105,111,110,32]⟩:ByteArray)++D++(⟨#[32,103,114,111,119,116,104,32]⟩:ByteArray)++G++(⟨#[32,108,121,109,32]⟩:ByteArray)++Y++(⟨#[32,100,105,115,99,114,101,112,97,110,99,121,32]⟩:ByteArray)
def vH(F B D G Y C R:ByteArray):ByteArray:=I9 F B D G Y++C++(⟨#[32,98,121,32]⟩:ByteArray)++R
theorem aa5(F B D G Y C R:ByteArray):cK dS (AF F B D G Y C R)=vH F B D G Y C R:=by
 unfold AF vH I9;simp only[mY,oK];refine eV ?_;simp[dS]
def JB(F B D G Y C R:ByteArray)(z I b2 J K M:Bool):List ByteArray:=AF F B D G Y C R++eB z (⟨#[108,97,109,105,110,97,114]⟩:ByteArray)++eB I (⟨#[99,114,111,115,115,102,114,101,101]⟩:ByteArray)++eB b2 (⟨#[105,110,116,101,114,115,101,99,116,105,110,103]⟩:ByteArray)++eB J (⟨#[97,110,116,105,99,104,97,105,110]⟩:ByteArray)++eB K (⟨#[100,111,119,110]⟩:ByteArray)++eB M (⟨#[98,97,115,101,115]⟩:ByteArray)
def xG(F B D G Y C R:ByteArray)(z I b2 J K M:Bool):ByteArray:=vH F B D G Y C R++jL z (⟨#[32,108,97,109,105,110,97,114]⟩:ByteArray)++jL I (⟨#[32,99,114,111,115,115,102,114,101,101]⟩:ByteArray)++jL b2 (⟨#[32,105,110,116,101,114,115,101,99,116,105,110,103]⟩:ByteArray)++jL J (⟨#[32,97,110,116,105,99,104,97,105,110]⟩:ByteArray)++jL K (⟨#[32,100,111,119,110]⟩:ByteArray)++jL M (⟨#[32,98,97,115,101,115]⟩:ByteArray)
theorem aa8(F B D G Y C R:ByteArray)(z I b2 J K M:Bool):cK dS (JB F B D G Y C R z I b2 J K M)=xG F B D G Y C R z I b2 J K M:=by
 have N:AF F B D G Y C R≠[]:=by simp[AF]
 have h1:=rX _ N z (⟨#[108,97,109,105,110,97,114]⟩:ByteArray);have h2:=rX _ h1 I (⟨#[99,114,111,115,115,102,114,101,101]⟩:ByteArray);have h3:=rX _ h2 b2 (⟨#[105,110,116,101,114,115,101,99,116,105,110,103]⟩:ByteArray);have h4:=rX _ h3 J (⟨#[97,110,116,105,99,104,97,105,110]⟩:ByteArray);have O:=rX _ h4 K (⟨#[100,111,119,110]⟩:ByteArray);unfold JB xG;rw[kI _ O M _ (⟨#[32,98,97,115,101,115]⟩:ByteArray) rfl,kI _ h4 K _ (⟨#[32,100,111,119,110]⟩:ByteArray) rfl,kI _ h3 J _ (⟨#[32,97,110,116,105,99,104,97,105,110]⟩:ByteArray) rfl,kI _ h2 b2 _ (⟨#[32,105,110,116,101,114,115,101,99,116,105,110,103]⟩:ByteArray) rfl,kI _ h1 I _ (⟨#[32,99,114,111,115,115,102,114,101,101]⟩:ByteArray) rfl,kI _ N z _ (⟨#[32,108,97,109,105,110,97,114]⟩:ByteArray) rfl,aa5]
theorem JA(F B D G Y:ByteArray)(M:F.size<=10000)(hB:B.size<=10000)(K:D.size<=21)(N:G.size<=200)(O:Y.size<=21):(I9 F B D G Y).size<=20400:=by
 unfold I9;simp only[ByteArray.size_append];have z:(⟨#[102,97,109,105,108,121,32]⟩:ByteArray).size=7:=rfl;have e1:(⟨#[32,98,108,111,99,107,101,114,32]⟩:ByteArray).size=9:=rfl;have e2:(⟨#[32,100,105,109,101,110,115,105,111,110,32]⟩:ByteArray).size=11:=rfl;have e3:(⟨#[32,103,114,111,119,116,104,32]⟩:ByteArray).size=8:=rfl;have I:(⟨#[32,108,121,109,32]⟩:ByteArray).size=5:=rfl;have J:(⟨#[32,100,105,115,99,114,101,112,97,110,99,121,32]⟩:ByteArray).size=13:=rfl;omega
theorem RS(F B D G Y C R:ByteArray)(I:F.size<=10000)(hB:B.size<=10000)(z:D.size<=21)(J:G.size<=200)(K:Y.size<=21)(hC:C.size<=21)(M:R.size<=132):(vH F B D G Y C R).size<=20600:=by
 have h:=JA F B D G Y I hB z J K;unfold vH;simp only[ByteArray.size_append];have e:(⟨#[32,98,121,32]⟩:ByteArray).size=4:=rfl;omega
theorem RT(F B D G Y C R:ByteArray)(z I b2 J K M:Bool)(h:(vH F B D G Y C R).size<=20600):(xG F B D G Y C R z I b2 J K M).size<=20700:=by
 unfold xG;simp only[ByteArray.size_append];have N:=dX z (⟨#[32,108,97,109,105,110,97,114]⟩:ByteArray);have t0:(⟨#[32,108,97,109,105,110,97,114]⟩:ByteArray).size=8:=rfl;have O:=dX I (⟨#[32,99,114,111,115,115,102,114,101,101]⟩:ByteArray);have t1:(⟨#[32,99,114,111,115,115,102,114,101,101]⟩:ByteArray).size=10:=rfl;have S:=dX b2 (⟨#[32,105,110,116,101,114,115,101,99,116,105,110,103]⟩:ByteArray);have t2:(⟨#[32,105,110,116,101,114,115,101,99,116,105,110,103]⟩:ByteArray).size=13:=rfl;have Z:=dX J (⟨#[32,97,110,116,105,99,104,97,105,110]⟩:ByteArray);have t3:(⟨#[32,97,110,116,105,99,104,97,105,110]⟩:ByteArray).size=10:=rfl;have s4:=dX K (⟨#[32,100,111,119,110]⟩:ByteArray);have t4:(⟨#[32,100,111,119,110]⟩:ByteArray).size=5:=rfl;have s5:=dX M (⟨#[32,98,97,115,101,115]⟩:ByteArray);have t5:(⟨#[32,98,97,115,101,115]⟩:ByteArray).size=6:=rfl;omega
theorem GQ(g:Int)(l:List Int):(mX g l).length<=7/\∀x∈mX g l,dD x:=by
 unfold mX
 split
 ·rename_i z;obtain⟨F,I,_,_⟩:=dT z;have h2:(2:Nat)^g.toNat<=2^6:=Nat.pow_le_pow_right aY aK;refine⟨by rw[yS];omega,fun x D=>?_⟩;have:=GR l g.toNat (2^g.toNat) aK x D;exact⟨by omega,by omega⟩
 ·exact⟨by simp,by simp⟩
theorem FL(g:Int)(l:List Int):(eX (mX g l)).size<=200:=by
 have h:=GQ g l;have h2:=lP (mX g l) h.2;omega
theorem Q7(g:Int)(l:List Int):0<=wP g l/\wP g l<=6:=by
 unfold wP
 split
 ·rename_i z;obtain⟨D,F,_,_⟩:=dT z;have hm:=dY z;have h2:(2:Nat)^g.toNat<=2^6:=Nat.pow_le_pow_right aY aK;have h3:=Nat.two_pow_pos g.toNat;have:=LU l hm (2^g.toNat-1) aK;omega
 ·omega
def WY(g:Int)(l:List Int):ByteArray:=xG (dB g l) (dB (gZ g l) (lD g l)) (bQ (sO g l)) (eX (mX g l)) (bQ (sP g l)) (bQ (wP g l)) (bZ g (yN g l)) (tR g l) (mS g l) (mB g l) (qT g l) (oP g l) (wL g l)
def fmL(g:Int)(l:List Int):List ByteArray:=JB (dB g l) (dB (gZ g l) (lD g l)) (bQ (sO g l)) (eX (mX g l)) (bQ (sP g l)) (bQ (wP g l)) (bZ g (yN g l)) (tR g l) (mS g l) (mB g l) (qT g l) (oP g l) (wL g l)
theorem aiY(g:Int)(l:List Int):cK dS (fmL g l)=WY g l:=aa8 _ _ _ _ _ _ _ _ _ _ _ _ _
def CS(g:Int)(l:List Int):ByteArray:=if bJ g l then WY g l else ByteArray.empty
theorem GK{g:Int}{l:List Int}(h:bJ g l=true):CS g l=WY g l:=by unfold CS;rw[if_pos h]
theorem WW{g:Int}{l:List Int}(h:bJ g l=false):CS g l=ByteArray.empty:=by unfold CS;rw[h];rfl
theorem ad1(g:Int)(l:List Int):(WY g l).size<=20700:=by
 have h1:=MA g l;have h2:=M0 g l;have h3:=Q7 g l;exact RT _ _ _ _ _ _ _ _ _ _ _ _ _ (RS _ _ _ _ _ _ _ (fC _ _) (fC _ _) (cW _ ⟨by omega,by omega⟩) (FL g l) (cW _ ⟨by omega,by omega⟩) (cW _ ⟨by omega,by omega⟩) (fF _ _))
theorem FW(w:World)(g:Int)(v:Value)(l:List Int)(hv:aR w v l)(hm:∀x∈l,0<=x/\x<64)(hl:l.length<=64)(s:Int)(hs:0<=s/\s<64):
  Calls prog 217 #[.agg #[g,v],s] w fun e w'=>∃ad i c,e=.returned (.agg #[g,aI ad i c])/\dR 3 w.heap.size w' (aI ad i c) (wR l s)/\Below w w w':=by
 obtain⟨a,b,f9,c,rfl,c8,R,hc,hb⟩:=hv.view prog 24 3 underlying24 aS;obtain⟨V,N⟩:=aQ ((w.alloc (.cells #[g,aI a l.length c] 31)).alloc (.cells #[aJ,()] 31));have B:Below w w V:=gD N;have K1:aU V w 31 #[g,aI a l.length c]:=gO N;have K2:aU V (w.heap.size+1) 31 #[aJ,()]:=gY N;have HV:=aN N;have HC:=aN hc;have a7:=aN R;have HM:=aN hm;have z1:=K1.lt;have z2:=K2.lt;have f5:l.length<=1048576:=aK;clear N hc R hm;go_enter func217,ntmps217;go_wp2_with fail;rw[HV.out.symm];go_loopw [5,11] (fun ov iv wr=>∃(j:Nat) (p:Option Addr) (r m:Nat),j<=l.length/\iv=aM j/\ov=aI p r m/\aP 3 V wr (aI p r m) ((l.take j).map fun t=>bK s t)/\Below V V wr) (fun _ iv _=>l.length-(intOf iv).toNat)
 case atStart=>exact⟨0,_,_,_,Nat.zero_le _,rfl,rfl,aP.nil _ _ _,Below.refl _ _⟩
 case round=>
  obtain⟨j,p,r,m,hj,rfl,rfl,own,J⟩:=hrel;have z:=aN own;have zw:=J.size;clear own;by_cases hlt:j<l.length
  ·have Y:(j:Int)<(l.length:Int):=aK;have ck:=aW HC.out hb (B.after J B.size) aO j hlt;have ik:=fun W=>a7.out W j hlt;have hx:=HM.out _ (List.getElem_mem hlt);have I:(l.take (j+1)).map (fun t=>bK s t)=(l.take j).map (fun t=>bK s t)++[bK s l[j]]:=by rw[List.take_succ_eq_append_getElem hlt,List.map_append];rfl
   obtain⟨x,a1⟩:=aQ (l[j]);rw[<-a1]at ck hx I;have O:=eG hs.1 (show s<4611686018427387904 by omega) hx.1 (show x<4611686018427387904 by omega);have b6:=yU s x hs.1 hs.2;obtain⟨y,hy⟩:=aQ (bK s x);rw[<-hy]at O b6 I;have a8:=aN I;have S:((l.take j).map (fun t=>bK s t)).length<100:=by rw[List.length_map,List.length_take];omega
   clear a1 hy I;go_wp2_with (at_builtin;refine cZ rfl _ _ _ rfl 3 underlying24 aS V.heap.size _ ((l.take j).map fun t=>bK s t) y wr.heap.size rfl rfl (bB _ _ _ _ _ rfl) (z.out.alloc _) ⟨by omega,by omega⟩ aK aV ?_;intro v' w6 K b1;obtain⟨av,nv,cv,rfl⟩:=K.shape3);have Z:=z.out.lt;have B6:Below V V w6:=(J.alloc J.size (.cells #[y] 3)).grown b1 aV (fun q hq=>(Z q hq).1);go_roundw
   case rel=>exact⟨j+1,av,nv,cv,by omega,by go_num,rfl,by rw[a8.out];exact K,B6⟩
   case measure=>simp[intOf];omega
  ·have Y:¬(j:Int)<(l.length:Int):=aK;have hT:wR l s=eD ((l.take j).map fun t=>bK s t):=by rw[List.take_of_length_le aK];rfl
   have S:((l.take j).map (fun t=>bK s t)).length<=1048576:=by rw[List.length_map,List.length_take];omega
   have M:=JI g _ _ wr z.out.ints S;rw[<-hT]at M;have a6:=aN M;have a9:=K1.keep J;have b0:=K2.keep J;have G:=a9.cell;clear hT M;go_wp2_with fail;refine a6.out.mono ?_;rintro e w3 ⟨p3,i3,q3,rfl,o3,b3⟩;have D:=b0.keep b3;have B3:=(B.after J B.size).after b3 (B.after J B.size).size;have z3:=D.lt;have G2:=D.cell;have F2:=D.frozen;clear G;go_wp2;refine bG ?_;intro Wf F;have Kf:aU Wf (w.heap.size+1) 31 #[g,aI p3 i3 q3]:=by rw[F];have:=(D.set 0 (aM g)).set 1 (aI p3 i3 q3);simpa using this
   have Bf:Below w w Wf:=by rw[F];exact Below.setCell (Below.setCell B3 (by first|omega|(simp;done)|(simp;omega)) _) (by first|omega|(simp;done)|(simp;omega)) _
   have gf:GrownIn w3 Wf (fun k=>k=w.heap.size+1):=by rw[F];exact(GrownIn.of_row (fH w3 ⟨w.heap.size+1,0,none⟩ _) (fun k hk=>(Option.some.inj hk).symm)).trans (GrownIn.of_row (fH _ ⟨w.heap.size+1,1,none⟩ _) (fun k hk=>(Option.some.inj hk).symm))
   have b4:=o3.lt;have of:=o3.growIn gf (fun k hk e=>by have:=(b4 k hk).1;omega);have Gf:=Kf.cell;clear F G2 F2;exact bodyPost_ret (v:=.agg #[g,aI p3 i3 q3]) (by simp[results,results217,go_sem,Gf]) rfl ⟨_,_,_,rfl,of.mono aK,Bf⟩
theorem QI(w:World)(N:Nat)(v:Value)(l:List Int)(hv:aR w v l)(K:bJ (N:Int) l=true)(s:Int)(hs:fD N s=true):
  Calls prog 308 #[.agg #[(N:Int),v],s] w fun e w'=>∃ad i c,e=.returned (.tuple #[.agg #[(N:Int),aI ad i c],.bool true])/\dR 3 w.heap.size w' (aI ad i c) (wR l s)/\Below w w w':=by
 have hm:=dY K;have hl:=jT K;obtain⟨h0,h6,b0,b4⟩:=dT K;have hN:N<=6:=aK;have R:=mT.1 hs;have hp:=cO N 6 hN;have O:=hp.1;simp at O;obtain⟨a,c,rfl⟩:=hv.shape;obtain⟨V,J⟩:=aQ ((w.alloc (.cells #[(N:Int),aI a l.length c] 31)).alloc (.cells #[aJ,()] 31));have B:Below w w V:=gD J;have K1:aU V w 31 #[(N:Int),aI a l.length c]:=gO J;have K2:aU V (w.heap.size+1) 31 #[aJ,()]:=gY J;have M:∀W,W=V->Calls prog 101 #[.agg #[(N:Int),aI a l.length c]] W fun e w'=>e=.returned (.bool true)/\Below W W w':=fun W h=>by rw[h];have:=dF (N:Int) l _ V (hv.below B aO);rw[K]at this;exact this
 have F:=fun W=>qH N s W aK;simp only[hs]at F;have S:=fun(W:World) (h:aR W (aI a l.length c) l)=>FW W (N:Int) _ l h hm hl s ⟨R.1,by omega⟩;have HV:=aN J;have a1:=aN M;have a6:=aN F;have a7:=aN S;clear J M F S K hs R hm b0 b4 hp O;go_enter func308,ntmps308;go_wp2_with fail;refine(a1.out _ HV.out.symm).mono ?_;rintro e w1 ⟨rfl,Y⟩;rw[HV.out.symm]at Y;have Z:=B.after Y B.size;have a8:=K1.keep Y;have I:=K2.keep Y;have G1:=a8.cell;go_wp2_with (go_at_call 183;refine(a6.out _).mono ?_;rintro e w' ⟨rfl,rfl⟩);refine(a7.out w1 (hv.below Z aO)).mono ?_;rintro e w3 ⟨p3,i3,q3,rfl,o3,b3⟩;have z:=I.keep b3;have B3:=Z.after b3 Z.size;have z2:=I.lt;have z3:=z.lt;have G2:=z.cell;have F2:=z.frozen;clear G1;go_wp2;refine bG ?_;intro Wf D;have Kf:aU Wf (w.heap.size+1) 31 #[(N:Int),aI p3 i3 q3]:=by rw[D];have:=(z.set 0 (aM (N:Int))).set 1 (aI p3 i3 q3);simpa using this
 have Bf:Below w w Wf:=by rw[D];exact Below.setCell (Below.setCell B3 (by first|omega|(simp;done)|(simp;omega)) _) (by first|omega|(simp;done)|(simp;omega)) _
 have gf:GrownIn w3 Wf (fun k=>k=w.heap.size+1):=by rw[D];exact(GrownIn.of_row (fH w3 ⟨w.heap.size+1,0,none⟩ _) (fun k hk=>(Option.some.inj hk).symm)).trans (GrownIn.of_row (fH _ ⟨w.heap.size+1,1,none⟩ _) (fun k hk=>(Option.some.inj hk).symm))
 have a9:=o3.lt;have of:=o3.growIn gf (fun k hk e=>by have:=(a9 k hk).1;omega);have Gf:=Kf.cell;clear D G2 F2;exact bodyPost_ret (v:=.tuple #[.agg #[(N:Int),aI p3 i3 q3],.bool true]) (by simp[results,results308,go_sem,Gf]) rfl ⟨_,_,_,rfl,of.mono aK,Bf⟩
theorem VH(w:World)(N:Nat)(v:Value)(l:List Int)(hv:aR w v l)(Y:bJ (N:Int) l=true)(s:Nat)(hs:s<2^N):
  Calls prog 281 #[.agg #[(N:Int),v],(s:Int)] w fun e w'=>e=.returned (.bool (wC l s))/\Below w w w':=by
 obtain⟨h0,h6,a7,a8⟩:=dT Y;have hN:N<=6:=aK;have S:(2:Nat)^N<=2^6:=Nat.pow_le_pow_right aY hN;have J:((2:Int)^N)=((2^N:Nat):Int):=by simp
 have M:fD N (s:Int)=true:=mT.2 ⟨by omega,by rw[J];omega⟩;obtain⟨a,c,rfl⟩:=hv.shape;have F:=QI (w.alloc (.cells #[(N:Int),aI a l.length c] 31)) N _ l (hv.alloc _) Y (s:Int) M;have K:=QM N aK s hs;have O:wC l s=((wR l (s:Int)).length==2^bR s):=rfl;have z:=aN (fun W=>gI s W aK);obtain⟨T,hT⟩:=aQ (wR l (s:Int));rw[<-hT]at F O;obtain⟨p,hp⟩:=aQ (bR s);rw[<-hp]at K O;simp only[<-hp]at z;have D:=cO p 6 aK;have a6:=D.1;have b8:=D.2;simp at a6;have I:((T.length:Int)==(2:Int)^p)=(T.length==2^p):=by
  have e:((2:Int)^p)=((2^p:Nat):Int):=by simp
  rw[e,Bool.eq_iff_iff,beq_iff_eq,beq_iff_eq];omega
 rw[<-I]at O;have HX:=aN O;have R:=aN F;have b9:p<=6:=aK;clear O F hT hp K M J Y a7 a8 I D S hs;go_enter func281,ntmps281;go_wp2_with fail;refine R.out.mono ?_;rintro e w1 ⟨p1,i1,q1,rfl,o1,b1⟩;have Z:i1=T.length:=o1.ints.capLe.1;subst Z;have B1:Below w w w1:=(bF _ _).after b1 (by simp);go_wp2_with fail;go_quiet ((go_at_call 165;first|exact iX (z.out _)|exact kF (z.out _)));go_wp2;go_ret;exact⟨aZ HX.out.symm,(B1.alloc B1.size _).drewN' _⟩
theorem WA(w:World)(D N s:Nat)(l:List Int)(v:Value)(J:aR w v l)(F:bJ (N:Int) l=true)(M:w.cell? ⟨D,0,none⟩=some (aM (N:Int)))(d1:w.cell? ⟨D,1,none⟩=some v)(I:s<2^N):
  Calls prog 280 #[(s:Int),.pointer (some ⟨D,0,none⟩)] w fun e w'=>e=.returned (.bool (wC l s))/\Below w w w':=by
 obtain⟨a,c,rfl⟩:=J.shape;have hcl:=VH w N _ l J F s I;obtain⟨b,hb⟩:=aQ (wC l s);rw[<-hb]at hcl ⊢;have z:=aN hcl;clear hcl hb F I;go_enter func280,ntmps280;go_wp2_with fail;refine z.out.mono ?_;rintro e w1 ⟨rfl,K⟩;go_wp2;go_ret;exact⟨rfl,K⟩
theorem DY:∀args w,(callFunc 280 args).run prog w=.ok (.enter 280 args) w:=enters_of func280 aT rfl
theorem QE(w:World)(g:Int)(v:Value)(l:List Int)(hv:aR w v l)(M:bJ g l=true):
  Calls prog 216 #[.agg #[g,v]] w fun e w'=>∃ad i c,e=.returned (.tuple #[.agg #[g,aI ad i c],.bool true])/\aR w' (aI ad i c) (nJ g l)/\Below w w w':=by
 obtain⟨a,c,rfl⟩:=hv.shape;obtain⟨h0,h6,a6,a7⟩:=dT M;obtain⟨N,rfl⟩:=Int.eq_ofNat_of_zero_le h0;have hN:N<=6:=aK;have hx:nJ (N:Int) l=bW (wC l) (2^N):=by unfold nJ;rw[M,Int.toNat_natCast];rfl
 have d9:∀(fn:Fn) (first cap:Array Value) (w:World),(Instr.makeFunc fn first cap).run prog w=.ok (.func fn first cap) w:=fun _ _ _ _=>rfl;obtain⟨V,K⟩:=aQ ((w.alloc (.cells #[(N:Int),aI a l.length c] 31)).alloc (.cells #[aJ,()] 31));have B:Below w w V:=gD K;have K1:aU V w 31 #[(N:Int),aI a l.length c]:=gO K;have K2:aU V (w.heap.size+1) 31 #[aJ,()]:=gY K;have O:∀W,W=V->Calls prog 101 #[.agg #[(N:Int),aI a l.length c]] W fun e w'=>e=.returned (.bool true)/\Below W W w':=fun W h=>by rw[h];have:=dF (N:Int) l _ V (hv.below B aO);rw[M]at this;exact this
 have F:∀W,aR W (aI a l.length c) l->aU W w 31 #[(N:Int),aI a l.length c]->Calls prog 191 #[(N:Int),.func (.func 280) #[] #[.pointer (some ⟨w,0,none⟩)]] W fun e w'=>
   ∃ad i cp,e=.returned (.agg #[(N:Int),aI ad i cp])/\aP 3 W w' (aI ad i cp) (bW (wC l) (2^N))/\Below W W w':=fun W h1 h2=>
  wT W N hN 280 DY w.heap.size (wC l) (fun s W' hs hB=>by have k:=h2.keep hB;have k0:=k.cell 0;have k1:=k.cell 1;simp at k0 k1;exact WA W' w.heap.size N s l _ (h1.keep hB) M k0 k1 hs)
 rw[<-hx]at F;have HV:=aN K;have a1:=aN O;have Z:=aN F;clear K O F M a6 a7 hx;go_enter func216,ntmps216;go_wp2_with fail;refine(a1.out _ HV.out.symm).mono ?_;rintro e w1 ⟨rfl,R⟩;rw[HV.out.symm]at R;have Y:=B.after R B.size;have I:=K1.keep R;have J:=K2.keep R;have G1:=I.cell;go_wp2_with fail;refine(Z.out w1 (hv.below Y aO) I).mono ?_;rintro e w3 ⟨p3,i3,S,rfl,o3,b3⟩;have z:=J.keep b3;have B3:=Y.after b3 Y.size;have z2:=J.lt;have z3:=z.lt;have G2:=z.cell;have F2:=z.frozen;clear G1;go_wp2;refine bG ?_;intro Wf D;have Kf:aU Wf (w.heap.size+1) 31 #[(N:Int),aI p3 i3 S]:=by rw[D];have:=(z.set 0 (aM (N:Int))).set 1 (aI p3 i3 S);simpa using this
 have Bf:Below w w Wf:=by rw[D];exact Below.setCell (Below.setCell B3 (by first|omega|(simp;done)|(simp;omega)) _) (by first|omega|(simp;done)|(simp;omega)) _
 have of:aP 3 w1 Wf (aI p3 i3 S) (nJ (N:Int) l):=by rw[D];exact(o3.setBelow (by show w.heap.size+1<_;omega) _).setBelow (by show w.heap.size+1<_;omega) _
 have Gf:=Kf.cell;clear D G2 F2;exact bodyPost_ret (v:=.tuple #[.agg #[(N:Int),aI p3 i3 S],.bool true]) (by simp[results,results216,go_sem,Gf]) rfl ⟨_,_,_,rfl,of.ints,Bf⟩
theorem adR(w:World)(g:Int)(v:Value)(l:List Int)(hv:aR w v l)(hf:bJ g l=true):
  Calls prog 104 #[.agg #[g,v]] w fun e w'=>e=.returned (sO g l)/\Below w w w':=by
 obtain⟨a,c,rfl⟩:=hv.shape;have S:sO g l=rP (-1) (nJ g l) (nJ g l).length:=by unfold sO;rw[hf];rfl
 have I:=QE (w.alloc (.cells #[g,aI a l.length c] 31)) g _ l (hv.alloc _) hf;have D:=IG g l;have F:=M7 (-1) (nJ g l) (fun x S=>(D x S).2) aK;obtain⟨T,hT⟩:=aQ (nJ g l);rw[<-hT]at S I D F;have HX:=aN S;have a8:=aN I;have a7:=aN D;have a1:=aN F;clear S I D F hf hT;go_enter func104,ntmps104;go_wp2_with fail;refine a8.out.mono ?_;rintro e w1 ⟨p1,i1,q1,rfl,o1,b1⟩;have b3:i1=T.length:=o1.capLe.1;subst b3;have B1:Below w w w1:=(bF _ _).after b1 (by simp);have Z:=o1.alloc (.cells #[g,aI p1 T.length q1] 31);obtain⟨_,b,e0,_,b5,_,K,hc,hb⟩:=Z.view prog 24 3 underlying24 aS;injection b5 with x1 _ x3;subst x1 x3;have HC:=aN hc;have a6:=aN K;clear hc K o1 Z hb;go_wp2_with fail;go_loop [5,18] (fun mv iv=>∃j:Nat,j<=T.length/\iv=aM j/\mv=aM (rP (-1) T j)) (fun _ iv=>T.length-(intOf iv).toNat)
 case atStart=>exact⟨0,Nat.zero_le _,rfl,rfl⟩
 case round=>
  obtain⟨j,hj,rfl,rfl⟩:=hrel;have a9:=a1.out j;by_cases hlt:j<T.length
  ·have O:(j:Int)<(T.length:Int):=aK;have ck:=HC.out j hlt;have ik:=fun W=>a6.out W j hlt;have R:rP (-1) T (j+1)=max (rP (-1) T j) (dL T[j]):=by rw[rP,aX T j hlt]
   have Y:=a7.out _ (List.getElem_mem hlt);obtain⟨y,hy⟩:=aQ (T[j]);rw[<-hy]at ck R Y;have J:=aN (fun W=>vL y W Y.1 aK);have b4:=ER y aK;obtain⟨z,hz⟩:=aQ (dL y);rw[<-hz]at R b4;simp only[<-hz]at J;obtain⟨M,hM⟩:=aQ (rP (-1) T j);rw[<-hM]at R a9 ⊢;have HS:=aN R;clear hy hz hM R;go_wp2_with (go_at_call 165;refine(J.out _).mono ?_;rintro e w' ⟨rfl,rfl⟩);go_round
   case rel=>exact⟨j+1,by omega,by go_num,by rw[HS.out];try omega⟩
   case measure=>simp[intOf];omega
  ·have O:¬(j:Int)<(T.length:Int):=aK;have N:j=T.length:=aK;have HJ:=aN N;clear N;go_wp2;go_ret;exact⟨fI (by rw[HX.out,<-HJ.out]),B1.alloc B1.size _⟩
theorem SF(l:List Int)(g k:Nat)(hk:k<=g)(s:Nat):k<(jJ l g s).length:=by rw[yS];omega
theorem VC(w:World)(N:Nat)(v:Value)(l:List Int)(hv:aR w v l)(S:bJ (N:Int) l=true):
  Calls prog 105 #[.agg #[(N:Int),v]] w fun e w'=>∃ad i c,e=.returned (aI ad i c)/\aR w' (aI ad i c) (mX (N:Int) l)/\Below w w w':=by
 obtain⟨a,c,rfl⟩:=hv.shape;have hm:=dY S;have hl:=jT S;obtain⟨h0,h6,f0,f2⟩:=dT S;have hN:N<=6:=aK;have hp:=cO N 6 hN;have a9:=hp.1;have e9:=hp.2;simp at a9;have hx:mX (N:Int) l=jJ l N (2^N):=by unfold mX;rw[S,Int.toNat_natCast];rfl
 obtain⟨V,hV⟩:=aQ (w.alloc (.cells #[(N:Int),aI a l.length c] 31));have B:Below w w V:=fU hV;have K1:aU V w 31 #[(N:Int),aI a l.length c]:=eJ hV;have a6:∀W,W=V->Calls prog 101 #[.agg #[(N:Int),aI a l.length c]] W fun e w'=>e=.returned (.bool true)/\Below W W w':=fun W h=>by rw[h];have:=dF (N:Int) l _ V (hv.below B aO);rw[S]at this;exact this
 have O:=fun(W:World) (h:aR W (aI a l.length c) l)=>jA (N:Int) _ l W h aK aK;obtain⟨M,hM⟩:=aQ (2^N);have a1:(2:Int)^(N:Int).toNat-1=(M:Int)-1:=by rw[Int.toNat_natCast,hM];simp
 simp only[a1]at O;have g7:M<=64:=by have h:=Nat.pow_le_pow_right (show 0<2 by decide) hN;rw[hM];simpa using h
 have b0:∀s,s<M->bR s<=N:=fun s hs=>QM N aK s aK;have D:=fun(W:World) (s:Nat) (hs:s<M) (h:aR W (aI a l.length c) l)=>FW W (N:Int) _ l h hm hl (s:Int) ⟨by omega,by omega⟩;rw[<-hM]at hx;have HV:=aN hV;have d0:=aN a6;have d5:=aN O;have d8:=aN D;have d6:=aN b0;have HX:=aN hx;clear hV a6 O D b0 hx S f0 f2 hm hp a9 e9 hM a1;go_enter func105,ntmps105;go_wp2_with fail;refine(d0.out _ HV.out.symm).mono ?_;rintro e w1 ⟨rfl,b1⟩;rw[HV.out.symm]at b1;have B1:=B.after b1 B.size;have J:=K1.keep b1;have G1:=J.cell;go_wp2_with (at_make;refine lA rfl _ _ _ rfl 3 underlying24 aS (N+1) _ _ rfl rfl (by go_num) (by go_num) aK ?_;intro w2 I hg;have B2:=B1.grown hg B1.size (fun q hq=>by cases hq);have K2:=J.grow hg (by simp);clear G1 hg;have G1:=K2.cell);have j7:=J.lt;refine(d5.out w2 (hv.below B2 aO)).mono ?_;rintro e w3 ⟨rfl,b3⟩;have B3:=B2.after b3 B2.size;have K3:=K2.keep b3;have o3:=I.keep b3;clear G1 I;go_wp2_with fail;go_loopw [16] (fun iv wr=>∃j:Nat,j<=M/\iv=aM j/\aP 3 w1 wr (aI (some ⟨w1,0,none⟩) (N+1) (N+1)) (jJ l N j)/\Below w w wr/\aU wr w 31 #[(N:Int),aI a l.length c]) (fun iv _=>M-(intOf iv).toNat)
 case atStart=>exact⟨0,Nat.zero_le _,rfl,o3,B3,K3⟩
 case round=>
  obtain⟨j,hj,rfl,ho,Br,Kr⟩:=hrel;clear o3;by_cases hlt:j<M
  ·have a8:(j:Int)<(M:Int)-1+1:=aK;have b4:=d6.out j hlt;have z:jJ l N (j+1)=(jJ l N j).set (bR j) (max ((jJ l N j).getD (bR j) 0) ((wR l (j:Int)).length:Int)):=rfl;have K:=GR l N j aK;have f3:=NJ l (j:Int) aK aK;have hk:=SF l N (bR j) b4 j;have F:=yS l N j;have e6:(bR j:Int)<(N:Int)+1:=aK;have Y:=aN (fun W=>gI j W aK);have D:=d8.out wr.drew j hlt (hv.below Br.drew aO);obtain⟨T,hT⟩:=aQ (wR l (j:Int));rw[<-hT]at z f3 D;obtain⟨L,hL⟩:=aQ (jJ l N j);rw[<-hL]at z K hk F ho;obtain⟨k,R⟩:=aQ (bR j);rw[<-R]at z hk b4 e6;simp only[<-R]at Y;rw[List.getD_eq_getElem?_getD,List.getElem?_eq_getElem hk,Option.getD_some]at z;have f7:=K _ (List.getElem_mem hk);obtain⟨y,hy⟩:=aQ (L[k]);have d7:=aN z;have Z:=aN D;have c0:=ho.cellAt F.symm k hk;rw[<-hy]at c0 f7;have HY:=aN hy;clear z D hT hL R K hy;have Kd:aU wr.drew w.heap.size 31 #[(N:Int),aI a l.length c]:=Kr;have od:=ho.drewN 1;have j8:∀(p:Option Addr) (i q:Nat) (W:World),(Instr.field 31 (.agg #[(N:Int),aI p i q]) 1).run prog W=.ok (aI p i q) W:=fun _ _ _ _=>rfl;have G:=Kr.cell;have Gd:=Kd.cell;go_wp2_with (go_at_call 165;refine(Y.out _).mono ?_;rintro e w' ⟨rfl,rfl⟩);go_region_law
    (go_simp;go_at_call 217;refine Z.out.mono ?_;rintro e w5 ⟨p5,i5,q5,rfl,o5,b5⟩;have e7:i5=T.length:=o5.ints.capLe.1;subst e7;have o6:=od.keep b5;have c6:=o6.cellAt F.symm k hk;rw[<-HY.out]at c6;have f6:=o6.frozenAt F.symm k)
   all_goals
    have st:=o6.stored F.symm k (max y (T.length:Int)) ⟨by omega,by omega⟩;have B6:Below w w w5:=Br.drew.after b5 Br.drew.size;have K6:=Kd.keep b5;have B7:Below w w (w5.setCell ⟨w1.heap.size,k,none⟩ (aM (max y (T.length:Int)))):=Below.setCell B6 (by show w.heap.size<=w1.heap.size;omega) _;have K7:=K6.far (p:=⟨w1.heap.size,k,none⟩) (by show w.heap.size≠w1.heap.size;omega) (aM (max y (T.length:Int)));clear G Gd c0 c6 f6 od o6 o5;go_wp2;go_roundw
    case rel=>exact⟨j+1,by omega,by go_num,by rw[d7.out,<-HY.out];exact st.1,B7,K7⟩
    case measure=>simp[intOf];omega
  ·have a8:¬(j:Int)<(M:Int)-1+1:=aK;have a7:j=M:=aK;have HJ:=aN a7;clear a7;go_wp2;go_ret;exact⟨_,_,_,rfl,by rw[HX.out,<-HJ.out];exact ho.ints,Br⟩
end
end Go.Proofs.YtcpoomdoodlkjaaGreatDoor
