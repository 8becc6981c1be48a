/- Lemmas for CardRunConsole. No condition. -/
import Derived.Test.YtkdbkjjacgigiaaGreatDoorR15
import Derived.Test.YtkdbkjjacgigiaaGreatDoorR22
set_option maxRecDepth 100000
set_option maxHeartbeats 64000000
namespace Go.Proofs.YtkdbkjjacgigiaaGreatDoor
section
open Go.RowKit Go.G5 Go.Proofs.Tryz
theorem CJ(n:Int)(v:Value)(l:aI)(w:World)(hv:Ints w v l)(hl:l.length<=1048576):
  Calls prog 242 #[n,v] w fun e w'=>∃ad i c,e=aQ (aM #[n,aD ad i c])/\cY 3 w.heap.size w' (aD ad i c) (fU l)/\Below w w w':=by
 obtain⟨a,c,rfl⟩:=hv.shape;have O:(l.mergeSort fun x y=>decide (x<=y)).length<=1048576:=by rw[List.length_mergeSort];exact hl
 have b6:=NZ l;go_enter func242,ntmps242;go_wp2_with fail;refine(nI _ l _ (hv.alloc _) hl).mono ?_;rintro e w1 ⟨p1,i1,q1,rfl,o1,D⟩;have Y:=bK.new w 29 #[aK,()];have Z:=Y.keep D;have R:Below w w w1:=(cQ _ _).after D bF;have J:=o1.mono (B':=w.heap.size+1) bF;have N:=J.lt;clear Y o1 D;go_wp2_with fail;refine aV (ao7 _ _ l _ J hl) ?_;rintro w2 ⟨o2,F⟩;have K2:=Z.grow F (by intro hk;have:=(N _ hk).1;omega);have S:=R.grown F R.size (fun k hk=>by have:=(N k hk).1;omega);clear F Z J;go_wp2_with fail;refine(abY _ _ _ _ o2 O).mono ?_;rintro e w3 ⟨p3,i3,q3,rfl,o3,I⟩;have K:=K2.grow I (by intro hk;have:=(N _ hk).1;omega);have B3:=S.grown I S.size (fun k hk=>by have:=(N k hk).1;omega);clear I K2 o2;go_wp2_with fail;refine(amZ _ _ _ _ o3 (by have e:Lib.compact (l.mergeSort fun x y=>decide (x<=y))=fU l:=rfl;rw[e];omega)).mono ?_;rintro e w4 ⟨p4,i4,M,rfl,o4,rfl⟩;have G3:=K.cell;have F3:=K.frozen;have z3:=K.lt;go_wp2;refine cT ?_;intro Wf z;have Kf:bK Wf w 29 #[n,aD p4 i4 M]:=by
  rw[z];have:=(K.set 0 (aO n)).set 1 (aD p4 i4 M);simpa using this
 have Bf:Below w w Wf:=by rw[z];exact bX (bX B3 cK _) cK _
 have of:cY 3 w.heap.size Wf (aD p4 i4 M) (fU l):=by rw[z];exact((o4.setBelow cK _).setBelow cK _).mono cK
 have Gf:=Kf.cell;clear z G3 F3;exact bW (v:=aM #[n,aD p4 i4 M]) (by simp[results,results242,go_sem,Gf]) rfl ⟨_,_,_,rfl,of,Bf⟩
end
section
open Go.RowKit Go.G5 Go.Proofs.Tryz
end
section
open Go.RowKit Go.G5 Go.Proofs.Tryz
end
section
open Go.RowKit Go.G5 Go.Proofs.Tryz
variable(w:World)(n:Int)(v:Value)(l:aI)
theorem ad2(e:Int)(h:0<=e/\e<6):0<(2:Int)^e.toNat/\(2:Int)^e.toNat<64:=by
 rcases(show e=0\/e=1\/e=2\/e=3\/e=4\/e=5 from aA) with rfl|rfl|rfl|rfl|rfl|rfl<;>decide
theorem abL:∀(l:aI) (z n:Int),l.Pairwise (· < ·)->(∀x∈l,z<=x/\x<n)->z<=n->(l.length:Int)<=n-z:=by
 intro l
 induction l with
 |nil=>intro z n _ _ h;simp;omega
 |cons x l ih=>intro z n D hb I;have J:=hb x bF;rw[List.pairwise_cons]at D;have:=ih (x+1) n D.2 (fun y F=>⟨by have:=D.1 y F;omega,(hb y (by simp[F])).2⟩) aA;rw[jZ];omega
theorem adC(n:Nat)(z:l.Pairwise (· < ·))(hb:∀x∈l,0<=x/\x<(n:Int)):l.length<=n:=by
 have:=abL l 0 n z hb aA;omega
theorem YW(h:∀x∈l,0<=x/\x<64):(∀x∈fU l,0<=x/\x<64)/\(fU l).length<=64:=by
 have h1:∀x∈fU l,0<=x/\x<64:=fun x z=>h x ((sC l x).1 z);exact⟨h1,adC _ 64 (wW l) (fun x z=>h1 x z)⟩
def CB(l:List Int)(s:Int):List Int:=fU (l.map fun t=>cU s t)
def BI(l:List Int)(s:Nat):Bool:=(CB l s).length==2^dG s
def sF(g:Int)(l:List Int):List Int:=if cO g l then dE (BI l) (2^g.toNat) else []
def vL(b:Int)(l:List Int):Nat->Int
 |0=>b
 |k+1=>max (vL b l k) (eO (l.getD k 0))
def wM(g:Int)(l:List Int):Int:=if cO g l then vL (-1) (sF g l) (sF g l).length else -2
def lP(l:List Int)(g:Nat):Nat->List Int
 |0=>List.replicate (g+1) 0
 |s+1=>(lP l g s).set (dG s) (max ((lP l g s).getD (dG s) 0) ((CB l s).length:Int))
def sE(g:Int)(l:List Int):List Int:=if cO g l then lP l g.toNat (2^g.toNat) else []
theorem EC(s t:Int)(z:0<=s)(h1:s<64):0<=cU s t/\cU s t<64:=mW s t 64 z h1
theorem UD(s:Int)(z:0<=s)(h1:s<64):(CB l s).length<=64:=by
 refine(YW _ ?_).2;intro x D;obtain⟨t,_,rfl⟩:=List.mem_map.1 D;exact EC s t z h1
theorem TM(b:Int)(l:aI)(h:∀x∈l,x<64)(hb:-1<=b/\b<=8):∀k,-1<=vL b l k/\vL b l k<=8:=by
 intro k
 induction k with
 |zero=>exact hb
 |succ k ih=>
  rw[vL];have h2:eO (l.getD k 0)<=8:=by
   have z:(l.getD k 0).toNat<256:=by
    rw[bR]
    cases hk:l[k]? with
    |none=>simp
    |some x=>have:=h x (List.mem_of_getElem? hk);simp;omega
   have:=xC _ z;unfold eO;omega
  omega
theorem PL(g:Int)(l:aI):∀x∈sF g l,0<=x/\x<64:=by
 unfold sF
 split
 .rename_i h;intro x z;obtain⟨D,F,_,_⟩:=fF h;have h1:=rT _ _ x z;have h2:(2:Nat)^g.toNat<=2^6:=bQ bZ aA;omega
 .intro x z;simp at z
theorem SP(g:Int)(l:aI):-2<=wM g l/\wM g l<=8:=by
 unfold wM
 split
 .have:=TM (-1) (sF g l) (fun x z=>(PL g l x z).2) aA (sF g l).length;omega
 .omega
theorem EA(g:Nat):∀s,(lP l g s).length=g+1:=by
 intro s
 induction s with
 |zero=>simp[lP]
 |succ s ih=>rw[lP,List.length_set,ih]
theorem OZ(g:Nat):∀s,s<=64->∀x∈lP l g s,0<=x/\x<=64:=by
 intro s
 induction s with
 |zero=>intro _ x z;have:=List.eq_of_mem_replicate z;omega
 |succ s ih=>
  intro F x z;have ih:=ih aA;have ht:=UD l (s:Int) aA aA;rw[lP]at z;rcases List.mem_or_eq_of_mem_set z with h|h
  .exact ih x h
  .have D:0<=(lP l g s).getD (dG s) 0/\(lP l g s).getD (dG s) 0<=64:=by
    rw[bR]
    cases hk:(lP l g s)[dG s]? with
    |none=>simp
    |some y=>exact ih y (List.mem_of_getElem? hk)
   omega
theorem XB:∀g:Nat,g<7->∀s:Nat,s<2^g->dG s<=g:=dS
theorem al1(s:Int)(k:Nat)(h:k<l):JM (fU ((l.take k).map fun t=>cU s t)) (cU s l[k])=fU ((l.take (k+1)).map fun t=>cU s t):=by
 rw[acR,cH h,List.map_append];rfl
def mM(n:Nat):Nat->Nat
 |0=>1
 |i+1=>mM n i*(n-i)/(i+1)
def xK(n k:Nat):Nat->Nat
 |0=>1
 |i+1=>xK n k i*(n-k+(i+1))/(i+1)
theorem amU:∀n:Nat,n<7->∀k:Nat,k<7->k<=n->xK n k k=mM n k:=dS
theorem adD:∀n:Nat,n<7->∀k:Nat,k<7->k<=n->0<mM n k/\mM n k<=20:=dS
theorem ap9:∀n:Nat,n<7->∀k:Nat,k<7->k<=n->∀i:Nat,i<7->i<=k->xK n k i<=20:=dS
theorem atR:∀g:Nat,g<7->∀s:Nat,s<2^g->dG s<=g:=dS
def uS(g:Nat)(l:List Int):Nat->Int
 |0=>0
 |k+1=>uS g l k+((60/mM g (dG (l.getD k 0).toNat):Nat):Int)
def wN(g:Int)(l:List Int):Int:=if cO g l then uS g.toNat l l.length else -1
theorem S9(g:Nat)(l:aI):∀k,0<=uS g l k/\uS g l k<=60*k:=by
 intro k
 induction k with
 |zero=>simp[uS]
 |succ k ih=>rw[uS];have:=Nat.div_le_self 60 (mM g (dG (l.getD k 0).toNat));obtain⟨D,z⟩:=aW (60/mM g (dG (l.getD k 0).toNat));rw[<-z]at this |-;omega
theorem TA(g:Int)(l:aI):-1<=wN g l/\wN g l<=3840:=by
 unfold wN
 split
 .rename_i h;have h1:=S9 g.toNat l l.length;have h2:=kZ h;omega
 .omega
def oK(s e:Int):Int:=dQ s (2^e.toNat)
def H8(s:Int):List Int:=(iP s).map (oK s)
def nS(l:List Int):List Int:=l.flatMap H8
def shN(g:Int)(l:List Int):Int:=if cO g l then g else 0
def MB(g:Int)(l:List Int):List Int:=if cO g l then fU (nS l) else []
def pY(l:List Int)(s:Int):Bool:=(iP s).all fun e=>jI l (s-2^e.toNat)
def tO(g:Int)(l:List Int):Bool:=cO g l&&l.all (pY l)
theorem afQ:∀s:Nat,s<64->∀e∈iP (s:Int),oK s e=(s:Int)-2^e.toNat:=dS
theorem U6(s e:Int)(z:0<=s)(h1:s<64)(D:e∈iP s):oK s e=s-2^e.toNat:=by
 obtain⟨n,rfl⟩:=cN z;exact afQ n aA e D
theorem aiT(s e:Int)(z:0<=s/\s<64):0<=oK s e/\oK s e<64:=rK s _ 64 z.1 z.2
theorem ac0(s:Int):(H8 s).length<=6:=by unfold H8;rw[List.length_map];exact xQ s
theorem ME:(nS l).length<=6*l.length:=by
 unfold nS
 induction l with
 |nil=>simp
 |cons t m ih=>rw[List.flatMap_cons,bN,jZ];have:=ac0 t;omega
theorem agI(k:Nat)(h:k<l):nS (l.take (k+1))=nS (l.take k)++H8 l[k]:=by
 unfold nS;rw[cH h,List.flatMap_append,List.flatMap_cons,List.flatMap_nil,List.append_nil]
theorem KT{g:Int}{l:aI}(h:cO g l=true):l.length<=64:=by
 obtain⟨z,D,hm,F⟩:=fF h;have:=nY z D;exact adC l 64 F (fun x I=>by have:=hm x I;omega)
theorem arU(g:Int)(l:aI):(MB g l).length<=384:=by
 unfold MB
 split
 .rename_i h;have:=KT h;have:=ME l;have:=NZ (nS l);omega
 .simp
theorem aqK(g:Int)(l:aI):(cO g l&&!((MB g l).any fun s=>!jI l s))=tO g l:=by
 unfold tO
 cases K:cO g l with
 |false=>rfl
 |true=>
  have M:MB g l=fU (nS l):=by unfold MB;rw[K];rfl
  rw[M,Bool.true_and,Bool.true_and,Bool.eq_iff_iff,Bool.not_eq_true',List.any_eq_false,List.all_eq_true];have z:=sZ K;constructor
  .intro h s I;unfold pY;rw[List.all_eq_true];intro e D;obtain⟨k,hk,rfl⟩:=List.getElem_of_mem I;have hb:=z.2.2 k hk;have F:oK l[k] e∈fU (nS l):=by rw[sC];unfold nS;exact List.mem_flatMap.2 ⟨_,I,List.mem_map.2 ⟨e,D,rfl⟩⟩
   have:=h _ F;rw[U6 _ e hb.1 hb.2 D]at this;simpa using this
  .intro h x J;rw[sC]at J;unfold nS at J;obtain⟨s,I,J⟩:=List.mem_flatMap.1 J;obtain⟨e,D,rfl⟩:=List.mem_map.1 J;obtain⟨k,hk,rfl⟩:=List.getElem_of_mem I;have hb:=z.2.2 k hk;have:=h _ I;unfold pY at this;rw[List.all_eq_true]at this;have:=this e D;rw[U6 _ e hb.1 hb.2 D];simpa using this
def FR(F B D G Y C R:ByteArray):List ByteArray:=[(⟨#[102,97,109,105,108,121]⟩:ByteArray),F,(⟨#[98,108,111,99,107,101,114]⟩:ByteArray),B,(⟨#[100,105,109,101,110,115,105,111,110]⟩:ByteArray),D,(⟨#[103,114,111,119,116,104]⟩:ByteArray),G,(⟨#[108,121,109]⟩:ByteArray),Y,(⟨#[100,105,115,99,114,101,112,97,110,99,121]⟩:ByteArray),C,(⟨#[98,121]⟩:ByteArray),R]
def QC(F B D G Y:ByteArray):ByteArray:=(⟨#[102,97,109,105,108,121,32]⟩:ByteArray)++F++(⟨#[32,98,108,111,99,107,101,114,32]⟩:ByteArray)++B++(⟨#[32,100,105,109,101,110,115,105,111,110,32]⟩:ByteArray)++D++(⟨#[32,103,114,111,119,116,104,32]⟩:ByteArray)++G++(⟨#[32,108,121,109,32]⟩:ByteArray)++Y++(⟨#[32,100,105,115,99,114,101,112,97,110,99,121,32]⟩:ByteArray)
def zO(F B D G Y C R:ByteArray):ByteArray:=QC F B D G Y++C++(⟨#[32,98,121,32]⟩:ByteArray)++R
theorem ah2(F B D G Y C R:aB):dL eQ (FR F B D G Y C R)=zO F B D G Y C R:=by
 unfold FR zO QC;simp only[lD,mL];refine fQ ?_;simp[eQ]
def QE(F B D G Y C R:ByteArray)(z I b2 J K M:Bool):List ByteArray:=FR F B D G Y C R++fX z (⟨#[108,97,109,105,110,97,114]⟩:ByteArray)++fX I (⟨#[99,114,111,115,115,102,114,101,101]⟩:ByteArray)++fX b2 (⟨#[105,110,116,101,114,115,101,99,116,105,110,103]⟩:ByteArray)++fX J (⟨#[97,110,116,105,99,104,97,105,110]⟩:ByteArray)++fX K (⟨#[100,111,119,110]⟩:ByteArray)++fX M (⟨#[98,97,115,101,115]⟩:ByteArray)
def CS(F B D G Y C R:ByteArray)(z I b2 J K M:Bool):ByteArray:=zO F B D G Y C R++lT z (⟨#[32,108,97,109,105,110,97,114]⟩:ByteArray)++lT I (⟨#[32,99,114,111,115,115,102,114,101,101]⟩:ByteArray)++lT b2 (⟨#[32,105,110,116,101,114,115,101,99,116,105,110,103]⟩:ByteArray)++lT J (⟨#[32,97,110,116,105,99,104,97,105,110]⟩:ByteArray)++lT K (⟨#[32,100,111,119,110]⟩:ByteArray)++lT M (⟨#[32,98,97,115,101,115]⟩:ByteArray)
theorem ah5(F B D G Y C R:aB)(z I b2 J K M:Bool):dL eQ (QE F B D G Y C R z I b2 J K M)=CS F B D G Y C R z I b2 J K M:=by
 have N:FR F B D G Y C R≠[]:=by simp[FR]
 have h1:=vS _ N z (⟨#[108,97,109,105,110,97,114]⟩:aB);have h2:=vS _ h1 I (⟨#[99,114,111,115,115,102,114,101,101]⟩:aB);have h3:=vS _ h2 b2 (⟨#[105,110,116,101,114,115,101,99,116,105,110,103]⟩:aB);have h4:=vS _ h3 J (⟨#[97,110,116,105,99,104,97,105,110]⟩:aB);have O:=vS _ h4 K (⟨#[100,111,119,110]⟩:aB);unfold QE CS;rw[mX _ O M _ (⟨#[32,98,97,115,101,115]⟩:aB) rfl,mX _ h4 K _ (⟨#[32,100,111,119,110]⟩:aB) rfl,mX _ h3 J _ (⟨#[32,97,110,116,105,99,104,97,105,110]⟩:aB) rfl,mX _ h2 b2 _ (⟨#[32,105,110,116,101,114,115,101,99,116,105,110,103]⟩:aB) rfl,mX _ h1 I _ (⟨#[32,99,114,111,115,115,102,114,101,101]⟩:aB) rfl,mX _ N z _ (⟨#[32,108,97,109,105,110,97,114]⟩:aB) rfl,ah2]
theorem QD(F B D G Y:aB)(M:F.size<=10000)(hB:B.size<=10000)(K:D.size<=21)(N:G.size<=200)(O:Y.size<=21):(QC F B D G Y).size<=20400:=by
 unfold QC;simp only[ByteArray.size_append];have z:(⟨#[102,97,109,105,108,121,32]⟩:aB).size=7:=rfl;have e1:(⟨#[32,98,108,111,99,107,101,114,32]⟩:aB).size=9:=rfl;have e2:(⟨#[32,100,105,109,101,110,115,105,111,110,32]⟩:aB).size=11:=rfl;have e3:(⟨#[32,103,114,111,119,116,104,32]⟩:aB).size=8:=rfl;have I:(⟨#[32,108,121,109,32]⟩:aB).size=5:=rfl;have J:(⟨#[32,100,105,115,99,114,101,112,97,110,99,121,32]⟩:aB).size=13:=rfl;omega
theorem YR(F B D G Y C R:aB)(I:F.size<=10000)(hB:B.size<=10000)(z:D.size<=21)(J:G.size<=200)(K:Y.size<=21)(hC:C.size<=21)(M:R.size<=132):(zO F B D G Y C R).size<=20600:=by
 have h:=QD F B D G Y I hB z J K;unfold zO;simp only[ByteArray.size_append];have e:(⟨#[32,98,121,32]⟩:aB).size=4:=rfl;omega
theorem YT(F B D G Y C R:aB)(z I b2 J K M:Bool)(h:(zO F B D G Y C R).size<=20600):(CS F B D G Y C R z I b2 J K M).size<=20700:=by
 unfold CS;simp only[ByteArray.size_append];have N:=fR z (⟨#[32,108,97,109,105,110,97,114]⟩:aB);have t0:(⟨#[32,108,97,109,105,110,97,114]⟩:aB).size=8:=rfl;have O:=fR I (⟨#[32,99,114,111,115,115,102,114,101,101]⟩:aB);have t1:(⟨#[32,99,114,111,115,115,102,114,101,101]⟩:aB).size=10:=rfl;have S:=fR b2 (⟨#[32,105,110,116,101,114,115,101,99,116,105,110,103]⟩:aB);have t2:(⟨#[32,105,110,116,101,114,115,101,99,116,105,110,103]⟩:aB).size=13:=rfl;have Z:=fR J (⟨#[32,97,110,116,105,99,104,97,105,110]⟩:aB);have t3:(⟨#[32,97,110,116,105,99,104,97,105,110]⟩:aB).size=10:=rfl;have s4:=fR K (⟨#[32,100,111,119,110]⟩:aB);have t4:(⟨#[32,100,111,119,110]⟩:aB).size=5:=rfl;have s5:=fR M (⟨#[32,98,97,115,101,115]⟩:aB);have t5:(⟨#[32,98,97,115,101,115]⟩:aB).size=6:=rfl;omega
theorem OY(g:Int)(l:aI):(sE g l).length<=7/\∀x∈sE g l,fM x:=by
 unfold sE
 split
 .rename_i z;obtain⟨F,I,_,_⟩:=fF z;have h2:(2:Nat)^g.toNat<=2^6:=bQ bZ aA;refine⟨by rw[EA];omega,fun x D=>?_⟩;have:=OZ l g.toNat (2^g.toNat) aA x D;exact⟨aA,aA⟩
 .exact⟨bF,bF⟩
theorem N7(g:Int)(l:aI):(gY (sE g l)).size<=200:=by
 have h:=OY g l;have h2:=pK (sE g l) h.2;omega
theorem XT(g:Int)(l:aI):0<=BZ g l/\BZ g l<=6:=by
 unfold BZ
 split
 .rename_i z;obtain⟨D,F,_,_⟩:=fF z;have hm:=fS z;have h2:(2:Nat)^g.toNat<=2^6:=bQ bZ aA;have h3:=dJ g.toNat;have:=SI l hm (2^g.toNat-1) aA;omega
 .omega
def fmT(g:Int)(l:List Int):ByteArray:=CS (eG g l) (eG (kM g l) (nT g l)) (dB (wM g l)) (gY (sE g l)) (dB (wN g l)) (dB (BZ g l)) (dH g (D3 g l)) (xS g l) (rV g l) (qQ g l) (uT g l) (tO g l) (BT g l)
def fmL(g:Int)(l:List Int):List ByteArray:=QE (eG g l) (eG (kM g l) (nT g l)) (dB (wM g l)) (gY (sE g l)) (dB (wN g l)) (dB (BZ g l)) (dH g (D3 g l)) (xS g l) (rV g l) (qQ g l) (uT g l) (tO g l) (BT g l)
theorem auJ(g:Int)(l:aI):dL eQ (fmL g l)=fmT g l:=ah5 _ _ _ _ _ _ _ _ _ _ _ _ _
def BN(g:Int)(l:List Int):ByteArray:=if cO g l then fmT g l else ByteArray.empty
theorem IK{g:Int}{l:aI}(h:cO g l=true):BN g l=fmT g l:=by unfold BN;rw[if_pos h]
theorem SW{g:Int}{l:aI}(h:cO g l=false):BN g l=aN:=by unfold BN;rw[h];rfl
theorem YS(g:Int)(l:aI):(fmT g l).size<=20700:=by
 have h1:=SP g l;have h2:=TA g l;have h3:=XT g l;exact YT _ _ _ _ _ _ _ _ _ _ _ _ _ (YR _ _ _ _ _ _ _ (gK _ _) (gK _ _) (eB _ ⟨aA,aA⟩) (N7 g l) (eB _ ⟨aA,aA⟩) (eB _ ⟨aA,aA⟩) (gN _ _))
def Z6(N M:ByteArray):List ByteArray:=[(⟨#[111,114,100,101,114]⟩:ByteArray),(⟨#[99,104,97,105,110]⟩:ByteArray),N,(⟨#[108,101,118,101,108,115]⟩:ByteArray),M]
def PA(N M:ByteArray):ByteArray:=(⟨#[111,114,100,101,114,32,99,104,97,105,110,32]⟩:ByteArray)++N++(⟨#[32,108,101,118,101,108,115,32]⟩:ByteArray)++M
theorem atG(N M:aB):dL eQ (Z6 N M)=PA N M:=by
 unfold Z6 PA;simp only[lD,mL];refine fQ ?_;simp[eQ]
theorem alI(N M:aB)(h1:N.size<=21)(h2:M.size<=21):(PA N M).size<=100:=by
 unfold PA;simp only[ByteArray.size_append];have e1:(⟨#[111,114,100,101,114,32,99,104,97,105,110,32]⟩:aB).size=12:=rfl;have e2:(⟨#[32,108,101,118,101,108,115,32]⟩:aB).size=8:=rfl;omega
def olB(W:ByteArray)(b:Bool)(N:ByteArray):List ByteArray:=if b then [W,N] else []
def E3(W:ByteArray)(b:Bool)(X N:ByteArray):ByteArray:=if b then X++(eQ++W++eQ)++N else X
theorem Z7(W:aB)(b:Bool)(X N:aB):X++qW (olB W b N)=E3 W b X N:=by
 cases b with
 |false=>exact fQ (by rw[lX];show X.data.toList++[]=X.data.toList;simp)
 |true=>refine fQ ?_;simp[olB,E3,qW,eQ]
theorem LU(W:aB)(b:Bool)(X N:aB)(k m:Nat)(D:W.size<=20)(F:X.size<=k)(z:N.size<=m):(E3 W b X N).size<=k+m+22:=by
 cases b with
 |false=>show X.size<=_;omega
 |true=>unfold E3;rw[if_pos rfl];simp only[ByteArray.size_append];have e1:eQ.size=1:=rfl;omega
theorem aa0:eQ++(⟨#[97,110,116,105,99,104,97,105,110]⟩:aB)++eQ=(⟨#[32,97,110,116,105,99,104,97,105,110,32]⟩:aB):=rfl
theorem aa1:eQ++(⟨#[105,110,116,101,114,118,97,108,115]⟩:aB)++eQ=(⟨#[32,105,110,116,101,114,118,97,108,115,32]⟩:aB):=rfl
theorem aa2:eQ++(⟨#[115,117,110,102,108,111,119,101,114]⟩:aB)++eQ=(⟨#[32,115,117,110,102,108,111,119,101,114,32]⟩:aB):=rfl
def olL(g:Int)(l:List Int):List ByteArray:=((Z6 (dB ((BY g l).length:Int)) (dB ((gG g l).length:Int))++olB (⟨#[97,110,116,105,99,104,97,105,110]⟩:ByteArray) (yP g l) (eG g (wK g l)))++olB (⟨#[105,110,116,101,114,118,97,108,115]⟩:ByteArray) (DD g l) (gY (tB g l)))++olB (⟨#[115,117,110,102,108,111,119,101,114]⟩:ByteArray) (kG g l 3) (dH g (rH (kK g l 3)))
def TO(g:Int)(l:List Int):ByteArray:=PA (dB ((BY g l).length:Int)) (dB ((gG g l).length:Int))
def TP(g:Int)(l:List Int):ByteArray:=E3 (⟨#[97,110,116,105,99,104,97,105,110]⟩:ByteArray) (yP g l) (TO g l) (eG g (wK g l))
def TQ(g:Int)(l:List Int):ByteArray:=E3 (⟨#[105,110,116,101,114,118,97,108,115]⟩:ByteArray) (DD g l) (TP g l) (gY (tB g l))
def olT(g:Int)(l:List Int):ByteArray:=E3 (⟨#[115,117,110,102,108,111,119,101,114]⟩:ByteArray) (kG g l 3) (TQ g l) (dH g (rH (kK g l 3)))
theorem auQ(g:Int)(l:aI):dL eQ (olL g l)=olT g l:=by
 unfold olL olT TQ TP TO;rw[tR _ _ (by simp[Z6]),tR _ _ (by simp[Z6]),tR _ _ (by simp[Z6]),atG,Z7,Z7,Z7]
def yQ(g:Int)(l:List Int):ByteArray:=if cO g l then olT g l else ByteArray.empty
theorem JF{g:Int}{l:aI}(h:cO g l=true):yQ g l=olT g l:=by unfold yQ;rw[if_pos h]
theorem TN{g:Int}{l:aI}(h:cO g l=false):yQ g l=aN:=by unfold yQ;rw[h];rfl
theorem VK(g:Int)(l:aI):(TO g l).size<=100:=by
 have h1:=SH g l;have h2:=wD g l;exact alI _ _ (eB _ ⟨aA,aA⟩) (eB _ ⟨aA,aA⟩)
theorem VL(g:Int)(l:aI):(TP g l).size<=10130:=dC (LU (⟨#[97,110,116,105,99,104,97,105,110]⟩:aB) _ _ _ 100 10000 bZ (VK g l) (gK _ _)) bZ
theorem QO(g:Int)(l:aI):(gY (tB g l)).size<=200:=by
 have h:=LI g l;have h2:=pK (tB g l) (fun x z=>by have:=h.2 x z;exact⟨aA,aA⟩);omega
theorem VM(g:Int)(l:aI):(TQ g l).size<=10400:=dC (LU (⟨#[105,110,116,101,114,118,97,108,115]⟩:aB) _ _ _ 10130 200 bZ (VL g l) (QO g l)) bZ
theorem Z8(g:Int)(l:aI):(olT g l).size<=10700:=dC (LU (⟨#[115,117,110,102,108,111,119,101,114]⟩:aB) _ _ _ 10400 132 bZ (VM g l) (gN _ _)) bZ
theorem ar0{n m:Int}{l k:aI}(h:fP n l m k=true)(t:Nat):-2000<=uF l k t/\uF l k t<=2000:=by
 obtain⟨_,N,_,_,_,_,_,hl,hk⟩:=sY h;have g:∀(L:aI),(∀i,(z:i<L.length)->-1000<=L[i]/\L[i]<=1000)->∀i:Nat,-1000<=L.getD i 0/\L.getD i 0<=1000:=by
  intro L D i;by_cases z:i<L.length
  .rw[cJ L i z];exact D i z
  .have e:L.getD i 0=0:=by unfold List.getD;rw[List.getElem?_eq_none aA];rfl
   rw[e];omega
 have h1:=g l hl t;have h2:=g k hk (l.length-1-t);unfold uF;omega
theorem XP(m:Int)(k:aI):-2000<=AO n l m k/\AO n l m k<=2000:=by
 cases h:fP n l m k with
 |false=>unfold AO;rw[h,if_neg bF];omega
 |true=>unfold AO;rw[h,if_pos rfl];exact ar0 h _
theorem XQ(D:List aB)(t:TypeId):∀(j:Nat) z,D[j]?=some z->(w.alloc (.cells (D.map Value.string).toArray t)).cell? ⟨w,0+j,none⟩=some (aR z):=by
 intro j z F;refine cR w _ t (0+j) _ ?_;simp[F]
def plP(C N A U F:ByteArray):List ByteArray:=[(⟨#[112,97,105,114]⟩:ByteArray),(⟨#[99,111,109,109,111,110]⟩:ByteArray),C,(⟨#[98,111,117,110,100]⟩:ByteArray),N,(⟨#[97,116]⟩:ByteArray),A,(⟨#[117,110,105,111,110]⟩:ByteArray),U,(⟨#[98,97,115,101,115]⟩:ByteArray),F]
def plQ(C N A U F:ByteArray):ByteArray:=(⟨#[112,97,105,114,32,99,111,109,109,111,110,32]⟩:ByteArray)++C++(⟨#[32,98,111,117,110,100,32]⟩:ByteArray)++N++(⟨#[32,97,116,32]⟩:ByteArray)++A++(⟨#[32,117,110,105,111,110,32]⟩:ByteArray)++U++(⟨#[32,98,97,115,101,115,32]⟩:ByteArray)++F
theorem atP(C N A U F:aB):dL eQ (plP C N A U F)=plQ C N A U F:=by
 unfold plP plQ;simp only[lD,mL];refine fQ ?_;simp[eQ]
def plL(n:Int)(l:List Int)(m:Int)(k:List Int):List ByteArray:=plP (dH n (tK n l m k)) (dB (AO n l m k)) (dH n (uU n l m k)) (dH n (DI n l m k)) (eG (xN n l m k) (xM n l m k))
def plT(n:Int)(l:List Int)(m:Int)(k:List Int):ByteArray:=plQ (dH n (tK n l m k)) (dB (AO n l m k)) (dH n (uU n l m k)) (dH n (DI n l m k)) (eG (xN n l m k) (xM n l m k))
theorem auR(m:Int)(k:aI):dL eQ (plL n l m k)=plT n l m k:=atP _ _ _ _ _
def BR(n:Int)(l:List Int)(m:Int)(k:List Int):ByteArray:=if fP n l m k then plT n l m k else ByteArray.empty
theorem DQ{n m:Int}{l k:aI}(h:fP n l m k=true):BR n l m k=plT n l m k:=by unfold BR;rw[if_pos h]
theorem TR{n m:Int}{l k:aI}(h:fP n l m k=false):BR n l m k=aN:=by unfold BR;rw[h];rfl
theorem aoU(C N A U F:aB)(h1:C.size<=132)(h2:N.size<=21)(h3:A.size<=132)(h4:U.size<=132)(I:F.size<=10000):(plQ C N A U F).size<=10600:=by
 unfold plQ;simp only[ByteArray.size_append];have z:(⟨#[112,97,105,114,32,99,111,109,109,111,110,32]⟩:aB).size=12:=rfl;have e1:(⟨#[32,98,111,117,110,100,32]⟩:aB).size=7:=rfl;have e2:(⟨#[32,97,116,32]⟩:aB).size=4:=rfl;have e3:(⟨#[32,117,110,105,111,110,32]⟩:aB).size=7:=rfl;have D:(⟨#[32,98,97,115,101,115,32]⟩:aB).size=7:=rfl;omega
theorem PC(m:Int)(k:aI):(plT n l m k).size<=10600:=by
 have h:=XP n l m k;exact aoU _ _ _ _ _ (gN _ _) (eB _ ⟨aA,aA⟩) (gN _ _) (gN _ _) (gK _ _)
def mlA(F G H:ByteArray):List ByteArray:=[(⟨#[109,97,116,114,111,105,100]⟩:ByteArray),(⟨#[98,97,115,101,115]⟩:ByteArray),F,(⟨#[99,105,114,99,117,105,116,115]⟩:ByteArray),G,(⟨#[102,108,97,116,115]⟩:ByteArray),H]
def TI(F G H:ByteArray):ByteArray:=(⟨#[109,97,116,114,111,105,100,32,98,97,115,101,115,32]⟩:ByteArray)++F++(⟨#[32,99,105,114,99,117,105,116,115,32]⟩:ByteArray)++G++(⟨#[32,102,108,97,116,115,32]⟩:ByteArray)++H
theorem as7(F G H:aB):dL eQ (mlA F G H)=TI F G H:=by
 unfold mlA TI;simp only[lD,mL];refine fQ ?_;simp[eQ]
def mlB(b:Bool)(N:ByteArray):List ByteArray:=if b then [(⟨#[99,111,118,101,114,115]⟩:ByteArray),N] else []
def TJ(b:Bool)(X N:ByteArray):ByteArray:=if b then X++(⟨#[32,99,111,118,101,114,115,32]⟩:ByteArray)++N else X
theorem as9(b:Bool)(X N:aB):X++qW (mlB b N)=TJ b X N:=by
 cases b with
 |false=>exact fQ (by rw[lX];show X.data.toList++[]=X.data.toList;simp)
 |true=>refine fQ ?_;simp[mlB,TJ,qW,eQ]
theorem VH(b:Bool)(X N:aB)(k:Nat)(D:X.size<=k)(z:N.size<=21):(TJ b X N).size<=k+40:=by
 cases b with
 |false=>show X.size<=_;omega
 |true=>unfold TJ;rw[if_pos rfl];simp only[ByteArray.size_append];have e1:(⟨#[32,99,111,118,101,114,115,32]⟩:aB).size=8:=rfl;omega
def mlC(b:Bool)(N:ByteArray):List ByteArray:=if b then [(⟨#[112,97,99,107,115]⟩:ByteArray),N] else []
def TK(b:Bool)(X N:ByteArray):ByteArray:=if b then X++(⟨#[32,112,97,99,107,115,32]⟩:ByteArray)++N else X
theorem atB(b:Bool)(X N:aB):X++qW (mlC b N)=TK b X N:=by
 cases b with
 |false=>exact fQ (by rw[lX];show X.data.toList++[]=X.data.toList;simp)
 |true=>refine fQ ?_;simp[mlC,TK,qW,eQ]
theorem alB(b:Bool)(X N:aB)(k:Nat)(D:X.size<=k)(z:N.size<=21):(TK b X N).size<=k+40:=by
 cases b with
 |false=>show X.size<=_;omega
 |true=>unfold TK;rw[if_pos rfl];simp only[ByteArray.size_append];have e1:(⟨#[32,112,97,99,107,115,32]⟩:aB).size=7:=rfl;omega
def mlL(n:Int)(l:List Int):List ByteArray:=(mlA (eG (lE n l) (iX n l)) (eG (lE n l) (jW n l)) (eG n (rD n l))++mlB (D5 n l) (dB (yA n l)))++mlC (yE n l) (dB (sK n l))
def mlT(n:Int)(l:List Int):ByteArray:=TK (yE n l) (TJ (D5 n l) (TI (eG (lE n l) (iX n l)) (eG (lE n l) (jW n l)) (eG n (rD n l))) (dB (yA n l))) (dB (sK n l))
theorem auM:dL eQ (mlL n l)=mlT n l:=by
 unfold mlL mlT;rw[tR _ _ (by simp[mlA]),tR _ _ (by simp[mlA]),as7,as9,atB]
def zR(n:Int)(l:List Int):ByteArray:=if eX n l then mlT n l else ByteArray.empty
theorem JB{n:Int}{l:aI}(h:eX n l=true):zR n l=mlT n l:=by unfold zR;rw[if_pos h]
theorem TL{n:Int}{l:aI}(h:eX n l=false):zR n l=aN:=by unfold zR;rw[h];rfl
theorem VG(F G H:aB)(z:F.size<=10000)(D:G.size<=10000)(I:H.size<=10000):(TI F G H).size<=30100:=by
 unfold TI;simp only[ByteArray.size_append];have e1:(⟨#[109,97,116,114,111,105,100,32,98,97,115,101,115,32]⟩:aB).size=14:=rfl;have e2:(⟨#[32,99,105,114,99,117,105,116,115,32]⟩:aB).size=10:=rfl;have e3:(⟨#[32,102,108,97,116,115,32]⟩:aB).size=7:=rfl;omega
theorem Z3:(mlT n l).size<=30180:=by
 have h1:=YD n l;have h2:=aaR n l;exact alB _ _ _ 30140 (VH _ _ _ 30100 (VG _ _ _ (gK _ _) (gK _ _) (gK _ _)) (eB _ ⟨aA,aA⟩)) (eB _ ⟨aA,aA⟩)
theorem SQ:(sG n l).length<=5:=by
 unfold sG uY
 split
 .rename_i h;unfold C7 at h;rw[fB]at h;obtain⟨N,rfl,z,_⟩:=eJ (LC h.1)
  split
  .rw[JP];unfold BP;simp;omega
  .simp
 .simp
def P5(n:Int)(l:List Int):Int:=l.getD (lB l n.toNat n.toNat) 0
theorem YC:-1000<=mA n l/\mA n l<=1000:=by
 cases h:jQ n l with
 |false=>unfold mA;rw[h,if_neg bF];omega
 |true=>unfold mA;rw[h,if_pos rfl];unfold jQ iW at h;simp only[Bool.and_eq_true]at h;obtain⟨N,_,_,_,_,hb⟩:=eJ h.1.1.1;exact AJ hb _
def xlA(M F X S D:ByteArray):List ByteArray:=[(⟨#[101,120,116,114,101,109,101]⟩:ByteArray),(⟨#[109,105,110,105,109,117,109]⟩:ByteArray),M,(⟨#[115,101,116,115]⟩:ByteArray),F,(⟨#[109,97,120,105,109,117,109]⟩:ByteArray),X,(⟨#[115,101,116]⟩:ByteArray),S,(⟨#[100,111,117,98,108,101]⟩:ByteArray),D]
def UG(M F X S D:ByteArray):ByteArray:=(⟨#[101,120,116,114,101,109,101,32,109,105,110,105,109,117,109,32]⟩:ByteArray)++M++(⟨#[32,115,101,116,115,32]⟩:ByteArray)++F++(⟨#[32,109,97,120,105,109,117,109,32]⟩:ByteArray)++X++(⟨#[32,115,101,116,32]⟩:ByteArray)++S++(⟨#[32,100,111,117,98,108,101,32]⟩:ByteArray)++D
theorem at2(M F X S D:aB):dL eQ (xlA M F X S D)=UG M F X S D:=by
 unfold xlA UG;simp only[lD,mL];refine fQ ?_;simp[eQ]
theorem WB(M F X S D:aB)(h1:M.size<=21)(h2:F.size<=10000)(h3:X.size<=21)(h4:S.size<=132)(J:D.size<=21):(UG M F X S D).size<=10300:=by
 unfold UG;simp only[ByteArray.size_append];have z:(⟨#[101,120,116,114,101,109,101,32,109,105,110,105,109,117,109,32]⟩:aB).size=16:=rfl;have e1:(⟨#[32,115,101,116,115,32]⟩:aB).size=6:=rfl;have e2:(⟨#[32,109,97,120,105,109,117,109,32]⟩:aB).size=9:=rfl;have e3:(⟨#[32,115,101,116,32]⟩:aB).size=5:=rfl;have I:(⟨#[32,100,111,117,98,108,101,32]⟩:aB).size=8:=rfl;omega
def xlB(b:Bool)(N:ByteArray):List ByteArray:=if b then [(⟨#[100,117,97,108]⟩:ByteArray),N] else []
def PP(b:Bool)(X N:ByteArray):ByteArray:=if b then X++(⟨#[32,100,117,97,108,32]⟩:ByteArray)++N else X
def xlC(b:Bool)(N S:ByteArray):List ByteArray:=if b then [(⟨#[99,117,116]⟩:ByteArray),N,(⟨#[111,102]⟩:ByteArray),S] else []
def abI(b:Bool)(X N S:ByteArray):ByteArray:=if b then X++(⟨#[32,99,117,116,32]⟩:ByteArray)++N++(⟨#[32,111,102,32]⟩:ByteArray)++S else X
theorem at4(b:Bool)(X N:aB):X++qW (xlB b N)=PP b X N:=by
 cases b with
 |false=>exact fQ (by rw[lX];show X.data.toList++[]=X.data.toList;simp)
 |true=>refine fQ ?_;simp[xlB,PP,qW,eQ]
theorem at6(b:Bool)(X N S:aB):X++qW (xlC b N S)=abI b X N S:=by
 cases b with
 |false=>exact fQ (by rw[lX];show X.data.toList++[]=X.data.toList;simp)
 |true=>refine fQ ?_;simp[xlC,abI,qW,eQ]
theorem amJ(b:Bool)(X N:aB)(k:Nat)(D:X.size<=k)(z:N.size<=200):(PP b X N).size<=k+220:=by
 cases b with
 |false=>show X.size<=_;omega
 |true=>unfold PP;rw[if_pos rfl];simp only[ByteArray.size_append];have e1:(⟨#[32,100,117,97,108,32]⟩:aB).size=6:=rfl;omega
theorem amK(b:Bool)(X N S:aB)(k:Nat)(F:X.size<=k)(z:N.size<=21)(D:S.size<=132):(abI b X N S).size<=k+180:=by
 cases b with
 |false=>show X.size<=_;omega
 |true=>unfold abI;rw[if_pos rfl];simp only[ByteArray.size_append];have e1:(⟨#[32,99,117,116,32]⟩:aB).size=5:=rfl;have e2:(⟨#[32,111,102,32]⟩:aB).size=4:=rfl;omega
def xlL(n:Int)(l:List Int):List ByteArray:=(xlA (dB (gR l)) (eG n (sJ n l)) (dB (BE n l)) (dH n (EJ n l)) (dB (P5 n l))++xlB (zG n l) (gY (sG n l)))++xlC (jQ n l) (dB (mA n l)) (dH n (nU n l))
def xlT(n:Int)(l:List Int):ByteArray:=abI (jQ n l) (PP (zG n l) (UG (dB (gR l)) (eG n (sJ n l)) (dB (BE n l)) (dH n (EJ n l)) (dB (P5 n l))) (gY (sG n l))) (dB (mA n l)) (dH n (nU n l))
theorem auU:dL eQ (xlL n l)=xlT n l:=by
 unfold xlL xlT;rw[tR _ _ (by simp[xlA]),tR _ _ (by simp[xlA]),at2,at4,at6]
def BS(n:Int)(l:List Int):ByteArray:=if cS n l then xlT n l else ByteArray.empty
theorem DT{n:Int}{l:aI}(h:cS n l=true):BS n l=xlT n l:=by unfold BS;rw[if_pos h]
theorem UH{n:Int}{l:aI}(h:cS n l=false):BS n l=aN:=by unfold BS;rw[h];rfl
theorem ZS{n:Int}{l:aI}(h:cS n l=true):-1000<=gR l/\gR l<=1000:=by
 obtain⟨N,_,_,h2,_,hb⟩:=eJ h;have D:=dJ N;obtain⟨i,_,z⟩:=aiY l aA l.length aU;unfold gR;rw[<-z];exact AJ hb _
theorem Z4{n:Int}{l:aI}(h:cS n l=true):-1000<=BE n l/\BE n l<=1000:=by
 obtain⟨N,_,_,_,_,hb⟩:=eJ h;unfold BE;rw[if_pos h];exact AJ hb _
theorem YG{n:Int}{l:aI}(h:cS n l=true):-1000<=P5 n l/\P5 n l<=1000:=by
 obtain⟨N,_,_,_,_,hb⟩:=eJ h;exact AJ hb _
theorem PQ{n:Int}{l:aI}(h:cS n l=true)(hd:∀x∈sG n l,fM x):(xlT n l).size<=10700:=by
 have h1:=ZS h;have h2:=Z4 h;have h3:=YG h;have h4:=YC n l;have z:=SQ n l;have D:=pK _ hd;exact amK _ _ _ _ 10520 (amJ _ _ _ 10300 (WB _ _ _ _ _ (eB _ ⟨aA,aA⟩) (gK _ _) (eB _ ⟨aA,aA⟩) (gN _ _) (eB _ ⟨aA,aA⟩)) aA) (eB _ ⟨aA,aA⟩) (gN _ _)
def rF(g:Int)(l:List Int):Bool:=cO g l&&decide (l.length<=6)
def GV(g:Int)(l:List Int):Int:=if rF g l then 7 else 0
def GU(g:Int)(l:List Int):Int:=if rF g l then g else 0
def GT(g:Int)(l:List Int):List Int:=if rF g l then l else []
def vI(g:Int)(l:List Int):Int:=if rF g l&&qT g l then 1 else 0
def wJ(g:Int)(l:List Int):List Int:=if rF g l then (if qT g l then yU g l else vR g l) else []
theorem apT{p:Prop}(h:p:=by
  clear hf;have Z:GV g l=0:=by unfold GV;rw[z];rfl
  have Y:GU g l=0:=by unfold GU;rw[z];rfl
  have S:GT g l=[]:=by unfold GT;rw[z];rfl
  have hN:vI g l=0:=by unfold vI;rw[z];rfl
  have hL:wJ g l=[]:=by unfold wJ;rw[z];rfl
  have H:=aT (And.intro Z (And.intro Y (And.intro S (And.intro hN hL))));have HB:=aT z;clear Z Y S hN hL z;have G1:=M.cell;have G2:=I.cell;have F2:=I.frozen;go_wp2;refine cT ?_;intro Wf D;have R:bK Wf (w+1) 34 #[aK,aK,(),aK,(),aK,(),aK,aK,()]:=by rw[D];have:=(((((((((I.set 0 (aO 0)).set 1 (aO 0)).set 2 (aD none 0 0)).set 3 (aO 0)).set 4 (aD none 0 0)).set 5 (aO 0)).set 6 (aD none 0 0)).set 7 (aO 0)).set 8 (aO 0)).set 9 (aD none 0 0);simpa using this
  have hg:w1.grownBy Wf (some (w.heap.size+1)):=by rw[D];exact(cX (cX (cX (cX (cX (cX (cX (cX (cX (cX (dO _ _) 0 _) 1 _) 2 _) 3 _) 4 _) 5 _) 6 _) 7 _) 8 _) 9 _)
  have Bf:Below w w Wf:=B1.grown hg B1.size kF;have Gf:=R.cell;clear D G2 F2 G1;obtain⟨Z,Y,S,hN,hL⟩:=H.out;exact bW (v:=aS #[aM #[aK,aK,(),aK,(),aK,(),aK,aK,()],aG false]) (by simp[results,results150,go_sem,Gf]) rfl
   ⟨none,0,0,none,0,0,none,0,0,none,0,0,by rw[Z,Y,hN,HB.out],cY.nil _ _ _,cY.nil _ _ _,by rw[S];exact cY.nil _ _ _,by rw[hL];exact cY.nil _ _ _,
    ⟨cB.nil _ _ _,cB.nil _ _ _,cB.nil _ _ _,cB.nil _ _ _,cB.nil _ _ _,cB.nil _ _ _⟩,Bf⟩):p:=h
theorem akA{p:Prop}(h:p:=by
  rw[D];have:=(((((((((KX.set 0 (aO 7)).set 1 (aO 0)).set 2 (aD none 0 0)).set 3 (aO 0)).set 4 (aD none 0 0)).set 5 (aO g)).set 6 (aD p7 i7 q7)).set 7 (aO 0)).set 8 (aO 0)).set 9 (aD p9 i9 q9);simpa using this):p:=h
theorem akB{p:Prop}(h:p:=by
  rw[D];have:=(((((((((KX.set 0 (aO 7)).set 1 (aO 0)).set 2 (aD none 0 0)).set 3 (aO 0)).set 4 (aD none 0 0)).set 5 (aO g)).set 6 (aD p7 i7 q7)).set 7 (aO 1)).set 8 (aO 0)).set 9 (aD p9 i9 q9);simpa using this):p:=h
theorem Q7{p:Prop}(h:p:=by
  exact(cX (cX (cX (cX (cX (cX (cX (cX (cX (cX (dO _ _) 0 _) 1 _) 2 _) 3 _) 4 _) 5 _) 6 _) 7 _) 8 _) 9 _)):p:=h
theorem XU(g:Int)(v:Value)(l:aI)(hv:Ints w v l)(hl:l.length<=1048576):
  Calls prog 150 #[aM #[g,v]] w fun e w'=>∃p0 i0 q0 p1 i1 q1 p2 i2 q2 p3 i3 q3,e=aQ (aS #[aM #[(GV g l),aK,aD p0 i0 q0,aK,aD p1 i1 q1,(GU g l),aD p2 i2 q2,(vI g l),aK,aD p3 i3 q3],aG (rF g l)])/\cY 3 w.heap.size w' (aD p0 i0 q0) []/\cY 3 w.heap.size w' (aD p1 i1 q1) []/\cY 3 w.heap.size w' (aD p2 i2 q2) (GT g l)/\cY 3 w.heap.size w' (aD p3 i3 q3) (wJ g l)/\(cB (aD p0 i0 q0) (aD p1 i1 q1)/\cB (aD p0 i0 q0) (aD p2 i2 q2)/\cB (aD p0 i0 q0) (aD p3 i3 q3)/\cB (aD p1 i1 q1) (aD p2 i2 q2)/\cB (aD p1 i1 q1) (aD p3 i3 q3)/\cB (aD p2 i2 q2) (aD p3 i3 q3))/\Below w w w':=by
 obtain⟨a,c,rfl⟩:=hv.shape;go_enter func150,ntmps150;go_wp2_with fail;refine cZ ?_;intro V hV;have B:Below w w V:=iJ hV;have M:bK V w 29 #[g,aD a l c]:=iQ hV;have I:bK V (w+1) 34 #[aK,aK,(),aK,(),aK,(),aK,aK,()]:=jL hV;clear hV;have l0:w.heap.size+2<=V.heap.size:=by have:=I.lt;omega
 refine aV (eP g l _ _ (hv.below B aU)) ?_;intro w1 b7;have M:=M.keep b7;have I:=I.keep b7;have B1:=B.after b7 B.size;have e7:=hv.below B1 aU;have z1:=M.lt;have z2:=I.lt;clear b7 B
 cases hf:cO g l with
 |false=>
  have z:rF g l=false:=by unfold rF;rw[hf];rfl
  exact apT
 |true=>
  by_cases g0:l.length<=6
  rotate_left
  .have z:rF g l=false:=by unfold rF;rw[bG g0];simp
   have j3:(6:Int)<l.length:=aA;exact apT
  have j3:¬(6:Int)<l.length:=aA;have z:rF g l=true:=by unfold rF;rw[hf,bH g0];rfl
  have Z:GV g l=7:=by unfold GV;rw[z];rfl
  have Y:GU g l=g:=by unfold GU;rw[z];rfl
  have S:GT g l=l:=by unfold GT;rw[z];rfl
  have hN:vI g l=if qT g l then 1 else 0:=by unfold vI;rw[z];rfl
  have hL:wJ g l=if qT g l then yU g l else vR g l:=by unfold wJ;rw[z];rfl
  have c7:=(fF hf).2.2.2;have f8:=CI l c7;have f6:fM g:=by have:=fF hf;exact⟨aA,aA⟩
  have H:=aT (And.intro Z (And.intro Y (And.intro S (And.intro hN hL))));have HB:=aT z;have j9:=aT f8;have HF:=aT hf;have f0:=aT f6;clear Z Y S hN hL z c7 f8 hf f6;have G1:=M.cell;go_wp2_with fail;refine(CJ g _ l _ e7 hl).mono ?_;rintro e w7 ⟨p7,i7,q7,rfl,o7,h8⟩;rw[j9.out]at o7;have M:=M.keep h8;have I:=I.keep h8;have B7:=B1.after h8 B1.size;have o7:=o7.mono (B':=w.heap.size+2) aA;have l6:∀k,(Value.slice p7 i7 q7).ownBlock=some k->k<w7.heap.size:=fun k hk=>(o7.lt k hk).2;have y7:=B7.size;clear h8 G1 B1 e7;have G1:=M.cell;have z1:=M.lt;have z2:=I.lt;go_wp2_with fail;refine cZ ?_;intro V3 e6;have B8:Below w w V3:=by rw[e6];exact B7.alloc B7.size _
  have M:bK V3 w 29 #[g,aD a l c]:=by rw[e6];exact M.alloc _
  have I:bK V3 (w+1) 34 #[aK,aK,(),aK,(),aK,(),aK,aK,()]:=by rw[e6];exact I.alloc _
  have K4:bK V3 w7 34 #[aO 7,aK,(),aK,(),g,aD p7 i7 q7,aK,aK,()]:=jV e6;have o7:cY 3 (w.heap.size+2) V3 (aD p7 i7 q7) l:=by rw[e6];exact o7.alloc _
  have r7:∀k,(Value.slice p7 i7 q7).ownBlock=some k->k<w7.heap.size:=l6;have yy:w.heap.size+2<=w7.heap.size:=aA;clear e6 B7 G1 z1 z2;have z4:=K4.lt;have l9:¬w7.heap.size=w.heap.size+1:=aA;have m2:¬w.heap.size+1=w7.heap.size:=aA;refine(atS _ g f0.out _ l (hv.below B8 aU) hl).mono ?_;rintro e w9 ⟨p9,i9,q9,rfl,o9,K⟩;have M:=M.keep K;have I:=I.keep K;have K4:=K4.keep K;have B9:=B8.after K B8.size;have f4:cB (aD p7 i7 q7) (aD p9 i9 q9):=cB.of_lt o7 o9 aU;have o7:=o7.keep K;have y9:=K.size;have z2:=I.lt
  cases c5:qT g l with
  |true=>
   have O:=aT c5;clear K c5;have c9:=f4;have G2:=I.cell;have F2:=I.frozen;have G4:=K4.cell;have F4:=K4.frozen;have z4:=K4.lt;obtain⟨WX,f5⟩:=aW ((w9.setCell ⟨w7,7,none⟩ (aO 1)).setCell ⟨w7,9,none⟩ (aD p9 i9 q9));have b9:w9.grownBy WX (some w7.heap.size):=by rw[f5];exact cX (cX (dO _ _) 7 _) 9 _
   have KX:=I.grow b9 (by intro N;have:=cI N;omega);have BX:Below w w WX:=B9.grown b9 B9.size kF;have a9:=o7.grow b9 (fun q N F=>by have:=cI N;have:=r7 q F;omega);have b0:=(o9.mono (B':=w.heap.size+2) aA).grow b9 (fun q N F=>by have:=cI N;have:=(o9.lt q F).1;omega);go_wp2;refine cT ?_;intro Wf D;rw[<-f5]at D;have R:bK Wf (w+1) 34 #[aO 7,aK,(),aK,(),g,aD p7 i7 q7,aO 1,aK,aD p9 i9 q9]:=by exact akB
   have hg:WX.grownBy Wf (some (w.heap.size+1)):=by rw[D];exact Q7
   have yX:=BX.size;have Bf:Below w w Wf:=BX.grown hg BX.size kF;have f7:=(a9.grow hg (fun q N F=>by have:=cI N;have:=(a9.lt q F).1;omega)).mono (B':=w.heap.size) aA;have f9:=(b0.grow hg (fun q N F=>by have:=cI N;have:=(b0.lt q F).1;omega)).mono (B':=w.heap.size) aA;have Gf:=R.cell;clear D;obtain⟨Z,Y,S,hN,hL⟩:=H.out;exact bW (v:=aS #[aM #[aO 7,aK,(),aK,(),g,aD p7 i7 q7,aO 1,aK,aD p9 i9 q9],aG true]) (by simp[results,results150,go_sem,Gf]) rfl
    ⟨none,0,0,none,0,0,p7,i7,q7,p9,i9,q9,by rw[Z,Y,hN,O.out,HB.out];rfl,cY.nil _ _ _,cY.nil _ _ _,by rw[S];exact f7,by rw[hL,O.out];exact f9,
     ⟨cB.nil _ _ _,cB.nil _ _ _,cB.nil _ _ _,cB.nil _ _ _,cB.nil _ _ _,c9⟩,Bf⟩
  |false=>
   have O:=aT c5;clear K c5 o9 f4;have G1:=M.cell;go_wp2_with fail;refine(atY _ g f0.out _ l (hv.below B9 aU) hl).mono ?_;rintro e k3 ⟨p9,i9,q9,rfl,o9,J⟩;have I:=I.keep J;have K4:=K4.keep J;have j7:=B9.after J B9.size;have c9:cB (aD p7 i7 q7) (aD p9 i9 q9):=cB.of_lt o7 o9 aU;have o7:=o7.keep J;have l7:=J.size;have z2:=I.lt;clear J G1;have G2:=I.cell;have F2:=I.frozen;have G4:=K4.cell;have F4:=K4.frozen;have z4:=K4.lt;obtain⟨WX,f5⟩:=aW (k3.setCell ⟨w7,9,none⟩ (aD p9 i9 q9));have b9:k3.grownBy WX (some w7.heap.size):=by rw[f5];exact cX (dO _ _) 9 _
   have KX:=I.grow b9 (by intro N;have:=cI N;omega);have BX:Below w w WX:=j7.grown b9 j7.size kF;have a9:=o7.grow b9 (fun q N F=>by have:=cI N;have:=r7 q F;omega);have b0:=(o9.mono (B':=w.heap.size+2) aA).grow b9 (fun q N F=>by have:=cI N;have:=(o9.lt q F).1;omega);go_wp2;refine cT ?_;intro Wf D;rw[<-f5]at D;have R:bK Wf (w+1) 34 #[aO 7,aK,(),aK,(),g,aD p7 i7 q7,aK,aK,aD p9 i9 q9]:=by exact akA
   have hg:WX.grownBy Wf (some (w.heap.size+1)):=by rw[D];exact Q7
   have yX:=BX.size;have Bf:Below w w Wf:=BX.grown hg BX.size kF;have f7:=(a9.grow hg (fun q N F=>by have:=cI N;have:=(a9.lt q F).1;omega)).mono (B':=w.heap.size) aA;have f9:=(b0.grow hg (fun q N F=>by have:=cI N;have:=(b0.lt q F).1;omega)).mono (B':=w.heap.size) aA;have Gf:=R.cell;clear D;obtain⟨Z,Y,S,hN,hL⟩:=H.out;exact bW (v:=aS #[aM #[aO 7,aK,(),aK,(),g,aD p7 i7 q7,aK,aK,aD p9 i9 q9],aG true]) (by simp[results,results150,go_sem,Gf]) rfl
    ⟨none,0,0,none,0,0,p7,i7,q7,p9,i9,q9,by rw[Z,Y,hN,O.out,HB.out];rfl,cY.nil _ _ _,cY.nil _ _ _,by rw[S];exact f7,by rw[hL,O.out];exact f9,
     ⟨cB.nil _ _ _,cB.nil _ _ _,cB.nil _ _ _,cB.nil _ _ _,cB.nil _ _ _,c9⟩,Bf⟩
theorem aiZ{p:Prop}(h:p:=by
  clear hf;have Z:GV g l=0:=by unfold GV;rw[z];rfl
  have Y:GU g l=0:=by unfold GU;rw[z];rfl
  have S:GT g l=[]:=by unfold GT;rw[z];rfl
  have hN:vI g l=0:=by unfold vI;rw[z];rfl
  have hL:wJ g l=[]:=by unfold wJ;rw[z];rfl
  have H:=aT (And.intro Z (And.intro Y (And.intro S (And.intro hN hL))));have HB:=aT z;clear Z Y S hN hL z;have G1:=M.cell;have G2:=I.cell;have F2:=I.frozen;go_wp2;refine cT ?_;intro Wf D;have R:bK Wf (w+1) 34 #[aK,aK,(),aK,(),aK,(),aK,aK,()]:=by rw[D];have:=(((((((((I.set 0 (aO 0)).set 1 (aO 0)).set 2 (aD none 0 0)).set 3 (aO 0)).set 4 (aD none 0 0)).set 5 (aO 0)).set 6 (aD none 0 0)).set 7 (aO 0)).set 8 (aO 0)).set 9 (aD none 0 0);simpa using this
  have hg:w1.grownBy Wf (some (w.heap.size+1)):=by rw[D];exact(cX (cX (cX (cX (cX (cX (cX (cX (cX (cX (dO _ _) 0 _) 1 _) 2 _) 3 _) 4 _) 5 _) 6 _) 7 _) 8 _) 9 _)
  have Bf:Below w w Wf:=B1.grown hg B1.size kF;have Gf:=R.cell;clear D G2 F2 G1;obtain⟨Z,Y,S,hN,hL⟩:=H.out;exact bW (v:=aS #[aM #[aK,aK,(),aK,(),aK,(),aK,aK,()],aG false]) (by simp[results,results11,go_sem,Gf]) rfl
   ⟨none,0,0,none,0,0,none,0,0,none,0,0,by rw[Z,Y,hN,HB.out],cY.nil _ _ _,cY.nil _ _ _,by rw[S];exact cY.nil _ _ _,by rw[hL];exact cY.nil _ _ _,
    ⟨cB.nil _ _ _,cB.nil _ _ _,cB.nil _ _ _,cB.nil _ _ _,cB.nil _ _ _,cB.nil _ _ _⟩,Bf⟩):p:=h
theorem XV(g:Int)(v:Value)(l:aI)(hv:Ints w v l)(hl:l.length<=1048576):
  Calls prog 11 #[aM #[g,v]] w fun e w'=>∃p0 i0 q0 p1 i1 q1 p2 i2 q2 p3 i3 q3,e=aQ (aS #[aM #[(GV g l),aK,aD p0 i0 q0,aK,aD p1 i1 q1,(GU g l),aD p2 i2 q2,(vI g l),aK,aD p3 i3 q3],aG (rF g l)])/\cY 3 w.heap.size w' (aD p0 i0 q0) []/\cY 3 w.heap.size w' (aD p1 i1 q1) []/\cY 3 w.heap.size w' (aD p2 i2 q2) (GT g l)/\cY 3 w.heap.size w' (aD p3 i3 q3) (wJ g l)/\(cB (aD p0 i0 q0) (aD p1 i1 q1)/\cB (aD p0 i0 q0) (aD p2 i2 q2)/\cB (aD p0 i0 q0) (aD p3 i3 q3)/\cB (aD p1 i1 q1) (aD p2 i2 q2)/\cB (aD p1 i1 q1) (aD p3 i3 q3)/\cB (aD p2 i2 q2) (aD p3 i3 q3))/\Below w w w':=by
 obtain⟨a,c,rfl⟩:=hv.shape;go_enter func11,ntmps11;go_wp2_with fail;refine cZ ?_;intro V hV;have B:Below w w V:=iJ hV;have M:bK V w 29 #[g,aD a l c]:=iQ hV;have I:bK V (w+1) 34 #[aK,aK,(),aK,(),aK,(),aK,aK,()]:=jL hV;clear hV;have l0:w.heap.size+2<=V.heap.size:=by have:=I.lt;omega
 refine aV (eA g l _ _ (hv.below B aU)) ?_;intro w1 b7;have M:=M.keep b7;have I:=I.keep b7;have B1:=B.after b7 B.size;have e7:=hv.below B1 aU;have z1:=M.lt;have z2:=I.lt;clear b7 B
 cases hf:cO g l with
 |false=>
  have z:rF g l=false:=by unfold rF;rw[hf];rfl
  exact aiZ
 |true=>
  by_cases g0:l.length<=6
  rotate_left
  .have z:rF g l=false:=by unfold rF;rw[bG g0];simp
   have j3:(6:Int)<l.length:=aA;exact aiZ
  have j3:¬(6:Int)<l.length:=aA;have z:rF g l=true:=by unfold rF;rw[hf,bH g0];rfl
  have Z:GV g l=7:=by unfold GV;rw[z];rfl
  have Y:GU g l=g:=by unfold GU;rw[z];rfl
  have S:GT g l=l:=by unfold GT;rw[z];rfl
  have hN:vI g l=if qT g l then 1 else 0:=by unfold vI;rw[z];rfl
  have hL:wJ g l=if qT g l then yU g l else vR g l:=by unfold wJ;rw[z];rfl
  have c7:=(fF hf).2.2.2;have f8:=CI l c7;have f6:fM g:=by have:=fF hf;exact⟨aA,aA⟩
  have H:=aT (And.intro Z (And.intro Y (And.intro S (And.intro hN hL))));have HB:=aT z;have j9:=aT f8;have HF:=aT hf;have f0:=aT f6;clear Z Y S hN hL z c7 f8 hf f6;have k2:([]:aI).length+l.length<=17592186044416:=bO;have k9:=aT k2;have e1:w1.cell? ⟨w,0,none⟩=some (aO g):=M.cell 0;have e2:w1.cell? ⟨w,1,none⟩=some (aD a l c):=M.cell 1;have l1:¬w1.heap.size=w.heap.size:=aA;have l2:¬w1.heap.size+1=w.heap.size:=aA;have y1:=B1.size;clear k2;go_wp2_with fail;go_cut [4] from 9 (fun fp wc=>∃(gb:Nat) (p:Option Addr) (i q:Nat),fp=aP (some ⟨gb,0,none⟩)/\w1.heap.size<=gb/\bK wc gb 29 #[g,aD p i q]/\bB 3 w1 wc (aD p i q) l/\Below w1 w1 wc)
  case first=>
   go_region_held3 (fun w'=>w'.cell? ⟨w,0,none⟩=some (aO g)/\w'.cell? ⟨w,1,none⟩=some (aD a l c)) (go_keep)
    (first
     |(refine amC rfl _ _ _ rfl 3 underlying25 intElem w1.heap.size (aD (some ⟨_,0,none⟩) 0 0) [] rfl (aD a l c) l rfl ?_ ?_ k9.out w1 ?_ aU ?_;(first|(with_reducible exact(bB.lit0 w1 aU).drew')|(with_reducible exact((bB.lit0 w1 aU).alloc _).drew')|(with_reducible exact(bB.lit0' w1 _).drew'));(first|(with_reducible exact(e7.alloc _).drew')|(with_reducible exact((e7.alloc _).alloc _).drew'));(first|(with_reducible exact(cQ w1 _).drew)|(with_reducible exact(wU w1 _ _).drew));(intro v5 w5 o5 b5 pc;obtain⟨p5,i5,q5,rfl⟩:=o5.shape3;have n3:=arX b5 z1;obtain⟨n0,n1⟩:=jN b5 w1.heap.size aU;first|(have j2:=pc _ _ _ (bK.second w1 _ 29 #[aK,()]) (zW _ _ _);obtain⟨KF,j4⟩:=j2;have GF:=KF.cell;have FF:=KF.frozen;have zF:=KF.lt)|(have j2:=pc _ _ _ (bK.first w1 _ 29 #[aK,()]) (zX _ _ _);obtain⟨KF,j4⟩:=j2;have GF:=KF.cell;have FF:=KF.frozen;have zF:=KF.lt)|skip))
    )
   .go_wp2;go_meet
    case rel=>refine⟨_,p5,i5,q5,rfl,b5.size,bK.new _ _ _,o5.alloc _,b5.alloc b5.size _⟩
   all_goals
    go_wp2;go_meet
    case rel=>have k0:=(KF.set 0 (aO g)).set 1 (aD p5 i5 q5);simp at k0;have o2:=b5.size;refine⟨_,p5,i5,q5,rfl,(by first|exact aU|omega),k0,(o5.setFar ⟨_,0,none⟩ j4 _).setFar ⟨_,1,none⟩ j4 _,rB⟩
  case rest=>
   obtain⟨gb,p7,i7,q7,rfl,n2,KF,o7,Bc⟩:=hcut;have M:=M.keep Bc;have I:=I.keep Bc;have B7:=B1.after Bc B1.size;have o7:=o7.toW.mono (B':=w.heap.size+2) aA;have y7:=B7.size;have yc:=Bc.size;have yy:w.heap.size+2<=wc.heap.size:=aA;clear e1 e2 l1 l2 Bc B1 e7 z1 z2;have G1:=M.cell;have z2:=I.lt;have zF:=KF.lt;go_wp2_with fail;refine(atT _ g f0.out _ l (hv.below B7 aU) hl).mono ?_;rintro e w9 ⟨p9,i9,q9,rfl,o9,K⟩;have M:=M.keep K;have I:=I.keep K;have KF:=KF.keep K;have B9:=B7.after K B7.size;have f4:cB (aD p7 i7 q7) (aD p9 i9 q9):=cB.of_lt o7 o9 aU;have o7:=o7.keep K;have y9:=K.size;clear z2 zF G1
   cases c5:qT g l with
   |true=>
    have O:=aT c5;clear K c5;have c9:=f4;have z2:=I.lt;have zF:=KF.lt;have G2:=I.cell;have F2:=I.frozen;have GF:=KF.cell;obtain⟨WX,rfl⟩:∃W:World,W=w9:=⟨_,rfl⟩;have KX:=I;have BX:=B9;have a9:=o7;have b0:=o9.mono (B':=w.heap.size+2) aA;go_wp2;refine cT ?_;intro Wf D;have R:bK Wf (w+1) 34 #[aO 7,aK,(),aK,(),g,aD p7 i7 q7,aO 1,aK,aD p9 i9 q9]:=by exact akB
    have hg:WX.grownBy Wf (some (w.heap.size+1)):=by rw[D];exact Q7
    have yX:=BX.size;have Bf:Below w w Wf:=BX.grown hg BX.size kF;have f7:=(a9.grow hg (fun q N F=>by have:=cI N;have:=(a9.lt q F).1;omega)).mono (B':=w.heap.size) aA;have f9:=(b0.grow hg (fun q N F=>by have:=cI N;have:=(b0.lt q F).1;omega)).mono (B':=w.heap.size) aA;have Gf:=R.cell;clear D;obtain⟨Z,Y,S,hN,hL⟩:=H.out;exact bW (v:=aS #[aM #[aO 7,aK,(),aK,(),g,aD p7 i7 q7,aO 1,aK,aD p9 i9 q9],aG true]) (by simp[results,results11,go_sem,Gf]) rfl
     ⟨none,0,0,none,0,0,p7,i7,q7,p9,i9,q9,by rw[Z,Y,hN,O.out,HB.out];rfl,cY.nil _ _ _,cY.nil _ _ _,by rw[S];exact f7,by rw[hL,O.out];exact f9,
      ⟨cB.nil _ _ _,cB.nil _ _ _,cB.nil _ _ _,cB.nil _ _ _,cB.nil _ _ _,c9⟩,Bf⟩
   |false=>
    have O:=aT c5;clear K c5 o9 f4;have G1:=M.cell;have z1:=M.lt;go_wp2_with fail;refine(atZ _ g f0.out _ l (hv.below B9 aU) hl).mono ?_;rintro e WX ⟨p9,i9,q9,rfl,o9,J⟩;have KX:=I.keep J;have KF:=KF.keep J;have BX:=B9.after J B9.size;have c9:cB (aD p7 i7 q7) (aD p9 i9 q9):=cB.of_lt o7 o9 aU;have a9:=o7.keep J;have l7:=J.size;have b0:=o9.mono (B':=w.heap.size+2) aA;clear J G1;have z2:=KX.lt;have zF:=KF.lt;have G2:=KX.cell;have F2:=KX.frozen;have GF:=KF.cell;go_wp2;refine cT ?_;intro Wf D;have R:bK Wf (w+1) 34 #[aO 7,aK,(),aK,(),g,aD p7 i7 q7,aK,aK,aD p9 i9 q9]:=by exact akA
    have hg:WX.grownBy Wf (some (w.heap.size+1)):=by rw[D];exact Q7
    have yX:=BX.size;have Bf:Below w w Wf:=BX.grown hg BX.size kF;have f7:=(a9.grow hg (fun q N F=>by have:=cI N;have:=(a9.lt q F).1;omega)).mono (B':=w.heap.size) aA;have f9:=(b0.grow hg (fun q N F=>by have:=cI N;have:=(b0.lt q F).1;omega)).mono (B':=w.heap.size) aA;have Gf:=R.cell;clear D;obtain⟨Z,Y,S,hN,hL⟩:=H.out;exact bW (v:=aS #[aM #[aO 7,aK,(),aK,(),g,aD p7 i7 q7,aK,aK,aD p9 i9 q9],aG true]) (by simp[results,results11,go_sem,Gf]) rfl
     ⟨none,0,0,none,0,0,p7,i7,q7,p9,i9,q9,by rw[Z,Y,hN,O.out,HB.out];rfl,cY.nil _ _ _,cY.nil _ _ _,by rw[S];exact f7,by rw[hL,O.out];exact f9,
      ⟨cB.nil _ _ _,cB.nil _ _ _,cB.nil _ _ _,cB.nil _ _ _,cB.nil _ _ _,c9⟩,Bf⟩
def FP(g:Int)(l:List Int)(k:Int):Int:=if kG g l k then 6 else 0
def FO(g:Int)(l:List Int)(k:Int):Int:=if kG g l k then g else 0
def FN(g:Int)(l:List Int)(k:Int):List Int:=if kG g l k then l else []
def FQ(g:Int)(l:List Int)(k:Int):Int:=if kG g l k then k else 0
theorem aa6{g:Int}{l:aI}{k:Int}(h:kG g l k=true):cO g l=true:=by
 unfold kG vP sQ at h
 cases z:cO g l with
 |true=>rfl
 |false=>rw[z]at h;simp at h
theorem V6{g:Int}{l:aI}{k:Int}(h:kG g l k=false):kK g l k=[]:=by
 unfold kG at h;unfold kK
 cases hr:vP g l k with
 |none=>rfl
 |some x=>rw[hr]at h;simp at h
theorem aj9{p:Prop}(h:p:=by
  rw[z];have:=(((((((((K7.set 0 (aO 6)).set 1 (aO 0)).set 2 (aD none 0 0)).set 3 (aO 0)).set 4 (aD none 0 0)).set 5 (aO g)).set 6 (aD p7 i7 q7)).set 7 (aO k)).set 8 (aO 0)).set 9 (aD p1 D F);simpa using this):p:=h
theorem akE{p:Prop}(h:p:=by
  have:=(((((((((R.set 0 (aO 0)).set 1 (aO 0)).set 2 (aD none 0 0)).set 3 (aO 0)).set 4 (aD none 0 0)).set 5 (aO 0)).set 6 (aD none 0 0)).set 7 (aO 0)).set 8 (aO 0)).set 9 (aD none 0 0);simpa using this):p:=h
theorem abV(g:Int)(v:Value)(l:aI)(hv:Ints w v l)(hl:l.length<=1048576)(k:Int)(hk:fM k):
  Calls prog 151 #[aM #[g,v],k] w fun e w'=>∃p0 i0 q0 p1 D F p2 i2 q2 p3 i3 q3,e=aQ (aS #[aM #[(FP g l k),aK,aD p0 i0 q0,aK,aD p1 D F,(FO g l k),aD p2 i2 q2,(FQ g l k),aK,aD p3 i3 q3],aG (kG g l k)])/\cY 3 w.heap.size w' (aD p0 i0 q0) []/\cY 3 w.heap.size w' (aD p1 D F) []/\cY 3 w.heap.size w' (aD p2 i2 q2) (FN g l k)/\cY 3 w.heap.size w' (aD p3 i3 q3) (kK g l k)/\(cB (aD p0 i0 q0) (aD p1 D F)/\cB (aD p0 i0 q0) (aD p2 i2 q2)/\cB (aD p0 i0 q0) (aD p3 i3 q3)/\cB (aD p1 D F) (aD p2 i2 q2)/\cB (aD p1 D F) (aD p3 i3 q3)/\cB (aD p2 i2 q2) (aD p3 i3 q3))/\Below w w w':=by
 obtain⟨a,c,rfl⟩:=hv.shape;go_enter func151,ntmps151;go_wp2_with fail;refine cZ ?_;intro V hV;have B:Below w w V:=iJ hV;have K1:bK V w 29 #[g,aD a l c]:=iQ hV;have R:bK V (w+1) 34 #[aK,aK,(),aK,(),aK,(),aK,aK,()]:=jL hV;clear hV;have e6:w.heap.size+2<=V.heap.size:=by have:=R.lt;omega
 refine(QA _ g _ l (hv.below B aU) hl k hk).mono ?_;rintro e w1 ⟨p1,D,F,rfl,o1,N⟩;have K1:=K1.keep N;have R:=R.keep N;have z0:=B.size;have Z:=B.after N B.size;have e9:=hv.below Z aU;have z1:=K1.lt;have z2:=R.lt;have o1:=o1.mono (B':=w.heap.size+2) (by have:=e6;omega);clear N B
 cases hb:kG g l k with
 |false=>
  have K:FP g l k=0:=by unfold FP;rw[hb];rfl
  have J:FO g l k=0:=by unfold FO;rw[hb];rfl
  have I:FN g l k=[]:=by unfold FN;rw[hb];rfl
  have M:FQ g l k=0:=by unfold FQ;rw[hb];rfl
  have hL:=V6 hb;have H:=aT (And.intro K (And.intro J (And.intro I (And.intro M hL))));have HB:=aT hb;clear K J I M hL hb;have G2:=R.cell;have F2:=R.frozen;go_wp2;refine cT ?_;intro Wf z;have S:bK Wf (w+1) 34 #[aK,aK,(),aK,(),aK,(),aK,aK,()]:=by rw[z];exact akE
  have hg:w1.grownBy Wf (some (w.heap.size+1)):=by rw[z];exact(cX (cX (cX (cX (cX (cX (cX (cX (cX (cX (dO _ _) 0 _) 1 _) 2 _) 3 _) 4 _) 5 _) 6 _) 7 _) 8 _) 9 _)
  have Bf:Below w w Wf:=Z.grown hg Z.size kF;have Gf:=S.cell;clear z G2 F2;obtain⟨K,J,I,M,hL⟩:=H.out;exact bW (v:=aS #[aM #[aK,aK,(),aK,(),aK,(),aK,aK,()],aG false]) (by simp[results,results151,go_sem,Gf]) rfl
   ⟨none,0,0,none,0,0,none,0,0,none,0,0,by rw[K,J,M,HB.out],cY.nil _ _ _,cY.nil _ _ _,by rw[I];exact cY.nil _ _ _,by rw[hL];exact cY.nil _ _ _,
    ⟨cB.nil _ _ _,cB.nil _ _ _,cB.nil _ _ _,cB.nil _ _ _,cB.nil _ _ _,cB.nil _ _ _⟩,Bf⟩
 |true=>
  have K:FP g l k=6:=by unfold FP;rw[hb];rfl
  have J:FO g l k=g:=by unfold FO;rw[hb];rfl
  have I:FN g l k=l:=by unfold FN;rw[hb];rfl
  have M:FQ g l k=k:=by unfold FQ;rw[hb];rfl
  have O:=(fF (aa6 hb)).2.2.2;have a6:=CI l O;have H:=aT (And.intro K (And.intro J (And.intro I M)));have HB:=aT hb;have f3:=aT a6;clear K J I M O a6 hb;have G1:=K1.cell;go_wp2_with fail;refine(CJ g _ l _ e9 hl).mono ?_;rintro e w7 ⟨p7,i7,q7,rfl,o7,c5⟩;rw[f3.out]at o7;have K7:=R.keep c5;have B7:=Z.after c5 Z.size;have e5:cB (aD p7 i7 q7) (aD p1 D F):=(cB.of_lt o1 o7 aU).symm;have a7:=o1.keep c5;have a8:=o7.mono (B':=w.heap.size+2) aA;have G2:=K7.cell;have F2:=K7.frozen;have z7:=K7.lt;clear c5 G1 o7;go_wp2;refine cT ?_;intro Wf z;have S:bK Wf (w+1) 34 #[aO 6,aK,(),aK,(),g,aD p7 i7 q7,k,aK,aD p1 D F]:=by exact aj9
  have hg:w7.grownBy Wf (some (w.heap.size+1)):=by rw[z];exact(cX (cX (cX (cX (cX (cX (cX (cX (cX (cX (dO _ _) 0 _) 1 _) 2 _) 3 _) 4 _) 5 _) 6 _) 7 _) 8 _) 9 _)
  have y7:=B7.size;have Bf:Below w w Wf:=B7.grown hg B7.size kF;have f1:=(a7.grow hg (fun q hq Y=>by have:=cI hq;have:=(a7.lt q Y).1;omega)).mono (B':=w.heap.size) aA;have f7:=(a8.grow hg (fun q hq Y=>by have:=cI hq;have:=(a8.lt q Y).1;omega)).mono (B':=w.heap.size) aA;have Gf:=S.cell;clear z;obtain⟨K,J,I,M⟩:=H.out;exact bW (v:=aS #[aM #[aO 6,aK,(),aK,(),g,aD p7 i7 q7,k,aK,aD p1 D F],aG true]) (by simp[results,results151,go_sem,Gf]) rfl
   ⟨none,0,0,none,0,0,p7,i7,q7,p1,D,F,by rw[K,J,M,HB.out],cY.nil _ _ _,cY.nil _ _ _,by rw[I];exact f7,f1,
    ⟨cB.nil _ _ _,cB.nil _ _ _,cB.nil _ _ _,cB.nil _ _ _,cB.nil _ _ _,e5⟩,Bf⟩
theorem abW(g:Int)(v:Value)(l:aI)(hv:Ints w v l)(hl:l.length<=1048576)(k:Int)(hk:fM k):
  Calls prog 167 #[aM #[g,v],k] w fun e w'=>∃p0 i0 q0 p1 D F p2 i2 q2 p3 i3 q3,e=aQ (aS #[aM #[(FP g l k),aK,aD p0 i0 q0,aK,aD p1 D F,(FO g l k),aD p2 i2 q2,(FQ g l k),aK,aD p3 i3 q3],aG (kG g l k)])/\cY 3 w.heap.size w' (aD p0 i0 q0) []/\cY 3 w.heap.size w' (aD p1 D F) []/\cY 3 w.heap.size w' (aD p2 i2 q2) (FN g l k)/\cY 3 w.heap.size w' (aD p3 i3 q3) (kK g l k)/\(cB (aD p0 i0 q0) (aD p1 D F)/\cB (aD p0 i0 q0) (aD p2 i2 q2)/\cB (aD p0 i0 q0) (aD p3 i3 q3)/\cB (aD p1 D F) (aD p2 i2 q2)/\cB (aD p1 D F) (aD p3 i3 q3)/\cB (aD p2 i2 q2) (aD p3 i3 q3))/\Below w w w':=by
 obtain⟨a,c,rfl⟩:=hv.shape;go_enter func167,ntmps167;go_wp2_with fail;refine cZ ?_;intro V hV;have B:Below w w V:=iJ hV;have K1:bK V w 29 #[g,aD a l c]:=iQ hV;have R:bK V (w+1) 34 #[aK,aK,(),aK,(),aK,(),aK,aK,()]:=jL hV;clear hV;have e6:w.heap.size+2<=V.heap.size:=by have:=R.lt;omega
 refine(QB _ g _ l (hv.below B aU) hl k hk).mono ?_;rintro e w1 ⟨p1,D,F,rfl,o1,N⟩;have K1:=K1.keep N;have R:=R.keep N;have z0:=B.size;have Z:=B.after N B.size;have e9:=hv.below Z aU;have z1:=K1.lt;have z2:=R.lt;have o1:=o1.mono (B':=w.heap.size+2) (by have:=e6;omega);clear N B
 cases hb:kG g l k with
 |false=>
  have K:FP g l k=0:=by unfold FP;rw[hb];rfl
  have J:FO g l k=0:=by unfold FO;rw[hb];rfl
  have I:FN g l k=[]:=by unfold FN;rw[hb];rfl
  have M:FQ g l k=0:=by unfold FQ;rw[hb];rfl
  have hL:=V6 hb;have H:=aT (And.intro K (And.intro J (And.intro I (And.intro M hL))));have HB:=aT hb;clear K J I M hL hb;have G2:=R.cell;have F2:=R.frozen;go_wp2;refine cT ?_;intro Wf z;have S:bK Wf (w+1) 34 #[aK,aK,(),aK,(),aK,(),aK,aK,()]:=by rw[z];exact akE
  have hg:w1.grownBy Wf (some (w.heap.size+1)):=by rw[z];exact(cX (cX (cX (cX (cX (cX (cX (cX (cX (cX (dO _ _) 0 _) 1 _) 2 _) 3 _) 4 _) 5 _) 6 _) 7 _) 8 _) 9 _)
  have Bf:Below w w Wf:=Z.grown hg Z.size kF;have Gf:=S.cell;clear z G2 F2;obtain⟨K,J,I,M,hL⟩:=H.out;exact bW (v:=aS #[aM #[aK,aK,(),aK,(),aK,(),aK,aK,()],aG false]) (by simp[results,results167,go_sem,Gf]) rfl
   ⟨none,0,0,none,0,0,none,0,0,none,0,0,by rw[K,J,M,HB.out],cY.nil _ _ _,cY.nil _ _ _,by rw[I];exact cY.nil _ _ _,by rw[hL];exact cY.nil _ _ _,
    ⟨cB.nil _ _ _,cB.nil _ _ _,cB.nil _ _ _,cB.nil _ _ _,cB.nil _ _ _,cB.nil _ _ _⟩,Bf⟩
 |true=>
  have K:FP g l k=6:=by unfold FP;rw[hb];rfl
  have J:FO g l k=g:=by unfold FO;rw[hb];rfl
  have I:FN g l k=l:=by unfold FN;rw[hb];rfl
  have M:FQ g l k=k:=by unfold FQ;rw[hb];rfl
  have O:=(fF (aa6 hb)).2.2.2;have a6:=CI l O;have H:=aT (And.intro K (And.intro J (And.intro I M)));have HB:=aT hb;have f3:=aT a6;clear K J I M O a6 hb;have f4:([]:aI).length+l.length<=17592186044416:=bO;have f6:=aT f4;clear f4;go_wp2_with fail;have e1:w1.cell? ⟨w,0,none⟩=some (aO g):=K1.cell 0;have e2:w1.cell? ⟨w,1,none⟩=some (aD a l c):=K1.cell 1;go_region_held3 (fun w'=>w'.cell? ⟨w,0,none⟩=some (aO g)/\w'.cell? ⟨w,1,none⟩=some (aD a l c)) (go_keep)
   (first
    |(refine jT rfl _ _ _ rfl 3 underlying25 intElem w1.heap.size (aD (some ⟨_,0,none⟩) 0 0) [] rfl (aD a l c) l rfl ?_ ?_ f6.out w1 ?_ aU ?_;(with_reducible exact(bB.lit0 w1 aU).drew');(with_reducible exact(e9.alloc _).drew');(with_reducible exact(cQ w1 _).drew);(intro v7 w7 o7 b7 _;obtain⟨p7,i7,q7,rfl⟩:=o7.shape3;have K7:=R.keep b7;have G2:=K7.cell;have F2:=K7.frozen;have z7:=K7.lt;obtain⟨g2,g4⟩:=jN b7 w1.heap.size aU)))
  have B7:=Z.after b7 Z.size;have e5:cB (aD p7 i7 q7) (aD p1 D F):=(cB.of_lt o1 o7.toW aU).symm;have a7:=o1.keep b7;have a8:=o7.toW.mono (B':=w.heap.size+2) aA;clear e1 e2;go_wp2;refine cT ?_;intro Wf z;have S:bK Wf (w+1) 34 #[aO 6,aK,(),aK,(),g,aD p7 i7 q7,k,aK,aD p1 D F]:=by exact aj9
  have hg:w7.grownBy Wf (some (w.heap.size+1)):=by rw[z];exact(cX (cX (cX (cX (cX (cX (cX (cX (cX (cX (dO _ _) 0 _) 1 _) 2 _) 3 _) 4 _) 5 _) 6 _) 7 _) 8 _) 9 _)
  have y7:=B7.size;have Bf:Below w w Wf:=B7.grown hg B7.size kF;have f1:=(a7.grow hg (fun q hq Y=>by have:=cI hq;have:=(a7.lt q Y).1;omega)).mono (B':=w.heap.size) aA;have f7:=(a8.grow hg (fun q hq Y=>by have:=cI hq;have:=(a8.lt q Y).1;omega)).mono (B':=w.heap.size) aA;have Gf:=S.cell;clear z;obtain⟨K,J,I,M⟩:=H.out;exact bW (v:=aS #[aM #[aO 6,aK,(),aK,(),g,aD p7 i7 q7,k,aK,aD p1 D F],aG true]) (by simp[results,results167,go_sem,Gf]) rfl
   ⟨none,0,0,none,0,0,p7,i7,q7,p1,D,F,by rw[K,J,M,HB.out],cY.nil _ _ _,cY.nil _ _ _,by rw[I];exact f7,f1,
    ⟨cB.nil _ _ _,cB.nil _ _ _,cB.nil _ _ _,cB.nil _ _ _,cB.nil _ _ _,e5⟩,Bf⟩
