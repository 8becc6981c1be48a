/- Lemmas for CardRunConsole. No condition. -/
import Derived.Test.YtkdbkjjacgigiaaGreatDoorR08
set_option maxRecDepth 100000
set_option maxHeartbeats 64000000
namespace Go.Proofs.YtkdbkjjacgigiaaGreatDoor
section
open Go.RowKit Go.G5 Go.Proofs.Tryz
variable(w:World)(n:Int)(v:Value)(l:aI)
def wC:List Int->Int->Int
 |[],b=>b
 |s::r,b=>wC r (if dG s.toNat<dG b.toNat then s else b)
def nN(g:Int)(l:List Int):Bool:=cO g l&&!((nT g l).length==0)
def qY(g:Int)(l:List Int):Int:=if nN g l then wC (nT g l) ((nT g l).getD 0 0) else 0
def xD(g:Int)(l:List Int):Int:=if nN g l then ((dG (qY g l).toNat:Nat):Int) else 0
theorem U7(S:aI):∀(r:aI) (b:Int),(∀x∈r,x∈S)->b∈S->wC r b∈S
 |[],_,_,h=>h
 |s::r,b,h1,h2=>by
  rw[wC];refine U7 S r _ (fun x z=>h1 x (List.mem_cons_of_mem _ z)) ?_
  split
  .exact h1 s bF
  .exact h2
theorem O6(j:Nat)(h:j<l)(b:Int):wC (l.drop j) b=wC (l.drop (j+1)) (if dG (l[j]).toNat<dG b.toNat then l[j] else b):=by
 rw[List.drop_eq_getElem_cons h,wC]
theorem acK(h:0<l.length):wC (l.drop 1) l[0]=wC l l[0]:=by
 have:=O6 l 0 h l[0];rw[List.drop_zero]at this;rw[this];simp
theorem atV(g:Int)(l:aI):0<=qY g l/\qY g l<64:=by
 unfold qY
 split
 .rename_i h;unfold nN at h;simp only[Bool.and_eq_true,Bool.not_eq_true',beq_eq_false_iff_ne]at h;have hl:0<(nT g l).length:=by have:=h.2;omega
  refine SD g l _ (U7 (nT g l) _ _ (fun x z=>z) ?_);rw[bR,cG hl];simp
 .omega
theorem aa9(g:Int)(l:aI):0<=xD g l/\xD g l<=8:=by
 unfold xD;have h:=atV g l
 split
 .have:=xC (qY g l).toNat aA;omega
 .omega
theorem RQ(x:Int)(w:World)(z:0<=x)(h1:x<64):Calls prog 214 #[x] w fun e w'=>e=aQ (aO ((dG x.toNat:Nat):Int))/\w=w':=by
 obtain⟨n,rfl⟩:=cN z;exact jF n w aA
theorem RR(x:Int)(w:World)(z:0<=x)(h1:x<64):Calls prog 84 #[x] w fun e w'=>e=aQ (aO ((dG x.toNat:Nat):Int))/\w=w':=by
 obtain⟨n,rfl⟩:=cN z;exact iE n w aA
theorem ak2{p:Prop}(h:p:=by
  rw[HF.out];go_wp2;exact bW (v:=aS #[aK,aK,aG false]) (by simp[results,results232,go_sem]) rfl ⟨by rw[H.out.1,H.out.2.1,H.out.2.2],B2⟩):p:=h
theorem ar1(g:Int)(v:Value)(l:aI)(hv:Ints w v l)(hl:l.length<=1048576):
  aH 232 #[aM #[g,v]] w (aS #[(xD g l),(qY g l),aG (nN g l)]):=by
 have b5:=hv;obtain⟨a,c,rfl⟩:=hv.shape;have K0:=bK.new w 29 #[g,aD a l c];have f0:=XO g l;have b0:=SD g l;obtain⟨L,M⟩:=aW (nT g l);have J:nN g l=(cO g l&&!(L.length==0)):=by unfold nN;rw[M]
 have hS:nN g l=true->qY g l=wC L (L.getD 0 0):=fun h=>by unfold qY;rw[if_pos h,M]
 have hN:nN g l=true->xD g l=((dG (qY g l).toNat:Nat):Int):=fun h=>by unfold xD;rw[if_pos h]
 have N:nN g l=false->qY g l=0/\xD g l=0:=fun h=>by unfold xD qY;rw[h];exact⟨rfl,rfl⟩
 rw[<-M]at f0 b0;have b3:=fun(W:World) (h:Ints W (aD a l c) l)=>PU W g _ l h hl;simp only[<-M]at b3;have a8:=aT b3;clear b3 M
 cases S:cO g l with
 |false=>
  have h0:nN g l=false:=by rw[J,S];rfl
  have D:=N h0;have H:=aT (And.intro D.1 (And.intro D.2 h0));have HF:=aT S;clear J hS hN N h0 D S;go_enter func232,ntmps232;go_wp2_with fail;refine(a8.out _ (b5.alloc _)).mono ?_;rintro e w1 ⟨p1,i1,K,rfl,o1,b1⟩;have R:i1=L.length:=o1.ints.capLe.1;subst R;have Z:Below w w w1:=(cQ _ _).after b1 bF;have K1:=bK.new w1 29 #[(kM g l),aD p1 L K];have B2:=Z.alloc Z.size (.cells #[(kM g l),aD p1 L K] 29);have hI:=o1.ints.alloc (.cells #[(kM g l),aD p1 L K] 29);exact ak2
 |true=>
  by_cases hz:L.length=0
  .have h0:nN g l=false:=by rw[J,S,hz];rfl
   have D:=N h0;have H:=aT (And.intro D.1 (And.intro D.2 h0));have HF:=aT S;have g2:((L.length:Int)==0)=true:=by simp[hz]
   clear J hS hN N h0 D S hz;go_enter func232,ntmps232;go_wp2_with fail;refine(a8.out _ (b5.alloc _)).mono ?_;rintro e w1 ⟨p1,i1,K,rfl,o1,b1⟩;have R:i1=L.length:=o1.ints.capLe.1;subst R;have Z:Below w w w1:=(cQ _ _).after b1 bF;have K1:=bK.new w1 29 #[(kM g l),aD p1 L K];have B2:=Z.alloc Z.size (.cells #[(kM g l),aD p1 L K] 29);have hI:=o1.ints.alloc (.cells #[(kM g l),aD p1 L K] 29);have G:=K1.cell;exact ak2
  .have h1:nN g l=true:=by rw[J,S];simp[hz]
   have I:0<L.length:=aA;have hs:=hS h1;have hn:=hN h1;rw[bR,cG I,Option.getD_some]at hs;have H:=aT (And.intro hs (And.intro hn h1));have HF:=aT S;have g2:((L.length:Int)==0)=false:=by rw[dZ];omega
   have b7:=aT b0;clear J hS hN N h1 hs hn S hz b0;go_enter func232,ntmps232;go_wp2_with fail;refine(a8.out _ (b5.alloc _)).mono ?_;rintro e w1 ⟨p1,i1,K,rfl,o1,b1⟩;have R:i1=L.length:=o1.ints.capLe.1;subst R;have Z:Below w w w1:=(cQ _ _).after b1 bF;have K1:=bK.new w1 29 #[(kM g l),aD p1 L K];have B2:=Z.alloc Z.size (.cells #[(kM g l),aD p1 L K] 29);have hI:=o1.ints.alloc (.cells #[(kM g l),aD p1 L K] 29);have G:=K1.cell;rw[HF.out];obtain⟨pv,b,g5,cv,f6,c6,b4,hc,hb⟩:=hI.vw;injection f6 with e1 _ e3;subst e1 e3;have f2:=hc 0 I;have g6:∀W:World,(Instr.indexAt 25 (aD p1 L K) (aO 0)).run prog W=.ok (aP (some ⟨b,g5,none⟩)) W:=fun W=>b4 W 0 I;rw[Nat.add_zero]at f2;have HC:=aT hc;have e8:=aT b4;clear hc b4 c6;have O:=b7.out _ (aX I);have b9:=O.1;have c5:=O.2;clear O;go_wp2_with fail;go_loopw [7,30] (fun bv iv wr=>∃(j:Nat) (x:Int),j<=L/\iv=aO j/\bv=aO x/\0<=x/\x<64/\wC (L.drop j) x=qY g l/\wr=w1.alloc (.cells #[(kM g l),aD p1 L K] 29)) (fun _ iv _=>L.length-(intOf iv).toNat)
   .exact⟨0,L[0],aZ _,rfl,rfl,b9,c5,by rw[List.drop_zero,H.out.1],rfl⟩
   obtain⟨j,x,hj,rfl,rfl,f7,f8,F,rfl⟩:=hrel;by_cases hlt:j<L
   .have c7:(j:Int)<(L.length:Int):=aA;have f3:=HC.out j hlt;have h8:=fun W=>e8.out W j hlt;have Y:=b7.out _ (aX hlt);have z:=O6 L j hlt x;rw[F]at z;obtain⟨y,hy⟩:=aW (L[j]);rw[<-hy]at f3 Y z;have f9:=Y.1;have g0:=Y.2;clear hy Y F;by_cases hp:dG y.toNat<dG x.toNat
    .have f4:((dG y.toNat:Nat):Int)<((dG x.toNat:Nat):Int):=by exact_mod_cast hp
     rw[if_pos hp]at z;have a7:=aT z;clear z hp;go_wp2_with (go_at_call 214;refine(RQ _ _ ?_ ?_).mono ?_;assumption;assumption;rintro e w2 ⟨rfl,rfl⟩);go_roundw
     .exact⟨j+1,y,aA,cD,rfl,f9,g0,a7.out.symm,trivial⟩
     exact aY
    .have f4:¬((dG y.toNat:Nat):Int)<((dG x.toNat:Nat):Int):=by exact_mod_cast hp
     rw[if_neg hp]at z;have a7:=aT z;clear z hp;go_wp2_with (go_at_call 214;refine(RQ _ _ ?_ ?_).mono ?_;assumption;assumption;rintro e w2 ⟨rfl,rfl⟩);go_roundw
     .exact⟨j+1,x,aA,cD,rfl,f7,f8,a7.out.symm,trivial⟩
     exact aY
   .have c7:¬(j:Int)<(L.length:Int):=aA;have a1:x=qY g l:=by rw[<-F,show j=L.length from aA,List.drop_length];rfl
    have e7:=aT a1;clear F a1;go_wp2_with (go_at_call 214;refine(RQ _ _ ?_ ?_).mono ?_;assumption;assumption;rintro e w2 ⟨rfl,rfl⟩);exact bW (v:=aS #[aO ((dG x.toNat:Nat):Int),x,aG true]) (by simp[results,results232,go_sem]) rfl ⟨by rw[H.out.2.1,H.out.2.2,e7.out],B2⟩
theorem ak4{p:Prop}(h:p:=by
  rw[HF.out];go_wp2;exact bW (v:=aS #[aK,aK,aG false]) (by simp[results,results65,go_sem]) rfl ⟨by rw[H.out.1,H.out.2.1,H.out.2.2],B2⟩):p:=h
theorem ar2(g:Int)(v:Value)(l:aI)(hv:Ints w v l)(hl:l.length<=1048576):
  aH 65 #[aM #[g,v]] w (aS #[(xD g l),(qY g l),aG (nN g l)]):=by
 have b5:=hv;obtain⟨a,c,rfl⟩:=hv.shape;have K0:=bK.new w 29 #[g,aD a l c];have f0:=XO g l;have b0:=SD g l;obtain⟨L,M⟩:=aW (nT g l);have J:nN g l=(cO g l&&!(L.length==0)):=by unfold nN;rw[M]
 have hS:nN g l=true->qY g l=wC L (L.getD 0 0):=fun h=>by unfold qY;rw[if_pos h,M]
 have hN:nN g l=true->xD g l=((dG (qY g l).toNat:Nat):Int):=fun h=>by unfold xD;rw[if_pos h]
 have N:nN g l=false->qY g l=0/\xD g l=0:=fun h=>by unfold xD qY;rw[h];exact⟨rfl,rfl⟩
 rw[<-M]at f0 b0;have b3:=fun(W:World) (h:Ints W (aD a l c) l)=>PV W g _ l h hl;simp only[<-M]at b3;have a8:=aT b3;clear b3 M
 cases S:cO g l with
 |false=>
  have h0:nN g l=false:=by rw[J,S];rfl
  have F:=N h0;have H:=aT (And.intro F.1 (And.intro F.2 h0));have HF:=aT S;clear J hS hN N h0 F S;go_enter func65,ntmps65;go_wp2_with fail;refine(a8.out _ (b5.alloc _)).mono ?_;rintro e w1 ⟨p1,i1,K,rfl,o1,b1⟩;have R:i1=L.length:=o1.ints.capLe.1;subst R;have Z:Below w w w1:=(cQ _ _).after b1 bF;have K1:=bK.new w1 29 #[(kM g l),aD p1 L K];have B2:=Z.alloc Z.size (.cells #[(kM g l),aD p1 L K] 29);have hI:=o1.ints.alloc (.cells #[(kM g l),aD p1 L K] 29);exact ak4
 |true=>
  by_cases hz:L.length=0
  .have h0:nN g l=false:=by rw[J,S,hz];rfl
   have F:=N h0;have H:=aT (And.intro F.1 (And.intro F.2 h0));have HF:=aT S;have g2:((L.length:Int)==0)=true:=by simp[hz]
   clear J hS hN N h0 F S hz;go_enter func65,ntmps65;go_wp2_with fail;refine(a8.out _ (b5.alloc _)).mono ?_;rintro e w1 ⟨p1,i1,K,rfl,o1,b1⟩;have R:i1=L.length:=o1.ints.capLe.1;subst R;have Z:Below w w w1:=(cQ _ _).after b1 bF;have K1:=bK.new w1 29 #[(kM g l),aD p1 L K];have B2:=Z.alloc Z.size (.cells #[(kM g l),aD p1 L K] 29);have hI:=o1.ints.alloc (.cells #[(kM g l),aD p1 L K] 29);have G:=K1.cell;exact ak4
  .have h1:nN g l=true:=by rw[J,S];simp[hz]
   have z:0<L.length:=aA;have hs:=hS h1;have hn:=hN h1;rw[bR,cG z,Option.getD_some]at hs;have H:=aT (And.intro hs (And.intro hn h1));have HF:=aT S;have g2:((L.length:Int)==0)=false:=by rw[dZ];omega
   have b7:=aT b0;clear J hS hN N h1 hs hn S hz b0;go_enter func65,ntmps65;go_wp2_with fail;refine(a8.out _ (b5.alloc _)).mono ?_;rintro e w1 ⟨p1,i1,K,rfl,o1,b1⟩;have R:i1=L.length:=o1.ints.capLe.1;subst R;have Z:Below w w w1:=(cQ _ _).after b1 bF;have K1:=bK.new w1 29 #[(kM g l),aD p1 L K];have B2:=Z.alloc Z.size (.cells #[(kM g l),aD p1 L K] 29);have hI:=o1.ints.alloc (.cells #[(kM g l),aD p1 L K] 29);have G:=K1.cell;rw[HF.out];obtain⟨pv,b,g5,cv,f6,c6,b4,hc,hb⟩:=hI.vw;injection f6 with e1 _ e3;subst e1 e3;have f2:=hc 0 z;have g6:∀W:World,(Instr.indexAt 25 (aD p1 L K) (aO 0)).run prog W=.ok (aP (some ⟨b,g5,none⟩)) W:=fun W=>b4 W 0 z;rw[Nat.add_zero]at f2;have HC:=aT hc;have e8:=aT b4;clear hc b4 c6;have O:=b7.out _ (aX z);have b9:=O.1;have c5:=O.2;clear O;go_wp2_with fail;go_loopw [7,8] (fun bv iv wr=>∃(j:Nat) (x:Int),1<=j/\j<=L/\iv=aO j/\bv=aO x/\0<=x/\x<64/\wC (L.drop j) x=qY g l/\wr=w1.alloc (.cells #[(kM g l),aD p1 L K] 29)) (fun _ iv _=>L.length-(intOf iv).toNat)
   .exact⟨1,L[0],aU,z,rfl,rfl,b9,c5,by rw[acK L z,H.out.1],rfl⟩
   obtain⟨j,x,h8,hj,rfl,rfl,f7,f8,I,rfl⟩:=hrel;by_cases hlt:j<L
   .have c7:(j:Int)<(L.length:Int):=aA;have f3:=HC.out j hlt;have h9:=fun W=>e8.out W j hlt;have Y:=b7.out _ (aX hlt);have D:=O6 L j hlt x;rw[I]at D;obtain⟨y,hy⟩:=aW (L[j]);rw[<-hy]at f3 Y D;have f9:=Y.1;have g0:=Y.2;clear hy Y I;by_cases hp:dG y.toNat<dG x.toNat
    .have f4:((dG y.toNat:Nat):Int)<((dG x.toNat:Nat):Int):=by exact_mod_cast hp
     rw[if_pos hp]at D;have a7:=aT D;clear D hp;go_wp2_with (go_at_call 84;refine(RR _ _ ?_ ?_).mono ?_;assumption;assumption;rintro e w2 ⟨rfl,rfl⟩);go_roundw
     .exact⟨j+1,y,aA,aA,cD,rfl,f9,g0,a7.out.symm,trivial⟩
     exact aY
    .have f4:¬((dG y.toNat:Nat):Int)<((dG x.toNat:Nat):Int):=by exact_mod_cast hp
     rw[if_neg hp]at D;have a7:=aT D;clear D hp;go_wp2_with (go_at_call 84;refine(RR _ _ ?_ ?_).mono ?_;assumption;assumption;rintro e w2 ⟨rfl,rfl⟩);go_roundw
     .exact⟨j+1,x,aA,aA,cD,rfl,f7,f8,a7.out.symm,trivial⟩
     exact aY
   .have c7:¬(j:Int)<(L.length:Int):=aA;have a1:x=qY g l:=by rw[<-I,show j=L.length from aA,List.drop_length];rfl
    have e7:=aT a1;clear I a1;go_wp2_with (go_at_call 84;refine(RR _ _ ?_ ?_).mono ?_;assumption;assumption;rintro e w2 ⟨rfl,rfl⟩);exact bW (v:=aS #[aO ((dG x.toNat:Nat):Int),x,aG true]) (by simp[results,results65,go_sem]) rfl ⟨by rw[H.out.2.1,H.out.2.2,e7.out],B2⟩
def EP(o x:List Int)(p:Int):Nat->List Int
 |0=>o
 |k+1=>(EP o x p k).set (x.getD k 0).toNat p
def jS(g:Nat)(L:List Int):Nat->List Int×Int
 |0=>(List.replicate g 0,2^g-1)
 |j+1=>(EP (jS g L j).1 (iP (cU (L.getD j 0) (jS g L j).2)) (60/eO (cU (L.getD j 0) (jS g L j).2)) (iP (cU (L.getD j 0) (jS g L j).2)).length,dQ (jS g L j).2 (L.getD j 0))
def gM(g:Int)(l:List Int):List Int:=if iH g l then (jS g.toNat (fC g l) (fC g l).length).1 else []
theorem TV(o x:aI)(p:Int)(k:Nat):(EP o x p k).length=o.length:=by
 induction k with
 |zero=>rfl
 |succ k ih=>rw[EP,List.length_set,ih]
theorem PE(g:Nat)(L:aI)(j:Nat):(jS g L j).1.length=g:=by
 induction j with
 |zero=>simp[jS]
 |succ j ih=>rw[jS];simp only;rw[TV,ih]
theorem VQ(g:Nat)(z:g<=6)(L:aI)(j:Nat):0<=(jS g L j).2/\(jS g L j).2<2^g:=by
 have D:=dW g 6 z
 induction j with
 |zero=>simp only[jS];omega
 |succ j ih=>rw[jS];exact rK _ _ _ ih.1 ih.2
theorem WN(hl:∀s∈l,0<=s/\s<64):∀n z L,fL l n z=some L->∀s∈L,0<=s/\s<64:=by
 intro n
 induction n with
 |zero=>
  intro z L h;simp only[fL]at h
  split at h
  .cases h;simp
  .cases h
 |succ n ih=>
  intro z L h;simp only[fL]at h
  split at h
  .cases h;simp
  .split at h
   .cases h
   .cases hr:fL l n (dQ z (jB l z)) with
    |none=>rw[hr]at h;cases h
    |some L'=>
     rw[hr]at h
     cases h
     intro s D;rcases fK.1 D with rfl|D
     .exact MS l z hl
     .exact ih _ _ hr s D
theorem N6(g:Int)(l:aI):∀s∈fC g l,0<=s/\s<64:=by
 unfold fC kB
 split
 .rename_i z
  cases hr:fL l 64 (2^g.toNat-1) with
  |none=>simp
  |some L=>exact WN l (fS z) _ _ _ hr
 .simp
theorem N5{g:Int}{l:aI}(h:iH g l=true):cO g l=true:=by
 unfold iH kB at h
 split at h
 .rename_i z;exact z
 .simp at h
theorem yN(g:Int)(l:aI):(fC g l).length<=64:=by
 unfold fC kB
 split
 .cases hr:fL l 64 (2^g.toNat-1) with
  |none=>simp
  |some L=>exact arT l _ _ _ hr
 .simp
theorem U4(s:Int)(h:s<64)(k:Nat)(hk:k<(iP s).length):1<=eO s/\eO s<=8:=by
 have:=adJ s h;have:=zP s aA;omega
theorem LZ(g:Int)(v:Value)(l:aI)(hv:Ints w v l)(a9:l.length<=1048576):
  Calls prog 235 #[aM #[g,v]] w fun e w'=>∃ad i cp,e=aQ (aS #[aD ad i cp,aG (iH g l)])/\bB 3 w w' (aD ad i cp) (gM g l)/\Below w w w':=by
 obtain⟨a,c,rfl⟩:=hv.shape;obtain⟨I,d1,B1,z1⟩:=Box2.new w g (aD a l c) 29;obtain⟨W0,c8⟩:=aW (w.alloc (.cells #[g,aD a l c] 29));rw[<-c8]at I d1 B1 z1;go_enter func235,ntmps235;go_wp2_with fail;rw[<-c8];clear c8;refine(LD _ g _ l (hv.below B1 aU) a9).mono ?_;rintro e w1 ⟨p1,i1,q1,rfl,J,f5⟩;have X1:=(Box2.mk I d1 B1 z1).after f5;clear f5 I d1 B1 z1;obtain⟨I,d1,B1,z1⟩:=X1
 cases M:iH g l with
 |false=>
  have hx:gM g l=[]:=by unfold gM;rw[M];rfl
  have HX:=aT hx;have HG:=aT M;clear hx M J;go_wp2;go_ret2;exact⟨none,0,0,by rw[HG.out];rfl,by rw[HX.out];exact bB.nil _ _ _,B1⟩
 |true=>
  have hf:=N5 M;obtain⟨h0,h6,_⟩:=fF hf;obtain⟨n,rfl⟩:=cN h0;have hn:n<=6:=aA;have hp:=dW n 6 hn;have q0:(2:Int)^n<=64:=by simpa using hp.1
  have q2:=hp.2;have hx:gM n l=(jS n (fC n l) (fC n l).length).1:=by unfold gM;rw[M];rfl
  have c7:=N6 n l;have f3:=yN n l;obtain⟨L,f4⟩:=aW (fC n l);rw[<-f4]at hx c7 f3 J;obtain⟨q8,r0,e1⟩:=J.shape;simp only[Value.slice.injEq]at e1;obtain⟨rfl,rfl,rfl⟩:=e1;have g0:∀W,Ints W (aD a l c) l->Calls prog 302 #[aM #[n,aD a l c]] W fun e w'=>e=aQ (aO (jS n L 0).2)/\Below W W w':=fun W hW=>lC n _ l W hW aA aA;have j3:=aT g0;have HX:=aT hx;have j5:=aT c7;have j6:=aT J;have rL:=J.lt;have HG:=aT M;clear hx c7 f4 M hf hp g0 J;go_wp2_with (at_make;refine nP rfl _ _ _ rfl 3 underlying25 intElem n _ _ rfl rfl rfl rfl aA ?_;intro w2 a6 M;have X2:=(Box2.mk I d1 B1 z1).grow M bF;have p8:=M.size;have rO:=a6.lt;have g9:=j6.out.grow M (by intro k hk;cases hk);have l2:=hv.below X2.B aU;clear M I d1;obtain⟨I,d1,B2,z2⟩:=X2);refine aV (j3.out _ l2) ?_;intro w3 S;have X3:=(Box2.mk I d1 B2 z2).after S;have c6:=a6.keep S;have h5:=g9.keep S;have n3:w1.heap.size<w2.heap.size:=(rO _ rfl).2;have z3:=S.size;clear I d1 B2 z2 a6 g9 S rO;go_wp2_with fail;go_loopw [7,26] (fun lf i wr=>∃j:Nat,j<=L/\i=aO j/\lf=aO (jS n L j).2/\bB 3 w1 wr (aD (some ⟨w1,0,none⟩) n n) (jS n L j).1/\bB 3 W0 wr (aD p1 L q1) L/\Box2 w wr n (aD a l c)/\w2.heap.size<=wr.heap.size)
   (fun _ i _=>L.length-(intOf i).toNat)
  .exact⟨0,aZ _,rfl,rfl,c6,h5,X3,z3⟩
  obtain⟨j,hj,rfl,rfl,N,J,X,zr⟩:=hrel;obtain⟨wo,rfl⟩:∃wo:World,wo=wr:=⟨_,rfl⟩;clear c6 h5 X3;have D:=VQ n hn L j;have c9:=PE n L j;by_cases hlt:j<L
  .have b0:=j5.out _ (aX hlt);have f9:L.getD j 0=L[j]:=by rw[bR,cG hlt];rfl
   have F:jS n L (j+1)=(EP (jS n L j).1 (iP (cU L[j] (jS n L j).2)) (60/eO (cU L[j] (jS n L j).2)) (iP (cU L[j] (jS n L j).2)).length,dQ (jS n L j).2 L[j]):=by rw[jS,f9]
   obtain⟨aL,bL,o2,cL,eL,k7,b8,wJ,p5⟩:=J.ints.vw;simp only[Value.slice.injEq]at eL;obtain⟨rfl,_,rfl⟩:=eL;have b5:=wJ j hlt;have g2:=fun w'=>b8 w' j hlt;obtain⟨s,hs⟩:=aW (L[j]);rw[<-hs]at b0 F b5;obtain⟨o,ho⟩:=aW ((jS n L j).1);obtain⟨lf,g5⟩:=aW ((jS n L j).2);rw[<-ho]at c9 N F;rw[<-g5]at D F |-;have e5:=b0.1;have g7:=b0.2;have a9:=D.1;have p9:=D.2;have hA:=fV e5 (show s<4611686018427387904 from aA) a9 aA;have hD:=nR a9 aA e5 g7;have a7:=mW s lf 64 e5 g7;have g8:(cU s lf).toNat<2^n:=by
    have h1:=@Nat.and_le_right s.toNat lf.toNat;have h2:((2^n:Nat):Int)=(2:Int)^n:=by push_cast;rfl
    unfold cU;omega
   have a8:=ahR (cU s lf) n hn g8;obtain⟨x,hx⟩:=aW (cU s lf);rw[<-hx]at hA a7 a8 F;have b3:=U4 x aA;obtain⟨E,hE⟩:=aW (iP x);obtain⟨z,hz⟩:=aW (eO x);have b6:∀W,Calls prog 215 #[x] W fun e w'=>∃ad i cp,e=aQ (aD ad i cp)/\bB 3 W w' (aD ad i cp) E/\Below W W w':=fun W=>by rw[hE];exact nJ x W a7.1 a7.2
   have b9:∀W,Calls prog 214 #[x] W fun e w'=>e=.returned z/\W=w':=fun W=>by rw[hz];exact vN x W a7.1 aA
   rw[<-hE]at a8 F b3;rw[<-hz]at b3 F;have f0:=aT F;have j1:=aT a8;have k1:=aT b3;have e9:=aT b6;have j7:=aT b9;have HW:=aT N;have j4:=aT J;obtain⟨I,d1,B3,i6⟩:=X;clear b0 f9 F hs ho g5 D a7 g8 a8 b3 b6 b9 hE hz hx wJ b8 N J;go_wp2_with fail;refine(e9.out _).mono ?_;rintro e w4 ⟨p4,i4,q4,rfl,oE,Y⟩;obtain⟨q9,r2,e4⟩:=oE.shape;simp only[Value.slice.injEq]at e4;obtain⟨rfl,rfl,rfl⟩:=e4;have X4:=(Box2.mk I d1 B3 i6).after Y;have h8:=HW.out.keep Y;have h7:=j4.out.keep Y;have z4:=Y.size;have rE:=oE.lt;clear I d1 b5 g2 Y;go_wp2_with fail;go_loopw [35] (fun i wr=>∃k:Nat,k<=E/\i=aO k/\bB 3 w1 wr (aD (some ⟨w1,0,none⟩) n n) (EP o E (60/z) k)/\bB 3 wo wr (aD p4 E q4) E/\bB 3 W0 wr (aD p1 L q1) L/\Box2 w wr n (aD a l c)/\w2.heap.size<=wr.heap.size)
    (fun i _=>E.length-(intOf i).toNat)
   .exact⟨0,aZ _,rfl,h8,oE,h7,X4,aA⟩
   obtain⟨k,hk,rfl,N,oE,J,X,zi⟩:=hrel;obtain⟨wi,rfl⟩:∃wi:World,wi=wr:=⟨_,rfl⟩;clear h8 h7 X4;obtain⟨I,d1,B4,i7⟩:=X;have K:=TV o E (60/z) k;rw[c9]at K;by_cases a1:k<E
   .obtain⟨aE,bE,o1,cE,eE,k6,b7,f6,o9⟩:=oE.ints.vw;simp only[Value.slice.injEq]at eE;obtain⟨rfl,_,rfl⟩:=eE;have f7:=f6 k a1;have n0:=fun w'=>b7 w' k a1;have f8:=j1.out _ (aX a1);have e7:=k1.out k a1;obtain⟨e,he⟩:∃e:Nat,E[k]=(e:Int):=⟨E[k].toNat,aA⟩;rw[he]at f7 f8;have g6:EP o E (60/z) (k+1)=(EP o E (60/z) k).set e (60/z):=by rw[EP,show(E.getD k 0).toNat=e by rw[bR,cG a1,Option.getD_some,he];omega]
    have k4:e<n:=aA;have q6:=e7.1;have q7:=e7.2;have q3:0<=60/z:=Int.ediv_nonneg aA aA;have q5:60/z<=60:=Int.ediv_le_self _ aA;have e6:=N.stored K.symm e (60/z) ⟨aA,aA⟩;have Z:∃q,wi.cell? ⟨w1,e,none⟩=some q:=⟨_,N.cellAt K.symm e (by rw[K];exact k4)⟩;obtain⟨q,Z⟩:=Z;have p7:=N.frozenAt K.symm e;rw[<-g6]at e6;have R:=aT e6;have j0:=aT oE;have O:=aT J;have p6:(0:Int)<=(e:Int):=Int.natCast_nonneg _;have m8:(e:Int)<(n:Int):=aA;have o0:(z==0)=false:=bO;clear K f6 b7 he g6 e6 N oE J f8 e7;go_wp2_with (go_at_call 214;refine(j7.out _).mono ?_;rintro e' w' ⟨rfl,rfl⟩);go_roundw
    .exact⟨k+1,aA,cD,R.out.1,j0.out.grow R.out.2 (fun q hq e0=>by cases hq;have:=(rE _ e0).1;omega),O.out.grow R.out.2 (fun q hq e0=>by cases hq;have:=(rL _ e0).2;omega),(Box2.mk I d1 B4 i7).grow R.out.2 bO,by have:=R.out.2.size;omega⟩
    exact aY
   .have g4:k=E.length:=aA;subst g4;have j9:=aT N;have O:=aT J;clear N J oE K;go_wp2;go_roundw
    .exact⟨j+1,aA,cD,by rw[f0.out],by rw[f0.out];exact j9.out,O.out,⟨I,d1,B4,i7⟩,zi⟩
    exact aY
  .have k5:j=L.length:=aA;subst k5;obtain⟨I,d1,B3,i6⟩:=X;have HW:=aT N;clear N J D c9;go_wp2;go_ret2;exact⟨_,_,_,by rw[HG.out];rfl,by rw[HX.out];exact HW.out.mono B1.size,B3⟩
theorem an1{a b:Int}(z:0<=a):a-cU a b=dQ a b:=by
 have:=@Nat.and_le_left a.toNat b.toNat;unfold cU dQ dY;omega
theorem alX(g:Int)(v:Value)(l:aI)(hv:Ints w v l)(O:l.length<=1048576):
  Calls prog 68 #[aM #[g,v]] w fun e w'=>∃ad i cp,e=aQ (aS #[aD ad i cp,aG (iH g l)])/\bB 3 w w' (aD ad i cp) (gM g l)/\Below w w w':=by
 obtain⟨a,c,rfl⟩:=hv.shape;obtain⟨M,d1,B1,z1⟩:=Box2.new w g (aD a l c) 29;obtain⟨W0,c9⟩:=aW (w.alloc (.cells #[g,aD a l c] 29));rw[<-c9]at M d1 B1 z1;go_enter func68,ntmps68;go_wp2_with fail;rw[<-c9];clear c9;refine(U2 _ g _ l (hv.below B1 aU) O).mono ?_;rintro e w1 ⟨p1,i1,q1,rfl,K,f8⟩;have X1:=(Box2.mk M d1 B1 z1).after f8;clear f8 M d1 B1 z1;obtain⟨M,d1,B1,z1⟩:=X1
 cases Z:iH g l with
 |false=>
  have hx:gM g l=[]:=by unfold gM;rw[Z];rfl
  have HX:=aT hx;have HG:=aT Z;clear hx Z K;go_wp2;go_ret2;exact⟨_,_,_,by rw[HG.out];rfl,by rw[HX.out];exact bB.lit0 w1 B1.size,B1.alloc B1.size _⟩
 |true=>
  have hf:=N5 Z;obtain⟨h0,h6,_⟩:=fF hf;obtain⟨n,rfl⟩:=cN h0;have hn:n<=6:=aA;have hp:=dW n 6 hn;have r1:(2:Int)^n<=64:=by simpa using hp.1
  have r2:=hp.2;have hx:gM n l=(jS n (fC n l) (fC n l).length).1:=by unfold gM;rw[Z];rfl
  have c8:=N6 n l;have f6:=yN n l;obtain⟨L,f7⟩:=aW (fC n l);rw[<-f7]at hx c8 f6 K;obtain⟨r8,s0,e1⟩:=K.shape;simp only[Value.slice.injEq]at e1;obtain⟨rfl,rfl,rfl⟩:=e1;have g5:∀W,Calls prog 78 #[n] W fun e w'=>e=aQ (aO (jS n L 0).2)/\W=w':=fun W=>fZ n W aA;have j5:=aT g5;have HX:=aT hx;have j7:=aT c8;have j8:=aT K;have rL:=K.lt;have HG:=aT Z;clear hx c8 f7 Z hf hp g5 K;go_wp2_with (at_make;refine nP rfl _ _ _ rfl 3 underlying25 intElem n _ _ rfl rfl rfl rfl aA ?_;intro w2 a9 Z;have X2:=(Box2.mk M d1 B1 z1).grow Z bF;have q9:=Z.size;have rO:=a9.lt;have h7:=j8.out.grow Z (by intro k hk;cases hk);have r5:=hv.below X2.B aU;clear Z M d1;obtain⟨M,d1,B2,z2⟩:=X2);refine aV (j5.out _) ?_;rintro w3 rfl;have X3:=Box2.mk M d1 B2 z2;have o4:w1.heap.size<w2.heap.size:=(rO _ rfl).2;clear rO;go_wp2_with fail;go_loopw [7,8] (fun lf i wr=>∃j:Nat,j<=L/\i=aO j/\lf=aO (jS n L j).2/\bB 3 w1 wr (aD (some ⟨w1,0,none⟩) n n) (jS n L j).1/\bB 3 W0 wr (aD p1 L q1) L/\Box2 w wr n (aD a l c)/\w2.heap.size<=wr.heap.size)
   (fun _ i _=>L.length-(intOf i).toNat)
  .exact⟨0,aZ _,rfl,rfl,a9,h7,X3,aU⟩
  obtain⟨j,hj,rfl,rfl,ow,K,X,zr⟩:=hrel;obtain⟨wo,rfl⟩:∃wo:World,wo=wr:=⟨_,rfl⟩;clear a9 h7 X3;have D:=VQ n hn L j;have e5:=PE n L j;by_cases hlt:j<L
  .have b4:=j7.out _ (aX hlt);have g4:L.getD j 0=L[j]:=by rw[bR,cG hlt];rfl
   have J:jS n L (j+1)=(EP (jS n L j).1 (iP (cU L[j] (jS n L j).2)) (60/eO (cU L[j] (jS n L j).2)) (iP (cU L[j] (jS n L j).2)).length,dQ (jS n L j).2 L[j]):=by rw[jS,g4]
   obtain⟨aL,bL,h9,cL,eL,e0,I,wJ,k7⟩:=K.ints.vw;simp only[Value.slice.injEq]at eL;obtain⟨rfl,_,rfl⟩:=eL;have Y:=wJ j hlt;have c5:=fun w'=>I w' j hlt;obtain⟨s,hs⟩:=aW (L[j]);rw[<-hs]at b4 J Y;obtain⟨o,ho⟩:=aW ((jS n L j).1);obtain⟨lf,g7⟩:=aW ((jS n L j).2);rw[<-ho]at e5 ow J;rw[<-g7]at D J |-;have e7:=b4.1;have l6:=b4.2;have O:=D.1;have r0:=D.2;have hA:=fV e7 (show s<4611686018427387904 from aA) O aA;have q2:=fV O (show lf<4611686018427387904 from aA) e7 (show s<4611686018427387904 from aA);have hD:=an1 (a:=lf) (b:=s) O;have q3:=mW lf s 64 O aA;have q5:=rK lf s 64 O aA;have b6:=mW s lf 64 e7 l6;have h5:(cU s lf).toNat<2^n:=by
    have h1:=@Nat.and_le_right s.toNat lf.toNat;have h2:((2^n:Nat):Int)=(2:Int)^n:=by push_cast;rfl
    unfold cU;omega
   have b3:=ahR (cU s lf) n hn h5;obtain⟨x,hx⟩:=aW (cU s lf);rw[<-hx]at hA b6 b3 J;have b7:=U4 x aA;obtain⟨E,hE⟩:=aW (iP x);obtain⟨z,hz⟩:=aW (eO x);have b8:∀W,Calls prog 79 #[x] W fun e w'=>∃ad i cp,e=aQ (aD ad i cp)/\bB 3 W w' (aD ad i cp) E/\Below W W w':=fun W=>by rw[hE];exact I7 x W b6.1 b6.2
   have S:((iP x).length:Int)=z:=by rw[hz];exact adJ x aA
   rw[<-hE]at b3 J b7 S;rw[<-hz]at b7 J;have f2:=aT J;have j9:=aT hs;have j3:=aT b3;have k4:=aT b7;have f0:=aT b8;have k5:=aT S;have HW:=aT ow;have j6:=aT K;obtain⟨M,d1,B3,i8⟩:=X;clear b4 g4 J hs ho g7 D b6 h5 b3 b7 b8 S hE hz hx wJ I ow K;go_wp2_with fail;refine(f0.out _).mono ?_;rintro e w4 ⟨p4,i4,q4,rfl,oE,a7⟩;obtain⟨r9,s2,e4⟩:=oE.shape;simp only[Value.slice.injEq]at e4;obtain⟨rfl,rfl,rfl⟩:=e4;have X4:=(Box2.mk M d1 B3 i8).after a7;have i6:=HW.out.keep a7;have h8:=j6.out.keep a7;have z4:=a7.size;have rE:=oE.lt;clear M d1 Y c5 a7;go_wp2_with fail;go_loopw [10] (fun i wr=>∃k:Nat,k<=E/\i=aO k/\bB 3 w1 wr (aD (some ⟨w1,0,none⟩) n n) (EP o E (60/z) k)/\bB 3 wo wr (aD p4 E q4) E/\bB 3 W0 wr (aD p1 L q1) L/\Box2 w wr n (aD a l c)/\w2.heap.size<=wr.heap.size)
    (fun i _=>E.length-(intOf i).toNat)
   .exact⟨0,aZ _,rfl,i6,oE,h8,X4,aA⟩
   obtain⟨k,hk,rfl,ow,oE,K,X,zi⟩:=hrel;obtain⟨wi,rfl⟩:∃wi:World,wi=wr:=⟨_,rfl⟩;clear i6 h8 X4;obtain⟨M,d1,B4,j0⟩:=X;have R:=TV o E (60/z) k;rw[e5]at R;by_cases N:k<E
   .obtain⟨aE,bE,o6,cE,eE,l1,b9,f9,q6⟩:=oE.ints.vw;simp only[Value.slice.injEq]at eE;obtain⟨rfl,_,rfl⟩:=eE;have g0:=f9 k N;have o2:=fun w'=>b9 w' k N;have g2:=j3.out _ (aX N);have e9:=k4.out k N;obtain⟨e,he⟩:∃e:Nat,E[k]=(e:Int):=⟨E[k].toNat,aA⟩;rw[he]at g0 g2;have g8:EP o E (60/z) (k+1)=(EP o E (60/z) k).set e (60/z):=by rw[EP,show(E.getD k 0).toNat=e by rw[bR,cG N,Option.getD_some,he];omega]
    have k9:e<n:=aA;have r6:=e9.1;have r7:=e9.2;have r3:0<=60/z:=Int.ediv_nonneg aA aA;have r4:60/z<=60:=Int.ediv_le_self _ aA;have e8:=ow.stored R.symm e (60/z) ⟨aA,aA⟩;have a8:∃q,wi.cell? ⟨w1,e,none⟩=some q:=⟨_,ow.cellAt R.symm e (by rw[R];exact k9)⟩;obtain⟨q,a8⟩:=a8;have q8:=ow.frozenAt R.symm e;rw[<-g8]at e8;have k0:=aT e8;have j2:=aT oE;have a6:=aT K;have q7:(0:Int)<=(e:Int):=Int.natCast_nonneg _;have o0:(e:Int)<(n:Int):=aA;have o5:(z==0)=false:=bO;clear R f9 b9 he g8 e8 ow oE K g2 e9;have c6:=k5.out;have l9:((E.length:Int)==0)=false:=by rw[dZ];omega
    have g9:(60:Int)/(E.length:Int)=60/z:=by rw[c6]
    have f3:=aT g9;have n2:(1:Int)<=(E.length:Int):=aA;have n3:E≠[]:=by intro h;rw[h]at N;simp at N
    clear g9 c6;go_wp2;go_still_tail 9,bM;go_wp2;have F:=k0.out;rw[<-f3.out]at F;go_roundw
    .exact⟨k+1,aA,cD,by rw[<-f3.out];exact F.1.drewN 1,(j2.out.grow F.2 (fun q hq e6=>by cases hq;have:=(rE _ e6).1;omega)).drewN 1,(a6.out.grow F.2 (fun q hq e6=>by cases hq;have:=(rL _ e6).2;omega)).drewN 1,((Box2.mk M d1 B4 j0).grow F.2 bO).drewN 1,by have:=F.2.size;simp at this |-;omega⟩
    exact aY
   .have g6:k=E.length:=aA;subst g6;obtain⟨aL,bL,h9,cL,eL,e0,I,wJ,k7⟩:=K.ints.vw;simp only[Value.slice.injEq]at eL;obtain⟨rfl,_,rfl⟩:=eL;have Y:=wJ j hlt;have c5:=fun w'=>I w' j hlt;rw[<-j9.out]at Y;have k2:=aT ow;have a6:=aT K;clear ow K oE R wJ I;go_wp2;go_roundw
    .exact⟨j+1,aA,cD,by rw[f2.out],by rw[f2.out];exact k2.out,a6.out,⟨M,d1,B4,j0⟩,zi⟩
    exact aY
  .have l0:j=L.length:=aA;subst l0;obtain⟨M,d1,B3,i8⟩:=X;have HW:=aT ow;clear ow K D e5;go_wp2;go_ret2;exact⟨_,_,_,by rw[HG.out];rfl,by rw[HX.out];exact HW.out.mono B1.size,B3⟩
