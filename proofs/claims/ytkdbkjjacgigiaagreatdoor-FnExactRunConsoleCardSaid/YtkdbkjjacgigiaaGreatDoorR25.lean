/- Lemmas for CardRunConsole. No condition. -/
import Derived.Test.YtkdbkjjacgigiaaGreatDoorR16
import Derived.Test.YtkdbkjjacgigiaaGreatDoorR23
set_option maxRecDepth 100000
set_option maxHeartbeats 64000000
namespace Go.Proofs.YtkdbkjjacgigiaaGreatDoor
section
open Go.RowKit Go.G5 Go.Proofs.Tryz
variable(w:World)(n:Int)(v:Value)(l:aI)
theorem ajY{p:Prop}(h:p:=by
  have I:D6 N l=none:=by rw[HO.out];exact UN l (k+1) z _ aA
  have hN:yA N l=0:=by unfold yA;rw[I];rfl
  have hB:D5 N l=false:=by unfold D5;rw[I];rfl
  have H:=aT (And.intro hN hB);clear z I hN hB Z;go_wp2;go_ret2;exact⟨by rw[H.out.1,H.out.2];rfl,B1⟩):p:=h
theorem akR{p:Prop}(h:p:=by
  have hN:yA N l=m:=by unfold yA;rw[I];rfl
  have hB:D5 N l=true:=by unfold D5;rw[I];rfl
  have H:=aT (And.intro hN hB);clear I hN hB J;go_wp2;go_ret2;exact⟨by rw[H.out.1,H.out.2];rfl,B1⟩):p:=h
theorem aqH(hv:Ints w v l)(hl:l.length<=1048576):
  aH 204 #[aM #[n,v]] w (aS #[(yA n l),aG (D5 n l)]):=by
 have Y:=hv;obtain⟨a,c,rfl⟩:=hv.shape;have K0:=bK.new w 27 #[n,aD a l c]
 cases M:eX n l with
 |false=>
  have I:D6 n l=none:=by unfold D6;rw[M];rfl
  have hN:yA n l=0:=by unfold yA;rw[I];rfl
  have hB:D5 n l=false:=by unfold D5;rw[I];rfl
  have H:=aT (And.intro hN hB);have HF:=aT M;clear I hN hB M;go_enter func204,ntmps204;go_wp2_with fail;refine aV (pQ n l _ _ (Y.alloc _) hl) ?_;intro w1 F;rw[HF.out];go_wp2;go_ret2;exact⟨by rw[H.out.1,H.out.2];rfl,(cQ _ _).after F bF⟩
 |true=>
  obtain⟨N,rfl,h5,c5,a8,R⟩:=eJ (mZ M);have p0:=dJ N;have I:D6 N l=vD l (l.length-1):=by unfold D6;rw[M];rfl
  have O:=NG (yF M);have a6:=MT l a8 (fun s hs=>⟨O s aA,by rw[cJ l s hs];exact(R s hs).2⟩);have a9:0<l.length:=aA;have D:∀s,(h:s<l.length)->0<=l[s]/\l[s]<=1000:=fun s h=>⟨by rw[<-cJ l s h];exact O s aA,(R s h).2⟩;have HO:=aT I;have HF:=aT M;have b1:=aT a6;have b7:=aT D;clear I M O a6 R c5 p0 D;go_enter func204,ntmps204;go_wp2_with fail;refine aV (pQ N l _ _ (Y.alloc _) hl) ?_;intro w1 F;rw[HF.out];have B1:Below w w w1:=(cQ _ _).after F bF;have K1:=K0.keep F;have c7:=Y.below B1 aU;obtain⟨av,b,g2,cv,c8,_,a7,hc,hb⟩:=c7.vw;injection c8 with e1 _ e3;subst e1 e3;have HC:=aT hc;have b4:=aT a7;have G:=K1.cell;clear F K0 hc a7;go_wp2_with fail;go_loopw [4,5] (fun mv sv wr=>∃(k:Nat) (m:Int),k<l/\sv=aO ((k:Int)+1)/\mv=aO m/\vD l k=some m/\wr=w1) (fun _ sv _=>l.length+1-(intOf sv).toNat)
  .exact⟨0,0,a9,rfl,rfl,rfl,rfl⟩
  obtain⟨k,m,hk,rfl,rfl,J,rfl⟩:=hrel;have S:=b1.out k m hk J;have f6:=S.1;have f7:=S.2;by_cases hlt:k+1<l.length
  .have b0:(k:Int)+1<(l.length:Int):=aA;have b8:=HC.out (k+1) hlt;have b9:=fun W=>b4.out W (k+1) hlt;rw[show(((k+1:Nat):Int))=(k:Int)+1 from bF]at b9;have D:=b7.out (k+1) hlt;have hg:=cJ l (k+1) hlt;have z:vD l (k+1)=if l.getD (k+1) 0=0 then none else some (max m (Int.tdiv ((dG (k+1):Int)+l.getD (k+1) 0-1) (l.getD (k+1) 0))):=by rw[vD,J]
   rw[hg]at z;obtain⟨x,hx⟩:=aW (l[k+1]);rw[<-hx]at b8 D z;have f9:=D.1;have g0:=D.2;clear hx hg D J S;by_cases Z:x=0
   .rw[if_pos Z]at z;have d0:(x==0)=true:=by simp[Z]
    exact ajY
   .rw[if_neg Z]at z;have d0:(x==0)=false:=by simp[Z]
    have c9:0<x:=aA;have c6:=xC (k+1) aA;have hq:=DR ((dG (k+1):Int)+x-1) x aA c9;have K:=RQ ((k:Int)+1) wr aA aA;rw[show((k:Int)+1).toNat=k+1 from aA]at K;obtain⟨p,hp⟩:∃p:Nat,p=dG (k+1):=⟨_,rfl⟩;rw[<-hp]at K z c6 hq;obtain⟨r,hr⟩:=aW (Int.tdiv ((p:Int)+x-1) x);rw[<-hr]at z hq;have wa:IntKind.i64.wrap ((p:Int)+x)=(p:Int)+x:=dV;have wb:IntKind.i64.wrap ((p:Int)+x-1)=(p:Int)+x-1:=dV;have g4:IntKind.i64.wrap r=r:=dV;have f8:Int.tdiv ((p:Int)+x-1) x=r:=hr.symm;have b5:=aT z;have b6:=aT K;clear z K hp hr Z;go_wp2_with (go_at_call 214;refine aV b6.out ?_;rintro w2 rfl);go_roundw
    .exact⟨k+1,max m r,hlt,cD,rfl,b5.out,trivial⟩
    exact aY
  .have b0:¬(k:Int)+1<(l.length:Int):=aA;have I:D6 N l=some m:=by rw[HO.out,show l.length-1=k from aA];exact J
   exact akR
theorem aqI(hv:Ints w v l)(hl:l.length<=1048576):
  aH 248 #[aM #[n,v]] w (aS #[(yA n l),aG (D5 n l)]):=by
 have Y:=hv;obtain⟨a,c,rfl⟩:=hv.shape;have K0:=bK.new w 27 #[n,aD a l c]
 cases M:eX n l with
 |false=>
  have I:D6 n l=none:=by unfold D6;rw[M];rfl
  have hN:yA n l=0:=by unfold yA;rw[I];rfl
  have hB:D5 n l=false:=by unfold D5;rw[I];rfl
  have H:=aT (And.intro hN hB);have HF:=aT M;clear I hN hB M;go_enter func248,ntmps248;go_wp2_with fail;refine aV (pT n l _ _ (Y.alloc _) hl) ?_;intro w1 F;rw[HF.out];go_wp2;go_ret2;exact⟨by rw[H.out.1,H.out.2];rfl,(cQ _ _).after F bF⟩
 |true=>
  obtain⟨N,rfl,h5,c5,a8,R⟩:=eJ (mZ M);have p0:=dJ N;have I:D6 N l=vD l (l.length-1):=by unfold D6;rw[M];rfl
  have O:=NG (yF M);have a6:=MT l a8 (fun s hs=>⟨O s aA,by rw[cJ l s hs];exact(R s hs).2⟩);have a9:0<l.length:=aA;have D:∀s,(h:s<l.length)->0<=l[s]/\l[s]<=1000:=fun s h=>⟨by rw[<-cJ l s h];exact O s aA,(R s h).2⟩;have HO:=aT I;have HF:=aT M;have b1:=aT a6;have b7:=aT D;clear I M O a6 R c5 p0 D;go_enter func248,ntmps248;go_wp2_with fail;refine aV (pT N l _ _ (Y.alloc _) hl) ?_;intro w1 F;rw[HF.out];have B1:Below w w w1:=(cQ _ _).after F bF;have K1:=K0.keep F;have c7:=Y.below B1 aU;obtain⟨av,b,g2,cv,c8,_,a7,hc,hb⟩:=c7.vw;injection c8 with e1 _ e3;subst e1 e3;have HC:=aT hc;have b4:=aT a7;have G:=K1.cell;clear F K0 hc a7;go_wp2_with fail;go_loopw [4,5] (fun mv sv wr=>∃(k:Nat) (m:Int),k<l/\sv=aO ((k:Int)+1)/\mv=aO m/\vD l k=some m/\wr=w1) (fun _ sv _=>l.length+1-(intOf sv).toNat)
  .exact⟨0,0,a9,rfl,rfl,rfl,rfl⟩
  obtain⟨k,m,hk,rfl,rfl,J,rfl⟩:=hrel;have S:=b1.out k m hk J;have f6:=S.1;have f7:=S.2;by_cases hlt:k+1<l.length
  .have b0:(k:Int)+1<(l.length:Int):=aA;have b8:=HC.out (k+1) hlt;have b9:=fun W=>b4.out W (k+1) hlt;rw[show(((k+1:Nat):Int))=(k:Int)+1 from bF]at b9;have D:=b7.out (k+1) hlt;have hg:=cJ l (k+1) hlt;have z:vD l (k+1)=if l.getD (k+1) 0=0 then none else some (max m (Int.tdiv ((dG (k+1):Int)+l.getD (k+1) 0-1) (l.getD (k+1) 0))):=by rw[vD,J]
   rw[hg]at z;obtain⟨x,hx⟩:=aW (l[k+1]);rw[<-hx]at b8 D z;have f9:=D.1;have g0:=D.2;clear hx hg D J S;by_cases Z:x=0
   .rw[if_pos Z]at z;have d0:(x==0)=true:=by simp[Z]
    exact ajY
   .rw[if_neg Z]at z;have d0:(x==0)=false:=by simp[Z]
    have c9:0<x:=aA;have c6:=xC (k+1) aA;have hq:=DR ((dG (k+1):Int)+x-1) x aA c9;have K:=RR ((k:Int)+1) wr aA aA;rw[show((k:Int)+1).toNat=k+1 from aA]at K;obtain⟨p,hp⟩:∃p:Nat,p=dG (k+1):=⟨_,rfl⟩;rw[<-hp]at K z c6 hq;obtain⟨r,hr⟩:=aW (Int.tdiv ((p:Int)+x-1) x);rw[<-hr]at z hq;have wa:IntKind.i64.wrap ((p:Int)+x)=(p:Int)+x:=dV;have wb:IntKind.i64.wrap ((p:Int)+x-1)=(p:Int)+x-1:=dV;have g4:IntKind.i64.wrap r=r:=dV;have f8:Int.tdiv ((p:Int)+x-1) x=r:=hr.symm;have b5:=aT z;have b6:=aT K;clear z K hp hr Z;go_wp2_with (go_at_call 84;refine aV b6.out ?_;rintro w2 rfl);go_roundw
    .exact⟨k+1,max m r,hlt,cD,rfl,b5.out,trivial⟩
    exact aY
  .have b0:¬(k:Int)+1<(l.length:Int):=aA;have I:D6 N l=some m:=by rw[HO.out,show l.length-1=k from aA];exact J
   exact akR
theorem arI(hv:Ints w v l)(hl:l.length<=1048576):
  aH 205 #[aM #[n,v]] w (aS #[(sK n l),aG (yE n l)]):=by
 have f2:=hv;obtain⟨a,b,j0,c,rfl,b1,Y,hc,hb⟩:=hv.vw;have K0:=bK.new w 27 #[n,aD a l c];obtain⟨V,hV⟩:=aW (w.alloc (.cells #[n,aD a l c] 27));have B:Below w w V:=jP hV;have K1:bK V w 27 #[n,aD a l c]:=jV hV;have f3:=f2.below B aU;have e0:∀y:Ext V,y.w.cell? ⟨w,0,none⟩=some (aO n):=fun y=>y.cell (K1.cell 0);have e1:∀y:Ext V,y.w.cell? ⟨w,1,none⟩=some (aD a l c):=fun y=>y.cell (K1.cell 1);have J:∀y:Ext V,Calls prog 190 #[aM #[n,aD a l c]] y.w fun e w'=>e=aQ (aG (eX n l))/\Below y.w.heap.size y.w w':=fun y=>pQ n l _ y.w (y.ints f3) hl
 cases O:eX n l with
 |false=>
  simp only[O]at J;have R:=aT J;clear J;have hB:yE n l=false:=by unfold yE;rw[O];rfl
  have hN:sK n l=0:=by unfold sK;rw[hB];rfl
  have H:=aT (And.intro hN hB);have HF:=aT O;clear hB hN O hc Y b1;go_enter func205,ntmps205;go_wp2_with fail;rw[<-hV];clear hV K0;refine cW _ bM bM ?_
  repeat(first|go_big_quiet_skip|(go_big_quiet_want;go_big_quiet_op;first|go_big_quiet_on|(apply Exists.intro;refine⟨fun _=>?_,?_⟩;(go_at_call 190;exact dI (R.out _));go_big_quiet_on)))
  refine wpQuiet_nil ?_;rintro w3 ⟨⟨w3,I⟩,rfl⟩
  try dsimp only
  go_wp2;go_ret2;exact⟨by rw[H.out.1,H.out.2];rfl,B.after I B.size⟩
 |true=>
  simp only[O]at J;have R:=aT J;clear J;obtain⟨N,rfl,h5,b7,j4,b8⟩:=eJ (mZ O);have h9:=dJ N;have z:l.length-1<l.length:=aA;have c8:=hc (l.length-1) z;have i7:=fun W=>Y W (l.length-1) z;have b6:oY l=l[l.length-1]:=cJ l _ z;have b9:=b8 _ z;have f0:=(JN O).1;have e6:=(JN O).2;obtain⟨t,ht⟩:=aW (oY l);rw[<-b6,<-ht]at c8;rw[<-b6,<-ht]at b9;rw[<-ht]at f0;have j6:0<l.length:=aA;have j8:=b9.2;clear b6 b9;have c5:((l.length-1:Nat):Int)=2^N-1:=by have:((2^N:Nat):Int)=(2:Int)^N:=bF;omega
  have S:∀W,Ints W (aD a l c) l->Calls prog 272 #[aM #[(N:Int),aD a l c]] W fun e w'=>e=aQ (aO (2^N-1))/\Below W W w':=fun W hW=>by have:=vA (N:Int) (aD a l c) l W hW aA aA;rw[cA]at this;exact this
  obtain⟨A,hA⟩:∃A:Int,A=2^N-1:=⟨_,rfl⟩;rw[c5,<-hA]at i7;simp only[<-hA]at S;have j7:l.length<=64:=aA;have a9:∀k:Nat,k<l.length->bits .andNot .i64 A (k:Int)=((dY (2^N-1) k:Nat):Int)/\dY (2^N-1) k<64/\dG (dY (2^N-1) k)=N-dG k/\dG k<=N:=fun k hk=>by
   refine⟨?_,?_,aoV N aA k aA,TS N aA k aA⟩
   .rw[hA,<-c5,b7];exact AK (2^N-1) k aA aA
   .exact dX (zS (2^N-1) k (2^N) aA) aA
  have g2:=aT S;have a1:=aT (fun y:Ext V=>S y.w (y.ints f3));have a6:=bY hc hb B aU (l.length-1) z;have F:l[l.length-1]=t:=by rw[ht];exact(cJ l _ z).symm
  rw[F]at a6;have e2:∀y:Ext V,y.w.cell? ⟨b,j0+(l.length-1),none⟩=some (aO t):=fun y=>y.cell a6;have c6:=aT a9;have g9:=aT b8;have g8:=aT b7;have HC:=aT hc;have g7:=aT Y;have HT:=aT ht;have HH:=aT (And.intro O (And.intro f0 e6));clear O S c5 hA a9 b8 b7 hc Y c8 h9 b1 F ht e6;by_cases hz:t=0
  .have f5:(t==0)=true:=by simp[hz]
   have hB:yE N l=false:=by unfold yE;rw[HH.out.1,<-HT.out,hz];rfl
   have hN:sK N l=0:=by unfold sK;rw[hB];rfl
   have H:=aT (And.intro hN hB);clear hB hN hz;go_enter func205,ntmps205;go_wp2_with fail;rw[<-hV];clear hV K0;refine cW _ bM bM ?_
   repeat(first|go_big_quiet_skip|(go_big_quiet_want;go_big_quiet_op;first|go_big_quiet_on|(apply Exists.intro;refine⟨fun _=>?_,?_⟩;(first|(go_at_call 190;exact dI (R.out _))|(go_at_call 272;exact dI (a1.out _)));go_big_quiet_on)))
   refine wpQuiet_nil ?_;rintro w3 ⟨⟨w3,I⟩,rfl⟩
   try dsimp only
   go_wp2;go_ret2;exact⟨by rw[H.out.1,H.out.2];rfl,B.after I B.size⟩
  .have f5:(t==0)=false:=by simp[hz]
   have i6:0<t:=aA;have hB:yE N l=true:=by unfold yE;rw[HH.out.1,<-HT.out,f5];rfl
   have hN:sK N l=tD l N N l.length:=by unfold sK;rw[hB,if_pos rfl,cA];have:=aaG l N h5 HH.out.2.2 (by rw[<-HT.out];exact i6) (l.length-1);rw[show l.length-1+1=l.length from aA]at this;exact this.symm
   have d0:=ND l N h5 (N:Int) aA;have g4:=aT d0;have H:=aT (And.intro hN hB);clear hB hN hz d0;go_enter func205,ntmps205;go_wp2_with fail;rw[<-hV];clear hV K0;refine cW _ bM bM ?_
   repeat(first|go_big_quiet_skip|(go_big_quiet_want;go_big_quiet_op;first|go_big_quiet_on|(apply Exists.intro;refine⟨fun _=>?_,?_⟩;(first|(go_at_call 190;exact dI (R.out _))|(go_at_call 272;exact dI (a1.out _)));go_big_quiet_on)))
   refine wpQuiet_nil ?_;rintro w3 ⟨⟨w3,I⟩,rfl⟩
   try dsimp only
   have B3:=B.after I B.size;have K3:=K1.keep I;have G:=K3.cell;clear e0 e1 e2 K1;go_wp2_with fail;refine aV (g2.out _ (f2.below B3 aU)) ?_;intro w4 c9;have B4:=B3.after c9 B3.size;have K4:=K3.keep c9;clear G;have G:=K4.cell;have ct:=bY HC.out hb B4 aU (l.length-1) z;have F:l[l.length-1]=t:=by rw[HT.out];exact(cJ l _ z).symm
   rw[F]at ct;clear F;go_wp2_with fail;go_loopw [5,28] (fun mv iv wr=>∃(k:Nat) (m:Int),k<=l.length/\iv=aO k/\mv=aO m/\m=tD l N N k/\wr=w4) (fun _ iv _=>l.length-(intOf iv).toNat)
   .exact⟨0,N,aZ _,rfl,rfl,rfl,rfl⟩
   obtain⟨k,m,hk,rfl,rfl,hm,rfl⟩:=hrel;by_cases K:k<l.length
   .have e5:(k:Int)<(l.length:Int):=aA;have h7:=bY HC.out hb B4 aU k K;have l1:=fun W=>g7.out W k K;have Z:=g9.out k K;have e4:=cJ l k K;have D:tD l N N (k+1)=if l.getD k 0<oY l then min (tD l N N k) (Int.tdiv ((N:Int)-(dG k:Int)) (oY l-l.getD k 0)) else tD l N N k:=rfl;rw[e4,<-HT.out,<-hm]at D;obtain⟨b5,e7,e8,i1⟩:=c6.out k K;have h8:=g4.out k (by have:=g8.out;omega);rw[<-hm]at h8;obtain⟨x,hx⟩:=aW (l[k]);rw[<-hx]at h7 Z D;have M:=jF (dY (2^N-1) k) wr aA;rw[e8]at M;obtain⟨d,hd⟩:∃d:Nat,d=dY (2^N-1) k:=⟨_,rfl⟩;rw[<-hd]at b5 M;obtain⟨p,hp⟩:∃p:Nat,p=N-dG k:=⟨_,rfl⟩;have e9:(N:Int)-(dG k:Int)=(p:Int):=aA;rw[<-hp]at M;rw[e9]at D;have k8:=Z.1;have k9:=Z.2;have wa:IntKind.i64.wrap (t-x)=t-x:=dV;have h0:=aT M;have k5:p<=5:=aA;clear hx e4 hd hp e9 M e8 i1 e7 Z hm;by_cases hlt:x<t
    .rw[if_pos hlt]at D;have b3:0<t-x:=aA;have hq:=DR (p:Int) (t-x) aA b3;have l0:(t-x==0)=false:=by rw[dZ];omega
     obtain⟨r,hr⟩:=aW (Int.tdiv (p:Int) (t-x));rw[<-hr]at D hq;have l3:IntKind.i64.wrap r=r:=dV;have k7:Int.tdiv (p:Int) (t-x)=r:=hr.symm;have b4:=aT D;clear D hr;go_wp2_with (go_at_call 214;refine aV h0.out ?_;rintro w5 rfl);go_roundw
     .exact⟨k+1,min m r,aA,cD,rfl,b4.out.symm,trivial⟩
     exact aY
    .rw[if_neg hlt]at D;have b3:¬0<t-x:=aA;have b4:=aT D;clear D;go_wp2;go_roundw
     .exact⟨k+1,m,aA,cD,rfl,b4.out.symm,trivial⟩
     exact aY
   .have e5:¬(k:Int)<(l.length:Int):=aA;have b0:m=sK N l:=by rw[H.out.1,hm,show k=l.length from aA]
    have g5:=aT b0;clear b0 hm;go_wp2;go_ret2;exact⟨by rw[H.out.2,g5.out];rfl,B4⟩
theorem arJ(hv:Ints w v l)(hl:l.length<=1048576):
  aH 249 #[aM #[n,v]] w (aS #[(sK n l),aG (yE n l)]):=by
 have b1:=hv;obtain⟨a,b,g7,c,rfl,a1,M,hc,hb⟩:=hv.vw;have K0:=bK.new w 27 #[n,aD a l c]
 cases S:eX n l with
 |false=>
  have hB:yE n l=false:=by unfold yE;rw[S];rfl
  have R:sK n l=0:=by unfold sK;rw[hB];rfl
  have H:=aT (And.intro R hB);have HF:=aT S;clear hB R S hc M a1;go_enter func249,ntmps249;go_wp2_with fail;refine aV (pT n l _ _ (b1.alloc _) hl) ?_;intro w1 I;rw[HF.out];go_wp2;go_ret2;exact⟨by rw[H.out.1,H.out.2];rfl,(cQ _ _).after I bF⟩
 |true=>
  obtain⟨N,rfl,h5,c9,h0,a8⟩:=eJ (mZ S);have g2:=dJ N;have D:l.length-1<l.length:=aA;have b8:=hc (l.length-1) D;have g5:=fun W=>M W (l.length-1) D;have a7:oY l=l[l.length-1]:=cJ l _ D;have b0:=a8 _ D;have e5:=(JN S).1;have c8:=(JN S).2;obtain⟨t,ht⟩:=aW (oY l);rw[<-a7,<-ht]at b8;rw[<-a7,<-ht]at b0;rw[<-ht]at e5;have h6:0<l.length:=aA;have h7:=b0.2;clear a7 b0;have e6:((l.length-1:Nat):Int)=(l.length:Int)-1:=aA;rw[e6]at g5;have wl:IntKind.i64.wrap ((l.length:Int)-1)=(l.length:Int)-1:=dV;have e4:∀k:Nat,k<l.length->dG k<=N:=fun k hk=>TS N aA k aA;have f6:=aT e4;have f5:=aT a8;have i6:=aT c9;have HC:=aT hc;have f4:=aT M;have HT:=aT ht;have HF:=aT S;have HH:=aT (And.intro e5 c8);have Z:l[l.length-1]=t:=by rw[ht];exact(cJ l _ D).symm
  have b7:=aT Z;clear S e6 a8 c9 hc M b8 g2 a1 ht c8 e4 Z;by_cases hz:t=0
  .have e8:(t==0)=true:=by simp[hz]
   have hB:yE N l=false:=by unfold yE;rw[HF.out,<-HT.out,hz];rfl
   have R:sK N l=0:=by unfold sK;rw[hB];rfl
   have H:=aT (And.intro R hB);clear hB R hz;go_enter func249,ntmps249;go_wp2_with fail;refine aV (pT N l _ _ (b1.alloc _) hl) ?_;intro w1 I;rw[HF.out];have B1:Below w w w1:=(cQ _ _).after I bF;have K1:=K0.keep I;have G:=K1.cell;have ct:=bY HC.out hb B1 aU (l.length-1) D;rw[b7.out]at ct;go_wp2;go_ret2;exact⟨by rw[H.out.1,H.out.2];rfl,B1⟩
  .have e8:(t==0)=false:=by simp[hz]
   have j2:0<t:=aA;have hB:yE N l=true:=by unfold yE;rw[HF.out,<-HT.out,e8];rfl
   have R:sK N l=tD l N 100 l.length:=by unfold sK;rw[hB,if_pos rfl,cA]
   have c5:=ND l N h5 100 aA;have i1:=aT c5;have H:=aT (And.intro R hB);clear hB R hz c5;go_enter func249,ntmps249;go_wp2_with fail;refine aV (pT N l _ _ (b1.alloc _) hl) ?_;intro w1 I;rw[HF.out];have B1:Below w w w1:=(cQ _ _).after I bF;have K1:=K0.keep I;have G:=K1.cell;have ct:=bY HC.out hb B1 aU (l.length-1) D;rw[b7.out]at ct;clear K0 I;go_wp2_with fail;go_loopw [4,6] (fun mv iv wr=>∃(k:Nat) (m:Int),k<=l.length/\iv=aO k/\mv=aO m/\m=tD l N 100 k/\Below w1 w1 wr) (fun _ iv _=>l.length-(intOf iv).toNat)
   .exact⟨0,100,aZ _,rfl,rfl,rfl,bJ _ _⟩
   obtain⟨k,m,hk,rfl,rfl,hm,Br⟩:=hrel;obtain⟨wo,rfl⟩:∃z:World,z=wr:=⟨_,rfl⟩;have Bw:=B1.after Br B1.size;have K:=K1.keep Br;clear G ct;have G:=K.cell;by_cases J:k<l.length
   .have c7:(k:Int)<(l.length:Int):=aA;have b9:=bY HC.out hb Bw aU k J;have j6:=fun W=>f4.out W k J;have O:=f5.out k J;have c6:=cJ l k J;have F:tD l N 100 (k+1)=if l.getD k 0<oY l then min (tD l N 100 k) (Int.tdiv ((N:Int)-(dG k:Int)) (oY l-l.getD k 0)) else tD l N 100 k:=rfl;rw[c6,<-HT.out,<-hm]at F;have g4:=f6.out k J;obtain⟨x,hx⟩:=aW (l[k]);rw[<-hx]at b9 O F;have a9:=fun W=>iE k W aA;obtain⟨p,hp⟩:∃p:Nat,p=dG k:=⟨_,rfl⟩;rw[<-hp]at F g4;simp only[<-hp]at a9;have j3:=O.1;have j4:=O.2;have wa:IntKind.i64.wrap (t-x)=t-x:=dV;have wb:IntKind.i64.wrap ((N:Int)-(p:Int))=(N:Int)-(p:Int):=dV;have f7:=aT a9;clear hx c6 hp a9 O hm;by_cases hlt:x<t
    .rw[if_pos hlt]at F;have d0:0<t-x:=aA;have hq:=DR ((N:Int)-(p:Int)) (t-x) aA d0;have j5:(t-x==0)=false:=by rw[dZ];omega
     obtain⟨r,hr⟩:=aW (Int.tdiv ((N:Int)-(p:Int)) (t-x));rw[<-hr]at F hq;have j8:IntKind.i64.wrap r=r:=dV;have j1:Int.tdiv ((N:Int)-(p:Int)) (t-x)=r:=hr.symm;have a6:=aT F;have e0:∀y:Ext wo,y.w.cell? ⟨w,0,none⟩=some (aO N):=fun y=>y.cell (K.cell 0);have e1:∀y:Ext wo,y.w.cell? ⟨w,1,none⟩=some (aD a l c):=fun y=>y.cell (K.cell 1);have e2:∀y:Ext wo,y.w.cell? ⟨b,g7+k,none⟩=some (aO x):=fun y=>y.cell b9;clear F hr;go_wp2_with fail;refine cW _ bM bM ?_
     repeat(first|go_big_quiet_skip|(go_big_quiet_want;go_big_quiet_op;first|go_big_quiet_on|(apply Exists.intro;refine⟨fun _=>?_,?_⟩;(go_at_call 84;exact fA (f7.out _));go_big_quiet_on)))
     refine wpQuiet_nil ?_;rintro w5 ⟨⟨w5,b5⟩,rfl⟩
     try dsimp only
     go_wp2;go_roundw
     .exact⟨k+1,min m r,aA,cD,rfl,a6.out.symm,Br.after b5 Br.size⟩
     exact aY
    .rw[if_neg hlt]at F;have a6:=aT F;clear F;go_wp2;go_roundw
     .exact⟨k+1,m,aA,cD,rfl,a6.out.symm,Br⟩
     exact aY
   .have c7:¬(k:Int)<(l.length:Int):=aA;have Y:m=sK N l:=by rw[H.out.1,hm,show k=l.length from aA]
    have f3:=aT Y;clear Y hm;go_wp2;go_ret2;exact⟨by rw[H.out.2,f3.out];rfl,Bw⟩
theorem aeQ{w:World}{b:Nat}{F x1 x2 x3 I:aB}(J:w.cell? ⟨b,0,none⟩=some (aR F))(h1:w.cell? ⟨b,1,none⟩=some (aR x1))(h2:w.cell? ⟨b,2,none⟩=some (aR x2))(h3:w.cell? ⟨b,3,none⟩=some (aR x3))(h4:w.cell? ⟨b,4,none⟩=some (aR I)):
  ∀(j:Nat) z,[F,x1,x2,x3,I][j]?=some z->w.cell? ⟨b,0+j,none⟩=some (aR z):=by
 intro j z D
 match j,D with
 |0,D=>cases D;exact J
 |1,D=>cases D;exact h1
 |2,D=>cases D;exact h2
 |3,D=>cases D;exact h3
 |4,D=>cases D;exact h4
theorem alC(hv:Ints w v l)(hl:l.length<=1048576)(hp:lA w):
  aH 136 #[aM #[n,v]] w (aR (zR n l)):=by
 have K:=hv;obtain⟨a,c,rfl⟩:=hv.shape;have K0:=bK.new w 27 #[n,aD a l c]
 cases hf:eX n l with
 |false=>have HX:=aT (TL hf);have HF:=aT hf;clear hf;go_enter func136,ntmps136;go_wp2_with fail;refine aV (pQ n l _ _ (K.alloc _) hl) ?_;intro w1 b1;rw[HF.out];go_wp2;go_ret;exact⟨dA HX.out.symm,(cQ _ _).after b1 bF⟩
 |true=>
  obtain⟨TT,e6⟩:=aW (zR n l);have e7:TT.size<=30180:=by rw[e6,JB hf];exact Z3 n l
  have hx:dL fY (mlL n l)=TT:=by rw[e6,JB hf];exact auM n l
  unfold mlL at hx;have u2:=YD n l;have u3:=aaR n l;obtain⟨bC,h8⟩:=aW (D5 n l);obtain⟨bP,h9⟩:=aW (yE n l);rw[<-h8,<-h9]at hx;have i7:=fun(W:World) (h:Ints W (aD a l c) l)=>aqH W n _ l h hl;have j3:=fun(W:World) (h:Ints W (aD a l c) l)=>arI W n _ l h hl;simp only[<-h8]at i7;simp only[<-h9]at j3;obtain⟨M,hM⟩:=aW (lE n l);have i1:=fun(W:World) (h:Ints W (aD a l c) l)=>XJ W n _ l h hl;have i6:=fun(W:World) (h:Ints W (aD a l c) l)=>asN W n _ l h hl;simp only[<-hM]at i1 i6;rw[<-hM]at hx;have o1:=aT i1;have o2:=aT i6;have c6:=aT e6;have HX:=aT hx;have HF:=aT hf;have o3:=aT i7;have k7:=aT j3;clear hx hf i7 j3 e6 h8 h9 i1 i6 hM;go_enter func136,ntmps136;go_wp2_with fail;refine aV (pQ n l _ _ (K.alloc _) hl) ?_;intro w1 b1;rw[HF.out];have B1:Below w w w1:=(cQ _ _).after b1 bF;have K1:=K0.keep b1;clear K0 b1;have G:=K1.cell;go_wp2_with fail;refine(o1.out _ (K.below B1 aU)).mono ?_;rintro e w2 ⟨pB,iB,qB,rfl,oB,b2⟩;have q3:iB=(iX n l).length:=oB.ints.capLe.1;subst q3;have B2:=B1.after b2 B1.size;have K2:=K1.keep b2;clear G B1 K1 b2;have KB:=bK.new w2 29 #[M,.slice pB (iX n l).length qB];have hB:=oB.ints.alloc (.cells #[M,.slice pB (iX n l).length qB] 29);have b9:=B2.alloc B2.size (.cells #[M,.slice pB (iX n l).length qB] 29);have g2:=K2.alloc (.cells #[M,.slice pB (iX n l).length qB] 29);have G:=g2.cell;go_wp2_with fail;refine(o2.out _ (K.below b9 aU)).mono ?_;rintro e w3 ⟨pC,iC,qC,rfl,oC,b3⟩;have q4:iC=(jW n l).length:=oC.ints.capLe.1;subst q4;have B3:=b9.after b3 b9.size;have K3:=g2.keep b3;have KB:=KB.keep b3;have hB:=hB.keep b3;clear G B2 b9 K2 g2 b3;have KC:=bK.new w3 29 #[M,.slice pC (jW n l).length qC];have hC:=oC.ints.alloc (.cells #[M,.slice pC (jW n l).length qC] 29);have c5:=B3.alloc B3.size (.cells #[M,.slice pC (jW n l).length qC] 29);have g4:=K3.alloc (.cells #[M,.slice pC (jW n l).length qC] 29);have KB:=KB.alloc (.cells #[M,.slice pC (jW n l).length qC] 29);have hB:=hB.alloc (.cells #[M,.slice pC (jW n l).length qC] 29);have G:=g4.cell;go_wp2_with fail;refine(asY _ n _ l (K.below c5 aU) hl).mono ?_;rintro e w4 ⟨pF,iF,qF,rfl,oF,b4⟩;have q5:iF=(rD n l).length:=oF.ints.capLe.1;subst q5;have B4:=c5.after b4 c5.size;have K2:=g4.keep b4;have KB:=KB.keep b4;have KC:=KC.keep b4;have hB:=hB.keep b4;have hC:=hC.keep b4;have o9:=oF.ints;clear G B3 c5 K3 g4 b4;obtain⟨gB,j0⟩:=aW w2.heap.size;obtain⟨gC,j1⟩:=aW w3.heap.size;obtain⟨N,Z⟩:=aW w4.heap.size;rw[<-j0]at KB;rw[<-j1]at KC;have zb:w.heap.size<N:=by rw[Z];exact K2.lt
  have zB:gB<N:=by rw[Z];exact KB.lt
  have zC:gC<N:=by rw[Z];exact KC.lt
  have zc:w4.heap.size<=N:=aA;have L5:kE N (w4.alloc (.cells #[()] 143)) []:=by rw[Z];exact kE.new w4
  have B5:=B4.alloc B4.size (.cells #[()] 143);have C5:Below N w4 (w4.alloc (.cells #[()] 143)):=by rw[Z];exact cQ w4 _
  go_wp2_with fail;rw[<-Z,<-j0,<-j1];clear Z j0 j1;obtain⟨V,hV⟩:=aW (w4.alloc (.cells #[()] 143));rw[<-hV]at L5 B5 C5 |-;clear hV;have c8:=dN KB C5 zB;have c9:=dN KC C5 zC;have l6:=(hB.below C5 zc).drewN 1;have l7:=(hC.below C5 zc).drewN 1;have j2:=(hp.keep B5).keep ((bJ V.heap.size V).drewN' 1);have LV:=L5.keep ((bJ V.heap.size V).drewN' 1);have m3:=L5.lt;have w5:=c8.lt;have w7:=c9.lt;have bV:Below V V (V.drewN 1):=(bJ V.heap.size V).drewN' 1;have GB:=c8.cell;have GC:=c9.cell;have f8:=aT (lU M (iX n l) _ _ l6 j2);have f9:=aT (fun(W:World) (h:Below (V.drewN 1).heap.size (V.drewN 1) W)=>lU M (jW n l) _ W (l7.keep h) (j2.keep h));have f7:=aT (fun(W:World) (h:Below (V.drewN 1).heap.size (V.drewN 1) W)=>fH N [] [(⟨#[109,97,116,114,111,105,100]⟩:aB),(⟨#[98,97,115,101,115]⟩:aB),eG M (iX n l),(⟨#[99,105,114,99,117,105,116,115]⟩:aB),eG M (jW n l)] W.heap.size 5 5 _ ((LV.keep h).keep (cQ W (.cells #[aR (⟨#[109,97,116,114,111,105,100]⟩:aB),aR (⟨#[98,97,115,101,115]⟩:aB),aR (eG M (iX n l)),aR (⟨#[99,105,114,99,117,105,116,115]⟩:aB),aR (eG M (jW n l))] 9))) rfl (aeQ (cR _ _ _ _ _ rfl) (cR _ _ _ _ _ rfl) (cR _ _ _ _ _ rfl) (cR _ _ _ _ _ rfl) (cR _ _ _ _ _ rfl)) bF);obtain⟨F1,h6⟩:=aW (eG M (iX n l));obtain⟨F2,h7⟩:=aW (eG M (jW n l));simp only[<-h6,<-h7]at f8 f9 f7;have k6:=aT (And.intro h6 h7);clear h6 h7;have j4:=HX.out;rw[<-k6.out.1,<-k6.out.2]at j4;have HX:=aT j4;clear j4;go_region_held3 (fun w'=>(∀i,w'.cell? ⟨gB,i,none⟩=(#[aO M,.slice pB (iX n l).length qB]:Array Value)[i]?)/\(∀i,w'.cell? ⟨gC,i,none⟩=(#[aO M,.slice pC (jW n l).length qC]:Array Value)[i]?)) (go_keep)
   (first
    |(go_at_call_of 196 (Value.slice pB (iX n l).length qB);refine aV f8.out ?_;intro wa ba;obtain⟨p8,q0⟩:=jN ba V.heap.size cK;have za:=ba.size;(try simp at za))
    |(go_at_call_of 196 (Value.slice pC (jW n l).length qC);refine aV (f9.out wa ba) ?_;intro wb bb;have bb:=ba.after bb ba.size;have p6:=fun o=>(((c8.drewN 1).keep bb).alloc o).cell;have p7:=fun o=>(((c9.drewN 1).keep bb).alloc o).cell;obtain⟨l8,q1⟩:=jN bb V.heap.size cK;have q9:=bb.size;(try simp at q9))
    |(go_at_call 177;refine aV (f7.out wb bb) ?_;rintro wc ⟨L6,b6⟩;obtain⟨p9,q2⟩:=jN b6 N aU))
  have Bw:=(B5.after bV B5.size).after bb B5.size;have Cw:=(C5.after bV (cM m3)).after bb (cM m3);have zl:=(LV.keep bb).lt;have B6:=(Bw.alloc Bw.size _).after b6 aA;have C6:=(Cw.alloc (cM zl) _).after b6 aU;clear Bw Cw B5 C5 bV bb b6 l6 l7 j2 LV L5 c8 c9 GB GC p8 q0 l8 q1 p6 p7 p9 q2 f8 f9 f7 ba;obtain⟨X6,F⟩:=aW ([]++[(⟨#[109,97,116,114,111,105,100]⟩:aB),(⟨#[98,97,115,101,115]⟩:aB),F1,(⟨#[99,105,114,99,117,105,116,115]⟩:aB),F2]);rw[<-F]at L6;have u1:X6.length<=5:=by rw[F];simp
  have G:=(dN K2 C6 zb).cell;go_wp2_with fail;clear G;refine aV (lU n (rD n l) _ _ (o9.below C6 zc) (hp.keep B6)) ?_;intro q6 e0;have f4:=B6.after e0 B6.size;have k4:=C6.after e0 (cM L6.lt);have g6:=L6.keep e0;clear B6 C6 L6 e0;go_wp2_with fail;have m4:=g6.lt;refine aV (fH N X6 [(⟨#[102,108,97,116,115]⟩:aB),eG n (rD n l)] q6.heap.size 2 2 _ (g6.keep (cQ _ _)) rfl (jC (cR _ _ _ _ _ rfl) (cR _ _ _ _ _ rfl)) (by simp only[List.length_cons,List.length_nil];omega)) ?_;rintro u7 ⟨d0,l2⟩;have b8:=(f4.alloc f4.size _).after l2 aA;have f5:=(k4.alloc (cM m4) _).after l2 aU;clear f4 k4 g6;obtain⟨R,z⟩:=aW (X6++[(⟨#[102,108,97,116,115]⟩:aB),eG n (rD n l)]);rw[<-z]at d0;have r8:R.length<=7:=by rw[z,bN];exact xB
  have G:=(dN K2 f5 zb).cell;go_wp2_with fail;clear G;refine aV (o3.out _ (K.below b8 aU)) ?_;intro u8 e4;have O:=b8.after e4 b8.size;have a9:=f5.after e4 (cM d0.lt);have b0:=d0.keep e4;clear b8 f5 d0 e4
  cases bC with
  |false=>
   have G:=(dN K2 a9 zb).cell;go_wp2_with fail;clear G;refine aV (k7.out _ (K.below O aU)) ?_;intro q7 S;have D:=O.after S O.size;have a7:=a9.after S (cM b0.lt);have J:=b0.keep S;clear O a9 b0 S
   cases bP with
   |false=>
    have Y:dL fY R=TT:=by rw[z,F];exact HX.out
    have hz:=e7;rw[<-Y]at hz;have HT:=aT Y;clear Y F z;obtain⟨lv,KL,oL⟩:=J;have G:=KL.cell;go_wp2_with fail;clear G;refine aV (fG (N+1) lv R _ oL aA aA) ?_;intro wz bz;go_wp2;go_ret;exact⟨dA (HT.out.trans c6.out),D.after bz D.size⟩
   |true=>
    go_wp2_with fail;refine aV (gX N R (⟨#[112,97,99,107,115]⟩:aB) (sK n l) ⟨aA,aA⟩ _ J (hp.keep D) aA) ?_;rintro v6 ⟨k9,l4⟩;have k2:=D.after l4 aA;have s9:=a7.after l4 aU;clear D a7 J;obtain⟨g8,a1⟩:=aW (R++[(⟨#[112,97,99,107,115]⟩:aB),dB (sK n l)]);rw[<-a1]at k9;have s0:g8.length<=9:=by rw[a1,bN];exact xB
    have Y:dL fY g8=TT:=by rw[a1,z,F];exact HX.out
    have hz:=e7;rw[<-Y]at hz;have HT:=aT Y;clear Y F z a1;obtain⟨lv,KL,oL⟩:=k9;have G:=KL.cell;go_wp2_with fail;clear G;refine aV (fG (N+1) lv g8 _ oL aA aA) ?_;intro wz bz;go_wp2;go_ret;exact⟨dA (HT.out.trans c6.out),k2.after bz k2.size⟩
  |true=>
   go_wp2_with fail;refine aV (gX N R (⟨#[99,111,118,101,114,115]⟩:aB) (yA n l) ⟨aA,aA⟩ _ b0 (hp.keep O) aA) ?_;rintro q7 ⟨J,S⟩;have D:=O.after S aA;have a7:=a9.after S aU;clear O a9 b0;obtain⟨b5,I⟩:=aW (R++[(⟨#[99,111,118,101,114,115]⟩:aB),dB (yA n l)]);rw[<-I]at J;have r9:b5.length<=9:=by rw[I,bN];exact xB
   have G:=(dN K2 a7 zb).cell;go_wp2_with fail;clear G;refine aV (k7.out _ (K.below D aU)) ?_;intro u9 e5;have a8:=D.after e5 D.size;have k5:=a7.after e5 (cM J.lt);have g7:=J.keep e5;clear D a7 J e5
   cases bP with
   |false=>
    have Y:dL fY b5=TT:=by rw[I,z,F];exact HX.out
    have hz:=e7;rw[<-Y]at hz;have HT:=aT Y;clear Y F z I;obtain⟨lv,KL,oL⟩:=g7;have G:=KL.cell;go_wp2_with fail;clear G;refine aV (fG (N+1) lv b5 _ oL aA aA) ?_;intro wz bz;go_wp2;go_ret;exact⟨dA (HT.out.trans c6.out),a8.after bz a8.size⟩
   |true=>
    go_wp2_with fail;refine aV (gX N b5 (⟨#[112,97,99,107,115]⟩:aB) (sK n l) ⟨aA,aA⟩ _ g7 (hp.keep a8) aA) ?_;rintro v7 ⟨l0,l5⟩;have k3:=a8.after l5 aA;have t1:=k5.after l5 aU;clear a8 k5 g7;obtain⟨g9,a6⟩:=aW (b5++[(⟨#[112,97,99,107,115]⟩:aB),dB (sK n l)]);rw[<-a6]at l0;have s1:g9.length<=11:=by rw[a6,bN];exact xB
    have Y:dL fY g9=TT:=by rw[a6,I,z,F];exact HX.out
    have hz:=e7;rw[<-Y]at hz;have HT:=aT Y;clear Y F z I a6;obtain⟨lv,KL,oL⟩:=l0;have G:=KL.cell;go_wp2_with fail;clear G;refine aV (fG (N+1) lv g9 _ oL aA aA) ?_;intro wz bz;go_wp2;go_ret;exact⟨dA (HT.out.trans c6.out),k3.after bz k3.size⟩
theorem alU(hv:Ints w v l)(hl:l.length<=1048576)(m:Int)(u:Value)(k:aI)(hu:Ints w u k)(hk:k.length<=1048576)(hp:lA w):
  aH 140 #[aM #[n,v],aM #[m,u]] w (aR (BR n l m k)):=by
 have a7:=hv;have a6:=hu;obtain⟨a,c,rfl⟩:=hv.shape;obtain⟨a',c',rfl⟩:=hu.shape;have D:=fun(W:World) (h1:Ints W (aD a l c) l) (h2:Ints W (aD a' k c') k)=>DG W n _ l h1 hl m _ k h2 hk;have Y:=fun(W:World) (h1:Ints W (aD a l c) l) (h2:Ints W (aD a' k c') k)=>FK W n _ l h1 hl m _ k h2 hk;have Z:=fun(W:World) (h1:Ints W (aD a l c) l) (h2:Ints W (aD a' k c') k)=>apG W n _ l h1 hl m _ k h2 hk;have a1:=fun(W:World) (h1:Ints W (aD a l c) l) (h2:Ints W (aD a' k c') k)=>at8 W n _ l h1 hl m _ k h2 hk;have B0:Below w w ((w.alloc (.cells #[n,aD a l c] 27)).alloc (.cells #[m,aD a' k c'] 27)):=wU _ _ _;have F:=(bK.new w 27 #[n,aD a l c]).alloc (.cells #[m,aD a' k c'] 27);have I:bK ((w.alloc (.cells #[n,aD a l c] 27)).alloc (.cells #[m,aD a' k c'] 27)) (w.heap.size+1) 27 #[m,aD a' k c']:=by have:=bK.new (w.alloc (.cells #[n,aD a l c] 27)) 27 #[m,aD a' k c'];simpa using this
 cases hf:fP n l m k with
 |false=>have HX:=aT (TR hf);have D:=D _ (a7.below B0 aU) (a6.below B0 aU);rw[hf]at D;have f3:=aT D;clear hf D Y Z a1 F I;go_enter func140,ntmps140;go_wp2_with fail;refine aV f3.out ?_;intro w1 b1;go_wp2;go_ret;exact⟨dA HX.out.symm,B0.after b1 B0.size⟩
 |true=>
  have m5:=XP n l m k;obtain⟨TT,e0⟩:=aW (BR n l m k);have o2:TT.size<=10600:=by rw[e0,DQ hf];exact PC n l m k
  have hx:dL fY (plL n l m k)=TT:=by rw[e0,DQ hf];exact auR n l m k
  unfold plL plP at hx;simp only[hf]at D Y Z a1;obtain⟨S1,g2⟩:=aW (tK n l m k);obtain⟨S2,g4⟩:=aW (uU n l m k);obtain⟨S3,g5⟩:=aW (DI n l m k);obtain⟨N1,d0⟩:=aW (AO n l m k);obtain⟨M,hM⟩:=aW (xN n l m k);obtain⟨L,hL⟩:=aW (xM n l m k);simp only[<-g2]at D;simp only[<-g4,<-d0]at Y;simp only[<-g5]at Z;simp only[<-hM,<-hL]at a1;rw[<-g2,<-g4,<-g5,<-d0,<-hM,<-hL]at hx;rw[<-d0]at m5;have f3:=aT D;have l0:=aT Y;have l1:=aT Z;have l2:=aT a1;have HX:=aT hx;have l3:=aT e0;clear D Y Z a1 hx e0 hf g2 g4 g5 d0 hM hL;go_enter func140,ntmps140;go_wp2_with fail;refine aV (f3.out _ (a7.below B0 aU) (a6.below B0 aU)) ?_;intro w1 b1;have B1:=B0.after b1 B0.size;have F:=F.keep b1;have I:=I.keep b1;clear B0 b1;have G1:=F.cell;have G2:=I.cell;have z1:=F.lt;have z2:=I.lt;go_wp2_with fail;refine aV (l0.out _ (a7.below B1 aU) (a6.below B1 aU)) ?_;intro w2 b2;have B2:=B1.after b2 B1.size;have F:=F.keep b2;have I:=I.keep b2;clear B1 b2 G1 G2 z1 z2;have G1:=F.cell;have G2:=I.cell;have z1:=F.lt;have z2:=I.lt;go_wp2_with fail;refine aV (l1.out _ (a7.below B2 aU) (a6.below B2 aU)) ?_;intro w3 b3;have B3:=B2.after b3 B2.size;have F:=F.keep b3;have I:=I.keep b3;clear B2 b3 G1 G2 z1 z2;have G1:=F.cell;have G2:=I.cell;have z1:=F.lt;have z2:=I.lt;go_wp2_with fail;refine(l2.out _ (a7.below B3 aU) (a6.below B3 aU)).mono ?_;rintro e w4 ⟨pB,iB,qB,rfl,oB,b4⟩;have o0:iB=L.length:=oB.ints.capLe.1;subst o0;have B4:=B3.after b4 B3.size;have F:=F.keep b4;clear B3 b4 G1 G2 z1 z2 I;have KB:=bK.new w4 29 #[M,aD pB L qB];have hB:=oB.ints.alloc (.cells #[M,aD pB L qB] 29);have b0:=B4.alloc B4.size (.cells #[M,aD pB L qB] 29);have O:=F.alloc (.cells #[M,aD pB L qB] 29);have G1:=O.cell;have z1:=O.lt;go_wp2_with fail;refine cZ ?_;intro V hV;obtain⟨W5,g6⟩:=aW (w4.alloc (.cells #[M,aD pB L qB] 29));obtain⟨S,R⟩:=aW W5.heap.size;obtain⟨gB,g8⟩:=aW w4.heap.size;have e7:S=w4.heap.size+1:=by rw[R,g6];simp
  rw[<-g6]at hV KB hB b0 O;have L5:kE S V []:=by rw[hV,R];exact kE.new _
  have B5:Below w w V:=by rw[hV];exact b0.alloc b0.size _
  have C5:Below S W5 V:=by rw[hV,R];exact cQ W5 _
  rw[<-g8]at KB;have zb:w.heap.size<S:=by rw[R];exact O.lt
  have zB:gB<S:=by rw[R];exact KB.lt
  have zc:W5.heap.size<=S:=aA;have I:=O;simp only[<-e7];simp only[<-g8];clear hV g6 R e7 g8 G1 z1 F O B4 b0;refine aV (iY n S1 _ (hp.keep B5)) ?_;intro o3 c5;have e8:=B5.after c5 B5.size;have j0:=C5.after c5 (cM L5.lt);have f7:=L5.keep c5;clear B5 C5 L5 c5;go_wp2_with fail;have j9:=f7.lt;refine aV (fH S [] [(⟨#[112,97,105,114]⟩:aB),(⟨#[99,111,109,109,111,110]⟩:aB),dH n S1] o3.heap.size 3 3 _ (f7.keep (cQ _ _)) rfl (XQ _ [(⟨#[112,97,105,114]⟩:aB),(⟨#[99,111,109,109,111,110]⟩:aB),dH n S1] _) (by simp only[List.length_cons,List.length_nil];omega)) ?_;rintro r3 ⟨f8,j4⟩;have e9:=(e8.alloc e8.size _).after j4 aA;have j1:=(j0.alloc (cM j9) _).after j4 aU;clear e8 j0 f7;obtain⟨f9,J⟩:=aW ([]++[(⟨#[112,97,105,114]⟩:aB),(⟨#[99,111,109,109,111,110]⟩:aB),dH n S1]);rw[<-J]at f8;have p6:f9.length<=3:=by rw[J,bN];exact xB
  go_wp2_with fail;refine aV (gX S f9 (⟨#[98,111,117,110,100]⟩:aB) (N1) ⟨aA,aA⟩ _ f8 (hp.keep e9) aA) ?_;rintro z ⟨b8,j5⟩;have N:=e9.after j5 aA;have b5:=j1.after j5 aU;clear e9 j1 f8;obtain⟨g0,K⟩:=aW (f9++[(⟨#[98,111,117,110,100]⟩:aB),dB (N1)]);rw[<-K]at b8;have p7:g0.length<=5:=by rw[K,bN];exact xB
  have b7:=dN KB b5 zB;have j6:=(hB.below b5 zc).drewN 1;have bV:Below z z (z.drewN 1):=(bJ z.heap.size z).drewN' 1;have e5:=(hp.keep N).keep bV;have LV:=b8.keep bV;have j8:=b8.lt;have r8:=b7.lt;have GB:=b7.cell;have f4:=aT (fun(W:World) (h:Below (z.drewN 1).heap.size (z.drewN 1) W)=>iY n S2 W (e5.keep h));have f5:=aT (fun(W:World) (h:Below (z.drewN 1).heap.size (z.drewN 1) W)=>iY n S3 W (e5.keep h));have f6:=aT (fun(W:World) (h:Below (z.drewN 1).heap.size (z.drewN 1) W)=>lU M L _ W (j6.keep h) (e5.keep h));have f2:=aT (fun(W:World) (h:Below (z.drewN 1).heap.size (z.drewN 1) W)=>fH S g0 [(⟨#[97,116]⟩:aB),dH n S2,(⟨#[117,110,105,111,110]⟩:aB),dH n S3,(⟨#[98,97,115,101,115]⟩:aB),eG M L] W.heap.size 6 6 _ ((LV.keep h).keep (cQ W (.cells #[aR (⟨#[97,116]⟩:aB),aR (dH n S2),aR (⟨#[117,110,105,111,110]⟩:aB),aR (dH n S3),aR (⟨#[98,97,115,101,115]⟩:aB),aR (eG M L)] 9))) rfl (XQ W [(⟨#[97,116]⟩:aB),dH n S2,(⟨#[117,110,105,111,110]⟩:aB),dH n S3,(⟨#[98,97,115,101,115]⟩:aB),eG M L] _) (by simp only[List.length_cons,List.length_nil];omega));obtain⟨F1,c7⟩:=aW (dH n S2);obtain⟨F2,c8⟩:=aW (dH n S3);obtain⟨F3,c9⟩:=aW (eG M L);simp only[<-c7]at f4;simp only[<-c8]at f5;simp only[<-c9]at f6;simp only[<-c7,<-c8,<-c9]at f2;have g9:=HX.out;rw[<-c7,<-c8,<-c9]at g9;have HX:=aT g9;clear g9 c7 c8 c9;go_wp2_with fail;go_region_held3 (fun w'=>(∀i,w'.cell? ⟨gB,i,none⟩=(#[aO M,aD pB L qB]:Array Value)[i]?)) (go_keep)
   (first
    |(go_at_call_of 197 (Value.int .i64 S2);refine aV (f4.out _ (bJ _ _)) ?_;intro wa ba;obtain⟨m6,n0⟩:=jN ba z.heap.size cK;have za:=ba.size;(try simp at za))
    |(go_at_call_of 197 (Value.int .i64 S3);refine aV (f5.out wa ba) ?_;intro wb bb;have bb:=ba.after bb ba.size;obtain⟨m7,n1⟩:=jN bb z.heap.size cK;have o4:=bb.size;(try simp at o4))
    |(go_at_call 196;refine aV (f6.out wb bb) ?_;intro wd bd;have bd:=bb.after bd bb.size;have m4:=fun o=>(((b7.drewN 1).keep bd).alloc o).cell;obtain⟨m9,n3⟩:=jN bd z.heap.size cK;have zd:=bd.size;(try simp at zd))
    |(go_at_call 177;refine aV (f2.out wd bd) ?_;rintro wc ⟨L6,b6⟩;obtain⟨m8,n2⟩:=jN b6 S aU))
  have Bw:=(N.after bV N.size).after bd (N.after bV N.size).size;have Cw:=(b5.after bV (cM j8)).after bd (cM j8);have zl:=(LV.keep bd).lt;have B6:=(Bw.alloc Bw.size _).after b6 aA;have C6:=(Cw.alloc (cM zl) _).after b6 aU;clear Bw Cw N b5 bV bb bd b6 j6 e5 LV b8 b7 GB m6 n0 m7 n1 m9 n3 m4 m8 n2 f4 f5 f6 f2 ba;obtain⟨X6,e4⟩:=aW (g0++[(⟨#[97,116]⟩:aB),F1,(⟨#[117,110,105,111,110]⟩:aB),F2,(⟨#[98,97,115,101,115]⟩:aB),F3]);rw[<-e4]at L6;have q8:X6.length<=11:=by rw[e4,bN];simp only[List.length_cons,List.length_nil];omega
  have hT:dL fY X6=TT:=by rw[e4,K,J];exact HX.out
  have hz:=o2;rw[<-hT]at hz;have HT:=aT hT;clear hT J K e4;obtain⟨lv,KL,oL⟩:=L6;have G:=KL.cell;go_wp2_with fail;clear G;refine aV (fG (S+1) lv X6 _ oL aA aA) ?_;intro wz bz;go_wp2;go_ret;exact⟨dA (HT.out.trans l3.out),B6.after bz B6.size⟩
theorem akJ{p:Prop}(h:p:=by
  rw[D];exact(GrownIn.of_row (mK w3 ⟨w+1,0,none⟩ _) (fun k hk=>(cI hk).symm)).trans (GrownIn.of_row (mK _ ⟨w+1,1,none⟩ _) (fun k hk=>(cI hk).symm))):p:=h
theorem OH(g:Int)(v:Value)(l:aI)(hv:Ints w v l)(hm:∀x∈l,0<=x/\x<64)(hl:l.length<=64)(s:Int)(S:0<=s/\s<64):
  Calls prog 304 #[aM #[g,v],s] w fun e w'=>∃ad i c,e=aQ (aM #[g,aD ad i c])/\cY 3 w.heap.size w' (aD ad i c) (CB l s)/\Below w w w':=by
 obtain⟨a,b,j8,c,rfl,h7,b0,hc,hb⟩:=hv.vw;obtain⟨V,I⟩:=aW ((w.alloc (.cells #[g,aD a l c] 29)).alloc (.cells #[aK,()] 29));have B:Below w w V:=iJ I;have K1:bK V w 29 #[g,aD a l c]:=iQ I;have K2:bK V (w+1) 29 #[aK,()]:=jL I;have HV:=aT I;have HC:=aT hc;have f4:=aT b0;have HM:=aT hm;have z1:=K1.lt;have z2:=K2.lt;have j5:l.length<=1048576:=aA;clear I hc b0 hm;go_enter func304,ntmps304;go_wp2_with fail;rw[HV.out.symm];go_loopw [5,11] (fun ov iv wr=>∃(j:Nat) (p:Option Addr) (r m:Nat),j<=l/\iv=aO j/\ov=aD p r m/\bB 3 V wr (aD p r m) ((l.take j).map fun t=>cU s t)/\Below V V wr) (fun _ iv _=>l.length-(intOf iv).toNat)
 .exact⟨0,_,_,_,aZ _,rfl,rfl,bB.nil _ _ _,bJ _ _⟩
 obtain⟨j,p,r,m,hj,rfl,rfl,mF,K⟩:=hrel;have F:=aT mF;have zw:=K.size;clear mF;by_cases hlt:j<l
 .have b5:(j:Int)<(l.length:Int):=aA;have ck:=bY HC.out hb (B.after K B.size) aU j hlt;have ik:=fun W=>f4.out W j hlt;have hx:=HM.out _ (aX hlt);have J:(l.take (j+1)).map (fun t=>cU s t)=(l.take j).map (fun t=>cU s t)++[cU s l[j]]:=by rw[cH hlt,List.map_append];rfl
  obtain⟨x,c6⟩:=aW (l[j]);rw[<-c6]at ck hx J;have a7:=fV S.1 (show s<4611686018427387904 from aA) hx.1 (show x<4611686018427387904 from aA);have g8:=EC s x S.1 S.2;obtain⟨y,hy⟩:=aW (cU s x);rw[<-hy]at a7 g8 J;have f6:=aT J;have b4:((l.take j).map (fun t=>cU s t)).length<100:=by rw[List.length_map,List.length_take];omega
  clear c6 hy J;go_wp2_with (at_builtin;refine eF rfl _ _ _ rfl 3 underlying25 intElem V.heap.size _ ((l.take j).map fun t=>cU s t) y wr.heap.size rfl rfl (cR _ _ _ _ _ rfl) (F.out.alloc _) ⟨aA,aA⟩ aA bO ?_;intro v' w6 M g5;obtain⟨av,nv,cv,rfl⟩:=M.shape3);have b7:=F.out.lt;have B6:Below V V w6:=(K.alloc K.size (.cells #[y] 3)).grown g5 bO (fun q hq=>(b7 q hq).1);go_roundw
  .exact⟨j+1,av,nv,cv,aA,cD,rfl,by rw[f6.out];exact M,B6⟩
  exact aY
 .have b5:¬(j:Int)<(l.length:Int):=aA;have hT:CB l s=fU ((l.take j).map fun t=>cU s t):=by rw[List.take_of_length_le aA];rfl
  have b4:((l.take j).map (fun t=>cU s t)).length<=1048576:=by rw[List.length_map,List.length_take];omega
  have O:=CJ g _ _ wr F.out.ints b4;rw[<-hT]at O;have f3:=aT O;have f9:=K1.keep K;have g0:=K2.keep K;have G:=f9.cell;clear hT O;go_wp2_with fail;refine f3.out.mono ?_;rintro e w3 ⟨p3,i3,Z,rfl,o3,b3⟩;have z:=g0.keep b3;have B3:=(B.after K B.size).after b3 (B.after K B.size).size;have z3:=z.lt;have G2:=z.cell;have F2:=z.frozen;clear G;go_wp2;refine cT ?_;intro Wf D;have Kf:bK Wf (w+1) 29 #[g,aD p3 i3 Z]:=by rw[D];have:=(z.set 0 (aO g)).set 1 (aD p3 i3 Z);simpa using this
  have Bf:Below w w Wf:=by rw[D];exact bX (bX B3 cK _) cK _
  have gf:GrownIn w3 Wf (fun k=>k=w.heap.size+1):=by exact akJ
  have R:=o3.lt;have of:=o3.growIn gf (fun k hk e=>by have:=(R k hk).1;omega);have Gf:=Kf.cell;clear D G2 F2;exact bW (v:=aM #[g,aD p3 i3 Z]) (by simp[results,results304,go_sem,Gf]) rfl ⟨_,_,_,rfl,of.mono aA,Bf⟩
theorem W7(N:Nat)(v:Value)(l:aI)(hv:Ints w v l)(hf:cO (N:Int) l=true)(s:Int)(S:gL N s=true):
  Calls prog 374 #[aM #[(N:Int),v],s] w fun e w'=>∃ad i c,e=aQ (aS #[aM #[(N:Int),aD ad i c],aG true])/\cY 3 w.heap.size w' (aD ad i c) (CB l s)/\Below w w w':=by
 have hm:=fS hf;have hl:=kZ hf;obtain⟨h0,h6,g6,g7⟩:=fF hf;have hN:N<=6:=aA;have b8:=nF.1 S;have hp:=dW N 6 hN;have b6:=hp.1;simp at b6;obtain⟨a,c,rfl⟩:=hv.shape;obtain⟨V,I⟩:=aW ((w.alloc (.cells #[(N:Int),aD a l c] 29)).alloc (.cells #[aK,()] 29));have B:Below w w V:=iJ I;have K1:bK V w 29 #[(N:Int),aD a l c]:=iQ I;have K2:bK V (w+1) 29 #[aK,()]:=jL I;have a9:∀W,W=V->Calls prog 146 #[aM #[(N:Int),aD a l c]] W fun e w'=>e=aQ (aG true)/\Below W W w':=fun W h=>by rw[h];have:=eP (N:Int) l _ V (hv.below B aU);rw[hf]at this;exact this
 have Y:=fun W=>uO N s W aA;simp only[S]at Y;have b9:=fun(W:World) (h:Ints W (aD a l c) l)=>OH W (N:Int) _ l h hm hl s ⟨b8.1,aA⟩;have HV:=aT I;have f2:=aT a9;have f5:=aT Y;have f7:=aT b9;clear I a9 Y b9 hf S b8 hm g6 g7 hp b6;go_enter func374,ntmps374;go_wp2_with fail;refine aV (f2.out _ HV.out.symm) ?_;intro w1 b1;rw[HV.out.symm]at b1;have B1:=B.after b1 B.size;have f8:=K1.keep b1;have a1:=K2.keep b1;have G1:=f8.cell;go_wp2_with (go_at_call 273;refine aV (f5.out _) ?_;rintro w' rfl);refine(f7.out w1 (hv.below B1 aU)).mono ?_;rintro e w3 ⟨p3,i3,Z,rfl,o3,b3⟩;have z:=a1.keep b3;have B3:=B1.after b3 B1.size;have z2:=a1.lt;have z3:=z.lt;have G2:=z.cell;have F2:=z.frozen;clear G1;go_wp2;refine cT ?_;intro Wf D;have Kf:bK Wf (w+1) 29 #[(N:Int),aD p3 i3 Z]:=by rw[D];have:=(z.set 0 (aO (N:Int))).set 1 (aD p3 i3 Z);simpa using this
 have Bf:Below w w Wf:=by rw[D];exact bX (bX B3 cK _) cK _
 have gf:GrownIn w3 Wf (fun k=>k=w.heap.size+1):=by exact akJ
 have R:=o3.lt;have of:=o3.growIn gf (fun k hk e=>by have:=(R k hk).1;omega);have Gf:=Kf.cell;clear D G2 F2;exact bW (v:=aS #[aM #[(N:Int),aD p3 i3 Z],aG true]) (by simp[results,results374,go_sem,Gf]) rfl ⟨_,_,_,rfl,of.mono aA,Bf⟩
theorem acC(N:Nat)(v:Value)(l:aI)(hv:Ints w v l)(Y:cO (N:Int) l=true)(s:Nat)(hs:s<2^N):
  aH 353 #[aM #[(N:Int),v],(s:Int)] w (aG (BI l s)):=by
 obtain⟨h0,h6,a7,a8⟩:=fF Y;have hN:N<=6:=aA;have S:(2:Nat)^N<=2^6:=bQ bZ hN;have J:((2:Int)^N)=((2^N:Nat):Int):=bF;have M:gL N (s:Int)=true:=nF.2 ⟨aA,by rw[J];omega⟩;obtain⟨a,c,rfl⟩:=hv.shape;have F:=W7 (w.alloc (.cells #[(N:Int),aD a l c] 29)) N _ l (hv.alloc _) Y (s:Int) M;have K:=XB N aA s hs;have O:BI l s=((CB l (s:Int)).length==2^dG s):=rfl;have z:=aT (fun W=>jF s W aA);obtain⟨T,hT⟩:=aW (CB l (s:Int));rw[<-hT]at F O;obtain⟨p,hp⟩:=aW (dG s);rw[<-hp]at K O;simp only[<-hp]at z;have D:=dW p 6 aA;have a6:=D.1;have b8:=D.2;simp at a6;have I:((T.length:Int)==(2:Int)^p)=(T.length==2^p):=by have e:((2:Int)^p)=((2^p:Nat):Int):=bF;rw[e,Bool.eq_iff_iff,beq_iff_eq,beq_iff_eq];omega
 rw[<-I]at O;have HX:=aT O;have R:=aT F;have b9:p<=6:=aA;clear O F hT hp K M J Y a7 a8 I D S hs;go_enter func353,ntmps353;go_wp2_with fail;refine R.out.mono ?_;rintro e w1 ⟨p1,i1,q1,rfl,o1,b1⟩;have Z:i1=T.length:=o1.ints.capLe.1;subst Z;have B1:Below w w w1:=(cQ _ _).after b1 bF;go_wp2_with fail;go_quiet ((go_at_call 214;first|exact kH (z.out _)|exact lO (z.out _)));go_wp2;go_ret;exact⟨cP HX.out.symm,(B1.alloc B1.size _).drewN' _⟩
theorem ac1(D N s:Nat)(l:aI)(v:Value)(J:Ints w v l)(F:cO (N:Int) l=true)(M:w.cell? ⟨D,0,none⟩=some (aO (N:Int)))(d1:w.cell? ⟨D,1,none⟩=some v)(I:s<2^N):
  aH 352 #[(s:Int),aP (some ⟨D,0,none⟩)] w (aG (BI l s)):=by
 obtain⟨a,c,rfl⟩:=J.shape;have hcl:=acC w N _ l J F s I;obtain⟨b,hb⟩:=aW (BI l s);rw[<-hb]at hcl |-;have z:=aT hcl;clear hcl hb F I;go_enter func352,ntmps352;go_wp2_with fail;refine aV z.out ?_;intro w1 K;go_wp2;go_ret;exact⟨rfl,K⟩
theorem MF:∀args w,(callFunc 352 args).run prog w=.ok (.enter 352 args) w:=enters_of func352 bM rfl
theorem WZ(g:Int)(v:Value)(l:aI)(hv:Ints w v l)(M:cO g l=true):
  Calls prog 303 #[aM #[g,v]] w fun e w'=>∃ad i c,e=aQ (aS #[aM #[g,aD ad i c],aG true])/\Ints w' (aD ad i c) (sF g l)/\Below w w w':=by
 obtain⟨a,c,rfl⟩:=hv.shape;obtain⟨h0,h6,a6,a7⟩:=fF M;obtain⟨N,rfl⟩:=cN h0;have hN:N<=6:=aA;have hx:sF (N:Int) l=dE (BI l) (2^N):=by unfold sF;rw[M,cA];rfl
 have e6:∀(fn:Fn) (first cap:Array Value) (w:World),(Instr.makeFunc fn first cap).run prog w=.ok (.func fn first cap) w:=fun _ _ _ _=>rfl;obtain⟨V,K⟩:=aW ((w.alloc (.cells #[(N:Int),aD a l c] 29)).alloc (.cells #[aK,()] 29));have B:Below w w V:=iJ K;have K1:bK V w 29 #[(N:Int),aD a l c]:=iQ K;have K2:bK V (w+1) 29 #[aK,()]:=jL K;have O:∀W,W=V->Calls prog 146 #[aM #[(N:Int),aD a l c]] W fun e w'=>e=aQ (aG true)/\Below W W w':=fun W h=>by rw[h];have:=eP (N:Int) l _ V (hv.below B aU);rw[M]at this;exact this
 have F:∀W,Ints W (aD a l c) l->bK W w 29 #[(N:Int),aD a l c]->Calls prog 276 #[(N:Int),.func (.func 352) #[] #[aP (some ⟨w,0,none⟩)]] W fun e w'=>
   ∃ad i cp,e=aQ (aM #[(N:Int),aD ad i cp])/\bB 3 W w' (aD ad i cp) (dE (BI l) (2^N))/\Below W W w':=fun W h1 h2=>
  CE W N hN 352 MF w.heap.size (BI l) (fun s W' hs hB=>by
   have k:=h2.keep hB;have k0:=k.cell 0;have k1:=k.cell 1;simp at k0 k1;exact ac1 W' w.heap.size N s l _ (h1.keep hB) M k0 k1 hs)
 rw[<-hx]at F;have HV:=aT K;have a1:=aT O;have Z:=aT F;clear K O F M a6 a7 hx;go_enter func303,ntmps303;go_wp2_with fail;refine aV (a1.out _ HV.out.symm) ?_;intro w1 R;rw[HV.out.symm]at R;have Y:=B.after R B.size;have I:=K1.keep R;have J:=K2.keep R;have G1:=I.cell;go_wp2_with fail;refine(Z.out w1 (hv.below Y aU) I).mono ?_;rintro e w3 ⟨p3,i3,S,rfl,o3,b3⟩;have z:=J.keep b3;have B3:=Y.after b3 Y.size;have z2:=J.lt;have z3:=z.lt;have G2:=z.cell;have F2:=z.frozen;clear G1;go_wp2;refine cT ?_;intro Wf D;have Kf:bK Wf (w+1) 29 #[(N:Int),aD p3 i3 S]:=by rw[D];have:=(z.set 0 (aO (N:Int))).set 1 (aD p3 i3 S);simpa using this
 have Bf:Below w w Wf:=by rw[D];exact bX (bX B3 cK _) cK _
 have of:bB 3 w1 Wf (aD p3 i3 S) (sF (N:Int) l):=by rw[D];exact(o3.setBelow (by show w.heap.size+1<_;omega) _).setBelow (by show w.heap.size+1<_;omega) _
 have Gf:=Kf.cell;clear D G2 F2;exact bW (v:=aS #[aM #[(N:Int),aD p3 i3 S],aG true]) (by simp[results,results303,go_sem,Gf]) rfl ⟨_,_,_,rfl,of.ints,Bf⟩
theorem anB(g:Int)(v:Value)(l:aI)(hv:Ints w v l)(hf:cO g l=true):
  aH 222 #[aM #[g,v]] w (wM g l):=by
 obtain⟨a,c,rfl⟩:=hv.shape;have S:wM g l=vL (-1) (sF g l) (sF g l).length:=by unfold wM;rw[hf];rfl
 have I:=WZ (w.alloc (.cells #[g,aD a l c] 29)) g _ l (hv.alloc _) hf;have D:=PL g l;have F:=TM (-1) (sF g l) (fun x S=>(D x S).2) aA;obtain⟨T,hT⟩:=aW (sF g l);rw[<-hT]at S I D F;have HX:=aT S;have a8:=aT I;have a7:=aT D;have a1:=aT F;clear S I D F hf hT;go_enter func222,ntmps222;go_wp2_with fail;refine a8.out.mono ?_;rintro e w1 ⟨p1,i1,q1,rfl,o1,b1⟩;have b3:i1=T.length:=o1.capLe.1;subst b3;have B1:Below w w w1:=(cQ _ _).after b1 bF;have Z:=o1.alloc (.cells #[g,aD p1 T q1] 29);obtain⟨_,b,e8,_,b5,_,K,hc,hb⟩:=Z.vw;injection b5 with x1 _ x3;subst x1 x3;have HC:=aT hc;have a6:=aT K;clear hc K o1 Z hb;go_wp2_with fail;go_loop [5,18] (fun mv iv=>∃j:Nat,j<=T/\iv=aO j/\mv=aO (vL (-1) T j)) (fun _ iv=>T.length-(intOf iv).toNat)
 .exact⟨0,aZ _,rfl,rfl⟩
 obtain⟨j,hj,rfl,rfl⟩:=hrel;have a9:=a1.out j;by_cases hlt:j<T
 .have O:(j:Int)<(T.length:Int):=aA;have ck:=HC.out j hlt;have ik:=fun W=>a6.out W j hlt;have R:vL (-1) T (j+1)=max (vL (-1) T j) (eO T[j]):=by rw[vL,cJ T j hlt]
  have Y:=a7.out _ (aX hlt);obtain⟨y,hy⟩:=aW (T[j]);rw[<-hy]at ck R Y;have J:=aT (fun W=>vN y W Y.1 aA);have b4:=zP y aA;obtain⟨z,hz⟩:=aW (eO y);rw[<-hz]at R b4;simp only[<-hz]at J;obtain⟨M,hM⟩:=aW (vL (-1) T j);rw[<-hM]at R a9 |-;have HS:=aT R;clear hy hz hM R;go_wp2_with (go_at_call 214;refine aV (J.out _) ?_;rintro w' rfl);go_round
  .exact⟨j+1,aA,cD,by rw[HS.out];try omega⟩
  exact aY
 .have O:¬(j:Int)<(T.length:Int):=aA;have N:j=T.length:=aA;have HJ:=aT N;clear N;go_wp2;go_ret;exact⟨jK (by rw[HX.out,<-HJ.out]),B1.alloc B1.size _⟩
theorem YY(g k:Nat)(hk:k<=g)(s:Nat):k<(lP l g s).length:=by rw[EA];omega
theorem ajG{p:Prop}(h:p:=by
  have B6:Below w w w5:=Br.drew.after b5 Br.drew.size;have K6:=Kd.keep b5;have B7:Below w w (w5.setCell ⟨w1,k,none⟩ (aO (max y (T.length:Int)))):=bX B6 (by show w.heap.size<=w1.heap.size;omega) _;have K7:=K6.far (p:=⟨w1,k,none⟩) (by show w.heap.size≠w1.heap.size;omega) (aO (max y (T.length:Int)));clear G Gd c0 c6 f6 od o6 o5;go_wp2;go_roundw
  .exact⟨j+1,aA,cD,by rw[g2.out,<-HY.out];exact st.1,B7,K7⟩
  exact aY):p:=h
theorem ab7(N:Nat)(v:Value)(l:aI)(hv:Ints w v l)(R:cO (N:Int) l=true):
  Calls prog 223 #[aM #[(N:Int),v]] w fun e w'=>∃ad i c,e=aQ (aD ad i c)/\Ints w' (aD ad i c) (sE (N:Int) l)/\Below w w w':=by
 obtain⟨a,c,rfl⟩:=hv.shape;have hm:=fS R;have hl:=kZ R;obtain⟨h0,h6,e8,e9⟩:=fF R;have hN:N<=6:=aA;have hp:=dW N 6 hN;have b7:=hp.1;have h7:=hp.2;simp at b7;have hx:sE (N:Int) l=lP l N (2^N):=by unfold sE;rw[R,cA];rfl
 obtain⟨V,hV⟩:=aW (w.alloc (.cells #[(N:Int),aD a l c] 29));have B:Below w w V:=jP hV;have K1:bK V w 29 #[(N:Int),aD a l c]:=jV hV;have S:∀W,W=V->Calls prog 146 #[aM #[(N:Int),aD a l c]] W fun e w'=>e=aQ (aG true)/\Below W W w':=fun W h=>by rw[h];have:=eP (N:Int) l _ V (hv.below B aU);rw[R]at this;exact this
 have e5:=fun(W:World) (h:Ints W (aD a l c) l)=>lC (N:Int) _ l W h aA aA;obtain⟨M,hM⟩:=aW (2^N);have a1:(2:Int)^(N:Int).toNat-1=(M:Int)-1:=by rw[cA,hM];simp
 simp only[a1]at e5;have g8:M<=64:=by have h:=bQ (show 0<2 from bZ) hN;rw[hM];simpa using h
 have a8:∀s,s<M->dG s<=N:=fun s hs=>XB N aA s aA;have D:=fun(W:World) (s:Nat) (hs:s<M) (h:Ints W (aD a l c) l)=>OH W (N:Int) _ l h hm hl (s:Int) ⟨aA,aA⟩;rw[<-hM]at hx;have HV:=aT hV;have c8:=aT S;have j0:=aT e5;have d0:=aT D;have c9:=aT a8;have HX:=aT hx;clear hV S e5 D a8 hx R e8 e9 hm hp b7 h7 hM a1;go_enter func223,ntmps223;go_wp2_with fail;refine aV (c8.out _ HV.out.symm) ?_;intro w1 b1;rw[HV.out.symm]at b1;have B1:=B.after b1 B.size;have J:=K1.keep b1;have G1:=J.cell;go_wp2_with (at_make;refine nP rfl _ _ _ rfl 3 underlying25 intElem (N+1) _ _ rfl rfl cD cD aA ?_;intro w2 I hg;have B2:=B1.grown hg B1.size (fun q hq=>by cases hq);have K2:=J.grow hg bF;clear G1 hg;have G1:=K2.cell);have j5:=J.lt;refine aV (j0.out w2 (hv.below B2 aU)) ?_;intro w3 b3;have B3:=B2.after b3 B2.size;have K3:=K2.keep b3;have o3:=I.keep b3;clear G1 I;go_wp2_with fail;go_loopw [16] (fun iv wr=>∃j:Nat,j<=M/\iv=aO j/\bB 3 w1 wr (aD (some ⟨w1,0,none⟩) (N+1) (N+1)) (lP l N j)/\Below w w wr/\bK wr w 29 #[(N:Int),aD a l c]) (fun iv _=>M-(intOf iv).toNat)
 .exact⟨0,aZ _,rfl,o3,B3,K3⟩
 obtain⟨j,hj,rfl,ho,Br,Kr⟩:=hrel;clear o3;by_cases hlt:j<M
 .have a7:(j:Int)<(M:Int)-1+1:=aA;have a9:=c9.out j hlt;have z:lP l N (j+1)=(lP l N j).set (dG j) (max ((lP l N j).getD (dG j) 0) ((CB l (j:Int)).length:Int)):=rfl;have K:=OZ l N j aA;have f0:=UD l (j:Int) aA aA;have hk:=YY l N (dG j) a9 j;have F:=EA l N j;have e4:(dG j:Int)<(N:Int)+1:=aA;have Y:=aT (fun W=>jF j W aA);have D:=d0.out wr.drew j hlt (hv.below Br.drew aU);obtain⟨T,hT⟩:=aW (CB l (j:Int));rw[<-hT]at z f0 D;obtain⟨L,hL⟩:=aW (lP l N j);rw[<-hL]at z K hk F ho;obtain⟨k,O⟩:=aW (dG j);rw[<-O]at z hk a9 e4;simp only[<-O]at Y;rw[bR,cG hk,Option.getD_some]at z;have f4:=K _ (aX hk);obtain⟨y,hy⟩:=aW (L[k]);have g2:=aT z;have Z:=aT D;have c0:=ho.cellAt F.symm k hk;rw[<-hy]at c0 f4;have HY:=aT hy;clear z D hT hL O K hy;have Kd:bK wr.drew w.heap.size 29 #[(N:Int),aD a l c]:=Kr;have od:=ho.drewN 1;have j6:∀(p:Option Addr) (i q:Nat) (W:World),(Instr.field 29 (aM #[(N:Int),aD p i q]) 1).run prog W=.ok (aD p i q) W:=fun _ _ _ _=>rfl;have G:=Kr.cell;have Gd:=Kd.cell;go_wp2_with (go_at_call 214;refine aV (Y.out _) ?_;rintro w' rfl);go_region_law
   (go_simp;go_at_call 304;refine Z.out.mono ?_;rintro e w5 ⟨p5,i5,q5,rfl,o5,b5⟩;have e6:i5=T.length:=o5.ints.capLe.1;subst e6;have o6:=od.keep b5;have c6:=o6.cellAt F.symm k hk;rw[<-HY.out]at c6;have f6:=o6.frozenAt F.symm k)
  all_goals
   have st:=o6.stored F.symm k (max y (T.length:Int)) ⟨aA,aA⟩;exact ajG
 .have a7:¬(j:Int)<(M:Int)-1+1:=aA;have a6:j=M:=aA;have HJ:=aT a6;clear a6;go_wp2;go_ret;exact⟨_,_,_,rfl,by rw[HX.out,<-HJ.out];exact ho.ints,Br⟩
