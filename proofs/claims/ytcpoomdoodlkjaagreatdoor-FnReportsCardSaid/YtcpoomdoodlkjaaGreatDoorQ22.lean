/- Lemmas for CardReports. No condition. -/
import Derived.Test.YtcpoomdoodlkjaaGreatDoorQ13
import Derived.Test.YtcpoomdoodlkjaaGreatDoorQ21
set_option maxRecDepth 100000
set_option maxHeartbeats 64000000
namespace Go.Proofs.YtcpoomdoodlkjaaGreatDoor
section
open Go.RowKit Go.G5 Go.Proofs.Tryz
theorem QS(w:World)(n:Int)(v:Value)(l:List Int)(hv:aR w v l)(hl:l.length<=1048576):
  Calls prog 88 #[.agg #[n,v]] w fun e w'=>∃ad i J,e=.returned (.tuple #[.agg #[(jB n l),aI ad i J],.bool (dH n l)])/\aP 3 w w' (aI ad i J) (fL n l)/\Below w w w':=by
 obtain⟨a,c,rfl⟩:=hv.shape;go_enter func88,ntmps88;go_wp2_with fail;refine bH ?_;intro V hV;have B:Below w w V:=gD hV;have K1:aU V w 26 #[n,aI a l.length c]:=gO hV;have K2:aU V (w.heap.size+1) 31 #[aJ,()]:=gY hV;clear hV;refine(lR n l _ _ (hv.below B aO) hl).mono ?_;rintro e w1 ⟨rfl,S⟩;have a6:=K1.keep S;have M:=K2.keep S;have B1:=B.after S B.size;have G1:=a6.cell;have G2:=M.cell;have F2:=M.frozen;have z1:=a6.lt;have z2:=M.lt;have f0:=hv.below B1 aO;clear K1 K2 B S
 cases Y:dH n l with
 |false=>
  have hN:jB n l=0:=by unfold jB;rw[Y];rfl
  have hL:fL n l=[]:=by unfold fL;rw[Y];rfl
  have HN:=aN hN;have HL:=aN hL;have HF:=aN Y;clear hN hL;go_wp2;refine bG ?_;intro Wf F;have a7:aU Wf (w.heap.size+1) 31 #[aJ,()]:=by rw[F];have:=(M.set 0 (aM 0)).set 1 (aI none 0 0);simpa using this
  have Bf:Below w w Wf:=by rw[F];exact Below.setCell (Below.setCell B1 (by first|omega|(simp;done)|(simp;omega)) _) (by first|omega|(simp;done)|(simp;omega)) _
  have Gf:=a7.cell;clear F G1 G2 F2;exact bodyPost_ret (v:=.tuple #[.agg #[aJ,()],.bool false]) (by simp[results,results88,go_sem,Gf]) rfl ⟨none,0,0,by rw[HN.out,HF.out],by rw[HL.out];exact aP.nil _ _ _,Bf⟩
 |true=>
  obtain⟨N,rfl,h5,e6,g0,e7⟩:=cX (kK Y);have e8:=Nat.two_pow_pos N;have hN:jB N l=N:=by unfold jB;rw[Y];rfl
  have hL:fL N l=bW (kG l) l.length:=by unfold fL;rw[Y,if_pos rfl]
  obtain⟨av,b,h7,cv,f2,_,a9,hc,hb⟩:=f0.view prog 24 3 underlying24 aS;injection f2 with e1 _ e3;subst e1 e3;have O:l.length-1<l.length:=aK;have d8:=hc (l.length-1) O;have f3:=fun W=>a9 W (l.length-1) O;rw[show((l.length-1:Nat):Int)=(l.length:Int)-1 by omega]at f3;have wl:IntKind.i64.wrap ((l.length:Int)-1)=(l.length:Int)-1:=by rw[IntKind.wrap_i64];omega
  obtain⟨t,ht⟩:=aQ (lN l);rw[show l[l.length-1]=t by rw[ht];exact(aX l _ O).symm]at d8;have hP:∀s,(h:s<l.length)->kG l s=(decide (l[s]=t)&&decide ((bR s:Int)=t)):=fun s h=>by rw[afT,aX l s h,ht]
  obtain⟨P,a8⟩:=aQ (kG l);rw[<-a8]at hL;simp only[<-a8]at hP;have HP:=aN hP;have HN:=aN hN;have HL:=aN hL;have HF:=aN Y;have HC:=aN hc;have d5:=aN a9;have o0:=aP.lit0 (E:=3) (B:=w1.heap.size) w1 aO;clear hN hL Y e7 e6 e8 a8 hP ht hc a9;go_wp2_with fail;go_loopw [5,6] (fun out i wr=>∃(k:Nat) (ad:Option Addr) (R J:Nat),k<=l.length/\out=aI ad R J/\i=aM k/\aP 3 w1 wr (aI ad R J) (bW P k)/\Below w1 w1 wr)
   (fun _ i _=>l.length-(intOf i).toNat)
  case atStart=>exact⟨0,_,_,_,Nat.zero_le _,rfl,rfl,o0,bF _ _⟩
  case round=>
   obtain⟨k,ad,R,J,hk,rfl,rfl,ho,B⟩:=hrel;obtain⟨wo,rfl⟩:∃z:World,z=wr:=⟨_,rfl⟩;have HO:=aN ho;clear ho o0 G1 G2 F2;have G1:=(a6.keep B).cell;have zw:=B.size;by_cases hlt:k<l.length
   ·have b8:(k:Int)<(l.length:Int):=aK;have b7:=fM P k;have g8:(bW P k).length<=64:=Nat.le_trans (fJ P k) aK;have a1:=aN b7;have d9:=aW HC.out hb B aO k hlt;have h0:=fun W=>d5.out W k hlt;have D:=HP.out k hlt;have b0:=eP k wo aK;obtain⟨x,hx⟩:=aQ (l[k]);rw[<-hx]at d9 D;obtain⟨p,hp⟩:∃p:Nat,p=bR k:=⟨_,rfl⟩;rw[<-hp]at b0 D;have b5:=aN b0;clear b7 hx hp b0;have bx:(x==t)=decide (x=t):=by by_cases h:x=t<;>simp[h]
    have bp:((p:Int)==t)=decide ((p:Int)=t):=by by_cases h:(p:Int)=t<;>simp[h]
    cases h1:decide (x=t) with
    |false=>
     rw[h1]at bx D;have K:=aN D;clear D h1;go_wp2;go_roundw
     case rel=>exact⟨k+1,ad,R,J,by omega,rfl,by go_num,by rw[a1.out,K.out];exact HO.out,B⟩
     case measure=>simp[intOf];omega
    |true=>
     rw[h1]at bx D;clear h1
     cases h2:decide ((p:Int)=t) with
     |false=>
      rw[h2]at bp D;have K:=aN D;clear D h2;go_wp2_with (go_at_call 154;refine b5.out.mono ?_;rintro e w' ⟨rfl,rfl⟩);go_roundw
      case rel=>exact⟨k+1,ad,R,J,by omega,rfl,by go_num,by rw[a1.out,K.out];exact HO.out,B⟩
      case measure=>simp[intOf];omega
     |true=>
      rw[h2]at bp D;have K:=aN D;clear D h2;go_wp2_with (first
       |(go_at_call 154;refine b5.out.mono ?_;rintro e w' ⟨rfl,rfl⟩)
       |(at_builtin;refine cZ rfl _ _ _ rfl 3 underlying24 aS w1.heap.size _ _ (k:Int) wo.heap.size rfl rfl (bB wo #[k] 3 0 _ rfl) (HO.out.alloc _) ⟨by omega,by omega⟩ aK (by first|omega|(simp;done)|(simp;omega)) ?_;intro v' w6 Z e4;obtain⟨av,nv,cv,rfl⟩:=Z.shape3))
      have B6:Below w1 w1 w6:=(B.alloc B.size (.cells #[k] 3)).grown e4 aV (fun q hq=>(HO.out.lt q hq).1);go_roundw
      case rel=>exact⟨k+1,av,nv,cv,by omega,rfl,by go_num,by rw[a1.out,K.out];exact Z,B6⟩
      case measure=>simp[intOf];omega
   ·have b8:¬(k:Int)<(l.length:Int):=aK;have e5:k=l.length:=aK;subst e5;have I:=M.keep B;have y2:=I.lt;have G2:=I.cell;have F2:=I.frozen;have yy:=B1.size;go_wp2;refine bG ?_;intro Wf F;have a7:aU Wf (w.heap.size+1) 31 #[N,aI ad R J]:=by rw[F];have:=(I.set 0 (aM N)).set 1 (aI ad R J);simpa using this
    have Bf:Below w w Wf:=by rw[F];exact Below.setCell (Below.setCell (B1.after B B1.size) (by first|omega|(simp;done)|(simp;omega)) _) (by first|omega|(simp;done)|(simp;omega)) _
    have of:aP 3 w Wf (aI ad R J) (bW P l.length):=by rw[F];exact((HO.out.setBelow (by first|omega|(simp;done)|(simp;omega)) _).setBelow (by first|omega|(simp;done)|(simp;omega)) _).mono (by first|omega|(simp;done)|(simp;omega))
    have Gf:=a7.cell;clear F G1 G2 F2;exact bodyPost_ret (v:=.tuple #[.agg #[N,aI ad R J],.bool true]) (by simp[results,results88,go_sem,Gf]) rfl ⟨ad,R,J,by rw[HN.out,HF.out],by rw[HL.out];exact of,Bf⟩
theorem ahQ(w:World)(n:Int)(v:Value)(l:List Int)(hv:aR w v l)(hl:l.length<=1048576):
  Calls prog 89 #[.agg #[n,v]] w fun e w'=>∃ad i M,e=.returned (.tuple #[.agg #[(jB n l),aI ad i M],.bool (dH n l)])/\aP 3 w w' (aI ad i M) (gK n l)/\Below w w w':=by
 obtain⟨a,c,rfl⟩:=hv.shape;go_enter func89,ntmps89;go_wp2_with fail;refine bH ?_;intro V hV;have B:Below w w V:=gD hV;have K1:aU V w 26 #[n,aI a l.length c]:=gO hV;have K2:aU V (w.heap.size+1) 31 #[aJ,()]:=gY hV;clear hV;refine(lR n l _ _ (hv.below B aO) hl).mono ?_;rintro e w1 ⟨rfl,O⟩;have a8:=K1.keep O;have J:=K2.keep O;have B1:=B.after O B.size;have G1:=a8.cell;have G2:=J.cell;have F2:=J.frozen;have z1:=a8.lt;have z2:=J.lt;have h0:=hv.below B1 aO;clear K1 K2 B O
 cases S:dH n l with
 |false=>
  have hN:jB n l=0:=by unfold jB;rw[S];rfl
  have hL:gK n l=[]:=by unfold gK;rw[S];rfl
  have HN:=aN hN;have HL:=aN hL;have HF:=aN S;clear hN hL;go_wp2;refine bG ?_;intro Wf D;have a9:aU Wf (w.heap.size+1) 31 #[aJ,()]:=by rw[D];have:=(J.set 0 (aM 0)).set 1 (aI none 0 0);simpa using this
  have Bf:Below w w Wf:=by rw[D];exact Below.setCell (Below.setCell B1 (by first|omega|(simp;done)|(simp;omega)) _) (by first|omega|(simp;done)|(simp;omega)) _
  have Gf:=a9.cell;clear D G1 G2 F2;exact bodyPost_ret (v:=.tuple #[.agg #[aJ,()],.bool false]) (by simp[results,results89,go_sem,Gf]) rfl ⟨none,0,0,by rw[HN.out,HF.out],by rw[HL.out];exact aP.nil _ _ _,Bf⟩
 |true=>
  obtain⟨N,rfl,h5,g5,i7,g6⟩:=cX (kK S);have hN:jB N l=N:=by unfold jB;rw[S];rfl
  have hL:gK N l=jC (bW (tN l) l.length):=by unfold gK;rw[S,if_pos rfl]
  obtain⟨av,b,h7,cv,h6,_,d5,hc,hb⟩:=h0.view prog 24 3 underlying24 aS;injection h6 with e1 _ e3;subst e1 e3;have hP:∀s,(h:s<l.length)->tN l s=decide (l[s]<(bR s:Int)):=fun s h=>by rw[afZ S s aK,aX l s h]
  obtain⟨P,b0⟩:=aQ (tN l);rw[<-b0]at hL;simp only[<-b0]at hP;have Y:=DL (bW P l.length) (uM P l.length) (fun x hx=>(mQ P l.length x hx).1);have d8:∀x∈bW P l.length,0<=x/\x<64:=fun x hx=>by have:=mQ P l.length x hx;omega
  have Z:(bW P l.length).length<=64:=Nat.le_trans (fJ P l.length) aK;have d9:∀(W:World) (ad:Option Addr) (nn M:Nat),aR W (aI ad nn M) (bW P l.length)->Calls prog 197 #[aI ad nn M] W fun e w'=>
    ∃c5 i' c8,e=.returned (aI c5 i' c8)/\aP 3 W w' (aI c5 i' c8) (jC (bW P l.length))/\Below W W w':=fun W ad nn M hW=>by
   have:=sF (bW P l.length) _ W hW d8 Z;rw[Y]at this;exact this
  have f7:=aN d9;have HP:=aN hP;have HN:=aN hN;have HL:=aN hL;have HF:=aN S;have HC:=aN hc;have f5:=aN d5;have o0:=aP.lit0 (E:=3) (B:=w1.heap.size) w1 aO;clear hN hL S g6 g5 b0 hP hc d5 Y d8 Z d9;go_wp2_with fail;go_loopw [4,5] (fun out i wr=>∃(k:Nat) (ad:Option Addr) (nn M:Nat),k<=l.length/\out=aI ad nn M/\i=aM k/\aP 3 w1 wr (aI ad nn M) (bW P k)/\Below w1 w1 wr)
   (fun _ i _=>l.length-(intOf i).toNat)
  case atStart=>exact⟨0,_,_,_,Nat.zero_le _,rfl,rfl,o0,bF _ _⟩
  case round=>
   obtain⟨k,ad,nn,M,hk,rfl,rfl,ho,B⟩:=hrel;obtain⟨wo,rfl⟩:∃z:World,z=wr:=⟨_,rfl⟩;have HO:=aN ho;clear ho o0 G1 G2 F2;have K:=a8.keep B;have G1:=K.cell;have zw:=B.size;by_cases hlt:k<l.length
   ·have d7:(k:Int)<(l.length:Int):=aK;have d0:=fM P k;have j6:(bW P k).length<=64:=Nat.le_trans (fJ P k) aK;have b7:=aN d0;have c7:=aW HC.out hb B aO k hlt;have j8:=fun W=>f5.out W k hlt;have F:=HP.out k hlt;have b1:=fun W=>eP k W aK;obtain⟨x,hx⟩:=aQ (l[k]);rw[<-hx]at c7 F;obtain⟨p,hp⟩:∃p:Nat,p=bR k:=⟨_,rfl⟩;rw[<-hp]at F;simp only[<-hp]at b1;have b9:=aN b1;have e1:∀y:Ext wo,y.w.cell? ⟨w.heap.size,1,none⟩=some (aI a l.length c):=fun y=>y.cell (K.cell 1);have e2:∀y:Ext wo,y.w.cell? ⟨b,h7+k,none⟩=some (aM x):=fun y=>y.cell c7;clear d0 hx hp b1;by_cases d6:x<(p:Int)
    ·rw[decide_eq_true d6]at F;have a7:=aN F;clear F;go_wp2_with fail;refine bN _ aT aT ?_
     repeat(first|go_big_quiet_skip|(go_big_quiet_want;go_big_quiet_op;first|go_big_quiet_on|(apply Exists.intro;refine⟨fun _=>?_,?_⟩;(go_at_call 154;exact cR (b9.out _));go_big_quiet_on)))
     refine wpQuiet_nil ?_;rintro w5 ⟨⟨w5,b5⟩,rfl⟩
     try dsimp only
     have b8:=HO.out.keep b5;have B5:=B.after b5 B.size;have z5:=B5.size;go_wp2_with (at_builtin;refine cZ rfl _ _ _ rfl 3 underlying24 aS w1.heap.size _ _ (k:Int) w5.heap.size rfl rfl (bB w5 #[k] 3 0 _ rfl) (b8.alloc _) ⟨by omega,by omega⟩ aK (by first|omega|(simp;done)|(simp;omega)) ?_;intro v' w6 a1 g3;obtain⟨av,nv,cv,rfl⟩:=a1.shape3);have B6:Below w1 w1 w6:=(B5.alloc B5.size (.cells #[k] 3)).grown g3 aV (fun q hq=>(b8.lt q hq).1);go_roundw
     case rel=>exact⟨k+1,av,nv,cv,by omega,rfl,by go_num,by rw[b7.out,a7.out];exact a1,B6⟩
     case measure=>simp[intOf];omega
    ·rw[decide_eq_false d6]at F;have a7:=aN F;clear F;go_wp2_with fail;refine bN _ aT aT ?_
     repeat(first|go_big_quiet_skip|(go_big_quiet_want;go_big_quiet_op;first|go_big_quiet_on|(apply Exists.intro;refine⟨fun _=>?_,?_⟩;(go_at_call 154;exact cR (b9.out _));go_big_quiet_on)))
     refine wpQuiet_nil ?_;rintro w5 ⟨⟨w5,b5⟩,rfl⟩
     try dsimp only
     go_wp2;go_roundw
     case rel=>exact⟨k+1,ad,nn,M,by omega,rfl,by go_num,by rw[b7.out,a7.out];exact HO.out.keep b5,B.after b5 B.size⟩
     case measure=>simp[intOf];omega
   ·have d7:¬(k:Int)<(l.length:Int):=aK;have g4:k=l.length:=aK;subst g4;have I:=J.keep B;have y2:=I.lt;have g7:=HO.out.ints;have k2:w.heap.size<wo.heap.size:=aK;go_wp2_with fail;have G2:=I.cell;have F2:=I.frozen;go_region_held3 (fun w'=>(∀i,w'.cell? ⟨w.heap.size,i,none⟩=(#[aM N,aI a l.length c]:Array Value)[i]?)) (go_keep)
     (first
      |(go_at_call 197;refine(f7.out _ _ _ _ (g7.below (B:=wo.heap.size) (by repeat(first|exact Below.refl _ _|(with_reducible refine Below.setCell ?_ (by first|omega|(simp;done)|(simp;omega)) _)|(with_reducible refine Below.alloc ?_ (by first|omega|(simp;done)|(simp;omega)) _)|(with_reducible refine Below.drewN' ?_ _)|(with_reducible refine Below.drew ?_)|(with_reducible assumption)|refine Below.trans ?_ (Below.mono (by assumption) (by first|omega|(simp;done)|(simp;omega))))) aO)).mono ?_;rintro e w3 ⟨p3,i3,q3,rfl,o3,R⟩;obtain⟨g1,g2⟩:=iK R wo.heap.size (by first|omega|(simp;done)|(simp;omega));have z3:=R.size;(try simp at z3)))
    go_wp2;refine bG ?_;intro Wf D;have a9:aU Wf (w.heap.size+1) 31 #[N,aI p3 i3 q3]:=by rw[D];have:=(((I.drewN 1).keep R).set 0 (aM N)).set 1 (aI p3 i3 q3);simpa using this
    have yy:=B1.size;have Bf:Below w w Wf:=by rw[D];exact Below.setCell (Below.setCell (((B1.after B B1.size).drewN' 1).after R (by first|omega|(simp;done)|(simp;omega))) (by first|omega|(simp;done)|(simp;omega)) _) (by first|omega|(simp;done)|(simp;omega)) _
    have of:aP 3 w Wf (aI p3 i3 q3) (jC (bW P l.length)):=by rw[D];exact((o3.setBelow (by first|omega|(simp;done)|(simp;omega)) _).setBelow (by first|omega|(simp;done)|(simp;omega)) _).mono (by first|omega|(simp;done)|(simp;omega))
    have Gf:=a9.cell;clear D G1 G2 F2 g1 g2;exact bodyPost_ret (v:=.tuple #[.agg #[N,aI p3 i3 q3],.bool true]) (by simp[results,results89,go_sem,Gf]) rfl ⟨p3,i3,q3,by rw[HN.out,HF.out],by rw[HL.out];exact of,Bf⟩
def bn:Value->Nat
 |.bool true=>1
 |_=>0
theorem abD(l:List Int)(t k:Nat)(h1:t<l.length)(h2:bU t k<l.length):(l[bU t k]==l[t])=(eA l t k==0):=by
 unfold eA;rw[aX l _ h1,aX l _ h2];by_cases h:l[bU t k]=l[t]
 ·rw[h];simp
 ·rw[beq_eq_false_iff_ne.2 h,beq_eq_false_iff_ne.2 (show l[bU t k]-l[t]≠0 by omega)]
theorem P9(w:World)(N:Nat)(v:Value)(l:List Int)(hv:aR w v l)(h5:N<=5)(a6:l.length=2^N)(s:Nat)(hs:s<2^N):
  Calls prog 198 #[.agg #[(N:Int),v],s] w fun e w'=>∃t:Nat,e=.returned t/\decide (t=s)=lK l N s/\Below w w w':=by
 have g5:=hv;obtain⟨a,b,g6,c,rfl,d0,c9,hc,hb⟩:=hv.view prog 24 3 underlying24 aS;have K0:=aU.new w 26 #[(N:Int),aI a l.length c];have g3:(2:Nat)^N<=32:=Nat.pow_le_pow_right (n:=2) aY h5;have HC:=aN hc;have b5:=aN c9;have e4:=aN a6;clear hc c9 d0 a6;go_enter func198,ntmps198;go_wp2_with fail;go_loopw [1,5] (fun sv av wr=>∃(t:Nat) (O:Bool),sv=aM t/\av=.bool O/\t<2^N/\(t=s∨(s<t/\lK l N s=false))/\(O=false->lK l N t=true)/\Below w w wr/\aU wr w 26 #[(N:Int),aI a l.length c]) (fun sv av _=>(2^N-(intOf sv).toNat)*2+bn av)
 case atStart=>exact⟨s,true,rfl,rfl,hs,.inl rfl,(fun h=>by cases h),bF _ _,K0⟩
 case round=>
  obtain⟨t,O,rfl,rfl,e8,d5,b3,B,K⟩:=hrel;obtain⟨wo,rfl⟩:∃wo:World,wo=wr:=⟨_,rfl⟩;have b1:=aN d5;clear K0 d5
  cases O with
  |false=>
   have c7:=b3 rfl;have a9:decide (t=s)=lK l N s:=by
    rcases b1.out with h|⟨h1,h2⟩
    ·subst h;rw[c7];simp
    ·rw[h2];exact decide_eq_false aK
   have d9:=aN a9;clear c7 a9 b3;go_wp2;go_ret;exact⟨t,rfl,d9.out,B⟩
  |true=>
   clear b3;have G:=K.cell;go_wp2_with fail;go_loopw [1,5,6] (fun sv av ev wr=>∃(D e:Nat) (O:Bool),sv=aM D/\av=.bool O/\ev=aM e/\e<=N/\D<2^N/\((O=false/\D=t/\lK l e t=true)∨(O=true/\t<D/\lK l N t=false))/\Below w w wr/\aU wr w 26 #[(N:Int),aI a l.length c]) (fun _ _ ev _=>N-(intOf ev).toNat)
   case atStart=>exact⟨t,0,false,rfl,rfl,rfl,Nat.zero_le _,e8,.inl ⟨rfl,rfl,rfl⟩,B,K⟩
   case round=>
    obtain⟨D,e,O,rfl,rfl,rfl,he,M,R,B2,K2⟩:=hrel;obtain⟨wi,rfl⟩:∃wo:World,wo=wr:=⟨_,rfl⟩;have J:=aN R;clear R G K;have G:=K2.cell;by_cases b9:e<N
    ·have c5:(e:Int)<(N:Int):=aK
     have e6:=jO (D:Int) e aK aK;have S:(dO (D:Int) e==0)=!dC D e:=by
      have h:=uC D e;have h2:dO (D:Int) e=0∨dO (D:Int) e=1:=by unfold dO;omega
      rcases h2 with h2|h2
      ·rw[h2]at h ⊢;rw[<-h];rfl
      ·rw[h2]at h ⊢;rw[<-h];rfl
     obtain⟨y,hy⟩:=aQ (dO (D:Int) e);rw[<-hy]at e6 S;have a6:=e4.out;obtain⟨t2,a1⟩:=aQ (bU D e);have e7:t2<2^N:=by rw[a1];exact eQ D e N M b9
     have g0:bits .or .i64 (D:Int) (2^e)=((t2:Nat):Int):=by rw[a1];exact fZ D e aK aK
     have c1:=aW HC.out hb B2 aO D aK;have c2:=aW HC.out hb B2 aO t2 aK;have i1:=fun W=>b5.out W D aK;have i2:=fun W=>b5.out W t2 aK;have F:(l[t2]'aK==l[D]'aK)=(eA l D e==0):=by subst a1;exact abD l D e aK aK
     have c8:dC D e=false->D<t2:=fun h=>by rw[a1];exact acR D e h
     obtain⟨x,hx⟩:=aQ (l[D]);obtain⟨z,hz⟩:=aQ (l[t2]);rw[<-hx]at c1 F;rw[<-hz]at c2 F;have Y:=cO e 6 aK;have g1:(2:Int)^e<=64:=by simpa using Y.1
     have g2:=Y.2;have g7:IntKind.i64.wrap ((2:Int)^e)=2^e:=by rw[IntKind.wrap_i64];omega
     have f9:(0:Int)<=(e:Int):=Int.natCast_nonneg _;have Z:lK l (e+1) t=(lK l e t&&(dC t e||!(eA l t e==0))):=rfl;have b6:=aN Z;have e0:=aN c8;clear hy a1 hx hz Y Z c8 a6
     cases h1:dC D e with
     |true=>
      have e9:(y==0)=false:=by rw[S,h1];rfl
      have H1:=aN h1;clear h1 S F;go_wp2_with fail;go_quiet (fail);go_wp2;go_roundw
      case rel=>
       refine⟨D,e+1,O,rfl,rfl,by go_num,by omega,M,?_,B2.drewN' _,K2.drewN _⟩;rcases J.out with⟨q1,I,q3⟩|q
       ·exact .inl ⟨q1,I,by rw[b6.out,q3,<-I,H1.out];rfl⟩
       ·exact .inr q
      case measure=>simp[intOf];omega
     |false=>
      have e9:(y==0)=true:=by rw[S,h1];rfl
      have H1:=aN h1;clear h1 S
      cases h2:(z==x) with
      |false=>
       rw[h2]at F;have b0:=aN F;clear F;go_wp2_with fail;go_quiet (fail);go_wp2;go_roundw
       case rel=>
        refine⟨D,e+1,O,rfl,rfl,by go_num,by omega,M,?_,B2.drewN' _,K2.drewN _⟩;rcases J.out with⟨q1,I,q3⟩|q
        ·exact .inl ⟨q1,I,by rw[b6.out,q3,<-I,<-b0.out];simp⟩
        ·exact .inr q
       case measure=>simp[intOf];omega
      |true=>
       rw[h2]at F;have b0:=aN F;clear F;go_wp2_with fail;go_quiet (fail);go_wp2;go_roundw
       case rel=>
        refine⟨t2,e+1,true,rfl,rfl,by go_num,by omega,e7,.inr ⟨rfl,?_,?_⟩,B2.drewN' _,K2.drewN _⟩
        ·have:=e0.out H1.out;rcases J.out with⟨_,I,_⟩|⟨_,I,_⟩<;>omega
        ·rcases J.out with⟨_,I,_⟩|⟨_,_,q3⟩
         ·exact ad0 b9 (by rw[<-I];exact H1.out) (by rw[<-I];simpa using b0.out.symm)
         ·exact q3
       case measure=>simp[intOf];omega
    ·have c5:¬(e:Int)<(N:Int):=aK;have c6:e=N:=aK;subst c6;go_wp2;go_roundw
     case rel=>
      refine⟨D,O,rfl,rfl,M,?_,?_,B2,K2⟩
      ·rcases J.out with⟨_,I,_⟩|⟨_,I,q3⟩
       ·rw[I];exact b1.out
       ·right;rcases b1.out with h|⟨h,h'⟩
        ·subst h;exact⟨I,q3⟩
        ·exact⟨by omega,h'⟩
      ·intro h;rcases J.out with⟨_,I,q3⟩|⟨q1,_,_⟩
       ·rw[I];exact q3
       ·rw[q1]at h;cases h
     case measure=>
      rcases J.out with⟨q1,I,_⟩|⟨q1,I,_⟩
      ·subst q1 I;simp[intOf,bn]
      ·subst q1;simp[intOf,bn];omega
theorem ahV(w:World)(n:Int)(v:Value)(l:List Int)(hv:aR w v l)(hl:l.length<=1048576):
  Calls prog 90 #[.agg #[n,v]] w fun e w'=>∃ad i cp,e=.returned (.tuple #[aI ad i cp,.bool (eU n l)])/\aP 3 w w' (aI ad i cp) (mM n l)/\Below w w w':=by
 have J:=hv;obtain⟨a,c,rfl⟩:=hv.shape;have K0:=(aU.new w 26 #[n,aI a l.length c]).alloc (.cells #[] 3);have B0:Below w w ((w.alloc (.cells #[n,aI a l.length c] 26)).alloc (.cells #[] 3)):=wM _ _ _;have o0:aP 3 (w.heap.size+1) ((w.alloc (.cells #[n,aI a l.length c] 26)).alloc (.cells #[] 3)) (aI (some ⟨w.heap.size+1,0,none⟩) 0 0) []:=by have:=aP.lit0 (E:=3) (B:=w.heap.size+1) (w.alloc (.cells #[n,aI a l.length c] 26)) (by simp);simpa using this
 cases S:eU n l with
 |false=>
  have hL:mM n l=[]:=by unfold mM;rw[S];rfl
  have HL:=aN hL;have HF:=aN S;clear hL S;go_enter func90,ntmps90;go_wp2_with fail;go_loopw [4,5] (fun ov iv wr=>∃(p:Option Addr) (i q:Nat),ov=aI p i q/\iv=aM 0/\aP 3 (w.heap.size+1) wr (aI p i q) []/\Below w w wr/\aU wr w 26 #[n,aI a l.length c]) (fun _ _ _=>0)
  case atStart=>exact⟨_,_,_,rfl,rfl,o0,B0,K0⟩
  case round=>obtain⟨p,i,q,rfl,rfl,ho,B,K⟩:=hrel;have G:=K.cell;go_wp2_with fail;refine(mV n l _ _ (J.below B aO) hl).mono ?_;rintro e w1 ⟨rfl,D⟩;rw[HF.out];have M:=B.after D B.size;have K1:=K.keep D;have O:=ho.keep D;clear G;have G:=K1.cell;go_wp2_with fail;refine(mV n l _ _ (J.below M aO) hl).mono ?_;rintro e w2 ⟨rfl,I⟩;rw[HF.out];go_wp2;go_ret2;exact⟨p,i,q,rfl,by rw[HL.out];exact(O.keep I).mono aK,M.after I M.size⟩
 |true=>
  obtain⟨N,rfl,h5,b4,e5,d7⟩:=cX (pH S);have hL:mM N l=bW (lK l N) l.length:=by unfold mM;rw[S];rfl
  have hcl:=fun(W:World) (h:aR W (aI a l.length c) l) (s:Nat) (hs:s<l.length)=>P9 W N _ l h h5 b4 s aK;obtain⟨P,hP⟩:=aQ (lK l N);rw[<-hP]at hL;simp only[<-hP]at hcl;have HL:=aN hL;have HF:=aN S;have c5:=aN hcl;clear hL S hcl hP d7 b4;go_enter func90,ntmps90;go_wp2_with fail;go_loopw [4,5] (fun ov iv wr=>∃(k:Nat) (p:Option Addr) (i q:Nat),k<=l.length/\iv=aM k/\ov=aI p i q/\aP 3 (w.heap.size+1) wr (aI p i q) (bW P k)/\Below w w wr/\aU wr w 26 #[N,aI a l.length c]) (fun _ iv _=>l.length-(intOf iv).toNat)
  case atStart=>exact⟨0,_,_,_,Nat.zero_le _,rfl,rfl,o0,B0,K0⟩
  case round=>
   obtain⟨k,p,i,q,hk,rfl,rfl,ho,B,K⟩:=hrel;obtain⟨wo,rfl⟩:∃wo:World,wo=wr:=⟨_,rfl⟩;clear o0 B0 K0;have G:=K.cell;go_wp2_with fail;refine(mV N l _ _ (J.below B aO) hl).mono ?_;rintro e w1 ⟨rfl,D⟩;rw[HF.out];have M:=B.after D B.size;have K1:=K.keep D;have O:=ho.keep D;clear G B K ho D;have G:=K1.cell;by_cases d6:k<l.length
   ·have b0:(k:Int)<(l.length:Int):=aK
    have a8:=fM P k;have f4:(bW P k).length<=64:=Nat.le_trans (fJ P k) aK;have a6:=aN a8;clear a8;have c6:=aN (c5.out w1 (J.below M aO) k d6);go_wp2_with fail;refine c6.out.mono ?_;rintro e w3 ⟨t,rfl,Z,b3⟩;have Y:=O.keep b3;have B3:=M.after b3 M.size;have K3:=K1.keep b3;have rr:=Y.lt;have a9:((t:Int)==(k:Int))=P k:=by
     rw[<-Z];by_cases h:t=k
     ·subst h;simp
     ·rw[decide_eq_false h,beq_eq_false_iff_ne];omega
    cases F:P k with
    |false=>
     rw[F]at a9;have R:=aN F;clear F Z;go_wp2;go_roundw
     case rel=>exact⟨k+1,p,i,q,by omega,by go_num,rfl,by rw[a6.out,R.out];exact Y,B3,K3⟩
     case measure=>simp[intOf];omega
    |true=>
     rw[F]at a9;have R:=aN F;clear F Z;go_wp2_with (at_builtin;refine cZ rfl _ _ _ rfl 3 underlying24 aS (w.heap.size+1) (aI p i q) (bW P k) (k:Int) _ rfl rfl (bB _ _ _ _ _ rfl) (Y.alloc _) ⟨by omega,by omega⟩ aK (by have:=K3.lt;simp;omega) ?_;intro v7 w7 o7 g7;obtain⟨p7,i7,q7,rfl⟩:=o7.shape3);have B7:=(B3.alloc B3.size (.cells #[(k:Int)] 3)).grown g7 (by have:=B3.size;simp;omega) (fun z hz=>by have:=(rr _ hz).1;omega);have K7:=(K3.alloc (.cells #[(k:Int)] 3)).grow g7 (fun e=>by have:=(rr _ e).1;omega);go_roundw
     case rel=>exact⟨k+1,p7,i7,q7,by omega,by go_num,rfl,by rw[a6.out,R.out];exact o7,B7,K7⟩
     case measure=>simp[intOf];omega
   ·have b0:¬(k:Int)<(l.length:Int):=aK;have b1:k=l.length:=aK;subst b1;go_wp2_with fail;refine(mV N l _ _ (J.below M aO) hl).mono ?_;rintro e w2 ⟨rfl,I⟩;rw[HF.out];go_wp2;go_ret2;exact⟨p,i,q,rfl,by rw[HL.out];exact(O.keep I).mono aK,M.after I M.size⟩
def KD(l k:List Int)(s t:Nat):Bool:=(cV t s==0)&&(eO l t&&eO k (cV s t))
def DP(l k:List Int)(s m:Nat):Bool:=cJ (fun t=>!KD l k s t) m
def kU(l k:List Int)(s:Nat):Bool:=!DP l k s (s+1)
theorem FS(l k:List Int)(s m:Nat):DP l k s (m+1)=(DP l k s m&&!KD l k s m):=rfl
theorem XR{l k:List Int}{s t:Nat}(h:t<=s)(z:KD l k s t=true):kU l k s=true:=by
 unfold kU DP;rw[dG (k:=t) aK (by rw[z];rfl)];rfl
def qP(P:Nat->Bool):Nat->Nat
 |0=>0
 |t+1=>if decide (bR (qP P t)<bR t)&&P t then t else qP P t
theorem OG(P:Nat->Bool)(t:Nat):qP P (t+1)=if decide (bR (qP P t)<bR t)&&P t then t else qP P t:=rfl
theorem MY(P:Nat->Bool):∀t,0<t->qP P t<t:=by
 intro t
 induction t with
 |zero=>intro h;omega
 |succ t ih=>
  intro _;rw[qP]
  split
  ·omega
  ·rcases Nat.eq_zero_or_pos t with rfl|h
   ·simp[qP]
   ·have:=ih h;omega
theorem agN(P:Nat->Bool)(t:Nat):qP P t<=t:=by
 rcases Nat.eq_zero_or_pos t with rfl|h
 ·exact aO
 ·exact Nat.le_of_lt (MY P t h)
theorem aeH(P:Nat->Bool):qP P 1=0:=by have:=MY P 1 aK;omega
def xV(n:Int)(l:List Int)(m:Int)(k:List Int):Int:=if fA n l m k then (qP (kU l k) l.length:Int) else 0
def ajF(l k:List Int)(s:Nat):Bool:=kG l s&&kG k s
def tM(n:Int)(l:List Int)(m:Int)(k:List Int):Int:=if fA n l m k then n else 0
def tL(n:Int)(l:List Int)(m:Int)(k:List Int):List Int:=if fA n l m k then bW (ajF l k) l.length else []
theorem aeW:∀s:Nat,s<32->∀t:Nat,t<32->((t &&& s==t)=(cV t s==0)):=by decide +kernel
theorem ae9:∀s:Nat,s<32->∀t:Nat,t<32->(t &&& s=t->cV s t=s-t/\t<=s):=by decide +kernel
theorem GD{n m:Int}{l k:List Int}(h:fA n l m k=true):dH n l=true/\dH m k=true:=by
 unfold fA at h;simp only[Bool.and_eq_true]at h;exact h.1
theorem BD(P:Nat->Bool)(k s:Nat):(s:Int)∈bW P k↔(s<k/\P s=true):=by
 unfold bW;constructor
 ·intro h;obtain⟨t,ht,z⟩:=List.mem_map.1 h;have:=Int.ofNat.inj z;subst this;have h1:=List.mem_filter.1 ht;exact⟨List.mem_range.1 h1.1,h1.2⟩
 ·rintro⟨h1,h2⟩;exact List.mem_map.2 ⟨s,List.mem_filter.2 ⟨List.mem_range.2 h1,h2⟩,rfl⟩
theorem A8(P:Nat->Bool)(k s:Nat):fS (bW P k) (s:Int)=(decide (s<k)&&P s):=by
 unfold fS;by_cases h1:s<k
 ·rw[decide_eq_true h1,Bool.true_and]
  cases h2:P s with
  |true=>exact decide_eq_true ((BD P k s).2 ⟨h1,h2⟩)
  |false=>exact decide_eq_false (fun h=>by have:=((BD P k s).1 h).2;rw[h2]at this;cases this)
 ·rw[decide_eq_false h1,Bool.false_and];exact decide_eq_false (fun h=>h1 ((BD P k s).1 h).1)
theorem PH(P Q:Nat->Bool)(k:Nat):(bW P k).filter (fS (bW Q k))=bW (fun s=>P s&&Q s) k:=by
 have e:bW P k=((List.range k).filter P).map Int.ofNat:=rfl;rw[e,List.filter_map,List.filter_filter];show _=((List.range k).filter _).map Int.ofNat
 congr 1
 refine List.filter_congr (fun s D=>?_);have z:=List.mem_range.1 D;have h1:=A8 Q k s;rw[decide_eq_true z,Bool.true_and]at h1;show(fS (bW Q k) (s:Int)&&P s)=(P s&&Q s);rw[h1,Bool.and_comm]
theorem WH(p:Int->Bool)(L:List Int)(k:Nat)(h:k<L.length):(L.take (k+1)).filter p=(L.take k).filter p++(if p L[k] then [L[k]] else []):=by
 rw[List.take_succ_eq_append_getElem h,List.filter_append]
 congr 1
 cases z:p L[k]<;>simp[z]
theorem LW(w:World)(n:Int)(v:Value)(l:List Int)(hv:aR w v l)(hl:l.length<=1048576)(m:Int)(u:Value)(k:List Int)(hu:aR w u k)(hk:k.length<=1048576):
  Calls prog 94 #[.agg #[n,v],.agg #[m,u]] w fun e w'=>e=.returned (.tuple #[(uK n l m k),(xK n l m k),.bool (fA n l m k)])/\Below w w w':=by
 obtain⟨a,c,rfl⟩:=hv.shape;obtain⟨b,d,rfl⟩:=hu.shape;go_enter func94,ntmps94;go_wp2_with fail;refine bH ?_;intro V hV;have B:Below w w V:=gD hV;have Z:aU V w 26 #[n,aI a l.length c]:=gO hV;have I:aU V (w.heap.size+1) 26 #[m,aI b k.length d]:=gY hV;clear hV;refine(vP V n _ l (hv.below B aO) hl m _ k (hu.below B aO) hk).mono ?_;rintro e w1 ⟨rfl,b1⟩;have Z:=Z.keep b1;have I:=I.keep b1;have B:=B.after b1 B.size;have R:=hv.below B aO;have b5:=hu.below B aO;have z2:=I.lt
 cases z:fA n l m k with
 |false=>
  have S:uK n l m k=0:=by unfold uK;rw[z];rfl
  have Y:xK n l m k=0:=by unfold xK;rw[z];rfl
  have F:=aN (And.intro S Y);have HF:=aN z;clear S Y z;go_wp2;go_ret3;exact⟨by rw[F.out.1,F.out.2,HF.out];rfl,B⟩
 |true=>
  obtain⟨rfl,N,rfl,b0,D,b7,M,O,K⟩:=pX z;have S:uK N l N k=pP l k (iQ l k (2^N)):=by unfold uK;rw[z,if_pos rfl,D]
  have Y:xK N l N k=(iQ l k (2^N):Int):=by unfold xK;rw[z,if_pos rfl,D]
  have F:=aN (And.intro S Y);have HF:=aN z;have J:∀x:Ext w1,Calls prog 182 #[.agg #[(N:Int),aI a l.length c]] x.w fun e w'=>e=.returned (aM (2^N-1))/\Below x.w.heap.size x.w w':=fun x=>by have:=tY (N:Int) (aI a l.length c) l x.w (x.ints R) aK aK;rw[Int.toNat_natCast]at this;exact this
  have a6:=aN J;have a8:=aN (fun x:Ext w1=>MX x.w N b0 (N:Int) (N:Int) (aI a l.length c) (aI b k.length d) l k (x.ints R) (x.ints b5) D M O K);have e0:∀y:Ext w1,y.w.cell? ⟨w.heap.size,0,none⟩=some (aM N):=fun y=>y.cell (Z.cell 0);have e1:∀y:Ext w1,y.w.cell? ⟨w.heap.size,1,none⟩=some (aI a l.length c):=fun y=>y.cell (Z.cell 1);have e2:∀y:Ext w1,y.w.cell? ⟨w.heap.size+1,0,none⟩=some (aM N):=fun y=>y.cell (I.cell 0);have e3:∀y:Ext w1,y.w.cell? ⟨w.heap.size+1,1,none⟩=some (aI b k.length d):=fun y=>y.cell (I.cell 1);clear S Y z D M O K J;go_wp2_with fail;refine bN _ aT aT ?_
  repeat(first|go_big_quiet_skip|(go_big_quiet_want;go_big_quiet_op;first|go_big_quiet_on|(apply Exists.intro;refine⟨fun _=>?_,?_⟩;(first|(go_at_call 182;exact bO (a6.out _))|(go_at_call 202;exact bO (a8.out _)));go_big_quiet_on)))
  refine wpQuiet_nil ?_;rintro w3 ⟨⟨w3,b3⟩,rfl⟩
  try dsimp only
  go_wp2;go_ret3;exact⟨by rw[F.out.1,F.out.2,HF.out];rfl,B.after b3 B.size⟩
theorem LX(w:World)(n:Int)(v:Value)(l:List Int)(hv:aR w v l)(hl:l.length<=1048576)(m:Int)(u:Value)(k:List Int)(hu:aR w u k)(hk:k.length<=1048576):
  Calls prog 98 #[.agg #[n,v],.agg #[m,u]] w fun e w'=>e=.returned (.tuple #[(uK n l m k),(xK n l m k),.bool (fA n l m k)])/\Below w w w':=by
 obtain⟨a,c,rfl⟩:=hv.shape;obtain⟨b,d,rfl⟩:=hu.shape;go_enter func98,ntmps98;go_wp2_with fail;refine bH ?_;intro V hV;have B:Below w w V:=gD hV;have K1:aU V w 26 #[n,aI a l.length c]:=gO hV;have O:aU V (w.heap.size+1) 26 #[m,aI b k.length d]:=gY hV;clear hV;refine(vQ V n _ l (hv.below B aO) hl m _ k (hu.below B aO) hk).mono ?_;rintro e w1 ⟨rfl,b1⟩;have K1:=K1.keep b1;have O:=O.keep b1;have B:=B.after b1 B.size;have e7:=hv.below B aO;have e6:=hu.below B aO;have z2:=O.lt;obtain⟨aa,ba,f4,ca,b6,_,D,R,d9⟩:=hv.view prog 24 3 underlying24 aS;obtain⟨ab,bb,f5,cb,b7,_,F,S,e0⟩:=hu.view prog 24 3 underlying24 aS;simp only[Value.slice.injEq]at b6 b7;obtain⟨rfl,_,rfl⟩:=b6;obtain⟨rfl,_,rfl⟩:=b7
 cases I:fA n l m k with
 |false=>
  clear D R F S;have hx:uK n l m k=0:=by unfold uK;rw[I];rfl
  have hy:xK n l m k=0:=by unfold xK;rw[I];rfl
  have HX:=aN (And.intro hx hy);have HF:=aN I;clear hx hy I;go_wp2;go_ret3;exact⟨by rw[HX.out.1,HX.out.2,HF.out];rfl,B⟩
 |true=>
  obtain⟨rfl,N,rfl,b5,J,f3,Z,a1,Y⟩:=pX I;have M:=Nat.two_pow_pos N;have e5:=NG l k (2^N) M;have hx:uK N l N k=pP l k (iQ l k (2^N)):=by unfold uK;rw[I,if_pos rfl,J]
  have hy:xK N l N k=(iQ l k (2^N):Int):=by unfold xK;rw[I,if_pos rfl,J]
  have z:((2^N-1:Nat):Int)=(2:Int)^N-1:=by rw[Int.ofNat_sub M];simp
  obtain⟨p,hp⟩:=aQ (iQ l k (2^N));rw[<-hp]at hx hy e5;have K:=xJ l k Z p aK;have cp:=aW R d9 B aO p aK;have ip:=fun W=>D W p aK;have dp:=aW S e0 B aO (l.length-1-p) aK;have jp:=fun W=>F W (l.length-1-p) aK;have e9:=a1 p aK;have e8:=Y (l.length-1-p) aK;obtain⟨x,b9⟩:=aQ (l[p]'aK);obtain⟨y,c5⟩:=aQ (k[l.length-1-p]'aK);rw[<-b9]at cp e9 K;rw[<-c5]at dp e8 K;have b8:((2:Int)^N-1)-(p:Int)=((l.length-1-p:Nat):Int):=by rw[<-z];omega
  obtain⟨r,hr⟩:=aQ (l.length-1-p);simp only[<-hr]at dp jp b8;have HX:=aN (And.intro hx (And.intro hy K));have HF:=aN I;have d5:=aN (fun W=>fE N W aK);have a6:=fun(W:World) (h1:aR W (aI a l.length c) l) (h2:aR W (aI b k.length d) k)=>VS W N b5 (N:Int) (N:Int) (aI a l.length c) (aI b k.length d) l k h1 h2 J Z a1 Y;rw[<-hp]at a6;have d6:=aN a6;have p5:=cO N 5 b5;clear hx hy I J Z a1 Y K b9 c5 hr hp z D R F S a6;have G1:=K1.cell;go_wp2_with fail;refine(d5.out _).mono ?_;rintro e w2 ⟨rfl,rfl⟩;have G2:=O.cell;go_wp2_with fail;clear G1 G2;refine(d6.out _ e7 e6).mono ?_;rintro e w3 ⟨rfl,b3⟩;have K1:=K1.keep b3;have O:=O.keep b3;have B3:=B.after b3 B.size;have cp:=keep b3 cp;have dp:=keep b3 dp;have G1:=K1.cell;have G2:=O.cell;go_wp2_with fail;go_quiet (fail);go_wp2;go_ret3;exact⟨by rw[HX.out.1,HX.out.2.1,HX.out.2.2,HF.out];rfl,B3.drewN' _⟩
theorem E9(w:World)(n:Nat)(hn:n<=5)(c:FuncId)(he:∀args w,(callFunc c args).run prog w=.ok (.enter c args) w)(g1 g2:Nat)(P:Nat->Bool)
  (hw:∀(s:Nat) W',s<2^n->Below w w W'->Calls prog c #[(s:Int),.pointer (some ⟨g1,0,none⟩),.pointer (some ⟨g2,0,none⟩)] W' fun e w2=>e=.returned (.bool (P s))/\Below W' W' w2):
  Calls prog 200 #[(n:Int),.func (.func c) #[] #[.pointer (some ⟨g1,0,none⟩),.pointer (some ⟨g2,0,none⟩)]] w fun e w'=>e=.returned (aM (qP P (2^n):Int))/\Below w w w':=by
 have Z:(2:Nat)^n<=32:=Nat.pow_le_pow_right (n:=2) aY hn;have K:((2^n:Nat):Int)=(2:Int)^n:=by simp
 obtain⟨N,hN⟩:∃N:Nat,N=2^n:=⟨_,rfl⟩;rw[<-hN]at hw Z K ⊢;have HW:=aN hw;clear hN hw;go_enter func200,ntmps200;go_wp2_with fail;go_loopw [5,10] (fun S i wr=>∃t:Nat,t<=N/\i=aM t/\S=aM (qP P t:Int)/\Below w w wr) (fun _ i _=>N-(intOf i).toNat)
 case atStart=>exact⟨0,Nat.zero_le _,rfl,rfl,Below.refl _ _⟩
 case round=>
  obtain⟨t,ht,rfl,rfl,B⟩:=hrel;have Y:=agN P t;by_cases hlt:t<N
  ·have O:(t:Int)<2^n:=by rw[<-K];exact_mod_cast hlt
   have z:=OG P t;obtain⟨b,hb⟩:=aQ (qP P t);rw[<-hb]at Y z ⊢;have F:=aN (fun W=>gI t W aK);have I:=aN (fun W=>gI b W aK);have hcl:=HW.out t wr hlt B;by_cases M:bR b<bR t
   ·rw[decide_eq_true M,Bool.true_and]at z
    cases R:P t with
    |true=>
     rw[R]at hcl z;have D:=aN z;clear R z hb;go_wp2_with (first
      |(go_at_call 165;(first|(with_reducible refine(F.out _).mono ?_)|(with_reducible refine(I.out _).mono ?_));rintro e w1 ⟨rfl,rfl⟩)
      |(go_at_fn c;refine hcl.mono ?_;rintro e w2 ⟨rfl,J⟩))
     go_roundw
     case rel=>exact⟨t+1,by omega,by go_num,by rw[D.out];rfl,B.after J B.size⟩
     case measure=>simp[intOf];omega
    |false=>
     rw[R]at hcl z;have D:=aN z;clear R z hb;go_wp2_with (first
      |(go_at_call 165;(first|(with_reducible refine(F.out _).mono ?_)|(with_reducible refine(I.out _).mono ?_));rintro e w1 ⟨rfl,rfl⟩)
      |(go_at_fn c;refine hcl.mono ?_;rintro e w2 ⟨rfl,J⟩))
     go_roundw
     case rel=>exact⟨t+1,by omega,by go_num,by rw[D.out];rfl,B.after J B.size⟩
     case measure=>simp[intOf];omega
   ·rw[decide_eq_false M,Bool.false_and]at z;have D:=aN z;clear z hb hcl;go_wp2_with (go_at_call 165;(first|(with_reducible refine(F.out _).mono ?_)|(with_reducible refine(I.out _).mono ?_));rintro e w1 ⟨rfl,rfl⟩);go_roundw
    case rel=>exact⟨t+1,by omega,by go_num,by rw[D.out];rfl,B⟩
    case measure=>simp[intOf];omega
  ·have O:¬(t:Int)<2^n:=by rw[<-K];exact_mod_cast hlt
   have a1:t=N:=aK;subst a1;go_wp2;go_ret;exact⟨rfl,B⟩
theorem acH(w:World)(n m:Int)(v u:Value)(l k:List Int)(hv:aR w v l)(hu:aR w u k)(a9:k.length=l.length)(e8:l.length<=32)(s:Nat)(hs:s<l.length):
  Calls prog 204 #[.agg #[n,v],.agg #[m,u],(s:Int)] w fun e w'=>∃t:Int,e=.returned (.tuple #[t,.bool (kU l k s)])/\Below w w w':=by
 have d0:=hv;have b5:=hu;obtain⟨a,c,rfl⟩:=hv.shape;obtain⟨b,d,rfl⟩:=hu.shape;have a8:=fun(W:World) (h:aR W (aI a l.length c) l) (t:Nat) (ht:t<l.length)=>sC W n _ l h t ht aK;have a7:=fun(W:World) (h:aR W (aI b k.length d) k) (t:Nat) (ht:t<k.length)=>sC W m _ k h t ht aK;have b8:=aN a8;have b7:=aN a7;have b9:=aN a9;clear a8 a7 a9;have K1:=(aU.new w 26 #[n,aI a l.length c]).alloc (.cells #[m,aI b k.length d] 26);have K2:aU ((w.alloc (.cells #[n,aI a l.length c] 26)).alloc (.cells #[m,aI b k.length d] 26)) (w.heap.size+1) 26 #[m,aI b k.length d]:=by have:=aU.new (w.alloc (.cells #[n,aI a l.length c] 26)) 26 #[m,aI b k.length d];simpa using this
 have B0:Below w w ((w.alloc (.cells #[n,aI a l.length c] 26)).alloc (.cells #[m,aI b k.length d] 26)):=wM _ _ _;have wS:IntKind.i64.wrap ((s:Int)+1)=(s:Int)+1:=by rw[IntKind.wrap_i64];omega
 go_enter func204,ntmps204;go_wp2_with fail;go_loopw [11] (fun iv wr=>∃t:Nat,t<=s+1/\iv=aM t/\DP l k s t=true/\Below w w wr/\aU wr w 26 #[n,aI a l.length c]/\aU wr (w.heap.size+1) 26 #[m,aI b k.length d]) (fun iv _=>s+1-(intOf iv).toNat)
 case atStart=>exact⟨0,Nat.zero_le _,rfl,rfl,B0,K1,K2⟩
 case round=>
  obtain⟨t,ht,rfl,b1,B,I,J⟩:=hrel;obtain⟨wo,rfl⟩:∃z:World,z=wr:=⟨_,rfl⟩;have Y:=aN b1;clear b1 K1 K2 B0;have G1:=I.cell;have G2:=J.cell;have z1:=I.lt;have z2:=J.lt;by_cases hlt:t<s+1
  ·have b0:(t:Int)<(s:Int)+1:=aK;have O:=FS l k s t;rw[Y.out,Bool.true_and]at O;have D:KD l k s t=((cV t s==0)&&(eO l t&&eO k (cV s t))):=rfl;have c6:=vS t s aK aK;have c7:=vS s t aK aK;have a6:=xY s t l.length hs;have c1:=b8.out wo (d0.below B aO) t aK;have c2:=fun(W:World) (h:aR W (aI b k.length d) k)=>b7.out W h (cV s t) (by rw[b9.out];exact a6);have K:KD l k s t=true->kU l k s=true:=fun h=>XR aK h;obtain⟨x,hx⟩:∃x:Nat,x=cV t s:=⟨_,rfl⟩;obtain⟨y,hy⟩:∃y:Nat,y=cV s t:=⟨_,rfl⟩;obtain⟨p,hp⟩:=aQ (eO l t);obtain⟨q,hq⟩:=aQ (eO k (cV s t));rw[<-hx,<-hp,<-hq]at D;rw[<-hx]at c6;simp only[<-hq]at c2;simp only[<-hy]at c7 c2;rw[<-hp]at c1;have C1:=aN c1;have C2:=aN c2;have M:=aN O;have c5:=aN K;clear O c1 c2 hx hy hp hq a6 K;by_cases R:x=0
   ·have d6:((x:Int)==0)=true:=by simp[R]
    have F:(x==0)=true:=by simp[R]
    rw[F,Bool.true_and]at D
    cases p with
    |false=>
     have Z:=aN D;clear D R F;go_wp2_with fail;refine C1.out.mono ?_;rintro e w3 ⟨rfl,N⟩;go_wp2;go_roundw
     case rel=>exact⟨t+1,by omega,by go_num,by rw[M.out,Z.out];rfl,B.after N B.size,I.keep N,J.keep N⟩
     case measure=>simp[intOf];omega
    |true=>
     rw[Bool.true_and]at D;go_wp2_with fail;refine C1.out.mono ?_;rintro e w3 ⟨rfl,N⟩;have S:=B.after N B.size;have K3:=I.keep N;have K4:=J.keep N;clear G1 G2;have G2:=K4.cell
     cases q with
     |false=>
      have Z:=aN D;clear D R F;go_wp2_with fail;refine(C2.out _ (b5.below S aO)).mono ?_;rintro e w4 ⟨rfl,b4⟩;go_wp2;go_roundw
      case rel=>exact⟨t+1,by omega,by go_num,by rw[M.out,Z.out];rfl,S.after b4 S.size,K3.keep b4,K4.keep b4⟩
      case measure=>simp[intOf];omega
     |true=>have hr:=c5.out D;have HR:=aN hr;clear D R F hr;go_wp2_with fail;refine(C2.out _ (b5.below S aO)).mono ?_;rintro e w4 ⟨rfl,b4⟩;go_wp2;go_ret2;exact⟨t,by rw[HR.out];rfl,S.after b4 S.size⟩
   ·have d6:((x:Int)==0)=false:=by rw[beq_eq_false_iff_ne];omega
    have F:(x==0)=false:=by simp[R]
    rw[F,Bool.false_and]at D;have Z:=aN D;clear D R F;go_wp2;go_roundw
    case rel=>exact⟨t+1,by omega,by go_num,by rw[M.out,Z.out];rfl,B,I,J⟩
    case measure=>simp[intOf];omega
  ·have b0:¬(t:Int)<(s:Int)+1:=aK;have hr:kU l k s=false:=by unfold kU;rw[<-show t=s+1 by omega,Y.out];rfl
   have HR:=aN hr;clear hr;go_wp2;go_ret2
   first|exact⟨0,by rw[HR.out];rfl,B⟩|exact⟨⟨0,by rw[HR.out];rfl⟩,B⟩
theorem Z5(w:World)(I J:Nat)(n m:Int)(v u:Value)(l k:List Int)(M:aR w v l)(K:aR w u k)(z:k.length=l.length)(hl:l.length<=32)(s:Nat)(R:s<l.length)(D:aU w I 26 #[n,v])(F:aU w J 26 #[m,u]):
  Calls prog 203 #[s,.pointer (some ⟨I,0,none⟩),.pointer (some ⟨J,0,none⟩)] w fun e w'=>e=.returned (.bool (kU l k s))/\Below w w w':=by
 have N:=aN (acH w n m v u l k M K z hl s R);obtain⟨a,c,rfl⟩:=M.shape;obtain⟨b,d,rfl⟩:=K.shape;have S:=D.cell;have Y:=F.cell;have Z:=D.lt;have z2:=F.lt;clear z;go_enter func203,ntmps203;go_wp2_with fail;refine N.out.mono ?_;rintro e w1 ⟨t,rfl,O⟩;go_wp2;go_ret;exact⟨rfl,O⟩
theorem FE:∀args w,(callFunc 203 args).run prog w=.ok (.enter 203 args) w:=enters_of func203 aT rfl
theorem afH(w:World)(n:Int)(v:Value)(l:List Int)(hv:aR w v l)(hl:l.length<=1048576)(m:Int)(u:Value)(k:List Int)(hu:aR w u k)(hk:k.length<=1048576):
  Calls prog 95 #[.agg #[n,v],.agg #[m,u]] w fun e w'=>e=.returned (.tuple #[(xV n l m k),.bool (fA n l m k)])/\Below w w w':=by
 obtain⟨a,c,rfl⟩:=hv.shape;obtain⟨b,d,rfl⟩:=hu.shape;have b3:∀(fn:Fn) (first cap:Array Value) (w:World),(Instr.makeFunc fn first cap).run prog w=.ok (.func fn first cap) w:=fun _ _ _ _=>rfl;go_enter func95,ntmps95;go_wp2_with fail;refine bH ?_;intro V O;have B:Below w w V:=gD O;have K:aU V w 26 #[n,aI a l.length c]:=gO O;have M:aU V (w.heap.size+1) 26 #[m,aI b k.length d]:=gY O;clear O;refine(vP V n _ l (hv.below B aO) hl m _ k (hu.below B aO) hk).mono ?_;rintro e w1 ⟨rfl,Z⟩;have K:=K.keep Z;have M:=M.keep Z;have B:=B.after Z B.size;have a9:=hv.below B aO;have a7:=hu.below B aO;have z2:=M.lt;have G1:=K.cell
 cases z:fA n l m k with
 |false=>
  have J:xV n l m k=0:=by unfold xV;rw[z];rfl
  have Y:=aN J;have S:=aN z;clear J z;go_wp2;go_ret2;exact⟨by rw[Y.out,S.out];rfl,B⟩
 |true=>
  obtain⟨rfl,N,rfl,a1,F,I,D,_,_⟩:=pX z;have J:xV N l N k=(qP (kU l k) (2^N):Int):=by unfold xV;rw[z,if_pos rfl,F]
  have Y:=aN J;have S:=aN z;have hcl:=E9 w1 N a1 203 FE w.heap.size (w.heap.size+1) (kU l k) (fun s W' hs hB=>Z5 W' w.heap.size (w.heap.size+1) N N _ _ l k (a9.keep hB) (a7.keep hB) D I s aK (K.keep hB) (M.keep hB));have R:=aN hcl;clear J z F D hcl;go_wp2_with fail;refine R.out.mono ?_;rintro e w2 ⟨rfl,b2⟩;go_wp2;go_ret2;exact⟨by rw[Y.out,S.out];rfl,B.after b2 B.size⟩
end
end Go.Proofs.YtcpoomdoodlkjaaGreatDoor
