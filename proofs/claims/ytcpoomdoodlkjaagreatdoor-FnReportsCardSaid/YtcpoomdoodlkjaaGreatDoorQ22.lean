/- Lemmas for CardReports. No condition. -/
import Derived.Test.YtcpoomdoodlkjaaGreatDoorQ13
import Derived.Test.YtcpoomdoodlkjaaGreatDoorQ21
set_option maxRecDepth 100000
set_option maxHeartbeats 64000000
namespace Go.Proofs.YtcpoomdoodlkjaaGreatDoor
section
open Go.RowKit Go.G5 Go.Proofs.Tryz
theorem QO(w:World)(n:Int)(v:Value)(l:List Int)(hv:aO w v l)(hl:l.length<=1048576):
  Calls prog 88 #[.agg #[n,v]] w fun e w'=>∃ad i J,e=.returned (.tuple #[.agg #[(iX n l),ajH ad i J],.bool (dE n l)])/\aM 3 w w' (ajH ad i J) (fI n l)/\Below w w w':=by
 obtain⟨a,c,rfl⟩:=hv.shape;go_enter func88,ntmps88;go_wp2_with fail;refine bB ?_;intro V hV;have B:Below w w V:=fY hV;have K1:aR V w 26 #[n,ajH a l.length c]:=gL hV;have K2:aR V (w.heap.size+1) 31 #['0',()]:=gV hV;clear hV;refine(lO n l _ _ (hv.below B aK) hl).mono ?_;rintro e w1 ⟨rfl,S⟩;have a6:=K1.keep S;have M:=K2.keep S;have B1:=B.after S B.size;have G1:=a6.cell;have G2:=M.cell;have F2:=M.frozen;have z1:=a6.lt;have z2:=M.lt;have f0:=hv.below B1 aK;clear K1 K2 B S
 cases Y:dE n l with
 |false=>
  have hN:iX n l=0:=by unfold iX;rw[Y];rfl
  have hL:fI n l=[]:=by unfold fI;rw[Y];rfl
  have HN:=aJ hN;have HL:=aJ hL;have HF:=aJ Y;clear hN hL;go_wp2;refine aZ ?_;intro Wf F;have a7:aR Wf (w.heap.size+1) 31 #['0',()]:=by rw[F];have:=(M.set 0 (ajJ 0)).set 1 (ajH none 0 0);simpa using this
  have Bf:Below w w Wf:=by rw[F];exact Below.setCell (Below.setCell B1 (by first|omega|(simp;done)|(simp;omega)) _) (by first|omega|(simp;done)|(simp;omega)) _
  have Gf:=a7.cell;clear F G1 G2 F2;exact bodyPost_ret (v:=.tuple #[.agg #['0',()],.bool false]) (by simp[results,results88,go_sem,Gf]) rfl ⟨none,0,0,by rw[HN.out,HF.out],by rw[HL.out];exact aM.nil _ _ _,Bf⟩
 |true=>
  obtain⟨N,rfl,h5,e6,g0,e7⟩:=cU (kH Y);have e8:=Nat.two_pow_pos N;have hN:iX N l=N:=by unfold iX;rw[Y];rfl
  have hL:fI N l=bQ (kD l) l.length:=by unfold fI;rw[Y,if_pos rfl]
  obtain⟨av,b,h7,cv,f2,_,a9,hc,hb⟩:=f0.view prog 24 3 underlying24 aP;injection f2 with e1 _ e3;subst e1 e3;have O:l.length-1<l.length:=aI;have d8:=hc (l.length-1) O;have f3:=fun W=>a9 W (l.length-1) O;rw[show((l.length-1:Nat):Int)=(l.length:Int)-1 by omega]at f3;have wl:IntKind.i64.wrap ((l.length:Int)-1)=(l.length:Int)-1:=by rw[IntKind.wrap_i64];omega
  obtain⟨t,ht⟩:=aN (lK l);rw[show l[l.length-1]=t by rw[ht];exact(aU l _ O).symm]at d8;have hP:∀s,(h:s<l.length)->kD l s=(decide (l[s]=t)&&decide ((bN s:Int)=t)):=fun s h=>by rw[afP,aU l s h,ht]
  obtain⟨P,a8⟩:=aN (kD l);rw[<-a8]at hL;simp only[<-a8]at hP;have HP:=aJ hP;have HN:=aJ hN;have HL:=aJ hL;have HF:=aJ Y;have HC:=aJ hc;have d5:=aJ a9;have o0:=aM.lit0 (E:=3) (B:=w1.heap.size) w1 aK;clear hN hL Y e7 e6 e8 a8 hP ht hc a9;go_wp2_with fail;go_loopw [5,6] (fun out i wr=>∃(k:Nat) (ad:Option Addr) (R J:Nat),k<=l.length/\out=ajH ad R J/\i=ajJ k/\aM 3 w1 wr (ajH ad R J) (bQ P k)/\Below w1 w1 wr)
   (fun _ i _=>l.length-(intOf i).toNat)
  case atStart=>exact⟨0,_,_,_,Nat.zero_le _,rfl,rfl,o0,aY _ _⟩
  case round=>
   obtain⟨k,ad,R,J,hk,rfl,rfl,ho,B⟩:=hrel;obtain⟨wo,rfl⟩:∃z:World,z=wr:=⟨_,rfl⟩;have HO:=aJ ho;clear ho o0 G1 G2 F2;have G1:=(a6.keep B).cell;have zw:=B.size;by_cases hlt:k<l.length
   ·have b8:(k:Int)<(l.length:Int):=aI;have b7:=fJ P k;have g8:(bQ P k).length<=64:=Nat.le_trans (fG P k) aI;have a1:=aJ b7;have d9:=aT HC.out hb B aK k hlt;have h0:=fun W=>d5.out W k hlt;have D:=HP.out k hlt;have b0:=eK k wo aI;obtain⟨x,hx⟩:=aN (l[k]);rw[<-hx]at d9 D;obtain⟨p,hp⟩:∃p:Nat,p=bN k:=⟨_,rfl⟩;rw[<-hp]at b0 D;have b5:=aJ b0;clear b7 hx hp b0;have bx:(x==t)=decide (x=t):=by by_cases h:x=t<;>simp[h]
    have bp:((p:Int)==t)=decide ((p:Int)=t):=by by_cases h:(p:Int)=t<;>simp[h]
    cases h1:decide (x=t) with
    |false=>
     rw[h1]at bx D;have K:=aJ D;clear D h1;go_wp2;go_roundw
     case rel=>exact⟨k+1,ad,R,J,by omega,rfl,by go_num,by rw[a1.out,K.out];exact HO.out,B⟩
     case measure=>simp[intOf];omega
    |true=>
     rw[h1]at bx D;clear h1
     cases h2:decide ((p:Int)=t) with
     |false=>
      rw[h2]at bp D;have K:=aJ D;clear D h2;go_wp2_with (go_at_call 154;refine b5.out.mono ?_;rintro e w' ⟨rfl,rfl⟩);go_roundw
      case rel=>exact⟨k+1,ad,R,J,by omega,rfl,by go_num,by rw[a1.out,K.out];exact HO.out,B⟩
      case measure=>simp[intOf];omega
     |true=>
      rw[h2]at bp D;have K:=aJ D;clear D h2;go_wp2_with (first
       |(go_at_call 154;refine b5.out.mono ?_;rintro e w' ⟨rfl,rfl⟩)
       |(at_builtin;refine cW rfl _ _ _ rfl 3 underlying24 aP w1.heap.size _ _ (k:Int) wo.heap.size rfl rfl (aX wo #[k] 3 0 _ rfl) (HO.out.alloc _) ⟨by omega,by omega⟩ aI (by first|omega|(simp;done)|(simp;omega)) ?_;intro v' w6 Z e4;obtain⟨av,nv,cv,rfl⟩:=Z.shape3))
      have B6:Below w1 w1 w6:=(B.alloc B.size (.cells #[k] 3)).grown e4 aS (fun q hq=>(HO.out.lt q hq).1);go_roundw
      case rel=>exact⟨k+1,av,nv,cv,by omega,rfl,by go_num,by rw[a1.out,K.out];exact Z,B6⟩
      case measure=>simp[intOf];omega
   ·have b8:¬(k:Int)<(l.length:Int):=aI;have e5:k=l.length:=aI;subst e5;have I:=M.keep B;have y2:=I.lt;have G2:=I.cell;have F2:=I.frozen;have yy:=B1.size;go_wp2;refine aZ ?_;intro Wf F;have a7:aR Wf (w.heap.size+1) 31 #[N,ajH ad R J]:=by rw[F];have:=(I.set 0 (ajJ N)).set 1 (ajH ad R J);simpa using this
    have Bf:Below w w Wf:=by rw[F];exact Below.setCell (Below.setCell (B1.after B B1.size) (by first|omega|(simp;done)|(simp;omega)) _) (by first|omega|(simp;done)|(simp;omega)) _
    have of:aM 3 w Wf (ajH ad R J) (bQ P l.length):=by rw[F];exact((HO.out.setBelow (by first|omega|(simp;done)|(simp;omega)) _).setBelow (by first|omega|(simp;done)|(simp;omega)) _).mono (by first|omega|(simp;done)|(simp;omega))
    have Gf:=a7.cell;clear F G1 G2 F2;exact bodyPost_ret (v:=.tuple #[.agg #[N,ajH ad R J],.bool true]) (by simp[results,results88,go_sem,Gf]) rfl ⟨ad,R,J,by rw[HN.out,HF.out],by rw[HL.out];exact of,Bf⟩
theorem ahM(w:World)(n:Int)(v:Value)(l:List Int)(hv:aO w v l)(hl:l.length<=1048576):
  Calls prog 89 #[.agg #[n,v]] w fun e w'=>∃ad i M,e=.returned (.tuple #[.agg #[(iX n l),ajH ad i M],.bool (dE n l)])/\aM 3 w w' (ajH ad i M) (gH n l)/\Below w w w':=by
 obtain⟨a,c,rfl⟩:=hv.shape;go_enter func89,ntmps89;go_wp2_with fail;refine bB ?_;intro V hV;have B:Below w w V:=fY hV;have K1:aR V w 26 #[n,ajH a l.length c]:=gL hV;have K2:aR V (w.heap.size+1) 31 #['0',()]:=gV hV;clear hV;refine(lO n l _ _ (hv.below B aK) hl).mono ?_;rintro e w1 ⟨rfl,O⟩;have a8:=K1.keep O;have J:=K2.keep O;have B1:=B.after O B.size;have G1:=a8.cell;have G2:=J.cell;have F2:=J.frozen;have z1:=a8.lt;have z2:=J.lt;have h0:=hv.below B1 aK;clear K1 K2 B O
 cases S:dE n l with
 |false=>
  have hN:iX n l=0:=by unfold iX;rw[S];rfl
  have hL:gH n l=[]:=by unfold gH;rw[S];rfl
  have HN:=aJ hN;have HL:=aJ hL;have HF:=aJ S;clear hN hL;go_wp2;refine aZ ?_;intro Wf D;have a9:aR Wf (w.heap.size+1) 31 #['0',()]:=by rw[D];have:=(J.set 0 (ajJ 0)).set 1 (ajH none 0 0);simpa using this
  have Bf:Below w w Wf:=by rw[D];exact Below.setCell (Below.setCell B1 (by first|omega|(simp;done)|(simp;omega)) _) (by first|omega|(simp;done)|(simp;omega)) _
  have Gf:=a9.cell;clear D G1 G2 F2;exact bodyPost_ret (v:=.tuple #[.agg #['0',()],.bool false]) (by simp[results,results89,go_sem,Gf]) rfl ⟨none,0,0,by rw[HN.out,HF.out],by rw[HL.out];exact aM.nil _ _ _,Bf⟩
 |true=>
  obtain⟨N,rfl,h5,g5,i7,g6⟩:=cU (kH S);have hN:iX N l=N:=by unfold iX;rw[S];rfl
  have hL:gH N l=iY (bQ (tK l) l.length):=by unfold gH;rw[S,if_pos rfl]
  obtain⟨av,b,h7,cv,h6,_,d5,hc,hb⟩:=h0.view prog 24 3 underlying24 aP;injection h6 with e1 _ e3;subst e1 e3;have hP:∀s,(h:s<l.length)->tK l s=decide (l[s]<(bN s:Int)):=fun s h=>by rw[afV S s aI,aU l s h]
  obtain⟨P,b0⟩:=aN (tK l);rw[<-b0]at hL;simp only[<-b0]at hP;have Y:=DI (bQ P l.length) (uJ P l.length) (fun x hx=>(mN P l.length x hx).1);have d8:∀x∈bQ P l.length,0<=x/\x<64:=fun x hx=>by have:=mN P l.length x hx;omega
  have Z:(bQ P l.length).length<=64:=Nat.le_trans (fG P l.length) aI;have d9:∀(W:World) (ad:Option Addr) (nn M:Nat),aO W (ajH ad nn M) (bQ P l.length)->Calls prog 197 #[ajH ad nn M] W fun e w'=>
    ∃c5 i' c8,e=.returned (ajH c5 i' c8)/\aM 3 W w' (ajH c5 i' c8) (iY (bQ P l.length))/\Below W W w':=fun W ad nn M hW=>by
   have:=sC (bQ P l.length) _ W hW d8 Z;rw[Y]at this;exact this
  have f7:=aJ d9;have HP:=aJ hP;have HN:=aJ hN;have HL:=aJ hL;have HF:=aJ S;have HC:=aJ hc;have f5:=aJ d5;have o0:=aM.lit0 (E:=3) (B:=w1.heap.size) w1 aK;clear hN hL S g6 g5 b0 hP hc d5 Y d8 Z d9;go_wp2_with fail;go_loopw [4,5] (fun out i wr=>∃(k:Nat) (ad:Option Addr) (nn M:Nat),k<=l.length/\out=ajH ad nn M/\i=ajJ k/\aM 3 w1 wr (ajH ad nn M) (bQ P k)/\Below w1 w1 wr)
   (fun _ i _=>l.length-(intOf i).toNat)
  case atStart=>exact⟨0,_,_,_,Nat.zero_le _,rfl,rfl,o0,aY _ _⟩
  case round=>
   obtain⟨k,ad,nn,M,hk,rfl,rfl,ho,B⟩:=hrel;obtain⟨wo,rfl⟩:∃z:World,z=wr:=⟨_,rfl⟩;have HO:=aJ ho;clear ho o0 G1 G2 F2;have K:=a8.keep B;have G1:=K.cell;have zw:=B.size;by_cases hlt:k<l.length
   ·have d7:(k:Int)<(l.length:Int):=aI;have d0:=fJ P k;have j6:(bQ P k).length<=64:=Nat.le_trans (fG P k) aI;have b7:=aJ d0;have c7:=aT HC.out hb B aK k hlt;have j8:=fun W=>f5.out W k hlt;have F:=HP.out k hlt;have b1:=fun W=>eK k W aI;obtain⟨x,hx⟩:=aN (l[k]);rw[<-hx]at c7 F;obtain⟨p,hp⟩:∃p:Nat,p=bN k:=⟨_,rfl⟩;rw[<-hp]at F;simp only[<-hp]at b1;have b9:=aJ b1;have e1:∀y:Ext wo,y.w.cell? ⟨w.heap.size,1,none⟩=some (ajH a l.length c):=fun y=>y.cell (K.cell 1);have e2:∀y:Ext wo,y.w.cell? ⟨b,h7+k,none⟩=some (ajJ x):=fun y=>y.cell c7;clear d0 hx hp b1;by_cases d6:x<(p:Int)
    ·rw[decide_eq_true d6]at F;have a7:=aJ F;clear F;go_wp2_with fail;refine bJ _ aQ aQ ?_
     repeat(first|go_big_quiet_skip|(go_big_quiet_want;go_big_quiet_op;first|go_big_quiet_on|(apply Exists.intro;refine⟨fun _=>?_,?_⟩;(go_at_call 154;exact cO (b9.out _));go_big_quiet_on)))
     refine wpQuiet_nil ?_;rintro w5 ⟨⟨w5,b5⟩,rfl⟩
     try dsimp only
     have b8:=HO.out.keep b5;have B5:=B.after b5 B.size;have z5:=B5.size;go_wp2_with (at_builtin;refine cW rfl _ _ _ rfl 3 underlying24 aP w1.heap.size _ _ (k:Int) w5.heap.size rfl rfl (aX w5 #[k] 3 0 _ rfl) (b8.alloc _) ⟨by omega,by omega⟩ aI (by first|omega|(simp;done)|(simp;omega)) ?_;intro v' w6 a1 g3;obtain⟨av,nv,cv,rfl⟩:=a1.shape3);have B6:Below w1 w1 w6:=(B5.alloc B5.size (.cells #[k] 3)).grown g3 aS (fun q hq=>(b8.lt q hq).1);go_roundw
     case rel=>exact⟨k+1,av,nv,cv,by omega,rfl,by go_num,by rw[b7.out,a7.out];exact a1,B6⟩
     case measure=>simp[intOf];omega
    ·rw[decide_eq_false d6]at F;have a7:=aJ F;clear F;go_wp2_with fail;refine bJ _ aQ aQ ?_
     repeat(first|go_big_quiet_skip|(go_big_quiet_want;go_big_quiet_op;first|go_big_quiet_on|(apply Exists.intro;refine⟨fun _=>?_,?_⟩;(go_at_call 154;exact cO (b9.out _));go_big_quiet_on)))
     refine wpQuiet_nil ?_;rintro w5 ⟨⟨w5,b5⟩,rfl⟩
     try dsimp only
     go_wp2;go_roundw
     case rel=>exact⟨k+1,ad,nn,M,by omega,rfl,by go_num,by rw[b7.out,a7.out];exact HO.out.keep b5,B.after b5 B.size⟩
     case measure=>simp[intOf];omega
   ·have d7:¬(k:Int)<(l.length:Int):=aI;have g4:k=l.length:=aI;subst g4;have I:=J.keep B;have y2:=I.lt;have g7:=HO.out.ints;have k2:w.heap.size<wo.heap.size:=aI;go_wp2_with fail;have G2:=I.cell;have F2:=I.frozen;go_region_held3 (fun w'=>(∀i,w'.cell? ⟨w.heap.size,i,none⟩=(#[ajJ N,ajH a l.length c]:Array Value)[i]?)) (go_keep)
     (first
      |(go_at_call 197;refine(f7.out _ _ _ _ (g7.below (B:=wo.heap.size) (by repeat(first|exact Below.refl _ _|(with_reducible refine Below.setCell ?_ (by first|omega|(simp;done)|(simp;omega)) _)|(with_reducible refine Below.alloc ?_ (by first|omega|(simp;done)|(simp;omega)) _)|(with_reducible refine Below.drewN' ?_ _)|(with_reducible refine Below.drew ?_)|(with_reducible assumption)|refine Below.trans ?_ (Below.mono (by assumption) (by first|omega|(simp;done)|(simp;omega))))) aK)).mono ?_;rintro e w3 ⟨p3,i3,q3,rfl,o3,R⟩;obtain⟨g1,g2⟩:=gZ R wo.heap.size (by first|omega|(simp;done)|(simp;omega));have z3:=R.size;(try simp at z3)))
    go_wp2;refine aZ ?_;intro Wf D;have a9:aR Wf (w.heap.size+1) 31 #[N,ajH p3 i3 q3]:=by rw[D];have:=(((I.drewN 1).keep R).set 0 (ajJ N)).set 1 (ajH p3 i3 q3);simpa using this
    have yy:=B1.size;have Bf:Below w w Wf:=by rw[D];exact Below.setCell (Below.setCell (((B1.after B B1.size).drewN' 1).after R (by first|omega|(simp;done)|(simp;omega))) (by first|omega|(simp;done)|(simp;omega)) _) (by first|omega|(simp;done)|(simp;omega)) _
    have of:aM 3 w Wf (ajH p3 i3 q3) (iY (bQ P l.length)):=by rw[D];exact((o3.setBelow (by first|omega|(simp;done)|(simp;omega)) _).setBelow (by first|omega|(simp;done)|(simp;omega)) _).mono (by first|omega|(simp;done)|(simp;omega))
    have Gf:=a9.cell;clear D G1 G2 F2 g1 g2;exact bodyPost_ret (v:=.tuple #[.agg #[N,ajH p3 i3 q3],.bool true]) (by simp[results,results89,go_sem,Gf]) rfl ⟨p3,i3,q3,by rw[HN.out,HF.out],by rw[HL.out];exact of,Bf⟩
def bn:Value->Nat
 |.bool true=>1
 |_=>0
theorem aa9(l:List Int)(t k:Nat)(h1:t<l.length)(h2:bO t k<l.length):(l[bO t k]==l[t])=(dX l t k==0):=by
 unfold dX;rw[aU l _ h1,aU l _ h2];by_cases h:l[bO t k]=l[t]
 ·rw[h];simp
 ·rw[beq_eq_false_iff_ne.2 h,beq_eq_false_iff_ne.2 (show l[bO t k]-l[t]≠0 by omega)]
theorem P5(w:World)(N:Nat)(v:Value)(l:List Int)(hv:aO w v l)(h5:N<=5)(a6:l.length=2^N)(s:Nat)(hs:s<2^N):
  Calls prog 198 #[.agg #[(N:Int),v],s] w fun e w'=>∃t:Nat,e=.returned t/\decide (t=s)=lH l N s/\Below w w w':=by
 have g5:=hv;obtain⟨a,b,g6,c,rfl,d0,c9,hc,hb⟩:=hv.view prog 24 3 underlying24 aP;have K0:=aR.new w 26 #[(N:Int),ajH a l.length c];have g3:(2:Nat)^N<=32:=Nat.pow_le_pow_right (n:=2) aV h5;have HC:=aJ hc;have b5:=aJ c9;have e4:=aJ a6;clear hc c9 d0 a6;go_enter func198,ntmps198;go_wp2_with fail;go_loopw [1,5] (fun sv av wr=>∃(t:Nat) (O:Bool),sv=ajJ t/\av=.bool O/\t<2^N/\(t=s∨(s<t/\lH l N s=false))/\(O=false->lH l N t=true)/\Below w w wr/\aR wr w 26 #[(N:Int),ajH a l.length c]) (fun sv av _=>(2^N-(intOf sv).toNat)*2+bn av)
 case atStart=>exact⟨s,true,rfl,rfl,hs,.inl rfl,(fun h=>by cases h),aY _ _,K0⟩
 case round=>
  obtain⟨t,O,rfl,rfl,e8,d5,b3,B,K⟩:=hrel;obtain⟨wo,rfl⟩:∃wo:World,wo=wr:=⟨_,rfl⟩;have b1:=aJ d5;clear K0 d5
  cases O with
  |false=>
   have c7:=b3 rfl;have a9:decide (t=s)=lH l N s:=by
    rcases b1.out with h|⟨h1,h2⟩
    ·subst h;rw[c7];simp
    ·rw[h2];exact decide_eq_false aI
   have d9:=aJ a9;clear c7 a9 b3;go_wp2;go_ret;exact⟨t,rfl,d9.out,B⟩
  |true=>
   clear b3;have G:=K.cell;go_wp2_with fail;go_loopw [1,5,6] (fun sv av ev wr=>∃(D e:Nat) (O:Bool),sv=ajJ D/\av=.bool O/\ev=ajJ e/\e<=N/\D<2^N/\((O=false/\D=t/\lH l e t=true)∨(O=true/\t<D/\lH l N t=false))/\Below w w wr/\aR wr w 26 #[(N:Int),ajH a l.length c]) (fun _ _ ev _=>N-(intOf ev).toNat)
   case atStart=>exact⟨t,0,false,rfl,rfl,rfl,Nat.zero_le _,e8,.inl ⟨rfl,rfl,rfl⟩,B,K⟩
   case round=>
    obtain⟨D,e,O,rfl,rfl,rfl,he,M,R,B2,K2⟩:=hrel;obtain⟨wi,rfl⟩:∃wo:World,wo=wr:=⟨_,rfl⟩;have J:=aJ R;clear R G K;have G:=K2.cell;by_cases b9:e<N
    ·have c5:(e:Int)<(N:Int):=aI
     have e6:=jL (D:Int) e aI aI;have S:(dL (D:Int) e==0)=!cZ D e:=by
      have h:=tZ D e;have h2:dL (D:Int) e=0∨dL (D:Int) e=1:=by unfold dL;omega
      rcases h2 with h2|h2
      ·rw[h2]at h ⊢;rw[<-h];rfl
      ·rw[h2]at h ⊢;rw[<-h];rfl
     obtain⟨y,hy⟩:=aN (dL (D:Int) e);rw[<-hy]at e6 S;have a6:=e4.out;obtain⟨t2,a1⟩:=aN (bO D e);have e7:t2<2^N:=by rw[a1];exact eM D e N M b9
     have g0:bits .or .i64 (D:Int) (2^e)=((t2:Nat):Int):=by rw[a1];exact fW D e aI aI
     have c1:=aT HC.out hb B2 aK D aI;have c2:=aT HC.out hb B2 aK t2 aI;have i1:=fun W=>b5.out W D aI;have i2:=fun W=>b5.out W t2 aI;have F:(l[t2]'aI==l[D]'aI)=(dX l D e==0):=by subst a1;exact aa9 l D e aI aI
     have c8:cZ D e=false->D<t2:=fun h=>by rw[a1];exact acN D e h
     obtain⟨x,hx⟩:=aN (l[D]);obtain⟨z,hz⟩:=aN (l[t2]);rw[<-hx]at c1 F;rw[<-hz]at c2 F;have Y:=cK e 6 aI;have g1:(2:Int)^e<=64:=by simpa using Y.1
     have g2:=Y.2;have g7:IntKind.i64.wrap ((2:Int)^e)=2^e:=by rw[IntKind.wrap_i64];omega
     have f9:(0:Int)<=(e:Int):=Int.natCast_nonneg _;have Z:lH l (e+1) t=(lH l e t&&(cZ t e||!(dX l t e==0))):=rfl;have b6:=aJ Z;have e0:=aJ c8;clear hy a1 hx hz Y Z c8 a6
     cases h1:cZ D e with
     |true=>
      have e9:(y==0)=false:=by rw[S,h1];rfl
      have H1:=aJ h1;clear h1 S F;go_wp2_with fail;go_quiet (fail);go_wp2;go_roundw
      case rel=>
       refine⟨D,e+1,O,rfl,rfl,by go_num,by omega,M,?_,B2.drewN' _,K2.drewN _⟩;rcases J.out with⟨q1,I,q3⟩|q
       ·exact .inl ⟨q1,I,by rw[b6.out,q3,<-I,H1.out];rfl⟩
       ·exact .inr q
      case measure=>simp[intOf];omega
     |false=>
      have e9:(y==0)=true:=by rw[S,h1];rfl
      have H1:=aJ h1;clear h1 S
      cases h2:(z==x) with
      |false=>
       rw[h2]at F;have b0:=aJ F;clear F;go_wp2_with fail;go_quiet (fail);go_wp2;go_roundw
       case rel=>
        refine⟨D,e+1,O,rfl,rfl,by go_num,by omega,M,?_,B2.drewN' _,K2.drewN _⟩;rcases J.out with⟨q1,I,q3⟩|q
        ·exact .inl ⟨q1,I,by rw[b6.out,q3,<-I,<-b0.out];simp⟩
        ·exact .inr q
       case measure=>simp[intOf];omega
      |true=>
       rw[h2]at F;have b0:=aJ F;clear F;go_wp2_with fail;go_quiet (fail);go_wp2;go_roundw
       case rel=>
        refine⟨t2,e+1,true,rfl,rfl,by go_num,by omega,e7,.inr ⟨rfl,?_,?_⟩,B2.drewN' _,K2.drewN _⟩
        ·have:=e0.out H1.out;rcases J.out with⟨_,I,_⟩|⟨_,I,_⟩<;>omega
        ·rcases J.out with⟨_,I,_⟩|⟨_,_,q3⟩
         ·exact adW b9 (by rw[<-I];exact H1.out) (by rw[<-I];simpa using b0.out.symm)
         ·exact q3
       case measure=>simp[intOf];omega
    ·have c5:¬(e:Int)<(N:Int):=aI;have c6:e=N:=aI;subst c6;go_wp2;go_roundw
     case rel=>
      refine⟨D,O,rfl,rfl,M,?_,?_,B2,K2⟩
      ·rcases J.out with⟨_,I,_⟩|⟨_,I,q3⟩
       ·rw[I];exact b1.out
       ·right;rcases b1.out with h|⟨h,h'⟩
        ·subst h;exact⟨I,q3⟩
        ·exact⟨by omega,h'⟩
      ·intro h;rcases J.out with⟨_,I,q3⟩|⟨q1,_,_⟩
       ·rw[I];exact q3
       ·rw[q1]at h;cases h
     case measure=>
      rcases J.out with⟨q1,I,_⟩|⟨q1,I,_⟩
      ·subst q1 I;simp[intOf,bn]
      ·subst q1;simp[intOf,bn];omega
theorem ahR(w:World)(n:Int)(v:Value)(l:List Int)(hv:aO w v l)(hl:l.length<=1048576):
  Calls prog 90 #[.agg #[n,v]] w fun e w'=>∃ad i cp,e=.returned (.tuple #[ajH ad i cp,.bool (eR n l)])/\aM 3 w w' (ajH ad i cp) (mJ n l)/\Below w w w':=by
 have J:=hv;obtain⟨a,c,rfl⟩:=hv.shape;have K0:=(aR.new w 26 #[n,ajH a l.length c]).alloc (.cells #[] 3);have B0:Below w w ((w.alloc (.cells #[n,ajH a l.length c] 26)).alloc (.cells #[] 3)):=wJ _ _ _;have o0:aM 3 (w.heap.size+1) ((w.alloc (.cells #[n,ajH a l.length c] 26)).alloc (.cells #[] 3)) (ajH (some ⟨w.heap.size+1,0,none⟩) 0 0) []:=by have:=aM.lit0 (E:=3) (B:=w.heap.size+1) (w.alloc (.cells #[n,ajH a l.length c] 26)) (by simp);simpa using this
 cases S:eR n l with
 |false=>
  have hL:mJ n l=[]:=by unfold mJ;rw[S];rfl
  have HL:=aJ hL;have HF:=aJ S;clear hL S;go_enter func90,ntmps90;go_wp2_with fail;go_loopw [4,5] (fun ov iv wr=>∃(p:Option Addr) (i q:Nat),ov=ajH p i q/\iv=ajJ 0/\aM 3 (w.heap.size+1) wr (ajH p i q) []/\Below w w wr/\aR wr w 26 #[n,ajH a l.length c]) (fun _ _ _=>0)
  case atStart=>exact⟨_,_,_,rfl,rfl,o0,B0,K0⟩
  case round=>obtain⟨p,i,q,rfl,rfl,ho,B,K⟩:=hrel;have G:=K.cell;go_wp2_with fail;refine(mS n l _ _ (J.below B aK) hl).mono ?_;rintro e w1 ⟨rfl,D⟩;rw[HF.out];have M:=B.after D B.size;have K1:=K.keep D;have O:=ho.keep D;clear G;have G:=K1.cell;go_wp2_with fail;refine(mS n l _ _ (J.below M aK) hl).mono ?_;rintro e w2 ⟨rfl,I⟩;rw[HF.out];go_wp2;go_ret2;exact⟨p,i,q,rfl,by rw[HL.out];exact(O.keep I).mono aI,M.after I M.size⟩
 |true=>
  obtain⟨N,rfl,h5,b4,e5,d7⟩:=cU (oW S);have hL:mJ N l=bQ (lH l N) l.length:=by unfold mJ;rw[S];rfl
  have hcl:=fun(W:World) (h:aO W (ajH a l.length c) l) (s:Nat) (hs:s<l.length)=>P5 W N _ l h h5 b4 s aI;obtain⟨P,hP⟩:=aN (lH l N);rw[<-hP]at hL;simp only[<-hP]at hcl;have HL:=aJ hL;have HF:=aJ S;have c5:=aJ hcl;clear hL S hcl hP d7 b4;go_enter func90,ntmps90;go_wp2_with fail;go_loopw [4,5] (fun ov iv wr=>∃(k:Nat) (p:Option Addr) (i q:Nat),k<=l.length/\iv=ajJ k/\ov=ajH p i q/\aM 3 (w.heap.size+1) wr (ajH p i q) (bQ P k)/\Below w w wr/\aR wr w 26 #[N,ajH a l.length c]) (fun _ iv _=>l.length-(intOf iv).toNat)
  case atStart=>exact⟨0,_,_,_,Nat.zero_le _,rfl,rfl,o0,B0,K0⟩
  case round=>
   obtain⟨k,p,i,q,hk,rfl,rfl,ho,B,K⟩:=hrel;obtain⟨wo,rfl⟩:∃wo:World,wo=wr:=⟨_,rfl⟩;clear o0 B0 K0;have G:=K.cell;go_wp2_with fail;refine(mS N l _ _ (J.below B aK) hl).mono ?_;rintro e w1 ⟨rfl,D⟩;rw[HF.out];have M:=B.after D B.size;have K1:=K.keep D;have O:=ho.keep D;clear G B K ho D;have G:=K1.cell;by_cases d6:k<l.length
   ·have b0:(k:Int)<(l.length:Int):=aI
    have a8:=fJ P k;have f4:(bQ P k).length<=64:=Nat.le_trans (fG P k) aI;have a6:=aJ a8;clear a8;have c6:=aJ (c5.out w1 (J.below M aK) k d6);go_wp2_with fail;refine c6.out.mono ?_;rintro e w3 ⟨t,rfl,Z,b3⟩;have Y:=O.keep b3;have B3:=M.after b3 M.size;have K3:=K1.keep b3;have rr:=Y.lt;have a9:((t:Int)==(k:Int))=P k:=by
     rw[<-Z];by_cases h:t=k
     ·subst h;simp
     ·rw[decide_eq_false h,beq_eq_false_iff_ne];omega
    cases F:P k with
    |false=>
     rw[F]at a9;have R:=aJ F;clear F Z;go_wp2;go_roundw
     case rel=>exact⟨k+1,p,i,q,by omega,by go_num,rfl,by rw[a6.out,R.out];exact Y,B3,K3⟩
     case measure=>simp[intOf];omega
    |true=>
     rw[F]at a9;have R:=aJ F;clear F Z;go_wp2_with (at_builtin;refine cW rfl _ _ _ rfl 3 underlying24 aP (w.heap.size+1) (ajH p i q) (bQ P k) (k:Int) _ rfl rfl (aX _ _ _ _ _ rfl) (Y.alloc _) ⟨by omega,by omega⟩ aI (by have:=K3.lt;simp;omega) ?_;intro v7 w7 o7 g7;obtain⟨p7,i7,q7,rfl⟩:=o7.shape3);have B7:=(B3.alloc B3.size (.cells #[(k:Int)] 3)).grown g7 (by have:=B3.size;simp;omega) (fun z hz=>by have:=(rr _ hz).1;omega);have K7:=(K3.alloc (.cells #[(k:Int)] 3)).grow g7 (fun e=>by have:=(rr _ e).1;omega);go_roundw
     case rel=>exact⟨k+1,p7,i7,q7,by omega,by go_num,rfl,by rw[a6.out,R.out];exact o7,B7,K7⟩
     case measure=>simp[intOf];omega
   ·have b0:¬(k:Int)<(l.length:Int):=aI;have b1:k=l.length:=aI;subst b1;go_wp2_with fail;refine(mS N l _ _ (J.below M aK) hl).mono ?_;rintro e w2 ⟨rfl,I⟩;rw[HF.out];go_wp2;go_ret2;exact⟨p,i,q,rfl,by rw[HL.out];exact(O.keep I).mono aI,M.after I M.size⟩
def J7(l k:List Int)(s t:Nat):Bool:=(cS t s==0)&&(eJ l t&&eJ k (cS s t))
def DM(l k:List Int)(s m:Nat):Bool:=bY (fun t=>!J7 l k s t) m
def kR(l k:List Int)(s:Nat):Bool:=!DM l k s (s+1)
theorem FP(l k:List Int)(s m:Nat):DM l k s (m+1)=(DM l k s m&&!J7 l k s m):=rfl
theorem XN{l k:List Int}{s t:Nat}(h:t<=s)(z:J7 l k s t=true):kR l k s=true:=by
 unfold kR DM;rw[dD (k:=t) aI (by rw[z];rfl)];rfl
def qJ(P:Nat->Bool):Nat->Nat
 |0=>0
 |t+1=>if decide (bN (qJ P t)<bN t)&&P t then t else qJ P t
theorem OC(P:Nat->Bool)(t:Nat):qJ P (t+1)=if decide (bN (qJ P t)<bN t)&&P t then t else qJ P t:=rfl
theorem MU(P:Nat->Bool):∀t,0<t->qJ P t<t:=by
 intro t
 induction t with
 |zero=>intro h;omega
 |succ t ih=>
  intro _;rw[qJ]
  split
  ·omega
  ·rcases Nat.eq_zero_or_pos t with rfl|h
   ·simp[qJ]
   ·have:=ih h;omega
theorem agJ(P:Nat->Bool)(t:Nat):qJ P t<=t:=by
 rcases Nat.eq_zero_or_pos t with rfl|h
 ·exact aK
 ·exact Nat.le_of_lt (MU P t h)
theorem aeD(P:Nat->Bool):qJ P 1=0:=by have:=MU P 1 aI;omega
def xS(n:Int)(l:List Int)(m:Int)(k:List Int):Int:=if eX n l m k then (qJ (kR l k) l.length:Int) else 0
def ajB(l k:List Int)(s:Nat):Bool:=kD l s&&kD k s
def tJ(n:Int)(l:List Int)(m:Int)(k:List Int):Int:=if eX n l m k then n else 0
def tH(n:Int)(l:List Int)(m:Int)(k:List Int):List Int:=if eX n l m k then bQ (ajB l k) l.length else []
theorem aeS:∀s:Nat,s<32->∀t:Nat,t<32->((t &&& s==t)=(cS t s==0)):=by decide +kernel
theorem ae5:∀s:Nat,s<32->∀t:Nat,t<32->(t &&& s=t->cS s t=s-t/\t<=s):=by decide +kernel
theorem FZ{n m:Int}{l k:List Int}(h:eX n l m k=true):dE n l=true/\dE m k=true:=by
 unfold eX at h;simp only[Bool.and_eq_true]at h;exact h.1
theorem A8(P:Nat->Bool)(k s:Nat):(s:Int)∈bQ P k↔(s<k/\P s=true):=by
 unfold bQ;constructor
 ·intro h;obtain⟨t,ht,z⟩:=List.mem_map.1 h;have:=Int.ofNat.inj z;subst this;have h1:=List.mem_filter.1 ht;exact⟨List.mem_range.1 h1.1,h1.2⟩
 ·rintro⟨h1,h2⟩;exact List.mem_map.2 ⟨s,List.mem_filter.2 ⟨List.mem_range.2 h1,h2⟩,rfl⟩
theorem A0(P:Nat->Bool)(k s:Nat):fP (bQ P k) (s:Int)=(decide (s<k)&&P s):=by
 unfold fP;by_cases h1:s<k
 ·rw[decide_eq_true h1,Bool.true_and]
  cases h2:P s with
  |true=>exact decide_eq_true ((A8 P k s).2 ⟨h1,h2⟩)
  |false=>exact decide_eq_false (fun h=>by have:=((A8 P k s).1 h).2;rw[h2]at this;cases this)
 ·rw[decide_eq_false h1,Bool.false_and];exact decide_eq_false (fun h=>h1 ((A8 P k s).1 h).1)
theorem PD(P Q:Nat->Bool)(k:Nat):(bQ P k).filter (fP (bQ Q k))=bQ (fun s=>P s&&Q s) k:=by
 have e:bQ P k=((List.range k).filter P).map Int.ofNat:=rfl;rw[e,List.filter_map,List.filter_filter];show _=((List.range k).filter _).map Int.ofNat
 congr 1
 refine List.filter_congr (fun s D=>?_);have z:=List.mem_range.1 D;have h1:=A0 Q k s;rw[decide_eq_true z,Bool.true_and]at h1;show(fP (bQ Q k) (s:Int)&&P s)=(P s&&Q s);rw[h1,Bool.and_comm]
theorem WD(p:Int->Bool)(L:List Int)(k:Nat)(h:k<L.length):(L.take (k+1)).filter p=(L.take k).filter p++(if p L[k] then [L[k]] else []):=by
 rw[List.take_succ_eq_append_getElem h,List.filter_append]
 congr 1
 cases z:p L[k]<;>simp[z]
theorem LR(w:World)(n:Int)(v:Value)(l:List Int)(hv:aO w v l)(hl:l.length<=1048576)(m:Int)(u:Value)(k:List Int)(hu:aO w u k)(hk:k.length<=1048576):
  Calls prog 94 #[.agg #[n,v],.agg #[m,u]] w fun e w'=>e=.returned (.tuple #[(uH n l m k),(xH n l m k),.bool (eX n l m k)])/\Below w w w':=by
 obtain⟨a,c,rfl⟩:=hv.shape;obtain⟨b,d,rfl⟩:=hu.shape;go_enter func94,ntmps94;go_wp2_with fail;refine bB ?_;intro V hV;have B:Below w w V:=fY hV;have Z:aR V w 26 #[n,ajH a l.length c]:=gL hV;have I:aR V (w.heap.size+1) 26 #[m,ajH b k.length d]:=gV hV;clear hV;refine(vM V n _ l (hv.below B aK) hl m _ k (hu.below B aK) hk).mono ?_;rintro e w1 ⟨rfl,b1⟩;have Z:=Z.keep b1;have I:=I.keep b1;have B:=B.after b1 B.size;have R:=hv.below B aK;have b5:=hu.below B aK;have z2:=I.lt
 cases z:eX n l m k with
 |false=>
  have S:uH n l m k=0:=by unfold uH;rw[z];rfl
  have Y:xH n l m k=0:=by unfold xH;rw[z];rfl
  have F:=aJ (And.intro S Y);have HF:=aJ z;clear S Y z;go_wp2;go_ret3;exact⟨by rw[F.out.1,F.out.2,HF.out];rfl,B⟩
 |true=>
  obtain⟨rfl,N,rfl,b0,D,b7,M,O,K⟩:=pU z;have S:uH N l N k=pH l k (iL l k (2^N)):=by unfold uH;rw[z,if_pos rfl,D]
  have Y:xH N l N k=(iL l k (2^N):Int):=by unfold xH;rw[z,if_pos rfl,D]
  have F:=aJ (And.intro S Y);have HF:=aJ z;have J:∀x:Ext w1,Calls prog 182 #[.agg #[(N:Int),ajH a l.length c]] x.w fun e w'=>e=.returned (ajJ (2^N-1))/\Below x.w.heap.size x.w w':=fun x=>by have:=tV (N:Int) (ajH a l.length c) l x.w (x.ints R) aI aI;rw[Int.toNat_natCast]at this;exact this
  have a6:=aJ J;have a8:=aJ (fun x:Ext w1=>MT x.w N b0 (N:Int) (N:Int) (ajH a l.length c) (ajH b k.length d) l k (x.ints R) (x.ints b5) D M O K);have e0:∀y:Ext w1,y.w.cell? ⟨w.heap.size,0,none⟩=some (ajJ N):=fun y=>y.cell (Z.cell 0);have e1:∀y:Ext w1,y.w.cell? ⟨w.heap.size,1,none⟩=some (ajH a l.length c):=fun y=>y.cell (Z.cell 1);have e2:∀y:Ext w1,y.w.cell? ⟨w.heap.size+1,0,none⟩=some (ajJ N):=fun y=>y.cell (I.cell 0);have e3:∀y:Ext w1,y.w.cell? ⟨w.heap.size+1,1,none⟩=some (ajH b k.length d):=fun y=>y.cell (I.cell 1);clear S Y z D M O K J;go_wp2_with fail;refine bJ _ aQ aQ ?_
  repeat(first|go_big_quiet_skip|(go_big_quiet_want;go_big_quiet_op;first|go_big_quiet_on|(apply Exists.intro;refine⟨fun _=>?_,?_⟩;(first|(go_at_call 182;exact bK (a6.out _))|(go_at_call 202;exact bK (a8.out _)));go_big_quiet_on)))
  refine wpQuiet_nil ?_;rintro w3 ⟨⟨w3,b3⟩,rfl⟩
  try dsimp only
  go_wp2;go_ret3;exact⟨by rw[F.out.1,F.out.2,HF.out];rfl,B.after b3 B.size⟩
theorem LS(w:World)(n:Int)(v:Value)(l:List Int)(hv:aO w v l)(hl:l.length<=1048576)(m:Int)(u:Value)(k:List Int)(hu:aO w u k)(hk:k.length<=1048576):
  Calls prog 98 #[.agg #[n,v],.agg #[m,u]] w fun e w'=>e=.returned (.tuple #[(uH n l m k),(xH n l m k),.bool (eX n l m k)])/\Below w w w':=by
 obtain⟨a,c,rfl⟩:=hv.shape;obtain⟨b,d,rfl⟩:=hu.shape;go_enter func98,ntmps98;go_wp2_with fail;refine bB ?_;intro V hV;have B:Below w w V:=fY hV;have K1:aR V w 26 #[n,ajH a l.length c]:=gL hV;have O:aR V (w.heap.size+1) 26 #[m,ajH b k.length d]:=gV hV;clear hV;refine(vN V n _ l (hv.below B aK) hl m _ k (hu.below B aK) hk).mono ?_;rintro e w1 ⟨rfl,b1⟩;have K1:=K1.keep b1;have O:=O.keep b1;have B:=B.after b1 B.size;have e7:=hv.below B aK;have e6:=hu.below B aK;have z2:=O.lt;obtain⟨aa,ba,f4,ca,b6,_,D,R,d9⟩:=hv.view prog 24 3 underlying24 aP;obtain⟨ab,bb,f5,cb,b7,_,F,S,e0⟩:=hu.view prog 24 3 underlying24 aP;simp only[Value.slice.injEq]at b6 b7;obtain⟨rfl,_,rfl⟩:=b6;obtain⟨rfl,_,rfl⟩:=b7
 cases I:eX n l m k with
 |false=>
  clear D R F S;have hx:uH n l m k=0:=by unfold uH;rw[I];rfl
  have hy:xH n l m k=0:=by unfold xH;rw[I];rfl
  have HX:=aJ (And.intro hx hy);have HF:=aJ I;clear hx hy I;go_wp2;go_ret3;exact⟨by rw[HX.out.1,HX.out.2,HF.out];rfl,B⟩
 |true=>
  obtain⟨rfl,N,rfl,b5,J,f3,Z,a1,Y⟩:=pU I;have M:=Nat.two_pow_pos N;have e5:=NC l k (2^N) M;have hx:uH N l N k=pH l k (iL l k (2^N)):=by unfold uH;rw[I,if_pos rfl,J]
  have hy:xH N l N k=(iL l k (2^N):Int):=by unfold xH;rw[I,if_pos rfl,J]
  have z:((2^N-1:Nat):Int)=(2:Int)^N-1:=by rw[Int.ofNat_sub M];simp
  obtain⟨p,hp⟩:=aN (iL l k (2^N));rw[<-hp]at hx hy e5;have K:=xG l k Z p aI;have cp:=aT R d9 B aK p aI;have ip:=fun W=>D W p aI;have dp:=aT S e0 B aK (l.length-1-p) aI;have jp:=fun W=>F W (l.length-1-p) aI;have e9:=a1 p aI;have e8:=Y (l.length-1-p) aI;obtain⟨x,b9⟩:=aN (l[p]'aI);obtain⟨y,c5⟩:=aN (k[l.length-1-p]'aI);rw[<-b9]at cp e9 K;rw[<-c5]at dp e8 K;have b8:((2:Int)^N-1)-(p:Int)=((l.length-1-p:Nat):Int):=by rw[<-z];omega
  obtain⟨r,hr⟩:=aN (l.length-1-p);simp only[<-hr]at dp jp b8;have HX:=aJ (And.intro hx (And.intro hy K));have HF:=aJ I;have d5:=aJ (fun W=>fB N W aI);have a6:=fun(W:World) (h1:aO W (ajH a l.length c) l) (h2:aO W (ajH b k.length d) k)=>VO W N b5 (N:Int) (N:Int) (ajH a l.length c) (ajH b k.length d) l k h1 h2 J Z a1 Y;rw[<-hp]at a6;have d6:=aJ a6;have p5:=cK N 5 b5;clear hx hy I J Z a1 Y K b9 c5 hr hp z D R F S a6;have G1:=K1.cell;go_wp2_with fail;refine(d5.out _).mono ?_;rintro e w2 ⟨rfl,rfl⟩;have G2:=O.cell;go_wp2_with fail;clear G1 G2;refine(d6.out _ e7 e6).mono ?_;rintro e w3 ⟨rfl,b3⟩;have K1:=K1.keep b3;have O:=O.keep b3;have B3:=B.after b3 B.size;have cp:=keep b3 cp;have dp:=keep b3 dp;have G1:=K1.cell;have G2:=O.cell;go_wp2_with fail;go_quiet (fail);go_wp2;go_ret3;exact⟨by rw[HX.out.1,HX.out.2.1,HX.out.2.2,HF.out];rfl,B3.drewN' _⟩
theorem E6(w:World)(n:Nat)(hn:n<=5)(c:FuncId)(he:∀args w,(callFunc c args).run prog w=.ok (.enter c args) w)(g1 g2:Nat)(P:Nat->Bool)
  (hw:∀(s:Nat) W',s<2^n->Below w w W'->Calls prog c #[(s:Int),.pointer (some ⟨g1,0,none⟩),.pointer (some ⟨g2,0,none⟩)] W' fun e w2=>e=.returned (.bool (P s))/\Below W' W' w2):
  Calls prog 200 #[(n:Int),.func (.func c) #[] #[.pointer (some ⟨g1,0,none⟩),.pointer (some ⟨g2,0,none⟩)]] w fun e w'=>e=.returned (ajJ (qJ P (2^n):Int))/\Below w w w':=by
 have Z:(2:Nat)^n<=32:=Nat.pow_le_pow_right (n:=2) aV hn;have K:((2^n:Nat):Int)=(2:Int)^n:=by simp
 obtain⟨N,hN⟩:∃N:Nat,N=2^n:=⟨_,rfl⟩;rw[<-hN]at hw Z K ⊢;have HW:=aJ hw;clear hN hw;go_enter func200,ntmps200;go_wp2_with fail;go_loopw [5,10] (fun S i wr=>∃t:Nat,t<=N/\i=ajJ t/\S=ajJ (qJ P t:Int)/\Below w w wr) (fun _ i _=>N-(intOf i).toNat)
 case atStart=>exact⟨0,Nat.zero_le _,rfl,rfl,Below.refl _ _⟩
 case round=>
  obtain⟨t,ht,rfl,rfl,B⟩:=hrel;have Y:=agJ P t;by_cases hlt:t<N
  ·have O:(t:Int)<2^n:=by rw[<-K];exact_mod_cast hlt
   have z:=OC P t;obtain⟨b,hb⟩:=aN (qJ P t);rw[<-hb]at Y z ⊢;have F:=aJ (fun W=>gE t W aI);have I:=aJ (fun W=>gE b W aI);have hcl:=HW.out t wr hlt B;by_cases M:bN b<bN t
   ·rw[decide_eq_true M,Bool.true_and]at z
    cases R:P t with
    |true=>
     rw[R]at hcl z;have D:=aJ z;clear R z hb;go_wp2_with (first
      |(go_at_call 165;(first|(with_reducible refine(F.out _).mono ?_)|(with_reducible refine(I.out _).mono ?_));rintro e w1 ⟨rfl,rfl⟩)
      |(go_at_fn c;refine hcl.mono ?_;rintro e w2 ⟨rfl,J⟩))
     go_roundw
     case rel=>exact⟨t+1,by omega,by go_num,by rw[D.out];rfl,B.after J B.size⟩
     case measure=>simp[intOf];omega
    |false=>
     rw[R]at hcl z;have D:=aJ z;clear R z hb;go_wp2_with (first
      |(go_at_call 165;(first|(with_reducible refine(F.out _).mono ?_)|(with_reducible refine(I.out _).mono ?_));rintro e w1 ⟨rfl,rfl⟩)
      |(go_at_fn c;refine hcl.mono ?_;rintro e w2 ⟨rfl,J⟩))
     go_roundw
     case rel=>exact⟨t+1,by omega,by go_num,by rw[D.out];rfl,B.after J B.size⟩
     case measure=>simp[intOf];omega
   ·rw[decide_eq_false M,Bool.false_and]at z;have D:=aJ z;clear z hb hcl;go_wp2_with (go_at_call 165;(first|(with_reducible refine(F.out _).mono ?_)|(with_reducible refine(I.out _).mono ?_));rintro e w1 ⟨rfl,rfl⟩);go_roundw
    case rel=>exact⟨t+1,by omega,by go_num,by rw[D.out];rfl,B⟩
    case measure=>simp[intOf];omega
  ·have O:¬(t:Int)<2^n:=by rw[<-K];exact_mod_cast hlt
   have a1:t=N:=aI;subst a1;go_wp2;go_ret;exact⟨rfl,B⟩
theorem acD(w:World)(n m:Int)(v u:Value)(l k:List Int)(hv:aO w v l)(hu:aO w u k)(a9:k.length=l.length)(e8:l.length<=32)(s:Nat)(hs:s<l.length):
  Calls prog 204 #[.agg #[n,v],.agg #[m,u],(s:Int)] w fun e w'=>∃t:Int,e=.returned (.tuple #[t,.bool (kR l k s)])/\Below w w w':=by
 have d0:=hv;have b5:=hu;obtain⟨a,c,rfl⟩:=hv.shape;obtain⟨b,d,rfl⟩:=hu.shape;have a8:=fun(W:World) (h:aO W (ajH a l.length c) l) (t:Nat) (ht:t<l.length)=>rZ W n _ l h t ht aI;have a7:=fun(W:World) (h:aO W (ajH b k.length d) k) (t:Nat) (ht:t<k.length)=>rZ W m _ k h t ht aI;have b8:=aJ a8;have b7:=aJ a7;have b9:=aJ a9;clear a8 a7 a9;have K1:=(aR.new w 26 #[n,ajH a l.length c]).alloc (.cells #[m,ajH b k.length d] 26);have K2:aR ((w.alloc (.cells #[n,ajH a l.length c] 26)).alloc (.cells #[m,ajH b k.length d] 26)) (w.heap.size+1) 26 #[m,ajH b k.length d]:=by have:=aR.new (w.alloc (.cells #[n,ajH a l.length c] 26)) 26 #[m,ajH b k.length d];simpa using this
 have B0:Below w w ((w.alloc (.cells #[n,ajH a l.length c] 26)).alloc (.cells #[m,ajH b k.length d] 26)):=wJ _ _ _;have wS:IntKind.i64.wrap ((s:Int)+1)=(s:Int)+1:=by rw[IntKind.wrap_i64];omega
 go_enter func204,ntmps204;go_wp2_with fail;go_loopw [11] (fun iv wr=>∃t:Nat,t<=s+1/\iv=ajJ t/\DM l k s t=true/\Below w w wr/\aR wr w 26 #[n,ajH a l.length c]/\aR wr (w.heap.size+1) 26 #[m,ajH b k.length d]) (fun iv _=>s+1-(intOf iv).toNat)
 case atStart=>exact⟨0,Nat.zero_le _,rfl,rfl,B0,K1,K2⟩
 case round=>
  obtain⟨t,ht,rfl,b1,B,I,J⟩:=hrel;obtain⟨wo,rfl⟩:∃z:World,z=wr:=⟨_,rfl⟩;have Y:=aJ b1;clear b1 K1 K2 B0;have G1:=I.cell;have G2:=J.cell;have z1:=I.lt;have z2:=J.lt;by_cases hlt:t<s+1
  ·have b0:(t:Int)<(s:Int)+1:=aI;have O:=FP l k s t;rw[Y.out,Bool.true_and]at O;have D:J7 l k s t=((cS t s==0)&&(eJ l t&&eJ k (cS s t))):=rfl;have c6:=vP t s aI aI;have c7:=vP s t aI aI;have a6:=xV s t l.length hs;have c1:=b8.out wo (d0.below B aK) t aI;have c2:=fun(W:World) (h:aO W (ajH b k.length d) k)=>b7.out W h (cS s t) (by rw[b9.out];exact a6);have K:J7 l k s t=true->kR l k s=true:=fun h=>XN aI h;obtain⟨x,hx⟩:∃x:Nat,x=cS t s:=⟨_,rfl⟩;obtain⟨y,hy⟩:∃y:Nat,y=cS s t:=⟨_,rfl⟩;obtain⟨p,hp⟩:=aN (eJ l t);obtain⟨q,hq⟩:=aN (eJ k (cS s t));rw[<-hx,<-hp,<-hq]at D;rw[<-hx]at c6;simp only[<-hq]at c2;simp only[<-hy]at c7 c2;rw[<-hp]at c1;have C1:=aJ c1;have C2:=aJ c2;have M:=aJ O;have c5:=aJ K;clear O c1 c2 hx hy hp hq a6 K;by_cases R:x=0
   ·have d6:((x:Int)==0)=true:=by simp[R]
    have F:(x==0)=true:=by simp[R]
    rw[F,Bool.true_and]at D
    cases p with
    |false=>
     have Z:=aJ D;clear D R F;go_wp2_with fail;refine C1.out.mono ?_;rintro e w3 ⟨rfl,N⟩;go_wp2;go_roundw
     case rel=>exact⟨t+1,by omega,by go_num,by rw[M.out,Z.out];rfl,B.after N B.size,I.keep N,J.keep N⟩
     case measure=>simp[intOf];omega
    |true=>
     rw[Bool.true_and]at D;go_wp2_with fail;refine C1.out.mono ?_;rintro e w3 ⟨rfl,N⟩;have S:=B.after N B.size;have K3:=I.keep N;have K4:=J.keep N;clear G1 G2;have G2:=K4.cell
     cases q with
     |false=>
      have Z:=aJ D;clear D R F;go_wp2_with fail;refine(C2.out _ (b5.below S aK)).mono ?_;rintro e w4 ⟨rfl,b4⟩;go_wp2;go_roundw
      case rel=>exact⟨t+1,by omega,by go_num,by rw[M.out,Z.out];rfl,S.after b4 S.size,K3.keep b4,K4.keep b4⟩
      case measure=>simp[intOf];omega
     |true=>have hr:=c5.out D;have HR:=aJ hr;clear D R F hr;go_wp2_with fail;refine(C2.out _ (b5.below S aK)).mono ?_;rintro e w4 ⟨rfl,b4⟩;go_wp2;go_ret2;exact⟨t,by rw[HR.out];rfl,S.after b4 S.size⟩
   ·have d6:((x:Int)==0)=false:=by rw[beq_eq_false_iff_ne];omega
    have F:(x==0)=false:=by simp[R]
    rw[F,Bool.false_and]at D;have Z:=aJ D;clear D R F;go_wp2;go_roundw
    case rel=>exact⟨t+1,by omega,by go_num,by rw[M.out,Z.out];rfl,B,I,J⟩
    case measure=>simp[intOf];omega
  ·have b0:¬(t:Int)<(s:Int)+1:=aI;have hr:kR l k s=false:=by unfold kR;rw[<-show t=s+1 by omega,Y.out];rfl
   have HR:=aJ hr;clear hr;go_wp2;go_ret2
   first|exact⟨0,by rw[HR.out];rfl,B⟩|exact⟨⟨0,by rw[HR.out];rfl⟩,B⟩
theorem Z1(w:World)(I J:Nat)(n m:Int)(v u:Value)(l k:List Int)(M:aO w v l)(K:aO w u k)(z:k.length=l.length)(hl:l.length<=32)(s:Nat)(R:s<l.length)(D:aR w I 26 #[n,v])(F:aR w J 26 #[m,u]):
  Calls prog 203 #[s,.pointer (some ⟨I,0,none⟩),.pointer (some ⟨J,0,none⟩)] w fun e w'=>e=.returned (.bool (kR l k s))/\Below w w w':=by
 have N:=aJ (acD w n m v u l k M K z hl s R);obtain⟨a,c,rfl⟩:=M.shape;obtain⟨b,d,rfl⟩:=K.shape;have S:=D.cell;have Y:=F.cell;have Z:=D.lt;have z2:=F.lt;clear z;go_enter func203,ntmps203;go_wp2_with fail;refine N.out.mono ?_;rintro e w1 ⟨t,rfl,O⟩;go_wp2;go_ret;exact⟨rfl,O⟩
theorem FB:∀args w,(callFunc 203 args).run prog w=.ok (.enter 203 args) w:=enters_of func203 aQ rfl
theorem afD(w:World)(n:Int)(v:Value)(l:List Int)(hv:aO w v l)(hl:l.length<=1048576)(m:Int)(u:Value)(k:List Int)(hu:aO w u k)(hk:k.length<=1048576):
  Calls prog 95 #[.agg #[n,v],.agg #[m,u]] w fun e w'=>e=.returned (.tuple #[(xS n l m k),.bool (eX n l m k)])/\Below w w w':=by
 obtain⟨a,c,rfl⟩:=hv.shape;obtain⟨b,d,rfl⟩:=hu.shape;have b3:∀(fn:Fn) (first cap:Array Value) (w:World),(Instr.makeFunc fn first cap).run prog w=.ok (.func fn first cap) w:=fun _ _ _ _=>rfl;go_enter func95,ntmps95;go_wp2_with fail;refine bB ?_;intro V O;have B:Below w w V:=fY O;have K:aR V w 26 #[n,ajH a l.length c]:=gL O;have M:aR V (w.heap.size+1) 26 #[m,ajH b k.length d]:=gV O;clear O;refine(vM V n _ l (hv.below B aK) hl m _ k (hu.below B aK) hk).mono ?_;rintro e w1 ⟨rfl,Z⟩;have K:=K.keep Z;have M:=M.keep Z;have B:=B.after Z B.size;have a9:=hv.below B aK;have a7:=hu.below B aK;have z2:=M.lt;have G1:=K.cell
 cases z:eX n l m k with
 |false=>
  have J:xS n l m k=0:=by unfold xS;rw[z];rfl
  have Y:=aJ J;have S:=aJ z;clear J z;go_wp2;go_ret2;exact⟨by rw[Y.out,S.out];rfl,B⟩
 |true=>
  obtain⟨rfl,N,rfl,a1,F,I,D,_,_⟩:=pU z;have J:xS N l N k=(qJ (kR l k) (2^N):Int):=by unfold xS;rw[z,if_pos rfl,F]
  have Y:=aJ J;have S:=aJ z;have hcl:=E6 w1 N a1 203 FB w.heap.size (w.heap.size+1) (kR l k) (fun s W' hs hB=>Z1 W' w.heap.size (w.heap.size+1) N N _ _ l k (a9.keep hB) (a7.keep hB) D I s aI (K.keep hB) (M.keep hB));have R:=aJ hcl;clear J z F D hcl;go_wp2_with fail;refine R.out.mono ?_;rintro e w2 ⟨rfl,b2⟩;go_wp2;go_ret2;exact⟨by rw[Y.out,S.out];rfl,B.after b2 B.size⟩
end
end Go.Proofs.YtcpoomdoodlkjaaGreatDoor
