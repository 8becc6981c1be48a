/- Lemmas for CardReports. No condition. -/
import Derived.Test.YtcpoomdoodlkjaaGreatDoorQ12
set_option maxRecDepth 100000
set_option maxHeartbeats 64000000
namespace Go.Proofs.YtcpoomdoodlkjaaGreatDoor
section
open Go.RowKit Go.G5 Go.Proofs.Tryz
theorem ah9(w:World)(n:Int)(v:Value)(l:List Int)(hv:aR w v l)(_:l.length<=1048576):
  Calls prog 178 #[.agg #[n,v]] w fun e w'=>∃ad i F,e=.returned (.tuple #[.agg #[(AH n l),aI ad i F],.bool (bM n l)])/\aP 3 w w' (aI ad i F) (zJ n l)/\Below w w w':=by
 obtain⟨a,b,g1,c,rfl,d7,c8,hc,hb⟩:=hv.view prog 24 3 underlying24 aS;go_enter func178,ntmps178;go_wp2_with fail;refine bH ?_;intro V hV;have B:Below w w V:=gD hV;have Z:aU V w 26 #[n,aI a l.length c]:=gO hV;have D:aU V (w.heap.size+1) 26 #[aJ,()]:=gY hV;clear hV;refine(dJ n l _ _ (hv.below B aO)).mono ?_;rintro e w1 ⟨rfl,J⟩;have Z:=Z.keep J;have D:=D.keep J;have Y:=B.after J B.size;have f5:=hv.below Y aO;clear B J;have G1:=Z.cell;have z1:=Z.lt;have z2:=D.lt
 cases K:bM n l with
 |false=>
  have hN:AH n l=0:=by unfold AH;rw[K];rfl
  have hL:zJ n l=[]:=by unfold zJ;rw[K];rfl
  have HN:=aN hN;have HL:=aN hL;have HF:=aN K;have G2:=D.cell;have F2:=D.frozen;clear hN hL;go_wp2;refine bG ?_;intro Wf z;have O:aU Wf (w.heap.size+1) 26 #[aJ,()]:=by rw[z];have:=(D.set 0 (aM 0)).set 1 (aI none 0 0);simpa using this
  have Bf:Below w w Wf:=by rw[z];exact Below.setCell (Below.setCell Y (by first|omega|(simp;done)|(simp;omega)) _) (by first|omega|(simp;done)|(simp;omega)) _
  have Gf:=O.cell;clear z G1 G2 F2;exact bodyPost_ret (v:=.tuple #[.agg #[aJ,()],.bool false]) (by simp[results,results178,go_sem,Gf]) rfl ⟨none,0,0,by rw[HN.out,HF.out],by rw[HL.out];exact aP.nil _ _ _,Bf⟩
 |true=>
  obtain⟨h0,h5,R,a7⟩:=lB K;have d6:l.length<=32:=by have hp:=(kJ h0 h5).1;omega
  have hN:AH n l=n:=by unfold AH;rw[K];rfl
  have hL:zJ n l=eR (tU l) l.length:=by unfold zJ;rw[K];rfl
  have HN:=aN hN;have HL:=aN hL;have HF:=aN K;have b8:=aN a7;have o0:=aP.lit0 (E:=3) (B:=w1.heap.size) w1 aO;clear hN hL K R a7;go_wp2_with fail;go_loopw [4,5] (fun out i wr=>∃(k:Nat) (ad:Option Addr) (N F:Nat),k<=l.length/\out=aI ad N F/\i=aM k/\aP 3 w1 wr (aI ad N F) (eR (tU l) k)/\Below w1 w1 wr)
   (fun _ i _=>l.length-(intOf i).toNat)
  case atStart=>exact⟨0,_,_,_,Nat.zero_le _,rfl,rfl,o0,bF _ _⟩
  case round=>
   obtain⟨k,ad,N,F,hk,rfl,rfl,ho,B⟩:=hrel;have HO:=aN ho;have Kr:=Z.keep B;clear ho o0 G1;have G1:=Kr.cell;have yB:=B.size;by_cases hlt:k<l.length
   ·have S:=xA (tU l) k;have a8:=EX l k hlt;have ck:=aW hc hb (Y.after B Y.size) aO (l.length-1-k) aK;have ik:=fun W=>c8 W (l.length-1-k) aK;have I:=b8.out (l.length-1-k) aK;have f6:IntKind.i64.wrap ((l.length:Int)-1)=(l.length:Int)-1:=by rw[IntKind.wrap_i64];omega
    have f7:IntKind.i64.wrap ((l.length:Int)-1-k)=((l.length-1-k:Nat):Int):=by rw[IntKind.wrap_i64];omega
    rw[<-a8]at ck I;obtain⟨x,hx⟩:=aQ (tU l k);rw[<-hx]at ck I S;have f2:(eR (tU l) k).length<=32:=by unfold eR;simp;omega
    have b9:=aN S;have f8:=I.1;have f9:=I.2;clear S a8 hx I;go_wp2_with (at_builtin;refine dI rfl _ _ _ rfl 3 underlying24 aS w1.heap.size _ _ x wr.heap.size rfl rfl (bB wr #[x] 3 0 _ rfl) (HO.out.alloc _) ⟨by omega,by omega⟩ aK aV ?_;intro v' w6 M c7 f3;obtain⟨av,nv,cv,rfl⟩:=M.shape3);have B6:Below w1 w1 w6:=(B.alloc B.size (.cells #[x] 3)).grown c7 aV (fun q hq=>(HO.out.lt q hq).1);go_roundw
    case rel=>exact⟨k+1,av,nv,cv,by omega,rfl,by go_num,by rw[b9.out];exact M,B6⟩
    case measure=>simp[intOf];omega
   ·have c9:k=l.length:=aK;subst c9;have D:=D.keep B;have B7:=Y.after B Y.size;have G2:=D.cell;have F2:=D.frozen;have g3:=D.lt;go_wp2;refine bG ?_;intro Wf z;have O:aU Wf (w.heap.size+1) 26 #[n,aI ad N F]:=by rw[z];have:=(D.set 0 (aM n)).set 1 (aI ad N F);simpa using this
    have Bf:Below w w Wf:=by rw[z];exact Below.setCell (Below.setCell B7 (by first|omega|(simp;done)|(simp;omega)) _) (by first|omega|(simp;done)|(simp;omega)) _
    have of:aP 3 w Wf (aI ad N F) (eR (tU l) l.length):=by rw[z];exact((HO.out.setBelow (by first|omega|(simp;done)|(simp;omega)) _).setBelow (by first|omega|(simp;done)|(simp;omega)) _).mono (by first|omega|(simp;done)|(simp;omega))
    have Gf:=O.cell;clear z G1 G2 F2;exact bodyPost_ret (v:=.tuple #[.agg #[n,aI ad N F],.bool true]) (by simp[results,results178,go_sem,Gf]) rfl ⟨ad,N,F,by rw[HN.out,HF.out],by rw[HL.out];exact of,Bf⟩
theorem UF(n:Int)(l:List Int)(v:Value)(w:World)(M:aR w v l)(hl:l.length<=1048576):
  Calls prog 63 #[.agg #[n,v]] w fun e w'=>e=.returned (.bool (pT n l))/\Below w w w':=by
 obtain⟨a,c,rfl⟩:=M.shape;have K0:=aU.new w 26 #[n,aI a l.length c];go_enter func63,ntmps63;go_wp2_with fail;refine(ah9 _ n _ l (M.alloc _) hl).mono ?_;rintro e w1 ⟨p1,i1,q1,rfl,Z,D⟩;have R:=K0.keep D;have J:Below w w w1:=(bF _ _).after D (by simp);have y1:=J.size;have z1:=R.lt
 cases F:bM n l with
 |false=>
  have I:pT n l=false:=by unfold pT;rw[F];rfl
  have HX:=aN I;clear I F;go_wp2;go_ret;exact⟨by rw[HX.out];rfl,(by repeat(first|exact Below.refl _ _|(with_reducible refine Below.setCell ?_ (by first|omega|(simp;done)|(simp;omega)) _)|(with_reducible refine Below.alloc ?_ (by first|omega|(simp;done)|(simp;omega)) _)|(with_reducible refine Below.drewN' ?_ _)|(with_reducible refine Below.drew ?_)|(with_reducible assumption)|refine Below.trans ?_ (Below.mono (by assumption) (by first|omega|(simp;done)|(simp;omega)))))⟩
 |true=>
  have I:pT n l=decide (l=pE l):=by unfold pT;rw[F];rfl
  have S:zJ n l=pE l:=by unfold zJ;rw[F];rfl
  rw[S]at Z;have z:=fun W (h1:aR W (aI a l.length c) l) (h2:aR W (aI p1 i1 q1) (pE l))=>ZG _ _ l (pE l) W h1 h2;simp only[<-I]at z;have K:=aN z;obtain⟨N,Y⟩:=aQ (AH n l);rw[<-Y];have O:=M.below J aO;clear I Y S z F;have G1:=R.cell;go_wp2_with (go_at_call 179;refine(K.out _ (O.alloc _) (Z.alloc _).ints).mono ?_;rintro e w2 ⟨rfl,nn,rfl⟩);go_ret;exact⟨rfl,(J.alloc J.size _).drewN' _⟩
theorem JT(n:Int)(l:List Int)(v:Value)(w:World)(N:aR w v l)(hl:l.length<=1048576):
  Calls prog 190 #[.agg #[n,v]] w fun e w'=>e=.returned (.bool (jP n l))/\Below w w w':=by
 obtain⟨a,c,rfl⟩:=N.shape;have K:=aU.new w 26 #[n,aI a l.length c];have S:=K.cell;by_cases O:2<=n
 ·go_enter func190,ntmps190;go_wp2_with fail;refine(sE n l _ _ (N.alloc _) hl).mono ?_;rintro e w1 ⟨rfl,D⟩;have Y:=K.keep D;have I:Below w w w1:=(bF _ _).after D (by simp);clear D K S
  cases J:gR n l with
  |false=>
   have z:jP n l=false:=by unfold jP;rw[J];rfl
   have F:=aN z;clear z J;go_wp2;go_ret;exact⟨by rw[F.out];rfl,I⟩
  |true=>
   have z:jP n l=pT n l:=by unfold jP;rw[J,decide_eq_true O];simp
   have F:=aN z;clear J z;have Z:=Y.cell;go_wp2_with fail;refine(UF n l _ _ (N.below I aO) hl).mono ?_;rintro e w2 ⟨rfl,M⟩;have R:=I.after M I.size;go_wp2;go_ret;exact⟨by rw[F.out];rfl,R⟩
 ·have z:jP n l=false:=by unfold jP;rw[decide_eq_false O];simp
  have F:=aN z;clear z;go_enter func190,ntmps190;go_wp2;go_ret;exact⟨by rw[F.out];rfl,bF _ _⟩
theorem abZ(w:World)(n:Int)(v:Value)(l:List Int)(hv:aR w v l)(hl:l.length<=1048576):
  Calls prog 82 #[.agg #[n,v]] w fun e w'=>e=.returned (.tuple #[(qK n l),(uN n l),.bool (jP n l)])/\Below w w w':=by
 have b1:=hv;obtain⟨a,b,f0,c,rfl,d5,Z,hc,hb⟩:=hv.view prog 24 3 underlying24 aS;have K0:=aU.new w 26 #[n,aI a l.length c]
 cases F:jP n l with
 |false=>
  have S:qK n l=0:=by unfold qK;rw[F];rfl
  have Y:uN n l=0:=by unfold uN;rw[F];rfl
  have H:=aN (And.intro S Y);have HF:=aN F;clear S Y F hc;go_enter func82,ntmps82;go_wp2_with (go_at_call 190;refine(JT n l _ _ (b1.alloc _) hl).mono ?_;rintro e w1 ⟨rfl,z⟩;rw[HF.out]);go_ret3;exact⟨by rw[H.out.1,H.out.2];rfl,(bF _ _).after z (by simp)⟩
 |true=>
  obtain⟨h4,e7,I,e9,a7⟩:=RR F;have e8:0<=n:=by have:=(MK F).2;omega
  have S:qK n l=l.getD (jN l (l.length-1)) 0:=by unfold qK;rw[F];rfl
  have Y:uN n l=(jN l (l.length-1):Int):=by unfold uN;rw[F];rfl
  have H:=aN (And.intro S Y);have HF:=aN F;have e0:=aN a7;have HC:=aN hc;have M:=aN Z;have N:=aN I;clear S Y F a7 hc Z I;go_enter func82,ntmps82;go_wp2_with fail;refine(JT n l _ _ (b1.alloc _) hl).mono ?_;rintro e w1 ⟨rfl,z⟩;rw[HF.out];have K1:=K0.keep z;have B1:Below w w w1:=(bF _ _).after z (by simp);clear K0 z;go_wp2_with fail;go_loopw [5,6] (fun b9 i wr=>∃k:Nat,2<=k/\k<=l.length-1/\i=aM k/\b9=aM (jN l k:Int)/\Below w w wr/\aU wr w 26 #[n,aI a l.length c]) (fun _ i _=>l.length-(intOf i).toNat)
  case atStart=>exact⟨2,by omega,by omega,rfl,rfl,B1,K1⟩
  case round=>
   obtain⟨k,a1,hk,rfl,rfl,B,K⟩:=hrel;have G1:=K.cell;have c5:=NP l k a1;obtain⟨p,hp⟩:=aQ (jN l k);rw[<-hp]at c5 ⊢;have cp:=HC.out p aK;have R:=aW HC.out hb B aO p aK;have ip:=fun W=>M.out W p aK;by_cases hlt:k<l.length-1
   ·have D:=zQ l k a1;rw[<-hp,aX l k aK,aX l p aK]at D;have ck:=aW HC.out hb B aO k aK;have ik:=fun W=>M.out W k aK;obtain⟨x,hx⟩:=aQ (l[k]);obtain⟨y,hy⟩:=aQ (l[p]);rw[<-hx]at ck D;rw[<-hy]at R D;have a8:(k:Int)<2^n.toNat-1:=by rw[<-N.out];omega
    have O:=aN D;clear D hp hx hy cp;have c7:IntKind.i64.wrap ((l.length:Int)-1)=(l.length:Int)-1:=by rw[IntKind.wrap_i64];omega
    have a9:(k:Int)<(l.length:Int)-1:=aK;have B3:=B;have K3:=K;by_cases b3:x<y
    ·have J:=aN (O.out.trans (if_pos b3));go_wp2_with fail;go_quiet (fail);go_wp2;go_roundw
     case rel=>exact⟨k+1,by omega,by omega,by go_num,by rw[J.out],B3.drewN' _,K3.drewN _⟩
     case measure=>simp[intOf];omega
    ·have J:=aN (O.out.trans (if_neg b3));go_wp2_with fail;go_quiet (fail);go_wp2;go_roundw
     case rel=>exact⟨k+1,by omega,by omega,by go_num,by rw[J.out],B3.drewN' _,K3.drewN _⟩
     case measure=>simp[intOf];omega
   ·have a6:k=l.length-1:=aK;have a8:¬(k:Int)<2^n.toNat-1:=by rw[<-N.out];omega
    have hg:l.getD p 0=l[p]:=aX l p aK;obtain⟨y,hy⟩:=aQ (l[p]);rw[<-hy]at R hg;have HP:=aN hp;have HG:=aN hg;have b8:=aN a6;clear hp hg a6 hy cp;have c7:IntKind.i64.wrap ((l.length:Int)-1)=(l.length:Int)-1:=by rw[IntKind.wrap_i64];omega
    have a9:¬(k:Int)<(l.length:Int)-1:=aK;have B3:=B;go_wp2;go_ret3;exact⟨by rw[H.out.1,H.out.2,<-b8.out,<-HP.out,HG.out];rfl,B3⟩
theorem FA(w:World)(n:Nat)(hn:n<=5)(c:FuncId)(he:∀args w,(callFunc c args).run prog w=.ok (.enter c args) w)(g g':Nat)(F:Nat->Int)(hF:∀s,s<2^n->dD (F s))
  (hw:∀(s:Nat) W',s<2^n->Below w w W'->Calls prog c #[(s:Int),.pointer (some ⟨g,0,none⟩),.pointer (some ⟨g',0,none⟩)] W' fun e w2=>e=.returned (F s)/\Below W' W' w2):
  Calls prog 262 #[(n:Int),.func (.func c) #[] #[.pointer (some ⟨g,0,none⟩),.pointer (some ⟨g',0,none⟩)]] w fun e w'=>
   ∃ad i I,e=.returned (.tuple #[.agg #[aM (if bM n (eR F (2^n)) then (n:Int) else 0),aI ad i I],.bool (bM n (eR F (2^n)))])/\aP 3 w w' (aI ad i I) (if bM n (eR F (2^n)) then eR F (2^n) else [])/\Below w w w':=by
 have b5:(2:Nat)^n<=32:=Nat.pow_le_pow_right aY hn;have b4:=Nat.two_pow_pos n;have O:((2^n:Nat):Int)=(2:Int)^n:=by simp
 obtain⟨N,hN⟩:∃N:Nat,N=2^n:=⟨_,rfl⟩;rw[<-hN]at hw hF b5 b4 O ⊢;clear hN;have r0:=(BoxAt.new w (aM 0) (aI none 0 0) 26);have r1:=r0.keep (bF _ (.cells #[n,()] 26));have b1:=BoxAt.new (w.alloc (.cells #[aJ,()] 26)) (aM n) (aI none 0 0) 26;go_enter func262,ntmps262;go_wp2_with fail;go_loopw [13] (fun i wr=>∃(k:Nat) (ad:Option Addr) (Z I:Nat),k<=N/\i=aM k/\aP 3 (w.heap.size+1+1) wr (aI ad Z I) (eR F k)/\Below w w wr /\
   BoxAt wr w.heap.size (aM 0) (aI none 0 0)/\BoxAt wr (w.heap.size+1) (aM n) (aI ad Z I))
  (fun i _=>N-(intOf i).toNat)
 case atStart=>exact⟨0,none,0,0,Nat.zero_le _,rfl,aP.nil _ _ _,(by repeat(first|exact Below.refl _ _|(with_reducible refine Below.setCell ?_ (by first|omega|(simp;done)|(simp;omega)) _)|(with_reducible refine Below.alloc ?_ (by first|omega|(simp;done)|(simp;omega)) _)|(with_reducible refine Below.drewN' ?_ _)|(with_reducible refine Below.drew ?_)|(with_reducible assumption)|refine Below.trans ?_ (Below.mono (by assumption) (by first|omega|(simp;done)|(simp;omega))))),r1,by simpa using b1⟩
 case round=>
  obtain⟨k,ad,Z,I,hk,rfl,S,B,R,X⟩:=hrel;clear r0 r1 b1;by_cases hlt:k<N
  ·have Y:(k:Int)<2^n:=by rw[<-O];exact_mod_cast hlt
   have zr:=R.lt;have zx:=X.lt;have b0:=hF k hlt;have d6:(eR F k).length=k:=by simp[eR]
   have f5:(eR F k).length<=64:=aK;have D:=S.lt;have HO:=aN S;have HR:=aN R;have K:=aN X;obtain⟨e0,e1,g0,g1⟩:=X;clear S R;have hcl:=hw k wr.drew hlt B.drew;clear hw;go_wp2;go_region_law
     (first
      |(go_simp;go_at_fn c;refine hcl.mono ?_;rintro e w2 ⟨rfl,z⟩;have X2:=K.out.keep ((Below.refl _ _).drew.after z aO);have X3:=X2.keep (bF w2 (.cells #[(F k)] 3));have g2:=X2.lt;have x1:=X2.d1;have x2:=X2.f1;have x3:=X3.d1;have x4:=X3.f1)
      |(refine rU rfl _ _ _ rfl 3 underlying24 aS (w.heap.size+1+1) _ _ (F k) w2.heap.size rfl rfl (bB w2 #[(F k)] 3 0 _ rfl) ((HO.out.keep ((Below.refl _ _).drew.after z aO)).alloc (.cells #[(F k)] 3)) b0 aK aV ?_;intro v' w6 J M;obtain⟨av,nv,cv,rfl⟩:=J.shape3;have X6:=X3.grow M (fun e=>by have:=(D _ e).1;omega);obtain⟨i0,i1,j0,j1⟩:=X6))
   all_goals
    have B6:Below w w w6:=(((B.drew).after z B.size).alloc (B.drew.after z B.size).size (.cells #[(F k)] 3)).grown M aV (fun q hq=>by have:=(D q hq).1;omega);have R6:=((HR.out.keep ((Below.refl _ _).drew.after z aO)).keep (bF w2 (.cells #[(F k)] 3))).grow M (fun e=>by have:=(D _ e).1;omega);go_wp2;go_roundw
    case rel=>exact⟨k+1,av,nv,cv,by omega,by go_num,by rw[xA];exact J.setBelow (by first|omega|(simp;done)|(simp;omega)) _,B6.setCell (by first|omega|(simp;done)|(simp;omega)) _,R6.other aK _,(BoxAt.mk i0 i1 j0 j1).set1 _⟩
    case measure=>simp[intOf];omega
  ·have Y:¬(k:Int)<2^n:=by rw[<-O];exact_mod_cast hlt
   have b3:k=N:=aK;subst b3;have HO:=aN S;have HR:=aN R;have K:=aN X;obtain⟨e0,e1,g0,g1⟩:=X;have hi:=S.ints;clear S hw R;go_wp2_with fail;refine(dV n _ _ _ hi).mono ?_;rintro e w2 ⟨rfl,z⟩;have B2:=B.after z B.size;have o2:=HO.out.keep z;have a7:=aN o2;obtain⟨f0,f1,j0,j1⟩:=HR.out.keep z;obtain⟨i0,i1,q0,q1⟩:=K.out.keep z;clear e0 e1 g0 g1 z B o2 hi
   cases hf:bM n (eR F k) with
   |false=>
     have HF:=aN hf;go_wp2
     all_goals refine bodyPost_ret (v:=.tuple #[.agg #[aJ,()],.bool false]) (by simp[results,results262,go_sem,f0,f1]) rfl ⟨none,0,0,rfl,aP.nil _ _ _,Below.setCell (Below.setCell B2 aO _) aO _⟩
   |true=>
     have HF:=aN hf;go_wp2;refine bodyPost_ret (v:=.tuple #[.agg #[n,aI ad Z I],.bool true]) (by simp[results,results262,go_sem,f0,f1]) rfl ⟨ad,Z,I,rfl,?_,?_⟩
     ·exact((a7.out.setBelow (by first|omega|(simp;done)|(simp;omega)) _).setBelow (by first|omega|(simp;done)|(simp;omega)) _).mono (by first|omega|(simp;done)|(simp;omega))
     ·exact Below.setCell (Below.setCell B2 aO _) aO _
def xZ(l:List Int)(s:Nat):Int:=-(l.getD s 0)
def jZ(l:List Int):List Int:=eR (xZ l) l.length
def zH(n:Int)(l:List Int):Int:=if bM n l then n else 0
def zG(n:Int)(l:List Int):List Int:=if bM n l then jZ l else []
theorem tT(l:List Int):(jZ l).length=l.length:=by unfold jZ eR;simp
theorem EW(l:List Int)(s:Nat)(h:s<l.length):xZ l s=-l[s]:=by unfold xZ;rw[aX l _ h]
theorem XG(l:List Int)(s:Nat)(h:s<l.length):(jZ l)[s]'(by rw[tT];exact h)=-l[s]:=by
 unfold jZ eR;rw[List.getElem_map,List.getElem_range];exact EW l s h
theorem XH(n:Int)(l:List Int)(h:bM n l=true):bM n (jZ l)=true:=by
 obtain⟨I,J,z,D⟩:=lB h;unfold bM kO;rw[tT,dK.2 ⟨I,J⟩,decide_eq_true z];simp only[Bool.true_and,List.all_eq_true];intro x K;obtain⟨s,F,rfl⟩:=List.getElem_of_mem K;rw[tT]at F;rw[XG l s F];have:=D s F;exact dK.2 ⟨by omega,by omega⟩
theorem ZP(l:List Int)(v:Value)(g h s:Nat)(W:World)(hv:aR W v l)(I:s<l.length)(F:∀k,(hk:k<l.length)->-1000<=l[k]/\l[k]<=1000)
  (Z:W.cell? ⟨h,0,none⟩=some (aM (-1))) (c1:W.cell? ⟨g,1,none⟩=some v):
  Calls prog 263 #[s,.pointer (some ⟨h,0,none⟩),.pointer (some ⟨g,0,none⟩)] W fun e w'=>e=.returned (xZ l s)/\Below W W w':=by
 obtain⟨a,b,N,c,rfl,R,D,hc,hb⟩:=hv.view prog 24 3 underlying24 aS;have M:=EW l s I;have z:=hc s I;have O:=fun W=>D W s I;have K:=F s I;obtain⟨x,S⟩:=aQ (l[s]);rw[<-S]at M z K;have e0:∀y:Ext W,y.w.cell? ⟨h,0,none⟩=some (aM (-1)):=fun y=>y.cell Z;have e1:∀x:Ext W,x.w.cell? ⟨g,1,none⟩=some (aI a l.length c):=fun x=>x.cell c1;have e2:∀y:Ext W,y.w.cell? ⟨b,N+s,none⟩=some (aM x):=fun y=>y.cell z;have Y:=aN M;clear hc D hb M z S F;go_enter func263,ntmps263;go_wp2_with fail;refine bN _ aT aT ?_
 repeat(first|go_big_quiet_skip|(go_big_quiet_want;go_big_quiet_op;first|go_big_quiet_on|(apply Exists.intro;refine⟨fun _=>?_,?_⟩;(fail);go_big_quiet_on)))
 refine wpQuiet_nil ?_;rintro w3 ⟨⟨w3,J⟩,rfl⟩
 try dsimp only
 go_wp2;go_ret;exact⟨fI (by rw[Y.out]),J⟩
theorem FC:∀args w,(callFunc 263 args).run prog w=.ok (.enter 263 args) w:=enters_of func263 aT rfl
theorem ah4(w:World)(n:Int)(v:Value)(l:List Int)(hv:aR w v l)(_:l.length<=1048576):
  Calls prog 169 #[.agg #[n,v],aM (-1)] w fun e w'=>∃ad i cp,e=.returned (.tuple #[.agg #[(zH n l),aI ad i cp],.bool (bM n l)])/\aP 3 w w' (aI ad i cp) (zG n l)/\Below w w w':=by
 obtain⟨a,c,rfl⟩:=hv.shape;have e4:∀(fn:Fn) (first cap:Array Value) (w:World),(Instr.makeFunc fn first cap).run prog w=.ok (.func fn first cap) w:=fun _ _ _ _=>rfl;have Z:=aN (fun W=>jF (-1) (-1000) 1000 W);rw[show eZ (-1) (-1000) 1000=true by decide]at Z;go_enter func169,ntmps169;go_wp2_with fail;refine bH ?_;intro V hV;have B:Below w w V:=by rw[hV];exact bl3 _ _ _ _
 have K1:aU V w 26 #[n,aI a l.length c]:=by rw[hV];exact((aU.new _ _ _).alloc _).alloc _
 have O:aU V (w.heap.size+1) 3 #[aM (-1)]:=by rw[hV];have:=(aU.new (w.alloc (.cells #[n,aI a l.length c] 26)) 3 #[aM (-1)]).alloc (.cells #[aJ,()] 26);simpa using this
 have F:aU V (w.heap.size+1+1) 26 #[aJ,()]:=by rw[hV];have:=aU.new ((w.alloc (.cells #[n,aI a l.length c] 26)).alloc (.cells #[aM (-1)] 3)) 26 #[aJ,()];simpa using this
 clear hV;refine(dV n l _ _ (hv.below B aO)).mono ?_;rintro e w1 ⟨rfl,I⟩;have K1:=K1.keep I;have O:=O.keep I;have M:=O.cell;have F:=F.keep I;have B1:=B.after I B.size;have d6:=hv.below B1 aO;clear B I;have G1:=K1.cell;have z1:=K1.lt;have z2:=F.lt
 cases K:bM n l with
 |false=>
  have hN:zH n l=0:=by unfold zH;rw[K];rfl
  have hL:zG n l=[]:=by unfold zG;rw[K];rfl
  have HN:=aN hN;have HL:=aN hL;have HF:=aN K;have G2:=F.cell;have F2:=F.frozen;clear hN hL;go_wp2;refine bG ?_;intro Wf z;have R:aU Wf (w.heap.size+1+1) 26 #[aJ,()]:=by rw[z];have:=(F.set 0 (aM 0)).set 1 (aI none 0 0);simpa using this
  have Bf:Below w w Wf:=by rw[z];exact Below.setCell (Below.setCell B1 (by first|omega|(simp;done)|(simp;omega)) _) (by first|omega|(simp;done)|(simp;omega)) _
  have Gf:=R.cell;clear z G1 M G2 F2;exact bodyPost_ret (v:=.tuple #[.agg #[aJ,()],.bool false]) (by simp[results,results169,go_sem,Gf]) rfl ⟨none,0,0,by rw[HN.out,HF.out],by rw[HL.out];exact aP.nil _ _ _,Bf⟩
 |true=>
  obtain⟨h0,h5,J,Y⟩:=lB K;obtain⟨N,rfl⟩:=Int.eq_ofNat_of_zero_le h0;have d0:N<=5:=aK;have b0:l.length=2^N:=by
   have e2:(N:Int).toNat=N:=aK;rw[e2]at J
   exact_mod_cast J
  have hN:zH N l=N:=by unfold zH;rw[K];rfl
  have hL:zG N l=jZ l:=by unfold zG;rw[K];rfl
  have D:eR (xZ l) (2^N)=jZ l:=by unfold jZ;rw[b0]
  have a9:bM N (eR (xZ l) (2^N))=true:=by rw[D];exact XH N l K
  have b1:∀W,aR W (aI a l.length c) l->W.cell? ⟨w.heap.size+1,0,none⟩=some (aM (-1))->W.cell? ⟨w.heap.size,1,none⟩=some (aI a l.length c)->Calls prog 262 #[N,.func (.func 263) #[] #[.pointer (some ⟨w.heap.size+1,0,none⟩),.pointer (some ⟨w,0,none⟩)]] W fun e w'=>
    ∃ad i cp,e=.returned (.tuple #[.agg #[N,aI ad i cp],.bool true])/\aP 3 W w' (aI ad i cp) (jZ l)/\Below W W w':=fun W hW c0 c1=>by
   have:=FA W N d0 263 FC (w.heap.size+1) w.heap.size (xZ l) (fun s hs=>by rw[EW l s aK];have:=Y s aK;exact⟨by omega,by omega⟩)
    (fun s W' hs hB=>ZP l _ w.heap.size (w.heap.size+1) s W' (hW.keep hB) aK Y (keep hB c0) (keep hB c1))
   rw[a9,if_pos rfl,if_pos rfl,D]at this;exact this
  have HN:=aN hN;have HL:=aN hL;have HF:=aN K;have c8:=aN b1;clear hN hL K D a9 b1 b0 J Y;go_wp2_with fail;refine(Z.out _).mono ?_;rintro e w2 ⟨rfl,rfl⟩;go_wp2_with fail;refine(c8.out _ d6 (M 0) (G1 1)).mono ?_;rintro e w3 ⟨p3,i3,q3,rfl,o3,S⟩;have F:=F.keep S;have B3:=B1.after S B1.size;have G2:=F.cell;have F2:=F.frozen;have z3:=F.lt;clear G1 M S;go_wp2;refine bG ?_;intro Wf z;have R:aU Wf (w.heap.size+1+1) 26 #[N,aI p3 i3 q3]:=by rw[z];have:=(F.set 0 (aM N)).set 1 (aI p3 i3 q3);simpa using this
  have Bf:Below w w Wf:=by rw[z];exact Below.setCell (Below.setCell B3 (by first|omega|(simp;done)|(simp;omega)) _) (by first|omega|(simp;done)|(simp;omega)) _
  have of:aP 3 w Wf (aI p3 i3 q3) (jZ l):=by rw[z];exact((o3.setBelow (by first|omega|(simp;done)|(simp;omega)) _).setBelow (by first|omega|(simp;done)|(simp;omega)) _).mono (by first|omega|(simp;done)|(simp;omega))
  have Gf:=R.cell;clear z G2 F2;exact bodyPost_ret (v:=.tuple #[.agg #[N,aI p3 i3 q3],.bool true]) (by simp[results,results169,go_sem,Gf]) rfl ⟨p3,i3,q3,by rw[HN.out,HF.out],by rw[HL.out];exact of,Bf⟩
theorem ah5(w:World)(n:Int)(v:Value)(l:List Int)(hv:aR w v l)(_:l.length<=1048576):
  Calls prog 177 #[.agg #[n,v],aM (-1)] w fun e w'=>∃ad i F,e=.returned (.tuple #[.agg #[(zH n l),aI ad i F],.bool (bM n l)])/\aP 3 w w' (aI ad i F) (zG n l)/\Below w w w':=by
 obtain⟨a,b,h9,c,rfl,f5,e5,hc,hb⟩:=hv.view prog 24 3 underlying24 aS;have a7:=aN (fun W=>cQ (-1) (-1000) 1000 W);rw[show eZ (-1) (-1000) 1000=true by decide]at a7;go_enter func177,ntmps177;go_wp2_with fail;refine bH ?_;intro V hV;have B:Below w w V:=by rw[hV];exact bl3 _ _ _ _
 have K1:aU V w 26 #[n,aI a l.length c]:=by rw[hV];exact((aU.new _ _ _).alloc _).alloc _
 have D:aU V (w.heap.size+1) 26 #[aJ,()]:=by rw[hV];have:=(aU.new (w.alloc (.cells #[n,aI a l.length c] 26)) 26 #[aJ,()]).alloc (.cells #[] 3);simpa using this
 have o0:aP 3 (w.heap.size+1+1) V (aI (some ⟨w.heap.size+1+1,0,none⟩) 0 0) []:=by rw[hV];have:=aP.lit0 (E:=3) (B:=w.heap.size+1+1) ((w.alloc (.cells #[n,aI a l.length c] 26)).alloc (.cells #[aJ,()] 26)) (by simp);simpa using this
 clear hV;refine(dJ n l _ _ (hv.below B aO)).mono ?_;rintro e w1 ⟨rfl,I⟩;have K1:=K1.keep I;have D:=D.keep I;have o0:=o0.keep I;have B1:=B.after I B.size;have g9:=hv.below B1 aO;clear B I;have G1:=K1.cell;have z1:=K1.lt;have z2:=D.lt
 cases M:bM n l with
 |false=>
  have hN:zH n l=0:=by unfold zH;rw[M];rfl
  have hL:zG n l=[]:=by unfold zG;rw[M];rfl
  have HN:=aN hN;have HL:=aN hL;have HF:=aN M;have G2:=D.cell;have F2:=D.frozen;clear hN hL;go_wp2;refine bG ?_;intro Wf z;have R:aU Wf (w.heap.size+1) 26 #[aJ,()]:=by rw[z];have:=(D.set 0 (aM 0)).set 1 (aI none 0 0);simpa using this
  have Bf:Below w w Wf:=by rw[z];exact Below.setCell (Below.setCell B1 (by first|omega|(simp;done)|(simp;omega)) _) (by first|omega|(simp;done)|(simp;omega)) _
  have Gf:=R.cell;clear z G1 G2 F2;exact bodyPost_ret (v:=.tuple #[.agg #[aJ,()],.bool false]) (by simp[results,results177,go_sem,Gf]) rfl ⟨none,0,0,by rw[HN.out,HF.out],by rw[HL.out];exact aP.nil _ _ _,Bf⟩
 |true=>
  obtain⟨h0,h5,Z,b1⟩:=lB M;have f4:l.length<=32:=by have hp:=(kJ h0 h5).1;omega
  have hN:zH n l=n:=by unfold zH;rw[M];rfl
  have hL:zG n l=eR (xZ l) l.length:=by unfold zG;rw[M];rfl
  have b5:=XH n l M;have HN:=aN hN;have HL:=aN hL;have HF:=aN M;have e0:=aN b5;have d6:=aN b1;clear hN hL M Z b1 b5;go_wp2_with fail;refine(a7.out _).mono ?_;rintro e w2 ⟨rfl,rfl⟩;go_wp2_with fail;go_loopw [6,7] (fun out i wr=>∃(k:Nat) (ad:Option Addr) (J F:Nat),k<=l.length/\out=aI ad J F/\i=aM k/\aP 3 (w.heap.size+1+1) wr (aI ad J F) (eR (xZ l) k)/\aU wr w 26 #[n,aI a l.length c]/\aU wr (w.heap.size+1) 26 #[aJ,()]/\Below w w wr)
   (fun _ i _=>l.length-(intOf i).toNat)
  case atStart=>exact⟨0,_,_,_,Nat.zero_le _,rfl,rfl,o0,K1,D,B1⟩
  case round=>
   obtain⟨k,ad,J,F,hk,rfl,rfl,ho,Kr,S,B⟩:=hrel;have HO:=aN ho;clear ho o0 G1 K1 D z1 z2;have G1:=Kr.cell;have yB:=B.size;have z2:=S.lt;by_cases hlt:k<l.length
   ·have N:=xA (xZ l) k;have b6:=EW l k hlt;have ck:=aW hc hb B aO k hlt;have ik:=fun W=>e5 W k hlt;have K:=d6.out k hlt;rw[b6]at N;obtain⟨x,hx⟩:=aQ (l[k]);rw[<-hx]at ck K N;have g7:(eR (xZ l) k).length<=32:=by unfold eR;simp;omega
    have d8:=aN N;have h6:=K.1;have h7:=K.2;clear N b6 hx K;go_wp2_with (at_builtin;refine dI rfl _ _ _ rfl 3 underlying24 aS (w.heap.size+1+1) _ _ (-x) wr.heap.size rfl rfl (bB wr #[aM (-x)] 3 0 _ rfl) (HO.out.alloc _) ⟨by omega,by omega⟩ aK aV ?_;intro v' w6 O Y g8;obtain⟨av,nv,cv,rfl⟩:=O.shape3);have a1:=HO.out.lt;have B6:Below w w w6:=(B.alloc B.size (.cells #[aM (-x)] 3)).grown Y aV (fun q hq=>by have:=(a1 q hq).1;omega);have K6:=(Kr.alloc (.cells #[aM (-x)] 3)).grow Y (fun e=>by have:=(a1 _ e).1;omega);have K7:=(S.alloc (.cells #[aM (-x)] 3)).grow Y (fun e=>by have:=(a1 _ e).1;omega);go_roundw
    case rel=>exact⟨k+1,av,nv,cv,by omega,rfl,by go_num,by rw[d8.out];exact O,K6,K7,B6⟩
    case measure=>simp[intOf];omega
   ·have e6:k=l.length:=aK;subst e6;have b3:=fun(W:World) (h:aR W (aI ad J F) (jZ l))=>JW W n ad J F (jZ l) h e0.out;have d7:=aN b3;clear b3;go_wp2_with fail;refine(d7.out wr HO.out.ints).mono ?_;rintro e w4 ⟨rfl,b4⟩;have D:=S.keep b4;have B4:=B.after b4 B.size;have o4:=HO.out.keep b4;have F2:=D.frozen;have G2:=D.cell;have z4:=D.lt;clear G1;go_wp2;refine bG ?_;intro Wf z;have R:aU Wf (w.heap.size+1) 26 #[n,aI ad J F]:=by rw[z];have:=((D.set 0 (aM n)).set 1 (aI ad J F)).alloc (.cells #[n,aI ad J F] 26);simpa using this
    have hg:w4.grownBy Wf (some (w.heap.size+1)):=by rw[z];exact eF (dW (dW (World.grownBy.refl _ _) 0 _) 1 _) (fN _ (bF _ _))
    have Bf:Below w w Wf:=B4.grown hg B4.size kH;have e8:=o4.lt;have of:=(o4.grow hg (fun q hq e=>by have:=Option.some.inj hq;have:=(e8 _ e).1;omega)).mono (B':=w.heap.size) aK;have Gf:=R.cell;clear z G2 F2;exact bodyPost_ret (v:=.tuple #[.agg #[n,aI ad J F],.bool true]) (by simp[results,results177,go_sem,Gf]) rfl ⟨ad,J,F,by rw[HN.out,HF.out],by rw[HL.out];exact of,Bf⟩
end
end Go.Proofs.YtcpoomdoodlkjaaGreatDoor
