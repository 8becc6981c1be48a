/- Lemmas for CardConsoleResults. No condition. -/
import Derived.Test.YtkdbkjjacgigiaaGreatDoorQ06
import Derived.Deep.RegionLaw
import Derived.StillTailTactics
set_option maxRecDepth 100000
set_option maxHeartbeats 64000000
namespace Go.Proofs.YtkdbkjjacgigiaaGreatDoor
section
open Go.RowKit Go.G5 Go.Proofs.Tryz
theorem IF(w:World)(g:Int)(v:Value)(l:List Int)(hv:aK w v l)(j7:l.length<=1048576):
  Calls prog 234 #[.agg #[g,v]] w fun e w'=>∃ad i cp,e=.returned (.tuple #[aA ad i cp,.bool (eV g l)])/\aM 3 w w' (aA ad i cp) (dD g l)/\Below w w w':=by
 obtain⟨a,b,j9,c,rfl,g6,j6,hc,hb⟩:=hv.view prog 25 3 underlying25 aN;obtain⟨Y,d1,B1,z1⟩:=Box2.new w g (aA a l.length c) 29;obtain⟨W0,K⟩:=aJ (w.alloc (.cells #[g,aA a l.length c] 29));rw[<-K]at Y d1 B1 z1
 cases hf:aU g l with
 |false=>
  have hx:gD g l=none:=by unfold gD;rw[hf];rfl
  have F:eV g l=false:=by unfold eV;rw[hx];rfl
  have I:dD g l=[]:=by unfold dD;rw[hx];rfl
  have HB:=aH F;have HL:=aH I;clear hx F I hc;go_enter func234,ntmps234;go_wp2;rw[<-K];clear K;have e0:∀x:Ext W0,x.w.cell? ⟨w.heap.size,0,none⟩=some (aG g):=fun x=>x.cell Y;have e1:∀x:Ext W0,x.w.cell? ⟨w.heap.size,1,none⟩=some (aA a l.length c):=fun x=>x.cell d1;have D:=hv.below B1 aI;refine bH _ aO aO ?_
  repeat(first|go_big_quiet_skip|(go_big_quiet_want;go_big_quiet_op;first|go_big_quiet_on|(apply Exists.intro;refine⟨fun _=>?_,?_⟩;(go_at_call 146;exact wO (cQ g l _ _ (Ext.ints _ D)) hf);go_big_quiet_on)))
  refine wpQuiet_nil ?_;rintro w3 ⟨⟨w3,M⟩,rfl⟩
  try dsimp only
  clear e0 e1;have B3:=B1.after M B1.size;go_wp2;go_ret2;exact⟨none,0,0,by rw[HB.out];rfl,by rw[HL.out];exact aM.nil _ _ _,(by repeat(first|exact Below.refl _ _|(with_reducible refine Below.setCell ?_ (by first|omega|(simp;done)|(simp;omega)) _)|(with_reducible refine Below.alloc ?_ (by first|omega|(simp;done)|(simp;omega)) _)|(with_reducible refine Below.drewN' ?_ _)|(with_reducible refine Below.drew ?_)|(with_reducible assumption)|refine Below.trans ?_ (Below.mono (by assumption) (by first|omega|(simp;done)|(simp;omega)))))⟩
 |true=>
  obtain⟨h0,h6,hs,_⟩:=dB hf;have hm:=dR hf;have hp:=lH h0 h6;have j8:=(cJ g.toNat 6 aD).2;have D:=hv.below B1 aI;have e0:∀x:Ext W0,x.w.cell? ⟨w.heap.size,0,none⟩=some (aG g):=fun x=>x.cell Y;have e1:∀x:Ext W0,x.w.cell? ⟨w.heap.size,1,none⟩=some (aA a l.length c):=fun x=>x.cell d1;have HM:=aH hm;have HS:=aH hs;clear hm hs;by_cases hu:cX l=2^g.toNat-1
  ·have f8:(cX l != 2^g.toNat-1)=false:=by simp[hu]
   have HU:=aH hu;clear hu;go_enter func234,ntmps234;go_wp2;rw[<-K];clear K;refine bH _ aO aO ?_
   repeat(first|go_big_quiet_skip|(go_big_quiet_want;go_big_quiet_op;first|go_big_quiet_on|(apply Exists.intro;refine⟨fun _=>?_,?_⟩;(first|(go_at_call 146;exact wO (cQ g l _ _ (Ext.ints _ D)) hf)|(go_at_call 314;exact dN (lZ l _ _ (Ext.ints _ D) HM.out))|(go_at_call 302;exact bW (iT g _ l _ (Ext.ints _ D) h0 aD)));go_big_quiet_on)))
   refine wpQuiet_nil ?_;rintro w3 ⟨⟨w3,M⟩,rfl⟩
   try dsimp only
   clear e0 e1;have X3:=(Box2.mk Y d1 B1 z1).after M;obtain⟨c0,c1,B3,z3⟩:=X3;clear Y d1 M z1;go_wp2_with fail;refine(iT g _ l _ (hv.below B3 aI) h0 aD).mono ?_;rintro e w4 ⟨rfl,c7⟩;have X4:=(Box2.mk c0 c1 B3 z3).after c7;clear c7 c0 c1 B3 z3;obtain⟨Y,d1,B4,z4⟩:=X4;go_wp2_with fail;go_loopw [4,5] (fun out lf wr=>∃(ad:Option Addr) (nn cp:Nat) (J:List Int) (z:Int) (n:Nat),out=aA ad nn cp/\lf=aG z/\0<=z/\z<2^g.toNat/\z<=n/\J.length<=64-n/\n<=64 /\
     dJ l 64 (2^g.toNat-1)=(dJ l n z).map (J++·)/\aM 3 (w.heap.size+1) wr (aA ad nn cp) J/\Box2 w wr g (aA a l.length c))
    (fun _ lf _=>(intOf lf).toNat)
   case atStart=>exact⟨none,0,0,[],_,64,rfl,rfl,by omega,by omega,by omega,by simp,by omega,by simp,aM.nil _ _ _,⟨Y,d1,B4,z4⟩⟩
   case round=>
    obtain⟨ad,nn,cp,J,z,n,rfl,rfl,Z,f7,j3,j1,g7,a8,ho,X⟩:=hrel;have HR:=aH a8;have HO:=aH ho;clear a8 ho Y d1;obtain⟨Y,d1,B5,z5⟩:=X;by_cases O:z=0
    ·have ht:(z != 0)=false:=by simp[O]
     have S:gD g l=some J:=by
      unfold gD;rw[if_pos hf,HR.out,O]
      cases n<;>simp[dJ]
     have F:eV g l=true:=by unfold eV;rw[S];rfl
     have I:dD g l=J:=by unfold dD;rw[S];rfl
     have HB:=aH F;have HL:=aH I;clear O S F I;go_wp2;go_ret2;exact⟨ad,nn,cp,by rw[HB.out];rfl,by rw[HL.out];exact HO.out.mono (Nat.le_succ _),B5⟩
    ·have ht:(z != 0)=true:=by simp[O]
     have c9:=aR hc hb B5 aI;have c8:=acC g.toNat l z HM.out aD f7 HU.out;have j2:=JL l z HM.out;have b9:=aH c8;clear c8;go_wp2_with fail;go_loop [6,27] (fun m i=>∃k:Nat,k<=l.length/\i=aG k/\m=aG ((l.take k).foldl (fI z) 0)) (fun _ i=>l.length-(intOf i).toNat)
     case atStart=>exact⟨0,Nat.zero_le _,rfl,rfl⟩
     case round=>
      obtain⟨k,hk,rfl,rfl⟩:=hrel;have N:0<=(l.take k).foldl (fI z) 0/\(l.take k).foldl (fI z) 0<64:=by
       rcases DP z (l.take k) 0 with h1|h1
       ·rw[h1];omega
       ·exact HM.out _ (List.mem_of_mem_take h1)
      obtain⟨m,b3⟩:=aJ ((l.take k).foldl (fI z) 0);rw[<-b3]at N ⊢;have a9:=aH b3;clear b3;by_cases hlt:k<l.length
      ·have b1:=HM.out _ (List.getElem_mem hlt);have i8:=dU b1.1 (show l[k]<4611686018427387904 by omega) Z aD;have j0:=dU N.1 (show m<4611686018427387904 by omega) Z aD;have j4:=kE l[k] z 64 b1.1 b1.2;have j5:=kE m z 64 N.1 N.2;by_cases f6:cT (bB m z)<cT (bB l[k] z)
       ·go_wp2_with (go_at_call 214;refine(sR _ _ aD aD).mono ?_;rintro e w' ⟨rfl,rfl⟩)
        go_round
        case rel=>exact⟨k+1,by omega,by go_num,by rw[xS _ _ _ _ hlt,<-a9.out,fI,if_pos f6]⟩
        case measure=>simp[intOf];omega
       ·go_wp2_with (go_at_call 214;refine(sR _ _ aD aD).mono ?_;rintro e w' ⟨rfl,rfl⟩)
        go_round
        case rel=>exact⟨k+1,by omega,by go_num,by rw[xS _ _ _ _ hlt,<-a9.out,fI,if_neg aD]⟩
        case measure=>simp[intOf];omega
      ·have a7:m=fD l z:=by rw[a9.out];unfold fD;rw[LY _ _ _ _ aD]
       have c6:=aH a7;have hN:=lA Z aD N.1 N.2;clear a7 c9;go_wp2_with (at_builtin;refine dA rfl _ _ _ rfl 3 underlying25 aN (w.heap.size+1) _ _ m wr.heap.size rfl rfl (by simp) (HO.out.alloc _) ⟨by omega,by omega⟩ aD aT ?_;intro v' w6 R e4;obtain⟨av,nv,cv,rfl⟩:=R.shape3);have X6:=((Box2.mk Y d1 B5 z5).after (bF _ (.cells #[m] 3))).grow e4 (fun k hk=>by have:=(HO.out.lt k hk).1;omega);have HW:=aH R;have g5:cG z m<z:=by rw[c6.out];exact abB Z b9.out
       have e5:0<=cG z m:=by unfold cG;omega
       clear R e4;go_wp2;go_roundw
       case rel=>
        obtain⟨n',rfl⟩:∃n',n=n'+1:=⟨n-1,by omega⟩;refine⟨_,_,_,J++[m],cG z m,n',rfl,rfl,e5,by omega,by omega,by simp;omega,by omega,?_,HW.out,X6⟩;rw[HR.out,dJ,if_neg O,if_neg b9.out,<-c6.out]
        cases dJ l n' (cG z m)<;>simp
       case measure=>simp[intOf];omega
  ·have f8:(cX l != 2^g.toNat-1)=true:=by simp[hu]
   have hx:=ZW hf hu;have F:eV g l=false:=by unfold eV;rw[hx];rfl
   have I:dD g l=[]:=by unfold dD;rw[hx];rfl
   have HB:=aH F;have HL:=aH I;clear hx F I hu hc;go_enter func234,ntmps234;go_wp2;rw[<-K];clear K;refine bH _ aO aO ?_
   repeat(first|go_big_quiet_skip|(go_big_quiet_want;go_big_quiet_op;first|go_big_quiet_on|(apply Exists.intro;refine⟨fun _=>?_,?_⟩;(first|(go_at_call 146;exact wO (cQ g l _ _ (Ext.ints _ D)) hf)|(go_at_call 314;exact dN (lZ l _ _ (Ext.ints _ D) HM.out))|(go_at_call 302;exact bW (iT g _ l _ (Ext.ints _ D) h0 aD)));go_big_quiet_on)))
   refine wpQuiet_nil ?_;rintro w3 ⟨⟨w3,M⟩,rfl⟩
   try dsimp only
   clear e0 e1;have B3:=B1.after M B1.size;go_wp2;go_ret2;exact⟨none,0,0,by rw[HB.out];rfl,by rw[HL.out];exact aM.nil _ _ _,B3⟩
theorem ME{a b:Int}(z:0<=a):a-bB a b=cG a b:=by
 have:=@Nat.and_le_left a.toNat b.toNat;unfold bB cG cO;omega
theorem xW(a b:Int):bB a b=bB b a:=by unfold bB;rw[Nat.and_comm]
theorem R9(w:World)(g:Int)(v:Value)(l:List Int)(hv:aK w v l)(j0:l.length<=1048576):
  Calls prog 67 #[.agg #[g,v]] w fun e w'=>∃ad i cp,e=.returned (.tuple #[aA ad i cp,.bool (eV g l)])/\aM 3 w w' (aA ad i cp) (dD g l)/\Below w w w':=by
 obtain⟨a,b,j3,c,rfl,f4,i8,hc,hb⟩:=hv.view prog 25 3 underlying25 aN;have o0:aM 3 (w.heap.size+1) ((w.alloc (.cells #[g,aA a l.length c] 29)).alloc (.cells #[] 3)) (aA (some ⟨w.heap.size+1,0,none⟩) 0 0) []:=by have:=aM.lit0 (E:=3) (B:=w.heap.size+1) (w.alloc (.cells #[g,aA a l.length c] 29)) (by simp);simpa using this
 have X0:=(Box2.new w g (aA a l.length c) 29).after (bF _ (.cells #[] 3));go_enter func67,ntmps67;go_wp2_with fail;refine(cK g l _ _ (hv.below X0.B aI)).mono ?_;rintro e w1 ⟨rfl,a9⟩;have X1:=X0.after a9;have o1:=o0.keep a9;clear X0 o0 a9;obtain⟨d0,d1,B1,z1⟩:=X1
 cases hf:aU g l with
 |false=>
  have hx:gD g l=none:=by unfold gD;rw[hf];rfl
  have F:eV g l=false:=by unfold eV;rw[hx];rfl
  have I:dD g l=[]:=by unfold dD;rw[hx];rfl
  have HB:=aH F;have HL:=aH I;clear hx F I hc;go_wp2;go_ret2;exact⟨_,_,_,by rw[HB.out];rfl,by rw[HL.out];exact o1.mono (Nat.le_succ _),B1⟩
 |true=>
  obtain⟨h0,h6,_,_⟩:=dB hf;have hm:=dR hf;have hp:=lH h0 h6;have j1:=(cJ g.toNat 6 aD).2;have HM:=aH hm;clear hm;go_wp2_with (go_at_call 78;refine(ET g _ h0 aD).mono ?_;rintro e w' ⟨rfl,rfl⟩);go_loopw [4,5] (fun out lf wr=>∃(ad:Option Addr) (nn cp:Nat) (J:List Int) (z:Int) (n:Nat),out=aA ad nn cp/\lf=aG z/\0<=z/\z<2^g.toNat/\z<=n/\J.length<=64-n/\n<=64 /\
    dJ l 64 (2^g.toNat-1)=(dJ l n z).map (J++·)/\aM 3 (w.heap.size+1) wr (aA ad nn cp) J/\Box2 w wr g (aA a l.length c))
   (fun _ lf _=>(intOf lf).toNat)
  case atStart=>exact⟨_,_,_,[],_,64,rfl,rfl,by omega,by omega,by omega,by simp,by omega,by simp,o1,⟨d0,d1,B1,z1⟩⟩
  case round=>
   obtain⟨ad,nn,cp,J,z,n,rfl,rfl,K,h7,h8,g9,f5,a6,ho,X⟩:=hrel;have HR:=aH a6;have HO:=aH ho;clear a6 ho d0 d1 o1;obtain⟨d0,d1,B5,z5⟩:=X;by_cases h9:0<z
   ·have b7:=aR hc hb B5 aI;have h5:=JL l z HM.out;go_wp2_with fail;go_loop [6,7] (fun m i=>∃k:Nat,k<=l.length/\i=aG k/\m=aG ((l.take k).foldl (fI z) 0)) (fun _ i=>l.length-(intOf i).toNat)
    case atStart=>exact⟨0,Nat.zero_le _,rfl,rfl⟩
    case round=>
     obtain⟨k,hk,rfl,rfl⟩:=hrel;have R:0<=(l.take k).foldl (fI z) 0/\(l.take k).foldl (fI z) 0<64:=by
      rcases DP z (l.take k) 0 with h1|h1
      ·rw[h1];omega
      ·exact HM.out _ (List.mem_of_mem_take h1)
     obtain⟨m,b1⟩:=aJ ((l.take k).foldl (fI z) 0);rw[<-b1]at R ⊢;have a7:=aH b1;clear b1;have g7:=dU R.1 (show m<4611686018427387904 by omega) K aD;have g8:=dU K (show z<4611686018427387904 by omega) R.1 aD;have i6:=kE m z 64 R.1 R.2;by_cases hlt:k<l.length
     ·have b0:=HM.out _ (List.getElem_mem hlt);have g6:=dU b0.1 (show l[k]<4611686018427387904 by omega) K aD;have i1:=kE l[k] z 64 b0.1 b0.2;by_cases e6:cT (bB m z)<cT (bB l[k] z)
      ·go_wp2_with (go_at_call 84;refine(sK _ _ aD aD).mono ?_;rintro e w' ⟨rfl,rfl⟩)
       go_round
       case rel=>exact⟨k+1,by omega,by go_num,by rw[xS _ _ _ _ hlt,<-a7.out,fI,if_pos e6]⟩
       case measure=>simp[intOf];omega
      ·go_wp2_with (go_at_call 84;refine(sK _ _ aD aD).mono ?_;rintro e w' ⟨rfl,rfl⟩)
       go_round
       case rel=>exact⟨k+1,by omega,by go_num,by rw[xS _ _ _ _ hlt,<-a7.out,fI,if_neg aD]⟩
       case measure=>simp[intOf];omega
     ·have a1:m=fD l z:=by rw[a7.out];unfold fD;rw[LY _ _ _ _ aD]
      have O:=aH a1;have i7:=kE z m 64 K aD;clear a1 b7;by_cases M:bB m z=0
      ·have ht:(bB m z==0)=true:=by simp[M]
       have D:gD g l=none:=by
        unfold gD;rw[if_pos hf,HR.out]
        cases n with
        |zero=>omega
        |succ n=>rw[dJ,if_neg aD,if_pos (by rw[<-O.out];exact M)];rfl
       have F:eV g l=false:=by unfold eV;rw[D];rfl
       have I:dD g l=[]:=by unfold dD;rw[D];rfl
       have HB:=aH F;have HL:=aH I;have o9:=aM.lit0 (E:=3) (B:=wr.heap.size) wr aI;clear D F I M;go_wp2;go_ret2;exact⟨_,_,_,by rw[HB.out];rfl,by rw[HL.out];exact o9.mono B5.size,B5.alloc B5.size _⟩
      ·have ht:(bB m z==0)=false:=by simp[M]
       have b6:=aH M;clear M;go_wp2_with (at_builtin;refine dA rfl _ _ _ rfl 3 underlying25 aN (w.heap.size+1) _ _ m wr.heap.size rfl rfl (by simp) (HO.out.alloc _) ⟨by omega,by omega⟩ aD aT ?_;intro v' w6 S b9;obtain⟨av,nv,cv,rfl⟩:=S.shape3);have X6:=((Box2.mk d0 d1 B5 z5).after (bF _ (.cells #[m] 3))).grow b9 (fun k hk=>by have:=(HO.out.lt k hk).1;omega);have HW:=aH S;have Z:z-bB z m=cG z m:=ME K;have N:=aH Z;have f3:cG z m<z:=by rw[O.out];exact abB K (by rw[<-O.out];exact b6.out)
       have c5:0<=cG z m:=by unfold cG;omega
       clear S b9 Z;go_wp2;go_roundw
       case rel=>
        obtain⟨n',rfl⟩:∃n',n=n'+1:=⟨n-1,by omega⟩;refine⟨_,_,_,J++[m],z-bB z m,n',rfl,rfl,by rw[N.out];exact c5,by rw[N.out];omega,by rw[N.out];omega,by simp;omega,by omega,?_,HW.out,X6⟩;rw[HR.out,dJ,if_neg aD,if_neg (by rw[<-O.out];exact b6.out),<-O.out,N.out]
        cases dJ l n' (cG z m)<;>simp
       case measure=>have:=N.out;simp only[intOf];omega
   ·have Y:z=0:=aD
    have D:gD g l=some J:=by
     unfold gD;rw[if_pos hf,HR.out,Y]
     cases n<;>simp[dJ]
    have F:eV g l=true:=by unfold eV;rw[D];rfl
    have I:dD g l=J:=by unfold dD;rw[D];rfl
    have HB:=aH F;have HL:=aH I;clear Y D F I;go_wp2;go_ret2;exact⟨ad,nn,cp,by rw[HB.out];rfl,by rw[HL.out];exact HO.out.mono (Nat.le_succ _),B5⟩
theorem apB(l:List Int):∀n z L,dJ l n z=some L->L.length<=n:=by
 intro n
 induction n with
 |zero=>
  intro z L h;simp only[dJ]at h
  split at h
  ·simp at h;subst h;simp
  ·cases h
 |succ n ih=>
  intro z L h;simp only[dJ]at h
  split at h
  ·simp at h;subst h;simp
  ·split at h
   ·cases h
   ·cases hr:dJ l n (cG z (fD l z)) with
    |none=>rw[hr]at h;cases h
    |some L'=>rw[hr]at h;simp at h;subst h;have:=ih _ _ hr;simp;omega
def eY(F:Nat->Int)(k:Nat):List Int:=(List.range k).map F
theorem EV(F:Nat->Int)(k:Nat):eY F (k+1)=eY F k++[F k]:=by unfold eY;rw[List.range_succ,List.map_append];rfl
theorem am5{p:Prop}(h:p:=by
  have b7:(2:Nat)^n<=32:=Nat.pow_le_pow_right aQ hn;have b6:=Nat.two_pow_pos n;have S:((2^n:Nat):Int)=(2:Int)^n:=by simp
  obtain⟨N,hN⟩:∃N:Nat,N=2^n:=⟨_,rfl⟩;rw[<-hN]at hw hF b7 b6 S ⊢;clear hN;have r0:=(BoxAt.new w (aG 0) (aA none 0 0) 27);have r1:=r0.keep (bF _ (.cells #[n,()] 27));have b1:=BoxAt.new (w.alloc (.cells #[aB,()] 27)) (aG n) (aA none 0 0) 27;go_enter func337,ntmps337;go_wp2_with fail;go_loopw [13] (fun i wr=>∃(k:Nat) (ad:Option Addr) (nn D:Nat),k<=N/\i=aG k/\aM 3 (w.heap.size+1+1) wr (aA ad nn D) (eY F k)/\Below w w wr /\
    BoxAt wr w.heap.size (aG 0) (aA none 0 0)/\BoxAt wr (w.heap.size+1) (aG n) (aA ad nn D))
   (fun i _=>N-(intOf i).toNat)
  case atStart=>exact⟨0,none,0,0,Nat.zero_le _,rfl,aM.nil _ _ _,(by repeat(first|exact Below.refl _ _|(with_reducible refine Below.setCell ?_ (by first|omega|(simp;done)|(simp;omega)) _)|(with_reducible refine Below.alloc ?_ (by first|omega|(simp;done)|(simp;omega)) _)|(with_reducible refine Below.drewN' ?_ _)|(with_reducible refine Below.drew ?_)|(with_reducible assumption)|refine Below.trans ?_ (Below.mono (by assumption) (by first|omega|(simp;done)|(simp;omega))))),r1,by simpa using b1⟩
  case round=>
   obtain⟨k,ad,nn,D,hk,rfl,Y,B,R,X⟩:=hrel;clear r0 r1 b1;by_cases hlt:k<N
   ·have Z:(k:Int)<2^n:=by rw[<-S];exact_mod_cast hlt
    have zr:=R.lt;have zx:=X.lt;have b4:=hF k hlt;have e5:(eY F k).length=k:=by simp[eY]
    have g6:(eY F k).length<=64:=aD;have I:=Y.lt;have HO:=aH Y;have HR:=aH R;have M:=aH X;obtain⟨e0,e1,g0,g1⟩:=X;clear Y R;have hcl:=hw k wr.drew hlt B.drew;clear hw;go_wp2;go_region_law
      (first
       |(go_simp;go_at_fn c;refine hcl.mono ?_;rintro e J ⟨rfl,z⟩;have X2:=M.out.keep ((Below.refl _ _).drew.after z aI);have X3:=X2.keep (bF J (.cells #[(F k)] 3));have h0:=X2.lt;have x1:=X2.d1;have x2:=X2.f1;have x3:=X3.d1;have x4:=X3.f1)
       |(refine JC rfl _ _ _ rfl 3 underlying25 aN (w.heap.size+1+1) _ _ (F k) J.heap.size rfl rfl (aZ J #[(F k)] 3 0 _ rfl) ((HO.out.keep ((Below.refl _ _).drew.after z aI)).alloc (.cells #[(F k)] 3)) b4 aD aT ?_;intro v' w6 K O;obtain⟨av,nv,cv,rfl⟩:=K.shape3;have X6:=X3.grow O (fun e=>by have:=(I _ e).1;omega);obtain⟨i0,i1,j0,j1⟩:=X6))
    all_goals
     have B6:Below w w w6:=(((B.drew).after z B.size).alloc (B.drew.after z B.size).size (.cells #[(F k)] 3)).grown O aT (fun q hq=>by have:=(I q hq).1;omega);have R6:=((HR.out.keep ((Below.refl _ _).drew.after z aI)).keep (bF J (.cells #[(F k)] 3))).grow O (fun e=>by have:=(I _ e).1;omega);go_wp2;go_roundw
     case rel=>exact⟨k+1,av,nv,cv,by omega,by go_num,by rw[EV];exact K.setBelow (by first|omega|(simp;done)|(simp;omega)) _,B6.setCell (by first|omega|(simp;done)|(simp;omega)) _,R6.other aD _,(BoxAt.mk i0 i1 j0 j1).set1 _⟩
     case measure=>simp[intOf];omega
   ·have Z:¬(k:Int)<2^n:=by rw[<-S];exact_mod_cast hlt
    have b5:k=N:=aD;subst b5;have HO:=aH Y;have HR:=aH R;have M:=aH X;obtain⟨e0,e1,g0,g1⟩:=X;have hi:=Y.ints;clear Y hw R;go_wp2_with fail;refine(dM n _ _ _ hi).mono ?_;rintro e J ⟨rfl,z⟩;have B2:=B.after z B.size;have o2:=HO.out.keep z;have a8:=aH o2;obtain⟨f0,f1,j0,j1⟩:=HR.out.keep z;obtain⟨i0,i1,q0,q1⟩:=M.out.keep z;clear e0 e1 g0 g1 z B o2 hi
    cases hf:aY n (eY F k) with
    |false=>
      have HF:=aH hf;go_wp2
      all_goals refine bodyPost_ret (v:=.tuple #[.agg #[aB,()],.bool false]) (by simp[results,results337,go_sem,f0,f1]) rfl ⟨none,0,0,rfl,aM.nil _ _ _,Below.setCell (Below.setCell B2 aI _) aI _⟩
    |true=>
      have HF:=aH hf;go_wp2;refine bodyPost_ret (v:=.tuple #[.agg #[n,aA ad nn D],.bool true]) (by simp[results,results337,go_sem,f0,f1]) rfl ⟨ad,nn,D,rfl,?_,?_⟩
      ·exact((a8.out.setBelow (by first|omega|(simp;done)|(simp;omega)) _).setBelow (by first|omega|(simp;done)|(simp;omega)) _).mono (by first|omega|(simp;done)|(simp;omega))
      ·exact Below.setCell (Below.setCell B2 aI _) aI _):p:=h
theorem MK(w:World)(n:Nat)(hn:n<=5)(c:FuncId)(he:∀args w,(callFunc c args).run prog w=.ok (.enter c args) w)(g:Nat)(F:Nat->Int)(hF:∀s,s<2^n->dL (F s))
  (hw:∀(s:Nat) W',s<2^n->Below w w W'->Calls prog c #[(s:Int),.pointer (some ⟨g,0,none⟩)] W' fun e J=>e=.returned (F s)/\Below W' W' J):
  Calls prog 337 #[(n:Int),.func (.func c) #[] #[.pointer (some ⟨g,0,none⟩)]] w fun e w'=>
   ∃ad i D,e=.returned (.tuple #[.agg #[aG (if aY n (eY F (2^n)) then (n:Int) else 0),aA ad i D],.bool (aY n (eY F (2^n)))])/\aM 3 w w' (aA ad i D) (if aY n (eY F (2^n)) then eY F (2^n) else [])/\Below w w w':=by
 exact am5
end
section
open Go.RowKit Go.G5 Go.Proofs.Tryz
end
section
open Go.RowKit Go.G5 Go.Proofs.Tryz
def gW(l:List Int)(s:Nat):Nat->Int
 |0=>0
 |k+1=>if cO k s=0 then (if bY (cO s k)%2=1 then gW l s k-l.getD k 0 else gW l s k+l.getD k 0) else gW l s k
def jE(l:List Int):List Int:=(List.range l.length).map fun s=>gW l s (s+1)
def eX(n:Int)(l:List Int):List Int:=if aY n l then jE l else []
theorem SI(l:List Int)(s:Nat)(h:∀k,(hk:k<l.length)->-1000<=l[k]/\l[k]<=1000)(k:Nat)(hk:k<=l.length):-1000*(k:Int)<=gW l s k/\gW l s k<=1000*(k:Int):=by
 induction k with
 |zero=>simp[gW]
 |succ k ih=>
  have h1:=ih aD;have h2:=h k aD;rw[gW,List.getD_eq_getElem?_getD,List.getElem?_eq_getElem (show k<l.length by omega),Option.getD_some]
  split
  ·split<;>omega
  ·omega
theorem lR(l:List Int):(jE l).length=l.length:=by simp[jE]
theorem OJ(l:List Int)(s:Nat)(h:s<(jE l).length):(jE l)[s]=gW l s (s+1):=by simp[jE]
theorem amK(l:List Int)(s n:Nat)(h:s<n)(hl:s<=l.length):(l.take s++List.replicate (n-s) (0:Int)).set s 0=l.take s++List.replicate (n-s) 0:=by
 rw[show n-s=(n-s-1)+1 by omega,List.replicate_succ];have e:(l.take s).length=s:=by simp;omega
 rw[List.set_append_right _ _ aD,e];simp
theorem aiK(l:List Int)(s:Nat)(h:s<l.length):((jE l).take s++List.replicate (l.length-s) (0:Int)).set s (gW l s (s+1))=(jE l).take (s+1)++List.replicate (l.length-(s+1)) 0:=by
 have:=RW (jE l) s (by rw[lR];exact h);simp only[OJ,lR]at this;exact this
theorem SJ(w:World)(n:Int)(v:Value)(l:List Int)(hv:aK w v l)(_:l.length<=1048576):
  Calls prog 181 #[.agg #[n,v]] w fun e w'=>∃ad i cp,e=.returned (aA ad i cp)/\aM 3 w w' (aA ad i cp) (eX n l)/\Below w w w':=by
 obtain⟨a,b,g6,c,rfl,e6,f8,hc,hb⟩:=hv.view prog 25 3 underlying25 aN;go_enter func181,ntmps181;go_wp2_with fail;refine(dM n l _ _ (hv.alloc _)).mono ?_;rintro e w1 ⟨rfl,a6⟩;have X1:=(Box2.new w n (aA a l.length c) 27).after a6;clear a6
 cases hf:aY n l with
 |false=>
  have hx:eX n l=[]:=by unfold eX;rw[hf];rfl
  have HX:=aH hx;obtain⟨N,d1,B1,z1⟩:=X1;clear hx;go_wp2;go_ret;exact⟨none,0,0,rfl,by rw[HX.out];exact aM.nil _ _ _,B1⟩
 |true=>
  obtain⟨h0,h5,hl,a7⟩:=kP hf;have hp:=lG h0 h5;have e5:l.length<=32:=aD;have hx:eX n l=jE l:=by unfold eX;rw[hf];rfl
  have HX:=aH hx;have a1:=aH a7;clear hx hl a7 hp;have g5:=X1.z;obtain⟨N,d1,B1,z1⟩:=X1;go_wp2_with (at_make;refine kZ rfl _ _ _ rfl 3 underlying25 aN l.length _ _ rfl rfl rfl rfl aD ?_;intro w2 R hg);have X2:=(Box2.mk N d1 B1 z1).grow hg (by simp);have f7:=hg.size;clear hg N d1;go_loopw [15] (fun i wr=>∃s:Nat,s<=l.length/\i=aG s/\aM 3 w1 wr (aA (some ⟨w1,0,none⟩) l.length l.length) ((jE l).take s++List.replicate (l.length-s) 0)/\Box2 w wr n (aA a l.length c))
   (fun i _=>l.length-(intOf i).toNat)
  case atStart=>exact⟨0,Nat.zero_le _,rfl,by simpa using R,X2⟩
  case round=>
   obtain⟨s,hs,rfl,I,X⟩:=hrel;clear R X2;by_cases hlt:s<l.length
   ·go_wp2_with fail
    go_loopw [20] (fun i b1=>∃k:Nat,k<=s+1/\i=aG k/\aM 3 w1 b1 (aA (some ⟨w1,0,none⟩) l.length l.length) (((jE l).take s++List.replicate (l.length-s) 0).set s (gW l s k))/\Box2 w b1 n (aA a l.length c))
     (fun i _=>s+1-(intOf i).toNat)
    case atStart=>exact⟨0,Nat.zero_le _,rfl,by rw[gW,amK _ _ _ hlt (by rw[lR];omega)];exact I,X⟩
    case round=>
     obtain⟨k,hk,rfl,I,X⟩:=hrel;have S:=X.B;have Y:=aR hc hb S aI;obtain⟨N,d1,_,z2⟩:=X;have b9:=SI l s a1.out k aD;obtain⟨m,hm⟩:=aJ (gW l s k);rw[<-hm]at b9 I;have F:l.length=(((jE l).take s++List.replicate (l.length-s) 0).set s m).length:=by simp[lR];omega
     have HM:=aH hm;clear hm;by_cases f9:k<s+1
     ·have Z:k<l.length:=aD;have g0:=a1.out k Z;have e4:=Y k Z;have f3:=xK k s aD aD;have f4:=xK s k aD aD;have hd:=wU s k 64 aD;have e7:=vY (cO s k) aD;have M:gW l s (k+1)=if cO k s=0 then (if bY (cO s k)%2=1 then m-l[k] else m+l[k]) else m:=by rw[gW,<-HM.out,List.getD_eq_getElem?_getD,List.getElem?_eq_getElem Z,Option.getD_some]
      have HS:=aH M;have f5:wr.cell? ⟨w1.heap.size,s,none⟩=some (aG m):=by have:=I.cellAt F s aD;rw[this];simp
      have f6:=I.frozenAt F s;clear Y M;by_cases hz:cO k s=0
      ·have ht:(((cO k s:Nat):Int) != 0)=false:=by simp[hz]
       have HZ:=aH hz;clear hz;by_cases J:bY (cO s k)%2=1
       ·have c7:(((bY (cO s k):Nat):Int)%2==1)=true:=by simp;omega
        have D:=I.stored F s (m-l[k]) ⟨by omega,by omega⟩;rw[List.set_set]at D;have K:=aH D;have HD:=aH J;clear D I F J;go_wp2_with (go_at_call 214;refine(fH _ _ aD).mono ?_;rintro e w' ⟨rfl,rfl⟩);go_still_tail 11,aO;go_wp2;go_roundw
        case rel=>exact⟨k+1,by omega,by go_num,by rw[HS.out,if_pos HZ.out,if_pos HD.out];exact K.out.1.drewN 1,((Box2.mk N d1 S z2).grow K.out.2 aT).drewN 1⟩
        case measure=>simp[intOf];omega
       ·have c7:(((bY (cO s k):Nat):Int)%2==1)=false:=by simp;omega
        have D:=I.stored F s (m+l[k]) ⟨by omega,by omega⟩;rw[List.set_set]at D;have K:=aH D;have HD:=aH J;clear D I F J;go_wp2_with (go_at_call 214;refine(fH _ _ aD).mono ?_;rintro e w' ⟨rfl,rfl⟩);go_still_tail 11,aO;go_wp2;go_roundw
        case rel=>exact⟨k+1,by omega,by go_num,by rw[HS.out,if_pos HZ.out,if_neg HD.out];exact K.out.1.drewN 1,((Box2.mk N d1 S z2).grow K.out.2 aT).drewN 1⟩
        case measure=>simp[intOf];omega
      ·have ht:(((cO k s:Nat):Int) != 0)=true:=by simp;omega
       have HZ:=aH hz;have K:=aH I;clear hz I F;go_wp2;go_roundw
       case rel=>exact⟨k+1,by omega,by go_num,by rw[HS.out,if_neg HZ.out];exact K.out,⟨N,d1,S,z2⟩⟩
       case measure=>simp[intOf];omega
     ·have O:k=s+1:=aD;have D:aM 3 w1 wr (aA (some ⟨w1,0,none⟩) l.length l.length) ((jE l).take (s+1)++List.replicate (l.length-(s+1)) 0):=by rw[<-aiK l s hlt,<-O,<-HM.out];exact I
      have K:=aH D;clear D I F Y O;go_wp2;go_roundw
      case rel=>exact⟨s+1,by omega,by go_num,K.out,⟨N,d1,S,z2⟩⟩
      case measure=>simp[intOf];omega
   ·have a8:s=l.length:=aD;have D:aM 3 w1 wr (aA (some ⟨w1,0,none⟩) l.length l.length) (jE l):=by have:=I;rw[a8,List.take_of_length_le (by rw[lR];exact aI)]at this;simpa using this
    obtain⟨N,d1,S,z2⟩:=X;have K:=aH D;clear D I a8;go_wp2;go_ret;exact⟨_,_,_,rfl,by rw[HX.out];exact K.out.mono B1.size,S⟩
theorem ON(a b:Nat):cO a b=0↔a &&& b=a:=by
 have:=@Nat.and_le_left a b;unfold cO;omega
theorem aiV(a b:Nat)(h:b &&& a=b):cO a b=a-b:=by unfold cO;rw[Nat.and_comm,h]
theorem aaA(l:List Int)(s:Nat)(h:s<l.length):(jE l).take (s+1)=(jE l).take s++[gW l s (s+1)]:=by
 rw[List.take_succ_eq_append_getElem (by rw[lR];exact h),OJ]
theorem aiL(w:World)(n:Int)(v:Value)(l:List Int)(hv:aK w v l)(_:l.length<=1048576):
  Calls prog 40 #[.agg #[n,v]] w fun e w'=>∃ad i O,e=.returned (aA ad i O)/\aM 3 w w' (aA ad i O) (eX n l)/\Below w w w':=by
 obtain⟨a,b,j0,c,rfl,f8,i1,hc,hb⟩:=hv.view prog 25 3 underlying25 aN;have X0:=Box2.new w n (aA a l.length c) 27;have o0:aM 3 (w.heap.size+1) ((w.alloc (.cells #[n,aA a l.length c] 27)).alloc (.cells #[] 3)) (aA (some ⟨w.heap.size+1,0,none⟩) 0 0) []:=by have:=aM.lit0 (E:=3) (B:=w.heap.size+1) (w.alloc (.cells #[n,aA a l.length c] 27)) (by simp);simpa using this
 have X1:=X0.after (bF _ (.cells #[] 3));have c8:=aH o0;have e6:=aH X1;clear o0 X0 X1;go_enter func40,ntmps40;go_wp2;go_loopw [3,4] (fun out i wr=>∃(s:Nat) (ad:Option Addr) (nn O:Nat),s<=l.length/\i=aG s/\out=aA ad nn O/\(0<s->aY n l=true)/\aM 3 (w.heap.size+1) wr (aA ad nn O) ((jE l).take s)/\Box2 w wr n (aA a l.length c))
  (fun _ i _=>l.length-(intOf i).toNat)
 case atStart=>exact⟨0,_,_,_,Nat.zero_le _,rfl,rfl,fun h=>by omega,c8.out,e6.out⟩
 case round=>
  obtain⟨s,ad,nn,O,hs,rfl,rfl,M,ho,X⟩:=hrel;have HF:=aH M;clear M;have HO:=aH ho;clear ho;obtain⟨d0,d1,K,z1⟩:=X;go_wp2_with fail;refine(dH n l _ _ (hv.below K aI)).mono ?_;rintro e w2 ⟨rfl,R⟩;have X2:=(Box2.mk d0 d1 K z1).after R;have b3:=HO.out.keep R;have J:=aH b3;clear R d0 d1 K z1 HO b3;obtain⟨d0,d1,K,z1⟩:=X2
  cases hf:aY n l with
  |false=>
   have e8:s=0:=by
    by_cases h:0<s
    ·have:=HF.out h;rw[hf]at this;cases this
    ·omega
   have hx:eX n l=[]:=by unfold eX;rw[hf];rfl
   have HX:=aH hx;clear hx;go_wp2;go_ret;exact⟨_,_,_,rfl,by rw[HX.out];have:=J.out;rw[e8]at this;exact(by simpa using this:aM _ _ _ _ []).mono (Nat.le_succ _),K⟩
  |true=>
   obtain⟨h0,h5,hl,a9⟩:=kP hf;have hp:=lG h0 h5;have f7:l.length<=32:=aD;have hx:eX n l=jE l:=by unfold eX;rw[hf];rfl
   have HX:=aH hx;have a1:=aH a9;have a6:=aR hc hb K aI;clear hx hl a9 hp;by_cases hlt:s<l.length
   ·go_wp2_with fail
    go_loop [5,6] (fun m t=>∃k:Nat,k<=s+1/\t=aG k/\m=aG (gW l s k)) (fun _ t=>s+1-(intOf t).toNat)
    case atStart=>exact⟨0,Nat.zero_le _,rfl,rfl⟩
    case round=>
     obtain⟨k,hk,rfl,rfl⟩:=hrel;have e7:=SI l s a1.out k aD;obtain⟨m,hm⟩:=aJ (gW l s k);rw[<-hm]at e7 ⊢;have HM:=aH hm;clear hm;by_cases i6:k<s+1
     ·have S:k<l.length:=aD;have i7:=a1.out k S;have f6:=a6 k S;have I:gW l s (k+1)=if cO k s=0 then (if bY (cO s k)%2=1 then m-l[k] else m+l[k]) else m:=by rw[gW,<-HM.out,List.getD_eq_getElem?_getD,List.getElem?_eq_getElem S,Option.getD_some]
      have HS:=aH I;have hA:=acD k s aD aD;clear I;by_cases Z:k &&& s=k
      ·have ht:(((k &&& s:Nat):Int) != (k:Int))=false:=by simp[Z]
       have F:cO k s=0:=(ON k s).2 Z;have b1:cO s k=s-k:=aiV s k Z;have g2:=wQ ((s:Int)-k) aD;have b5:cT ((s:Int)-k)=(bY (cO s k):Int):=by rw[b1];unfold cT;rw[show((s:Int)-k).toNat=s-k by omega]
       have HZ:=aH F;have HP:=aH b5;clear Z F b1 b5;by_cases z:bY (cO s k)%2=1
       ·have e9:(cT ((s:Int)-k)%2==1)=true:=by rw[HP.out];simp;omega
        have HD:=aH z;clear z;go_wp2_with (go_at_call 84;refine(sK _ _ aD aD).mono ?_;rintro e w' ⟨rfl,rfl⟩);go_round
        case rel=>exact⟨k+1,by omega,by go_num,by rw[HS.out,if_pos HZ.out,if_pos HD.out]⟩
        case measure=>simp[intOf];omega
       ·have e9:(cT ((s:Int)-k)%2==1)=false:=by rw[HP.out];simp;omega
        have HD:=aH z;clear z;go_wp2_with (go_at_call 84;refine(sK _ _ aD aD).mono ?_;rintro e w' ⟨rfl,rfl⟩);go_round
        case rel=>exact⟨k+1,by omega,by go_num,by rw[HS.out,if_pos HZ.out,if_neg HD.out]⟩
        case measure=>simp[intOf];omega
      ·have ht:(((k &&& s:Nat):Int) != (k:Int))=true:=by simp;omega
       have F:¬cO k s=0:=fun h=>Z ((ON k s).1 h);have HZ:=aH F;clear Z F;go_wp2;go_round
       case rel=>exact⟨k+1,by omega,by go_num,by rw[HS.out,if_neg HZ.out]⟩
       case measure=>simp[intOf];omega
     ·have N:k=s+1:=aD;have b0:m=gW l s (s+1):=by rw[HM.out,N]
      have c7:=aH b0;clear N b0 a6;have Y:(gW l s (s+1))=m:=c7.out.symm;have e4:=aH Y;clear Y;go_wp2_with (at_builtin;refine dA rfl _ _ _ rfl 3 underlying25 aN (w.heap.size+1) _ _ m w2.heap.size rfl rfl (by simp) (J.out.alloc _) ⟨by omega,by omega⟩ (by simp[lR];omega) aT ?_;intro v' w3 D a8;obtain⟨av,nv,cv,rfl⟩:=D.shape3);have f9:l.length<=1048576:=aD;have X3:=((Box2.mk d0 d1 K z1).after (bF _ (.cells #[m] 3))).grow a8 (fun k hk=>by have:=(J.out.lt k hk).1;omega);rw[<-e4.out,<-aaA l s hlt]at D;have HW:=aH D;clear D a8;go_wp2;go_roundw
      case rel=>exact⟨s+1,_,_,_,by omega,by go_num,rfl,fun _=>hf,HW.out,X3⟩
      case measure=>simp[intOf];omega
   ·have Y:s=l.length:=aD;have b4:aM 3 (w.heap.size+1) w2 (aA ad nn O) (jE l):=by have:=J.out;rw[List.take_of_length_le (by rw[lR];omega)]at this;exact this
    have c9:=aH b4;clear b4;go_wp2;go_ret;exact⟨_,_,_,rfl,by rw[HX.out];exact c9.out.mono (Nat.le_succ _),K⟩
end
end Go.Proofs.YtkdbkjjacgigiaaGreatDoor
