/- Lemmas for CardConsoleResults. No condition. -/
import Derived.Test.YtkdbkjjacgigiaaGreatDoorQ35
set_option maxRecDepth 100000
set_option maxHeartbeats 64000000
namespace Go.Proofs.YtkdbkjjacgigiaaGreatDoor
section
open Go.RowKit Go.G5 Go.Proofs.Tryz
def rY(N:Nat)(l:List Int)(i q:Nat):Bool:=cA (fun k=>!U9 N (l.getD i 0) (l.getD k 0)) q
theorem VA{g:Int}{N:Nat}{l:List Int}(z:aU g l=true)(D:g.toNat=N):nA g l=cA (fun i=>rY N l i i) l.length:=by
 unfold nA rY;rw[z,D];rfl
theorem PR(g:Int)(l:List Int)(v:Value)(w:World)(hv:aK w v l)(hf:aU g l=true):
  Calls prog 226 #[.agg #[g,v]] w fun e w'=>e=.returned (.bool (nA g l))/\Below w w w':=by
 have S:=hv;obtain⟨a,b,j0,c,rfl,h5,b6,hc,hb⟩:=hv.view prog 25 3 underlying25 aN;have g8:=S.capLe;obtain⟨h0,h6,O,e8⟩:=dB hf;obtain⟨N,rfl⟩:=Int.eq_ofNat_of_zero_le h0;have hN:N<=6:=aD;have Y:=VA hf (Int.toNat_natCast N);simp only[Int.toNat_natCast]at O;have K0:=aP.new w 29 #[(N:Int),aA a l.length c];have M:=cQ (N:Int) l _ _ (S.alloc (.cells #[(N:Int),aA a l.length c] 29));rw[hf]at M;have HX:=aH Y;have HM:=aH O;have e0:=aH M;have HC:=aH hc;clear Y O e8 M hf hc;go_enter func226,ntmps226;go_wp2_with fail;refine e0.out.mono ?_;rintro e w1 ⟨rfl,b1⟩;have B1:Below w w w1:=(bF _ _).after b1 (by simp);have K1:=K0.keep b1;have G:=K1.cell;clear K0 b1;go_wp2_with fail;clear G;go_loopw [13] (fun iv wr=>∃k:Nat,k<=l.length/\iv=aG k/\cA (fun i=>rY N l i i) k=true/\Below w1 w1 wr) (fun iv _=>l.length-(intOf iv).toNat)
 case atStart=>exact⟨0,Nat.zero_le _,rfl,rfl,Below.refl _ _⟩
 case round=>
  obtain⟨k,hk,rfl,F,Bw⟩:=hrel;obtain⟨wo,rfl⟩:∃z:World,z=wr:=⟨_,rfl⟩;have H:=aH F;have Z:=B1.after Bw B1.size;have K2:=K1.keep Bw;clear F;by_cases hlt:k<l.length
  ·have c5:(k:Int)<(l.length:Int):=aD;have b8:=HM.out _ (List.getElem_mem hlt);have ck:=aR HC.out hb Z aI k hlt;have ik:=fun W=>b6 W k hlt;have g9:=NZ (S.below Z aI) prog 25 3 underlying25 b6 k hk;have G:=K2.cell;obtain⟨x,Y⟩:=aJ (l[k]);have b0:l.getD k 0=x:=by rw[Y];exact aS l k hlt
   rw[<-Y]at b8 ck;have a7:=aH b0;clear Y b0;go_wp2_with fail;clear G;go_loopw [23] (fun jv wr=>∃q:Nat,q<=k/\jv=aG q/\rY N l k q=true/\Below wo wo wr) (fun jv _=>k-(intOf jv).toNat)
   case atStart=>exact⟨0,by omega,rfl,rfl,Below.refl _ _⟩
   case round=>
    obtain⟨q,hq,rfl,b4,Bi⟩:=hrel;obtain⟨wi,rfl⟩:∃z:World,z=wr:=⟨_,rfl⟩;have HI:=aH b4;have B3:=Z.after Bi Z.size;have K3:=K2.keep Bi;clear b4;by_cases e9:q<k
    ·have R:q<l.length:=aD;have c6:(q:Int)<(k:Int):=aD;have b9:=HM.out _ (List.getElem_mem R);have cq:=aR HC.out hb B3 aI q R;obtain⟨y,hy⟩:=aJ (l[q]);have b3:l.getD q 0=y:=by rw[hy];exact aS l q R
     rw[<-hy]at b9 cq;have K:=acT N x y wi hN b8 b9;have a8:=aH b3;have G:=K3.cell;obtain⟨z,hz⟩:=aJ (U9 N x y);rw[<-hz]at K;have HZ:=aH hz;have a6:=aH K;clear hy b3 hz K
     cases z with
     |true=>
      have D:nA (N:Int) l=false:=by rw[HX.out];exact cW (p:=fun i=>rY N l i i) hlt (cW (p:=fun k'=>!U9 N (l.getD k 0) (l.getD k' 0)) e9 (by rw[a7.out,a8.out,<-HZ.out];rfl))
      have J:=aH D;clear D;go_wp2_with fail;refine a6.out.mono ?_;rintro e w5 ⟨rfl,b5⟩;go_wp2;go_ret;exact⟨aW J.out.symm,B3.after b5 B3.size⟩
     |false=>
      have I:rY N l k (q+1)=true:=dG (p:=fun k'=>!U9 N (l.getD k 0) (l.getD k' 0)) HI.out (by rw[a7.out,a8.out,<-HZ.out];rfl);have e4:=aH I;clear I;go_wp2_with fail;refine a6.out.mono ?_;rintro e w5 ⟨rfl,b5⟩;go_wp2;go_roundw
      case rel=>exact⟨q+1,by omega,by go_num,e4.out,Bi.after b5 Bi.size⟩
      case measure=>simp[intOf];omega
    ·have c6:¬(q:Int)<(k:Int):=aD;have e7:k=q:=aD;have a9:cA (fun i=>rY N l i i) (k+1)=true:=dG (p:=fun i=>rY N l i i) H.out (by have:=HI.out;rw[<-e7]at this;exact this);have d0:=aH a9;clear a9;go_wp2;go_roundw
     case rel=>exact⟨k+1,by omega,by go_num,d0.out,Bw.after Bi Bw.size⟩
     case measure=>simp[intOf];omega
  ·have c5:¬(k:Int)<(l.length:Int):=aD;have b7:l.length=k:=aD;have D:nA (N:Int) l=true:=by rw[HX.out,b7,H.out]
   have J:=aH D;clear D b7;go_wp2;go_ret;exact⟨aW J.out.symm,Z⟩
theorem PS(g:Int)(l:List Int)(v:Value)(w:World)(hv:aK w v l)(hf:aU g l=true):
  Calls prog 59 #[.agg #[g,v]] w fun e w'=>e=.returned (.bool (nA g l))/\Below w w w':=by
 have c6:=hv;obtain⟨a,b,h7,c,rfl,g2,b5,hc,hb⟩:=hv.view prog 25 3 underlying25 aN;obtain⟨h0,h6,Y,e6⟩:=dB hf;obtain⟨N,rfl⟩:=Int.eq_ofNat_of_zero_le h0;have hN:N<=6:=aD;have Z:=VA hf (Int.toNat_natCast N);simp only[Int.toNat_natCast]at Y;have K0:=aP.new w 29 #[(N:Int),aA a l.length c];have S:=fun W (h:aK W (aA a l.length c) l)=>cK (N:Int) l _ W h;simp only[hf]at S;have HX:=aH Z;have HM:=aH Y;have a1:=aH S;have HC:=aH hc;have a8:=aH b5;clear Z Y e6 S hf hc b5;go_enter func59,ntmps59;go_wp2_with fail;go_loopw [3] (fun iv wr=>∃k:Nat,k<=l.length/\iv=aG k/\cA (fun i=>rY N l i i) k=true/\aP wr w 29 #[(N:Int),aA a l.length c]/\Below w w wr) (fun iv _=>l.length-(intOf iv).toNat)
 case atStart=>exact⟨0,Nat.zero_le _,rfl,rfl,K0,bF _ _⟩
 case round=>
  obtain⟨k,hk,rfl,J,K1,B1⟩:=hrel;obtain⟨wo,rfl⟩:∃z:World,z=wr:=⟨_,rfl⟩;have H:=aH J;have G:=K1.cell;clear J K0;go_wp2_with fail;refine(a1.out wo (c6.below B1 aI)).mono ?_;rintro e w2 ⟨rfl,b2⟩;have M:=B1.after b2 B1.size;have K2:=K1.keep b2;clear G K1 B1 b2;have G:=K2.cell;by_cases hlt:k<l.length
  ·have b9:(k:Int)<(l.length:Int):=aD;have b7:=HM.out _ (List.getElem_mem hlt);have ik:=fun W=>a8.out W k hlt;have e4:=aR HC.out hb M aI k hlt;obtain⟨x,Z⟩:=aJ (l[k]);have b0:l.getD k 0=x:=by rw[Z];exact aS l k hlt
   rw[<-Z]at b7 e4;have a6:=aH b0;clear Z b0;go_wp2_with fail;go_loopw [4] (fun jv wr=>∃(q m:Nat),q<=k/\jv=aG q/\rY N l k q=true/\wr=w2.drewN m) (fun jv _=>k-(intOf jv).toNat)
   case atStart=>exact⟨0,0,by omega,rfl,rfl,rfl⟩
   case round=>
    obtain⟨q,m,hq,rfl,b4,rfl⟩:=hrel;have HI:=aH b4;clear b4;by_cases e7:q<k
    ·have I:q<l.length:=aD;have c5:(q:Int)<(k:Int):=aD;have b8:=HM.out _ (List.getElem_mem I);have cq:=aR HC.out hb M aI q I;have iq:=fun W=>a8.out W q I;obtain⟨y,hy⟩:=aJ (l[q]);have b1:l.getD q 0=y:=by rw[hy];exact aS l q I
     rw[<-hy]at b8 cq;have R:=fun W=>acU N x y W hN b7 b8;have a7:=aH b1;obtain⟨z,hz⟩:=aJ (U9 N x y);simp only[<-hz]at R;have HZ:=aH hz;have F:=aH R;clear hy b1 hz R
     cases z with
     |true=>
      have D:nA (N:Int) l=false:=by rw[HX.out];exact cW (p:=fun i=>rY N l i i) hlt (cW (p:=fun k'=>!U9 N (l.getD k 0) (l.getD k' 0)) e7 (by rw[a6.out,a7.out,<-HZ.out];rfl))
      have O:=aH D;clear D;go_wp2_with fail;go_quiet ((go_at_call 107;first|exact gL (F.out _)|exact jF (F.out _)));go_wp2;go_ret;exact⟨aW O.out.symm,(M.drewN' _).drewN' _⟩
     |false=>
      have K:rY N l k (q+1)=true:=dG (p:=fun k'=>!U9 N (l.getD k 0) (l.getD k' 0)) HI.out (by rw[a6.out,a7.out,<-HZ.out];rfl);have d0:=aH K;clear K;go_wp2_with fail;go_quiet ((go_at_call 107;first|exact gL (F.out _)|exact jF (F.out _)));go_wp2;go_roundw
      case rel=>exact⟨q+1,m+nq,by omega,by go_num,d0.out,by simp⟩
      case measure=>simp[intOf];omega
    ·have c5:¬(q:Int)<(k:Int):=aD;have e5:k=q:=aD;have a9:cA (fun i=>rY N l i i) (k+1)=true:=dG (p:=fun i=>rY N l i i) H.out (by have:=HI.out;rw[<-e5]at this;exact this);have c9:=aH a9;clear a9;go_wp2;go_roundw
     case rel=>exact⟨k+1,by omega,by go_num,c9.out,K2.drewN _,M.drewN' _⟩
     case measure=>simp[intOf];omega
  ·have b9:¬(k:Int)<(l.length:Int):=aD;have b6:l.length=k:=aD;have D:nA (N:Int) l=true:=by rw[HX.out,b6,H.out]
   have O:=aH D;clear D b6;go_wp2_with fail;refine(a1.out w2 (c6.below M aI)).mono ?_;rintro e w3 ⟨rfl,b3⟩;go_wp2;go_ret;exact⟨aW O.out.symm,M.after b3 M.size⟩
theorem ajQ(w:World)(g:Int)(v:Value)(l:List Int)(hv:aK w v l)(hl:l.length<=1048576):
  Calls prog 309 #[.agg #[g,v]] w fun e w'=>∃ad i I,e=.returned (.tuple #[.agg #[(shN g l),aA ad i I],.bool (aU g l)])/\bK 3 w.heap.size w' (aA ad i I) (I7 g l)/\Below w w w':=by
 obtain⟨a,b,o6,c,rfl,l6,n2,hc,hb⟩:=hv.view prog 25 3 underlying25 aN;go_enter func309,ntmps309;go_wp2_with fail;refine bU ?_;intro V hV;have B:Below w w V:=gO hV;have K1:aP V w 29 #[g,aA a l.length c]:=gR hV;have F:aP V (w.heap.size+1) 29 #[aB,()]:=iP hV;clear hV;refine(cQ g l _ _ (hv.below B aI)).mono ?_;rintro e w1 ⟨rfl,M⟩;have K1:=K1.keep M;have F:=F.keep M;have B1:=B.after M B.size;have o2:=hv.below B1 aI;clear B M;have G1:=K1.cell;have z1:=K1.lt;have z2:=F.lt
 cases O:aU g l with
 |false=>
  have hN:shN g l=0:=by unfold shN;rw[O];rfl
  have hL:I7 g l=[]:=by unfold I7;rw[O];rfl
  have HN:=aH hN;have HL:=aH hL;have HF:=aH O;have G2:=F.cell;have F2:=F.frozen;clear hN hL;go_wp2;refine bN ?_;intro Wf z;have b0:aP Wf (w.heap.size+1) 29 #[aB,()]:=by rw[z];have:=(F.set 0 (aG 0)).set 1 (aA none 0 0);simpa using this
  have Bf:Below w w Wf:=by rw[z];exact Below.setCell (Below.setCell B1 (by first|omega|(simp;done)|(simp;omega)) _) (by first|omega|(simp;done)|(simp;omega)) _
  have Gf:=b0.cell;clear z G1 G2 F2;exact bodyPost_ret (v:=.tuple #[.agg #[aB,()],.bool false]) (by simp[results,results309,go_sem,Gf]) rfl ⟨none,0,0,by rw[HN.out,HF.out],by rw[HL.out];exact bK.nil _ _ _,Bf⟩
 |true=>
  obtain⟨h0,h6,hm⟩:=oH O;have l5:=H0 O;have hN:shN g l=g:=by unfold shN;rw[O];rfl
  have hL:I7 g l=dT (lB l):=by unfold I7;rw[O];rfl
  have HN:=aH hN;have HL:=aH hL;have HF:=aH O;have HM:=aH hm;clear hN hL O hm;go_wp2_with fail;go_loopw [4,16] (fun out i wr=>∃(k:Nat) (ad:Option Addr) (Y I:Nat),k<=l.length/\out=aA ad Y I/\i=aG k/\aM 3 w1 wr (aA ad Y I) (lB (l.take k))/\Below w1 w1 wr)
   (fun _ i _=>l.length-(intOf i).toNat)
  case atStart=>exact⟨0,none,0,0,Nat.zero_le _,rfl,rfl,aM.nil _ _ _,Below.refl _ _⟩
  case round=>
   obtain⟨k,ad,Y,I,hk,rfl,rfl,ho,B⟩:=hrel;obtain⟨wo,rfl⟩:∃wo:World,wo=wr:=⟨_,rfl⟩;have HO:=aH ho;clear ho;by_cases hlt:k<l.length
   ·have k0:=aR hc hb (B1.after B B1.size) aI k hlt;have R:=HM.out k hlt;have S:=aeE l k hlt;have k4:(lB (l.take k)).length<=6*64:=by have:=JA (l.take k);simp at this;omega
    obtain⟨t,ht⟩:=aJ (l[k]);rw[<-ht]at k0 R S;obtain⟨A,hA⟩:=aJ (lB (l.take k));rw[<-hA]at HO k4 S;have j1:=aH S;have b5:=R.1;have f3:=R.2;clear ht hA S R;have yo:=B.size;go_wp2_with fail;refine(kS t _ b5 f3).mono ?_;rintro e w4 ⟨p4,i4,q4,rfl,o4,b3⟩;have f0:i4=(eK t).length:=o4.ints.capLe.1;have e4:aV (aA ad Y I) (aA p4 i4 q4):=aV.of_lt HO.out.toW o4.toW aI;have e8:=uS t;have J:=PV t;have a6:DL t=(eK t).map (lK t):=rfl;have Z:=aH a6;clear a6;obtain⟨E,hE⟩:=aJ (eK t);rw[<-hE]at Z o4 f0 e8 J;subst f0;have h8:=aH J;have AP:=aH e4;clear hE J e4;obtain⟨a4,j7⟩:=aJ p4;obtain⟨c4,j9⟩:=aJ q4;subst j7 j9;have y4:=b3.size;have i8:=aH (HO.out.keep b3);have B4:=B.after b3 B.size;go_wp2_with fail;go_loopw [4,23] (fun out i wi=>∃(j:Nat) (ad:Option Addr) (Y I:Nat),j<=E.length/\out=aA ad Y I/\i=aG j/\aM 3 w1 wi (aA ad Y I) (A++(E.take j).map (lK t))/\aM 3 wo wi (aA a4 E.length c4) E/\aV (aA ad Y I) (aA a4 E.length c4)/\Below w1 w1 wi)
     (fun _ i _=>E.length-(intOf i).toNat)
    case atStart=>exact⟨0,_,_,_,Nat.zero_le _,rfl,rfl,by simpa using i8.out,o4,AP.out,B4⟩
    case round=>
     obtain⟨j,j3,k9,j5,hj,rfl,rfl,f2,oE,ap,Bi⟩:=hrel;obtain⟨wi,rfl⟩:∃wi:World,wi=wr:=⟨_,rfl⟩;have a9:=aH f2;have c6:=aH ap;clear f2 ap;have yi:=Bi.size;by_cases b4:j<E.length
     ·obtain⟨a5,bj,l9,c5,e7,k3,l4,e5,_⟩:=oE.ints.view prog 25 3 underlying25 aN;simp only[Value.slice.injEq,true_and]at e7;obtain⟨rfl,rfl⟩:=e7;have K:=h8.out _ (List.getElem_mem b4);have e6:=e5 j b4;obtain⟨e,he⟩:∃e:Nat,E[j]=(e:Int):=⟨E[j].toNat,by omega⟩;rw[he]at e6 K;have D:A++(E.take (j+1)).map (lK t)=(A++(E.take j).map (lK t))++[lK t e]:=by rw[List.take_succ_eq_append_getElem b4,List.map_append,List.map_cons,List.map_nil,he,List.append_assoc]
      have hp:=abP e K;have b6:(2:Int)^(e:Int).toNat=2^e:=by simp
      rw[b6]at hp;have k6:bits .andNot .i64 t (2^e)=lK t e:=by unfold lK;rw[b6];exact lA b5 aD aD aD
      have j8:=agI t e ⟨b5,f3⟩;obtain⟨y,hy⟩:=aJ (lK t e);rw[<-hy]at k6 j8 D;have j0:=aH D;have c7:=aH oE;have n3:=hp.1;have o0:=hp.2;have n1:e<6:=aD;have b1:(A++(E.take j).map (lK t)).length<=400:=by simp;omega
      clear e5 D hy b6 he K hp oE;go_wp2_with (at_builtin;refine fN rfl _ _ _ rfl 3 underlying25 aN w1.heap.size _ _ y wi.heap.size rfl rfl (aZ wi #[y] 3 0 _ rfl) (a9.out.alloc _) ⟨by omega,by omega⟩ aD aT ?_;intro v' w6 a7 e9 k5;obtain⟨av,nv,cv,rfl⟩:=a7.shape3);have B6:Below w1 w1 w6:=(Bi.alloc Bi.size (.cells #[y] 3)).grown e9 aT (fun q hq=>(a9.out.lt q hq).1);have l1:=((c7.out.alloc (.cells #[y] 3)).growA e9 c6.out);have j4:=k5.apart c6.out (fun k hk=>by have:=(c7.out.lt k hk).2;simp;omega);go_roundw
      case rel=>exact⟨j+1,av,nv,cv,by omega,rfl,by go_num,by rw[j0.out];exact a7,l1,j4,B6⟩
      case measure=>simp[intOf];omega
     ·have b1:A++(E.take j).map (lK t)=lB (l.take (k+1)):=by rw[List.take_of_length_le aD,j1.out,Z.out]
      have h7:=aH b1;clear b1;go_wp2;go_roundw
      case rel=>exact⟨k+1,j3,k9,j5,by omega,rfl,by go_num,by rw[<-h7.out];exact a9.out,Bi⟩
      case measure=>simp[intOf];omega
   ·have k2:k=l.length:=aD;subst k2;have a1:lB (l.take l.length)=lB l:=by rw[List.take_length]
    have hO:aM 3 w1 wo (aA ad Y I) (lB l):=by rw[<-a1];exact HO.out
    have k7:=JA l;obtain⟨A,hA⟩:=aJ (lB l);rw[<-hA]at hO k7;have HO:=aH hO;have HA:=aH hA;have j2:=K1.keep B;have c9:=F.keep B;have BB:=B1.after B B1.size;clear a1 hO hA G1;have G1:=j2.cell;have yB:=BB.size;go_wp2_with fail;refine(zJ g _ _ _ HO.out.ints aD).mono ?_;rintro e w7 ⟨p7,i7,q7,rfl,o7,N⟩;have F:=c9.keep N;have B7:=BB.after N BB.size;have G2:=F.cell;have F2:=F.frozen;have o9:=F.lt;have z7:=N.size;clear G1 N;go_wp2;refine bN ?_;intro Wf z;have b0:aP Wf (w.heap.size+1) 29 #[g,aA p7 i7 q7]:=by rw[z];have:=(F.set 0 (aG g)).set 1 (aA p7 i7 q7);simpa using this
    have zo:=c9.lt;have Bf:Below w w Wf:=by rw[z];exact Below.setCell (Below.setCell B7 (by first|omega|(simp;done)|(simp;omega)) _) (by first|omega|(simp;done)|(simp;omega)) _
    have of:bK 3 w.heap.size Wf (aA p7 i7 q7) (dT A):=by rw[z];exact((o7.setBelow (by first|omega|(simp;done)|(simp;omega)) _).setBelow (by first|omega|(simp;done)|(simp;omega)) _).mono (by first|omega|(simp;done)|(simp;omega))
    have Gf:=b0.cell;clear z G2 F2;exact bodyPost_ret (v:=.tuple #[.agg #[g,aA p7 i7 q7],.bool true]) (by simp[results,results309,go_sem,Gf]) rfl ⟨p7,i7,q7,by rw[HN.out,HF.out],by rw[HL.out,<-HA.out];exact of,Bf⟩
theorem ZQ(w:World)(b:Nat)(g:Int)(l:List Int)(v:Value)(s:Int)(F:aK w v l)(z:l.Pairwise (· < ·))(hl:l.length<=1048576)
  (c0:w.cell? ⟨b,0,none⟩=some (aG g)) (c1:w.cell? ⟨b,1,none⟩=some v):
  Calls prog 311 #[s,.pointer (some ⟨b,0,none⟩)] w fun e w'=>e=.returned (.bool (!gQ l s))/\Below w w w':=by
 obtain⟨a,c,rfl⟩:=F.shape;have hcl:=zK g l _ s w F z hl
 cases D:gQ l s with
 |false=>rw[D]at hcl;go_enter func311,ntmps311;go_wp2_with (go_at_call 295;refine hcl.mono ?_;rintro e w' ⟨rfl,hb⟩);go_ret;exact⟨rfl,hb⟩
 |true=>rw[D]at hcl;go_enter func311,ntmps311;go_wp2_with (go_at_call 295;refine hcl.mono ?_;rintro e w' ⟨rfl,hb⟩);go_ret;exact⟨rfl,hb⟩
theorem GY:∀args w,(callFunc 311 args).run prog w=.ok (.enter 311 args) w:=enters_of func311 aO rfl
theorem ZZ(g:Int)(l:List Int)(v:Value)(w:World)(hv:aK w v l)(hl:l.length<=1048576):
  Calls prog 229 #[.agg #[g,v]] w fun e w'=>e=.returned (.bool (pW g l))/\Below w w w':=by
 obtain⟨a,c,rfl⟩:=hv.shape;have c7:∀(fn:Fn) (first cap:Array Value) (w:World),(Instr.makeFunc fn first cap).run prog w=.ok (.func fn first cap) w:=fun _ _ _ _=>rfl;go_enter func229,ntmps229;go_wp2_with fail;refine bU ?_;intro V hV;have B:Below w w V:=gY hV;have O:aP V w 29 #[g,aA a l.length c]:=by rw[hV];exact(aP.new _ _ _)
 clear hV;refine(ajQ _ g _ l (hv.below B aI) hl).mono ?_;rintro e w1 ⟨p1,K,M,rfl,o1,F⟩;have O:=O.keep F;have B1:=B.after F B.size;have a9:=hv.below B1 aI;have hd:=an7 g l;have y1:=B1.size;clear F B
 cases R:aU g l with
 |false=>
  have hx:pW g l=false:=by rw[<-hd,R];rfl
  have HX:=aH hx;clear hx hd;go_wp2;go_ret;exact⟨by rw[HX.out];rfl,(by repeat(first|exact Below.refl _ _|(with_reducible refine Below.setCell ?_ (by first|omega|(simp;done)|(simp;omega)) _)|(with_reducible refine Below.alloc ?_ (by first|omega|(simp;done)|(simp;omega)) _)|(with_reducible refine Below.drewN' ?_ _)|(with_reducible refine Below.drew ?_)|(with_reducible assumption)|refine Below.trans ?_ (Below.mono (by assumption) (by first|omega|(simp;done)|(simp;omega)))))⟩
 |true=>
  rw[R,Bool.true_and]at hd;have z:=(dB R).2.2.2;have a7:=apC g l;obtain⟨N,hN⟩:=aJ (shN g l);obtain⟨L,hL⟩:=aJ (I7 g l);rw[<-hN];rw[<-hL]at o1 hd a7;have I:∀W,aK W (aA p1 K M) L->aK W (aA a l.length c) l->W.cell? ⟨w.heap.size,0,none⟩=some (aG g)->W.cell? ⟨w.heap.size,1,none⟩=some (aA a l.length c) ->
    Calls prog 310 #[aA p1 K M,.func (.func 311) #[] #[.pointer (some ⟨w,0,none⟩)]] W fun e w'=>e=.returned (.bool (L.any fun s=>!gQ l s))/\Below W W w':=
   fun W hW a6 h0 h1=>AC L _ W hW 311 GY w.heap.size (fun s=>!gQ l s) (fun t W' _ hB=>ZQ W' w.heap.size g l _ t (a6.keep hB) z hl (keep hB h0) (keep hB h1))
  obtain⟨bb,J⟩:=aJ (L.any fun s=>!gQ l s);rw[<-J]at hd I;have HD:=aH hd;have S:=aH I;have z1:=O.lt;have D:=O.alloc (.cells #[N,aA p1 K M] 29);have g0:(w1.alloc (.cells #[N,aA p1 K M] 29)).cell? ⟨w.heap.size,0,none⟩=some (aG g):=D.cell 0;have g1:(w1.alloc (.cells #[N,aA p1 K M] 29)).cell? ⟨w.heap.size,1,none⟩=some (aA a l.length c):=D.cell 1;have Y:=aH g0;have Z:=aH g1;clear hd I J hL hN R z D g0 g1;go_wp2_with (go_at_call 310;refine(S.out _ (o1.alloc _).ints (a9.alloc _) Y.out Z.out).mono ?_;rintro e w3 ⟨rfl,c6⟩);go_ret;exact⟨aW HD.out,(by repeat(first|exact Below.refl _ _|(with_reducible refine Below.setCell ?_ (by first|omega|(simp;done)|(simp;omega)) _)|(with_reducible refine Below.alloc ?_ (by first|omega|(simp;done)|(simp;omega)) _)|(with_reducible refine Below.drewN' ?_ _)|(with_reducible refine Below.drew ?_)|(with_reducible assumption)|refine Below.trans ?_ (Below.mono (by assumption) (by first|omega|(simp;done)|(simp;omega)))))⟩
theorem ND(P:Nat->Bool)(n:Nat)(x:Int):x∈cD P n↔∃e:Nat,e<n/\P e=true/\x=(e:Int):=by
 unfold cD;simp only[List.mem_map,List.mem_filter,List.mem_range];constructor
 ·rintro⟨e,⟨h1,h2⟩,rfl⟩;exact⟨e,h1,h2,rfl⟩
 ·rintro⟨e,h1,h2,rfl⟩;exact⟨e,⟨h1,h2⟩,rfl⟩
theorem acW(l:List Int)(s n:Nat)(I:n<=6)(F:s<2^n):mB l (s:Int)=true↔∀e,e<n->cZ s e=true->gQ l ((s:Int)-2^e)=true:=by
 have D:eK (s:Int)=cD (cZ s) n:=by unfold eK;rw[show((s:Int)).toNat=s by omega];exact tB s 6 n (Nat.lt_of_lt_of_le F (Nat.pow_le_pow_right aQ I)) F
 unfold mB;rw[D,List.all_eq_true];constructor
 ·intro h e z hb;have:=h (e:Int) ((ND _ _ _).2 ⟨e,z,hb,rfl⟩);simpa using this
 ·intro h x J;obtain⟨e,z,hb,rfl⟩:=(ND _ _ _).1 J;have:=h e z hb;simpa using this
theorem Z0(g:Int)(l:List Int)(v:Value)(w:World)(hv:aK w v l)(hl:l.length<=1048576):
  Calls prog 62 #[.agg #[g,v]] w fun e w'=>e=.returned (.bool (pW g l))/\Below w w w':=by
 have N:=hv;obtain⟨a,b,i7,c,rfl,f8,f0,hc,hb⟩:=hv.view prog 25 3 underlying25 aN;have K0:=aP.new w 29 #[g,aA a l.length c]
 cases R:aU g l with
 |false=>
  have hx:pW g l=false:=by unfold pW;rw[R];rfl
  have HX:=aH hx;have HF:=aH R;clear hx R;go_enter func62,ntmps62;go_wp2_with fail;go_loopw [3] (fun i wr=>i=aG 0/\Below w w wr/\aP wr w 29 #[g,aA a l.length c]) (fun _ _=>0)
  case atStart=>exact⟨rfl,bF _ _,K0⟩
  case round=>obtain⟨rfl,B,J⟩:=hrel;have Y:=J.cell;go_wp2_with fail;refine(cK g l _ _ (N.below B aI)).mono ?_;rintro e w2 ⟨rfl,F⟩;rw[HF.out];have J:=J.keep F;have O:=B.after F B.size;clear Y;have Y:=J.cell;go_wp2_with fail;refine(cK g l _ _ (N.below O aI)).mono ?_;rintro e w3 ⟨rfl,a9⟩;rw[HF.out];go_wp2;go_ret;exact⟨aW HX.out.symm,O.after a9 O.size⟩
 |true=>
  have hx:pW g l=l.all (mB l):=by unfold pW;rw[R];rfl
  obtain⟨h0,h6,hm⟩:=oH R;obtain⟨_,_,c7,_⟩:=dB R;obtain⟨n,rfl⟩:=Int.eq_ofNat_of_zero_le h0;have f3:n<=6:=aD;have f7:=H0 R;have HX:=aH hx;have HF:=aH R;have HM:=aH hm;have e7:=aH c7;clear hx R hm c7;go_enter func62,ntmps62;go_wp2_with fail;go_loopw [3] (fun i wr=>∃k:Nat,k<=l.length/\i=aG k/\(l.take k).all (mB l)=true/\Below w w wr/\aP wr w 29 #[n,aA a l.length c]) (fun i _=>l.length-(intOf i).toNat)
  case atStart=>exact⟨0,Nat.zero_le _,rfl,by simp,bF _ _,K0⟩
  case round=>
   obtain⟨k,hk,rfl,a1,B,J⟩:=hrel;obtain⟨wo,rfl⟩:∃wo:World,wo=wr:=⟨_,rfl⟩;have Z:=aH a1;clear a1 K0;have Y:=J.cell;go_wp2_with fail;refine(cK n l _ _ (N.below B aI)).mono ?_;rintro e w2 ⟨rfl,F⟩;rw[HF.out];have J:=J.keep F;have O:=B.after F B.size;clear Y F B;by_cases hlt:k<l.length
   ·have b1:=HM.out k hlt
    have D:=e7.out _ (List.getElem_mem hlt);have b3:=iW (mB l) l k hlt;obtain⟨t,ht⟩:∃t:Nat,l[k]=(t:Int):=⟨l[k].toNat,by omega⟩;have c8:t<2^n:=by
     rw[ht]at D;have e2:(n:Int).toNat=n:=aD;rw[e2]at D
     exact_mod_cast D.2
    have c6:=acW l t n f3 c8;have z:=fun W (hB:Below w w W)=>aR hc hb hB aI k hlt;rw[ht]at b3 b1;simp only[ht]at z;have b5:=aH c6;have e8:=aH b3;have HC:=aH z;have i1:=b1.2;have HT:=aH ht;clear b3 c6 D z ht b1 c8;have f6:=fun W=>f0 W k hlt;have Y:=J.cell;go_wp2_with fail;go_loopw [4] (fun i wr=>∃e:Nat,e<=n/\i=aG e/\(∀d,d<e->cZ t d=true->gQ l ((t:Int)-2^d)=true)/\Below w w wr/\aP wr w 29 #[n,aA a l.length c]) (fun i _=>n-(intOf i).toNat)
    case atStart=>exact⟨0,Nat.zero_le _,rfl,by simp,O,J⟩
    case round=>
     obtain⟨j,hj,rfl,c5,Bi,Ki⟩:=hrel;obtain⟨wi,rfl⟩:∃wi:World,wi=wr:=⟨_,rfl⟩;have a8:=aH c5;clear c5 Y J O;have Y:=Ki.cell;have h5:=HC.out wi Bi;have S:=N.below Bi aI;by_cases f2:j<n
     ·have b9:=jN (t:Int) j aD aD;have M:=oP t j;obtain⟨y,hy⟩:=aJ (dI (t:Int) j);rw[<-hy]at b9 M;have hp:=abP (j:Int) aD;have c9:(2:Int)^(j:Int).toNat=2^j:=by simp
      rw[c9]at hp;have h8:=hp.1;have h9:=hp.2;clear hp c9 hy;have h7:j<6:=aD
      cases I:cZ t j with
      |false=>
       have f4:(y==1)=false:=by rw[M,I]
       have a7:=aH I;clear I M;go_wp2_with fail;go_quiet (fail);go_wp2;go_roundw
       case rel=>exact⟨j+1,by omega,by go_num,fun d hd K=>by
         by_cases h:d<j
         ·exact a8.out d h K
         ·have:d=j:=aD
          subst this;rw[a7.out]at K;exact Bool.noConfusion K,Bi.drewN' _,Ki.drewN _⟩
       case measure=>simp[intOf];omega
      |true=>
       have f4:(y==1)=true:=by rw[M,I]
       have a7:=aH I;clear I M;have i6:IntKind.i64.wrap ((t:Int)-2^j)=(t:Int)-2^j:=by rw[IntKind.wrap_i64];omega
       cases hh:gQ l ((t:Int)-2^j) with
       |false=>
        go_wp2_with fail;go_quiet ((go_at_call 110;first|exact oT (qH l _ _ _ (S.drewN _)) hh|exact sP (qH l _ _ _ (S.drewN _)) hh));go_wp2;go_ret;refine⟨aW ?_,Bi.drewN' _⟩;rw[HX.out];have:mB l l[k]=false:=by
         rw[HT.out]
         cases hd:mB l (t:Int) with
         |false=>rfl
         |true=>have:=b5.out.1 hd j f2 a7.out;rw[hh]at this;cases this
        exact(jK _ _ _ hlt this).symm
       |true=>
        have HH:=aH hh;go_wp2_with fail;go_quiet ((go_at_call 110;first|exact oT (qH l _ _ _ (S.drewN _)) hh|exact sP (qH l _ _ _ (S.drewN _)) hh));clear hh;go_wp2;go_roundw
        case rel=>exact⟨j+1,by omega,by go_num,fun d hd K=>by
          by_cases h:d<j
          ·exact a8.out d h K
          ·have:d=j:=aD
           subst this;exact HH.out,Bi.drewN' _,Ki.drewN _⟩
        case measure=>simp[intOf];omega
     ·have a6:mB l (t:Int)=true:=b5.out.2 (fun e he hb=>a8.out e aD hb);have b7:=aH a6;clear a6;go_wp2;go_roundw
      case rel=>exact⟨k+1,by omega,by go_num,by rw[e8.out,Z.out,b7.out];rfl,Bi,Ki⟩
      case measure=>simp[intOf];omega
   ·have b8:l.all (mB l)=true:=by rw[<-kO (mB l) l k aD,Z.out]
    have e6:=aH b8;clear b8;have Y:=J.cell;go_wp2_with fail;refine(cK n l _ _ (N.below O aI)).mono ?_;rintro e w3 ⟨rfl,a9⟩;rw[HF.out];go_wp2;go_ret;exact⟨aW (by rw[HX.out,e6.out]),O.after a9 O.size⟩
theorem WG(w:World)(g:Int)(v:Value)(l:List Int)(hv:aK w v l)(hf:aU g l=true):
  Calls prog 230 #[.agg #[g,v]] w fun r w'=>r=.returned (.bool (yO g l))/\Below w w w':=by
 have e0:=hv;obtain⟨p,bb,i6,c,rfl,c9,c8,hc,hb⟩:=hv.view prog 25 3 underlying25 aN;have hm:=dR hf;have hl:=iL hf;have S:=(dB hf).2.2.2;obtain⟨V,hV⟩:=aJ (w.alloc (.cells #[g,aA p l.length c] 29));have B:Below w w V:=gY hV;have K1:aP V w 29 #[g,aA p l.length c]:=gJ hV;have c7:∀W,W=V->Calls prog 146 #[.agg #[g,aA p l.length c]] W fun e w'=>e=.returned (.bool true)/\Below W W w':=fun W h=>by rw[h];have:=cQ g l _ V (e0.below B aI);rw[hf]at this;exact this
 have hex:=fun(W:World) (h:aK W (aA p l.length c) l) (a b:Int) (ha:0<=a/\a<64) (hb:0<=b/\b<64)=>PX W g _ l h S aD a b ha hb;have hx:yO g l=(!l.isEmpty&&l.all fun a=>l.all (nN l a)):=by unfold yO;rw[hf,Bool.true_and]
 have HV:=aH hV;have f3:=aH c7;have f0:=aH hex;have HX:=aH hx;have HM:=aH hm;have HC:=aH hc;have b4:=aH c8;clear hV c7 hex hx hm hf S hc c8 c9;go_enter func230,ntmps230;go_wp2_with fail;refine(f3.out _ HV.out.symm).mono ?_;rintro e w1 ⟨rfl,b1⟩;rw[HV.out.symm]at b1;have B1:=B.after b1 B.size;have b8:=K1.keep b1;have G:=b8.cell;by_cases h0:l.length=0
 ·have g0:((l.length:Int)==0)=true:=by rw[beq_iff_eq];omega
  have M:yO g l=false:=by rw[HX.out,List.eq_nil_of_length_eq_zero h0];rfl
  have N:=aH M;clear M;go_wp2;go_ret;exact⟨aW N.out.symm,B1⟩
 ·have g0:((l.length:Int)==0)=false:=by rw[beq_eq_false_iff_ne];omega
  have M:yO g l=l.all fun a=>l.all (nN l a):=by
   rw[HX.out];have:l.isEmpty=false:=by cases l with|nil=>simp at h0|cons _ _=>rfl
   rw[this];rfl
  have N:=aH M;clear M;go_wp2_with fail;clear G;go_loopw [19] (fun iv wr=>∃j:Nat,j<=l.length/\iv=aG j/\(l.take j).all (fun a=>l.all (nN l a))=true/\Below w1 w1 wr) (fun iv _=>l.length-(intOf iv).toNat)
  case atStart=>exact⟨0,Nat.zero_le _,rfl,by simp,Below.refl _ _⟩
  case round=>
   obtain⟨j,hj,rfl,D,Bw⟩:=hrel;have R:=aH D;clear D;have B2:=B1.after Bw B1.size;have b9:=b8.keep Bw;have z3:=Bw.size;by_cases hlt:j<l.length
   ·have Y:(j:Int)<(l.length:Int):=aD;have ck:=aR HC.out hb B2 aI j hlt;have ik:=fun W=>b4.out W j hlt;have ha:=HM.out _ (List.getElem_mem hlt);have F:(l.take (j+1)).all (fun a=>l.all (nN l a))=l.all (nN l l[j]):=by rw[List.take_succ_eq_append_getElem hlt,List.all_append,R.out];simp
    obtain⟨a,a1⟩:=aJ (l[j]);rw[<-a1]at ck ha F;have Z:a∈l:=by rw[a1];exact List.getElem_mem hlt
    have b6:=aH Z;have f6:=aH F;clear F a1 Z;have G:=b9.cell;go_wp2_with fail;clear G;go_loopw [26] (fun iv wq=>∃k:Nat,k<=l.length/\iv=aG k/\(l.take k).all (nN l a)=true/\Below wr wr wq) (fun iv _=>l.length-(intOf iv).toNat)
    case atStart=>exact⟨0,Nat.zero_le _,rfl,by simp,Below.refl _ _⟩
    case round=>
     obtain⟨k,hk,rfl,D,Bq⟩:=hrel;have I:=aH D;clear D ck ik Y;have b0:=Bw.after Bq z3;have B3:=B1.after b0 B1.size;have f7:=b9.keep Bq;by_cases J:k<l.length
     ·have d0:(k:Int)<(l.length:Int):=aD;have ck:=aR HC.out hb B3 aI k J;have ik:=fun W=>b4.out W k J;have c5:=HM.out _ (List.getElem_mem J);have F:=show(l.take (k+1)).all (nN l a)=nN l a l[k] by rw[List.take_succ_eq_append_getElem J,List.all_append,I.out];simp
      obtain⟨b,a6⟩:=aJ (l[k]);rw[<-a6]at ck c5 F;have K:b∈l:=by rw[a6];exact List.getElem_mem J
      have hcl:=f0.out wr (e0.below B3 aI) a b ha c5;obtain⟨z,hz⟩:=aJ (nN l a b);rw[<-hz]at hcl F;have b3:=aH hcl;have b7:=aH F;have HZ:=aH hz;have f5:=aH K;clear hcl F hz K a6;have G:=f7.cell
      cases z with
      |true=>
       go_wp2_with fail;refine b3.out.mono ?_;rintro r w5 ⟨rfl,b5⟩;go_wp2;go_roundw
       case rel=>exact⟨k+1,by omega,by go_num,by rw[b7.out],Bq.after b5 Bq.size⟩
       case measure=>simp[intOf];omega
      |false=>
       have c6:yO g l=false:=by
        rw[N.out]
        cases O:(l.all fun a=>l.all (nN l a)) with
        |false=>rfl
        |true=>
         have h1:=List.all_eq_true.1 O _ b6.out;have h2:=List.all_eq_true.1 h1 _ f5.out;rw[<-HZ.out]at h2
         cases h2
       have f2:=aH c6;clear c6;go_wp2_with fail;refine b3.out.mono ?_;rintro r w5 ⟨rfl,b5⟩;go_wp2;go_ret;exact⟨aW f2.out.symm,B3.after b5 B3.size⟩
     ·have d0:¬(k:Int)<(l.length:Int):=aD;have O:=I.out;rw[List.take_of_length_le aD]at O;have HH:=aH O;clear O;go_wp2;go_roundw
      case rel=>exact⟨j+1,by omega,by go_num,by rw[f6.out,HH.out],b0⟩
      case measure=>simp[intOf];omega
   ·have Y:¬(j:Int)<(l.length:Int):=aD;have O:=R.out;rw[List.take_of_length_le aD]at O;have HH:=aH O;clear O;go_wp2;go_ret;exact⟨aW (by rw[N.out,HH.out]),B2⟩
end
end Go.Proofs.YtkdbkjjacgigiaaGreatDoor
