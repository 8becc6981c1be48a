/- Lemmas for CardRunConsole. No condition. -/
import Derived.Test.YtkdbkjjacgigiaaGreatDoorR28
import Derived.Test.YtkdbkjjacgigiaaGreatDoorR31
import Derived.LaidMore
import Derived.Stop.LaidErr
import Derived.Stop.Joined
set_option maxRecDepth 100000
set_option maxHeartbeats 64000000
namespace Go.Proofs.YtkdbkjjacgigiaaGreatDoor
section
open Go.RowKit Go.G5 Go.Proofs.Tryz
theorem ag1(w:World)(c:aB)(n:Int)(v:Value)(l:aI)(hv:Ints w v l)(hl:l.length<=1048576):
  aH 119 #[aR c,aM #[n,v]] w (aR ((nZ c n l).getD mT)):=by
 obtain⟨a,d,rfl⟩:=hv.shape;have D:Below w w (w.alloc (.cells #[n,aD a l d] 27)):=cQ _ _;have I:=hv.alloc (.cells #[n,aD a l d] 27);have z0:=D.size;by_cases c0:c=(⟨#[102,117,110,99,116,105,111,110]⟩:aB)
 .have z:nZ c n l=some (sL n l):=by unfold nZ;rw[if_pos c0]
  have t0:(c.toList==([102,117,110,99,116,105,111,110]:List UInt8))=true:=by rw[show([102,117,110,99,116,105,111,110]:List UInt8)=((⟨#[102,117,110,99,116,105,111,110]⟩:aB):aB).toList from dS,dR,bH c0]
  rw[z];clear z c0;have hC:=ah8 _ n _ l I hl;have J:=aT hC;clear hC;go_enter func119,ntmps119;go_wp2_with fail;refine aV J.out ?_;intro w1 K;go_wp2;go_ret;exact⟨rfl,D.after K D.size⟩
 have t0:(c.toList==([102,117,110,99,116,105,111,110]:List UInt8))=false:=by rw[show([102,117,110,99,116,105,111,110]:List UInt8)=((⟨#[102,117,110,99,116,105,111,110]⟩:aB):aB).toList from dS,dR,bG c0]
 by_cases c1:c=(⟨#[101,120,116,114,101,109,101]⟩:aB)
 .have z:nZ c n l=some (BS n l):=by unfold nZ;rw[if_neg c0,if_pos c1]
  have t1:(c.toList==([101,120,116,114,101,109,101]:List UInt8))=true:=by rw[show([101,120,116,114,101,109,101]:List UInt8)=((⟨#[101,120,116,114,101,109,101]⟩:aB):aB).toList from dS,dR,bH c1]
  rw[z];clear z c0 c1;have hC:=amM _ n _ l I hl;have J:=aT hC;clear hC;go_enter func119,ntmps119;go_wp2_with fail;refine aV J.out ?_;intro w1 K;go_wp2;go_ret;exact⟨rfl,D.after K D.size⟩
 have t1:(c.toList==([101,120,116,114,101,109,101]:List UInt8))=false:=by rw[show([101,120,116,114,101,109,101]:List UInt8)=((⟨#[101,120,116,114,101,109,101]⟩:aB):aB).toList from dS,dR,bG c1]
 by_cases c2:c=(⟨#[109,97,116,114,111,105,100]⟩:aB)
 .have z:nZ c n l=some (yR (zR n l)):=by unfold nZ;rw[if_neg c0,if_neg c1,if_pos c2]
  have t2:(c.toList==([109,97,116,114,111,105,100]:List UInt8))=true:=by rw[show([109,97,116,114,111,105,100]:List UInt8)=((⟨#[109,97,116,114,111,105,100]⟩:aB):aB).toList from dS,dR,bH c2]
  rw[z];clear z c0 c1 c2;have hC:=alD _ n _ l I hl;have J:=aT hC;clear hC;go_enter func119,ntmps119;go_wp2_with fail;refine aV J.out ?_;intro w1 K;go_wp2_with fail;refine aV (VO _ w1) ?_;rintro w2 rfl;go_wp2;go_ret;exact⟨rfl,D.after K D.size⟩
 have t2:(c.toList==([109,97,116,114,111,105,100]:List UInt8))=false:=by rw[show([109,97,116,114,111,105,100]:List UInt8)=((⟨#[109,97,116,114,111,105,100]⟩:aB):aB).toList from dS,dR,bG c2]
 by_cases c3:c=(⟨#[99,108,97,105,109]⟩:aB)
 .have z:nZ c n l=some (cfT n l):=by unfold nZ;rw[if_neg c0,if_neg c1,if_neg c2,if_pos c3]
  have t3:(c.toList==([99,108,97,105,109]:List UInt8))=true:=by rw[show([99,108,97,105,109]:List UInt8)=((⟨#[99,108,97,105,109]⟩:aB):aB).toList from dS,dR,bH c3]
  rw[z];clear z c0 c1 c2 c3;have hC:=abU _ n _ l I hl;have J:=aT hC;clear hC;go_enter func119,ntmps119;go_wp2_with fail;refine J.out.mono ?_;rintro e w1 ⟨p0,i0,q0,p1,i1,q1,p2,i2,q2,p3,i3,q3,rfl,R,S,Y,Z,_,K⟩;have M:=D.after K D.size;go_wp2_with fail;refine cZ ?_;intro V O;have F:Below w1 w1 V:=jP O;have N:=M.after F M.size;clear O;refine aV (sX V (AS n l) (AQ n l) _ (AT n l) (R.ints.keep F) 0 _ [] (S.ints.keep F) 0 _ [] (Y.ints.keep F) (AU n l) (AV n l) _ (AR n l) (Z.ints.keep F) (gP n l)) ?_;intro w2 b2;go_wp2;go_ret;exact⟨rfl,N.after b2 N.size⟩
 have t3:(c.toList==([99,108,97,105,109]:List UInt8))=false:=by rw[show([99,108,97,105,109]:List UInt8)=((⟨#[99,108,97,105,109]⟩:aB):aB).toList from dS,dR,bG c3]
 by_cases c4:c=(⟨#[99,117,116]⟩:aB)
 .have z:nZ c n l=some (ccT n l):=by unfold nZ;rw[if_neg c0,if_neg c1,if_neg c2,if_neg c3,if_pos c4]
  have t4:(c.toList==([99,117,116]:List UInt8))=true:=by rw[show([99,117,116]:List UInt8)=((⟨#[99,117,116]⟩:aB):aB).toList from dS,dR,bH c4]
  rw[z];clear z c0 c1 c2 c3 c4;have hC:=abS _ n _ l I hl;have J:=aT hC;clear hC;go_enter func119,ntmps119;go_wp2_with fail;refine J.out.mono ?_;rintro e w1 ⟨p0,i0,q0,p1,i1,q1,p2,i2,q2,p3,i3,q3,rfl,R,S,Y,Z,_,K⟩;have M:=D.after K D.size;go_wp2_with fail;refine cZ ?_;intro V O;have F:Below w1 w1 V:=jP O;have N:=M.after F M.size;clear O;refine aV (sX V (E6 n l) (E8 n l) _ (E7 n l) (R.ints.keep F) 0 _ [] (S.ints.keep F) 0 _ [] (Y.ints.keep F) (mA n l) (nU n l) _ [] (Z.ints.keep F) (jQ n l)) ?_;intro w2 b2;go_wp2;go_ret;exact⟨rfl,N.after b2 N.size⟩
 have t4:(c.toList==([99,117,116]:List UInt8))=false:=by rw[show([99,117,116]:List UInt8)=((⟨#[99,117,116]⟩:aB):aB).toList from dS,dR,bG c4]
 have z:nZ c n l=none:=by unfold nZ;rw[if_neg c0,if_neg c1,if_neg c2,if_neg c3,if_neg c4]
 rw[z];clear z c0 c1 c2 c3 c4;go_enter func119,ntmps119;go_wp2;go_ret;exact⟨rfl,D⟩
theorem ag4(w:World)(c:aB)(n:Int)(v:Value)(l:aI)(Y:Ints w v l)(hl:l.length<=1048576)(m:Int)(u:Value)(k:aI)(S:Ints w u k)(hk:k.length<=1048576):
  aH 120 #[aR c,aM #[n,v],aM #[m,u]] w (aR ((vB c n l m k).getD mT)):=by
 obtain⟨a,d,rfl⟩:=Y.shape;obtain⟨b,f,rfl⟩:=S.shape;have D:Below w w ((w.alloc (.cells #[n,aD a l d] 27)).alloc (.cells #[m,aD b k f] 27)):=wU _ _ _;have J:=(Y.alloc (.cells #[n,aD a l d] 27)).alloc (.cells #[m,aD b k f] 27);have I:=(S.alloc (.cells #[n,aD a l d] 27)).alloc (.cells #[m,aD b k f] 27);have Z:=(bK.new w 27 #[n,aD a l d]).alloc (.cells #[m,aD b k f] 27);have K2:bK ((w.alloc (.cells #[n,aD a l d] 27)).alloc (.cells #[m,aD b k f] 27)) (w.heap.size+1) 27 #[m,aD b k f]:=by have:=bK.new (w.alloc (.cells #[n,aD a l d] 27)) 27 #[m,aD b k f];simpa using this
 have z0:=D.size;have G1:=Z.cell;have G2:=K2.cell;by_cases c0:c=(⟨#[112,97,105,114]⟩:aB)
 .have z:vB c n l m k=some (yR (BR n l m k)):=by unfold vB;rw[if_pos c0]
  have t0:(c.toList==([112,97,105,114]:List UInt8))=true:=by rw[show([112,97,105,114]:List UInt8)=((⟨#[112,97,105,114]⟩:aB):aB).toList from dS,dR,bH c0]
  rw[z];clear z c0;have hC:=alV _ n _ l J hl m _ k I hk;have K:=aT hC;clear hC;go_enter func120,ntmps120;go_wp2_with fail;refine aV K.out ?_;intro w1 M;go_wp2_with fail;refine aV (VO _ w1) ?_;rintro w2 rfl;go_wp2;go_ret;exact⟨rfl,D.after M D.size⟩
 have t0:(c.toList==([112,97,105,114]:List UInt8))=false:=by rw[show([112,97,105,114]:List UInt8)=((⟨#[112,97,105,114]⟩:aB):aB).toList from dS,dR,bG c0]
 by_cases c1:c=(⟨#[99,111,109,109,111,110]⟩:aB)
 .have z:vB c n l m k=some (cmT n l m k):=by unfold vB;rw[if_neg c0,if_pos c1]
  have t1:(c.toList==([99,111,109,109,111,110]:List UInt8))=true:=by rw[show([99,111,109,109,111,110]:List UInt8)=((⟨#[99,111,109,109,111,110]⟩:aB):aB).toList from dS,dR,bH c1]
  rw[z];clear z c0 c1;have hC:=abQ _ n _ l J hl m _ k I hk;have K:=aT hC;clear hC;go_enter func120,ntmps120;go_wp2_with fail;refine K.out.mono ?_;rintro e w1 ⟨p0,i0,q0,p1,i1,q1,p2,i2,q2,p3,i3,q3,rfl,o0,o1,o2,o3,_,M⟩;have N:=D.after M D.size;go_wp2_with fail;refine cZ ?_;intro V R;have F:Below w1 w1 V:=jP R;have O:=N.after F N.size;clear R;refine aV (sX V (FE n l m k) (FA n l m k) _ (FG n l m k) (o0.ints.keep F) (FB n l m k) _ (FH n l m k) (o1.ints.keep F) 0 _ [] (o2.ints.keep F) (FI n l m k) (uU n l m k) _ (FD n l m k) (o3.ints.keep F) (fP n l m k)) ?_;intro w2 b2;go_wp2;go_ret;exact⟨rfl,O.after b2 O.size⟩
 have t1:(c.toList==([99,111,109,109,111,110]:List UInt8))=false:=by rw[show([99,111,109,109,111,110]:List UInt8)=((⟨#[99,111,109,109,111,110]⟩:aB):aB).toList from dS,dR,bG c1]
 have z:vB c n l m k=none:=by unfold vB;rw[if_neg c0,if_neg c1]
 rw[z];clear z c0 c1;go_enter func120,ntmps120;go_wp2;go_ret;exact⟨rfl,D⟩
theorem ZW{p:Prop}(h:p:=by
  have M:=aT hC;clear hC;go_enter func123,ntmps123;go_wp2_with fail;refine aV M.out ?_;intro w1 N;go_wp2;go_ret;exact⟨rfl,I.after N I.size⟩):p:=h
theorem ag2(w:World)(c:aB)(g:Int)(v:Value)(l:aI)(hv:Ints w v l)(hl:l.length<=1048576):
  aH 123 #[aR c,aM #[g,v]] w (aR ((nQ c g l).getD mT)):=by
 obtain⟨a,d,rfl⟩:=hv.shape;have I:Below w w (w.alloc (.cells #[g,aD a l d] 29)):=cQ _ _;have F:=hv.alloc (.cells #[g,aD a l d] 29);have z0:=I.size;by_cases c0:c=(⟨#[102,97,109,105,108,121]⟩:aB)
 .have z:nQ c g l=some (BN g l):=by unfold nQ;rw[if_pos c0]
  have t0:(c.toList==([102,97,109,105,108,121]:List UInt8))=true:=by rw[show([102,97,109,105,108,121]:List UInt8)=((⟨#[102,97,109,105,108,121]⟩:aB):aB).toList from dS,dR,bH c0]
  rw[z];clear z c0;have hC:=ah4 _ g _ l F hl;exact ZW
 have t0:(c.toList==([102,97,109,105,108,121]:List UInt8))=false:=by rw[show([102,97,109,105,108,121]:List UInt8)=((⟨#[102,97,109,105,108,121]⟩:aB):aB).toList from dS,dR,bG c0]
 by_cases c1:c=(⟨#[99,111,118,101,114]⟩:aB)
 .have z:nQ c g l=some (vV g l):=by unfold nQ;rw[if_neg c0,if_pos c1]
  have t1:(c.toList==([99,111,118,101,114]:List UInt8))=true:=by rw[show([99,111,118,101,114]:List UInt8)=((⟨#[99,111,118,101,114]⟩:aB):aB).toList from dS,dR,bH c1]
  rw[z];clear z c0 c1;have hC:=ae1 _ g _ l F hl;exact ZW
 have t1:(c.toList==([99,111,118,101,114]:List UInt8))=false:=by rw[show([99,111,118,101,114]:List UInt8)=((⟨#[99,111,118,101,114]⟩:aB):aB).toList from dS,dR,bG c1]
 by_cases c2:c=(⟨#[111,114,100,101,114]⟩:aB)
 .have z:nQ c g l=some (yQ g l):=by unfold nQ;rw[if_neg c0,if_neg c1,if_pos c2]
  have t2:(c.toList==([111,114,100,101,114]:List UInt8))=true:=by rw[show([111,114,100,101,114]:List UInt8)=((⟨#[111,114,100,101,114]⟩:aB):aB).toList from dS,dR,bH c2]
  rw[z];clear z c0 c1 c2;have hC:=alL _ g _ l F hl;exact ZW
 have t2:(c.toList==([111,114,100,101,114]:List UInt8))=false:=by rw[show([111,114,100,101,114]:List UInt8)=((⟨#[111,114,100,101,114]⟩:aB):aB).toList from dS,dR,bG c2]
 by_cases c3:c=(⟨#[104,97,108,108]⟩:aB)
 .have z:nQ c g l=some (chT g l):=by unfold nQ;rw[if_neg c0,if_neg c1,if_neg c2,if_pos c3]
  have t3:(c.toList==([104,97,108,108]:List UInt8))=true:=by rw[show([104,97,108,108]:List UInt8)=((⟨#[104,97,108,108]⟩:aB):aB).toList from dS,dR,bH c3]
  rw[z];clear z c0 c1 c2 c3;have hC:=XV _ g _ l F hl;have M:=aT hC;clear hC;go_enter func123,ntmps123;go_wp2_with fail;refine M.out.mono ?_;rintro e w1 ⟨p0,i0,q0,p1,i1,q1,p2,i2,q2,p3,i3,q3,rfl,R,S,Y,Z,_,N⟩;have J:=I.after N I.size;go_wp2_with fail;refine cZ ?_;intro V O;have D:Below w1 w1 V:=jP O;have K:=J.after D J.size;clear O;refine aV (sX V (GV g l) 0 _ [] (R.ints.keep D) 0 _ [] (S.ints.keep D) (GU g l) _ (GT g l) (Y.ints.keep D) (vI g l) 0 _ (wJ g l) (Z.ints.keep D) (rF g l)) ?_;intro w2 b2;go_wp2;go_ret;exact⟨rfl,K.after b2 K.size⟩
 have t3:(c.toList==([104,97,108,108]:List UInt8))=false:=by rw[show([104,97,108,108]:List UInt8)=((⟨#[104,97,108,108]⟩:aB):aB).toList from dS,dR,bG c3]
 by_cases c4:c=(⟨#[115,117,110,102,108,111,119,101,114]⟩:aB)
 .have z:nQ c g l=some (csT g l):=by unfold nQ;rw[if_neg c0,if_neg c1,if_neg c2,if_neg c3,if_pos c4]
  have t4:(c.toList==([115,117,110,102,108,111,119,101,114]:List UInt8))=true:=by rw[show([115,117,110,102,108,111,119,101,114]:List UInt8)=((⟨#[115,117,110,102,108,111,119,101,114]⟩:aB):aB).toList from dS,dR,bH c4]
  rw[z];clear z c0 c1 c2 c3 c4;have hC:=abW _ g _ l F hl 3 ⟨aA,aA⟩;have M:=aT hC;clear hC;go_enter func123,ntmps123;go_wp2_with fail;refine M.out.mono ?_;rintro e w1 ⟨p0,i0,q0,p1,i1,q1,p2,i2,q2,p3,i3,q3,rfl,R,S,Y,Z,_,N⟩;have J:=I.after N I.size;go_wp2_with fail;refine cZ ?_;intro V O;have D:Below w1 w1 V:=jP O;have K:=J.after D J.size;clear O;refine aV (sX V (FP g l 3) 0 _ [] (R.ints.keep D) 0 _ [] (S.ints.keep D) (FO g l 3) _ (FN g l 3) (Y.ints.keep D) (FQ g l 3) 0 _ (kK g l 3) (Z.ints.keep D) (kG g l 3)) ?_;intro w2 b2;go_wp2;go_ret;exact⟨rfl,K.after b2 K.size⟩
 have t4:(c.toList==([115,117,110,102,108,111,119,101,114]:List UInt8))=false:=by rw[show([115,117,110,102,108,111,119,101,114]:List UInt8)=((⟨#[115,117,110,102,108,111,119,101,114]⟩:aB):aB).toList from dS,dR,bG c4]
 have z:nQ c g l=none:=by unfold nQ;rw[if_neg c0,if_neg c1,if_neg c2,if_neg c3,if_neg c4]
 rw[z];clear z c0 c1 c2 c3 c4;go_enter func123,ntmps123;go_wp2;go_ret;exact⟨rfl,I⟩
theorem apL{p:Prop}(h:p:=by
  go_wp2_with fail;go_loopw [9] (fun nv wq=>∃m:Nat,m<=6/\nv=aO m/\(∀q:Nat,q<m->l.length≠2^q)/\wq=wr) (fun nv _=>6-(intOf nv).toNat)
  .exact⟨0,aA,rfl,fun q hq=>absurd hq aA,rfl⟩
  obtain⟨m,o5,rfl,j8,rfl⟩:=hrel;have j0:=aT j8;clear j8;by_cases hlt:m<6
  .have g5:(m:Int)<=5:=aA;have g9:=TU m hlt;have m8:=g9.1;have m9:=g9.2;have c7:((2:Int)^m)=((2^m:Nat):Int):=bF;have b7:=aT c7;clear g9 c7;by_cases he:l.length=2^m
   .have l6:((l.length:Int)==(2:Int)^m)=true:=by rw[beq_iff_eq,b7.out];omega
    have Z:=h7.out m (by rw[he];exact adT m hlt);have m2:=fun hf=>afN wr (m:Int) ad l.length c l ow.ints hf;have HE:=aT he;have i8:=aT m2;have h5:IntKind.i64.wrap ((2:Int)^m)=2^m:=dV
    cases J:cS (m:Int) l with
    |false=>
     have a8:=Z.trans J;have I:=aT (And.intro a8 (IJ a8));have b8:=aT J;clear J a8 Z he;go_wp2_with fail;refine(i8.out false b8.out).mono ?_;rintro e w2 ⟨a2,i2,c2,rfl,a6,b2⟩;rw[if_neg bF]at a6;rw[if_neg bF];injection a6 with x1 x2 x3;subst x1 x2 x3;have z:=K.keep b2;have B2:=Bw.after b2 Bw.size;have Y:=z.alloc (.cells #[aK,()] 27);have B3:=B2.alloc B2.size (.cells #[aK,()] 27);have b9:=bK.new w2 27 #[aK,()];have G:=z.cell;have F:=z.frozen;have z2:=z.lt;go_upto_region 18 with fail;obtain⟨W3,c6⟩:=aW (w2.alloc (.cells #[aK,()] 27));rw[<-c6]at Y B3 b9 |-;clear c6 G F;have G:=Y.cell;have F:=Y.frozen;have G1:=b9.cell;go_wp2;refine cT ?_;intro Wf M;have t:=kS (w:=w) (E:=27) (m:=0) (b:=aD none 0 0) Y (bB.nil 3 (W3.heap.size) W3) aU Y.lt B3 M;have GF:=t.1.cell;clear M G F G1;exact bW (v:=aS #[aM #[aK,()],aG false]) (by simp[results,results118,go_sem,GF]) rfl ⟨none,0,0,by rw[I.out.1,I.out.2.1],by rw[I.out.2.2];exact t.2.1,t.2.2⟩
    |true=>
     have a8:=Z.trans J;have a1:=j4.out a8;rw[he,adT m hlt]at a1;have I:=aT (And.intro a8 a1);have b8:=aT J;clear J a8 Z he a1;go_wp2_with fail;refine(i8.out true b8.out).mono ?_;rintro e w2 ⟨a2,i2,c2,rfl,a6,b2⟩;rw[if_pos rfl]at a6;rw[if_pos rfl];injection a6 with x1 x2 x3;subst x1 x2 x3;have z:=K.keep b2;have B2:=Bw.after b2 Bw.size;have o2:=ow.keep b2;have o3:=o2.alloc (.cells #[(m:Int),aD a2 l c2] 27);have Y:=z.alloc (.cells #[(m:Int),aD a2 l c2] 27);have B3:=B2.alloc B2.size (.cells #[(m:Int),aD a2 l c2] 27);have b9:=bK.new w2 27 #[(m:Int),aD a2 l c2];have G:=z.cell;have F:=z.frozen;have z2:=z.lt;go_upto_region 18 with fail;obtain⟨W3,c6⟩:=aW (w2.alloc (.cells #[(m:Int),aD a2 l c2] 27));rw[<-c6]at Y B3 b9 o3 |-;clear c6 G F;have G:=Y.cell;have F:=Y.frozen;have G1:=b9.cell;go_wp2;refine cT ?_;intro Wf M;have t:=kS (w:=w) (E:=27) (m:=(m:Int)) (b:=aD a2 l c2) Y o3 aU aA B3 M;have GF:=t.1.cell;clear M G F G1;exact bW (v:=aS #[aM #[(m:Int),aD a2 l c2],aG true]) (by simp[results,results118,go_sem,GF]) rfl ⟨_,_,_,by rw[I.out.1,I.out.2.1],by rw[I.out.2.2];exact t.2.1,t.2.2⟩
   .have l6:((l.length:Int)==(2:Int)^m)=false:=by rw[dZ,b7.out];omega
    have HE:=aT he;have h5:IntKind.i64.wrap ((2:Int)^m)=2^m:=dV;clear he;go_wp2;go_roundw
    .refine⟨m+1,aA,cD,fun q hq=>?_,by first|rfl|trivial⟩;by_cases h:q=m
     .rw[h];exact HE.out
     .exact j0.out q aA
    exact aY
  .have g5:¬(m:Int)<=5:=aA
   have a9:=i1.out (fun q hq=>j0.out q aA);have I:=aT (And.intro a9 (IJ a9));have G:=K.cell;have F:=K.frozen;clear a9;go_wp2;refine cT ?_;intro Wf M;have t:=kS (w:=w) (E:=27) (m:=0) (b:=aD none 0 0) K (bB.nil 3 (wr.heap.size) wr) aU K.lt Bw M;have GF:=t.1.cell;clear M G F;exact bW (v:=aS #[aM #[aK,()],aG false]) (by simp[results,results118,go_sem,GF]) rfl ⟨none,0,0,by rw[I.out.1,I.out.2.1],by rw[I.out.2.2];exact t.2.1,t.2.2⟩):p:=h
theorem apR{p:Prop}(h:p:=by
  obtain⟨d0,hg,e7⟩:=D;have m3:=f6.out _ (aX d0);have e8:S[j]=P:=by rw[<-vG S j d0];exact hg
  rw[e8]at m3;have b3:(S.take (j+1)).all pB=pB P:=by rw[cH d0,List.all_append,b6.out,e8];simp
  have c8:=uK pB S j d0;have e0:=ad9 S j d0;rw[e8]at c8 e0;have b1:=JK P wr aA;obtain⟨y,hy⟩:=aW (pN P);rw[<-hy]at e0;have f0:pB P=true->fM y/\pV P=y:=fun h=>by have h3:=af3 h;rw[<-hy]at h3;exact⟨⟨aA,aA⟩,by rw[hy];exact DP h⟩
  have e9:((S.take j).map pN).length<=2000001:=by rw[List.length_map,List.length_take];omega
  obtain⟨l,hl⟩:=aW ((S.take j).map pN);rw[<-hl]at ow e0 e9;have l1:=aT b3;have h9:=aT c8;have l0:=aT e0;have j1:=aT e7;clear b3 c8 e0 hy hl hg e8 e7
  cases J:pB P with
  |false=>rw[J,wE J]at b1;have a9:=ahU (k9.out (h9.out J));have I:=aT (And.intro a9 (IJ a9));have f7:=aT b1;clear b1 J a9 f0;go_wp2_with fail;refine aV f7.out ?_;intro w2 b2;have z:=K.keep b2;have B2:=Bw.after b2 Bw.size;have G:=z.cell;have F:=z.frozen;go_wp2;refine cT ?_;intro Wf M;have t:=kS (w:=w) (E:=27) (m:=0) (b:=aD none 0 0) z (bB.nil 3 (w2.heap.size) w2) aU z.lt B2 M;have GF:=t.1.cell;clear M G F;exact bW (v:=aS #[aM #[aK,()],aG false]) (by simp[results,results118,go_sem,GF]) rfl ⟨none,0,0,by rw[I.out.1,I.out.2.1],by rw[I.out.2.2];exact t.2.1,t.2.2⟩
  |true=>
   obtain⟨f0,k0⟩:=f0 J;rw[J,k0]at b1;have b3:=l1.out;rw[J]at b3;have j2:=aT b3;have f7:=aT b1;clear b1 J b3 k0;go_wp2_with fail;refine aV f7.out ?_;intro w2 b2;have z:=K.keep b2;have o2:=ow.keep b2;have B2:=Bw.after b2 Bw.size;have z2:=b2.size;have f4:=o2.lt;clear Bw K ow b2;go_wp2_with (at_builtin;refine eF rfl _ _ _ rfl 3 underlying25 intElem (w.heap.size+1) _ l y w2.heap.size rfl rfl (cR _ _ _ _ _ rfl) (o2.alloc _) f0 aA bO ?_;intro v7 w7 o7 g7;obtain⟨p7,i7,q7,rfl⟩:=o7.shape3);have l2:=(z.alloc (.cells #[y] 3)).grow g7 (by intro e;have:=(f4 _ e).1;omega);have B7:Below w w w7:=(B2.alloc B2.size (.cells #[y] 3)).grown g7 (by have:=B2.size;simp;omega) (fun q hq=>by have:=(f4 q hq).1;omega);have z7:=g7.size;simp at z7;go_roundw
   .exact⟨j+1,k+1,_,p7,i7,q7,cD,rfl,rfl,j2.out,j1.out,B7,aA,l2,by rw[l0.out];exact o7⟩
   exact aY):p:=h
theorem LY(s:aB)(w:World)(hs:s.size<=2000000):
  Calls prog 118 #[aR s] w fun e w'=>∃ad i c,e=aQ (aS #[aM #[(sI s),aD ad i c],aG (mC s)])/\bB 3 w w' (aD ad i c) (rW s)/\Below w w w':=by
 obtain⟨V,hV⟩:=aW ((w.alloc (.cells #[aK,()] 27)).alloc (.cells #[] 3));have f8:bK V w 27 #[aK,()]:=iQ hV;have BV:Below w w V:=iJ hV;have k2:w.heap.size+2<=V.heap.size:=by rw[hV];simp
 have o0:bB 3 (w.heap.size+1) V (aD (some ⟨w+1,0,none⟩) 0 0) []:=by rw[hV];have:=bB.lit0 (E:=3) (B:=w.heap.size+1) (w.alloc (.cells #[aK,()] 27)) bF;simpa using this
 by_cases c5:s.size<=200
 rotate_left
 .have l7:¬(s.size:Int)<=200:=aA;have g2:=adM c5;have h0:(0:Int)<=(s.size:Int):=aA;obtain⟨l,hl⟩:∃l:aI,l=[]:=⟨_,rfl⟩;have b0:(∀n:Nat,n<6->l.length≠2^n)->mC s=false:=fun _=>g2;have a1:mC s=true->sI s=BC l.length/\rW s=l:=fun h=>by rw[g2]at h;cases h
  have Z:∀m:Nat,BC l.length=(m:Int)->mC s=cS (m:Int) l:=by intro m h;rw[hl]at h;have e:BC ([]:aI).length=-1:=dS;rw[e]at h;omega
  have i1:=aT b0;have j4:=aT a1;have h7:=aT Z;clear b0 a1 Z g2;go_enter func118,ntmps118;go_upto_region 2 with fail;rw[<-hV];clear hV;go_wp2_with fail;go_loopw [4,5,6] (fun vv _ iv wr=>iv=aO 0/\vv=aD (some ⟨w+1,0,none⟩) 0 0/\wr=V) (fun _ _ _ _=>0)
  .exact⟨rfl,rfl,rfl⟩
  obtain⟨rfl,rfl,rfl⟩:=hrel;obtain⟨ad,c,a6,ow⟩:∃ad c,(aD (some ⟨w+1,0,none⟩) 0 0:Value)=aD ad l c/\bB 3 (w.heap.size+1) wr (aD ad l c) l:=⟨some ⟨w+1,0,none⟩,0,by rw[hl];rfl,by rw[hl];exact o0⟩;rw[a6];have e9:l.length<=201:=by rw[hl];simp
  have Bw:=BV;have K:=f8;clear hl o0 a6;exact apL
 have l7:(s.size:Int)<=200:=aA;have f3:(dK 44 s).all pB=false->(dK 44 s).all pB=false:=id;have O:=fun h=>YL c5 h;have c9:=fun h hn=>aqT c5 h hn;have e4:=YM (s:=s);have j6:=xP 44 s;have a7:=pJ 44 s;have f9:=MY 44 s;obtain⟨S,g8⟩:=aW (dK 44 s);rw[<-g8]at O c9 e4 j6 a7 f9 f3;have k9:Hid (S.all pB=false->(dK 44 s).all pB=false):=aT (by rw[<-g8];exact id);have h8:=aT O;have i6:=aT c9;have j3:=aT e4;have f6:=aT a7;have b7:=aT f9;clear O c9 e4 a7 f9 g8 f3;go_enter func118,ntmps118;go_upto_region 2 with fail;rw[<-hV];clear hV;go_wp2_with fail;go_loopw [4,5,6] (fun vv pv iv wr=>∃(j k:Nat) (P:aB) (ad:Option Addr) (i c:Nat),iv=aO k/\pv=aR P/\vv=aD ad i c/\(S.take j).all pB=true/\(rR 44 s S j P k\/(k=s.size+1/\j=S.length))/\Below w w wr/\w.heap.size+2<=wr.heap.size/\bK wr w 27 #[aK,()]/\bB 3 (w.heap.size+1) wr (aD ad i c) ((S.take j).map pN)) (fun _ _ iv _=>s.size+1-(intOf iv).toNat)
 .exact⟨0,0,aN,_,_,_,rfl,rfl,rfl,rfl,.inl b7.out,BV,k2,f8,o0⟩
 obtain⟨j,k,P,ad,i,c,rfl,rfl,rfl,N,R,Bw,zw,K,ow⟩:=hrel;have b6:=aT N;clear N b7 BV f8 o0 k2;rcases R with R|⟨l9,j5⟩
 .have o4:=R.2.1;have n3:=R.2.2;have g5:(k:Int)<=(s.size:Int):=aA;have g4:=adG R;by_cases hlt:k<s.size
  .have j7:(k:Int)<(s.size:Int):=aA;by_cases hc:s[k]=44
   .have l5:((s[k].toNat:Int) != 44)=false:=SE hc;have D:=AX R hlt hc;have D:j<S/\S.getD j aN=P/\(rR 44 s S (j+1) aN (k+1)\/(k+1=s.size+1/\j+1=S.length)):=⟨D.1,D.2.1,.inl D.2.2⟩;clear R hc g4;exact apR
   .have l5:((s[k].toNat:Int) != 44)=true:=SF hc;have j9:=CF R hlt hc;have hz:=DM P s k hlt;have e7:=aT j9;have o9:P.size+1<=s.size:=aA;clear R hc j9 g4 hz;go_wp2;go_roundw
    .exact⟨j,k+1,_,ad,i,c,cD,rfl,rfl,b6.out,.inl e7.out,Bw,zw,K,ow⟩
    exact aY
  .have j7:¬(k:Int)<(s.size:Int):=aA;have D:=AY R hlt;have D:j<S/\S.getD j aN=P/\(rR 44 s S (j+1) aN (k+1)\/(k+1=s.size+1/\j+1=S.length)):=⟨D.1,D.2.1,.inr ⟨aA,D.2.2⟩⟩;clear R g4;exact apR
 .have g5:¬(k:Int)<=(s.size:Int):=aA;have N:=b6.out;rw[j5,List.take_length]at N ow;have O:=h8.out N;have a1:=j3.out;have b0:=i6.out N;have e9:(S.map pN).length<=201:=by rw[List.length_map];omega
  obtain⟨l,hl⟩:=aW (S.map pN);have g6:S.length=l.length:=by rw[hl,List.length_map]
  rw[<-hl,g6]at O a1;rw[g6]at b0;rw[<-hl]at ow e9;have Z:∀m:Nat,BC l.length=(m:Int)->mC s=cS (m:Int) l:=by intro m h;rw[<-h];exact O
  have l8:=ow.ints.capLe.1;subst l8;have i1:=aT b0;have j4:=aT a1;have h7:=aT Z;clear l9 j5 N hl O a1 b0 g6 Z;exact apL
end
end Go.Proofs.YtkdbkjjacgigiaaGreatDoor
section
namespace Go.G5
open Go Go.RowKit
theorem fI.blk{E:TypeId}{B:Nat}{w:World}{v:Value}{I:List aB}(h:fI E B w v I)(D:0<I.length):∃g c,v=aD (some ⟨g,0,none⟩) I c/\I.length<=c/\g<w.heap.size/\∀(j:Nat) x,I[j]?=some x->w.cell? ⟨g,j,none⟩=some (aR x):=by
 rcases h.at with⟨_,_,_,F⟩|⟨g,c,K,hc,J,z⟩
 .rw[F]at D;simp at D
 .exact⟨g,c,K,hc,J,fun j x M=>by have:=z j x M;rw[Nat.zero_add]at this;exact this⟩
end Go.G5
namespace Go.Proofs.YtkdbkjjacgigiaaGreatDoor
open Go.RowKit Go.G5 Go.Proofs.Tryz
theorem lZ{w w':World}{g j:Nat}{x:Value}(hb:Below w w w')(z:g<w.heap.size)(h:w.cell? ⟨g,j,none⟩=some x):w'.cell? ⟨g,j,none⟩=some x:=by
 rw[hb.cell (p:=⟨g,j,none⟩) (by show g<w.heap.size;exact z)];exact h
theorem apN{p:Prop}(h:p:=by
  go_wp2_with fail;refine a9.out.mono ?_;rintro e w1 ⟨ad,i,cp,rfl,o,Bx⟩;obtain⟨q,c,hv,hc,Y,D⟩:=o.blk bF;injection hv with v1 v2 v3;subst v1 v2 v3;have b8:=fun W=>mE q 3 cp 0 aA W;have b9:=fun W=>mE q 3 cp 1 aA W;have h5:=fun W=>mE q 3 cp 2 aA W;have J:=D 0 p0 rfl;have k1:=D 1 p1 rfl;have k2:=D 2 p2 rfl;clear D o;go_wp2_with fail;refine(c7.out w1).mono ?_;rintro e y1 ⟨b0,i1,c1,rfl,o1,d1⟩;obtain⟨U,hU⟩:=aW (y1.alloc (.cells #[n1,aD b0 i1 c1] 27));have bU:Below w1 w1 U:=by rw[hU];exact d1.alloc d1.size _
  have y0:=lZ d1 Y J;have M:=lZ d1 Y k2;have hy:q<y1.heap.size:=by have:=d1.size;omega
  have J:=lZ bU Y J;have k2:=lZ bU Y k2;have e9:q<U.heap.size:=by have:=bU.size;omega
  have KA:bK U y1 27 #[n1,aD b0 i1 c1]:=jV hU;have oU:Ints U (aD b0 i1 c1) l1:=by rw[hU];exact o1.ints.alloc _
  have BU:Below w w U:=Bx.after bU Bx.size;clear k1 Bx o1 d1 Y;go_wp2_with fail;refine cZ ?_;intro U' h0;obtain rfl:U'=U:=by rw[h0,hU]
  clear hU h0;refine(k5.out U').mono ?_;rintro e M ⟨b4,i2,c2,rfl,o2,d2⟩;obtain⟨V,N⟩:=aW (M.alloc (.cells #[n2,aD b4 i2 c2] 27));have S:Below U' U' V:=by rw[N];exact d2.alloc d2.size _
  have J:=lZ S e9 J;have KA:=KA.keep S;have KB:bK V M 27 #[n2,aD b4 i2 c2]:=jV N;have oA:Ints V (aD b0 i1 c1) l1:=oU.keep S;have oB:Ints V (aD b4 i2 c2) l2:=by rw[N];exact o2.ints.alloc _
  have Bx:Below w w V:=BU.after S BU.size;clear oU BU o2 d2 k2;by_cases a1:(F1&&F2)=true
  .have e0:∀y:Ext V,y.w.cell? ⟨q,0,none⟩=some (aR p0):=fun y=>y.cell J;have f0:∀y:Ext V,y.w.cell? ⟨y1,0,none⟩=some (aO n1):=fun y=>y.cell (KA.cell 0);have f1:∀y:Ext V,y.w.cell? ⟨y1,1,none⟩=some (aD b0 i1 c1):=fun y=>y.cell (KA.cell 1);have g0:∀y:Ext V,y.w.cell? ⟨M,0,none⟩=some (aO n2):=fun y=>y.cell (KB.cell 0);have g1:∀y:Ext V,y.w.cell? ⟨M,1,none⟩=some (aD b4 i2 c2):=fun y=>y.cell (KB.cell 1);have HX:=aT (fun y:Ext V=>ag4 y.w p0 n1 _ l1 (y.ints oA) j9.out n2 _ l2 (y.ints oB) k3.out);have I:=g6.out;rw[if_pos a1]at I;rw[fB]at a1;obtain⟨rfl,rfl⟩:=a1;clear KA KB oA oB J S;go_upto_region 14 with fail;rw[<-N];clear N;refine cW _ bM bM ?_
   repeat(first|go_big_quiet_skip|(go_big_quiet_want;go_big_quiet_op;first|go_big_quiet_on|(apply Exists.intro;refine⟨fun _=>?_,?_⟩;(go_at_call 120;exact dI (HX.out _));go_big_quiet_on)))
   refine wpQuiet_nil ?_;rintro w5 ⟨⟨w5,b5⟩,rfl⟩
   try dsimp only
   go_wp2;go_ret;exact⟨by rw[I];rfl,Bx.after b5 Bx.size⟩
  .have I:=g6.out;rw[if_neg a1]at I;have Bx:Below w w V:=Bx;clear KA KB oA oB J S
   cases F1 with
   |false=>clear a1;go_wp2;go_ret;exact⟨by rw[I];rfl,by rw[<-N];exact Bx⟩
   |true=>
    cases F2 with
    |true=>exact absurd rfl a1
    |false=>
     clear a1;go_wp2;go_ret;exact⟨by rw[I];rfl,by rw[<-N];exact Bx⟩):p:=h
theorem XH(s:aB)(w:World)(hs:s.size<=2000):
  aH 76 #[aR s] w (aR (sU s)):=by
 have O:Calls prog 75 #[aR s,.int .u8 32] w fun e w'=>∃ad i cp,e=aQ (aD ad i cp)/\fI 9 w w' (aD ad i cp) (dK 32 s)/\Below w w w':=YB s 32 w aA;have F:=pJ 32 s;have f3:0<(dK 32 s).length:=List.length_pos_iff.2 (adH 32 s);have a2:=fun p0 p1 (h:dK 32 s=[p0,p1])=>(ap5 (s:=s) (by rw[h];rfl));have a3:=fun(h:(dK 32 s).length=3)=>amQ (s:=s) h;have a4:=fun(h:(dK 32 s).length=3)=>ap4 (s:=s) h;have an:=agY (s:=s);obtain⟨A,hA⟩:=aW (sU s);obtain⟨ps,f4⟩:=aW (dK 32 s);simp only[<-hA,<-f4]at a2 a3 a4 an;rw[<-hA];rw[<-f4]at O F f3;clear f4 hA;by_cases h2:ps.length=2
 .obtain⟨p0,p1,rfl⟩:=ZR ps h2;have I:A=if mC p1=true then (nZ p0 (sI p1) (rW p1)).getD mT else mT:=a2 p0 p1 rfl;have s1:=F p1 bF;have a6:=fun W=>LY p1 W aA;have hL:=CR p1;obtain⟨n1,a7⟩:=aW (sI p1);obtain⟨l1,K⟩:=aW (rW p1);obtain⟨F1,Z⟩:=aW (mC p1);rw[<-a7,<-K,<-Z]at I;simp only[<-a7,<-K,<-Z]at a6;rw[<-K]at hL;have c7:=aT a6;have HA:=aT I;have HL:=aT hL;have a9:=aT O;clear a6 I hL a2 a3 a4 an F O a7 K Z h2;go_enter func76,ntmps76;go_wp2_with fail;refine a9.out.mono ?_;rintro e w1 ⟨ad,i,cp,rfl,o,Bx⟩;obtain⟨q,c,hv,hc,Y,D⟩:=o.blk bF;injection hv with v1 v2 v3;subst v1 v2 v3;have b8:=fun W=>mE q 2 cp 0 aA W;have b9:=fun W=>mE q 2 cp 1 aA W;have J:=D 0 p0 rfl;have k1:=D 1 p1 rfl;clear D o;go_wp2_with fail;refine(c7.out w1).mono ?_;rintro e M ⟨ad,i,c,rfl,o,c2⟩;have J:=lZ c2 Y J;have Bz:=Bx.after c2 Bx.size;have zz:=Bz.size;clear k1
  cases F1 with
  |false=>have I:=HA.out;go_wp2;go_ret;exact⟨by rw[I];rfl,Bz.alloc zz _⟩
  |true=>
   obtain⟨V,N⟩:=aW (M.alloc (.cells #[n1,aD ad i c] 27));have S:Below M M V:=jP N;have J:=lZ S (by have:=c2.size;omega) J;have KF:bK V M 27 #[n1,aD ad i c]:=jV N;have oV:Ints V (aD ad i c) l1:=o.ints.keep S;have BV:Below w w V:=Bz.after S zz;have F0:=KF.cell 0;have F1:=KF.cell 1;have e0:∀y:Ext V,y.w.cell? ⟨q,0,none⟩=some (aR p0):=fun y=>y.cell J;have f0:∀y:Ext V,y.w.cell? ⟨M,0,none⟩=some (aO n1):=fun y=>y.cell F0;have f1:∀y:Ext V,y.w.cell? ⟨M,1,none⟩=some (aD ad i c):=fun y=>y.cell F1;have HX:=aT (fun y:Ext V=>ag1 y.w p0 n1 _ l1 (y.ints oV) HL.out);have I:=HA.out;rw[if_pos rfl]at I;clear F0 F1 KF oV Bz o c2 J S;go_upto_region 6 with fail;rw[<-N];clear N;refine cW _ bM bM ?_
   repeat(first|go_big_quiet_skip|(go_big_quiet_want;go_big_quiet_op;first|go_big_quiet_on|(apply Exists.intro;refine⟨fun _=>?_,?_⟩;(go_at_call 119;exact dI (HX.out _));go_big_quiet_on)))
   refine wpQuiet_nil ?_;rintro w5 ⟨⟨w5,b5⟩,rfl⟩
   try dsimp only
   go_wp2;go_ret;exact⟨by rw[I];rfl,BV.after b5 BV.size⟩
 by_cases h3:ps.length=3
 .obtain⟨p0,p1,p2,rfl⟩:=QX ps h3;have s1:=F p1 bF;have s2:=F p2 bF;have a9:=aT O;by_cases hc:p0=(⟨#[112,97,105,114]⟩:aB)\/p0=(⟨#[99,111,109,109,111,110]⟩:aB)
  .have I:A=if (mC p1&&mC p2)=true then (vB p0 (sI p1) (rW p1) (sI p2) (rW p2)).getD mT else mT:=a3 rfl hc;have a6:=fun W=>LY p1 W aA;have e6:=fun W=>LY p2 W aA;have e4:=CR p1;have e5:=CR p2;obtain⟨n1,a7⟩:=aW (sI p1);obtain⟨l1,K⟩:=aW (rW p1);obtain⟨F1,Z⟩:=aW (mC p1);obtain⟨n2,f2⟩:=aW (sI p2);obtain⟨l2,b6⟩:=aW (rW p2);obtain⟨F2,c9⟩:=aW (mC p2);rw[<-a7,<-K,<-Z,<-f2,<-b6,<-c9]at I;simp only[<-a7,<-K,<-Z]at a6;simp only[<-f2,<-b6,<-c9]at e6;rw[<-K]at e4;rw[<-b6]at e5;have c7:=aT a6;have k5:=aT e6;have g6:=aT I;have j9:=aT e4;have k3:=aT e5;clear a6 e6 I e4 e5 a2 a3 a4 an F O a7 K Z f2 b6 c9 h2 h3;have t1:(p0.toList==([112,97,105,114]:List UInt8))=decide (p0=(⟨#[112,97,105,114]⟩:aB)):=by have h:=dR p0 (⟨#[112,97,105,114]⟩:aB);rwa [show((⟨#[112,97,105,114]⟩:aB):aB).toList=([112,97,105,114]:List UInt8) from dS]at h
   have t2:(p0.toList==([99,111,109,109,111,110]:List UInt8))=decide (p0=(⟨#[99,111,109,109,111,110]⟩:aB)):=by have h:=dR p0 (⟨#[99,111,109,109,111,110]⟩:aB);rwa [show((⟨#[99,111,109,109,111,110]⟩:aB):aB).toList=([99,111,109,109,111,110]:List UInt8) from dS]at h
   have hb:decide (p0=(⟨#[112,97,105,114]⟩:aB))=true\/(decide (p0=(⟨#[112,97,105,114]⟩:aB))=false/\decide (p0=(⟨#[99,111,109,109,111,110]⟩:aB))=true):=by
    rcases hc with h|h
    .exact .inl (bH h)
    .by_cases h':p0=(⟨#[112,97,105,114]⟩:aB)
     .exact .inl (bH h')
     .exact .inr ⟨bG h',bH h⟩
   obtain⟨u1,h6⟩:=aW (decide (p0=(⟨#[112,97,105,114]⟩:aB)));obtain⟨u2,h7⟩:=aW (decide (p0=(⟨#[99,111,109,109,111,110]⟩:aB)));rw[<-h6]at t1 hb;rw[<-h7]at t2 hb;clear h6 h7 hc;rcases hb with rfl|⟨rfl,rfl⟩
   .skip
    go_enter func76,ntmps76;exact apN
   .skip
    go_enter func76,ntmps76;exact apN
  .have hd:p0≠(⟨#[112,97,105,114]⟩:aB):=fun h=>hc (.inl h);have he:p0≠(⟨#[99,111,109,109,111,110]⟩:aB):=fun h=>hc (.inr h);have I:A=if (pB p1&&qX (pV p1) p2)=true then (nQ p0 (BH (pV p1) p2) (zI (pV p1) p2)).getD mT else mT:=a4 rfl hd he;have hQ:=fun W=>JK p1 W aA;have hR:=fun W=>alT (pV p1) p2 W aA;have hL:=ad1 (pV p1) p2;obtain⟨g,Y⟩:=aW (BH (pV p1) p2);obtain⟨f,hq⟩:=aW (zI (pV p1) p2);obtain⟨R,e8⟩:=aW (qX (pV p1) p2);rw[<-Y,<-hq,<-e8]at I;simp only[<-Y,<-hq,<-e8]at hR;rw[<-hq]at hL;clear Y hq e8;obtain⟨Q,e7⟩:=aW (pB p1);obtain⟨z,hz⟩:=aW (pV p1);rw[<-e7]at I;simp only[<-e7,<-hz]at hQ;simp only[<-hz]at hR;have HQ:=aT hQ;have HR:=aT hR;have HA:=aT I;have HL:=aT hL;have t1:(p0.toList==([112,97,105,114]:List UInt8))=false:=by rw[show([112,97,105,114]:List UInt8)=((⟨#[112,97,105,114]⟩:aB):aB).toList from dS,dR,bG hd]
   have t2:(p0.toList==([99,111,109,109,111,110]:List UInt8))=false:=by rw[show([99,111,109,109,111,110]:List UInt8)=((⟨#[99,111,109,109,111,110]⟩:aB):aB).toList from dS,dR,bG he]
   clear hQ hR I hL a2 a3 a4 an F O e7 hz h2 h3 hc hd he;go_enter func76,ntmps76;go_wp2_with fail;refine a9.out.mono ?_;rintro e w1 ⟨ad,i,cp,rfl,o,Bx⟩;obtain⟨q,c,hv,hc,Y,D⟩:=o.blk bF;injection hv with v1 v2 v3;subst v1 v2 v3;have b8:=fun W=>mE q 3 cp 0 aA W;have b9:=fun W=>mE q 3 cp 1 aA W;have h5:=fun W=>mE q 3 cp 2 aA W;have J:=D 0 p0 rfl;have k1:=D 1 p1 rfl;have k2:=D 2 p2 rfl;clear D o;go_wp2_with fail;refine aV (HQ.out w1) ?_;intro y1 c1;have J:=lZ c1 Y J;have k2:=lZ c1 Y k2;have e9:q<y1.heap.size:=by have:=c1.size;omega
   have By:=Bx.after c1 Bx.size;clear k1 Y
   cases Q with
   |false=>have I:=HA.out;go_wp2;go_ret;exact⟨by rw[I];rfl,By⟩
   |true=>
    go_wp2_with fail;refine(HR.out y1).mono ?_;rintro e M ⟨ad,i,c,rfl,o,c2⟩;have J:=lZ c2 e9 J;have Bz:=By.after c2 By.size;have zz:=Bz.size;clear k2
    cases R with
    |false=>have I:=HA.out;go_wp2;go_ret;exact⟨by rw[I];rfl,Bz.alloc zz _⟩
    |true=>
     obtain⟨V,N⟩:=aW (M.alloc (.cells #[g,aD ad i c] 29));have S:Below M M V:=jP N;have J:=lZ S (by have:=c2.size;omega) J;have KF:bK V M 29 #[g,aD ad i c]:=jV N;have oV:Ints V (aD ad i c) f:=o.ints.keep S;have BV:Below w w V:=Bz.after S zz;have F0:=KF.cell 0;have F1:=KF.cell 1;have e0:∀y:Ext V,y.w.cell? ⟨q,0,none⟩=some (aR p0):=fun y=>y.cell J;have f0:∀y:Ext V,y.w.cell? ⟨M,0,none⟩=some (aO g):=fun y=>y.cell F0;have f1:∀y:Ext V,y.w.cell? ⟨M,1,none⟩=some (aD ad i c):=fun y=>y.cell F1;have HX:=aT (fun y:Ext V=>ag2 y.w p0 g _ f (y.ints oV) HL.out);have I:=HA.out;rw[if_pos (show(true&&true)=true from rfl)]at I;clear F0 F1 KF oV Bz o c2 J S;go_upto_region 21 with fail;rw[<-N];clear N;refine cW _ bM bM ?_
     repeat(first|go_big_quiet_skip|(go_big_quiet_want;go_big_quiet_op;first|go_big_quiet_on|(apply Exists.intro;refine⟨fun _=>?_,?_⟩;(go_at_call 123;exact dI (HX.out _));go_big_quiet_on)))
     refine wpQuiet_nil ?_;rintro w5 ⟨⟨w5,b5⟩,rfl⟩
     try dsimp only
     go_wp2;go_ret;exact⟨by rw[I];rfl,BV.after b5 BV.size⟩
 .have I:=an h2 h3;have a9:=aT O;have t2:((ps.length:Int)==2)=false:=by rw[dZ];omega
  have t3:((ps.length:Int) != 3)=true:=by rw[bne_iff_ne];omega
  have k4:=aT f3;clear O an a2 a3 a4 F f3;go_enter func76,ntmps76;go_wp2_with fail;refine a9.out.mono ?_;rintro e w1 ⟨ad,i,cp,rfl,o,Bx⟩;obtain⟨q,c,hv,hc,Y,D⟩:=o.blk k4.out;injection hv with v1 v2 v3;subst v1 v2 v3;clear D o;go_wp2;go_ret;exact⟨by rw[I];rfl,Bx⟩
end Go.Proofs.YtkdbkjjacgigiaaGreatDoor
end
namespace Go.Proofs.YtkdbkjjacgigiaaGreatDoor
section
open Go.RowKit Go.G5 Go.Proofs.Tryz
theorem am0(t:aB)(w:World)(z:lA w)(hm:uP w):
  aH 13 #[aR t] w (aR (uD t)):=
 arQ t w z hm (fun W s D h1 h2=>XG s W D h1 h2) (fun s _=>agX w s)
theorem am1(t:aB)(w:World):
  aH 19 #[aR t] w (aR (uD t)):=
 arR t w (fun W s z=>XH s W z) (fun s _=>agX w s)
theorem al3(w:World)(s:aB)(M:lA w)(hm:uP w):
  aH 4 #[aR s] w (aG true):=by
 by_cases O:(1048576:Int)<(s.size:Int)
 .go_enter func4,ntmps4;go_wp2;go_ret;exact⟨rfl,bJ _ _⟩
 have F:=am1 s w;have D:=fun W (h1:lA W) (h2:uP W)=>am0 s W h1 h2;obtain⟨T,I⟩:=aW (uD s);simp only[<-I]at F D;have N:(T.toList==T.toList)=true:=bF;have K:=aT F;have J:=aT D;clear F D I;go_enter func4,ntmps4;go_wp2_with fail;refine aV K.out ?_;intro w1 z;go_wp2_with fail;refine aV (J.out w1 (M.keep z) (hm.keep z)) ?_;intro R b2;go_wp2;go_ret;exact⟨rfl,z.after b2 z.size⟩
end
section
open Go.Proofs.Tryz
open Go.ChangeShapes Go.WideShapes Go.ChangeAt Go.RowKit Go.G5
set_option maxRecDepth 100000
open Go.ChangeShapes Go.WideShapes Go.ChangeAt Go.RowKit Go.G5
set_option maxRecDepth 100000
theorem QV{f:FuncId}{fn:Func}{s:ChangeSpec}(F:List (String×DataW Unit))(os:Os)(started:os.Started)(H:Type)(enc:TypeId×Value->H)
  (b5:prog.funcs[f]?=some fn) (N:prog.inits.idxOf? f=none) (hv:s.vars=[]) (a6:fn.resultTypes=#[4])
  (O:(fn.params.toList.all fun t=>prog.readableRec t&&decide (t<prog.types.size))=true)
  (D:∀J:List (DataW H),J.length=fn.params.size->s.fn H J={ results:=[.lit (.bool true)],args:=J,vars:=[] })
  (witness:∃(w:World) (z:Tape) (i:Input),w.os=os/\(w.forCall z i).Shaped prog/\i.vars=[]/\Input.okWide prog (w.forCall z i) .any w.heap.size f i /\
   ((s.pre enc prog fn [] false (w.forCall z i).memory i.args/\laidMetH prog F (w.forCall z i).memory)/\sizedMet enc prog fn (OpenSpec.ofChange s) false (w.forCall z i).memory i.args)/\({}:Assume).holds prog (lone (Frame.enter prog f i.args .normal) [] (w.forCall z i)))
  (I:∀(W:World) (base:Nat) (args:Array Value) (J:List (DataW H)) (p:List MemPlace),(∀(j:Nat) t v,fn.params[j]?=some t->args[j]?=some v->Value.okWide prog W .any base t v) ->
   DataW.TrodAll enc prog W 0 (fun _=>true) true fn.params.toList args.toList J p->laidMetH prog F W->W.ShapedOpen prog->Calls prog f args W fun e W'=>e=aQ (aG true)/\Below W W W'):
  ReturnsInHanded {} Tryz.checked os f .any (fun w args=>(s.pre enc prog fn [] false w args/\laidMetH prog F w)/\sizedMet enc prog fn (OpenSpec.ofChange s) false w args) (s.post enc prog fn false true false false):=by
 refine returnsInHanded_of_calls (C:=Tryz.checked) mF started N witness ?_;intro w z i _ a7 _ b6 a1 _;obtain⟨_,_,_,K,Y,_,_,_,_,R⟩:=b6;have e:K=fn:=cI (Y.symm.trans b5);subst e;obtain⟨⟨⟨J,gs,before,hw,_⟩,hx⟩,_⟩:=a1;have hW:=DataW.Whole.of_heap (w':=w.forCall z i) (by rfl) hw;have hL:laidMetH prog F (w.forCall z i):=laidMetH.of_heap (by rfl) hx;obtain⟨W,S⟩:=aW (w.forCall z i);have a8:∀(j:Nat) t v,K.params[j]?=some t->i.args[j]?=some v->Value.okWide prog W .any w.heap.size t v:=by rw[S];exact R
 rw[<-S]at hW hL a7 |-;have Z:=hW.lt;have b4:=hW;obtain⟨p,q,b1,hV,rfl,c6,c7⟩:=hW;have hA:DataW.TrodAll enc prog W 0 (fun _=>true) true K.params.toList i.args.toList J p:=b1;rw[hv]at hV;obtain⟨rfl,rfl⟩:=trodVars_none hV;refine(I W w.heap.size i.args J p a8 hA hL a7).mono fun e W' ⟨he,hb⟩=>?_;have M:J.length=K.params.size:=by have:=OJ hA;simpa using this
 subst he;refine ChangeSpec.post_blind (?_:s.post enc prog K false true false false W i.args (aG true) W');refine⟨J,[],p++[],[],p,[],b4,?_,?_,?_,hb.frame _,fun h=>by cases h⟩
 .rw[List.append_nil,D J M,a6];exact trodAll_mk1 (shut_bool underlying4 true)
 .rw[List.append_nil,D J M];exact J9 aq1 hb O hA fun x hx=>by simpa using Z x (by simp[hx])
 .rw[List.append_nil,D J M,hv];exact hV
theorem TH{W:World}(h:W.ShapedOpen prog):uP W:=acY.s1_3 W h
theorem WY{W:World}{a b:String×DataW Unit}{r:List (String×DataW Unit)}(h:laidMet prog (a::b::("internal/strconv.uint64pow10",Lib.tabData .u64 Lib.pow10Tab)::r) W):lA W:=
 Lib.tabIs_of_head (g:=3) (t:=223) (e:=141) (n:=20) bM bM bM bM bM bM (laidMet.tail (laidMet.tail h))
