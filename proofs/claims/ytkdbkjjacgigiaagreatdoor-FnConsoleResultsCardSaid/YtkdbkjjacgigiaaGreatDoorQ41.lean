/- Lemmas for CardConsoleResults. No condition. -/
import Derived.Test.YtkdbkjjacgigiaaGreatDoorQ23
import Derived.Test.YtkdbkjjacgigiaaGreatDoorQ34
set_option maxRecDepth 100000
set_option maxHeartbeats 64000000
namespace Go.Proofs.YtkdbkjjacgigiaaGreatDoor
section
open Go.RowKit Go.G5 Go.Proofs.Tryz
theorem ag4{p:Prop}(h:p:=by
  clear D;go_wp2_with fail;refine bH _ aO aO ?_
  repeat(first|go_big_quiet_skip|(go_big_quiet_want;go_big_quiet_op;first|go_big_quiet_on|(apply Exists.intro;refine⟨fun _=>?_,?_⟩;(fail);go_big_quiet_on)))
  refine wpQuiet_nil ?_;rintro w5 ⟨⟨w5,b5⟩,rfl⟩
  try dsimp only
  go_wp2;go_roundw
  case rel=>exact⟨t+1,by omega,by omega,by go_num,by rw[a7.out],Br.after b5 Br.size⟩
  case measure=>simp[intOf];omega):p:=h
theorem ar4(w:World)(n:Int)(v:Value)(l:List Int)(hv:aK w v l):
  Calls prog 50 #[.agg #[n,v]] w fun e w'=>e=.returned (.tuple #[(yC n l),(CB n l),.bool (aY n l)])/\Below w w w':=by
 have e9:=hv;obtain⟨a,b,b3,c,rfl,e0,a9,hc,hb⟩:=hv.view prog 25 3 underlying25 aN;have HC:=aH hc;have S:=aH a9;clear hc a9;go_enter func50,ntmps50;go_wp2_with fail;refine bU ?_;intro V hV;have B:Below w w V:=gY hV;have K:aP V w 27 #[n,aA a l.length c]:=gJ hV;clear hV;refine(dH n l _ V (hv.below B aI)).mono ?_;rintro e w1 ⟨rfl,b1⟩;have K:=K.keep b1;have B:=B.after b1 B.size;have G:=K.cell;have z:=K.lt
 cases Z:aY n l with
 |false=>
  have N:yC n l=0/\CB n l=0:=by unfold yC CB;rw[Z];exact⟨rfl,rfl⟩
  have Y:=aH (And.intro N Z);clear N Z;go_wp2;go_ret3;exact⟨by rw[Y.out.1.1,Y.out.1.2,Y.out.2];rfl,B⟩
 |true=>
  have N:yC n l=l.getD (lF l l.length) 0/\CB n l=(lF l l.length:Int):=by unfold yC CB;rw[Z];exact⟨rfl,rfl⟩
  have O:l.length<=32/\0<l.length:=by obtain⟨N',hN,h5,e8,O,_⟩:=cS Z;have:=Nat.two_pow_pos N';exact⟨O,by omega⟩
  have Y:=aH (And.intro N Z);have h1:=alY l;clear N Z;go_wp2_with fail;go_loopw [5,6] (fun b9 i wr=>∃t:Nat,1<=t/\t<=l.length/\i=aG t/\b9=aG (lF l t:Int)/\Below w1 w1 wr) (fun _ i _=>l.length-(intOf i).toNat)
  case atStart=>exact⟨1,aI,by omega,rfl,by rw[h1];rfl,Below.refl _ _⟩
  case round=>
   obtain⟨t,c6,ht,rfl,rfl,Br⟩:=hrel;obtain⟨wo,rfl⟩:∃z:World,z=wr:=⟨_,rfl⟩;have Bw:=B.after Br B.size;have Kw:=K.keep Br;have J:=JV l t c6;clear G z;have G:=Kw.cell;have z:=Kw.lt;by_cases hlt:t<l.length
   ·have b0:(t:Int)<(l.length:Int):=aD;have I:lF l t<l.length:=aD;have D:=SM l t;have M:=aR HC.out hb Bw aI t hlt;have f0:=fun W=>S.out W t hlt;have F:=aR HC.out hb Bw aI _ I;have a6:=fun W=>S.out W _ I;rw[<-aS l t hlt]at M;rw[<-aS l _ I]at F;obtain⟨q,R⟩:=aJ (lF l t);simp only[<-R]at D F a6;rw[<-R];obtain⟨x,N⟩:=aJ (l.getD t 0);obtain⟨y,hy⟩:=aJ (l.getD q 0);rw[<-N,<-hy]at D;rw[<-N]at M;rw[<-hy]at F;have e1:∀y:Ext wo,y.w.cell? ⟨w.heap.size,1,none⟩=some (aA a l.length c):=fun y=>y.cell (Kw.cell 1);have e2:∀z:Ext wo,z.w.cell? ⟨b,b3+t,none⟩=some (aG x):=fun z=>z.cell M;have e3:∀z:Ext wo,z.w.cell? ⟨b,b3+q,none⟩=some (aG y):=fun z=>z.cell F;clear R N hy J I M F;by_cases a8:y<x
    ·rw[if_pos a8]at D;have a7:=aH D;exact ag4
    ·rw[if_neg a8]at D;have a7:=aH D;exact ag4
   ·have b0:¬(t:Int)<(l.length:Int):=aD;have c7:t=l.length:=aD;subst c7;have F:=aR HC.out hb Bw aI _ J;have a6:=fun W=>S.out W _ J;obtain⟨q,R⟩:=aJ (lF l l.length);simp only[<-R]at F a6 J;rw[<-aS l _ J]at F;rw[<-R];obtain⟨y,hy⟩:=aJ (l.getD q 0);rw[<-hy]at F;have HY:=aH hy;have HQ:=aH R;clear hy R;go_wp2;go_ret3;exact⟨by rw[Y.out.1.1,Y.out.1.2,Y.out.2,<-HQ.out,<-HY.out];rfl,Bw⟩
theorem arU(w:World)(n:Int)(v:Value)(l:List Int)(hv:aK w v l):
  Calls prog 51 #[.agg #[n,v]] w fun e w'=>e=.returned (.tuple #[(BN n l),.bool (aY n l)])/\Below w w w':=by
 have m8:=hv;obtain⟨a,b,I,c,rfl,k7,g5,hc,hb⟩:=hv.view prog 25 3 underlying25 aN;have HC:=aH hc;have a8:=aH g5;clear hc g5;go_enter func51,ntmps51;go_wp2_with fail;refine bU ?_;intro V hV;have B:Below w w V:=gY hV;have K:aP V w 27 #[n,aA a l.length c]:=gJ hV;clear hV;refine(dH n l _ V (hv.below B aI)).mono ?_;rintro e w1 ⟨rfl,b1⟩;have K:=K.keep b1;have B:=B.after b1 B.size;have G:=K.cell;have z:=K.lt
 cases hf:aY n l with
 |false=>
  have hx:BN n l=0:=by unfold BN;rw[hf];rfl
  have HX:=aH (And.intro hx hf);clear hx hf;go_wp2;go_ret2;exact⟨by rw[HX.out.1,HX.out.2];rfl,B⟩
 |true=>
  obtain⟨N,rfl,h5,g6,k6,g7⟩:=cS hf;have hx:BN N l=(iQ l N N:Int):=by unfold BN;rw[hf,if_pos rfl,Int.toNat_natCast]
  have c7:=eO N w1 aD;rw[show((2:Int)^N-1)=((jC N 0 0:Nat):Int) by
   rw[VJ];have:((2^N:Nat):Int)=(2:Int)^N:=by simp
   have:=Nat.two_pow_pos N;omega]at c7
  have i8:=aH c7;have HX:=aH (And.intro hx hf);have a9:=aH g6;have b0:=aH g7;clear hx hf c7 g6 g7;go_wp2_with fail;refine i8.out.mono ?_;rintro e w2 ⟨rfl,rfl⟩;go_wp2_with fail;go_loopw [4,5,6] (fun av bv i wr=>∃e:Nat,e<=N/\i=aG e/\av=aG (iQ l N e:Int)/\bv=aG (jC N (iQ l N e) e:Int)/\Below w1 w1 wr) (fun _ _ i _=>N-(intOf i).toNat)
  case atStart=>exact⟨0,Nat.zero_le _,rfl,rfl,rfl,Below.refl _ _⟩
  case round=>
   obtain⟨e,he,rfl,rfl,rfl,Br⟩:=hrel;obtain⟨wo,rfl⟩:∃z:World,z=wr:=⟨_,rfl⟩;have Kw:=K.keep Br;clear G z;have G:=Kw.cell;have z:=Kw.lt;by_cases hlt:e<N
   ·have g8:(e:Int)<(N:Int):=aD;have Bw:=B.after Br B.size;have e7:=JQ l N h5 e he;have j5:(2:Nat)^e<=32:=Nat.pow_le_pow_right (n:=2) (j:=5) aQ aD;have j4:(2:Nat)^N<=32:=Nat.pow_le_pow_right (n:=2) (j:=5) aQ aD;have D:=RO l N e;obtain⟨x,hx⟩:=aJ (iQ l N e);rw[<-hx]at e7 D ⊢;obtain⟨⟨f1,f2⟩,⟨f3,f4⟩,⟨f5,f6⟩,f7,f8⟩:=LW N aD e hlt x aD e7;have g9:=fQ x e aD aD;have h0:=f1;rw[f2]at D;rw[f1]at g9 D;have b4:gM l x e=l.getD (x+2^e) 0-l.getD x 0:=by unfold gM;rw[f1]
    have d0:=xJ b0.out (x+2^e);have g0:=xJ b0.out x;have O:x+2^e<l.length:=by have:=a9.out;omega
    have R:x<l.length:=by have:=a9.out;omega
    have a1:=aR HC.out hb Bw aI _ O;have b3:=aR HC.out hb Bw aI _ R;have j9:=fun W=>a8.out W _ O;have n0:=fun W=>a8.out W _ R;rw[<-aS l _ O]at a1;rw[<-aS l _ R]at b3;have c8:=xJ b0.out (jC N x (e+1));have c9:=xJ b0.out (jC N x e);have J:jC N x (e+1)<l.length:=by have:=a9.out;omega
    have M:jC N x e<l.length:=by have:=a9.out;omega
    have Y:=aR HC.out hb Bw aI _ J;have Z:=aR HC.out hb Bw aI _ M;have h6:=(fun(W:World)=>a8.out W _ J);have j8:=fun W=>a8.out W _ M;rw[<-aS l _ J]at Y;rw[<-aS l _ M]at Z;have H3:=aH f3;obtain⟨y,hy⟩:=aJ (jC N x e);obtain⟨z',e8⟩:∃z',z'=jC N x (e+1):=⟨_,rfl⟩;obtain⟨x',b8⟩:∃x',x'=x+2^e:=⟨_,rfl⟩;simp only[<-hy,<-e8]at f5 f6 c8 c9 Y Z h6 j8 D;rw[<-b8]at g9 D b4 d0 a1;simp only[<-b8]at j9;rw[<-hy];have HY:=aH hy;have HZ:=aH e8;have j1:=aH b8;obtain⟨p,hp⟩:=aJ (l.getD z' 0);obtain⟨q,hq⟩:=aJ (l.getD y 0);obtain⟨r,hr⟩:=aJ (l.getD x' 0);obtain⟨s,hs⟩:=aJ (l.getD x 0);rw[<-hr,<-hs]at b4;rw[b4]at D;rw[<-hr]at d0 a1;rw[<-hs]at g0 b3;rw[<-hp]at c8 Y D;rw[<-hq]at c9 Z D;have m9:IntKind.i64.wrap (p-q)=p-q:=by rw[IntKind.wrap_i64];omega
    have l0:IntKind.i64.wrap (r-s)=r-s:=by rw[IntKind.wrap_i64];omega
    have b7:(y:Int)-2^e=(z':Int):=by
     have:((2^e:Nat):Int)=(2:Int)^e:=by simp
     omega
    have l1:IntKind.i64.wrap ((y:Int)-2^e)=(y:Int)-2^e:=by rw[b7,IntKind.wrap_i64];omega
    simp only[<-b7]at h6;have j0:=aH b7;clear b7;have a6:=cJ e 6 aD;have m6:(2:Int)^e<=64:=by simpa using a6.1
    have m7:=a6.2;have m5:(0:Int)<=(e:Int):=Int.natCast_nonneg _;have e0:∀y:Ext wo,y.w.cell? ⟨w.heap.size,0,none⟩=some (aG (N:Int)):=fun y=>y.cell (Kw.cell 0);have e1:∀y:Ext wo,y.w.cell? ⟨w.heap.size,1,none⟩=some (aA a l.length c):=fun y=>y.cell (Kw.cell 1);have e2:∀y:Ext wo,y.w.cell? ⟨b,I+z',none⟩=some (aG p):=fun y=>y.cell Y;have e3:∀z:Ext wo,z.w.cell? ⟨b,I+y,none⟩=some (aG q):=fun z=>z.cell Z;have e4:∀z:Ext wo,z.w.cell? ⟨b,I+x',none⟩=some (aG r):=fun z=>z.cell a1;have e5:∀z:Ext wo,z.w.cell? ⟨b,I+x,none⟩=some (aG s):=fun z=>z.cell b3;clear hx f1 f2 f3 f4 f5 f6 f7 f8 e7 j5 j4 hy e8 b8 hp hq hr hs b4 h0 J M O R a6 Y Z a1 b3 c8 c9 d0 g0;by_cases g2:p-q<=r-s
    ·rw[if_pos g2]at D;have S:=aH D;clear D;go_wp2_with fail;refine bH _ aO aO ?_
     repeat(first|go_big_quiet_skip|(go_big_quiet_want;go_big_quiet_op;first|go_big_quiet_on|(apply Exists.intro;refine⟨fun _=>?_,?_⟩;(fail);go_big_quiet_on)))
     refine wpQuiet_nil ?_;rintro w5 ⟨⟨w5,F⟩,rfl⟩
     try dsimp only
     have e0:∀y:Ext w5,y.w.cell? ⟨w.heap.size,0,none⟩=some (aG (N:Int)):=fun y=>e0 ⟨y.w,F.after y.b F.size⟩;have e1:∀y:Ext w5,y.w.cell? ⟨w.heap.size,1,none⟩=some (aA a l.length c):=fun y=>e1 ⟨y.w,F.after y.b F.size⟩;have e2:∀y:Ext w5,y.w.cell? ⟨b,I+z',none⟩=some (aG p):=fun y=>e2 ⟨y.w,F.after y.b F.size⟩;have e3:∀z:Ext w5,z.w.cell? ⟨b,I+y,none⟩=some (aG q):=fun y=>e3 ⟨y.w,F.after y.b F.size⟩;go_wp2_with fail;refine bH _ aO aO ?_
     repeat(first|go_big_quiet_skip|(go_big_quiet_want;go_big_quiet_op;first|go_big_quiet_on|(apply Exists.intro;refine⟨fun _=>?_,?_⟩;(fail);go_big_quiet_on)))
     refine wpQuiet_nil ?_;rintro w6 ⟨⟨w6,c6⟩,rfl⟩
     try dsimp only
     have b6:=F.after c6 F.size;go_wp2;go_roundw
     case rel=>exact⟨e+1,by omega,by go_num,by rw[S.out],by rw[S.out,j1.out,H3.out,HY.out],Br.after b6 Br.size⟩
     case measure=>simp[intOf];omega
    ·rw[if_neg g2]at D;have S:=aH D;clear D;go_wp2_with fail;refine bH _ aO aO ?_
     repeat(first|go_big_quiet_skip|(go_big_quiet_want;go_big_quiet_op;first|go_big_quiet_on|(apply Exists.intro;refine⟨fun _=>?_,?_⟩;(fail);go_big_quiet_on)))
     refine wpQuiet_nil ?_;rintro w5 ⟨⟨w5,F⟩,rfl⟩
     try dsimp only
     have e0:∀y:Ext w5,y.w.cell? ⟨w.heap.size,0,none⟩=some (aG (N:Int)):=fun y=>e0 ⟨y.w,F.after y.b F.size⟩;have e1:∀y:Ext w5,y.w.cell? ⟨w.heap.size,1,none⟩=some (aA a l.length c):=fun y=>e1 ⟨y.w,F.after y.b F.size⟩;have e2:∀y:Ext w5,y.w.cell? ⟨b,I+z',none⟩=some (aG p):=fun y=>e2 ⟨y.w,F.after y.b F.size⟩;have e3:∀z:Ext w5,z.w.cell? ⟨b,I+y,none⟩=some (aG q):=fun y=>e3 ⟨y.w,F.after y.b F.size⟩;go_wp2_with fail;refine bH _ aO aO ?_
     repeat(first|go_big_quiet_skip|(go_big_quiet_want;go_big_quiet_op;first|go_big_quiet_on|(apply Exists.intro;refine⟨fun _=>?_,?_⟩;(fail);go_big_quiet_on)))
     refine wpQuiet_nil ?_;rintro w6 ⟨⟨w6,c6⟩,rfl⟩
     try dsimp only
     have b6:=F.after c6 F.size;go_wp2;go_roundw
     case rel=>exact⟨e+1,by omega,by go_num,by rw[S.out],by rw[S.out,<-HZ.out,j0.out],Br.after b6 Br.size⟩
     case measure=>simp[intOf];omega
   ·have g8:¬(e:Int)<(N:Int):=aD;have hE:e=N:=aD;subst hE;go_wp2;go_ret2;exact⟨by rw[HX.out.1,HX.out.2];rfl,B.after Br B.size⟩
theorem agW{p:Prop}(h:p:=by
  clear G z b9
  cases bC with
  |false=>go_wp2;go_ret;exact⟨bJ (M.out.trans i6.out),B9⟩
  |true=>
   have a0:=K9.cell 0;simp only[List.getElem?_toArray,List.getElem?_cons_zero]at a0;have p0:∀y:Ext w9,y.w.cell? ⟨w.heap.size,0,none⟩=some (aG n):=fun y=>y.cell a0;have R6:=aH (fun y:Ext w9=>m6.out y.w);have R7:=aH (fun y:Ext w9=>m7.out y.w);go_wp2_with fail;refine bH _ aO aO ?_
   repeat(first|go_big_quiet_skip|(go_big_quiet_want;go_big_quiet_op;first|go_big_quiet_on|(apply Exists.intro;refine⟨fun _=>?_,?_⟩;(first|(go_at_call 8;exact bW (R6.out _))|(go_at_call 22;exact bW (R7.out _)));go_big_quiet_on)))
   refine wpQuiet_nil ?_;rintro wa ⟨⟨wa,ba⟩,rfl⟩
   try dsimp only
   go_wp2;go_ret;exact⟨bJ (M.out.trans i6.out),B9.after ba B9.size⟩):p:=h
theorem aj7(w:World)(n:Int)(v:Value)(l:List Int)(hv:aK w v l)(hl:l.length<=1048576):
  Calls prog 15 #[.agg #[n,v]] w fun e w'=>e=.returned (.string (wH n l))/\Below w w w':=by
 have F:=hv;obtain⟨a,c,rfl⟩:=hv.shape;have K0:=aP.new w 27 #[n,aA a l.length c]
 cases J:aY n l with
 |false=>have M:=aH (RF J);have HF:=aH J;clear J;go_enter func15,ntmps15;go_wp2_with fail;refine(dH n l _ _ (F.alloc _)).mono ?_;rintro e w1 ⟨rfl,b1⟩;rw[HF.out];go_wp2;go_ret;exact⟨bJ M.out.symm,(bF _ _).after b1 (by simp)⟩
 |true=>
  obtain⟨TT,a9⟩:=aJ (wH n l);have g9:(∀x∈nM n l,dL x)->TT.size<=10700:=by rw[a9,AY J];exact M6 J
  have hx:ZC n l=TT:=by rw[a9,AY J]
  unfold ZC at hx;have p6:=WV J;have p7:=XK J;have o7:=VK J;have o6:=VG n l;have o8:=PU n l;have d0:0<l.length:=by obtain⟨N,_,_,h2,_⟩:=cS J;have:=Nat.two_pow_pos N;omega
  have p8:wT n l=eM l:=by unfold wT;rw[J];rfl
  have j2:BN n l=(iQ l n.toNat n.toNat:Int):=by unfold BN;rw[J];rfl
  have O:iQ l n.toNat n.toNat<l.length:=by obtain⟨N,rfl,h5,h2,_⟩:=cS J;rw[Int.toNat_natCast,h2];exact JQ l N h5 N aI
  have c5:NL n l=l.getD (iQ l n.toNat n.toNat) 0:=rfl;have f8:=fun(W:World) (h:aK W (aA a l.length c) l)=>AL W n _ l h d0;have c9:=fun(W:World) (h:aK W (aA a l.length c) l)=>CA W n _ l h;have c8:=fun(W:World) (h:aK W (aA a l.length c) l)=>ar4 W n _ l h;have c6:=fun(W:World) (h:aK W (aA a l.length c) l)=>arU W n _ l h;have c7:=fun(W:World) (h:aK W (aA a l.length c) l)=>RQ W n _ l h hl;have b0:=fun(W:World) (h:aK W (aA a l.length c) l)=>aiM W n _ l h hl;simp only[J]at c9 c8;simp only[J,j2]at c6;obtain⟨bD,f7⟩:=aJ (wJ n l);obtain⟨bC,f6⟩:=aJ (gK n l);rw[<-f7,<-f6]at hx;simp only[<-f7]at c7;simp only[<-f6]at b0;obtain⟨d,hd⟩:=aJ (iQ l n.toNat n.toNat);simp only[<-hd]at c6 O c5;obtain⟨N1,Y⟩:=aJ (eM l);obtain⟨N2,a6⟩:=aJ (yC n l);obtain⟨N3,a7⟩:=aJ (NL n l);obtain⟨N4,a8⟩:=aJ (lO n l);obtain⟨S2,f4⟩:=aJ (CB n l);obtain⟨S4,f5⟩:=aJ (nZ n l);obtain⟨Z,hZ⟩:=aJ (nP n l);obtain⟨D,hD⟩:=aJ (nM n l);rw[<-Y,<-a6,<-a7,<-a8,<-f4,<-f5,<-hZ,<-hD]at hx;simp only[<-Y]at f8;simp only[<-hZ]at c9;simp only[<-a6,<-f4]at c8;rw[<-a7]at c5;simp only[<-hD]at c7;simp only[<-a8,<-f5]at b0;rw[<-Y]at p6;rw[<-a6]at p7;rw[<-a7]at o7;rw[<-a8]at o6;rw[<-hD]at o8 g9;have q1:=cM N1 ⟨by omega,by omega⟩;have q2:=fG n Z;have q3:=cM N2 ⟨by omega,by omega⟩;have q4:=fA n S2;have q5:=cM N3 ⟨by omega,by omega⟩;have q6:=cM N4 ⟨by omega,by omega⟩;have q7:=fA n S4;have i6:=aH a9;have M:=aH hx;have s9:=aH g9;have HF:=aH J;have l1:=aH c5;have e0:=aH O;have l6:=aH f8;have l8:=aH c9;have l7:=aH c8;have l2:=aH c6;have l3:=aH c7;have i1:=aH b0;clear hx J a9 g9 f8 c9 c8 c6 c7 b0 f7 f6 hd Y a6 a7 a8 f4 f5 hZ hD p8 j2 c5 O d0;have f9:=fun W:World=>fS N1 ⟨by omega,by omega⟩ W;have g2:=fun W:World=>fS N2 ⟨by omega,by omega⟩ W;have g5:=fun W:World=>nH n S2 W;have g6:=fun W:World=>fS N3 ⟨by omega,by omega⟩ W;have g7:=fun W:World=>fS N4 ⟨by omega,by omega⟩ W;have g8:=fun W:World=>nH n S4 W;have g0:=fun(p:Option Addr) (q:Nat) (W:World) (h:aK W (aA p Z.length q) Z)=>nG n Z _ W h;have I:=M.out;obtain⟨F1,e5⟩:=aJ (aX N1);rw[<-e5]at q1 I;simp only[<-e5]at f9;have l9:=aH f9;clear e5 f9;obtain⟨F2,e6⟩:=aJ (bZ n Z);rw[<-e6]at q2 I;simp only[<-e6]at g0;have m2:=aH g0;clear e6 g0;obtain⟨F3,e7⟩:=aJ (aX N2);rw[<-e7]at q3 I;simp only[<-e7]at g2;have m3:=aH g2;clear e7 g2;obtain⟨F4,e8⟩:=aJ (bG n S2);rw[<-e8]at q4 I;simp only[<-e8]at g5;have m4:=aH g5;clear e8 g5;obtain⟨F5,e9⟩:=aJ (aX N3);rw[<-e9]at q5 I;simp only[<-e9]at g6;have m5:=aH g6;clear e9 g6;obtain⟨F6,f0⟩:=aJ (aX N4);rw[<-f0]at q6 I;simp only[<-f0]at g7;have m6:=aH g7;clear f0 g7;obtain⟨F7,f2⟩:=aJ (bG n S4);rw[<-f2]at q7 I;simp only[<-f2]at g8;have m7:=aH g8;clear f2 g8;have M:=aH I;clear I;obtain⟨_,ab,r2,_,q9,_,j3,hc,hb⟩:=F.view prog 25 3 underlying25 aN;injection q9 with x1 _ x3;subst x1 x3;have HC:=aH hc;have l5:=aH j3;clear hc j3;go_enter func15,ntmps15;go_wp2_with fail;refine(dH n l _ _ (F.alloc _)).mono ?_;rintro e w1 ⟨rfl,b1⟩;rw[HF.out];have B1:Below w w w1:=(bF _ _).after b1 (by simp);have K1:=K0.keep b1;clear K0 b1;have G:=K1.cell;have z:=K1.lt;go_wp2_with fail;refine(l8.out _ (F.below B1 aI)).mono ?_;rintro e w3 ⟨pZ,iZ,qZ,rfl,oZ,b3⟩;have p5:iZ=Z.length:=oZ.ints.capLe.1;subst p5;have j0:=oZ.ints;have B3:=B1.after b3 B1.size;have K3:=K1.keep b3;clear B1 K1 G z b3 oZ;have G:=K3.cell;have z:=K3.lt;go_wp2_with fail;refine(l7.out _ (F.below B3 aI)).mono ?_;rintro e w4 ⟨rfl,b4⟩;have j1:=j0.keep b4;have B4:=B3.after b4 B3.size;have K4:=K3.keep b4;clear B3 K3 G z b4 j0;have G:=K4.cell;have z:=K4.lt;go_wp2_with fail;refine(l2.out _ (F.below B4 aI)).mono ?_;rintro e R ⟨rfl,b5⟩;have hZ:=j1.keep b5;have B5:=B4.after b5 B4.size;have K5:=K4.keep b5;clear B4 K4 G z b5 j1;go_upto_region 6 with fail;go_cut [10] (fun v wx=>∃X,v=.string X/\X=RE F1 F2 F3 F4 F5/\Below R R wx)
  case rest=>
   obtain⟨X,rfl,hX,b6⟩:=hcut;have u8:X.size<=10300:=by rw[hX];exact TE F1 F2 F3 F4 F5 q1 q2 q3 q4 q5
   have h0:=M.out;rw[<-hX]at h0;have M:=aH h0;have B6:=B5.after b6 B5.size;have K6:=K5.keep b6;clear hX h0 b6 B5 K5 hZ;have G:=K6.cell;have z:=K6.lt;go_wp2_with fail;refine(l3.out _ (F.below B6 aI)).mono ?_;rintro e w7 ⟨pD,iD,qD,rfl,oD,b7⟩;have o9:iD=D.length:=oD.ints.capLe.1;subst o9;have S:=oD.ints;have B7:=B6.after b7 B6.size;have K7:=K6.keep b7;clear B6 K6 G z b7 oD
   cases bD with
   |false=>have K:=M.out;simp only[M5,if_neg Bool.false_ne_true]at K;have M:=aH K;clear K S;have G:=K7.cell;have z:=K7.lt;go_wp2_with fail;refine(i1.out _ (F.below B7 aI)).mono ?_;rintro e w9 ⟨rfl,b9⟩;have B9:=B7.after b9 B7.size;have K9:=K7.keep b9;exact agW
   |true=>
    have q0:(eR D).size<=200:=by have:=lW D S.inR;omega
    have hn:=wV D _ w7 S aD;have K:=M.out;obtain⟨F8,f3⟩:=aJ (eR D);rw[<-f3]at K q0;simp only[<-f3]at hn;have HN:=aH hn;simp only[M5,if_pos]at K;have M:=aH K;clear K S f3 hn;have G:=K7.cell;have z:=K7.lt;go_wp2_with fail;refine HN.out.mono ?_;rintro e w8 ⟨rfl,b8⟩;have B8:=B7.after b8 B7.size;have K8:=K7.keep b8;clear G z b8 B7 K7;have G:=K8.cell;have z:=K8.lt;go_wp2_with fail;refine(i1.out _ (F.below B8 aI)).mono ?_;rintro e w9 ⟨rfl,b9⟩;have B9:=B8.after b9 B8.size;have K9:=K8.keep b9;exact agW
  case first=>
   have a0:=K5.cell 0;have a1:=K5.cell 1;simp only[List.getElem?_toArray,List.getElem?_cons_zero,List.getElem?_cons_succ]at a0 a1;have ck:=aR HC.out hb B5 aI d e0.out;have ik:=fun W=>l5.out W d e0.out;rw[<-aS l d e0.out,<-l1.out]at ck;have q8:=F.below B5 aI;have p0:∀y:Ext R,y.w.cell? ⟨w.heap.size,0,none⟩=some (aG n):=fun y=>y.cell a0;have p1:∀y:Ext R,y.w.cell? ⟨w.heap.size,1,none⟩=some (aA a l.length c):=fun y=>y.cell a1;have p2:∀y:Ext R,y.w.cell? ⟨ab,r2+d,none⟩=some (aG N3):=fun y=>y.cell ck;have R0:=aH (fun y:Ext R=>l6.out y.w (y.ints q8));have R1:=aH (fun y:Ext R=>l9.out y.w);have R3:=aH (fun y:Ext R=>m3.out y.w);have R5:=aH (fun y:Ext R=>m5.out y.w);have R4:=aH (fun y:Ext R=>m4.out y.w);have R2:=aH (fun y:Ext R=>m2.out pZ qZ y.w (hZ.keep y.b));clear a0 a1 ck;refine bH _ aO aO ?_
   repeat(first|go_big_quiet_skip|(go_big_quiet_want;go_big_quiet_op;first|go_big_quiet_on|(apply Exists.intro;refine⟨fun _=>?_,?_⟩;(first|(go_at_call 28;exact bW (R0.out _))|(go_at_call 8;first|(with_reducible exact bW (R1.out _))|(with_reducible exact bW (R3.out _))|(with_reducible exact bW (R5.out _)))|(go_at_call 22;exact bW (R4.out _))|(go_at_call 9;exact bW (R2.out _)));go_big_quiet_on)))
   refine wpQuiet_nil ?_;rintro w6 ⟨⟨w6,b6⟩,rfl⟩
   try dsimp only
   go_wp2_with fail;go_meet;exact⟨_,rfl,rfl,b6⟩
end
section
open Go.RowKit Go.G5 Go.Proofs.Tryz
end
section
open Go.RowKit Go.G5 Go.Proofs.Tryz
end
section
open Go.RowKit Go.G5 Go.Proofs.Tryz
end
section
open Go.RowKit Go.G5 Go.Proofs.Tryz
theorem ZV:dT []=[]:=by simp[dT];rfl
theorem LI(w:World)(v:Value)(l:List Int)(hv:aK w v l)(hm:∀x∈l,0<=x/\x<64)(hl:l.length<=64)(s:Int)(R:0<=s/\s<64):
  Calls prog 103 #[v,s] w fun e w'=>∃ad i c,e=.returned (aA ad i c)/\aM 3 w w' (aA ad i c) (yW l s)/\Below w w w':=by
 obtain⟨a,b,c6,c,rfl,a8,M,hc,hb⟩:=hv.view prog 25 3 underlying25 aN;have HC:=aH hc;have Z:=aH M;have HM:=aH hm;have o0:=aM.lit0 (E:=3) (B:=w.heap.size) w aI;clear hc M hm;go_enter func103,ntmps103;go_wp2_with fail;go_loopw [5,6] (fun ov iv wr=>∃(j:Nat) (p:Option Addr) (r m:Nat),j<=l.length/\iv=aG j/\ov=aA p r m/\aM 3 w wr (aA p r m) (dT ((l.take j).map fun t=>bB s t))/\Below w w wr) (fun _ iv _=>l.length-(intOf iv).toNat)
 case atStart=>
  refine⟨0,_,_,_,Nat.zero_le _,rfl,rfl,?_,bF _ _⟩;have e0:dT ((l.take 0).map fun t=>bB s t)=[]:=by rw[List.take_zero,List.map_nil];exact ZV
  rw[e0];exact o0
 case round=>
  obtain⟨j,p,r,m,hj,rfl,rfl,jS,J⟩:=hrel;clear o0;have F:=aH jS;have zw:=J.size;clear jS;by_cases hlt:j<l.length
  ·have O:(j:Int)<(l.length:Int):=aD;have ck:=aR HC.out hb J aI j hlt;have ik:=fun W=>Z.out W j hlt;have hx:=HM.out _ (List.getElem_mem hlt);have D:=ajH l s j hlt;obtain⟨x,S⟩:=aJ (l[j]);rw[<-S]at ck hx D;have I:=dU hx.1 (show x<4611686018427387904 by omega) R.1 (show s<4611686018427387904 by omega);rw[xW x s]at I;have a1:=BS s x R.1 R.2;have N:(dT ((l.take j).map fun t=>bB s t)).length<=1048576:=by refine Nat.le_trans (V7 _ ?_).2 aD;intro y Y;obtain⟨t,_,rfl⟩:=List.mem_map.1 Y;exact BS s t R.1 R.2
   obtain⟨y,Y⟩:=aJ (bB s x);rw[<-Y]at I a1 D;have z:=adE w.heap.size _ _ y wr F.out zw (uE _) N ⟨by omega,by omega⟩;rw[D]at z;have K:=aH z;clear S Y D z N;go_wp2_with fail;refine K.out.mono ?_;rintro e w5 ⟨p5,i5,q5,rfl,o5,b5,_⟩;go_wp2;go_roundw
   case rel=>exact⟨j+1,p5,i5,q5,by omega,by go_num,rfl,o5,J.after b5 J.size⟩
   case measure=>simp[intOf];omega
  ·have O:¬(j:Int)<(l.length:Int):=aD;have hT:yW l s=dT ((l.take j).map fun t=>bB s t):=by rw[List.take_of_length_le aD];rfl
   have HT:=aH hT;clear hT;go_wp2;go_ret;exact⟨_,_,_,rfl,by rw[HT.out];exact F.out,J⟩
theorem Z3(w:World)(N:Nat)(v:Value)(l:List Int)(hv:aK w v l)(M:aU (N:Int) l=true)(s:Nat)(hs:s<2^N):
  Calls prog 154 #[.agg #[(N:Int),v],(s:Int)] w fun e w'=>e=.returned (.bool (yG l s))/\Below w w w':=by
 obtain⟨h0,h6,b6,b7⟩:=dB M;have hN:N<=6:=aD;have a9:(2:Nat)^N<=2^6:=Nat.pow_le_pow_right aQ hN;have R:((2:Int)^N)=((2^N:Nat):Int):=by simp
 obtain⟨a,c,rfl⟩:=hv.shape;have K0:=aP.new w 29 #[(N:Int),aA a l.length c];have z:=cK (N:Int) l _ _ (hv.alloc (.cells #[(N:Int),aA a l.length c] 29));rw[M]at z;have I:=fun(W:World) (h:aK W (aA a l.length c) l)=>LI W _ l h (dR M) (iL M) (s:Int) ⟨by omega,by omega⟩;have O:dV (s:Int) 0 (2^N-1)=true:=cR.2 ⟨by omega,by rw[R];omega⟩;have D:=fun W=>cP (s:Int) 0 (2^N-1) W;simp only[O]at D;have S:=UA N aD s hs;have Y:yG l s=((yW l (s:Int)).length==2^bY s):=rfl;have J:=aH (fun W=>lQ s W aD);have a6:=aH (fun W=>eO N W aD);obtain⟨T,hT⟩:=aJ (yW l (s:Int));simp only[<-hT]at I;rw[<-hT]at Y;obtain⟨p,hp⟩:=aJ (bY s);rw[<-hp]at S Y;simp only[<-hp]at J;have F:=cJ p 6 aD;have b5:=F.1;have c9:=F.2;simp at b5;have K:((T.length:Int)==(2:Int)^p)=(T.length==2^p):=by
  have e:((2:Int)^p)=((2^p:Nat):Int):=by simp
  rw[e,Bool.eq_iff_iff,beq_iff_eq,beq_iff_eq];omega
 have e0:IntKind.i64.wrap ((2:Int)^p)=2^p:=by rw[IntKind.wrap_i64];omega
 rw[<-K]at Y;have HX:=aH Y;have a8:=aH I;have a1:=aH z;have a7:=aH D;have d0:p<=6:=aD;clear Y I hT hp S R M b6 b7 K F a9 hs z O D;go_enter func154,ntmps154;go_wp2_with fail;refine a1.out.mono ?_;rintro e w1 ⟨rfl,b1⟩;have Z:Below w w w1:=(bF _ _).after b1 (by simp);have G:=(K0.keep b1).cell;go_wp2_with (first|(go_at_call 78;refine(a6.out _).mono ?_;rintro e w' ⟨rfl,rfl⟩)|(go_at_call 77;refine(a7.out _).mono ?_;rintro e w' ⟨rfl,rfl⟩));refine(a8.out w1 (hv.below Z aI)).mono ?_;rintro e w2 ⟨p2,i2,q2,rfl,o2,b2⟩;have b3:i2=T.length:=o2.ints.capLe.1;subst b3;go_wp2_with (go_at_call 84;refine(J.out _).mono ?_;rintro e w' ⟨rfl,rfl⟩);go_ret;exact⟨aW HX.out.symm,Z.after b2 Z.size⟩
theorem T0(w:World)(g:Int)(v:Value)(l:List Int)(hv:aK w v l)(hf:aU g l=true):
  Calls prog 102 #[.agg #[g,v]] w fun e w'=>∃ad i c,e=.returned (.tuple #[.agg #[g,aA ad i c],.bool true])/\aK w' (aA ad i c) (nL g l)/\Below w w w':=by
 obtain⟨a,c,rfl⟩:=hv.shape;obtain⟨h0,h6,f3,f4⟩:=dB hf;obtain⟨N,rfl⟩:=Int.eq_ofNat_of_zero_le h0;have hN:N<=6:=aD;have e7:(2:Nat)^N<=2^6:=Nat.pow_le_pow_right aQ hN;have a1:=cJ N 6 hN;have f2:=a1.1;have j3:=a1.2;simp at f2;have I:((2:Int)^N)=((2^N:Nat):Int):=by simp
 have j6:IntKind.i64.wrap ((2:Int)^N)=2^N:=by rw[IntKind.wrap_i64];omega
 have hx:nL (N:Int) l=cD (yG l) (2^N):=by unfold nL;rw[hf,Int.toNat_natCast];rfl
 obtain⟨V,hV⟩:=aJ ((w.alloc (.cells #[(N:Int),aA a l.length c] 29)).alloc (.cells #[aB,()] 29));have B:Below w w V:=gO hV;have K1:aP V w 29 #[(N:Int),aA a l.length c]:=gR hV;have K2:aP V (w.heap.size+1) 29 #[aB,()]:=iP hV;have o0:=aM.lit0 (E:=3) (B:=V.heap.size) V aI;have Z:=fun(W:World) (h:aK W (aA a l.length c) l)=>cK (N:Int) l _ W h;simp only[hf]at Z;have F:=fun(W:World) (s:Nat) (hs:s<2^N) (h:aK W (aA a l.length c) l)=>Z3 W N _ l h hf s hs;have z1:=K1.lt;have z2:=K2.lt;have e9:V.heap.size=w.heap.size+1+1:=by rw[hV];simp
 obtain⟨M,hM⟩:=aJ (2^N);have b8:((2:Int)^N)=(M:Int):=by rw[I,hM]
 rw[<-hM]at hx e7 F;have HV:=aH hV;have HX:=aH hx;have b0:=aH Z;have e0:=aH F;have b1:=aH b8;clear hV Z F hf f3 f4 hx I hM b8 a1;go_enter func102,ntmps102;go_wp2_with fail;rw[HV.out.symm];go_loopw [4,5] (fun ov iv wr=>∃(j:Nat) (p:Option Addr) (r m:Nat),j<=M/\iv=aG j/\ov=aA p r m/\aM 3 V wr (aA p r m) (cD (yG l) j)/\Below V V wr) (fun _ iv _=>M-(intOf iv).toNat)
 case atStart=>exact⟨0,_,_,_,Nat.zero_le _,rfl,rfl,(by rw[<-e9];exact o0),bF _ _⟩
 case round=>
  obtain⟨j,p,r,m,hj,rfl,rfl,jS,Bw⟩:=hrel;clear o0;have B2:=B.after Bw B.size;have b7:=K1.keep Bw;have G:=b7.cell;go_wp2_with fail;refine(b0.out wr (hv.below B2 aI)).mono ?_;rintro e w3 ⟨rfl,b3⟩;have D:=Bw.after b3 Bw.size;have B3:=B.after D B.size;have b6:=K1.keep D;have e6:=K2.keep D;have J:=jS.keep b3;clear G b7 jS;have G:=b6.cell;by_cases hlt:j<M
  ·have c6:(j:Int)<2^N:=by rw[b1.out];omega
   have F:=e0.out w3 j hlt (hv.below B3 aI);have Y:=fM (yG l) j;obtain⟨z,hz⟩:=aJ (yG l j);rw[<-hz]at F Y;have j2:=jO (yG l) j;have b5:=aH F;have a9:=aH Y;clear hz F Y
   cases z with
   |false=>
    go_wp2_with fail;refine b5.out.mono ?_;rintro e w4 ⟨rfl,K⟩;have o4:=J.keep K;go_wp2;go_roundw
    case rel=>exact⟨j+1,p,r,m,by omega,by go_num,rfl,by rw[a9.out];exact o4,D.after K D.size⟩
    case measure=>simp[intOf];omega
   |true=>
    go_wp2_with fail;refine b5.out.mono ?_;rintro e w4 ⟨rfl,K⟩;have o4:=J.keep K;have B4:=D.after K D.size;have z4:=B4.size;go_wp2_with (at_builtin;refine dA rfl _ _ _ rfl 3 underlying25 aN V.heap.size _ (cD (yG l) j) (j:Int) w4.heap.size rfl rfl (aZ _ _ _ _ _ rfl) (o4.alloc _) ⟨by omega,by omega⟩ aD aT ?_;intro v' w6 S f0;obtain⟨av,nv,cv,rfl⟩:=S.shape3);have c7:=o4.lt;have B6:Below V V w6:=(B4.alloc B4.size (.cells #[(j:Int)] 3)).grown f0 aT (fun q hq=>(c7 q hq).1);go_roundw
    case rel=>exact⟨j+1,av,nv,cv,by omega,by go_num,rfl,by rw[a9.out];exact S,B6⟩
    case measure=>simp[intOf];omega
  ·have c6:¬(j:Int)<2^N:=by rw[b1.out];omega
   have c5:j=M:=aD;have HJ:=aH c5;clear c5;go_wp2_with fail;refine(b0.out w3 (hv.below B3 aI)).mono ?_;rintro e w4 ⟨rfl,K⟩;have O:=e6.keep K;have e5:=b6.keep K;have B4:=B3.after K B3.size;have o4:=J.keep K;have z3:=O.lt;clear G;have G:=e5.cell;have G2:=O.cell;have F2:=O.frozen;go_wp2;refine bN ?_;intro Wf R;have Kf:aP Wf (w.heap.size+1) 29 #[(N:Int),aA p r m]:=by rw[R];have:=(O.set 0 (aG (N:Int))).set 1 (aA p r m);simpa using this
   have Bf:Below w w Wf:=by rw[R];exact Below.setCell (Below.setCell B4 (by first|omega|(simp;done)|(simp;omega)) _) (by first|omega|(simp;done)|(simp;omega)) _
   have of:aM 3 V Wf (aA p r m) (cD (yG l) j):=by rw[R];exact(o4.setBelow (by show w.heap.size+1<_;omega) _).setBelow (by show w.heap.size+1<_;omega) _
   have Gf:=Kf.cell;clear R G2 F2 G;exact bodyPost_ret (v:=.tuple #[.agg #[(N:Int),aA p r m],.bool true]) (by simp[results,results102,go_sem,Gf]) rfl ⟨_,_,_,rfl,by rw[HX.out,<-HJ.out];exact of.ints,Bf⟩
theorem akX(w:World)(g:Int)(v:Value)(l:List Int)(hv:aK w v l)(hf:aU g l=true):
  Calls prog 54 #[.agg #[g,v]] w fun e w'=>e=.returned (tT g l)/\Below w w w':=by
 obtain⟨a,c,rfl⟩:=hv.shape;have Y:tT g l=sN (-1) (nL g l) (nL g l).length:=by unfold tT;rw[hf];rfl
 have I:=T0 (w.alloc (.cells #[g,aA a l.length c] 29)) g _ l (hv.alloc _) hf;have D:=MZ g l;have F:=QC (-1) (nL g l) (fun x Y=>(D x Y).2) aD;obtain⟨T,hT⟩:=aJ (nL g l);rw[<-hT]at Y I D F;have HX:=aH Y;have a8:=aH I;have a7:=aH D;have a1:=aH F;clear Y I D F hf hT;go_enter func54,ntmps54;go_wp2_with fail;refine a8.out.mono ?_;rintro e w1 ⟨p1,i1,q1,rfl,o1,b1⟩;have b3:i1=T.length:=o1.capLe.1;subst b3;have B1:Below w w w1:=(bF _ _).after b1 (by simp);obtain⟨_,b,e8,_,b5,_,N,hc,hb⟩:=o1.view prog 25 3 underlying25 aN;injection b5 with x1 _ x3;subst x1 x3;have K:=aR hc hb (bF w1 (.cells #[g,aA p1 T.length q1] 29)) aI;have HC:=aH K;have a6:=aH N;clear hc N o1 hb K;go_wp2_with fail;go_loop [5,6] (fun mv iv=>∃j:Nat,j<=T.length/\iv=aG j/\mv=aG (sN (-1) T j)) (fun _ iv=>T.length-(intOf iv).toNat)
 case atStart=>exact⟨0,Nat.zero_le _,rfl,rfl⟩
 case round=>
  obtain⟨j,hj,rfl,rfl⟩:=hrel;have a9:=a1.out j;by_cases hlt:j<T.length
  ·have R:(j:Int)<(T.length:Int):=aD;have ck:=HC.out j hlt;have ik:=fun W=>a6.out W j hlt;have S:sN (-1) T (j+1)=max (sN (-1) T j) (cT T[j]):=by rw[sN,aS T j hlt]
   have Z:=a7.out _ (List.getElem_mem hlt);obtain⟨y,hy⟩:=aJ (T[j]);rw[<-hy]at ck S Z;have J:=aH (fun W=>sK y W Z.1 aD);have b4:=wQ y aD;obtain⟨z,hz⟩:=aJ (cT y);rw[<-hz]at S b4;simp only[<-hz]at J;obtain⟨M,hM⟩:=aJ (sN (-1) T j);rw[<-hM]at S a9 ⊢;have HS:=aH S;clear hy hz hM S;go_wp2_with (go_at_call 84;refine(J.out _).mono ?_;rintro e w' ⟨rfl,rfl⟩);go_round
   case rel=>exact⟨j+1,by omega,by go_num,by rw[HS.out];try omega⟩
   case measure=>simp[intOf];omega
  ·have R:¬(j:Int)<(T.length:Int):=aD;have O:j=T.length:=aD;have HJ:=aH O;clear O;go_wp2;go_ret;exact⟨fL (by rw[HX.out,<-HJ.out]),B1.alloc B1.size _⟩
end
end Go.Proofs.YtkdbkjjacgigiaaGreatDoor
