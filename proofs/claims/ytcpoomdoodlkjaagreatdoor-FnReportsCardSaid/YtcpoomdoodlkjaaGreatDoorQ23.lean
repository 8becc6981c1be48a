/- Lemmas for CardReports. No condition. -/
import Derived.Test.YtcpoomdoodlkjaaGreatDoorQ22
set_option maxRecDepth 100000
set_option maxHeartbeats 64000000
namespace Go.Proofs.YtcpoomdoodlkjaaGreatDoor
section
open Go.RowKit Go.G5 Go.Proofs.Tryz
theorem UX(w:World)(n:Nat)(hn:n<=6)(c:FuncId)(he:∀args w,(callFunc c args).run prog w=.ok (.enter c args) w)(g h:Nat)(P:Nat->Bool)
  (hw:∀(s:Nat) W',s<2^n->Below w w W'->Calls prog c #[(s:Int),.pointer (some ⟨g,0,none⟩),.pointer (some ⟨h,0,none⟩)] W' fun e w2=>e=.returned (.bool (P s))/\Below W' W' w2):
  Calls prog 191 #[(n:Int),.func (.func c) #[] #[.pointer (some ⟨g,0,none⟩),.pointer (some ⟨h,0,none⟩)]] w fun e w'=>
   ∃ad i F,e=.returned (.agg #[(n:Int),aI ad i F])/\aP 3 w w' (aI ad i F) (bW P (2^n))/\Below w w w':=by
 have Z:(2:Nat)^n<=64:=Nat.pow_le_pow_right aY hn;have a8:=Nat.two_pow_pos n;have K:((2^n:Nat):Int)=(2:Int)^n:=by simp
 obtain⟨N,hN⟩:∃N:Nat,N=2^n:=⟨_,rfl⟩;rw[<-hN]at hw Z a8 K ⊢;have HN:=aN hN;clear hN;have r0:=(BoxAt.new w (aM 0) (aI none 0 0) 31);have r1:=r0.keep (bF _ (.cells #[n,()] 31));have b1:=BoxAt.new (w.alloc (.cells #[aJ,()] 31)) (aM n) (aI none 0 0) 31;go_enter func191,ntmps191;go_wp2_with fail;go_loopw [12] (fun i wr=>∃(k:Nat) (ad:Option Addr) (M F:Nat),k<=N/\i=aM k/\aP 3 (w.heap.size+1+1) wr (aI ad M F) (bW P k)/\Below w w wr /\
   BoxAt wr w.heap.size (aM 0) (aI none 0 0)/\BoxAt wr (w.heap.size+1) (aM n) (aI ad M F))
  (fun i _=>N-(intOf i).toNat)
 case atStart=>exact⟨0,none,0,0,Nat.zero_le _,rfl,aP.nil _ _ _,(by repeat(first|exact Below.refl _ _|(with_reducible refine Below.setCell ?_ (by first|omega|(simp;done)|(simp;omega)) _)|(with_reducible refine Below.alloc ?_ (by first|omega|(simp;done)|(simp;omega)) _)|(with_reducible refine Below.drewN' ?_ _)|(with_reducible refine Below.drew ?_)|(with_reducible assumption)|refine Below.trans ?_ (Below.mono (by assumption) (by first|omega|(simp;done)|(simp;omega))))),r1,by simpa using b1⟩
 case round=>
  obtain⟨k,ad,M,F,hk,rfl,Y,B,R,X⟩:=hrel;clear r0 r1 b1;by_cases hlt:k<N
  ·have S:(k:Int)<2^n:=by rw[<-K];exact_mod_cast hlt
   have hcl:=hw k wr hlt B;have zr:=R.lt;have zx:=X.lt
   cases hP:P k with
   |false=>
    rw[hP]at hcl;go_wp2_with (go_at_fn c;refine hcl.mono ?_;rintro e w2 ⟨rfl,z⟩);go_roundw
    case rel=>exact⟨k+1,ad,M,F,by omega,by go_num,by rw[fM,hP];exact Y.keep z,B.after z B.size,R.keep z,X.keep z⟩
    case measure=>simp[intOf];omega
   |true=>
    rw[hP]at hcl;have O:=fJ P k;have c7:(bW P k).length<=64:=Nat.le_trans O (Nat.le_trans hk Z);go_wp2_with (first
     |(go_at_fn c;refine hcl.mono ?_;rintro e w2 ⟨rfl,z⟩;have d9:=(X.keep z).lt;obtain⟨e0,e1,g0,g1⟩:=X.keep z)
     |(at_builtin;refine cZ rfl _ _ _ rfl 3 underlying24 aS (w.heap.size+1+1) _ _ (k:Int) w2.heap.size rfl rfl (by simp) ((Y.keep z).alloc _) ⟨by omega,by omega⟩ aK aV ?_;intro v' w6 I J;obtain⟨av,nv,cv,rfl⟩:=I.shape3;have D:=(Y.keep z).lt;have X6:=((X.keep z).keep (bF _ (.cells #[k] 3))).grow J (fun e=>by have:=(D _ e).1;omega);have R6:=((R.keep z).keep (bF _ (.cells #[k] 3))).grow J (fun e=>by have:=(D _ e).1;omega);obtain⟨i0,i1,j0,j1⟩:=X6))
    have B6:Below w w w6:=((B.after z B.size).alloc (B.after z B.size).size (.cells #[k] 3)).grown J (by have:=(B.after z B.size).size;simp;omega) (fun q hq=>by have:=(D q hq).1;omega);go_roundw
    case rel=>exact⟨k+1,av,nv,cv,by omega,by go_num,by rw[fM,if_pos hP];exact I.setBelow (by first|omega|(simp;done)|(simp;omega)) _,B6.setCell (by first|omega|(simp;done)|(simp;omega)) _,R6.other aK _,(BoxAt.mk i0 i1 j0 j1).set1 _⟩
    case measure=>simp[intOf];omega
  ·have S:¬(k:Int)<2^n:=by rw[<-K];exact_mod_cast hlt
   have a7:k=N:=aK;obtain⟨e0,e1,g0,g1⟩:=X;obtain⟨e2,e3,g2,g3⟩:=R;go_wp2;refine bodyPost_ret (v:=.agg #[n,aI ad M F]) (by simp[results,results191,go_sem,e2,e3]) rfl ⟨ad,M,F,rfl,?_,?_⟩
   ·rw[a7]at Y;exact((Y.setBelow (by first|omega|(simp;done)|(simp;omega)) _).setBelow (by first|omega|(simp;done)|(simp;omega)) _).mono (by first|omega|(simp;done)|(simp;omega))
   ·exact Below.setCell (Below.setCell B aO _) aO _
theorem aaI(w:World)(g h s n:Nat)(P Q:Nat->Bool)(x y:Int)(v u:Value)(R:aR w v (bW P n))(O:aR w u (bW Q n))(hn:n<=32)(N:s<n)(K:aU w g 31 #[x,v])(J:aU w h 31 #[y,u]):
  Calls prog 205 #[(s:Int),.pointer (some ⟨g,0,none⟩),.pointer (some ⟨h,0,none⟩)] w fun e w'=>e=.returned (.bool (P s&&Q s))/\Below w w w':=by
 have Z:(bW P n).length<=1048576:=Nat.le_trans (fJ P n) aK;have l2:(bW Q n).length<=1048576:=Nat.le_trans (fJ Q n) aK;have F:=wX x (bW P n) v s w R (uM P n) Z;have I:=fun(W:World) (Y:Below w w W)=>wX y (bW Q n) u s W (O.keep Y) (uM Q n) l2;rw[A8,decide_eq_true N,Bool.true_and]at F;simp only[A8,decide_eq_true N,Bool.true_and]at I;have D:=aN F;have S:=aN I;obtain⟨a,c,rfl⟩:=R.shape;obtain⟨b,d,rfl⟩:=O.shape;have G:=K.cell;have z1:=K.lt;have z2:=J.lt;clear F I
 cases M:P s with
 |false=>rw[M]at D;go_enter func205,ntmps205;go_wp2_with fail;refine D.out.mono ?_;rintro e w1 ⟨rfl,z⟩;go_wp2;go_ret;exact⟨rfl,z⟩
 |true=>rw[M]at D;go_enter func205,ntmps205;go_wp2_with fail;refine D.out.mono ?_;rintro e w1 ⟨rfl,z⟩;have z3:=(J.keep z).lt;have G2:=(J.keep z).cell;go_wp2_with fail;refine(S.out _ z).mono ?_;rintro e w2 ⟨rfl,b2⟩;go_wp2;go_ret;exact⟨aZ (by simp),z.after b2 z.size⟩
theorem F9:∀args w,(callFunc 205 args).run prog w=.ok (.enter 205 args) w:=enters_of func205 aT rfl
theorem aiP(w:World)(n:Int)(v:Value)(l:List Int)(hv:aR w v l)(hl:l.length<=1048576)(m:Int)(u:Value)(k:List Int)(hu:aR w u k)(hk:k.length<=1048576):
  Calls prog 96 #[.agg #[n,v],.agg #[m,u]] w fun e w'=>∃ad i cp,e=.returned (.tuple #[.agg #[(tM n l m k),aI ad i cp],.bool (fA n l m k)])/\aP 3 w w' (aI ad i cp) (tL n l m k)/\Below w w w':=by
 have e0:=hv;have d9:=hu;obtain⟨a,c,rfl⟩:=hv.shape;obtain⟨b,d,rfl⟩:=hu.shape;have i7:∀(fn:Fn) (first cap:Array Value) (w:World),(Instr.makeFunc fn first cap).run prog w=.ok (.func fn first cap) w:=fun _ _ _ _=>rfl;go_enter func96,ntmps96;go_wp2_with fail;refine bH ?_;intro V hV;have B:Below w w V:=by rw[hV];exact(wM _ _ _).alloc (by first|omega|(simp;done)|(simp;omega)) _
 have O:aU V w 26 #[n,aI a l.length c]:=by rw[hV];exact((aU.new _ _ _).alloc _).alloc _
 have K2:aU V (w.heap.size+1) 26 #[m,aI b k.length d]:=by rw[hV];have:=(aU.new (w.alloc (.cells #[n,aI a l.length c] 26)) 26 #[m,aI b k.length d]).alloc (.cells #[aJ,()] 31);simpa using this
 have I:aU V (w.heap.size+1+1) 31 #[aJ,()]:=by rw[hV];have:=aU.new ((w.alloc (.cells #[n,aI a l.length c] 26)).alloc (.cells #[m,aI b k.length d] 26)) 31 #[aJ,()];simpa using this
 clear hV;refine(vP V n _ l (e0.below B aO) hl m _ k (d9.below B aO) hk).mono ?_;rintro e w1 ⟨rfl,b1⟩;have O:=O.keep b1;have K2:=K2.keep b1;have I:=I.keep b1;have B1:=B.after b1 B.size;have z3:=I.lt;clear B b1
 cases K:fA n l m k with
 |false=>
  have hN:tM n l m k=0:=by unfold tM;rw[K];rfl
  have hL:tL n l m k=[]:=by unfold tL;rw[K];rfl
  have HN:=aN hN;have HL:=aN hL;have HF:=aN K;have G2:=I.cell;have F2:=I.frozen;clear hN hL K;go_wp2;refine bG ?_;intro Wf z;have a8:aU Wf (w.heap.size+1+1) 31 #[aJ,()]:=by rw[z];have:=(I.set 0 (aM 0)).set 1 (aI none 0 0);simpa using this
  have Bf:Below w w Wf:=by rw[z];exact Below.setCell (Below.setCell B1 (by first|omega|(simp;done)|(simp;omega)) _) (by first|omega|(simp;done)|(simp;omega)) _
  have Gf:=a8.cell;clear z G2 F2;exact bodyPost_ret (v:=.tuple #[.agg #[aJ,()],.bool false]) (by simp[results,results96,go_sem,Gf]) rfl ⟨none,0,0,by rw[HN.out,HF.out],by rw[HL.out];exact aP.nil _ _ _,Bf⟩
 |true=>
  obtain⟨b6,b7⟩:=GD K;obtain⟨rfl,N,rfl,g1,Y,h5,d8,_,_⟩:=pX K;have hN:tM N l N k=N:=by unfold tM;rw[K];rfl
  have hL:tL N l N k=bW (fun s=>kG l s&&kG k s) (2^N):=by unfold tL;rw[K,if_pos rfl,Y];rfl
  have R:=QR w1 N _ l (e0.below B1 aO) hl;have S:=fun(W:World) (h:aR W (aI b k.length d) k)=>QR W N _ k h hk;have e1:fL N l=bW (kG l) (2^N):=by unfold fL;rw[b6,if_pos rfl,Y]
  have e2:fL N k=bW (kG k) (2^N):=by unfold fL;rw[b7,if_pos rfl,d8,Y]
  have e3:jB N l=N:=by unfold jB;rw[b6];rfl
  have e4:jB N k=N:=by unfold jB;rw[b7];rfl
  rw[e1,e3]at R;simp only[e2,e4]at S;have g4:(2:Nat)^N<=32:=Nat.pow_le_pow_right (n:=2) aY g1;obtain⟨A1,b0⟩:=aQ (bW (kG l) (2^N));obtain⟨Z,b5⟩:=aQ (bW (kG k) (2^N));rw[<-b0]at R;simp only[<-b5]at S;have HA:=aN (And.intro b0 b5);have f5:=aN R;have f6:=aN S;have HN:=aN hN;have HL:=aN hL;have HF:=aN K;clear hN hL K R S e1 e2 e3 e4 b6 b7 Y d8 b0 b5;have G1:=O.cell;go_wp2_with fail;refine f5.out.mono ?_;rintro e w2 ⟨p1,i1,q1,rfl,o1,b2⟩;have g2:i1=A1.length:=o1.ints.capLe.1;subst g2;have B2:=B1.after b2 B1.size;have K2:=K2.keep b2;have I:=I.keep b2;have O:=O.keep b2;clear G1 B1 b2;have J1:=aU.new w2 31 #[N,aI p1 A1.length q1];have h1:=o1.ints.alloc (.cells #[N,aI p1 A1.length q1] 31);have M:=B2.alloc B2.size (.cells #[N,aI p1 A1.length q1] 31);have d0:=K2.alloc (.cells #[N,aI p1 A1.length q1] 31);have F:=O.alloc (.cells #[N,aI p1 A1.length q1] 31);have D:=I.alloc (.cells #[N,aI p1 A1.length q1] 31);have G1:=d0.cell;go_wp2_with fail;refine(f6.out _ (d9.below M aO)).mono ?_;rintro e w3 ⟨p2,i2,q2,rfl,o2,b3⟩;have g3:i2=Z.length:=o2.ints.capLe.1;subst g3;have B3:=M.after b3 M.size;have O:=F.keep b3;have I:=D.keep b3;have J1:=J1.keep b3;have h1:=h1.keep b3;clear G1 B2 M K2 d0 F D b3;have J2:=aU.new w3 31 #[N,aI p2 Z.length q2];have h2:=o2.ints.alloc (.cells #[N,aI p2 Z.length q2] 31);have J:=B3.alloc B3.size (.cells #[N,aI p2 Z.length q2] 31);have F:=O.alloc (.cells #[N,aI p2 Z.length q2] 31);have D:=I.alloc (.cells #[N,aI p2 Z.length q2] 31);have a7:=J1.alloc (.cells #[N,aI p2 Z.length q2] 31);have a9:=h1.alloc (.cells #[N,aI p2 Z.length q2] 31);have G1:=F.cell;have z1:=F.lt;go_wp2_with fail;refine bH ?_;intro V hV;rw[<-hV]at J2 h2 J D a7 a9;have hc:=UX V N aK 205 F9 w2.heap.size w3.heap.size (fun s=>kG l s&&kG k s) (fun s W' hs hB=>aaI W' w2.heap.size w3.heap.size s (2^N) (kG l) (kG k) N N _ _ (by rw[<-HA.out.1];exact a9.keep hB) (by rw[<-HA.out.2];exact h2.keep hB) g4 hs (a7.keep hB) (J2.keep hB));clear hV G1 z1;refine hc.mono ?_;rintro e w4 ⟨p4,i4,q4,rfl,o4,b4⟩;have B4:=J.after b4 J.size;have K4:=D.keep b4;have z4:=K4.lt;have z3:=D.lt;have y4:=J.size;have G2:=K4.cell;have F2:=K4.frozen;clear D a7 J2 a9 h2 hc F O I J1 h1 B3 J;go_wp2;refine bG ?_;intro Wf z;have a8:aU Wf (w.heap.size+1+1) 31 #[N,aI p4 i4 q4]:=by
   rw[z];have:=(K4.set 0 (aM N)).set 1 (aI p4 i4 q4);simpa using this
  have Bf:Below w w Wf:=by rw[z];exact Below.setCell (Below.setCell B4 (by first|omega|(simp;done)|(simp;omega)) _) (by first|omega|(simp;done)|(simp;omega)) _
  have of:aP 3 w Wf (aI p4 i4 q4) (bW (fun s=>kG l s&&kG k s) (2^N)):=by rw[z];exact((o4.setBelow (by first|omega|(simp;done)|(simp;omega)) _).setBelow (by first|omega|(simp;done)|(simp;omega)) _).mono (by first|omega|(simp;done)|(simp;omega))
  have Gf:=a8.cell;clear z G2 F2;exact bodyPost_ret (v:=.tuple #[.agg #[N,aI p4 i4 q4],.bool true]) (by simp[results,results96,go_sem,Gf]) rfl ⟨p4,i4,q4,by rw[HN.out,HF.out],by rw[HL.out];exact of,Bf⟩
theorem aeB(w:World)(N:Nat)(v:Value)(l:List Int)(Y:aR w v l)(I:bM N l=true)(s:Nat)(hs:s<2^N):
  Calls prog 278 #[.agg #[(N:Int),v],(s:Int)] w fun e w'=>e=.returned (.bool true)/\Below w w w':=by
 have R:=Y;obtain⟨a,c,rfl⟩:=Y.shape;obtain⟨_,O,h5,-⟩:=cX I;have O:=Int.ofNat.inj O;subst O;have K0:=aU.new w 26 #[(N:Int),aI a l.length c];have D:eZ (s:Int) 0 (2^N-1)=true:=by
  have:((2^N:Nat):Int)=(2:Int)^N:=by simp
  unfold eZ;simp only[Bool.and_eq_true,decide_eq_true_eq];omega
 obtain⟨A,M⟩:∃A:Int,A=2^N-1:=⟨_,rfl⟩;have z:=fun W:World=>fE N W aK;simp only[<-M]at z;rw[<-M]at D;have K:=aN D;have J:=aN z;have HF:=aN I;have S:=aN (dJ (N:Int) l _ (w.alloc (.cells #[(N:Int),aI a l.length c] 26)) (R.alloc _));rw[I]at S;clear D z M I hs;go_enter func278,ntmps278;go_wp2_with fail;refine S.out.mono ?_;rintro e w1 ⟨rfl,F⟩;have Z:Below w w w1:=(bF _ _).after F (by simp);have K1:=K0.keep F;have G:=K1.cell;go_wp2_with (first|(go_at_call 187;refine(J.out _).mono ?_;rintro e w2 ⟨rfl,rfl⟩)|(go_at_call 174;refine(cQ _ _ _ _).mono ?_;rintro e w3 ⟨rfl,rfl⟩;rw[K.out]));go_ret;exact⟨rfl,Z⟩
theorem ZT(w:World)(N:Nat)(v u:Value)(l k:List Int)(hv:aR w v l)(hu:aR w u k)(hl:l.length<=1048576)(hk:k.length<=1048576)(hf:fA N l N k=true)(s:Nat)(hs:s<l.length):
  Calls prog 209 #[.agg #[(N:Int),v],.agg #[(N:Int),u],(s:Int)] w fun e w'=>∃x y:Int,e=.returned (.tuple #[x,y,.bool (kU l k s)])/\Below w w w':=by
 have e5:=hv;have g6:=hu;obtain⟨a,ba,oa,c,rfl,_,d0,hc,hb⟩:=hv.view prog 24 3 underlying24 aS;obtain⟨a',f8,g9,c',rfl,_,a1,c9,g1⟩:=hu.view prog 24 3 underlying24 aS;obtain⟨_,N',hN,j0,g2,h0,d5,_,_⟩:=pX hf;have hN:=Int.ofNat.inj hN;subst hN;have Z:=kK (GD hf).1;have R:=(aU.new w 26 #[(N:Int),aI a l.length c]).alloc (.cells #[(N:Int),aI a' k.length c'] 26);have S:aU ((w.alloc (.cells #[(N:Int),aI a l.length c] 26)).alloc (.cells #[(N:Int),aI a' k.length c'] 26)) (w.heap.size+1) 26 #[(N:Int),aI a' k.length c']:=by have:=aU.new (w.alloc (.cells #[(N:Int),aI a l.length c] 26)) 26 #[(N:Int),aI a' k.length c'];simpa using this
 have d6:=fun(W:World) (h:aR W (aI a l.length c) l)=>aeB W N _ l h Z s aK;have f3:=aN d6;have HF:=aN hf;have I:=aN d5;have HC:=aN hc;have f0:=aN c9;have f2:=aN d0;have c6:=aN a1;clear d6 hf d5 hc c9 d0 a1 Z g2;go_enter func209,ntmps209;go_wp2_with fail;refine bH ?_;intro V hV;have B:Below w w V:=gD hV;have R:aU V w 26 #[(N:Int),aI a l.length c]:=by rw[hV];exact R
 have S:aU V (w.heap.size+1) 26 #[(N:Int),aI a' k.length c']:=by rw[hV];exact S
 clear hV;refine(vQ V N _ l (e5.below B aO) hl N _ k (g6.below B aO) hk).mono ?_;rintro e w1 ⟨rfl,b1⟩;rw[HF.out];have R:=R.keep b1;have S:=S.keep b1;have B:=B.after b1 B.size;have G1:=R.cell;have z2:=S.lt;go_wp2_with fail;refine(f3.out _ (e5.below B aO)).mono ?_;rintro e w2 ⟨rfl,b2⟩;have R:=R.keep b2;have S:=S.keep b2;have B:=B.after b2 B.size;clear G1;go_wp2_with fail;go_loopw [9] (fun iv wr=>∃t:Nat,t<=s+1/\iv=aM t/\DP l k s t=true/\Below w2 w2 wr) (fun iv _=>s+1-(intOf iv).toNat)
 case atStart=>exact⟨0,Nat.zero_le _,rfl,rfl,Below.refl _ _⟩
 case round=>
  obtain⟨t,ht,rfl,d9,J⟩:=hrel;obtain⟨wo,rfl⟩:∃z:World,z=wr:=⟨_,rfl⟩;have Bw:=B.after J B.size;have f5:=R.keep J;have f6:=S.keep J;have c7:=aN d9;clear d9;by_cases hlt:t<s+1
  ·have d7:(t:Int)<=(s:Int):=aK;have b6:=FS l k s t;rw[c7.out,Bool.true_and]at b6;have D:KD l k s t=((cV t s==0)&&(eO l t&&eO k (cV s t))):=rfl;rw[<-aeW s aK t aK]at D;have Y:=IQ t s aK aK;have a6:KD l k s t=true->kU l k s=true:=fun h=>XR aK h;have f4:=aN a6;have a9:=aN b6;have e1:∀y:Ext wo,y.w.cell? ⟨w.heap.size,1,none⟩=some (aI a l.length c):=fun y=>y.cell (f5.cell 1);have e2:∀y:Ext wo,y.w.cell? ⟨w.heap.size+1,1,none⟩=some (aI a' k.length c'):=fun y=>y.cell (f6.cell 1);clear a6 b6;by_cases F:t &&& s=t
   ·obtain⟨d8,j2⟩:=ae9 s aK t aK F;rw[beq_iff_eq.2 F,Bool.true_and,d8]at D;rw[F]at Y;have ck:=aW HC.out hb Bw aO t aK;have ik:=fun W=>f2.out W t aK;have b3:=aW f0.out g1 Bw aO (s-t) (by have:=I.out;omega);have g7:=fun W=>c6.out W (s-t) (by have:=I.out;omega);rw[show((s-t:Nat):Int)=(s:Int)-(t:Int) by omega]at g7;have j4:IntKind.i64.wrap ((s:Int)-(t:Int))=(s:Int)-(t:Int):=by rw[IntKind.wrap_i64];omega
    have b4:=fun W:World=>eP t W aK;have O:=fun W:World=>eP (s-t) W aK;rw[show((s-t:Nat):Int)=(s:Int)-(t:Int) by omega]at O;have K:eO l t=decide (l[t]'aK=(bR t:Int)):=by unfold eO;rw[aX l t aK]
    have M:eO k (s-t)=decide (k[s-t]'(by have:=I.out;omega)=(bR (s-t):Int)):=by unfold eO;rw[aX k (s-t) (by have:=I.out;omega)]
    obtain⟨x,hx⟩:=aQ (l[t]'aK);obtain⟨y,hy⟩:∃y,y=k[s-t]'(by have:=I.out;omega):=⟨_,rfl⟩;obtain⟨p,hp⟩:∃p:Nat,p=bR t:=⟨_,rfl⟩;obtain⟨q,hq⟩:∃q:Nat,q=bR (s-t):=⟨_,rfl⟩;rw[<-hx]at ck K;rw[<-hy]at b3 M;rw[<-hp]at K;rw[<-hq]at M;simp only[<-hp]at b4;simp only[<-hq]at O;have e3:∀z:Ext wo,z.w.cell? ⟨ba,oa+t,none⟩=some (aM x):=fun z=>z.cell ck;have e4:∀z:Ext wo,z.w.cell? ⟨f8,g9+(s-t),none⟩=some (aM y):=fun z=>z.cell b3;rw[K,M,<-rY,<-rY]at D;have a7:=aN b4;have a8:=aN O;have j1:((t:Int)==(t:Int))=true:=by simp
    clear b4 O hx hy hp hq ck b3 K M d8
    cases h1:(x==(p:Int)) with
    |false=>
     rw[h1]at D;have HP:=aN D;clear D F;go_wp2_with fail;refine bN _ aT aT ?_
     repeat(first|go_big_quiet_skip|(go_big_quiet_want;go_big_quiet_op;first|go_big_quiet_on|(apply Exists.intro;refine⟨fun _=>?_,?_⟩;(go_at_call 154;first|(with_reducible exact cR (a7.out _))|(with_reducible exact cR (a8.out _)));go_big_quiet_on)))
     refine wpQuiet_nil ?_;rintro w5 ⟨⟨w5,b5⟩,rfl⟩
     try dsimp only
     go_wp2;go_roundw
     case rel=>exact⟨t+1,by omega,by go_num,by rw[a9.out,HP.out];rfl,J.after b5 J.size⟩
     case measure=>simp[intOf];omega
    |true=>
     rw[h1,Bool.true_and]at D
     cases h2:(y==(q:Int)) with
     |false=>
      rw[h2]at D;have HP:=aN D;clear D F;go_wp2_with fail;refine bN _ aT aT ?_
      repeat(first|go_big_quiet_skip|(go_big_quiet_want;go_big_quiet_op;first|go_big_quiet_on|(apply Exists.intro;refine⟨fun _=>?_,?_⟩;(go_at_call 154;first|(with_reducible exact cR (a7.out _))|(with_reducible exact cR (a8.out _)));go_big_quiet_on)))
      refine wpQuiet_nil ?_;rintro w5 ⟨⟨w5,b5⟩,rfl⟩
      try dsimp only
      go_wp2;go_roundw
      case rel=>exact⟨t+1,by omega,by go_num,by rw[a9.out,HP.out];rfl,J.after b5 J.size⟩
      case measure=>simp[intOf];omega
     |true=>
      rw[h2]at D;have hr:=f4.out D;have HR:=aN hr;clear D F hr;go_wp2_with fail;refine bN _ aT aT ?_
      repeat(first|go_big_quiet_skip|(go_big_quiet_want;go_big_quiet_op;first|go_big_quiet_on|(apply Exists.intro;refine⟨fun _=>?_,?_⟩;(go_at_call 154;first|(with_reducible exact cR (a7.out _))|(with_reducible exact cR (a8.out _)));go_big_quiet_on)))
      refine wpQuiet_nil ?_;rintro w5 ⟨⟨w5,b5⟩,rfl⟩
      try dsimp only
      go_wp2;go_ret3;exact⟨t,(s:Int)-(t:Int),by rw[HR.out];rfl,Bw.after b5 Bw.size⟩
   ·have e0:(t &&& s==t)=false:=by rw[beq_eq_false_iff_ne];exact F
    rw[e0,Bool.false_and]at D;have g3:(((t &&& s:Nat):Int)==(t:Int))=false:=by rw[beq_eq_false_iff_ne];omega
    obtain⟨z,hz⟩:∃z:Nat,z=t &&& s:=⟨_,rfl⟩;rw[<-hz]at Y g3;have HP:=aN D;clear D F e0 hz;go_wp2_with fail;refine bN _ aT aT ?_
    repeat(first|go_big_quiet_skip|(go_big_quiet_want;go_big_quiet_op;first|go_big_quiet_on|(apply Exists.intro;refine⟨fun _=>?_,?_⟩;(fail);go_big_quiet_on)))
    refine wpQuiet_nil ?_;rintro w5 ⟨⟨w5,b5⟩,rfl⟩
    try dsimp only
    go_wp2;go_roundw
    case rel=>exact⟨t+1,by omega,by go_num,by rw[a9.out,HP.out];rfl,J.after b5 J.size⟩
    case measure=>simp[intOf];omega
  ·have d7:¬(t:Int)<=(s:Int):=aK;have hr:kU l k s=false:=by unfold kU;rw[<-show t=s+1 by omega,c7.out];rfl
   have HR:=aN hr;clear hr;go_wp2;go_ret3
   first|exact⟨0,0,by rw[HR.out];rfl,Bw⟩|exact⟨⟨0,0,by rw[HR.out];rfl⟩,Bw⟩
theorem afI(w:World)(n:Int)(v:Value)(l:List Int)(hv:aR w v l)(hl:l.length<=1048576)(m:Int)(u:Value)(k:List Int)(hu:aR w u k)(hk:k.length<=1048576):
  Calls prog 99 #[.agg #[n,v],.agg #[m,u]] w fun e w'=>e=.returned (.tuple #[(xV n l m k),.bool (fA n l m k)])/\Below w w w':=by
 have b6:=hv;have b5:=hu;obtain⟨a,c,rfl⟩:=hv.shape;obtain⟨a',c',rfl⟩:=hu.shape;go_enter func99,ntmps99;go_wp2_with fail;refine bH ?_;intro V hV;have B:Below w w V:=gD hV;have K:aU V w 26 #[n,aI a l.length c]:=gO hV;have M:aU V (w.heap.size+1) 26 #[m,aI a' k.length c']:=gY hV;clear hV;refine(vQ V n _ l (b6.below B aO) hl m _ k (b5.below B aO) hk).mono ?_;rintro e w1 ⟨rfl,b1⟩;have K:=K.keep b1;have M:=M.keep b1;have B:=B.after b1 B.size;have z2:=M.lt;have G1:=K.cell
 cases J:fA n l m k with
 |false=>
  have hx:xV n l m k=0:=by unfold xV;rw[J];rfl
  have HX:=aN hx;have HF:=aN J;clear hx J;go_wp2;go_ret2;exact⟨by rw[HX.out,HF.out];rfl,B⟩
 |true=>
  obtain⟨rfl,N,rfl,f3,a7,e8,d8,d9,d7⟩:=pX J;have hx:xV N l N k=(qP (kU l k) l.length:Int):=by unfold xV;rw[J,if_pos rfl]
  have h1:=aeH (kU l k);have b0:=fun(W:World) (h1:aR W (aI a l.length c) l) (h2:aR W (aI a' k.length c') k) (s:Nat) (hs:s<l.length)=>ZT W N _ _ l k h1 h2 hl hk J s hs;have c7:=aN b0;have HX:=aN hx;have HF:=aN J;have b3:1<=l.length:=by rw[a7];exact Nat.two_pow_pos N
  clear hx J a7 d8 d9 d7 b0;go_wp2_with fail;go_loopw [6,7] (fun d0 i wr=>∃t:Nat,1<=t/\t<=l.length/\i=aM t/\d0=aM (qP (kU l k) t:Int)/\Below w1 w1 wr) (fun _ i _=>l.length-(intOf i).toNat)
  case atStart=>exact⟨1,aO,b3,rfl,by rw[h1];rfl,Below.refl _ _⟩
  case round=>
   obtain⟨t,e4,ht,rfl,rfl,I⟩:=hrel;obtain⟨wo,rfl⟩:∃z:World,z=wr:=⟨_,rfl⟩;have Bw:=B.after I B.size;have K:=K.keep I;have M:=M.keep I;clear G1;have G1:=K.cell;have G2:=M.cell;have z1:=K.lt;have z2:=M.lt;have a8:=MY (kU l k) t e4;by_cases hlt:t<l.length
   ·have a9:(t:Int)<(l.length:Int):=aK;have D:=OG (kU l k) t;have hcl:=c7.out wo (b6.below Bw aO) (b5.below Bw aO) t hlt;obtain⟨b,O⟩:=aQ (qP (kU l k) t);obtain⟨q,hq⟩:=aQ (kU l k t);rw[<-O]at a8 ⊢;rw[<-O,<-hq]at D;rw[<-hq]at hcl;have R:=fun W:World=>eP t W aK;have S:=fun W:World=>eP b W aK;obtain⟨P,hP⟩:=aQ (bR t);obtain⟨Q,hQ⟩:=aQ (bR b);simp only[<-hP]at R;simp only[<-hQ]at S;rw[<-hP,<-hQ]at D;have Y:=aN R;have Z:=aN S;have c5:=aN hcl;clear hq O hP hQ R S hcl;go_wp2_with fail;refine c5.out.mono ?_;rintro e w2 ⟨x,y,rfl,b2⟩
    cases q with
    |false=>
     rw[Bool.and_false]at D;have F:=aN D;clear D;go_wp2;go_roundw
     case rel=>exact⟨t+1,by omega,by omega,by go_num,by rw[F.out];rfl,I.after b2 I.size⟩
     case measure=>simp[intOf];omega
    |true=>
     rw[Bool.and_true]at D;by_cases a1:Q<P
     ·rw[decide_eq_true a1]at D;have a6:(Q:Int)<(P:Int):=aK;have F:=aN D;clear D;go_wp2_with (go_at_call 154;(first|(with_reducible refine(Y.out _).mono ?_)|(with_reducible refine(Z.out _).mono ?_));rintro e w3 ⟨rfl,rfl⟩);go_roundw
      case rel=>exact⟨t+1,by omega,by omega,by go_num,by rw[F.out];rfl,I.after b2 I.size⟩
      case measure=>simp[intOf];omega
     ·rw[decide_eq_false a1]at D;have a6:¬(Q:Int)<(P:Int):=aK;have F:=aN D;clear D;go_wp2_with (go_at_call 154;(first|(with_reducible refine(Y.out _).mono ?_)|(with_reducible refine(Z.out _).mono ?_));rintro e w3 ⟨rfl,rfl⟩);go_roundw
      case rel=>exact⟨t+1,by omega,by omega,by go_num,by rw[F.out];rfl,I.after b2 I.size⟩
      case measure=>simp[intOf];omega
   ·have a9:¬(t:Int)<(l.length:Int):=aK;have b4:t=l.length:=aK;have HT:=aN b4;clear b4;go_wp2;go_ret2;exact⟨by rw[HX.out,HF.out,<-HT.out];rfl,Bw⟩
end
end Go.Proofs.YtcpoomdoodlkjaaGreatDoor
