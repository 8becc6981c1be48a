/- Lemmas for CardConsoleResults. No condition. -/
import Derived.Test.YtkdbkjjacgigiaaGreatDoorQ15
import Derived.Test.YtkdbkjjacgigiaaGreatDoorQ18
set_option maxRecDepth 100000
set_option maxHeartbeats 64000000
namespace Go.Proofs.YtkdbkjjacgigiaaGreatDoor
section
open Go.RowKit Go.G5 Go.Proofs.Tryz
theorem agH(l k:List Int)(t:Nat):vU l k (t+1)=if decide (bY (vU l k t)<bY t)&&(fX l t&&fX k t) then t else vU l k t:=rfl
theorem aoL(l k:List Int)(t:Nat):vU l k t<=t:=by
 rcases Nat.eq_zero_or_pos t with rfl|h
 ·exact aI
 ·exact Nat.le_of_lt (abE l k t h)
theorem ag5{p:Prop}(h:p:=by
  rw[hP]at hcl z;have D:=aH z;clear hP z hb;go_wp2_with (first
   |(go_at_call 214;(first|(with_reducible refine(I.out _).mono ?_)|(with_reducible refine(J.out _).mono ?_));rintro e w1 ⟨rfl,rfl⟩)
   |(go_at_fn c;refine hcl.mono ?_;rintro e w2 ⟨rfl,R⟩))
  go_roundw
  case rel=>exact⟨t+1,by omega,by go_num,by rw[D.out];rfl,B.after R B.size⟩
  case measure=>simp[intOf];omega):p:=h
theorem MH(w:World)(n:Nat)(hn:n<=5)(c:FuncId)(he:∀args w,(callFunc c args).run prog w=.ok (.enter c args) w)(g1 g2:Nat)(l k:List Int)
  (hw:∀(s:Nat) W',s<2^n->Below w w W'->Calls prog c #[(s:Int),.pointer (some ⟨g1,0,none⟩),.pointer (some ⟨g2,0,none⟩)] W' fun e w2=>e=.returned (.bool (fX l s&&fX k s))/\Below W' W' w2):
  Calls prog 289 #[(n:Int),.func (.func c) #[] #[.pointer (some ⟨g1,0,none⟩),.pointer (some ⟨g2,0,none⟩)]] w fun e w'=>e=.returned (aG (vU l k (2^n):Int))/\Below w w w':=by
 have Y:(2:Nat)^n<=32:=Nat.pow_le_pow_right (n:=2) aQ hn;have F:((2^n:Nat):Int)=(2:Int)^n:=by simp
 obtain⟨N,hN⟩:∃N:Nat,N=2^n:=⟨_,rfl⟩;rw[<-hN]at hw Y F ⊢;have HW:=aH hw;clear hN hw;go_enter func289,ntmps289;go_wp2_with fail;go_loopw [5,10] (fun O i wr=>∃t:Nat,t<=N/\i=aG t/\O=aG (vU l k t:Int)/\Below w w wr) (fun _ i _=>N-(intOf i).toNat)
 case atStart=>exact⟨0,Nat.zero_le _,rfl,rfl,Below.refl _ _⟩
 case round=>
  obtain⟨t,ht,rfl,rfl,B⟩:=hrel;have S:=aoL l k t;by_cases hlt:t<N
  ·have M:(t:Int)<2^n:=by rw[<-F];exact_mod_cast hlt
   have z:=agH l k t;obtain⟨b,hb⟩:=aJ (vU l k t);rw[<-hb]at S z ⊢;have I:=aH (fun W=>fH t W aD);have J:=aH (fun W=>fH b W aD);have hcl:=HW.out t wr hlt B;by_cases K:bY b<bY t
   ·rw[decide_eq_true K,Bool.true_and]at z
    cases hP:(fX l t&&fX k t) with
    |true=>exact ag5
    |false=>exact ag5
   ·rw[decide_eq_false K,Bool.false_and]at z;have D:=aH z;clear z hb hcl;go_wp2_with (go_at_call 214;(first|(with_reducible refine(I.out _).mono ?_)|(with_reducible refine(J.out _).mono ?_));rintro e w1 ⟨rfl,rfl⟩);go_roundw
    case rel=>exact⟨t+1,by omega,by go_num,by rw[D.out];rfl,B⟩
    case measure=>simp[intOf];omega
  ·have M:¬(t:Int)<2^n:=by rw[<-F];exact_mod_cast hlt
   have Z:t=N:=aD;subst Z;go_wp2;go_ret;exact⟨rfl,B⟩
theorem AN(w:World)(n:Int)(v:Value)(l:List Int)(hv:aK w v l)(hl:l.length<=1048576)(m:Int)(u:Value)(k:List Int)(hu:aK w u k)(hk:k.length<=1048576):
  Calls prog 210 #[.agg #[n,v],.agg #[m,u]] w fun e w'=>e=.returned (.tuple #[(yU n l m k),.bool (fE n l m k)])/\Below w w w':=by
 obtain⟨a,c,rfl⟩:=hv.shape;obtain⟨b,d,rfl⟩:=hu.shape;have b0:∀(fn:Fn) (first cap:Array Value) (w:World),(Instr.makeFunc fn first cap).run prog w=.ok (.func fn first cap) w:=fun _ _ _ _=>rfl;go_enter func210,ntmps210;go_wp2_with fail;refine bU ?_;intro V O;have B:Below w w V:=gO O;have K:aP V w 27 #[n,aA a l.length c]:=gR O;have M:aP V (w.heap.size+1) 27 #[m,aA b k.length d]:=iP O;clear O;refine(xI V n _ l (hv.below B aI) hl m _ k (hu.below B aI) hk).mono ?_;rintro e w1 ⟨rfl,Z⟩;have K:=K.keep Z;have M:=M.keep Z;have B:=B.after Z B.size;have a9:=hv.below B aI;have a7:=hu.below B aI;have z2:=M.lt;have G1:=K.cell
 cases z:fE n l m k with
 |false=>
  have J:yU n l m k=0:=by unfold yU;rw[z];rfl
  have Y:=aH J;have S:=aH z;clear J z;go_wp2;go_ret2;exact⟨by rw[Y.out,S.out];rfl,B⟩
 |true=>
  obtain⟨rfl,N,rfl,a1,F,I,D,_,_⟩:=zQ z;have J:yU N l N k=(vU l k (2^N):Int):=by unfold yU;rw[z,if_pos rfl,F]
  have Y:=aH J;have S:=aH z;have hcl:=MH w1 N a1 290 IA w.heap.size (w.heap.size+1) l k (fun s W' hs hB=>
   ZT W' w.heap.size (w.heap.size+1) N N _ _ l k (a9.keep hB) (a7.keep hB) D I s aD (K.keep hB) (M.keep hB))
  have R:=aH hcl;clear J z F D hcl;go_wp2_with fail;refine R.out.mono ?_;rintro e w2 ⟨rfl,b2⟩;go_wp2;go_ret2;exact⟨by rw[Y.out,S.out];rfl,B.after b2 B.size⟩
theorem ajT(l k:List Int)(t:Nat):lI l k (t+1)=if rQ l k t<rQ l k (lI l k t) then t else lI l k t:=rfl
theorem abY(l k:List Int)(z:k.length=l.length)(t:Nat)(h:t<l.length):rQ l k t=l[t]+k[l.length-1-t]'aD:=by
 unfold rQ;rw[aS l t h,aS k _ aD]
theorem adS:∀n:Nat,n<=5->∀s:Nat,s<2^n->cO s (2^n-1)=0:=by decide +kernel
theorem P8(w:World)(N:Nat)(hN:N<=5)(n m:Int)(v u:Value)(l k:List Int)(hv:aK w v l)(hu:aK w u k)(hl:l.length=2^N)(a7:k.length=l.length)(a8:∀i,(hi:i<l.length)->-1000<=l[i]/\l[i]<=1000)(a6:∀i,(hi:i<k.length)->-1000<=k[i]/\k[i]<=1000):
  Calls prog 291 #[.agg #[n,v],.agg #[m,u],aG (2^N-1)] w fun e w'=>e=.returned (.tuple #[(rQ l k (lI l k (2^N))),aG (lI l k (2^N):Int)])/\Below w w w':=by
 have k1:=hv;have k0:=hu;have g5:(2:Nat)^N<=32:=Nat.pow_le_pow_right (n:=2) aQ hN;have c8:=Nat.two_pow_pos N;have M:((2^N-1:Nat):Int)=(2:Int)^N-1:=by rw[Int.ofNat_sub c8];simp
 obtain⟨a,bb,e5,c,rfl,h8,a1,hc,hb⟩:=hv.view prog 25 3 underlying25 aN;obtain⟨a',j6,j2,c',rfl,g0,O,b9,b7⟩:=hu.view prog 25 3 underlying25 aN;obtain⟨V,hV⟩:=aJ ((w.alloc (.cells #[n,aA a l.length c] 27)).alloc (.cells #[m,aA a' k.length c'] 27));have B:Below w w V:=gO hV;have K1:aP V w 27 #[n,aA a l.length c]:=gR hV;have K2:aP V (w.heap.size+1) 27 #[m,aA a' k.length c']:=iP hV;have Y:=aR hc hb B aI;have Z:=aR b9 b7 B aI;have G1:=K1.cell;have G2:=K2.cell;have R:=abY l k a7 0 aD;have c0:=Y 0 aD;have i0:=fun W=>a1 W 0 aD;have d0:=Z (l.length-1-0) aD;have j0:=fun W=>O W (l.length-1-0) aD;have g7:=a8 0 aD;have e4:=a6 (l.length-1-0) aD;have HB:=aH (And.intro a8 a6);have e7:=aH Y;have e8:=aH Z;have e9:=aH a1;have f0:=aH O;have K:=aH a7;obtain⟨F,hF⟩:∃F:Nat,F=2^N-1:=⟨_,rfl⟩;have c5:l.length=F+1:=aD;have b1:(2:Int)^N-1=(F:Int):=by rw[<-M,hF]
 have b4:2^N=F+1:=aD;have b6:∀s,s<=F->bits .andNot .i64 (s:Int) (F:Int)=0/\bits .andNot .i64 (F:Int) (s:Int)=((F-s:Nat):Int):=fun s hs=>by have h1:=xK s F aD aD;have h2:=xK F s aD aD;have h3:=adS N hN s aD;have h4:=OM N hN s aD;rw[<-hF]at h3 h4;rw[h3]at h1;rw[h4]at h2;exact⟨h1,h2⟩
 rw[b1,b4];simp only[show l.length-1-0=F by omega]at d0 j0 e4 R;obtain⟨x0,c9⟩:=aJ (l[0]);obtain⟨y0,e0⟩:=aJ (k[F]'aD);rw[<-c9]at c0 g7 R;rw[<-e0]at d0 e4 R;have f3:=aH R;have D:=aH c5;have e6:=aH b6;have e1:=amQ l k;have h7:F<32:=aD;clear hc b9 Y Z a1 O a7 a8 a6 R c9 e0 c5 b6 hl M hF b1 b4 hb b7;clear g5 c8;have c0:V.cell? ⟨bb,e5,none⟩=some (aG x0):=by simpa using c0
 have i0:∀W,(Instr.indexAt 25 (aA a l.length c) (aG 0)).run prog W=.ok (.pointer (some ⟨bb,e5,none⟩)) W:=fun W=>by simpa using i0 W
 go_enter func291,ntmps291;go_wp2_with fail;rw[<-hV];clear hV;go_quiet (fail);go_wp2_with fail;go_loopw [8,9,23] (fun sm pt i wr=>∃t:Nat,t<=F+1/\i=aG t/\sm=aG (rQ l k (lI l k t))/\pt=aG (lI l k t:Int)/\(-2000<=rQ l k (lI l k t)/\rQ l k (lI l k t)<=2000)/\∃q,wr=V.drewN q) (fun _ _ i _=>F+1-(intOf i).toNat)
 case atStart=>
  have hz:rQ l k (lI l k 0)=x0+y0:=by rw[show lI l k 0=0 from rfl];exact f3.out
  exact⟨0,Nat.zero_le _,rfl,by rw[hz],rfl,by rw[hz];omega,_,rfl⟩
 case round=>
  obtain⟨t,ht,rfl,rfl,rfl,b8,q,rfl⟩:=hrel;by_cases hlt:t<F+1
  ·have c6:(t:Int)<(F:Int)+1:=aD;have I:=e6.out t aD;have j8:=I.1;have f9:=I.2;have J:=abY l k K.out t (by rw[D.out];omega);have z:=ajT l k t;have ck:=e7.out t (by rw[D.out];omega);have ik:=fun W=>e9.out W t (by rw[D.out];omega);have dk:=e8.out (F-t) (by rw[K.out,D.out];omega);have jk:=fun W=>f0.out W (F-t) (by rw[K.out,D.out];omega);have lb:=HB.out.1 t (by rw[D.out];omega);have kb:=HB.out.2 (F-t) (by rw[K.out,D.out];omega);simp only[show l.length-1-t=F-t by rw[D.out];omega]at J;obtain⟨x,hx⟩:∃x,x=l[t]'(by rw[D.out];omega):=⟨_,rfl⟩;obtain⟨y,hy⟩:∃y,y=k[F-t]'(by rw[K.out,D.out];omega):=⟨_,rfl⟩;rw[<-hx]at ck lb J;rw[<-hy]at dk kb J;rw[J]at z;obtain⟨S,hS⟩:=aJ (rQ l k (lI l k t));obtain⟨p,hp⟩:=aJ (lI l k t);rw[<-hS]at z b8 ⊢;rw[<-hp]at z ⊢;obtain⟨Ft,b3⟩:=aJ (F-t);simp only[<-b3]at dk jk f9;have f4:=aH hS;have f2:=aH hp;have a9:=aH J;have b0:=aH z;clear hx hy hS hp J z I b3 c0 i0 d0 j0;by_cases c7:x+y<S
   ·go_wp2_with fail;go_quiet (fail);go_wp2_with fail;go_quiet (fail);go_wp2;go_roundw
    case rel=>
     have h1:lI l k (t+1)=t:=by rw[b0.out,if_pos c7]
     exact⟨t+1,by omega,by go_num,by rw[h1,a9.out],by rw[h1],by rw[h1,a9.out];omega,_,by first|rfl|simp⟩
    case measure=>simp[intOf];omega
   ·go_wp2_with fail;go_quiet (fail);go_wp2;go_roundw
    case rel=>
     have h1:lI l k (t+1)=p:=by rw[b0.out,if_neg aD]
     have h2:rQ l k p=S:=by rw[f4.out,f2.out]
     exact⟨t+1,by omega,by go_num,by rw[h1,h2],by rw[h1],by rw[h1,h2];exact b8,_,by first|rfl|simp⟩
    case measure=>simp[intOf];omega
  ·have c6:¬(t:Int)<(F:Int)+1:=aD;have g6:t=F+1:=aD;subst g6;go_wp2;go_ret2;exact⟨rfl,B.drewN' _⟩
theorem CY(w:World)(n:Int)(v:Value)(l:List Int)(hv:aK w v l)(hl:l.length<=1048576)(m:Int)(u:Value)(k:List Int)(hu:aK w u k)(hk:k.length<=1048576):
  Calls prog 211 #[.agg #[n,v],.agg #[m,u]] w fun e w'=>e=.returned (.tuple #[(FO n l m k),(BH n l m k),.bool (fE n l m k)])/\Below w w w':=by
 obtain⟨a,c,rfl⟩:=hv.shape;obtain⟨b,d,rfl⟩:=hu.shape;go_enter func211,ntmps211;go_wp2_with fail;refine bU ?_;intro V hV;have B:Below w w V:=gO hV;have Z:aP V w 27 #[n,aA a l.length c]:=gR hV;have I:aP V (w.heap.size+1) 27 #[m,aA b k.length d]:=iP hV;clear hV;refine(xI V n _ l (hv.below B aI) hl m _ k (hu.below B aI) hk).mono ?_;rintro e w1 ⟨rfl,b1⟩;have Z:=Z.keep b1;have I:=I.keep b1;have B:=B.after b1 B.size;have R:=hv.below B aI;have b5:=hu.below B aI;have z2:=I.lt
 cases z:fE n l m k with
 |false=>
  have S:FO n l m k=0:=by unfold FO;rw[z];rfl
  have Y:BH n l m k=0:=by unfold BH;rw[z];rfl
  have F:=aH (And.intro S Y);have HF:=aH z;clear S Y z;go_wp2;go_ret3;exact⟨by rw[F.out.1,F.out.2,HF.out];rfl,B⟩
 |true=>
  obtain⟨rfl,N,rfl,b0,D,b7,M,O,K⟩:=zQ z;have S:FO N l N k=rQ l k (lI l k (2^N)):=by unfold FO;rw[z,if_pos rfl,D]
  have Y:BH N l N k=(lI l k (2^N):Int):=by unfold BH;rw[z,if_pos rfl,D]
  have F:=aH (And.intro S Y);have HF:=aH z;have J:∀x:Ext w1,Calls prog 272 #[.agg #[(N:Int),aA a l.length c]] x.w fun e w'=>e=.returned (aG (2^N-1))/\Below x.w.heap.size x.w w':=fun x=>by have:=sF (N:Int) (aA a l.length c) l x.w (x.ints R) aD aD;rw[Int.toNat_natCast]at this;exact this
  have a6:=aH J;have a8:=aH (fun x:Ext w1=>P8 x.w N b0 (N:Int) (N:Int) (aA a l.length c) (aA b k.length d) l k (x.ints R) (x.ints b5) D M O K);have e0:∀y:Ext w1,y.w.cell? ⟨w.heap.size,0,none⟩=some (aG N):=fun y=>y.cell (Z.cell 0);have e1:∀y:Ext w1,y.w.cell? ⟨w.heap.size,1,none⟩=some (aA a l.length c):=fun y=>y.cell (Z.cell 1);have e2:∀y:Ext w1,y.w.cell? ⟨w.heap.size+1,0,none⟩=some (aG N):=fun y=>y.cell (I.cell 0);have e3:∀y:Ext w1,y.w.cell? ⟨w.heap.size+1,1,none⟩=some (aA b k.length d):=fun y=>y.cell (I.cell 1);clear S Y z D M O K J;go_wp2_with fail;refine bH _ aO aO ?_
  repeat(first|go_big_quiet_skip|(go_big_quiet_want;go_big_quiet_op;first|go_big_quiet_on|(apply Exists.intro;refine⟨fun _=>?_,?_⟩;(first|(go_at_call 272;exact bW (a6.out _))|(go_at_call 291;exact bW (a8.out _)));go_big_quiet_on)))
  refine wpQuiet_nil ?_;rintro w3 ⟨⟨w3,b3⟩,rfl⟩
  try dsimp only
  go_wp2;go_ret3;exact⟨by rw[F.out.1,F.out.2,HF.out];rfl,B.after b3 B.size⟩
def U0(n:Int)(l:List Int)(m:Int)(k:List Int):Int:=if fE n l m k then 4 else 0
def UX(n:Int)(l:List Int)(m:Int)(k:List Int):Int:=if fE n l m k then n else 0
def U1(n:Int)(l:List Int)(m:Int)(k:List Int):List Int:=if fE n l m k then l else []
def UY(n:Int)(l:List Int)(m:Int)(k:List Int):Int:=if fE n l m k then m else 0
def U2(n:Int)(l:List Int)(m:Int)(k:List Int):List Int:=if fE n l m k then k else []
def U3(n:Int)(l:List Int)(m:Int)(k:List Int):Int:=if fE n l m k then cT (yU n l m k) else 0
def UZ(n:Int)(l:List Int)(m:Int)(k:List Int):List Int:=if fE n l m k then eK (yU n l m k) else []
theorem aqL{n:Int}{l:List Int}{m:Int}{k:List Int}(h:fE n l m k=true):0<=yU n l m k/\yU n l m k<64:=by
 obtain⟨_,N,_,_,D,z,_⟩:=zQ h;have:=Nat.two_pow_pos N;have:=abE l k l.length aD;unfold yU;rw[if_pos h];omega
theorem ZI(w:World)(n:Int)(v:Value)(l:List Int)(hv:aK w v l)(hl:l.length<=1048576)(m:Int)(u:Value)(k:List Int)(hu:aK w u k)(hk:k.length<=1048576):
  Calls prog 141 #[.agg #[n,v],.agg #[m,u]] w fun e w'=>∃p0 i0 F p1 i1 q1 p2 i2 q2 p3 i3 q3,e=.returned (.tuple #[.agg #[(U0 n l m k),(UX n l m k),aA p0 i0 F,(UY n l m k),aA p1 i1 q1,aB,aA p2 i2 q2,(U3 n l m k),(BH n l m k),aA p3 i3 q3],.bool (fE n l m k)])/\bK 3 w.heap.size w' (aA p0 i0 F) (U1 n l m k)/\bK 3 w.heap.size w' (aA p1 i1 q1) (U2 n l m k)/\bK 3 w.heap.size w' (aA p2 i2 q2) []/\bK 3 w.heap.size w' (aA p3 i3 q3) (UZ n l m k)/\(aV (aA p0 i0 F) (aA p1 i1 q1)/\aV (aA p0 i0 F) (aA p2 i2 q2)/\aV (aA p0 i0 F) (aA p3 i3 q3)/\aV (aA p1 i1 q1) (aA p2 i2 q2)/\aV (aA p1 i1 q1) (aA p3 i3 q3)/\aV (aA p2 i2 q2) (aA p3 i3 q3))/\Below w w w':=by
 obtain⟨a,c,rfl⟩:=hv.shape;obtain⟨b,d,rfl⟩:=hu.shape;go_enter func141,ntmps141;go_wp2_with fail;refine bU ?_;intro V hV;have B:Below w w V:=by rw[hV];exact bl3 _ _ _ _
 have J:aP V w 27 #[n,aA a l.length c]:=by rw[hV];exact((aP.new _ _ _).alloc _).alloc _
 have K2:aP V (w.heap.size+1) 27 #[m,aA b k.length d]:=by rw[hV];have:=(aP.new (w.alloc (.cells #[n,aA a l.length c] 27)) 27 #[m,aA b k.length d]).alloc (.cells #[aB,aB,(),aB,(),aB,(),aB,aB,()] 34);simpa using this
 have I:aP V (w.heap.size+1+1) 34 #[aB,aB,(),aB,(),aB,(),aB,aB,()]:=by rw[hV];have:=aP.new ((w.alloc (.cells #[n,aA a l.length c] 27)).alloc (.cells #[m,aA b k.length d] 27)) 34 #[aB,aB,(),aB,(),aB,(),aB,aB,()];simpa using this
 clear hV;refine(AN V n _ l (hv.below B aI) hl m _ k (hu.below B aI) hk).mono ?_;rintro e w1 ⟨rfl,b1⟩;have J:=J.keep b1;have K2:=K2.keep b1;have I:=I.keep b1;have B:=B.after b1 B.size;have z3:=I.lt;have G1:=J.cell;have G2:=K2.cell;go_wp2_with fail;clear G1 G2;refine(CY w1 n _ l (hv.below B aI) hl m _ k (hu.below B aI) hk).mono ?_;rintro e wl ⟨rfl,b2⟩;have J:=J.keep b2;have K2:=K2.keep b2;have I:=I.keep b2;have B:=B.after b2 B.size;have z3:=I.lt
 cases z:fE n l m k with
 |false=>
  have K:U0 n l m k=0:=by unfold U0;rw[z];rfl
  have Y:UX n l m k=0:=by unfold UX;rw[z];rfl
  have M:U1 n l m k=[]:=by unfold U1;rw[z];rfl
  have f2:UY n l m k=0:=by unfold UY;rw[z];rfl
  have hM:U2 n l m k=[]:=by unfold U2;rw[z];rfl
  have hP:U3 n l m k=0:=by unfold U3;rw[z];rfl
  have hS:BH n l m k=0:=by unfold BH;rw[z];rfl
  have Z:UZ n l m k=[]:=by unfold UZ;rw[z];rfl
  have H:=aH (And.intro K (And.intro Y (And.intro M (And.intro f2 (And.intro hM (And.intro hP (And.intro hS Z)))))));have HB:=aH z;clear K Y M f2 hM hP hS Z z;have G3:=I.cell;have F3:=I.frozen;go_wp2;refine bN ?_;intro Wf D;have a9:aP Wf (w.heap.size+1+1) 34 #[aB,aB,(),aB,(),aB,(),aB,aB,()]:=by rw[D];have:=(((((((((I.set 0 (aG 0)).set 1 (aG 0)).set 2 (aA none 0 0)).set 3 (aG 0)).set 4 (aA none 0 0)).set 5 (aG 0)).set 6 (aA none 0 0)).set 7 (aG 0)).set 8 (aG 0)).set 9 (aA none 0 0);simpa using this
  have hg:wl.grownBy Wf (some (w.heap.size+1+1)):=by exact uH
  have Bf:Below w w Wf:=B.grown hg B.size jI;have Gf:=a9.cell;clear D G3 F3;obtain⟨K,Y,M,f2,hM,hP,hS,Z⟩:=H.out;exact bodyPost_ret (v:=.tuple #[.agg #[aB,aB,(),aB,(),aB,(),aB,aB,()],.bool false]) (by simp[results,results141,go_sem,Gf]) rfl
   ⟨none,0,0,none,0,0,none,0,0,none,0,0,by rw[K,Y,f2,hP,hS,HB.out],by rw[M];exact bK.nil _ _ _,by rw[hM];exact bK.nil _ _ _,bK.nil _ _ _,by rw[Z];exact bK.nil _ _ _,
    ⟨aV.nil _ _ _,aV.nil _ _ _,aV.nil _ _ _,aV.nil _ _ _,aV.nil _ _ _,aV.nil _ _ _⟩,Bf⟩
 |true=>
  have K:U0 n l m k=4:=by unfold U0;rw[z];rfl
  have Y:UX n l m k=n:=by unfold UX;rw[z];rfl
  have M:U1 n l m k=l:=by unfold U1;rw[z];rfl
  have f2:UY n l m k=m:=by unfold UY;rw[z];rfl
  have hM:U2 n l m k=k:=by unfold U2;rw[z];rfl
  have hP:U3 n l m k=cT (yU n l m k):=by unfold U3;rw[z];rfl
  have Z:UZ n l m k=eK (yU n l m k):=by unfold UZ;rw[z];rfl
  have j5:=aqL z;have H:=aH (And.intro K (And.intro Y (And.intro M (And.intro f2 (And.intro hM (And.intro hP Z))))));have HB:=aH z;obtain⟨L,j1⟩:=aJ (yU n l m k);obtain⟨S,k5⟩:=aJ (BH n l m k);simp only[<-j1,<-k5];rw[<-j1]at j5;have h9:=aH j1;have r8:=aH k5;have l4:=hv.below B aI;have t1:=hu.below B aI;have j7:aK wl.drew (aA a l.length c) l:=l4.keep (Below.refl _ _).drew;have t6:aK wl.drew (aA b k.length d) k:=t1.keep (Below.refl _ _).drew;have k0:=aH (uB wl.drew n (aA a l.length c) l j7 hl);have r4:=aH (fun(W:World) (h:Below wl.drew.heap.size wl.drew W)=>uB W m (aA b k.length d) k (t6.keep h) hk);have r9:=aH (fun W=>sR L W j5.1 aD);have r7:=aH (fun W=>kS L W j5.1 j5.2);have s3:aP wl.drew (w.heap.size+1) 27 #[m,aA b k.length d]:=K2;have g9:aP wl.drew (w.heap.size+1+1) 34 #[aB,aB,(),aB,(),aB,(),aB,aB,()]:=I;have Bd:Below w w wl.drew:=B.drew;have zd:w.heap.size+1+1<wl.drew.heap.size:=g9.lt;clear K Y M f2 hM hP Z z j1 k5;have G1:=J.cell;have G2:=K2.cell;go_wp2_with fail;go_region_law
   (first
    |(go_simp;go_at_call 208;with_reducible refine k0.out.mono ?_;rintro e w5 ⟨p5,i5,q5,rfl,o5,b5⟩;have s2:=s3.keep b5;have f8:=g9.keep b5;have u6:=s2.cell)
    |(go_simp;go_at_call 208;with_reducible refine(r4.out w5 b5).mono ?_;rintro e w6 ⟨p6,i6,q6,rfl,o6,b6⟩;have g8:=f8.keep b6)
    |(go_simp;go_at_call 214;refine(r9.out _).mono ?_;rintro e v8 ⟨rfl,rfl⟩)
    |(go_simp;go_at_call 215;refine(r7.out _).mono ?_;rintro e w7 ⟨p7,i7,q7,rfl,o7,b7⟩;have k2:=g8.keep b7;have u8:=k2.cell;have u3:=k2.frozen))
  all_goals
   have B5:=Bd.after b5 Bd.size;have B6:=B5.after b6 B5.size;have B7:=B6.after b7 B6.size;have y5:=b5.size;have y6:=b6.size;have y7:=b7.size;have x5:=o5.toW.mono (B':=w.heap.size+1+1+1) aD;have x6:=o6.toW.mono (B':=w.heap.size+1+1+1) aD;have x7:=o7.toW.mono (B':=w.heap.size+1+1+1) aD;have m6:aV (aA p5 i5 q5) (aA p6 i6 q6):=aV.of_lt o5.toW o6.toW aI;have m7:aV (aA p5 i5 q5) (aA p7 i7 q7):=aV.of_lt o5.toW o7.toW y6;have m8:aV (aA p6 i6 q6) (aA p7 i7 q7):=aV.of_lt o6.toW o7.toW aI;have x5:=(x5.keep b6).keep b7;have x6:=x6.keep b7;go_wp2;refine bN ?_;intro Wf D;have a9:aP Wf (w.heap.size+1+1) 34 #[aG 4,n,aA p5 i5 q5,m,aA p6 i6 q6,aB,(),(cT L),S,aA p7 i7 q7]:=by rw[D];have:=(((((((((k2.set 0 (aG 4)).set 1 (aG n)).set 2 (aA p5 i5 q5)).set 3 (aG m)).set 4 (aA p6 i6 q6)).set 5 (aG 0)).set 6 (aA none 0 0)).set 7 (aG (cT L))).set 8 (aG S)).set 9 (aA p7 i7 q7);simpa using this
   have hg:w7.grownBy Wf (some (w.heap.size+1+1)):=by exact uH
   have Bf:Below w w Wf:=B7.grown hg B7.size jI;have f5:=(x5.grow hg (fun q hq O=>by have:=Option.some.inj hq;have:=(x5.lt q O).1;omega)).mono (B':=w.heap.size) aD;have f6:=(x6.grow hg (fun q hq O=>by have:=Option.some.inj hq;have:=(x6.lt q O).1;omega)).mono (B':=w.heap.size) aD;have f7:=(x7.grow hg (fun q hq O=>by have:=Option.some.inj hq;have:=(x7.lt q O).1;omega)).mono (B':=w.heap.size) aD;have Gf:=a9.cell;clear D;obtain⟨K,Y,M,f2,hM,hP,Z⟩:=H.out;exact bodyPost_ret (v:=.tuple #[.agg #[aG 4,n,aA p5 i5 q5,m,aA p6 i6 q6,aB,(),(cT L),S,aA p7 i7 q7],.bool true]) (by simp[results,results141,go_sem,Gf]) rfl
    ⟨p5,i5,q5,p6,i6,q6,none,0,0,p7,i7,q7,by rw[K,Y,f2,hP,<-h9.out,<-r8.out,HB.out],by rw[M];exact f5,by rw[hM];exact f6,bK.nil _ _ _,by rw[Z,<-h9.out];exact f7,
     ⟨m6,(aV.nil _ _ _).symm,m7,(aV.nil _ _ _).symm,m8,aV.nil _ _ _⟩,Bf⟩
theorem afO:∀(n:Nat) (sets l:List Int) (sv lv:Value) (K:Int) (w:World) (B:Nat),sets.length=n->aK w sv sets->aM 3 B w lv l->B<=w.heap.size->(∀x∈sets,0<=x/\x<64)->(∀x∈l,0<=x/\x<64)->l.length+sets.length<=100->dL K ->
  Calls prog 322 #[sv,lv,K] w fun e w'=>∃ad i cp,e=.returned (.tuple #[aA ad i cp,.bool (eT lE sets l K).isSome])/\aM 3 B w' (aA ad i cp) ((eT lE sets l K).getD [])/\Below w w w':=by
 intro n
 induction n using Nat.strongRecOn with
 |_ n ih=>
  intro sets l sv lv K w B hn hv jS hB d0 c9 g9 hK;have f4:=hv;obtain⟨a,b,j3,c,rfl,f3,f0,hc,hb⟩:=hv.view prog 25 3 underlying25 aN;obtain⟨al,cl,rfl⟩:=jS.shape;have HN:=aH hn;clear hn;by_cases hk:(l.length:Int)=K
  ·have ht:((l.length:Int)==K)=true:=by simpa using hk
   have hr:=tC lE sets l K hk;have HR:=aH hr;clear hr hk;go_enter func322,ntmps322;go_wp2;go_ret2;exact⟨al,l.length,cl,by rw[HR.out];rfl,by rw[HR.out];exact jS,Below.refl _ _⟩
  ·have ht:((l.length:Int)==K)=false:=by simpa using hk
   have HK:=aH hk;have IH:=aH ih;have b6:=aH d0;have b5:=aH c9;clear hk ih d0 c9;go_enter func322,ntmps322;go_wp2_with fail;go_loopw [19] (fun i wr=>∃k:Nat,k<=sets.length/\i=aG k/\eT lE (sets.drop k) l K=eT lE sets l K/\Below w w wr) (fun i _=>sets.length-(intOf i).toNat)
   case atStart=>exact⟨0,Nat.zero_le _,rfl,rfl,Below.refl _ _⟩
   case round=>
    obtain⟨k,hk,rfl,N,Bw⟩:=hrel;have H:=aH N;clear N;have o:=jS.keep Bw;by_cases hlt:k<sets.length
    ·have c5:=aR hc hb Bw aI k hlt;have a9:=b6.out _ (List.getElem_mem hlt);have I:sets.drop k=sets[k]::sets.drop (k+1):=List.drop_eq_getElem_cons hlt;have z:=zE lE sets[k] (sets.drop (k+1)) l K HK.out;rw[<-I,H.out]at z;obtain⟨x,hx⟩:=aJ (sets[k]);rw[<-hx]at c5 a9 z;have hT:=IG l _ x wr o.ints b5.out a9;have HX:=aH hx;have g8:=fun W=>f0 W k hlt;have HT:=aH hT;clear I hx hT
     cases F:lE l x with
     |false=>
      rw[F]at z;have HF:=aH z;have HI:=aH F;clear z F;go_wp2_with (go_at_call 361;refine HT.out.mono ?_;rintro e w1 ⟨rfl,Y⟩;rw[HI.out]);go_roundw
      case rel=>exact⟨k+1,by omega,by go_num,by rw[HF.out];rfl,Bw.after Y Bw.size⟩
      case measure=>simp[intOf];omega
     |true=>
      rw[F]at z;have HI:=aH F;have e5:=aH z;clear F z;go_wp2_with (go_at_call 361;refine HT.out.mono ?_;rintro e w1 ⟨rfl,Y⟩;rw[HI.out]);have z:=e5.out;have Z:=o.keep Y;have D:=Bw.after Y Bw.size;obtain⟨a',c',d1,d2⟩:=f4.from 25 3 underlying25 aN (k+1) hlt
      have f2:((k+1:Nat):Int)=(k:Int)+1:=aD;simp only[f2,List.length_drop]at d1;have c6:(sets.drop (k+1)).length<n:=by have:=HN.out;rw[List.length_drop];omega
      have c8:l.length + [x].length<=17592186044416:=by simp;omega
      have c7:l.length<=1048576:=aD;have e0:dL x:=⟨by omega,by omega⟩;have J:∀y∈l++[x],0<=y/\y<64:=by
       intro y hy;rcases List.mem_append.1 hy with hy|hy
       ·exact b5.out y hy
       ·rw[List.mem_singleton]at hy;rw[hy];exact a9
      have M:∀(v2:Value) (O:World),aM 3 w1 O v2 (l++[x])->Below w1 w1 O->Calls prog 322 #[.slice a' (sets.drop (k+1)).length c',v2,K] O fun e w'=>
        ∃ad i cp,e=.returned (.tuple #[aA ad i cp,.bool (eT lE (sets.drop (k+1)) (l++[x]) K).isSome])/\aM 3 w1 w' (aA ad i cp) ((eT lE (sets.drop (k+1)) (l++[x]) K).getD [])/\Below O O w':=fun v2 O h1 h2=>
       IH.out _ c6 (sets.drop (k+1)) (l++[x]) _ v2 K O w1.heap.size rfl (d2.below (D.after h2 D.size) aI) h1 h2.size (fun y hy=>b6.out y (List.mem_of_mem_drop hy)) J (by rw[List.length_append,List.length_singleton,List.length_drop];omega) hK
      obtain⟨R,hR⟩:=aJ (eT lE (sets.drop (k+1)) (l++[x]) K);rw[<-hR]at z;simp only[<-hR,List.length_drop]at M;have a1:=aH M;have HL:=aH c7;have b4:=aH c8;have b8:=aH e0;have h0:(k:Int)+1<=(sets.length:Int):=aD;have yB:=D.size;have j2:IntKind.i64.wrap ((k:Int)+1)=(k:Int)+1:=by rw[IntKind.wrap_i64];omega
      clear M c7 c8 e0 hR J d2 c6 c5
      cases R with
      |some y=>
       have HF:=aH z;clear z;go_region_held3 (fun _=>True) (trivial)
        (first
         |(go_at_call 287;refine(kR _ l _ ?_ HL.out).mono ?_;(first|(with_reducible exact Z.ints.drew')|(with_reducible exact(Z.ints.alloc _).drew'));rintro e1 wc ⟨p1,i1,q1,rfl,oc,bc⟩;first|(have cx:=keep bc (BI w1 3 (aG x));have S:=(bF w1 (.cells #[x] 3)).drew.after bc (bF w1 (.cells #[x] 3)).drew.size;have ob:=oc.mono (bF w1 (.cells #[x] 3)).drew.size)|(have S:=(Below.refl w1.heap.size w1).drew.after bc aI;have ob:=oc.mono (Nat.le_refl w1.heap.size)))
         |(refine gE rfl _ _ _ rfl 3 underlying25 aN w1.heap.size (aA p1 i1 q1) l rfl (aA (some ⟨_,0,none⟩) 1 1) [x] rfl ?_ ?_ b4.out w1 ?_ aI ?_;(first|(with_reducible exact ob)|(with_reducible exact ob.alloc _));(refine aK.one ?_ b8.out;first|(with_reducible exact aZ _ _ _ _ _ rfl)|(with_reducible exact cx));(first|(with_reducible exact S)|(with_reducible exact S.alloc S.size _));(intro v2 O o2 b2 _))
         |(go_at_call 322;with_reducible refine(a1.out v2 O o2 b2).mono ?_;rintro e3 w3 ⟨p3,i3,q3,rfl,o3,b3⟩)
        )
       all_goals
        go_wp2;go_ret2;exact⟨p3,i3,q3,by rw[HF.out];rfl,by rw[HF.out];exact o3.mono aD,(D.after b2 D.size).after b3 (D.after b2 D.size).size⟩
      |none=>
       have HF:=aH z;clear z;go_region_held3 (fun _=>True) (trivial)
        (first
         |(go_at_call 287;refine(kR _ l _ ?_ HL.out).mono ?_;(first|(with_reducible exact Z.ints.drew')|(with_reducible exact(Z.ints.alloc _).drew'));rintro e1 wc ⟨p1,i1,q1,rfl,oc,bc⟩;first|(have cx:=keep bc (BI w1 3 (aG x));have S:=(bF w1 (.cells #[x] 3)).drew.after bc (bF w1 (.cells #[x] 3)).drew.size;have ob:=oc.mono (bF w1 (.cells #[x] 3)).drew.size)|(have S:=(Below.refl w1.heap.size w1).drew.after bc aI;have ob:=oc.mono (Nat.le_refl w1.heap.size)))
         |(refine gE rfl _ _ _ rfl 3 underlying25 aN w1.heap.size (aA p1 i1 q1) l rfl (aA (some ⟨_,0,none⟩) 1 1) [x] rfl ?_ ?_ b4.out w1 ?_ aI ?_;(first|(with_reducible exact ob)|(with_reducible exact ob.alloc _));(refine aK.one ?_ b8.out;first|(with_reducible exact aZ _ _ _ _ _ rfl)|(with_reducible exact cx));(first|(with_reducible exact S)|(with_reducible exact S.alloc S.size _));(intro v2 O o2 b2 _))
         |(go_at_call 322;with_reducible refine(a1.out v2 O o2 b2).mono ?_;rintro e3 w3 ⟨p3,i3,q3,rfl,o3,b3⟩)
        )
       all_goals
        go_wp2;go_roundw
        case rel=>exact⟨k+1,by omega,by go_num,by rw[HF.out];rfl,(D.after b2 D.size).after b3 (D.after b2 D.size).size⟩
        case measure=>simp[intOf];omega
    ·have hr:eT lE sets l K=none:=by rw[<-H.out,List.drop_eq_nil_of_le aD];exact BO _ _ _ HK.out
     have HR:=aH hr;clear hr;go_wp2;go_ret2;exact⟨none,0,0,by rw[HR.out];rfl,by rw[HR.out];exact aM.nil _ _ _,Bw⟩
end
end Go.Proofs.YtkdbkjjacgigiaaGreatDoor
