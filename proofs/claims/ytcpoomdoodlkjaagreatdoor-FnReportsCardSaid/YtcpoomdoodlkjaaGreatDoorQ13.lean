/- Lemmas for CardReports. No condition. -/
import Derived.Test.YtcpoomdoodlkjaaGreatDoorQ12
set_option maxRecDepth 100000
set_option maxHeartbeats 64000000
namespace Go.Proofs.YtcpoomdoodlkjaaGreatDoor
section
open Go.RowKit Go.G5 Go.Proofs.Tryz
theorem OA(l k:List Int)(t:Nat):qN l k (t+1)=if decide (bR (qN l k t)<bR t)&&(eO l t&&eO k t) then t else qN l k t:=rfl
theorem agL(l k:List Int)(t:Nat):qN l k t<=t:=by
 rcases Nat.eq_zero_or_pos t with rfl|h
 ·exact aO
 ·exact Nat.le_of_lt (MV l k t h)
theorem GY(w:World)(n:Nat)(hn:n<=5)(c:FuncId)(he:∀args w,(callFunc c args).run prog w=.ok (.enter c args) w)(g1 g2:Nat)(l k:List Int)
  (hw:∀(s:Nat) W',s<2^n->Below w w W'->Calls prog c #[(s:Int),.pointer (some ⟨g1,0,none⟩),.pointer (some ⟨g2,0,none⟩)] W' fun e w2=>e=.returned (.bool (eO l s&&eO k s))/\Below W' W' w2):
  Calls prog 200 #[(n:Int),.func (.func c) #[] #[.pointer (some ⟨g1,0,none⟩),.pointer (some ⟨g2,0,none⟩)]] w fun e w'=>e=.returned (aM (qN l k (2^n):Int))/\Below w w w':=by
 have Z:(2:Nat)^n<=32:=Nat.pow_le_pow_right (n:=2) aY hn;have K:((2^n:Nat):Int)=(2:Int)^n:=by simp
 obtain⟨N,hN⟩:∃N:Nat,N=2^n:=⟨_,rfl⟩;rw[<-hN]at hw Z K ⊢;have HW:=aN hw;clear hN hw;go_enter func200,ntmps200;go_wp2_with fail;go_loopw [5,10] (fun S i wr=>∃t:Nat,t<=N/\i=aM t/\S=aM (qN l k t:Int)/\Below w w wr) (fun _ i _=>N-(intOf i).toNat)
 case atStart=>exact⟨0,Nat.zero_le _,rfl,rfl,Below.refl _ _⟩
 case round=>
  obtain⟨t,ht,rfl,rfl,B⟩:=hrel;have Y:=agL l k t;by_cases hlt:t<N
  ·have O:(t:Int)<2^n:=by rw[<-K];exact_mod_cast hlt
   have z:=OA l k t;obtain⟨b,hb⟩:=aQ (qN l k t);rw[<-hb]at Y z ⊢;have F:=aN (fun W=>gI t W aK);have I:=aN (fun W=>gI b W aK);have hcl:=HW.out t wr hlt B;by_cases M:bR b<bR t
   ·rw[decide_eq_true M,Bool.true_and]at z
    cases R:(eO l t&&eO k t) with
    |true=>
     rw[R]at hcl z;have D:=aN z;clear R z hb;go_wp2_with (first
      |(go_at_call 165;(first|(with_reducible refine(F.out _).mono ?_)|(with_reducible refine(I.out _).mono ?_));rintro e w1 ⟨rfl,rfl⟩)
      |(go_at_fn c;refine hcl.mono ?_;rintro e w2 ⟨rfl,J⟩))
     go_roundw
     case rel=>exact⟨t+1,by omega,by go_num,by rw[D.out];rfl,B.after J B.size⟩
     case measure=>simp[intOf];omega
    |false=>
     rw[R]at hcl z;have D:=aN z;clear R z hb;go_wp2_with (first
      |(go_at_call 165;(first|(with_reducible refine(F.out _).mono ?_)|(with_reducible refine(I.out _).mono ?_));rintro e w1 ⟨rfl,rfl⟩)
      |(go_at_fn c;refine hcl.mono ?_;rintro e w2 ⟨rfl,J⟩))
     go_roundw
     case rel=>exact⟨t+1,by omega,by go_num,by rw[D.out];rfl,B.after J B.size⟩
     case measure=>simp[intOf];omega
   ·rw[decide_eq_false M,Bool.false_and]at z;have D:=aN z;clear z hb hcl;go_wp2_with (go_at_call 165;(first|(with_reducible refine(F.out _).mono ?_)|(with_reducible refine(I.out _).mono ?_));rintro e w1 ⟨rfl,rfl⟩);go_roundw
    case rel=>exact⟨t+1,by omega,by go_num,by rw[D.out];rfl,B⟩
    case measure=>simp[intOf];omega
  ·have O:¬(t:Int)<2^n:=by rw[<-K];exact_mod_cast hlt
   have a1:t=N:=aK;subst a1;go_wp2;go_ret;exact⟨rfl,B⟩
theorem GW(w:World)(n:Int)(v:Value)(l:List Int)(hv:aR w v l)(hl:l.length<=1048576)(m:Int)(u:Value)(k:List Int)(hu:aR w u k)(hk:k.length<=1048576):
  Calls prog 93 #[.agg #[n,v],.agg #[m,u]] w fun e w'=>e=.returned (.tuple #[(xU n l m k),.bool (fA n l m k)])/\Below w w w':=by
 obtain⟨a,c,rfl⟩:=hv.shape;obtain⟨b,d,rfl⟩:=hu.shape;have b3:∀(fn:Fn) (first cap:Array Value) (w:World),(Instr.makeFunc fn first cap).run prog w=.ok (.func fn first cap) w:=fun _ _ _ _=>rfl;go_enter func93,ntmps93;go_wp2_with fail;refine bH ?_;intro V O;have B:Below w w V:=gD O;have K:aU V w 26 #[n,aI a l.length c]:=gO O;have M:aU V (w.heap.size+1) 26 #[m,aI b k.length d]:=gY O;clear O;refine(vP V n _ l (hv.below B aO) hl m _ k (hu.below B aO) hk).mono ?_;rintro e w1 ⟨rfl,Z⟩;have K:=K.keep Z;have M:=M.keep Z;have B:=B.after Z B.size;have a9:=hv.below B aO;have a7:=hu.below B aO;have z2:=M.lt;have G1:=K.cell
 cases z:fA n l m k with
 |false=>
  have J:xU n l m k=0:=by unfold xU;rw[z];rfl
  have Y:=aN J;have S:=aN z;clear J z;go_wp2;go_ret2;exact⟨by rw[Y.out,S.out];rfl,B⟩
 |true=>
  obtain⟨rfl,N,rfl,a1,F,I,D,_,_⟩:=pX z;have J:xU N l N k=(qN l k (2^N):Int):=by unfold xU;rw[z,if_pos rfl,F]
  have Y:=aN J;have S:=aN z;have hcl:=GY w1 N a1 201 CV w.heap.size (w.heap.size+1) l k (fun s W' hs hB=>U8 W' w.heap.size (w.heap.size+1) N N _ _ l k (a9.keep hB) (a7.keep hB) D I s aK (K.keep hB) (M.keep hB));have R:=aN hcl;clear J z F D hcl;go_wp2_with fail;refine R.out.mono ?_;rintro e w2 ⟨rfl,b2⟩;go_wp2;go_ret2;exact⟨by rw[Y.out,S.out];rfl,B.after b2 B.size⟩
theorem GX(w:World)(n:Int)(v:Value)(l:List Int)(hv:aR w v l)(hl:l.length<=1048576)(m:Int)(u:Value)(k:List Int)(hu:aR w u k)(hk:k.length<=1048576):
  Calls prog 97 #[.agg #[n,v],.agg #[m,u]] w fun e w'=>e=.returned (.tuple #[(xU n l m k),.bool (fA n l m k)])/\Below w w w':=by
 have e8:=hv;have e7:=hu;obtain⟨a,bb,g5,c,rfl,f3,b3,hc,hb⟩:=hv.view prog 24 3 underlying24 aS;obtain⟨a',g0,f7,c',rfl,e5,K,O,a7⟩:=hu.view prog 24 3 underlying24 aS;go_enter func97,ntmps97;go_wp2_with fail;refine bH ?_;intro V hV;have B:Below w w V:=gD hV;have K1:aU V w 26 #[n,aI a l.length c]:=gO hV;have K2:aU V (w.heap.size+1) 26 #[m,aI a' k.length c']:=gY hV;clear hV;refine(vQ V n _ l (e8.below B aO) hl m _ k (e7.below B aO) hk).mono ?_;rintro e w1 ⟨rfl,b1⟩;have K1:=K1.keep b1;have K2:=K2.keep b1;have B:=B.after b1 B.size;have z2:=K2.lt;have R:=aW hc hb B aO;have S:=aW O a7 B aO;have G1:=K1.cell;have G2:=K2.cell
 cases Y:fA n l m k with
 |false=>
  have M:xU n l m k=0:=by unfold xU;rw[Y];rfl
  have HX:=aN M;have HF:=aN Y;clear M Y hc O R S;go_wp2;go_ret2;exact⟨by rw[HX.out,HF.out];rfl,B⟩
 |true=>
  obtain⟨rfl,N,rfl,g3,b6,f2,b5,b7,b4⟩:=pX Y;have M:xU N l N k=(qN l k l.length:Int):=by unfold xU;rw[Y,if_pos rfl]
  have h1:=aeD l k;have HX:=aN M;have HF:=aN Y;have F:=aN b5;have c9:=aN R;have d0:=aN S;have d6:=aN b3;have a6:=aN K;have HB:=aN (And.intro b7 b4);have c5:1<=l.length:=by rw[b6];exact Nat.two_pow_pos N
  clear M Y b6 b5 hc O R S b3 K hb a7 b7 b4;go_wp2_with fail;go_loop [6,7] (fun e0 i=>∃t:Nat,1<=t/\t<=l.length/\i=aM t/\e0=aM (qN l k t:Int)) (fun _ i=>l.length-(intOf i).toNat)
  case atStart=>exact⟨1,aO,c5,rfl,by rw[h1];rfl⟩
  case round=>
   obtain⟨t,e6,ht,rfl,rfl⟩:=hrel;have b8:=MV l k t e6;by_cases hlt:t<l.length
   ·have b9:(t:Int)<(l.length:Int):=aK;have z:=OA l k t;have ck:=c9.out t hlt;have e4:=d0.out t (by rw[F.out];exact hlt);have ik:=fun W=>d6.out W t hlt;have g4:=fun W=>a6.out W t (by rw[F.out];exact hlt);have a1:eO l t=(l[t]==(bR t:Int)):=by unfold eO;rw[aX l t hlt];exact(rY _ _).symm
    have Z:eO k t=(k[t]'(by rw[F.out];exact hlt)==(bR t:Int)):=by unfold eO;rw[aX k t (by rw[F.out];exact hlt)];exact(rY _ _).symm
    obtain⟨x,M⟩:=aQ (l[t]);obtain⟨y,hy⟩:∃y,y=k[t]'(by rw[F.out];exact hlt):=⟨_,rfl⟩;rw[<-M]at ck a1;rw[<-hy]at e4 Z;rw[a1,Z]at z;obtain⟨b,a8⟩:=aQ (qN l k t);rw[<-a8]at b8 z ⊢;have I:=aN (fun W=>eP t W aK);have J:=aN (fun W=>eP b W aK);obtain⟨P,hP⟩:=aQ (bR t);obtain⟨Q,hQ⟩:=aQ (bR b);simp only[<-hP]at I z;simp only[<-hQ]at J z;clear M hy a1 Z a8 hP hQ;by_cases a9:Q<P
    ·rw[decide_eq_true a9,Bool.true_and]at z;have b0:(Q:Int)<(P:Int):=aK
     cases e1:(x==(P:Int)) with
     |false=>
      rw[e1]at z;have D:=aN z;clear z;go_wp2_with (go_at_call 154;(first|(with_reducible refine(I.out _).mono ?_)|(with_reducible refine(J.out _).mono ?_));rintro e w2 ⟨rfl,rfl⟩);go_round
      case rel=>exact⟨t+1,by omega,by omega,by go_num,by rw[D.out];rfl⟩
      case measure=>simp[intOf];omega
     |true=>
      cases e2:(y==(P:Int)) with
      |false=>
       rw[e1,e2]at z;have D:=aN z;clear z;go_wp2_with (go_at_call 154;(first|(with_reducible refine(I.out _).mono ?_)|(with_reducible refine(J.out _).mono ?_));rintro e w2 ⟨rfl,rfl⟩);go_round
       case rel=>exact⟨t+1,by omega,by omega,by go_num,by rw[D.out];rfl⟩
       case measure=>simp[intOf];omega
      |true=>
       rw[e1,e2]at z;have D:=aN z;clear z;go_wp2_with (go_at_call 154;(first|(with_reducible refine(I.out _).mono ?_)|(with_reducible refine(J.out _).mono ?_));rintro e w2 ⟨rfl,rfl⟩);go_round
       case rel=>exact⟨t+1,by omega,by omega,by go_num,by rw[D.out];rfl⟩
       case measure=>simp[intOf];omega
    ·rw[decide_eq_false a9,Bool.false_and]at z;have b0:¬(Q:Int)<(P:Int):=aK;have D:=aN z;clear z;go_wp2_with (go_at_call 154;(first|(with_reducible refine(I.out _).mono ?_)|(with_reducible refine(J.out _).mono ?_));rintro e w2 ⟨rfl,rfl⟩);go_round
     case rel=>exact⟨t+1,by omega,by omega,by go_num,by rw[D.out];rfl⟩
     case measure=>simp[intOf];omega
   ·have b9:¬(t:Int)<(l.length:Int):=aK;have c6:t=l.length:=aK;have HT:=aN c6;clear c6;go_wp2;go_ret2;exact⟨by rw[HX.out,HF.out,<-HT.out];rfl,B⟩
theorem OX(l k:List Int)(t:Nat):iQ l k (t+1)=if pP l k t<pP l k (iQ l k t) then t else iQ l k t:=rfl
theorem xJ(l k:List Int)(z:k.length=l.length)(t:Nat)(h:t<l.length):pP l k t=l[t]+k[l.length-1-t]'aK:=by
 unfold pP;rw[aX l t h,aX k _ aK]
theorem ZO:∀n:Nat,n<=5->∀s:Nat,s<2^n->cV s (2^n-1)=0:=by decide +kernel
theorem aaA:∀n:Nat,n<=5->∀s:Nat,s<2^n->s &&& (2^n-1)=s:=by decide +kernel
theorem MX(w:World)(N:Nat)(hN:N<=5)(n m:Int)(v u:Value)(l k:List Int)(hv:aR w v l)(hu:aR w u k)(hl:l.length=2^N)(a7:k.length=l.length)(a8:∀i,(hi:i<l.length)->-1000<=l[i]/\l[i]<=1000)(a6:∀i,(hi:i<k.length)->-1000<=k[i]/\k[i]<=1000):
  Calls prog 202 #[.agg #[n,v],.agg #[m,u],aM (2^N-1)] w fun e w'=>e=.returned (.tuple #[(pP l k (iQ l k (2^N))),aM (iQ l k (2^N):Int)])/\Below w w w':=by
 have j3:=hv;have j2:=hu;have f7:(2:Nat)^N<=32:=Nat.pow_le_pow_right (n:=2) aY hN;have c8:=Nat.two_pow_pos N;have M:((2^N-1:Nat):Int)=(2:Int)^N-1:=by rw[Int.ofNat_sub c8];simp
 obtain⟨a,bb,d7,c,rfl,g6,a1,hc,hb⟩:=hv.view prog 24 3 underlying24 aS;obtain⟨a',i6,h7,c',rfl,f5,O,b9,b7⟩:=hu.view prog 24 3 underlying24 aS;obtain⟨V,hV⟩:=aQ ((w.alloc (.cells #[n,aI a l.length c] 26)).alloc (.cells #[m,aI a' k.length c'] 26));have B:Below w w V:=gD hV;have K1:aU V w 26 #[n,aI a l.length c]:=gO hV;have K2:aU V (w.heap.size+1) 26 #[m,aI a' k.length c']:=gY hV;have Y:=aW hc hb B aO;have Z:=aW b9 b7 B aO;have G1:=K1.cell;have G2:=K2.cell;have R:=xJ l k a7 0 aK;have c0:=Y 0 aK;have i0:=fun W=>a1 W 0 aK;have d0:=Z (l.length-1-0) aK;have j0:=fun W=>O W (l.length-1-0) aK;have f9:=a8 0 aK;have d6:=a6 (l.length-1-0) aK;have HB:=aN (And.intro a8 a6);have d9:=aN Y;have e0:=aN Z;have e4:=aN a1;have e5:=aN O;have K:=aN a7;obtain⟨F,hF⟩:∃F:Nat,F=2^N-1:=⟨_,rfl⟩;have c5:l.length=F+1:=aK;have b1:(2:Int)^N-1=(F:Int):=by rw[<-M,hF]
 have b4:2^N=F+1:=aK;have b6:∀s,s<=F->bits .andNot .i64 (s:Int) (F:Int)=0/\bits .andNot .i64 (F:Int) (s:Int)=((F-s:Nat):Int):=fun s hs=>by have h1:=vS s F aK aK;have h2:=vS F s aK aK;have h3:=ZO N hN s aK;have h4:=J8 N hN s aK;rw[<-hF]at h3 h4;rw[h3]at h1;rw[h4]at h2;exact⟨h1,h2⟩
 rw[b1,b4];simp only[show l.length-1-0=F by omega]at d0 j0 d6 R;obtain⟨x0,c9⟩:=aQ (l[0]);obtain⟨y0,d5⟩:=aQ (k[F]'aK);rw[<-c9]at c0 f9 R;rw[<-d5]at d0 d6 R;have e7:=aN R;have D:=aN c5;have d8:=aN b6;have e1:=T6 l k;have g5:F<32:=aK;clear hc b9 Y Z a1 O a7 a8 a6 R c9 d5 c5 b6 hl M hF b1 b4 hb b7;clear f7 c8;have c0:V.cell? ⟨bb,d7,none⟩=some (aM x0):=by simpa using c0
 have i0:∀W,(Instr.indexAt 24 (aI a l.length c) (aM 0)).run prog W=.ok (.pointer (some ⟨bb,d7,none⟩)) W:=fun W=>by simpa using i0 W
 go_enter func202,ntmps202;go_wp2_with fail;rw[<-hV];clear hV;go_quiet (fail);go_wp2_with fail;go_loopw [8,9,23] (fun sm pt i wr=>∃t:Nat,t<=F+1/\i=aM t/\sm=aM (pP l k (iQ l k t))/\pt=aM (iQ l k t:Int)/\(-2000<=pP l k (iQ l k t)/\pP l k (iQ l k t)<=2000)/\∃q,wr=V.drewN q) (fun _ _ i _=>F+1-(intOf i).toNat)
 case atStart=>
  have hz:pP l k (iQ l k 0)=x0+y0:=by rw[show iQ l k 0=0 from rfl];exact e7.out
  exact⟨0,Nat.zero_le _,rfl,by rw[hz],rfl,by rw[hz];omega,_,rfl⟩
 case round=>
  obtain⟨t,ht,rfl,rfl,rfl,b8,q,rfl⟩:=hrel;by_cases hlt:t<F+1
  ·have c6:(t:Int)<(F:Int)+1:=aK;have I:=d8.out t aK;have i8:=I.1;have f4:=I.2;have J:=xJ l k K.out t (by rw[D.out];omega);have z:=OX l k t;have ck:=d9.out t (by rw[D.out];omega);have ik:=fun W=>e4.out W t (by rw[D.out];omega);have dk:=e0.out (F-t) (by rw[K.out,D.out];omega);have jk:=fun W=>e5.out W (F-t) (by rw[K.out,D.out];omega);have lb:=HB.out.1 t (by rw[D.out];omega);have kb:=HB.out.2 (F-t) (by rw[K.out,D.out];omega);simp only[show l.length-1-t=F-t by rw[D.out];omega]at J;obtain⟨x,hx⟩:∃x,x=l[t]'(by rw[D.out];omega):=⟨_,rfl⟩;obtain⟨y,hy⟩:∃y,y=k[F-t]'(by rw[K.out,D.out];omega):=⟨_,rfl⟩;rw[<-hx]at ck lb J;rw[<-hy]at dk kb J;rw[J]at z;obtain⟨S,hS⟩:=aQ (pP l k (iQ l k t));obtain⟨p,hp⟩:=aQ (iQ l k t);rw[<-hS]at z b8 ⊢;rw[<-hp]at z ⊢;obtain⟨Ft,b3⟩:=aQ (F-t);simp only[<-b3]at dk jk f4;have e8:=aN hS;have e6:=aN hp;have a9:=aN J;have b0:=aN z;clear hx hy hS hp J z I b3 c0 i0 d0 j0;by_cases c7:x+y<S
   ·go_wp2_with fail;go_quiet (fail);go_wp2_with fail;go_quiet (fail);go_wp2;go_roundw
    case rel=>
     have h1:iQ l k (t+1)=t:=by rw[b0.out,if_pos c7]
     exact⟨t+1,by omega,by go_num,by rw[h1,a9.out],by rw[h1],by rw[h1,a9.out];omega,_,by first|rfl|simp⟩
    case measure=>simp[intOf];omega
   ·go_wp2_with fail;go_quiet (fail);go_wp2;go_roundw
    case rel=>
     have h1:iQ l k (t+1)=p:=by rw[b0.out,if_neg aK]
     have h2:pP l k p=S:=by rw[e8.out,e6.out]
     exact⟨t+1,by omega,by go_num,by rw[h1,h2],by rw[h1],by rw[h1,h2];exact b8,_,by first|rfl|simp⟩
    case measure=>simp[intOf];omega
  ·have c6:¬(t:Int)<(F:Int)+1:=aK;have f8:t=F+1:=aK;subst f8;go_wp2;go_ret2;exact⟨rfl,B.drewN' _⟩
theorem VS(w:World)(N:Nat)(hN:N<=5)(n m:Int)(v u:Value)(l k:List Int)(hv:aR w v l)(hu:aR w u k)(hl:l.length=2^N)(a6:k.length=l.length)(a7:∀i,(hi:i<l.length)->-1000<=l[i]/\l[i]<=1000)(a1:∀i,(hi:i<k.length)->-1000<=k[i]/\k[i]<=1000):
  Calls prog 208 #[.agg #[n,v],.agg #[m,u],aM (2^N-1)] w fun e w'=>e=.returned (aM (iQ l k (2^N):Int))/\Below w w w':=by
 have j6:=hv;have j5:=hu;have f5:(2:Nat)^N<=32:=Nat.pow_le_pow_right (n:=2) aY hN;have d6:=Nat.two_pow_pos N;have J:((2^N-1:Nat):Int)=(2:Int)^N-1:=by rw[Int.ofNat_sub d6];simp
 obtain⟨a,bb,e6,c,rfl,g8,Z,hc,hb⟩:=hv.view prog 24 3 underlying24 aS;obtain⟨a',i8,h9,c',rfl,f3,K,c7,c6⟩:=hu.view prog 24 3 underlying24 aS;obtain⟨V,hV⟩:=aQ ((w.alloc (.cells #[n,aI a l.length c] 26)).alloc (.cells #[m,aI a' k.length c'] 26));have B:Below w w V:=gD hV;have K1:aU V w 26 #[n,aI a l.length c]:=gO hV;have K2:aU V (w.heap.size+1) 26 #[m,aI a' k.length c']:=gY hV;have S:=aW hc hb B aO;have Y:=aW c7 c6 B aO;have G1:=K1.cell;have G2:=K2.cell;have M:=xJ l k a6 0 aK;have c0:=S 0 aK;have i0:=fun W=>Z W 0 aK;have d0:=Y (l.length-1-0) aK;have j0:=fun W=>K W (l.length-1-0) aK;have f9:=a7 0 aK;have e5:=a1 (l.length-1-0) aK;have HB:=aN (And.intro a7 a1);have a9:=aN S;have b0:=aN Y;have b1:=aN Z;have b3:=aN K;have D:=aN a6;obtain⟨F,hF⟩:∃F:Nat,F=2^N-1:=⟨_,rfl⟩;have c8:l.length=F+1:=aK;have b5:(2:Int)^N-1=(F:Int):=by rw[<-J,hF]
 have b8:2^N=F+1:=aK;have c5:∀s,s<=F->bits .and .i64 (s:Int) (F:Int)=(s:Int):=fun s hs=>by have h1:=IQ s F aK aK;have h3:=aaA N hN s aK;rw[<-hF]at h3;rw[h3]at h1;exact h1
 rw[b5,b8];simp only[show l.length-1-0=F by omega]at d0 j0 e5 M;obtain⟨x0,d8⟩:=aQ (l[0]);obtain⟨y0,e0⟩:=aQ (k[F]'aK);rw[<-d8]at c0 f9 M;rw[<-e0]at d0 e5 M;have i1:=aN M;have z:=aN c8;have e8:=aN c5;have e1:=T6 l k;have g6:F<32:=aK;clear hc c7 S Y Z K a6 a7 a1 M d8 e0 c8 c5 hl J hF b5 b8 hb c6;clear f5 d6;have c0:V.cell? ⟨bb,e6,none⟩=some (aM x0):=by simpa using c0
 have i0:∀W,(Instr.indexAt 24 (aI a l.length c) (aM 0)).run prog W=.ok (.pointer (some ⟨bb,e6,none⟩)) W:=fun W=>by simpa using i0 W
 go_enter func208,ntmps208;go_wp2_with fail;rw[<-hV];clear hV c0 i0 d0 j0;go_loopw [7,8] (fun e9 i wr=>∃t:Nat,1<=t/\t<=F+1/\i=aM t/\e9=aM (iQ l k t:Int)/\∃q,wr=V.drewN q) (fun _ i _=>F+1-(intOf i).toNat)
 case atStart=>exact⟨1,aO,by omega,rfl,by rw[e1];rfl,0,rfl⟩
 case round=>
  obtain⟨t,f6,ht,rfl,rfl,q,rfl⟩:=hrel;have f4:=NG l k t f6;by_cases hlt:t<F+1
  ·have c9:(t:Int)<=(F:Int):=aK;have j3:=e8.out t aK;have R:=xJ l k D.out t (by rw[z.out];omega);have I:=OX l k t;obtain⟨p,hp⟩:=aQ (iQ l k t);rw[<-hp]at I f4 ⊢;have O:=xJ l k D.out p (by rw[z.out];omega);have ck:=a9.out t (by rw[z.out];omega);have ik:=fun W=>b1.out W t (by rw[z.out];omega);have dk:=b0.out (F-t) (by rw[D.out,z.out];omega);have jk:=fun W=>b3.out W (F-t) (by rw[D.out,z.out];omega);have lb:=HB.out.1 t (by rw[z.out];omega);have kb:=HB.out.2 (F-t) (by rw[D.out,z.out];omega);have cp:=a9.out p (by rw[z.out];omega);have ip:=fun W=>b1.out W p (by rw[z.out];omega);have dp:=b0.out (F-p) (by rw[D.out,z.out];omega);have jp:=fun W=>b3.out W (F-p) (by rw[D.out,z.out];omega);have g0:=HB.out.1 p (by rw[z.out];omega);have f8:=HB.out.2 (F-p) (by rw[D.out,z.out];omega);simp only[show l.length-1-t=F-t by rw[z.out];omega]at R;simp only[show l.length-1-p=F-p by rw[z.out];omega]at O;obtain⟨x,hx⟩:∃x,x=l[t]'(by rw[z.out];omega):=⟨_,rfl⟩;obtain⟨y,hy⟩:∃y,y=k[F-t]'(by rw[D.out,z.out];omega):=⟨_,rfl⟩;obtain⟨xp,d9⟩:∃x,x=l[p]'(by rw[z.out];omega):=⟨_,rfl⟩;obtain⟨yp,e4⟩:∃y,y=k[F-p]'(by rw[D.out,z.out];omega):=⟨_,rfl⟩;rw[<-hx]at ck lb R;rw[<-hy]at dk kb R;rw[<-d9]at cp g0 O;rw[<-e4]at dp f8 O;rw[R,O]at I;have d7:(F:Int)-(t:Int)=((F-t:Nat):Int):=aK;have a8:(F:Int)-(p:Int)=((F-p:Nat):Int):=aK;obtain⟨Ft,b7⟩:=aQ (F-t);obtain⟨Fp,b6⟩:=aQ (F-p);simp only[<-b7]at dk jk d7;simp only[<-b6]at dp jp a8;have b4:=aN I;clear hx hy d9 e4 R O I b7 b6 hp;by_cases d5:x+y<xp+yp
   ·go_wp2_with fail;go_quiet (fail);go_wp2;go_roundw
    case rel=>
     have h1:iQ l k (t+1)=t:=by rw[b4.out,if_pos d5]
     exact⟨t+1,by omega,by omega,by go_num,by rw[h1],_,by first|rfl|simp⟩
    case measure=>simp[intOf];omega
   ·go_wp2_with fail;go_quiet (fail);go_wp2;go_roundw
    case rel=>
     have h1:iQ l k (t+1)=p:=by rw[b4.out,if_neg aK]
     exact⟨t+1,by omega,by omega,by go_num,by rw[h1],_,by first|rfl|simp⟩
    case measure=>simp[intOf];omega
  ·have c9:¬(t:Int)<=(F:Int):=aK;have f7:t=F+1:=aK;subst f7;go_wp2;go_ret;exact⟨rfl,B.drewN' _⟩
end
end Go.Proofs.YtcpoomdoodlkjaaGreatDoor
