/- Lemmas for CardClaims, part 12 of 52. No condition. -/
import Derived.Test.YtipejodijbjpcaaGreatDoorQ11
set_option maxRecDepth 100000
set_option maxHeartbeats 64000000
namespace Go.Proofs.YtipejodijbjpcaaGreatDoor
section
open Go.RowKit Go.G5
theorem vW(l k:List Int)(t:Nat):fJ l k (t+1)=if decide (aY (fJ l k t)<aY t)&&(bH l t&&bH k t) then t else fJ l k t:=rfl
theorem UW(l k:List Int)(t:Nat):fJ l k t<=t:=by
 rcases Nat.eq_zero_or_pos t with rfl|h
 ·exact Nat.le_refl _
 ·exact Nat.le_of_lt (qQ l k t h)
theorem yP(w:World)(n:Nat)(hn:n<=5)(c:FuncId)(he:∀args w,(callFunc c args).run Tryz.prog w=.ok (.enter c args) w)(Z g2:Nat)(l k:List Int)
  (Y:∀(s:Nat) W',s<2^n->Below w.heap.size w W'->Calls Tryz.prog c #[.int .i64 (s:Int),.pointer (some ⟨Z,0,none⟩),.pointer (some ⟨g2,0,none⟩)] W' fun e w2=>e=.returned (.bool (bH l s&&bH k s))/\Below W'.heap.size W' w2):
  Calls Tryz.prog 280 #[.int .i64 (n:Int),.func (.func c) #[] #[.pointer (some ⟨Z,0,none⟩),.pointer (some ⟨g2,0,none⟩)]] w fun e w'=>e=.returned (.int .i64 (fJ l k (2^n):Int))/\Below w.heap.size w w':=by
 have S:(2:Nat)^n<=32:=Nat.pow_le_pow_right (n:=2) (by decide) hn;have K:((2^n:Nat):Int)=(2:Int)^n:=by simp
 obtain⟨N,hN⟩:∃N:Nat,N=2^n:=⟨_,rfl⟩;rw[<-hN]at Y S K ⊢;have HW:=Lib.hid Y;clear hN Y;go_enter Tryz.func280,Tryz.ntmps280;go_wp2_with fail;go_loopw [5,10] (fun Q i wr=>∃t:Nat,t<=N/\i=.int .i64 t/\Q=.int .i64 (fJ l k t:Int)/\Below w.heap.size w wr) (fun _ i _=>N-(intOf i).toNat)
 case atStart=>exact⟨0,Nat.zero_le _,rfl,rfl,Below.refl _ _⟩
 case round=>
  obtain⟨t,ht,rfl,rfl,B⟩:=hrel;have R:=UW l k t
  by_cases hlt:t<N
  ·have M:(t:Int)<2^n:=by rw[<-K];exact_mod_cast hlt
   have o:=vW l k t;obtain⟨b,hb⟩:∃b,b=fJ l k t:=⟨_,rfl⟩;rw[<-hb]at R o ⊢;have D:=Lib.hid (fun W=>nP t W (by omega));have F:=Lib.hid (fun W=>nP b W (by omega));have A:=HW.out t wr hlt B
   by_cases L:aY b<aY t
   ·rw[decide_eq_true L,Bool.true_and]at o
    cases O:(bH l t&&bH k t) with
    |true=>
     rw[O]at A o;have z:=Lib.hid o;clear O o hb;go_wp2_with (first
      |(go_at_call 170;(first|(with_reducible refine(D.out _).mono ?_)|(with_reducible refine(F.out _).mono ?_));rintro e w1 ⟨rfl,rfl⟩)
      |(go_at_fn c;refine A.mono ?_;rintro e w2 ⟨rfl,I⟩))
     go_roundw
     case rel=>exact⟨t+1,by omega,by go_num,by rw[z.out];rfl,B.after I B.size⟩
     case measure=>simp[intOf];omega
    |false=>
     rw[O]at A o;have z:=Lib.hid o;clear O o hb;go_wp2_with (first
      |(go_at_call 170;(first|(with_reducible refine(D.out _).mono ?_)|(with_reducible refine(F.out _).mono ?_));rintro e w1 ⟨rfl,rfl⟩)
      |(go_at_fn c;refine A.mono ?_;rintro e w2 ⟨rfl,I⟩))
     go_roundw
     case rel=>exact⟨t+1,by omega,by go_num,by rw[z.out];rfl,B.after I B.size⟩
     case measure=>simp[intOf];omega
   ·rw[decide_eq_false L,Bool.false_and]at o
    have z:=Lib.hid o;clear o hb A;go_wp2_with (go_at_call 170;(first|(with_reducible refine(D.out _).mono ?_)|(with_reducible refine(F.out _).mono ?_));rintro e w1 ⟨rfl,rfl⟩);go_roundw
    case rel=>exact⟨t+1,by omega,by go_num,by rw[z.out];rfl,B⟩
    case measure=>simp[intOf];omega
  ·have M:¬(t:Int)<2^n:=by rw[<-K];exact_mod_cast hlt
   have U:t=N:=by omega
   subst U;go_wp2;go_ret;exact⟨rfl,B⟩
theorem yO(w:World)(n:Int)(v:Value)(l:List Int)(hv:aD w v l)(hl:l.length<=1048576)(m:Int)(u:Value)(k:List Int)(Z:aD w u k)(hk:k.length<=1048576):
  Calls Tryz.prog 168 #[.agg #[.int .i64 n,v],.agg #[.int .i64 m,u]] w fun e w'=>e=.returned (.tuple #[.int .i64 (gO n l m k),.bool (cZ n l m k)])/\Below w.heap.size w w':=by
 obtain⟨a,c,rfl⟩:=hv.shape;obtain⟨b,d,rfl⟩:=Z.shape;have b3:∀(fn:Fn) (first cap:Array Value) (w:World),(Instr.makeFunc fn first cap).run Tryz.prog w=.ok (.func fn first cap) w:=fun _ _ _ _=>rfl;go_enter Tryz.func168,Tryz.ntmps168;go_wp2_with fail;refine aH ?_;intro V O;have B:Below w.heap.size w V:=by rw[O];exact cD _ _ _
 have K:aB V w.heap.size 32 #[.int .i64 n,.slice a l.length c]:=by rw[O];exact(aB.new _ _ _).alloc _
 have L:aB V (w.heap.size+1) 32 #[.int .i64 m,.slice b k.length d]:=by rw[O];have:=aB.new (w.alloc (.cells #[.int .i64 n,.slice a l.length c] 32)) 32 #[.int .i64 m,.slice b k.length d];simpa using this
 clear O;refine(pC V n _ l (hv.below B (Nat.le_refl _)) hl m _ k (Z.below B (Nat.le_refl _)) hk).mono ?_;rintro e w1 ⟨rfl,U⟩;have K:=K.keep U;have L:=L.keep U;have B:=B.after U B.size;have a7:=hv.below B (Nat.le_refl _);have a1:=Z.below B (Nat.le_refl _);have z2:=L.lt;have G1:=K.cell
 cases o:cZ n l m k with
 |false=>
  have I:gO n l m k=0:=by unfold gO;rw[o];rfl
  have S:=Lib.hid I;have R:=Lib.hid o;clear I o;go_wp2;go_ret2;exact⟨by rw[S.out,R.out];rfl,B⟩
 |true=>
  obtain⟨rfl,N,rfl,Y,D,F,A,_,_⟩:=kH o;have I:gO N l N k=(fJ l k (2^N):Int):=by unfold gO;rw[o,if_pos rfl,D]
  have S:=Lib.hid I;have R:=Lib.hid o;have z:=yP w1 N Y 281 vK w.heap.size (w.heap.size+1) l k (fun s W' hs M=>
   LA W' w.heap.size (w.heap.size+1) N N _ _ l k (a7.keep M) (a1.keep M) A F s (by omega) (K.keep M) (L.keep M))
  have Q:=Lib.hid z;clear I o D A z;go_wp2_with fail;refine Q.out.mono ?_;rintro e w2 ⟨rfl,b2⟩;go_wp2;go_ret2;exact⟨by rw[S.out,R.out];rfl,B.after b2 B.size⟩
theorem rL(w:World)(n:Int)(v:Value)(l:List Int)(hv:aD w v l)(hl:l.length<=1048576)(m:Int)(u:Value)(k:List Int)(hu:aD w u k)(hk:k.length<=1048576):
  Calls Tryz.prog 59 #[.agg #[.int .i64 n,v],.agg #[.int .i64 m,u]] w fun e w'=>e=.returned (.tuple #[.int .i64 (gO n l m k),.bool (cZ n l m k)])/\Below w.heap.size w w':=by
 have f2:=hv;have f0:=hu;obtain⟨a,bb,h0,c,rfl,f8,a8,hc,hb⟩:=hv.view Tryz.prog 22 3 Tryz.underlying22 aG;obtain⟨a',g4,g2,c',rfl,e8,I,L,Z⟩:=hu.view Tryz.prog 22 3 Tryz.underlying22 aG;go_enter Tryz.func59,Tryz.ntmps59;go_wp2_with fail;refine aH ?_;intro V hV;have B:Below w.heap.size w V:=by rw[hV];exact cD _ _ _
 have K1:aB V w.heap.size 32 #[.int .i64 n,.slice a l.length c]:=by rw[hV];exact(aB.new _ _ _).alloc _
 have K2:aB V (w.heap.size+1) 32 #[.int .i64 m,.slice a' k.length c']:=by rw[hV];have:=aB.new (w.alloc (.cells #[.int .i64 n,.slice a l.length c] 32)) 32 #[.int .i64 m,.slice a' k.length c'];simpa using this
 clear hV;refine(pF V n _ l (f2.below B (Nat.le_refl _)) hl m _ k (f0.below B (Nat.le_refl _)) hk).mono ?_;rintro e w1 ⟨rfl,b1⟩;have K1:=K1.keep b1;have K2:=K2.keep b1;have B:=B.after b1 B.size;have z2:=K2.lt;have M:=aK hc hb B (Nat.le_refl _);have O:=aK L Z B (Nat.le_refl _);have G1:=K1.cell;have G2:=K2.cell
 cases R:cZ n l m k with
 |false=>
  have K:gO n l m k=0:=by unfold gO;rw[R];rfl
  have HX:=Lib.hid K;have HF:=Lib.hid R;clear K R hc L M O;go_wp2;go_ret2;exact⟨by rw[HX.out,HF.out];rfl,B⟩
 |true=>
  obtain⟨rfl,N,rfl,g6,b3,f7,b0,b4,a9⟩:=kH R;have K:gO N l N k=(fJ l k l.length:Int):=by unfold gO;rw[R,if_pos rfl]
  have h1:=I7 l k;have HX:=Lib.hid K;have HF:=Lib.hid R;have A:=Lib.hid b0;have c6:=Lib.hid M;have c7:=Lib.hid O;have c9:=Lib.hid a8;have Y:=Lib.hid I;have HB:=Lib.hid (And.intro b4 a9);have b7:1<=l.length:=by rw[b3];exact Nat.two_pow_pos N
  clear K R b3 b0 hc L M O a8 I hb Z b4 a9;go_wp2_with fail;go_loop [6,7] (fun e5 i=>∃t:Nat,1<=t/\t<=l.length/\i=.int .i64 t/\e5=.int .i64 (fJ l k t:Int)) (fun _ i=>l.length-(intOf i).toNat)
  case atStart=>exact⟨1,Nat.le_refl _,b7,rfl,by rw[h1];rfl⟩
  case round=>
   obtain⟨t,e9,ht,rfl,rfl⟩:=hrel;have b5:=qQ l k t e9
   by_cases hlt:t<l.length
   ·have b6:(t:Int)<(l.length:Int):=by omega
    have o:=vW l k t;have ck:=c6.out t hlt;have e6:=c7.out t (by rw[A.out];exact hlt);have ik:=fun W=>c9.out W t hlt;have g9:=fun W=>Y.out W t (by rw[A.out];exact hlt);have U:bH l t=(l[t]==(aY t:Int)):=by unfold bH;rw[aJ l t hlt];exact(oW _ _).symm
    have S:bH k t=(k[t]'(by rw[A.out];exact hlt)==(aY t:Int)):=by unfold bH;rw[aJ k t (by rw[A.out];exact hlt)];exact(oW _ _).symm
    obtain⟨x,K⟩:∃x,x=l[t]:=⟨_,rfl⟩;obtain⟨y,hy⟩:∃y,y=k[t]'(by rw[A.out];exact hlt):=⟨_,rfl⟩;rw[<-K]at ck U;rw[<-hy]at e6 S;rw[U,S]at o;obtain⟨b,a1⟩:∃b,b=fJ l k t:=⟨_,rfl⟩;rw[<-a1]at b5 o ⊢;have D:=Lib.hid (fun W=>jO t W (by omega));have F:=Lib.hid (fun W=>jO b W (by omega));obtain⟨P,hP⟩:∃P,P=aY t:=⟨_,rfl⟩;obtain⟨Q,hQ⟩:∃Q,Q=aY b:=⟨_,rfl⟩;simp only[<-hP]at D o;simp only[<-hQ]at F o;clear K hy U S a1 hP hQ
    by_cases a6:Q<P
    ·rw[decide_eq_true a6,Bool.true_and]at o
     have a7:(Q:Int)<(P:Int):=by omega
     cases e1:(x==(P:Int)) with
     |false=>
      rw[e1]at o;have z:=Lib.hid o;clear o;go_wp2_with (go_at_call 173;(first|(with_reducible refine(D.out _).mono ?_)|(with_reducible refine(F.out _).mono ?_));rintro e w2 ⟨rfl,rfl⟩);go_round
      case rel=>exact⟨t+1,by omega,by omega,by go_num,by rw[z.out];rfl⟩
      case measure=>simp[intOf];omega
     |true=>
      cases e2:(y==(P:Int)) with
      |false=>
       rw[e1,e2]at o;have z:=Lib.hid o;clear o;go_wp2_with (go_at_call 173;(first|(with_reducible refine(D.out _).mono ?_)|(with_reducible refine(F.out _).mono ?_));rintro e w2 ⟨rfl,rfl⟩);go_round
       case rel=>exact⟨t+1,by omega,by omega,by go_num,by rw[z.out];rfl⟩
       case measure=>simp[intOf];omega
      |true=>
       rw[e1,e2]at o;have z:=Lib.hid o;clear o;go_wp2_with (go_at_call 173;(first|(with_reducible refine(D.out _).mono ?_)|(with_reducible refine(F.out _).mono ?_));rintro e w2 ⟨rfl,rfl⟩);go_round
       case rel=>exact⟨t+1,by omega,by omega,by go_num,by rw[z.out];rfl⟩
       case measure=>simp[intOf];omega
    ·rw[decide_eq_false a6,Bool.false_and]at o
     have a7:¬(Q:Int)<(P:Int):=by omega
     have z:=Lib.hid o;clear o;go_wp2_with (go_at_call 173;(first|(with_reducible refine(D.out _).mono ?_)|(with_reducible refine(F.out _).mono ?_));rintro e w2 ⟨rfl,rfl⟩);go_round
     case rel=>exact⟨t+1,by omega,by omega,by go_num,by rw[z.out];rfl⟩
     case measure=>simp[intOf];omega
   ·have b6:¬(t:Int)<(l.length:Int):=by omega
    have b8:t=l.length:=by omega
    have HT:=Lib.hid b8;clear b8;go_wp2;go_ret2;exact⟨by rw[HX.out,HF.out,<-HT.out];rfl,B⟩
end
section
open Go.RowKit Go.G5
theorem DG(l k:List Int)(t:Nat):dQ l k (t+1)=if gK l k t<gK l k (dQ l k t) then t else dQ l k t:=rfl
theorem qM(l k:List Int)(o:k.length=l.length)(t:Nat)(h:t<l.length):gK l k t=l[t]+k[l.length-1-t]'(by omega):=by
 unfold gK;rw[aJ l t h,aJ k _ (by omega)]
theorem NT:∀n:Nat,n<=5->∀s:Nat,s<2^n->dE s (2^n-1)=0:=by decide +kernel
theorem RW:∀n:Nat,n<=5->∀s:Nat,s<2^n->s &&& (2^n-1)=s:=by decide +kernel
theorem CO(w:World)(N:Nat)(hN:N<=5)(n m:Int)(v u:Value)(l k:List Int)(hv:aD w v l)(hu:aD w u k)(hl:l.length=2^N)(Y:k.length=l.length)(Z:∀i,(hi:i<l.length)->-1000<=l[i]/\l[i]<=1000)(U:∀i,(hi:i<k.length)->-1000<=k[i]/\k[i]<=1000):
  Calls Tryz.prog 283 #[.agg #[.int .i64 n,v],.agg #[.int .i64 m,u],.int .i64 (2^N-1)] w fun e w'=>e=.returned (.tuple #[.int .i64 (gK l k (dQ l k (2^N))),.int .i64 (dQ l k (2^N):Int)])/\Below w.heap.size w w':=by
 have j7:=hv;have j6:=hu;have g0:(2:Nat)^N<=32:=Nat.pow_le_pow_right (n:=2) (by decide) hN;have b9:=Nat.two_pow_pos N;have K:((2^N-1:Nat):Int)=(2:Int)^N-1:=by rw[Int.ofNat_sub b9];simp
 obtain⟨a,bb,c8,c,rfl,g9,R,hc,hb⟩:=hv.view Tryz.prog 22 3 Tryz.underlying22 aG;obtain⟨a',j1,i1,c',rfl,f8,L,b5,b3⟩:=hu.view Tryz.prog 22 3 Tryz.underlying22 aG;obtain⟨V,hV⟩:∃V,V=(w.alloc (.cells #[.int .i64 n,.slice a l.length c] 32)).alloc (.cells #[.int .i64 m,.slice a' k.length c'] 32):=⟨_,rfl⟩;have B:Below w.heap.size w V:=by rw[hV];exact cD _ _ _
 have K1:aB V w.heap.size 32 #[.int .i64 n,.slice a l.length c]:=by rw[hV];exact(aB.new _ _ _).alloc _
 have K2:aB V (w.heap.size+1) 32 #[.int .i64 m,.slice a' k.length c']:=by rw[hV];have:=aB.new (w.alloc (.cells #[.int .i64 n,.slice a l.length c] 32)) 32 #[.int .i64 m,.slice a' k.length c'];simpa using this
 have O:=aK hc hb B (Nat.le_refl _);have Q:=aK b5 b3 B (Nat.le_refl _);have G1:=K1.cell;have G2:=K2.cell;have M:=qM l k Y 0 (by omega);have c0:=O 0 (by omega);have i0:=fun W=>R W 0 (by omega);have d0:=Q (l.length-1-0) (by omega);have j0:=fun W=>L W (l.length-1-0) (by omega);have g2:=Z 0 (by omega);have c7:=U (l.length-1-0) (by omega);have HB:=Lib.hid (And.intro Z U);have e0:=Lib.hid O;have e4:=Lib.hid Q;have e5:=Lib.hid R;have e6:=Lib.hid L;have I:=Lib.hid Y;obtain⟨F,hF⟩:∃F:Nat,F=2^N-1:=⟨_,rfl⟩;have b6:l.length=F+1:=by omega
 have a7:(2:Int)^N-1=(F:Int):=by rw[<-K,hF]
 have a9:2^N=F+1:=by omega
 have b1:∀s,s<=F->bits .andNot .i64 (s:Int) (F:Int)=0/\bits .andNot .i64 (F:Int) (s:Int)=((F-s:Nat):Int):=fun s hs=>by
  have h1:=AZ s F (by omega) (by omega);have h2:=AZ F s (by omega) (by omega);have h3:=NT N hN s (by omega);have h4:=uG N hN s (by omega);rw[<-hF]at h3 h4;rw[h3]at h1;rw[h4]at h2;exact⟨h1,h2⟩
 rw[a7,a9];simp only[show l.length-1-0=F by omega]at d0 j0 c7 M;obtain⟨x0,c5⟩:∃x,x=l[0]:=⟨_,rfl⟩;obtain⟨y0,c6⟩:∃x,x=k[F]'(by omega):=⟨_,rfl⟩;rw[<-c5]at c0 g2 M;rw[<-c6]at d0 c7 M;have e8:=Lib.hid M;have z:=Lib.hid b6;have c9:=Lib.hid b1;have e1:=JG l k;have g7:F<32:=by omega
 clear hc b5 O Q R L Y Z U M c5 c6 b6 b1 hl K hF a7 a9 hb b3;clear g0 b9;have c0:V.cell? ⟨bb,c8,none⟩=some (.int .i64 x0):=by simpa using c0
 have i0:∀W,(Instr.indexAt 22 (.slice a l.length c) (.int .i64 0)).run Tryz.prog W=.ok (.pointer (some ⟨bb,c8,none⟩)) W:=fun W=>by simpa using i0 W
 go_enter Tryz.func283,Tryz.ntmps283;go_wp2_with fail;rw[<-hV];clear hV;go_quiet (fail);go_wp2_with fail;go_loopw [8,9,23] (fun sm pt i wr=>∃t:Nat,t<=F+1/\i=.int .i64 t/\sm=.int .i64 (gK l k (dQ l k t))/\pt=.int .i64 (dQ l k t:Int)/\(-2000<=gK l k (dQ l k t)/\gK l k (dQ l k t)<=2000)/\∃q,wr=V.drewN q) (fun _ _ i _=>F+1-(intOf i).toNat)
 case atStart=>
  have hz:gK l k (dQ l k 0)=x0+y0:=by rw[show dQ l k 0=0 from rfl];exact e8.out
  exact⟨0,Nat.zero_le _,rfl,by rw[hz],rfl,by rw[hz];omega,_,rfl⟩
 case round=>
  obtain⟨t,ht,rfl,rfl,rfl,b4,q,rfl⟩:=hrel
  by_cases hlt:t<F+1
  ·have b7:(t:Int)<(F:Int)+1:=by omega
   have A:=c9.out t (by omega);have j3:=A.1;have f7:=A.2;have D:=qM l k I.out t (by rw[z.out];omega);have o:=DG l k t;have ck:=e0.out t (by rw[z.out];omega);have ik:=fun W=>e5.out W t (by rw[z.out];omega);have dk:=e4.out (F-t) (by rw[I.out,z.out];omega);have jk:=fun W=>e6.out W (F-t) (by rw[I.out,z.out];omega);have lb:=HB.out.1 t (by rw[z.out];omega);have kb:=HB.out.2 (F-t) (by rw[I.out,z.out];omega);simp only[show l.length-1-t=F-t by rw[z.out];omega]at D;obtain⟨x,hx⟩:∃x,x=l[t]'(by rw[z.out];omega):=⟨_,rfl⟩;obtain⟨y,hy⟩:∃y,y=k[F-t]'(by rw[I.out,z.out];omega):=⟨_,rfl⟩;rw[<-hx]at ck lb D;rw[<-hy]at dk kb D;rw[D]at o;obtain⟨S,hS⟩:∃S,S=gK l k (dQ l k t):=⟨_,rfl⟩;obtain⟨p,hp⟩:∃p,p=dQ l k t:=⟨_,rfl⟩;rw[<-hS]at o b4 ⊢;rw[<-hp]at o ⊢;obtain⟨Ft,a8⟩:∃Ft,Ft=F-t:=⟨_,rfl⟩;simp only[<-a8]at dk jk f7;have e9:=Lib.hid hS;have e7:=Lib.hid hp;have a1:=Lib.hid D;have a6:=Lib.hid o;clear hx hy hS hp D o A a8 c0 i0 d0 j0
   by_cases b8:x+y<S
   ·go_wp2_with fail
    go_quiet (fail);go_wp2_with fail;go_quiet (fail);go_wp2;go_roundw
    case rel=>
     have h1:dQ l k (t+1)=t:=by rw[a6.out,if_pos b8]
     exact⟨t+1,by omega,by go_num,by rw[h1,a1.out],by rw[h1],by rw[h1,a1.out];omega,_,by first|rfl|simp⟩
    case measure=>simp[intOf];omega
   ·go_wp2_with fail
    go_quiet (fail);go_wp2;go_roundw
    case rel=>
     have h1:dQ l k (t+1)=p:=by rw[a6.out,if_neg (by omega)]
     have h2:gK l k p=S:=by rw[e9.out,e7.out]
     exact⟨t+1,by omega,by go_num,by rw[h1,h2],by rw[h1],by rw[h1,h2];exact b4,_,by first|rfl|simp⟩
    case measure=>simp[intOf];omega
  ·have b7:¬(t:Int)<(F:Int)+1:=by omega
   have g1:t=F+1:=by omega
   subst g1;go_wp2;go_ret2;exact⟨rfl,B.drewN' _⟩
theorem MC(w:World)(N:Nat)(hN:N<=5)(n m:Int)(v u:Value)(l k:List Int)(hv:aD w v l)(hu:aD w u k)(hl:l.length=2^N)(U:k.length=l.length)(Y:∀i,(hi:i<l.length)->-1000<=l[i]/\l[i]<=1000)(S:∀i,(hi:i<k.length)->-1000<=k[i]/\k[i]<=1000):
  Calls Tryz.prog 285 #[.agg #[.int .i64 n,v],.agg #[.int .i64 m,u],.int .i64 (2^N-1)] w fun e w'=>e=.returned (.int .i64 (dQ l k (2^N):Int))/\Below w.heap.size w w':=by
 have k0:=hv;have j9:=hu;have f9:(2:Nat)^N<=32:=Nat.pow_le_pow_right (n:=2) (by decide) hN;have c7:=Nat.two_pow_pos N;have D:((2^N-1:Nat):Int)=(2:Int)^N-1:=by rw[Int.ofNat_sub c7];simp
 obtain⟨a,bb,e7,c,rfl,h5,R,hc,hb⟩:=hv.view Tryz.prog 22 3 Tryz.underlying22 aG;obtain⟨a',j3,i7,c',rfl,f7,I,b8,b7⟩:=hu.view Tryz.prog 22 3 Tryz.underlying22 aG;obtain⟨V,hV⟩:∃V,V=(w.alloc (.cells #[.int .i64 n,.slice a l.length c] 32)).alloc (.cells #[.int .i64 m,.slice a' k.length c'] 32):=⟨_,rfl⟩;have B:Below w.heap.size w V:=by rw[hV];exact cD _ _ _
 have K1:aB V w.heap.size 32 #[.int .i64 n,.slice a l.length c]:=by rw[hV];exact(aB.new _ _ _).alloc _
 have K2:aB V (w.heap.size+1) 32 #[.int .i64 m,.slice a' k.length c']:=by rw[hV];have:=aB.new (w.alloc (.cells #[.int .i64 n,.slice a l.length c] 32)) 32 #[.int .i64 m,.slice a' k.length c'];simpa using this
 have O:=aK hc hb B (Nat.le_refl _);have Q:=aK b8 b7 B (Nat.le_refl _);have G1:=K1.cell;have G2:=K2.cell;have K:=qM l k U 0 (by omega);have c0:=O 0 (by omega);have i0:=fun W=>R W 0 (by omega);have d0:=Q (l.length-1-0) (by omega);have j0:=fun W=>I W (l.length-1-0) (by omega);have g3:=Y 0 (by omega);have e6:=S (l.length-1-0) (by omega);have HB:=Lib.hid (And.intro Y S);have a1:=Lib.hid O;have a6:=Lib.hid Q;have a7:=Lib.hid R;have a8:=Lib.hid I;have z:=Lib.hid U;obtain⟨F,hF⟩:∃F:Nat,F=2^N-1:=⟨_,rfl⟩;have b9:l.length=F+1:=by omega
 have b0:(2:Int)^N-1=(F:Int):=by rw[<-D,hF]
 have b4:2^N=F+1:=by omega
 have b6:∀s,s<=F->bits .and .i64 (s:Int) (F:Int)=(s:Int):=fun s hs=>by
  have h1:=NN s F (by omega) (by omega);have h3:=RW N hN s (by omega);rw[<-hF]at h3;rw[h3]at h1;exact h1
 rw[b0,b4];simp only[show l.length-1-0=F by omega]at d0 j0 e6 K;obtain⟨x0,c9⟩:∃x,x=l[0]:=⟨_,rfl⟩;obtain⟨y0,e4⟩:∃x,x=k[F]'(by omega):=⟨_,rfl⟩;rw[<-c9]at c0 g3 K;rw[<-e4]at d0 e6 K;have i8:=Lib.hid K;have o:=Lib.hid b9;have f0:=Lib.hid b6;have e1:=JG l k;have g8:F<32:=by omega
 clear hc b8 O Q R I U Y S K c9 e4 b9 b6 hl D hF b0 b4 hb b7;clear f9 c7;have c0:V.cell? ⟨bb,e7,none⟩=some (.int .i64 x0):=by simpa using c0
 have i0:∀W,(Instr.indexAt 22 (.slice a l.length c) (.int .i64 0)).run Tryz.prog W=.ok (.pointer (some ⟨bb,e7,none⟩)) W:=fun W=>by simpa using i0 W
 go_enter Tryz.func285,Tryz.ntmps285;go_wp2_with fail;rw[<-hV];clear hV c0 i0 d0 j0;go_loopw [7,8] (fun f3 i wr=>∃t:Nat,1<=t/\t<=F+1/\i=.int .i64 t/\f3=.int .i64 (dQ l k t:Int)/\∃q,wr=V.drewN q) (fun _ i _=>F+1-(intOf i).toNat)
 case atStart=>exact⟨1,Nat.le_refl _,by omega,rfl,by rw[e1];rfl,0,rfl⟩
 case round=>
  obtain⟨t,g0,ht,rfl,rfl,q,rfl⟩:=hrel;have f8:=wJ l k t g0
  by_cases hlt:t<F+1
  ·have c5:(t:Int)<=(F:Int):=by omega
   have j6:=f0.out t (by omega);have M:=qM l k z.out t (by rw[o.out];omega);have A:=DG l k t;obtain⟨p,hp⟩:∃p,p=dQ l k t:=⟨_,rfl⟩;rw[<-hp]at A f8 ⊢;have L:=qM l k z.out p (by rw[o.out];omega);have ck:=a1.out t (by rw[o.out];omega);have ik:=fun W=>a7.out W t (by rw[o.out];omega);have dk:=a6.out (F-t) (by rw[z.out,o.out];omega);have jk:=fun W=>a8.out W (F-t) (by rw[z.out,o.out];omega);have lb:=HB.out.1 t (by rw[o.out];omega);have kb:=HB.out.2 (F-t) (by rw[z.out,o.out];omega);have cp:=a1.out p (by rw[o.out];omega);have ip:=fun W=>a7.out W p (by rw[o.out];omega);have dp:=a6.out (F-p) (by rw[z.out,o.out];omega);have jp:=fun W=>a8.out W (F-p) (by rw[z.out,o.out];omega);have g4:=HB.out.1 p (by rw[o.out];omega);have g2:=HB.out.2 (F-p) (by rw[z.out,o.out];omega);simp only[show l.length-1-t=F-t by rw[o.out];omega]at M;simp only[show l.length-1-p=F-p by rw[o.out];omega]at L;obtain⟨x,hx⟩:∃x,x=l[t]'(by rw[o.out];omega):=⟨_,rfl⟩;obtain⟨y,hy⟩:∃y,y=k[F-t]'(by rw[z.out,o.out];omega):=⟨_,rfl⟩;obtain⟨xp,e0⟩:∃x,x=l[p]'(by rw[o.out];omega):=⟨_,rfl⟩;obtain⟨yp,e5⟩:∃y,y=k[F-p]'(by rw[z.out,o.out];omega):=⟨_,rfl⟩;rw[<-hx]at ck lb M;rw[<-hy]at dk kb M;rw[<-e0]at cp g4 L;rw[<-e5]at dp g2 L;rw[M,L]at A;have c8:(F:Int)-(t:Int)=((F-t:Nat):Int):=by omega
   have Z:(F:Int)-(p:Int)=((F-p:Nat):Int):=by omega
   obtain⟨Ft,b3⟩:∃Ft,Ft=F-t:=⟨_,rfl⟩;obtain⟨Fp,b1⟩:∃Ft,Ft=F-p:=⟨_,rfl⟩;simp only[<-b3]at dk jk c8;simp only[<-b1]at dp jp Z;have a9:=Lib.hid A;clear hx hy e0 e5 M L A b3 b1 hp
   by_cases c6:x+y<xp+yp
   ·go_wp2_with fail
    go_quiet (fail);go_wp2;go_roundw
    case rel=>
     have h1:dQ l k (t+1)=t:=by rw[a9.out,if_pos c6]
     exact⟨t+1,by omega,by omega,by go_num,by rw[h1],_,by first|rfl|simp⟩
    case measure=>simp[intOf];omega
   ·go_wp2_with fail
    go_quiet (fail);go_wp2;go_roundw
    case rel=>
     have h1:dQ l k (t+1)=p:=by rw[a9.out,if_neg (by omega)]
     exact⟨t+1,by omega,by omega,by go_num,by rw[h1],_,by first|rfl|simp⟩
    case measure=>simp[intOf];omega
  ·have c5:¬(t:Int)<=(F:Int):=by omega
   have g1:t=F+1:=by omega
   subst g1;go_wp2;go_ret;exact⟨rfl,B.drewN' _⟩
end
end Go.Proofs.YtipejodijbjpcaaGreatDoor
