/- Lemmas for CardConsoleResults. No condition. -/
import Derived.Test.YtkdbkjjacgigiaaGreatDoorQ20
set_option maxRecDepth 100000
set_option maxHeartbeats 64000000
namespace Go.Proofs.YtkdbkjjacgigiaaGreatDoor
section
open Go.RowKit Go.G5 Go.Proofs.Tryz
theorem aoS(t s:Nat):((t:Int)==(s:Int))=decide (t=s):=by
 by_cases h:t=s
 ·subst h;simp
 ·rw[decide_eq_false h,beq_eq_false_iff_ne];omega
theorem agA{N s:Nat}(h:s<2^N):eB N (s:Int)=true:=by
 unfold eB;have:((2^N:Nat):Int)=(2:Int)^N:=by simp
 simp only[Bool.and_eq_true,decide_eq_true_eq];omega
theorem ahS{p:Prop}(h:p:=by
  have b1:=aH z;clear z hz;go_wp2_with (go_at_call 266;refine a9.out.mono ?_;rintro e w3 ⟨rfl,b3⟩);go_roundw
  case rel=>exact⟨k+1,by omega,by go_num,by rw[b1.out],B.after b3 B.size⟩
  case measure=>simp[intOf];omega):p:=h
theorem afD(w:World)(N:Nat)(v:Value)(l:List Int)(hv:aK w v l)(hl:l.length<=1048576)(hf:eZ N l=true)(s:Nat)(hs:s<2^N):
  Calls prog 345 #[.agg #[(N:Int),v],s] w fun e w'=>e=.returned (mZ l s N)/\Below w w w':=by
 have a1:=hv;obtain⟨a,c,rfl⟩:=hv.shape;have K0:=aP.new w 27 #[(N:Int),aA a l.length c];obtain⟨_,hN,h5,b8,e4,S⟩:=cS (sO hf);have hN:=Int.ofNat.inj hN;subst hN;have hg:∀k W,k<N->aK W (aA a l.length c) l->Calls prog 266 #[.agg #[(N:Int),aA a l.length c],(s:Int),(k:Int)] W fun e' w'=>e'=.returned (gM l s k)/\Below W W w':=fun k W hk hW=>by have h1:=eI s k N hs hk;exact EM N l _ s k W hW aD aD aD aD S
 have F:=LO l s N hs;have a8:=aH F;have HG:=aH hg;have HF:=aH hf;have b0:=aH (agA hs);have f8:(2:Nat)^N<=32:=Nat.pow_le_pow_right (n:=2) aQ h5;obtain⟨R,hR⟩:=aJ (mZ l s N);rw[<-hR];have HR:=aH hR;clear F hg hf S hR b8;go_enter func345,ntmps345;go_wp2_with fail;refine(vI N l _ _ (a1.alloc _) hl).mono ?_;rintro e w1 ⟨rfl,I⟩;rw[HF.out];have B1:Below w w w1:=(bF _ _).after I (by simp);have K1:=K0.keep I;have c5:=a1.below B1 aI;clear I K0;have G:=K1.cell;go_wp2_with (go_at_call 273;refine(rK N s _ aD).mono ?_;rintro e w2 ⟨rfl,rfl⟩;rw[b0.out]);go_loopw [5,20] (fun ov iv wr=>∃k:Nat,k<=N/\iv=aG k/\ov=aG (mZ l s k)/\Below w1 w1 wr) (fun _ iv _=>N-(intOf iv).toNat)
 case atStart=>exact⟨0,Nat.zero_le _,rfl,rfl,Below.refl _ _⟩
 case round=>
  obtain⟨k,hk,rfl,rfl,B⟩:=hrel;obtain⟨wo,rfl⟩:∃wo:World,wo=wr:=⟨_,rfl⟩;clear G;have K:=K1.keep B;have G:=K.cell;by_cases b7:k<N
  ·have M:(k:Int)<(N:Int):=aD;have z:mZ l s (k+1)=if gM l s k=0 then bX (mZ l s k) k else mZ l s k:=rfl;have hlt:=a8.out k hk;have J:=HG.out k wo b7 (c5.below B aI);have Y:=fQ (mZ l s k) k aD aD;obtain⟨t,ht⟩:=aJ (mZ l s k);obtain⟨t2,Z⟩:=aJ (bX t k);obtain⟨x,hx⟩:=aJ (gM l s k);rw[<-ht]at z hlt Y ⊢;rw[<-Z]at z Y;rw[<-hx]at z J;have a9:=aH J;have D:=cJ k 6 aD;have f6:(2:Int)^k<=64:=by simpa using D.1
   have f7:=D.2;have f5:(0:Int)<=(k:Int):=Int.natCast_nonneg _;clear ht Z hx J D;by_cases hz:x=0
   ·rw[if_pos hz]at z;have c6:(x==0)=true:=by simp[hz]
    exact ahS
   ·rw[if_neg hz]at z;have c6:(x==0)=false:=by simp[hz]
    exact ahS
  ·have M:¬(k:Int)<(N:Int):=aD;have O:k=N:=aD;subst O;rw[<-HR.out];go_wp2;go_ret;exact⟨rfl,B1.after B B1.size⟩
theorem ac9(w:World)(N:Nat)(v:Value)(l:List Int)(I:aK w v l)(hl:l.length<=1048576)(M:eZ N l=true)(s:Nat)(O:s<2^N):
  Calls prog 281 #[.agg #[(N:Int),v],s] w fun e w'=>e=.returned (.bool (DV l N s))/\Below w w w':=by
 have F:=I;obtain⟨a,c,rfl⟩:=I.shape;have hc:=fun W (h:aK W (aA a l.length c) l)=>afD W N _ l h hl M s O;have z:=acK l s N;obtain⟨t,ht⟩:=aJ (mZ l s N);simp only[<-ht]at hc;rw[<-ht]at z;have J:=aH hc;have D:=aH z;have R:(0:Int)<=(s:Int):=Int.natCast_nonneg _;clear hc z ht;go_enter func281,ntmps281;go_wp2_with fail;refine(J.out _ (F.alloc _)).mono ?_;rintro e w1 ⟨rfl,K⟩;go_wp2;go_ret;exact⟨aW (by rw[<-D.out];exact aoS t s),(bF _ _).after K (by simp)⟩
theorem aqG(w:World)(n:Int)(v:Value)(l:List Int)(hv:aK w v l)(hl:l.length<=1048576):
  Calls prog 203 #[.agg #[n,v]] w fun e w'=>∃ad i cp,e=.returned (.tuple #[aA ad i cp,.bool (eZ n l)])/\aM 3 w w' (aA ad i cp) (AH n l)/\Below w w w':=by
 have O:=hv;obtain⟨a,c,rfl⟩:=hv.shape;have K0:=aP.new w 27 #[n,aA a l.length c]
 cases J:eZ n l with
 |false=>
  have R:AH n l=[]:=by unfold AH;rw[J];rfl
  have HL:=aH R;have HF:=aH J;clear R J;go_enter func203,ntmps203;go_wp2_with fail;refine(vI n l _ _ (O.alloc _) hl).mono ?_;rintro e w1 ⟨rfl,F⟩;rw[HF.out];go_wp2;go_ret2;exact⟨none,0,0,rfl,by rw[HL.out];exact aM.nil _ _ _,(bF _ _).after F (by simp)⟩
 |true=>
  obtain⟨N,rfl,h5,b8,e4,b9⟩:=cS (sO J);have R:AH N l=cD (DV l N) l.length:=by unfold AH;rw[J];rfl
  have M:=fun(W:World) (h:aK W (aA a l.length c) l) (s:Nat) (hs:s<l.length)=>ac9 W N _ l h hl J s aD;obtain⟨P,hP⟩:=aJ (DV l N);rw[<-hP]at R;simp only[<-hP]at M;have HL:=aH R;have HF:=aH J;have b4:=aH M;clear R J M hP b9 b8;go_enter func203,ntmps203;go_wp2_with fail;refine(vI N l _ _ (O.alloc _) hl).mono ?_;rintro e w1 ⟨rfl,F⟩;rw[HF.out];have B1:Below w w w1:=(bF _ _).after F (by simp);have K1:=K0.keep F;have c6:=O.below B1 aI;clear F K0;have G:=K1.cell;go_wp2_with fail;go_loopw [4,12] (fun ov iv wr=>∃(k:Nat) (p:Option Addr) (i q:Nat),k<=l.length/\iv=aG k/\ov=aA p i q/\aM 3 w1 wr (aA p i q) (cD P k)/\Below w1 w1 wr) (fun _ iv _=>l.length-(intOf iv).toNat)
  case atStart=>exact⟨0,_,_,_,Nat.zero_le _,rfl,rfl,aM.nil _ _ _,Below.refl _ _⟩
  case round=>
   obtain⟨k,p,i,q,hk,rfl,rfl,ho,B⟩:=hrel;obtain⟨wo,rfl⟩:∃wo:World,wo=wr:=⟨_,rfl⟩;clear G;have K:=K1.keep B;have G:=K.cell;by_cases b7:k<l.length
   ·have a6:(k:Int)<(l.length:Int):=aD;have a1:=fM P k;have e9:(cD P k).length<=64:=Nat.le_trans (jO P k) aD;have S:=aH a1;clear a1;have Y:=aH (b4.out wo (c6.below B aI) k b7)
    cases I:P k with
    |false=>
     have D:=aH I;clear I;go_wp2_with fail;refine Y.out.mono ?_;rintro e w3 ⟨rfl,Z⟩;rw[D.out];go_wp2;go_roundw
     case rel=>exact⟨k+1,p,i,q,by omega,by go_num,rfl,by rw[S.out,D.out];exact ho.keep Z,B.after Z B.size⟩
     case measure=>simp[intOf];omega
    |true=>
     have D:=aH I;clear I;go_wp2_with fail;refine Y.out.mono ?_;rintro e w3 ⟨rfl,Z⟩;rw[D.out];have a8:=ho.keep Z;have B3:=B.after Z B.size;have rr:=a8.lt;go_wp2_with (at_builtin;refine dA rfl _ _ _ rfl 3 underlying25 aN w1.heap.size (aA p i q) (cD P k) (k:Int) _ rfl rfl (aZ _ _ _ _ _ rfl) (a8.alloc _) ⟨by omega,by omega⟩ aD (by have:=B3.size;simp;omega) ?_;intro v7 w7 o7 g7;obtain⟨p7,i7,q7,rfl⟩:=o7.shape3);have B7:=(B3.alloc B3.size (.cells #[(k:Int)] 3)).grown g7 (by have:=B3.size;simp;omega) (fun z hz=>(rr _ hz).1);go_roundw
     case rel=>exact⟨k+1,p7,i7,q7,by omega,by go_num,rfl,by rw[S.out,D.out];exact o7,B7⟩
     case measure=>simp[intOf];omega
   ·have a6:¬(k:Int)<(l.length:Int):=aD;have a7:k=l.length:=aD;subst a7;go_wp2;go_ret2;exact⟨p,i,q,rfl,by rw[HL.out];exact ho.mono B1.size,B1.after B B1.size⟩
theorem ag6{p:Prop}(h:p:=by
  have D:=aH z;clear R z hb;go_wp2_with (first
   |(go_at_call 214;(first|(with_reducible refine(I.out _).mono ?_)|(with_reducible refine(J.out _).mono ?_));rintro e w1 ⟨rfl,rfl⟩)
   |(go_at_fn c;refine hcl.mono ?_;rintro e w2 ⟨rfl,S⟩))
  go_roundw
  case rel=>exact⟨t+1,by omega,by go_num,by rw[D.out];rfl,B.after S B.size⟩
  case measure=>simp[intOf];omega):p:=h
theorem J8(w:World)(n:Nat)(hn:n<=5)(c:FuncId)(he:∀args w,(callFunc c args).run prog w=.ok (.enter c args) w)(g1 g2:Nat)(P:Nat->Bool)
  (hw:∀(s:Nat) W',s<2^n->Below w w W'->Calls prog c #[(s:Int),.pointer (some ⟨g1,0,none⟩),.pointer (some ⟨g2,0,none⟩)] W' fun e w2=>e=.returned (.bool (P s))/\Below W' W' w2):
  Calls prog 289 #[(n:Int),.func (.func c) #[] #[.pointer (some ⟨g1,0,none⟩),.pointer (some ⟨g2,0,none⟩)]] w fun e w'=>e=.returned (aG (vV P (2^n):Int))/\Below w w w':=by
 have Z:(2:Nat)^n<=32:=Nat.pow_le_pow_right (n:=2) aQ hn;have F:((2^n:Nat):Int)=(2:Int)^n:=by simp
 obtain⟨N,hN⟩:∃N:Nat,N=2^n:=⟨_,rfl⟩;rw[<-hN]at hw Z F ⊢;have HW:=aH hw;clear hN hw;go_enter func289,ntmps289;go_wp2_with fail;go_loopw [5,10] (fun O i wr=>∃t:Nat,t<=N/\i=aG t/\O=aG (vV P t:Int)/\Below w w wr) (fun _ i _=>N-(intOf i).toNat)
 case atStart=>exact⟨0,Nat.zero_le _,rfl,rfl,Below.refl _ _⟩
 case round=>
  obtain⟨t,ht,rfl,rfl,B⟩:=hrel;have Y:=aoN P t;by_cases hlt:t<N
  ·have M:(t:Int)<2^n:=by rw[<-F];exact_mod_cast hlt
   have z:=agO P t;obtain⟨b,hb⟩:=aJ (vV P t);rw[<-hb]at Y z ⊢;have I:=aH (fun W=>fH t W aD);have J:=aH (fun W=>fH b W aD);have hcl:=HW.out t wr hlt B;by_cases K:bY b<bY t
   ·rw[decide_eq_true K,Bool.true_and]at z
    cases R:P t with
    |true=>rw[R]at hcl z;exact ag6
    |false=>rw[R]at hcl z;exact ag6
   ·rw[decide_eq_false K,Bool.false_and]at z;have D:=aH z;clear z hb hcl;go_wp2_with (go_at_call 214;(first|(with_reducible refine(I.out _).mono ?_)|(with_reducible refine(J.out _).mono ?_));rintro e w1 ⟨rfl,rfl⟩);go_roundw
    case rel=>exact⟨t+1,by omega,by go_num,by rw[D.out];rfl,B⟩
    case measure=>simp[intOf];omega
  ·have M:¬(t:Int)<2^n:=by rw[<-F];exact_mod_cast hlt
   have a1:t=N:=aD;subst a1;go_wp2;go_ret;exact⟨rfl,B⟩
theorem ai8(w:World)(n m:Int)(v u:Value)(l k:List Int)(hv:aK w v l)(hu:aK w u k)(a9:k.length=l.length)(f4:l.length<=32)(s:Nat)(hs:s<l.length):
  Calls prog 293 #[.agg #[n,v],.agg #[m,u],(s:Int)] w fun e w'=>∃t:Int,e=.returned (.tuple #[t,.bool (xO l k s)])/\Below w w w':=by
 have d0:=hv;have b5:=hu;obtain⟨a,c,rfl⟩:=hv.shape;obtain⟨b,d,rfl⟩:=hu.shape;have a8:=fun(W:World) (h:aK W (aA a l.length c) l) (t:Nat) (ht:t<l.length)=>tF W n _ l h t ht aD;have a7:=fun(W:World) (h:aK W (aA b k.length d) k) (t:Nat) (ht:t<k.length)=>tF W m _ k h t ht aD;have b8:=aH a8;have b7:=aH a7;have b9:=aH a9;clear a8 a7 a9;have K1:=(aP.new w 27 #[n,aA a l.length c]).alloc (.cells #[m,aA b k.length d] 27);have K2:aP ((w.alloc (.cells #[n,aA a l.length c] 27)).alloc (.cells #[m,aA b k.length d] 27)) (w.heap.size+1) 27 #[m,aA b k.length d]:=by have:=aP.new (w.alloc (.cells #[n,aA a l.length c] 27)) 27 #[m,aA b k.length d];simpa using this
 have B0:Below w w ((w.alloc (.cells #[n,aA a l.length c] 27)).alloc (.cells #[m,aA b k.length d] 27)):=wI _ _ _;have wS:IntKind.i64.wrap ((s:Int)+1)=(s:Int)+1:=by rw[IntKind.wrap_i64];omega
 go_enter func293,ntmps293;go_wp2_with fail;go_loopw [11] (fun iv wr=>∃t:Nat,t<=s+1/\iv=aG t/\OP l k s t=true/\Below w w wr/\aP wr w 27 #[n,aA a l.length c]/\aP wr (w.heap.size+1) 27 #[m,aA b k.length d]) (fun iv _=>s+1-(intOf iv).toNat)
 case atStart=>exact⟨0,Nat.zero_le _,rfl,rfl,B0,K1,K2⟩
 case round=>
  obtain⟨t,ht,rfl,b1,B,I,J⟩:=hrel;obtain⟨wo,rfl⟩:∃z:World,z=wr:=⟨_,rfl⟩;have Y:=aH b1;clear b1 K1 K2 B0;have G1:=I.cell;have G2:=J.cell;have z1:=I.lt;have z2:=J.lt;by_cases hlt:t<s+1
  ·have b0:(t:Int)<(s:Int)+1:=aD;have O:=aaC l k s t;rw[Y.out,Bool.true_and]at O;have D:adY l k s t=((cO t s==0)&&(fX l t&&fX k (cO s t))):=rfl;have c6:=xK t s aD aD;have c7:=xK s t aD aD;have a6:=wU s t l.length hs;have c1:=b8.out wo (d0.below B aI) t aD;have c2:=fun(W:World) (h:aK W (aA b k.length d) k)=>b7.out W h (cO s t) (by rw[b9.out];exact a6);have K:adY l k s t=true->xO l k s=true:=fun h=>apS aD h;obtain⟨x,hx⟩:∃x:Nat,x=cO t s:=⟨_,rfl⟩;obtain⟨y,hy⟩:∃y:Nat,y=cO s t:=⟨_,rfl⟩;obtain⟨p,hp⟩:=aJ (fX l t);obtain⟨q,hq⟩:=aJ (fX k (cO s t));rw[<-hx,<-hp,<-hq]at D;rw[<-hx]at c6;simp only[<-hq]at c2;simp only[<-hy]at c7 c2;rw[<-hp]at c1;have C1:=aH c1;have C2:=aH c2;have M:=aH O;have c5:=aH K;clear O c1 c2 hx hy hp hq a6 K;by_cases R:x=0
   ·have e4:((x:Int)==0)=true:=by simp[R]
    have F:(x==0)=true:=by simp[R]
    rw[F,Bool.true_and]at D
    cases p with
    |false=>
     have Z:=aH D;clear D R F;go_wp2_with fail;refine C1.out.mono ?_;rintro e w3 ⟨rfl,N⟩;go_wp2;go_roundw
     case rel=>exact⟨t+1,by omega,by go_num,by rw[M.out,Z.out];rfl,B.after N B.size,I.keep N,J.keep N⟩
     case measure=>simp[intOf];omega
    |true=>
     rw[Bool.true_and]at D;go_wp2_with fail;refine C1.out.mono ?_;rintro e w3 ⟨rfl,N⟩;have S:=B.after N B.size;have K3:=I.keep N;have K4:=J.keep N;clear G1 G2;have G2:=K4.cell
     cases q with
     |false=>
      have Z:=aH D;clear D R F;go_wp2_with fail;refine(C2.out _ (b5.below S aI)).mono ?_;rintro e w4 ⟨rfl,b4⟩;go_wp2;go_roundw
      case rel=>exact⟨t+1,by omega,by go_num,by rw[M.out,Z.out];rfl,S.after b4 S.size,K3.keep b4,K4.keep b4⟩
      case measure=>simp[intOf];omega
     |true=>have hr:=c5.out D;have HR:=aH hr;clear D R F hr;go_wp2_with fail;refine(C2.out _ (b5.below S aI)).mono ?_;rintro e w4 ⟨rfl,b4⟩;go_wp2;go_ret2;exact⟨t,by rw[HR.out];rfl,S.after b4 S.size⟩
   ·have e4:((x:Int)==0)=false:=by rw[beq_eq_false_iff_ne];omega
    have F:(x==0)=false:=by simp[R]
    rw[F,Bool.false_and]at D;have Z:=aH D;clear D R F;go_wp2;go_roundw
    case rel=>exact⟨t+1,by omega,by go_num,by rw[M.out,Z.out];rfl,B,I,J⟩
    case measure=>simp[intOf];omega
  ·have b0:¬(t:Int)<(s:Int)+1:=aD;have hr:xO l k s=false:=by unfold xO;rw[<-show t=s+1 by omega,Y.out];rfl
   have HR:=aH hr;clear hr;go_wp2;go_ret2
   first|exact⟨0,by rw[HR.out];rfl,B⟩|exact⟨⟨0,by rw[HR.out];rfl⟩,B⟩
theorem aeO(w:World)(g1 I:Nat)(n m:Int)(v u:Value)(l k:List Int)(K:aK w v l)(J:aK w u k)(z:k.length=l.length)(hl:l.length<=32)(s:Nat)(O:s<l.length)(D:aP w g1 27 #[n,v])(F:aP w I 27 #[m,u]):
  Calls prog 292 #[s,.pointer (some ⟨g1,0,none⟩),.pointer (some ⟨I,0,none⟩)] w fun e w'=>e=.returned (.bool (xO l k s))/\Below w w w':=by
 have M:=aH (ai8 w n m v u l k K J z hl s O);obtain⟨a,c,rfl⟩:=K.shape;obtain⟨b,d,rfl⟩:=J.shape;have R:=D.cell;have S:=F.cell;have Y:=D.lt;have z2:=F.lt;clear z;go_enter func292,ntmps292;go_wp2_with fail;refine M.out.mono ?_;rintro e w1 ⟨t,rfl,N⟩;go_wp2;go_ret;exact⟨rfl,N⟩
theorem KJ:∀args w,(callFunc 292 args).run prog w=.ok (.enter 292 args) w:=enters_of func292 aO rfl
theorem amZ(w:World)(n:Int)(v:Value)(l:List Int)(hv:aK w v l)(hl:l.length<=1048576)(m:Int)(u:Value)(k:List Int)(hu:aK w u k)(hk:k.length<=1048576):
  Calls prog 212 #[.agg #[n,v],.agg #[m,u]] w fun e w'=>e=.returned (.tuple #[(SH n l m k),.bool (fE n l m k)])/\Below w w w':=by
 obtain⟨a,c,rfl⟩:=hv.shape;obtain⟨b,d,rfl⟩:=hu.shape;have b0:∀(fn:Fn) (first cap:Array Value) (w:World),(Instr.makeFunc fn first cap).run prog w=.ok (.func fn first cap) w:=fun _ _ _ _=>rfl;go_enter func212,ntmps212;go_wp2_with fail;refine bU ?_;intro V O;have B:Below w w V:=gO O;have K:aP V w 27 #[n,aA a l.length c]:=gR O;have M:aP V (w.heap.size+1) 27 #[m,aA b k.length d]:=iP O;clear O;refine(xI V n _ l (hv.below B aI) hl m _ k (hu.below B aI) hk).mono ?_;rintro e w1 ⟨rfl,Z⟩;have K:=K.keep Z;have M:=M.keep Z;have B:=B.after Z B.size;have a9:=hv.below B aI;have a7:=hu.below B aI;have z2:=M.lt;have G1:=K.cell
 cases z:fE n l m k with
 |false=>
  have J:SH n l m k=0:=by unfold SH;rw[z];rfl
  have Y:=aH J;have S:=aH z;clear J z;go_wp2;go_ret2;exact⟨by rw[Y.out,S.out];rfl,B⟩
 |true=>
  obtain⟨rfl,N,rfl,a1,F,I,D,_,_⟩:=zQ z;have J:SH N l N k=(vV (xO l k) (2^N):Int):=by unfold SH;rw[z,if_pos rfl,F]
  have Y:=aH J;have S:=aH z;have hcl:=J8 w1 N a1 292 KJ w.heap.size (w.heap.size+1) (xO l k) (fun s W' hs hB=>
   aeO W' w.heap.size (w.heap.size+1) N N _ _ l k (a9.keep hB) (a7.keep hB) D I s aD (K.keep hB) (M.keep hB))
  have R:=aH hcl;clear J z F D hcl;go_wp2_with fail;refine R.out.mono ?_;rintro e w2 ⟨rfl,b2⟩;go_wp2;go_ret2;exact⟨by rw[Y.out,S.out];rfl,B.after b2 B.size⟩
theorem ZH(w:World)(n:Nat)(hn:n<=6)(c:FuncId)(he:∀args w,(callFunc c args).run prog w=.ok (.enter c args) w)(g h:Nat)(P:Nat->Bool)
  (hw:∀(s:Nat) W',s<2^n->Below w w W'->Calls prog c #[(s:Int),.pointer (some ⟨g,0,none⟩),.pointer (some ⟨h,0,none⟩)] W' fun e O=>e=.returned (.bool (P s))/\Below W' W' O):
  Calls prog 276 #[(n:Int),.func (.func c) #[] #[.pointer (some ⟨g,0,none⟩),.pointer (some ⟨h,0,none⟩)]] w fun e w'=>
   ∃ad i D,e=.returned (.agg #[(n:Int),aA ad i D])/\aM 3 w w' (aA ad i D) (cD P (2^n))/\Below w w w':=by
 exact am6
theorem ae5(w:World)(g h s n:Nat)(P Q:Nat->Bool)(x y:Int)(v u:Value)(R:aK w v (cD P n))(O:aK w u (cD Q n))(hn:n<=32)(N:s<n)(K:aP w g 29 #[x,v])(J:aP w h 29 #[y,u]):
  Calls prog 294 #[(s:Int),.pointer (some ⟨g,0,none⟩),.pointer (some ⟨h,0,none⟩)] w fun e w'=>e=.returned (.bool (P s&&Q s))/\Below w w w':=by
 have Z:(cD P n).length<=1048576:=Nat.le_trans (jO P n) aD;have l2:(cD Q n).length<=1048576:=Nat.le_trans (jO Q n) aD;have F:=zK x (cD P n) v s w R (zD P n) Z;have I:=fun(W:World) (Y:Below w w W)=>zK y (cD Q n) u s W (O.keep Y) (zD Q n) l2;rw[NX,decide_eq_true N,Bool.true_and]at F;simp only[NX,decide_eq_true N,Bool.true_and]at I;have D:=aH F;have S:=aH I;obtain⟨a,c,rfl⟩:=R.shape;obtain⟨b,d,rfl⟩:=O.shape;have G:=K.cell;have z1:=K.lt;have z2:=J.lt;clear F I
 cases M:P s with
 |false=>rw[M]at D;go_enter func294,ntmps294;go_wp2_with fail;refine D.out.mono ?_;rintro e w1 ⟨rfl,z⟩;go_wp2;go_ret;exact⟨rfl,z⟩
 |true=>rw[M]at D;go_enter func294,ntmps294;go_wp2_with fail;refine D.out.mono ?_;rintro e w1 ⟨rfl,z⟩;have z3:=(J.keep z).lt;have G2:=(J.keep z).cell;go_wp2_with fail;refine(S.out _ z).mono ?_;rintro e w2 ⟨rfl,b2⟩;go_wp2;go_ret;exact⟨aW (by simp),z.after b2 z.size⟩
theorem LN:∀args w,(callFunc 294 args).run prog w=.ok (.enter 294 args) w:=enters_of func294 aO rfl
theorem arP(w:World)(n:Int)(v:Value)(l:List Int)(hv:aK w v l)(hl:l.length<=1048576)(m:Int)(u:Value)(k:List Int)(hu:aK w u k)(hk:k.length<=1048576):
  Calls prog 213 #[.agg #[n,v],.agg #[m,u]] w fun e w'=>∃ad i cp,e=.returned (.tuple #[.agg #[(GU n l m k),aA ad i cp],.bool (fE n l m k)])/\aM 3 w w' (aA ad i cp) (GT n l m k)/\Below w w w':=by
 have e8:=hv;have e7:=hu;obtain⟨a,c,rfl⟩:=hv.shape;obtain⟨b,d,rfl⟩:=hu.shape;have j5:∀(fn:Fn) (first cap:Array Value) (w:World),(Instr.makeFunc fn first cap).run prog w=.ok (.func fn first cap) w:=fun _ _ _ _=>rfl;go_enter func213,ntmps213;go_wp2_with fail;refine bU ?_;intro V hV;have B:Below w w V:=by rw[hV];exact(wI _ _ _).alloc (by first|omega|(simp;done)|(simp;omega)) _
 have O:aP V w 27 #[n,aA a l.length c]:=by rw[hV];exact((aP.new _ _ _).alloc _).alloc _
 have K2:aP V (w.heap.size+1) 27 #[m,aA b k.length d]:=by rw[hV];have:=(aP.new (w.alloc (.cells #[n,aA a l.length c] 27)) 27 #[m,aA b k.length d]).alloc (.cells #[aB,()] 29);simpa using this
 have I:aP V (w.heap.size+1+1) 29 #[aB,()]:=by rw[hV];have:=aP.new ((w.alloc (.cells #[n,aA a l.length c] 27)).alloc (.cells #[m,aA b k.length d] 27)) 29 #[aB,()];simpa using this
 clear hV;refine(xI V n _ l (e8.below B aI) hl m _ k (e7.below B aI) hk).mono ?_;rintro e w1 ⟨rfl,b1⟩;have O:=O.keep b1;have K2:=K2.keep b1;have I:=I.keep b1;have B1:=B.after b1 B.size;have z3:=I.lt;clear B b1
 cases K:fE n l m k with
 |false=>
  have hN:GU n l m k=0:=by unfold GU;rw[K];rfl
  have hL:GT n l m k=[]:=by unfold GT;rw[K];rfl
  have HN:=aH hN;have HL:=aH hL;have HF:=aH K;have G2:=I.cell;have F2:=I.frozen;clear hN hL K;go_wp2;refine bN ?_;intro Wf z;have a8:aP Wf (w.heap.size+1+1) 29 #[aB,()]:=by rw[z];have:=(I.set 0 (aG 0)).set 1 (aA none 0 0);simpa using this
  have Bf:Below w w Wf:=by rw[z];exact Below.setCell (Below.setCell B1 (by first|omega|(simp;done)|(simp;omega)) _) (by first|omega|(simp;done)|(simp;omega)) _
  have Gf:=a8.cell;clear z G2 F2;exact bodyPost_ret (v:=.tuple #[.agg #[aB,()],.bool false]) (by simp[results,results213,go_sem,Gf]) rfl ⟨none,0,0,by rw[HN.out,HF.out],by rw[HL.out];exact aM.nil _ _ _,Bf⟩
 |true=>
  obtain⟨b6,b7⟩:=akN K;obtain⟨rfl,N,rfl,g8,Y,i8,e6,_,_⟩:=zQ K;have hN:GU N l N k=N:=by unfold GU;rw[K];rfl
  have hL:GT N l N k=cD (fun s=>mS l s&&mS k s) (2^N):=by unfold GT;rw[K,if_pos rfl,Y];rfl
  have R:=UI w1 N _ l (e8.below B1 aI) hl;have S:=fun(W:World) (h:aK W (aA b k.length d) k)=>UI W N _ k h hk;have e1:mR N l=cD (mS l) (2^N):=by unfold mR;rw[b6,if_pos rfl,Y]
  have e2:mR N k=cD (mS k) (2^N):=by unfold mR;rw[b7,if_pos rfl,e6,Y]
  have e3:qP N l=N:=by unfold qP;rw[b6];rfl
  have e4:qP N k=N:=by unfold qP;rw[b7];rfl
  rw[e1,e3]at R;simp only[e2,e4]at S;have h5:(2:Nat)^N<=32:=Nat.pow_le_pow_right (n:=2) aQ g8;obtain⟨A1,b0⟩:=aJ (cD (mS l) (2^N));obtain⟨Z,b5⟩:=aJ (cD (mS k) (2^N));rw[<-b0]at R;simp only[<-b5]at S;have HA:=aH (And.intro b0 b5);have f9:=aH R;have g0:=aH S;have HN:=aH hN;have HL:=aH hL;have HF:=aH K;clear hN hL K R S e1 e2 e3 e4 b6 b7 Y e6 b0 b5;have G1:=O.cell;go_wp2_with fail;refine f9.out.mono ?_;rintro e w2 ⟨p1,i1,q1,rfl,o1,b2⟩;have g9:i1=A1.length:=o1.ints.capLe.1;subst g9;have B2:=B1.after b2 B1.size;have K2:=K2.keep b2;have I:=I.keep b2;have O:=O.keep b2;clear G1 B1 b2;have J1:=aP.new w2 29 #[N,aA p1 A1.length q1];have h1:=o1.ints.alloc (.cells #[N,aA p1 A1.length q1] 29);have M:=B2.alloc B2.size (.cells #[N,aA p1 A1.length q1] 29);have c9:=K2.alloc (.cells #[N,aA p1 A1.length q1] 29);have F:=O.alloc (.cells #[N,aA p1 A1.length q1] 29);have D:=I.alloc (.cells #[N,aA p1 A1.length q1] 29);have G1:=c9.cell;go_wp2_with fail;refine(g0.out _ (e7.below M aI)).mono ?_;rintro e w3 ⟨p2,i2,q2,rfl,o2,b3⟩;have h0:i2=Z.length:=o2.ints.capLe.1;subst h0;have B3:=M.after b3 M.size;have O:=F.keep b3;have I:=D.keep b3;have J1:=J1.keep b3;have h1:=h1.keep b3;clear G1 B2 M K2 c9 F D b3;have J2:=aP.new w3 29 #[N,aA p2 Z.length q2];have h2:=o2.ints.alloc (.cells #[N,aA p2 Z.length q2] 29);have J:=B3.alloc B3.size (.cells #[N,aA p2 Z.length q2] 29);have F:=O.alloc (.cells #[N,aA p2 Z.length q2] 29);have D:=I.alloc (.cells #[N,aA p2 Z.length q2] 29);have a7:=J1.alloc (.cells #[N,aA p2 Z.length q2] 29);have a9:=h1.alloc (.cells #[N,aA p2 Z.length q2] 29);have G1:=F.cell;have z1:=F.lt;go_wp2_with fail;refine bU ?_;intro V hV;rw[<-hV]at J2 h2 J D a7 a9;have hc:=ZH V N aD 294 LN w2.heap.size w3.heap.size (fun s=>mS l s&&mS k s) (fun s W' hs hB=>ae5 W' w2.heap.size w3.heap.size s (2^N) (mS l) (mS k) N N _ _ (by rw[<-HA.out.1];exact a9.keep hB) (by rw[<-HA.out.2];exact h2.keep hB) h5 hs (a7.keep hB) (J2.keep hB));clear hV G1 z1;refine hc.mono ?_;rintro e w4 ⟨p4,i4,q4,rfl,o4,b4⟩;have B4:=J.after b4 J.size;have K4:=D.keep b4;have z4:=K4.lt;have z3:=D.lt;have y4:=J.size;have G2:=K4.cell;have F2:=K4.frozen;clear D a7 J2 a9 h2 hc F O I J1 h1 B3 J;go_wp2;refine bN ?_;intro Wf z;have a8:aP Wf (w.heap.size+1+1) 29 #[N,aA p4 i4 q4]:=by
   rw[z];have:=(K4.set 0 (aG N)).set 1 (aA p4 i4 q4);simpa using this
  have Bf:Below w w Wf:=by rw[z];exact Below.setCell (Below.setCell B4 (by first|omega|(simp;done)|(simp;omega)) _) (by first|omega|(simp;done)|(simp;omega)) _
  have of:aM 3 w Wf (aA p4 i4 q4) (cD (fun s=>mS l s&&mS k s) (2^N)):=by rw[z];exact((o4.setBelow (by first|omega|(simp;done)|(simp;omega)) _).setBelow (by first|omega|(simp;done)|(simp;omega)) _).mono (by first|omega|(simp;done)|(simp;omega))
  have Gf:=a8.cell;clear z G2 F2;exact bodyPost_ret (v:=.tuple #[.agg #[N,aA p4 i4 q4],.bool true]) (by simp[results,results213,go_sem,Gf]) rfl ⟨p4,i4,q4,by rw[HN.out,HF.out],by rw[HL.out];exact of,Bf⟩
theorem P4(l:List Int)(v:Value)(w:World)(S:aK w v l)(c:FuncId)(he:∀args w,(callFunc c args).run prog w=.ok (.enter c args) w)(g1 O g3:Nat)(P:Int->Bool)
  (hw:∀(t:Int) W',t∈l->Below w w W'->Calls prog c #[t,.pointer (some ⟨g1,0,none⟩),.pointer (some ⟨O,0,none⟩),.pointer (some ⟨g3,0,none⟩)] W' fun e K=>e=.returned (.bool (P t))/\Below W' W' K):
  Calls prog 355 #[v,.func (.func c) #[] #[.pointer (some ⟨g1,0,none⟩),.pointer (some ⟨O,0,none⟩),.pointer (some ⟨g3,0,none⟩)]] w fun e w'=>(∃i:Int,e=.returned i/\(0<=i↔l.any P=true)/\-1<=i/\i<=9223372036854775807)/\Below w w w':=by
 exact anA
theorem J6(l:List Int)(v:Value)(w:World)(D:aK w v l)(c:FuncId)(z:∀args w,(callFunc c args).run prog w=.ok (.enter c args) w)(g1 F g3:Nat)(P:Int->Bool)
  (hw:∀(t:Int) W',t∈l->Below w w W'->Calls prog c #[t,.pointer (some ⟨g1,0,none⟩),.pointer (some ⟨F,0,none⟩),.pointer (some ⟨g3,0,none⟩)] W' fun e J=>e=.returned (.bool (P t))/\Below W' W' J):
  Calls prog 310 #[v,.func (.func c) #[] #[.pointer (some ⟨g1,0,none⟩),.pointer (some ⟨F,0,none⟩),.pointer (some ⟨g3,0,none⟩)]] w fun e w'=>e=.returned (.bool (l.any P))/\Below w w w':=by
 have hcl:=P4 l v w D c z g1 F g3 P hw;exact ag7
theorem G8:∀args w,(callFunc 356 args).run prog w=.ok (.enter 356 args) w:=enters_of func356 aO rfl
theorem ZR(w:World)(g1 Y g3:Nat)(g:Int)(l:List Int)(v:Value)(a e d:Nat)(Z:aK w v l)(D:l.Pairwise (· < ·))(hl:l.length<=1048576)
  (d0:w.cell? ⟨g1,0,none⟩=some (aG g)) (d1:w.cell? ⟨g1,1,none⟩=some v) (d2:w.cell? ⟨Y,0,none⟩=some (aG (a:Int))) (d3:w.cell? ⟨g3,0,none⟩=some (aG (e:Int)))
  (ha:a<64) (he:e<6) (hd:d<6):
  Calls prog 356 #[(d:Int),.pointer (some ⟨g1,0,none⟩),.pointer (some ⟨Y,0,none⟩),.pointer (some ⟨g3,0,none⟩)] w fun r w'=>r=.returned (.bool (CI l (a:Int) (e:Int) (d:Int)))/\Below w w w':=by
 obtain⟨p,c,rfl⟩:=Z.shape;have I:=cJ e 5 aD;have F:=cJ d 5 aD;have S:=I.1;have a9:=I.2;have R:=F.1;have a8:=F.2;simp at S R;have b0:wrap64 ((2:Int)^e)=2^e:=by unfold wrap64;omega
 have b3:wrap64 ((2:Int)^d)=2^d:=by unfold wrap64;omega
 have N:=lA (a:=(a:Int)) (b:=2^e) aD aD aD aD;have hy:=mY (a:Int) (2^e) 64 aD aD;have K:CI l (a:Int) (e:Int) (d:Int)=gQ l (eH (cG (a:Int) (2^e)) (2^d)):=by unfold CI;rw[Int.toNat_natCast,Int.toNat_natCast]
 obtain⟨y,J⟩:=aJ (cG (a:Int) (2^e));rw[<-J]at N hy K;have O:=sJ (a:=y) (b:=2^d) aD aD aD aD;obtain⟨z,hz⟩:=aJ (eH y (2^d));rw[<-hz]at O K;have hcl:=zK g l _ z w Z D hl;have M:=aH hcl;have HX:=aH K;clear hcl D K hz J I F;go_enter func356,ntmps356;go_wp2_with fail;refine M.out.mono ?_;rintro r w1 ⟨rfl,b1⟩;go_wp2;go_ret;exact⟨aW HX.out.symm,b1⟩
theorem PX(w:World)(g:Int)(v:Value)(l:List Int)(hv:aK w v l)(O:l.Pairwise (· < ·))(hl:l.length<=1048576)(a b:Int)(ha:0<=a/\a<64)(hb:0<=b/\b<64):
  Calls prog 312 #[.agg #[g,v],a,b] w fun r w'=>r=.returned (.bool (nN l a b))/\Below w w w':=by
 obtain⟨p,c,rfl⟩:=hv.shape;have k4:∀(fn:Fn) (first cap:Array Value) (w:World),(Instr.makeFunc fn first cap).run prog w=.ok (.func fn first cap) w:=fun _ _ _ _=>rfl;obtain⟨V,hV⟩:=aJ ((w.alloc (.cells #[g,aA p l.length c] 29)).alloc (.cells #[a] 3));have B:Below w w V:=gO hV;have K1:aP V w 29 #[g,aA p l.length c]:=gR hV;have K2:aP V (w.heap.size+1) 3 #[a]:=iP hV;have g7:=lA ha.1 ha.2 hb.1 hb.2;have g8:=lA hb.1 hb.2 ha.1 ha.2;have a6:=mY a b 64 ha.1 ha.2;have a7:=mY b a 64 hb.1 hb.2;have hx:nN l a b=(eK (cG a b)).all fun e=>(eK (cG b a)).any (CI l a e):=rfl;obtain⟨A,hA⟩:=aJ (cG a b);obtain⟨D,hD⟩:=aJ (cG b a);rw[<-hA]at g7 a6 hx;rw[<-hD]at g8 a7 hx;have Y:=fun W=>kS A W a6.1 a6.2;have R:=fun W=>kS D W a7.1 a7.2;have Z:=zX A;have a1:=zX D;have h6:=uS A;obtain⟨I,b6⟩:=aJ (eK A);obtain⟨J,b7⟩:=aJ (eK D);simp only[<-b6]at Y Z hx h6;simp only[<-b7]at R a1 hx;have F:∀(W:World) (ge e:Nat) (u:Value),e<6->aK W u J->aK W (aA p l.length c) l->aP W w 29 #[g,aA p l.length c]->aP W (w.heap.size+1) 3 #[a]->aP W ge 3 #[(e:Int)] ->
   Calls prog 310 #[u,.func (.func 356) #[] #[.pointer (some ⟨w,0,none⟩),.pointer (some ⟨w.heap.size+1,0,none⟩),.pointer (some ⟨ge,0,none⟩)]] W fun r w'=>r=.returned (.bool (J.any (CI l a (e:Int))))/\Below W W w':=by
  intro W ge e u he h1 h2 k1 k2 k3;refine J6 J u W h1 356 G8 _ _ _ (CI l a (e:Int)) ?_;intro t W' ht hB;obtain⟨d,hd,_,rfl⟩:=(a1 t).1 ht;obtain⟨n,rfl⟩:∃n:Nat,a=(n:Int):=⟨a.toNat,by omega⟩;exact ZR W' _ _ _ g l _ n e d (h2.keep hB) O hl ((k1.keep hB).cell 0) ((k1.keep hB).cell 1) ((k2.keep hB).cell 0) ((k3.keep hB).cell 0) aD he hd
 have HV:=aH hV;have e8:=aH Y;have e7:=aH R;have f2:=aH Z;have e6:=aH F;have HX:=aH hx;clear hV Y R Z a1 F hx hA hD b6 b7 O;have z1:=K1.lt;have z2:=K2.lt;have G:=K2.cell;go_enter func312,ntmps312;go_wp2_with fail;rw[HV.out.symm];refine(e8.out V).mono ?_;rintro r w1 ⟨pa,ia,qa,rfl,o1,b1⟩;have h5:ia=I.length:=o1.ints.capLe.1;subst h5;have B1:=B.after b1 B.size;have f4:=K1.keep b1;have f8:=K2.keep b1;obtain⟨_,bb,k9,_,h7,_,c7,hc,g9⟩:=o1.ints.view prog 25 3 underlying25 aN;injection h7 with x1 _ x3;subst x1 x3;have HC:=aH hc;have f0:=aH c7;clear G hc c7 o1;go_wp2_with fail;go_loopw [15] (fun iv wr=>∃j:Nat,j<=I.length/\iv=aG j/\(I.take j).all (fun e=>J.any (CI l a e))=true/\Below w1 w1 wr) (fun iv _=>I.length-(intOf iv).toNat)
 case atStart=>
  trace_state
  exact⟨0,Nat.zero_le _,rfl,by simp,Below.refl _ _⟩
 case round=>
  obtain⟨j,hj,rfl,N,Bw⟩:=hrel;have K:=aH N;clear N;have B2:=B1.after Bw B1.size;have f5:=f4.keep Bw;have f9:=f8.keep Bw;have z3:=Bw.size;by_cases hlt:j<I.length
  ·have c8:(j:Int)<(I.length:Int):=aD;have ck:=aR HC.out g9 Bw aI j hlt;have ik:=fun W=>f0.out W j hlt;obtain⟨e,he,_,S⟩:=(f2.out _).1 (List.getElem_mem hlt);have c9:(I.take (j+1)).all (fun e=>J.any (CI l a e))=J.any (CI l a (e:Int)):=by rw[List.take_succ_eq_append_getElem hlt,List.all_append,K.out,S];simp
   rw[S]at ck;have f3:=aH c9;clear c9;have f6:aP (wr.alloc (.cells #[(e:Int)] 3)) w.heap.size 29 #[g,aA p l.length c]:=f5.alloc _;have b3:aP (wr.alloc (.cells #[(e:Int)] 3)) (w.heap.size+1) 3 #[a]:=f9.alloc _;have g0:aP (wr.alloc (.cells #[(e:Int)] 3)) wr.heap.size 3 #[(e:Int)]:=aP.new _ _ _;have B3:Below w1 w1 (wr.alloc (.cells #[(e:Int)] 3)):=Bw.alloc z3 _;have G:=b3.cell;go_wp2_with fail;refine(e7.out _).mono ?_;rintro r w4 ⟨pd,id,qd,rfl,o4,b4⟩;have c6:id=J.length:=o4.ints.capLe.1;subst c6;have B4:=B3.after b4 B3.size;have B5:=B1.after B4 B1.size;have F:=e6.out w4 wr.heap.size e _ he o4.ints (hv.below B5 aI) (f6.keep b4) (b3.keep b4) (g0.keep b4);obtain⟨z,hz⟩:=aJ (J.any (CI l a (e:Int)));rw[<-hz]at F;have M:=aH F;have HZ:=aH hz;clear F hz G
   cases z with
   |true=>
    go_wp2_with fail;refine M.out.mono ?_;rintro r w5 ⟨rfl,b5⟩;go_wp2;go_roundw
    case rel=>exact⟨j+1,by omega,by go_num,by rw[f3.out,<-HZ.out],B4.after b5 B4.size⟩
    case measure=>simp[intOf];omega
   |false=>
    have b9:nN l a b=false:=by
     rw[HX.out]
     cases hh:(I.all fun e=>J.any (CI l a e)) with
     |false=>rfl
     |true=>
      have:=List.all_eq_true.1 hh _ (List.getElem_mem hlt);rw[S,<-HZ.out]at this
      cases this
    have e9:=aH b9;clear b9;go_wp2_with fail;refine M.out.mono ?_;rintro r w5 ⟨rfl,b5⟩;go_wp2;go_ret;exact⟨aW e9.out.symm,B5.after b5 B5.size⟩
  ·have c8:¬(j:Int)<(I.length:Int):=aD;have hh:=K.out;rw[List.take_of_length_le aD]at hh;have HH:=aH hh;clear hh;go_wp2;go_ret;exact⟨aW (by rw[HX.out,HH.out]),B2⟩
end
end Go.Proofs.YtkdbkjjacgigiaaGreatDoor
