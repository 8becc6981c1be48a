/- Lemmas for CardReports. No condition. -/
import Derived.Test.YtcpoomdoodlkjaaGreatDoorQ10
set_option maxRecDepth 100000
set_option maxHeartbeats 64000000
namespace Go.Proofs.YtcpoomdoodlkjaaGreatDoor
section
open Go.RowKit Go.G5 Go.Proofs.Tryz
def uI(w:World)(z:Nat)(n:Nat)(v:Value)(a:Option jU)(W:World):Prop:=
 Below w w W/\aU W w 26 #[n,v]/\match a with
  |none=>aU W (z) 24 #[()]
  |some t=>∃g,aU W (z) 24 #[aI (some ⟨g,0,none⟩) 3 3]/\aP 3 (z+1) W (aI (some ⟨g,0,none⟩) 3 3) (afE (some t))
theorem UL(w:World)(z:Nat)(n:Nat)(v:Value)(a:Option jU)(W W':World)(h:uI w z n v a W)(hb:Below W W W'):uI w z n v a W':=by
 obtain⟨h1,h2,h3⟩:=h;refine⟨h1.after hb h1.size,h2.keep hb,?_⟩
 cases a with
 |none=>exact aU.keep h3 hb
 |some t=>obtain⟨g,D,F⟩:=h3;exact⟨g,D.keep hb,F.keep hb⟩
theorem aP.lit3{E:TypeId}{B:Nat}(w:World)(hB:B<=w.heap.size)(x y z:Int)(F:dD x)(I:dD y)(J:dD z):aP E B (w.alloc (.cells #[x,y,z] E)) (aI (some ⟨w,0,none⟩) 3 3) [x,y,z]:=
 ⟨World.ownsRow_lit w #[x,y,z] 3 hB aY rfl,by
  intro q D;simp only[List.mem_cons,List.not_mem_nil,or_false]at D;rcases D with rfl|rfl|rfl<;>assumption⟩
theorem WJ(w:World)(J:Nat)(d6:w.heap.size<J)(n:Nat)(hn:n<=5)(l:List Int)(v:Value)(hv:aR w v l)(hl:l.length=2^n)(Y:∀k,(hk:k<l.length)->-1000<=l[k]/\l[k]<=1000)(a:Option jU)(s i k:Nat)(W:World)(hs:s<2^n)(d5:i<k)(hk:k<n)(hR:uI w J n v a W):
  Calls prog 261 #[s,i,k,.pointer (some ⟨w,0,none⟩),.pointer (some ⟨J,0,none⟩)] W fun e w'=>
   e=.returned (.bool (iW l a (s,i,k)).2)/\uI w J n v (iW l a (s,i,k)).1 w'/\GrownIn W w' (fun b=>b=J):=by
 obtain⟨B,Z,h3⟩:=hR;have d7:(2:Nat)^n<=32:=Nat.pow_le_pow_right (n:=2) aY hn;have hex:=I6 n hn l v W (hv.below B aO) hl Y s i k hs aK hk;have F:vD l (s,i,k)=decide (0<kM l s i k):=rfl;have b1:=RL n l hl Y s i k hs aK hk;obtain⟨av,cv,rfl⟩:=hv.shape;obtain⟨x,hx⟩:=aQ (kM l s i k);rw[<-hx]at hex F b1;have b5:dD (s:Int):=⟨by omega,by omega⟩;have b3:dD (i:Int):=⟨by omega,by omega⟩;have b4:dD (k:Int):=⟨by omega,by omega⟩;have G1:=Z.cell;have yB:=B.size;have O:=aN hex;have d9:s<32:=aK;clear hl Y hx hex hs;by_cases N:0<x
 ·have hb:vD l (s,i,k)=true:=by rw[F];exact decide_eq_true N
  have K:iW l a (s,i,k)=(some (s,i,k),false):=by unfold iW;rw[if_pos hb]
  have I:=aN K;have D:∃u,aU W (J) 24 #[u]:=by
   cases a with
   |none=>exact⟨_,h3⟩
   |some t=>obtain⟨g,k1,_⟩:=h3;exact⟨_,k1⟩
  obtain⟨u,D⟩:=D;have zo:=D.lt;clear F hb K h3;go_enter func261,ntmps261;go_wp2_with fail;refine O.out.mono ?_;rintro e w1 ⟨rfl,z⟩;have D:=D.keep z;have Z:=Z.keep z;have B1:=B.after z B.size;have y1:=z.size;have Go:=D.cell;have Fo:=D.frozen;have e5:=D.lt;clear G1;go_wp2;refine bG ?_;intro Wf R;obtain⟨W2,M⟩:=aQ (w1.setCell ⟨J,0,none⟩ (aI (some ⟨w1,0,none⟩) 3 3));rw[<-M]at R;have S:w1.grownBy W2 (some (J)):=by rw[M];exact dW (World.grownBy.refl _ _) 0 _
  have b7:W2.heap.size=w1.heap.size:=by rw[M];simp
  have KO:aU W2 (J) 24 #[aI (some ⟨w1,0,none⟩) 3 3]:=by rw[M];have:=D.set 0 (aI (some ⟨w1,0,none⟩) 3 3);simpa using this
  have KF:=Z.grow S (by intro h;have:=Option.some.inj h;omega);have BF:=B1.grown S B1.size kH;have ol:=aP.lit3 (E:=3) (B:=J+1) W2 aK s i k b5 b3 b4;rw[b7]at ol;have a7:=(GrownIn.of_below (P:=fun b=>b=J) z).trans ((GrownIn.of_row S (fun q hq=>(Option.some.inj hq).symm)).trans (GrownIn.of_below (bF W2 (.cells #[s,i,k] 3))));have KO:=KO.alloc (.cells #[s,i,k] 3);have KF:=KF.alloc (.cells #[s,i,k] 3);have BF:=BF.alloc BF.size (.cells #[s,i,k] 3);rw[<-R]at KO KF BF ol a7;clear R Go Fo;go_ret;refine⟨by rw[I.out];rfl,?_,a7⟩;rw[I.out];exact⟨BF,KF,_,KO,ol⟩
 ·have hb:vD l (s,i,k)=false:=by rw[F];exact decide_eq_false N
  have K:iW l a (s,i,k)=(a,a.isNone):=by unfold iW;rw[if_neg (by rw[hb];simp)]
  have I:=aN K;clear F hb K
  cases a with
  |none=>have D:aU W (J) 24 #[()]:=h3;have zo:=D.lt;clear h3;go_enter func261,ntmps261;go_wp2_with fail;refine O.out.mono ?_;rintro e w1 ⟨rfl,z⟩;have D:=D.keep z;have Go:=D.cell;clear G1;go_wp2;go_ret;refine⟨by rw[I.out];rfl,?_,GrownIn.of_below z⟩;rw[I.out];exact⟨B.after z B.size,Z.keep z,D⟩
  |some t=>obtain⟨g,D,ow⟩:=h3;have zo:=D.lt;go_enter func261,ntmps261;go_wp2_with fail;refine O.out.mono ?_;rintro e w1 ⟨rfl,z⟩;have D:=D.keep z;have Go:=D.cell;clear G1;go_wp2;go_ret;refine⟨by rw[I.out];rfl,?_,GrownIn.of_below z⟩;rw[I.out];exact⟨B.after z B.size,Z.keep z,g,D,ow.keep z⟩
theorem EA:∀args w,(callFunc 261 args).run prog w=.ok (.enter 261 args) w:=enters_of func261 aT rfl
theorem ahK(w:World)(n:Int)(v:Value)(l:List Int)(hv:aR w v l)(_:l.length<=1048576):
  Calls prog 168 #[.agg #[n,v]] w fun e w'=>∃ad i cp,e=.returned (.tuple #[aI ad i cp,.bool (nQ n l)])/\dR 3 w.heap.size w' (aI ad i cp) (qY n l)/\Below w w w':=by
 have S:=hv;obtain⟨a,c,rfl⟩:=hv.shape;have c9:∀(fn:Fn) (first cap:Array Value) (w:World),(Instr.makeFunc fn first cap).run prog w=.ok (.func fn first cap) w:=fun _ _ _ _=>rfl;have K0:=aU.new w 26 #[n,aI a l.length c]
 cases O:bM n l with
 |false=>
  have hr:nR n l=none:=by unfold nR;rw[O];rfl
  have hB:nQ n l=false:=by unfold nQ;rw[hr];rfl
  have K:qY n l=[]:=by unfold qY;rw[hr];rfl
  have H:=aN (And.intro hB K);have HF:=aN O;clear hr hB K O;go_enter func168,ntmps168;go_wp2_with (go_at_call 34;refine(dV n l _ _ (S.alloc _)).mono ?_;rintro e w1 ⟨rfl,D⟩;rw[HF.out]);go_ret2;exact⟨none,0,0,by rw[H.out.1];rfl,by rw[H.out.2];exact dR.nil _ _ _,(bF _ _).after D (by simp)⟩
 |true=>
  obtain⟨h0,h5,F,Z⟩:=lB O;obtain⟨N,rfl⟩:=Int.eq_ofNat_of_zero_le h0;have Y:N<=5:=aK;have R:l.length=2^N:=by
   have e2:(N:Int).toNat=N:=aK;rw[e2]at F
   exact_mod_cast F
  have hr:nR N l=zP N l:=by unfold nR;rw[O];rfl
  have M:∀J V,w.heap.size<J->uI w J N (aI a l.length c) none V->Calls prog 160 #[.agg #[N,aI a l.length c],.func (.func 261) #[] #[.pointer (some ⟨w,0,none⟩),.pointer (some ⟨J,0,none⟩)]] V fun e w'=>
    e=.returned (.tuple #[])/\uI w J N (aI a l.length c) (nR N l) w'/\GrownIn V w' (fun b=>b=J):=fun J V b0 hV=>by
   rw[hr];refine AQ N Y l _ R 261 EA _ _ (iW l) (uI w J N (aI a l.length c)) _ (UL w J N _) V ⟨a,c,rfl⟩ (fun b hb=>by have:=(hV.2.2:aU V J 24 #[()]).lt;omega) ?_ none hV;intro a' s i k W hs a9 hk _ _ I _;exact WJ w J b0 N Y l _ S R Z a' s i k W hs a9 hk I
  have HV:=aN M;have HF:=aN O;clear M hr O F Z R;go_enter func168,ntmps168;go_wp2_with fail;refine(dV N l _ _ (S.alloc _)).mono ?_;rintro e w1 ⟨rfl,D⟩;rw[HF.out];have K1:=K0.keep D;have B1:Below w w w1:=(bF _ _).after D (by simp);have G1:=K1.cell;have z1:=K1.lt;clear D K0;go_wp2_with fail;have R0:uI w w1.heap.size N (aI a l.length c) none (w1.alloc (.cells #[()] 24)):=⟨B1.alloc B1.size _,K1.alloc _,aU.new _ _ _⟩;refine(HV.out w1.heap.size _ z1 R0).mono ?_;rintro e w2 ⟨rfl,⟨B2,K2,z⟩,c8⟩;clear G1 R0
  cases I:nR N l with
  |none=>
   rw[I]at z;have Ko:aU w2 w1 24 #[()]:=z;have hB:nQ N l=false:=by unfold nQ;rw[I];rfl
   have K:qY N l=[]:=by unfold qY;rw[I];rfl
   have H:=aN (And.intro hB K);have Go:=Ko.cell;clear z I hB K;go_wp2_with fail;go_quiet (fail);go_wp2;go_ret2;exact⟨none,0,0,by rw[H.out.1];rfl,by rw[H.out.2];exact dR.nil _ _ _,B2.drewN' _⟩
  |some t=>
   rw[I]at z;obtain⟨g,Ko,ow⟩:=z;have hB:nQ N l=true:=by unfold nQ;rw[I];rfl
   have K:qY N l=afE (some t):=by unfold qY;rw[I]
   have H:=aN (And.intro hB K);have Go:=Ko.cell;have y1:=B1.size;clear I hB K;go_wp2_with fail;go_quiet (fail);go_wp2;go_ret2;exact⟨some ⟨g,0,none⟩,3,3,by rw[H.out.1];rfl,by rw[H.out.2];exact((ow.toW.mono aK).drewN _),B2.drewN' _⟩
theorem sD(n:Int)(l:List Int)(v:Value)(w:World)(O:aR w v l)(hl:l.length<=1048576):
  Calls prog 43 #[.agg #[n,v]] w fun e w'=>e=.returned (.bool (gR n l))/\Below w w w':=by
 have D:=O;obtain⟨a,c,rfl⟩:=O.shape;have R:=aU.new w 26 #[n,aI a l.length c];go_enter func43,ntmps43;go_wp2_with fail;refine(ahK _ n _ l (D.alloc _) hl).mono ?_;rintro e w1 ⟨p1,Z,q1,rfl,o1,z⟩;have S:=R.keep z;have J:Below w w w1:=(bF _ _).after z (by simp);have Y:=S.cell;go_wp2_with fail;refine(dV n l _ _ (D.below J aO)).mono ?_;rintro e w2 ⟨rfl,M⟩;have N:=J.after M J.size
 cases I:bM n l with
 |false=>
  have F:gR n l=false:=by unfold gR;rw[I];rfl
  have K:=aN F;clear F I;go_wp2;go_ret;exact⟨by rw[K.out];rfl,N⟩
 |true=>
  have F:gR n l=!nQ n l:=by unfold gR;rw[I];rfl
  have K:=aN F;clear F I;go_wp2;go_ret;exact⟨by rw[K.out];rfl,N⟩
theorem abO(n:Nat)(hn:n<=5)(l:List Int)(v:Value)(w:World)(hv:aR w v l)(hl:l.length=2^n)(D:∀k,(hk:k<l.length)->-1000<=l[k]/\l[k]<=1000)(s i k:Nat)(I:s<2^n)(hi:i<n)(hk:k<n):
  Calls prog 269 #[v,s,i,k] w fun e w'=>e=.returned (.bool (vD l (s,i,k)))/\Below w w w':=by
 obtain⟨a,b,c9,c,rfl,b5,z,hc,hb⟩:=hv.view prog 24 3 underlying24 aS;have h1:=eQ s i n I hi;have h2:=eQ s k n I hk;have h3:=eQ (bU s i) k n h1 hk;rw[<-oN]at h3;have p5:(2:Nat)^n<=32:=Nat.pow_le_pow_right (n:=2) aY hn;rw[<-hl]at h1 h2 h3 I p5;have c0:=hc s I;have c1:=hc _ h1;have c2:=hc _ h2;have c3:=hc _ h3;have i0:=fun W=>z W s I;have i1:=fun W=>z W _ h1;have i2:=fun W=>z W _ h2;have i3:=fun W=>z W _ h3;have b0:=D s I;have b1:=D _ h1;have b2:=D _ h2;have b3:=D _ h3;have hex:kM l s i k=l[bU s i ||| bU s k]+l[s]-l[bU s i]-l[bU s k]:=by unfold kM;rw[aX l _ h3,aX l _ I,aX l _ h1,aX l _ h2]
 have q1:=fZ s i aK aK;have q2:=fZ s k aK aK;have q3:=IR (bU s i) (bU s k) aK aK;have q4:=fZ (bU s i) k aK aK;rw[<-oN]at q4;obtain⟨u1,J⟩:=aQ (bU s i);obtain⟨u2,K⟩:=aQ (bU s k);simp only[<-J,<-K]at c1 c2 c3 i1 i2 i3 b1 b2 b3 hex q1 q2 q3 q4 h1 h2 h3;obtain⟨u3,M⟩:=aQ (u1 ||| u2);simp only[<-M]at c3 i3 b3 hex q3 q4 h3;obtain⟨Y,N⟩:=aQ (l[s]);obtain⟨x1,O⟩:=aQ (l[u1]);obtain⟨Z,R⟩:=aQ (l[u2]);obtain⟨x3,S⟩:=aQ (l[u3]);rw[<-N]at c0 b0 hex;rw[<-O]at c1 b1 hex;rw[<-R]at c2 b2 hex;rw[<-S]at c3 b3 hex;have pi:=cO i 6 aK;have pk:=cO k 6 aK;have d5:(2:Int)^i<=64:=by simpa using pi.1
 have d7:(2:Int)^k<=64:=by simpa using pk.1
 have d6:=pi.2;have d8:=pk.2;have wi:IntKind.i64.wrap ((2:Int)^i)=2^i:=by rw[IntKind.wrap_i64];omega
 have wk:IntKind.i64.wrap ((2:Int)^k)=2^k:=by rw[IntKind.wrap_i64];omega
 have w1:IntKind.i64.wrap (x3+Y)=x3+Y:=by rw[IntKind.wrap_i64];omega
 have w2:IntKind.i64.wrap (x1+Z)=x1+Z:=by rw[IntKind.wrap_i64];omega
 have F:vD l (s,i,k)=decide (x1+Z<x3+Y):=by
  unfold vD;simp only[hex];by_cases h:x1+Z<x3+Y
  ·rw[decide_eq_true h,decide_eq_true aK]
  ·rw[decide_eq_false h,decide_eq_false aK]
 have HB:=aN F;have z0:(0:Int)<=(s:Int):=aK;clear z hb D hex J K M N O R S pi pk q3 hc hl F;go_enter func269,ntmps269;go_wp2_with fail;go_quiet (fail);go_wp2;go_ret;exact⟨aZ HB.out.symm,(Below.refl _ _).drewN' _⟩
theorem vU(c s:Nat):(dO (c:Int) s==0)=!dC c s:=by
 have h:=uC c s;have h2:dO (c:Int) s=0∨dO (c:Int) s=1:=by unfold dO;omega
 rcases h2 with h2|h2
 ·rw[h2]at h ⊢;rw[<-h];rfl
 ·rw[h2]at h ⊢;rw[<-h];rfl
theorem aP.lit3'{E:TypeId}{B:Nat}(w:World)(hB:B<=w.heap.size)(x y z:Int)(F:dD x)(I:dD y)(J:dD z):aP E B (w.alloc (.cells #[x,y,z] E)) (aI (some ⟨w,0,none⟩) 3 3) [x,y,z]:=
 ⟨World.ownsRow_lit w #[x,y,z] 3 hB aY rfl,by
  intro q D;simp only[List.mem_cons,List.not_mem_nil,or_false]at D;rcases D with rfl|rfl|rfl<;>assumption⟩
theorem ahL(w:World)(n:Int)(v:Value)(l:List Int)(hv:aR w v l)(_:l.length<=1048576):
  Calls prog 176 #[.agg #[n,v]] w fun e w'=>∃ad i cp,e=.returned (.tuple #[aI ad i cp,.bool (nQ n l)])/\dR 3 w.heap.size w' (aI ad i cp) (qY n l)/\Below w w w':=by
 have b7:=hv;obtain⟨a,c,rfl⟩:=hv.shape;have K0:=aU.new w 26 #[n,aI a l.length c]
 cases hf:bM n l with
 |false=>
  have hr:nR n l=none:=by unfold nR;rw[hf];rfl
  have hB:nQ n l=false:=by unfold nQ;rw[hr];rfl
  have hL:qY n l=[]:=by unfold qY;rw[hr];rfl
  have H:=aN (And.intro hB hL);have HF:=aN hf;clear hr hB hL hf;go_enter func176,ntmps176;go_wp2_with fail;go_loopw [4] (fun i wr=>i=aM 0/\Below w w wr/\aU wr w 26 #[n,aI a l.length c]) (fun _ _=>0)
  case atStart=>exact⟨rfl,bF _ _,K0⟩
  case round=>obtain⟨rfl,B,K⟩:=hrel;have G1:=K.cell;go_wp2_with (go_at_call 51;refine(dJ n l _ _ (b7.below B aO)).mono ?_;rintro e w1 ⟨rfl,O⟩;rw[HF.out]);have B1:=B.after O B.size;go_ret2;exact⟨_,0,0,by rw[H.out.1];rfl,by rw[H.out.2];exact((aP.lit0 w1 aO).mono B1.size).toW,B1.alloc B1.size _⟩
 |true=>
  obtain⟨h0,h5,S,d8⟩:=lB hf;obtain⟨N,rfl⟩:=Int.eq_ofNat_of_zero_le h0;have d0:N<=5:=aK;have b5:l.length=2^N:=by
   have e2:(N:Int).toNat=N:=aK;rw[e2]at S
   exact_mod_cast S
  have f5:(2:Nat)^N<=32:=Nat.pow_le_pow_right (n:=2) aY d0;have g2:l.length<=32:=aK;have hr:nR N l=(gL (iW l) (jK N l.length) none).1:=by unfold nR zP;rw[hf,if_pos rfl];simp only[Int.toNat_natCast];rw[b5]
  have HR:=aN hr;have HF:=aN hf;have e7:=aN d8;have c5:=aN b5;clear hr hf S d8 b5 f5;go_enter func176,ntmps176;go_wp2_with fail;go_loopw [4] (fun i wr=>∃s:Nat,s<=l.length/\i=aM s/\gL (iW l) (jK N s) none=(none,true)/\Below w w wr/\aU wr w 26 #[N,aI a l.length c]) (fun i _=>l.length-(intOf i).toNat)
  case atStart=>exact⟨0,Nat.zero_le _,rfl,rfl,bF _ _,K0⟩
  case round=>
   obtain⟨s,hs,rfl,D,B,K⟩:=hrel;obtain⟨wo,rfl⟩:∃wo:World,wo=wr:=⟨_,rfl⟩;have c6:=aN D;clear D K0;have G1:=K.cell;go_wp2_with fail;refine(dJ N l _ _ (b7.below B aO)).mono ?_;rintro e w1 ⟨rfl,O⟩;rw[HF.out];have K:=K.keep O;have B1:=B.after O B.size;clear G1 O B;have G1:=K.cell;by_cases d9:s<l.length
   ·go_wp2_with fail
    go_loopw [5] (fun i wr=>∃k:Nat,k<=N/\i=aM k/\gL (iW l) (jK N s++kZ N s k) none=(none,true)/\Below w w wr/\aU wr w 26 #[N,aI a l.length c]) (fun i _=>N-(intOf i).toNat)
    case atStart=>exact⟨0,Nat.zero_le _,rfl,by rw[show kZ N s 0=[] from rfl,List.append_nil];exact c6.out,B1,K⟩
    case round=>
     obtain⟨i,hi,rfl,D,B2,K⟩:=hrel;obtain⟨wi,rfl⟩:∃wo:World,wo=wr:=⟨_,rfl⟩;have c7:=aN D;clear D G1;have G1:=K.cell;by_cases f4:i<N
     ·have F:=O3 s i (i+1) aO;have e8:=aN F;clear F;go_wp2_with fail;go_loopw [6] (fun i' wr=>∃k:Nat,i<k/\k<=N/\i'=aM k/\gL (iW l) ((jK N s++kZ N s i)++mI s i k) none=(none,true)/\Below w w wr/\aU wr w 26 #[N,aI a l.length c]) (fun i' _=>N-(intOf i').toNat)
      case atStart=>exact⟨i+1,by omega,by omega,by go_num,by rw[e8.out,List.append_nil];exact c7.out,B2,K⟩
      case round=>
       obtain⟨k,f3,hk,rfl,D,B3,K⟩:=hrel;obtain⟨wk,rfl⟩:∃wo:World,wo=wr:=⟨_,rfl⟩;have Y:=aN D;clear D G1;have G1:=K.cell;by_cases d6:k<N
       ·have f0:=jO (s:Int) i aK aK;have f2:=jO (s:Int) k aK aK;have J:=vU s i;have M:=vU s k;obtain⟨y,hy⟩:=aQ (dO (s:Int) i);obtain⟨z,hz⟩:=aQ (dO (s:Int) k);rw[<-hy]at f0 J;rw[<-hz]at f2 M;have b6:mI s i (k+1)=mI s i k++(if (decide (i<k)&&(!dC s i&&!dC s k)) then [(s,i,k)] else []):=rfl;rw[decide_eq_true f3,Bool.true_and]at b6;have b3:=aN b6;clear hy hz b6
        cases h1:dC s i with
        |true=>
         have f6:(y==0)=false:=by rw[J,h1];rfl
         have H1:=aN h1;clear h1 J M;go_wp2;go_roundw
         case rel=>exact⟨k+1,by omega,by omega,by go_num,by rw[b3.out,H1.out];simpa using Y.out,B3,K⟩
         case measure=>simp[intOf];omega
        |false=>
         have f6:(y==0)=true:=by rw[J,h1];rfl
         cases h2:dC s k with
         |true=>
          have f7:(z==0)=false:=by rw[M,h2];rfl
          have H2:=aN h2;clear h1 h2 J M;go_wp2;go_roundw
          case rel=>exact⟨k+1,by omega,by omega,by go_num,by rw[b3.out,H2.out];simpa using Y.out,B3,K⟩
          case measure=>simp[intOf];omega
         |false=>
          have f7:(z==0)=true:=by rw[M,h2];rfl
          have b0:mI s i (k+1)=mI s i k++[(s,i,k)]:=by rw[b3.out,h1,h2];rfl
          have R:=abO N d0 l _ wk (b7.below B3 aO) c5.out e7.out s i k (by rw[<-c5.out];exact d9) aK d6;have a9:gL (iW l) (((jK N s++kZ N s i)++mI s i k)++[(s,i,k)]) none=iW l none (s,i,k):=by rw[XN Y.out,T0]
          have b9:=aN R;have a7:=aN a9;have c9:=aN b0;clear h1 h2 J M R a9 b0
          cases hb:vD l (s,i,k) with
          |false=>
           have F:iW l none (s,i,k)=(none,true):=by unfold iW;rw[hb];rfl
           have c8:=aN F;have HB:=aN hb;clear F hb;go_wp2_with (go_at_call 269;refine b9.out.mono ?_;rintro e w4 ⟨rfl,Z⟩;rw[HB.out]);go_roundw
           case rel=>exact⟨k+1,by omega,by omega,by go_num,by rw[c9.out,<-List.append_assoc,a7.out,c8.out],B3.after Z B3.size,K.keep Z⟩
           case measure=>simp[intOf];omega
          |true=>
           have F:iW l none (s,i,k)=(some (s,i,k),false):=by unfold iW;rw[hb];rfl
           have I:nR N l=some (s,i,k):=by obtain⟨r,hr⟩:=D9 N l.length s i (k+1) d9 f4 d6;rw[HR.out,hr,c9.out,<-List.append_assoc,OT (a7.out.trans F)]
           have hB:nQ N l=true:=by unfold nQ;rw[I];rfl
           have hL:qY N l=[(s:Int),(i:Int),(k:Int)]:=by unfold qY;rw[I];rfl
           have H:=aN (And.intro hB hL);have HB:=aN hb;clear F hb I hB hL;go_wp2_with (go_at_call 269;refine b9.out.mono ?_;rintro e w4 ⟨rfl,Z⟩;rw[HB.out]);have B4:=B3.after Z B3.size;go_ret2;exact⟨_,3,3,by rw[H.out.1];rfl,by rw[H.out.2];exact(aP.lit3' w4 B4.size s i k ⟨by omega,by omega⟩ ⟨by omega,by omega⟩ ⟨by omega,by omega⟩).toW,B4.alloc B4.size _⟩
       ·have d7:k=N:=aK;subst d7;go_wp2;go_roundw
        case rel=>exact⟨i+1,by omega,by go_num,by rw[show kZ k s (i+1)=kZ k s i++mI s i k from rfl,<-List.append_assoc];exact Y.out,B3,K⟩
        case measure=>simp[intOf];omega
     ·have d5:i=N:=aK;subst d5;go_wp2;go_roundw
      case rel=>exact⟨s+1,by omega,by go_num,c7.out,B2,K⟩
      case measure=>simp[intOf];omega
   ·have e0:s=l.length:=aK;subst e0;have I:nR N l=none:=by rw[HR.out,c6.out]
    have hB:nQ N l=false:=by unfold nQ;rw[I];rfl
    have hL:qY N l=[]:=by unfold qY;rw[I];rfl
    have H:=aN (And.intro hB hL);clear I hB hL;go_wp2;go_ret2;exact⟨_,0,0,by rw[H.out.1];rfl,by rw[H.out.2];exact((aP.lit0 w1 aO).mono B1.size).toW,B1.alloc B1.size _⟩
theorem sE(n:Int)(l:List Int)(v:Value)(w:World)(O:aR w v l)(hl:l.length<=1048576):
  Calls prog 59 #[.agg #[n,v]] w fun e w'=>e=.returned (.bool (gR n l))/\Below w w w':=by
 have D:=O;obtain⟨a,c,rfl⟩:=O.shape;have R:=aU.new w 26 #[n,aI a l.length c];go_enter func59,ntmps59;go_wp2_with fail;refine(ahL _ n _ l (D.alloc _) hl).mono ?_;rintro e w1 ⟨p1,Z,q1,rfl,o1,z⟩;have S:=R.keep z;have J:Below w w w1:=(bF _ _).after z (by simp);have Y:=S.cell;go_wp2_with fail;refine(dJ n l _ _ (D.below J aO)).mono ?_;rintro e w2 ⟨rfl,M⟩;have N:=J.after M J.size
 cases I:bM n l with
 |false=>
  have F:gR n l=false:=by unfold gR;rw[I];rfl
  have K:=aN F;clear F I;go_wp2;go_ret;exact⟨by rw[K.out];rfl,N⟩
 |true=>
  have F:gR n l=!nQ n l:=by unfold gR;rw[I];rfl
  have K:=aN F;clear F I;go_wp2;go_ret;exact⟨by rw[K.out];rfl,N⟩
end
end Go.Proofs.YtcpoomdoodlkjaaGreatDoor
