/- Lemmas for CardClaims, part 34 of 52. No condition. -/
import Derived.Test.YtipejodijbjpcaaGreatDoorQ06
import Derived.Test.YtipejodijbjpcaaGreatDoorQ16
import Derived.Test.YtipejodijbjpcaaGreatDoorQ30
set_option maxRecDepth 100000
set_option maxHeartbeats 64000000
namespace Go.Proofs.YtipejodijbjpcaaGreatDoor
section
open Go.RowKit Go.G5
theorem UH(N:Nat)(s:Int):cM s 0 (2^N-1)=bO N s:=by
 unfold cM bO
 congr 1
 rw[Bool.eq_iff_iff,decide_eq_true_eq,decide_eq_true_eq];omega
theorem sB(w:World)(n:Int)(v:Value)(l:List Int)(Q:aD w v l)(s:Int):
  Calls Tryz.prog 185 #[.agg #[.int .i64 n,v],.int .i64 s] w fun e w'=>e=.returned (.bool (aN n l&&bO n.toNat s))/\Below w.heap.size w w':=by
 obtain⟨a,c,rfl⟩:=Q.shape;have R:=aB.new w 32 #[.int .i64 n,.slice a l.length c]
 cases z:aN n l with
 |false=>
  have F:=Lib.hid z;clear z;go_enter Tryz.func185,Tryz.ntmps185;go_wp2_with fail;refine(cI n l _ _ (Q.alloc _)).mono ?_;rintro e S ⟨rfl,D⟩;rw[F.out];go_wp2;go_ret;exact⟨rfl,(aM _ _).after D (by simp)⟩
 |true=>
  obtain⟨N,rfl,U,L,M,O⟩:=bN z;have F:=Lib.hid z;have A:=fun W=>cT N W (by omega);have o:=fun W=>aR s 0 (2^N-1) W;simp only[UH]at o;have I:=Lib.hid A;have K:=Lib.hid o;clear z A o L M O;go_enter Tryz.func185,Tryz.ntmps185;go_wp2_with fail;refine(cI _ l _ _ (Q.alloc _)).mono ?_;rintro e S ⟨rfl,D⟩;rw[F.out];have G:=(R.keep D).cell;go_wp2_with (first|(go_at_call 187;refine(I.out _).mono ?_;rintro e w' ⟨rfl,rfl⟩)|(go_at_call 188;refine(K.out _).mono ?_;rintro e w' ⟨rfl,rfl⟩));go_ret;exact⟨by simp,(aM _ _).after D (by simp)⟩
theorem UB(x:List Int)(h:∀k,(o:k<x.length)->-5000<=x[k]/\x[k]<=5000):∀k,k<=x.length->-5000*(k:Int)<=mH x k/\mH x k<=5000*(k:Int):=by
 intro k
 induction k with
 |zero=>intro _;simp[mH]
 |succ k ih=>
  intro o;have h1:=ih (by omega);have h2:=h k (by omega);rw[mH,aJ x k (by omega)];omega
theorem OL(w:World)(n:Int)(v:Value)(l:List Int)(hv:aD w v l)(u:Value)(x:List Int)(hu:aD w u x):
  Calls Tryz.prog 184 #[.agg #[.int .i64 n,v],u] w fun e w'=>e=.returned (.bool (gR n l x))/\Below w.heap.size w w':=by
 obtain⟨a,c,rfl⟩:=hv.shape;have b5:=hu;obtain⟨au,b,g4,cu,rfl,f4,a7,hc,hb⟩:=hu.view Tryz.prog 22 3 Tryz.underlying22 aG;have K0:=aB.new w 32 #[.int .i64 n,.slice a l.length c]
 cases o:dZ n l x with
 |false=>
  have z:gR n l x=false:=by unfold gR;rw[o];rfl
  have HX:=Lib.hid z;have HB:=Lib.hid o;clear z o;go_enter Tryz.func184,Tryz.ntmps184;go_wp2_with fail;refine(lQ _ n _ l (hv.alloc _) _ x (b5.alloc _)).mono ?_;rintro e w1 ⟨rfl,Z⟩;rw[HB.out];go_wp2;go_ret;exact⟨aE HX.out.symm,(aM _ _).after Z (by simp)⟩
 |true=>
  obtain⟨hf,a9⟩:=jQ o;obtain⟨N,rfl,hN,b0,e5,L⟩:=bN hf;obtain⟨e6,U⟩:=iV a9;have z:gR (N:Int) l x=(x.all (fun y=>decide (y<=0))&&mH x x.length==cO l):=by
   unfold gR;rw[o,Int.toNat_natCast,T9 x N hN (by omega),show x.length=N by omega];rfl
  have b4:=UB x U;have I:0<l.length:=by rw[b0];exact Nat.two_pow_pos N
  have Q:=fun W (h:aD W (.slice a l.length c) l)=>nM W (N:Int) _ l h I;obtain⟨M,hM⟩:∃P,P=cO l:=⟨_,rfl⟩;rw[<-hM]at z;simp only[<-hM]at Q;have HX:=Lib.hid z;have HB:=Lib.hid o;have c7:=Lib.hid Q;have c8:=Lib.hid b4;have e0:=Lib.hid U;have HC:=Lib.hid hc;have c6:=Lib.hid a7;have g3:x.length<=5:=by omega
  clear z o Q b4 U hc a7 hM b0 e5 L e6 hf a9 I;go_enter Tryz.func184,Tryz.ntmps184;go_wp2_with fail;refine(lQ _ _ _ l (hv.alloc _) _ x (b5.alloc _)).mono ?_;rintro e w1 ⟨rfl,Z⟩;rw[HB.out];have Y:Below w.heap.size w w1:=(aM _ _).after Z (by simp);have K1:=K0.keep Z;clear K0 Z;have G:=K1.cell;go_wp2_with fail;go_loop [5,6] (fun sv iv=>∃j:Nat,j<=x.length/\iv=.int .i64 j/\sv=.int .i64 (mH x j)/\(x.take j).all (fun y=>decide (y<=0))=true) (fun _ iv=>x.length-(intOf iv).toNat)
  case atStart=>exact⟨0,Nat.zero_le _,rfl,rfl,rfl⟩
  case round=>
   obtain⟨j,hj,rfl,rfl,F⟩:=hrel;have L:=c8.out j hj;have D:=Lib.hid F;clear F
   by_cases hlt:j<x.length
   ·have b3:(j:Int)<(x.length:Int):=by omega
    have ck:=aK HC.out hb Y (Nat.le_refl _) j hlt;have ik:=fun W=>c6.out W j hlt;have e7:=e0.out j hlt;have R:=dD (fun y:Int=>decide (y<=0)) x j hlt;have O:=gB (fun y:Int=>decide (y<=0)) x j hlt;have A:mH x (j+1)=mH x j+x[j]:=by rw[mH,aJ x j hlt]
    obtain⟨y,hy⟩:∃y,y=x[j]:=⟨_,rfl⟩;obtain⟨S,hS⟩:∃S,S=mH x j:=⟨_,rfl⟩;rw[<-hy]at ck e7 R O A;rw[<-hS]at L A ⊢;have c9:=Lib.hid A;have d0:=Lib.hid R;have c5:=Lib.hid O;have g2:IntKind.i64.wrap (S+y)=S+y:=by rw[IntKind.wrap_i64];omega
    clear hy hS A R O
    by_cases hp:0<y
    ·have z:gR (N:Int) l x=false:=by rw[HX.out,c5.out (by rw[decide_eq_false_iff_not];omega)];rfl
     have K:=Lib.hid z;clear z;go_wp2;go_ret;exact⟨aE K.out.symm,Y⟩
    ·have a6:(x.take (j+1)).all (fun y=>decide (y<=0))=true:=by rw[d0.out,D.out,decide_eq_true (show y<=0 by omega)];rfl
     have b8:=Lib.hid a6;clear a6;go_wp2;go_round
     case rel=>exact⟨j+1,by omega,by go_num,by rw[c9.out],b8.out⟩
     case measure=>simp[intOf];omega
   ·have b3:¬(j:Int)<(x.length:Int):=by omega
    have a8:j=x.length:=by omega
    have z:gR (N:Int) l x=(mH x j==M):=by rw[HX.out,<-eH _ x j (by omega),D.out,a8];rfl
    obtain⟨S,hS⟩:∃S,S=mH x j:=⟨_,rfl⟩;rw[<-hS]at z ⊢;have K:=Lib.hid z;clear z hS a8;go_wp2_with fail;refine(c7.out w1 (hv.below Y (Nat.le_refl _))).mono ?_;rintro e w2 ⟨rfl,b2⟩;go_wp2;go_ret;exact⟨aE K.out.symm,Y.after b2 Y.size⟩
theorem sJ(w:World)(n:Int)(v:Value)(l:List Int)(hv:aD w v l)(u:Value)(x:List Int)(hu:aD w u x):
  Calls Tryz.prog 58 #[.agg #[.int .i64 n,v],u] w fun e w'=>e=.returned (.bool (hH n l x))/\Below w.heap.size w w':=by
 obtain⟨a,b,R,c,rfl,Y,L,hc,hb⟩:=hv.view Tryz.prog 22 3 Tryz.underlying22 aG;obtain⟨au,cu,rfl⟩:=hu.shape;have K0:=aB.new w 32 #[.int .i64 n,.slice a l.length c];have a7:=hv.alloc (.cells #[.int .i64 n,.slice a l.length c] 32);have M:=hu.alloc (.cells #[.int .i64 n,.slice a l.length c] 32);have S:=aM w (.cells #[.int .i64 n,.slice a l.length c] 32);obtain⟨U,A⟩:∃W,W=w.alloc (.cells #[.int .i64 n,.slice a l.length c] 32):=⟨_,rfl⟩;rw[<-A]at K0 S a7 M;have G0:=K0.cell;have e0:∀y:Ext U,y.w.cell? ⟨w.heap.size,0,none⟩=some (.int .i64 n):=fun y=>y.cell (G0 0);have e1:∀y:Ext U,y.w.cell? ⟨w.heap.size,1,none⟩=some (.slice a l.length c):=fun y=>y.cell (G0 1);have QB:=Lib.hid (fun y:Ext U=>lQ y.w n _ l (y.ints a7) _ x (y.ints M))
 cases o:dZ n l x with
 |false=>
  have Q:hH n l x=false:=by unfold hH;rw[o];rfl
  simp only[o]at QB;have HX:=Lib.hid Q;have F:=Lib.hid A;clear Q o A G0 L hc hb K0;go_enter Tryz.func58,Tryz.ntmps58;go_wp2_with fail;rw[F.out.symm];refine aO _ (by kernel_rfl) (by kernel_rfl) ?_
  repeat(first|go_big_quiet_skip|(go_big_quiet_want;go_big_quiet_op;first|go_big_quiet_on|(apply Exists.intro;refine⟨fun _=>?_,?_⟩;(go_at_call 198;exact aV (QB.out _));go_big_quiet_on)))
  refine wpQuiet_nil ?_;rintro w3 ⟨⟨w3,K⟩,rfl⟩
  try dsimp only
  go_wp2;go_ret;exact⟨aE HX.out.symm,S.after K S.size⟩
 |true=>
  simp only[o]at QB;obtain⟨hf,Z⟩:=jQ o;obtain⟨N,rfl,hN,b7,c5,b5⟩:=bN hf;obtain⟨c6,a8⟩:=iV Z;have b9:=Nat.two_pow_pos N;have a6:((2:Int)^N)=((2^N:Nat):Int):=by simp
  have D:l.length-1<l.length:=by omega
  have Q:hH (N:Int) l x=(wt x (2^N-1)==l[l.length-1]):=by
   unfold hH aS;have e1:((2:Int)^N-1).toNat=l.length-1:=by rw[a6];omega
   rw[o,Int.toNat_natCast,e1,aJ l _ D,Bool.true_and,Bool.eq_iff_iff,beq_iff_eq,beq_iff_eq];omega
  have hp:=bJ N 5 hN;have b8:=hp.1;have f2:=hp.2;simp at b8;have ck:=aK hc hb S (Nat.le_refl _) (l.length-1) D;have ik:∀W,(Instr.indexAt 22 (.slice a l.length c) (.int .i64 ((l.length:Int)-1))).run Tryz.prog W=.ok (.pointer (some ⟨b,R+(l.length-1),none⟩)) W:=fun W=>by
   have:=L W (l.length-1) D;rw[show((l.length-1:Nat):Int)=(l.length:Int)-1 by omega]at this;exact this
  have f3:IntKind.i64.wrap ((l.length:Int)-1)=(l.length:Int)-1:=by rw[IntKind.wrap_i64];omega
  obtain⟨y,hy⟩:∃y,y=l[l.length-1]:=⟨_,rfl⟩;rw[<-hy]at Q ck;have O:=fun z:Ext U=>gS x (.slice au x.length cu) (2^N-1) z.w (z.ints M) (by omega) (by omega) (fun k hk=>by have:=a8 k hk;omega) (by omega);obtain⟨Wt,I⟩:∃P,P=wt x (2^N-1):=⟨_,rfl⟩;rw[<-I]at Q;simp only[<-I]at O;have e2:∀z:Ext U,z.w.cell? ⟨b,R+(l.length-1),none⟩=some (.int .i64 y):=fun z=>z.cell ck;obtain⟨p,hp⟩:∃p,p=R+(l.length-1):=⟨_,rfl⟩;rw[<-hp]at ik e2;have HX:=Lib.hid Q;have F:=Lib.hid A;have QF:=Lib.hid (fun z:Ext U=>cT N z.w (by omega));have QW:=Lib.hid O;clear Q o A G0 L hc hb K0 b7 c5 b5 c6 a8 hf Z b9 a6 D ck hy I hp O Y;go_enter Tryz.func58,Tryz.ntmps58;go_wp2_with fail;rw[F.out.symm];refine aO _ (by kernel_rfl) (by kernel_rfl) ?_
  repeat(first|go_big_quiet_skip|(go_big_quiet_want;go_big_quiet_op;first|go_big_quiet_on|(apply Exists.intro;refine⟨fun _=>?_,?_⟩;(first|(go_at_call 198;exact aV (QB.out _))|(go_at_call 187;exact aX (QF.out _))|(go_at_call 186;exact aX (QW.out _)));go_big_quiet_on)))
  refine wpQuiet_nil ?_;rintro w3 ⟨⟨w3,K⟩,rfl⟩
  try dsimp only
  go_wp2;go_ret;exact⟨aE HX.out.symm,S.after K S.size⟩
end
end Go.Proofs.YtipejodijbjpcaaGreatDoor
section
namespace Go.G5
open Go Go.RowKit
theorem xG{w w':World}{P:Nat->Prop}(o:GrownIn w w' P){p:Addr}{v:Value}(d:w.cell? p=some v)(z:¬P p.block):w'.cell? p=some v:=by
 have e:=o.block p.block (World.block_lt_of_cell? w p d) z;unfold World.cell? at d ⊢;rw[e];exact d
theorem S1{P:Program}{E:TypeId}{B:Nat}{w:World}{a:Option Addr}{n c:Nat}{l:List Int}(h:aC E B w (.slice a n c) l)(T:TypeId)(A:P.underlying T=some (.slice E))(N:IntElem P E)(M:l≠[]):
  ∃g,B<=g/\g<w.heap.size/\(∀(W:World) (k:Nat),k<l.length->(Instr.indexAt T (.slice a n c) (.int .i64 (k:Int))).run P W=.ok (.pointer (some ⟨g,k,none⟩)) W)/\∀k,(h:k<l.length)->w.cell? ⟨g,k,none⟩=some (.int .i64 l[k]):=by
 have z:P.elem T=E:=by simp[Program.elem,A]
 obtain⟨i,L,_,o,_⟩:=N.get;have F:=h
 rcases h.cases with⟨_,e⟩|⟨g,cap,e,I,K⟩
 ·exact absurd e M
 ·simp only[Value.slice.injEq]at e
  obtain⟨rfl,rfl,rfl⟩:=e;refine⟨g,I,K,fun W k D=>?_,fun k D=>F.cellAt rfl k D⟩;rw[run_indexAt_slice W T ⟨g,0,none⟩ l.length c .i64 k (by rw[z];exact A),if_pos ⟨by omega,by omega⟩,z];simp[sizeOf,typeInfo,L,o,Addr.add];exact fun h=>h.symm
theorem FY{w wr K:World}{F:Nat}{v:Value}{n:Nat}(L:GrownIn w wr (fun k=>k=F))(o:Obj)(m:Nat)(A:((wr.drewN m).alloc o).grownBy K v.ownBlock)(M:∀k,v.ownBlock=some k->k=F∨n<=k)(I:n=w.heap.size:=by rfl):GrownIn w K (fun k=>k=F):=by
 subst I;have z:GrownIn w ((wr.drewN m).alloc o) (fun k=>k=F):=(L.trans (GrownIn.of_below ((Below.refl _ _).drewN' m))).trans (GrownIn.of_below (aM _ _));refine⟨A.os.trans z.os,A.tape.trans z.tape,A.output.trans z.output,Nat.le_trans z.size A.size,fun b hb D=>?_⟩;rw[A.block b (Nat.lt_of_lt_of_le hb z.size) (fun e=>by
  rcases M b e.symm with h|h
  ·exact D h
  ·omega)]
 exact z.block b hb D
theorem IK{w w':World}{z n:Nat}{v A:Value}(h:rF w' v A)(D:∀k,v.ownBlock=some k->k=z∨n<=k)(I:n<=w.heap.size)(F:w.heap.size<=w'.heap.size:=by simp):∀k,A.ownBlock=some k->k=z∨n<=k:=by
 intro k o
 rcases h with h|h
 ·exact D k (h▸o)
 ·rw[h]at o
  have:=Option.some.inj o;exact .inr (by omega)
end Go.G5
namespace Go.Proofs.YtipejodijbjpcaaGreatDoor
open Go.RowKit Go.G5
theorem CM(x:List Int)(v:Value)(w:World)(hv:aD w v x)(h5:x.length<=5)(hx:∀y∈x,-1000<=y/\y<=1000)(e0:iJ x=true):
  Calls Tryz.prog 296 #[v] w fun e w'=>∃ad i c,e=.returned (.tuple #[.slice ad i c,.bool true])/\aC 3 w.heap.size w' (.slice ad i c) (qC x)/\Below w.heap.size w w':=by
 obtain⟨a,b,m9,c,rfl,k5,f4,hc,hb⟩:=hv.view Tryz.prog 22 3 Tryz.underlying22 aG;have b0:=fun W (h:aD W (.slice a x.length c) x)=>uS x _ W h;have g1:tX x=cC x x.length:=by unfold tX;rw[e0];rfl
 simp only[e0,g1]at b0;have c5:=SR x;have b1:=kL x x.length;have c8:=fD x x.length;obtain⟨T,hT⟩:∃T,T=qC x:=⟨_,rfl⟩;have b9:T=eB x (cC x x.length) x.length:=hT;rw[<-hT];obtain⟨o,ho⟩:∃o,o=cC x x.length:=⟨_,rfl⟩;simp only[<-ho]at b0;rw[<-ho]at b1 c8 b9;simp only[<-ho]at c5;have h0:=Lib.hid c5;have HV:=Lib.hid hv;have HX:=Lib.hid hx;have HC:=Lib.hid hc;have e4:=Lib.hid f4;have h6:=Lib.hid b0;have e7:=Lib.hid b1;have I:=Lib.hid c8;have HT:=Lib.hid b9;have f6:=fun i (hi:i<=o.length)=>QJ o (fun e he=>by have:=b1 e he;omega) i hi;have e5:=Lib.hid f6;clear hc f4 b0 b1 c8 b9 hT f6 hx ho c5 g1 e0;have o0:=aC.lit0 (E:=3) (B:=w.heap.size) w (Nat.le_refl _);go_enter Tryz.func296,Tryz.ntmps296;go_wp2_with fail;refine(h6.out _ (HV.out.alloc _)).mono ?_;rintro e w2 ⟨po,io,qo,rfl,oo,b6⟩;have b2:Below w.heap.size w w2:=(aM _ _).after b6 (by simp);have o2:=o0.keep b6;have O:io=x.length:=by rw[<-I.out];exact oo.ints.capLe.1
 subst O;have j2:∃R:Nat,x≠[]->w.heap.size+1<=R/\R<w2.heap.size/\(∀(W:World) (k:Nat),k<x.length->(Instr.indexAt 22 (.slice po x.length qo) (.int .i64 (k:Int))).run Tryz.prog W=.ok (.pointer (some ⟨R,k,none⟩)) W)/\∀k,(h:k<o.length)->w2.cell? ⟨R,k,none⟩=some (.int .i64 o[k]):=by
  by_cases a8:x=[]
  ·exact⟨0,fun h=>absurd a8 h⟩
  ·have f9:o≠[]:=fun e=>a8 (List.eq_nil_of_length_eq_zero (by rw[<-I.out,e];rfl))
   obtain⟨R,q1,q2,q3,q4⟩:=S1 oo 22 Tryz.underlying22 aG f9;refine⟨R,fun _=>⟨by simpa using q1,q2,fun W k hk=>?_,q4⟩⟩;exact q3 W k (by rw[I.out];exact hk)
 obtain⟨R,g0⟩:=j2;have e6:=Lib.hid g0;clear o0 b6 oo g0;go_wp2_with fail;go_loopw [4,7,8] (fun ov sv iv wr=>∃(i:Nat) (p:Option Addr) (q m:Nat),i<=x.length/\iv=.int .i64 i/\sv=.int .i64 (jK o i)/\ov=.slice p q m/\aC 3 w.heap.size wr (.slice p q m) (eB x o i)/\(∀k,(Value.slice p q m).ownBlock=some k->k=w.heap.size∨w2.heap.size<=k)/\GrownIn w2 wr (fun k=>k=w.heap.size)) (fun _ _ iv _=>x.length-(intOf iv).toNat)
 case atStart=>exact⟨0,_,_,_,Nat.zero_le _,rfl,rfl,rfl,o2,fun k hk=>.inl (Option.some.inj hk).symm,GrownIn.refl _ _⟩
 case round=>
  obtain⟨i,p,q,m,hi,rfl,rfl,rfl,own,a7,gw⟩:=hrel;obtain⟨wo,rfl⟩:∃z:World,z=wr:=⟨_,rfl⟩;have M:=Lib.hid own;have m6:=b2.size;have a9:Below w.heap.size w wo:=Below.growIn b2 gw b2.size (by rintro k rfl;exact Nat.le_refl _);have zw:=gw.size;clear own
  by_cases hlt:i<x.length
  ·have f7:(i:Int)<(x.length:Int):=by omega
   have O:i<o.length:=by rw[I.out];exact hlt
   have a8:x≠[]:=fun e=>by rw[e]at hlt;simp at hlt
   have hq:=e6.out a8;have j8:wo.cell? ⟨R,i,none⟩=some (.int .i64 o[i]):=xG gw (hq.2.2.2 i O) (by show ¬R=w.heap.size;omega);have n0:=fun W=>hq.2.2.1 W i hlt;have hm:=e7.out _ (List.getElem_mem O);have f5:=e5.out i (by omega);have j1:=e5.out (i+1) (by omega);have Q:jK o (i+1)=jC (jK o i) (2^o[i].toNat):=by rw[jK,List.getD_eq_getElem?_getD,List.getElem?_eq_getElem O,Option.getD_some]
   have K:oC x o i=x.getD o[i].toNat 0:=by unfold oC;rw[aJ o i O]
   have c7:eB x o (i+1)=eB x o i++(if yM x o i then [jK o (i+1)] else []):=rfl;obtain⟨e,he⟩:∃e:Nat,o[i]=(e:Int):=⟨o[i].toNat,by omega⟩;rw[he]at j8 hm Q K;rw[Int.toNat_natCast]at Q K;have Y:e<x.length:=by omega
   rw[aJ x e Y]at K;have xe:=HC.out e Y;have k1:=aK HC.out hb a9 (Nat.le_refl _) e Y;have p1:=fun W=>e4.out W e Y;have j5:=HX.out _ (List.getElem_mem Y);obtain⟨X1,e8⟩:∃X1,X1=x[e]:=⟨_,rfl⟩;rw[<-e8]at k1 K j5;have hp:=bJ e 5 (by omega);have j4:=hp.1;have m4:=hp.2;simp at j4;obtain⟨s1,g2⟩:∃s,s=jK o i:=⟨_,rfl⟩;obtain⟨s2,d0⟩:∃s,s=jK o (i+1):=⟨_,rfl⟩;rw[<-g2]at f5 Q ⊢;rw[<-d0]at j1 Q c7;have m3:bits .or .i64 s1 (2^e)=s2:=by rw[Q];exact tB f5.1 (by omega) (by omega) (by omega)
   have b5:=Lib.hid d0;have b4:=Lib.hid c7;have m2:=JP x o i;have m5:IntKind.i64.wrap ((i:Int)+1)=(i:Int)+1:=by rw[IntKind.wrap_i64];omega
   have zo:=a9.size;have hcut:yM x o i=(i+1==o.length||oC x o (i+1) != oC x o i):=rfl;rw[K]at hcut;have g8:=Lib.hid K;clear xe e8 g2 d0 Q c7 K he hm hp hq
   by_cases N:i+1=x.length
   ·have f2:yM x o i=true:=by rw[hcut,I.out];simp[N]
    have ht:((i:Int)+1==(x.length:Int))=true:=by simp;omega
    have A:eB x o (i+1)=eB x o i++[s2]:=by rw[b4.out,f2];rfl
    have S:=Lib.hid A;clear f2 A hcut N;go_wp2_with fail;go_quiet (fail);go_wp2_with (at_builtin;refine bB rfl _ _ _ rfl 3 Tryz.underlying22 aG w.heap.size _ (eB x o i) s2 _ rfl rfl (aT _ _ _ _ _ rfl) ((M.out.drewN _).alloc _) ⟨by omega,by omega⟩ (by omega) (by simp;omega) ?_;intro v' w6 F c6 L;obtain⟨av,nv,cv,rfl⟩:=F.shape3);have G6:=FY gw (.cells #[.int .i64 s2] 3) _ c6 a7;have N6:=IK L a7 zw;go_roundw
    case rel=>exact⟨i+1,av,nv,cv,by omega,by go_num,by rw[b5.out],rfl,by rw[S.out];exact F,N6,G6⟩
    case measure=>simp[intOf];omega
   ·have a6:i+1<x.length:=by omega
    have ht:((i:Int)+1==(x.length:Int))=false:=by simp;omega
    have a1:i+1<o.length:=by rw[I.out];exact a6
    have hq:=e6.out a8;have g3:wo.cell? ⟨R,i+1,none⟩=some (.int .i64 o[i+1]):=xG gw (hq.2.2.2 (i+1) a1) (by show ¬R=w.heap.size;omega);have l0:∀W,(Instr.indexAt 22 (.slice po x.length qo) (.int .i64 ((i:Int)+1))).run Tryz.prog W=.ok (.pointer (some ⟨R,i+1,none⟩)) W:=fun W=>by have:=hq.2.2.1 W (i+1) a6;simpa using this
    clear hq;have f8:=e7.out _ (List.getElem_mem a1);have D:oC x o (i+1)=x.getD o[i+1].toNat 0:=by unfold oC;rw[aJ o (i+1) a1]
    obtain⟨e',f3⟩:∃e':Nat,o[i+1]=(e':Int):=⟨o[i+1].toNat,by omega⟩;rw[f3]at g3 f8 D;rw[Int.toNat_natCast]at D;have Z:e'<x.length:=by omega
    rw[aJ x e' Z]at D;have g4:=aK HC.out hb a9 (Nat.le_refl _) e' Z;have l7:=fun W=>e4.out W e' Z;obtain⟨X2,e9⟩:∃X2,X2=x[e']:=⟨_,rfl⟩;rw[<-e9]at g4 D;rw[D]at hcut;have b3:(i+1==o.length)=false:=by rw[I.out];simp;omega
    rw[b3,Bool.false_or]at hcut;have U:=h0.out i a6;rw[D,g8.out]at U;rw[U]at hcut;clear e9 D f3 f8 b3 U
    cases f0:decide (X2<X1) with
    |false=>
     have A:eB x o (i+1)=eB x o i:=by rw[b4.out,hcut,f0];simp
     have S:=Lib.hid A;clear A hcut N;go_wp2_with fail;go_quiet (fail);go_wp2;go_roundw
     case rel=>exact⟨i+1,p,q,m,by omega,by go_num,by rw[b5.out],rfl,by rw[S.out];exact M.out.drewN _,a7,gw.trans (GrownIn.of_below ((Below.refl _ _).drewN' _))⟩
     case measure=>simp[intOf];omega
    |true=>
     have A:eB x o (i+1)=eB x o i++[s2]:=by rw[b4.out,hcut,f0];rfl
     have S:=Lib.hid A;clear A hcut N;go_wp2_with fail;go_quiet (fail);go_wp2_with (at_builtin;refine bB rfl _ _ _ rfl 3 Tryz.underlying22 aG w.heap.size _ (eB x o i) s2 _ rfl rfl (aT _ _ _ _ _ rfl) ((M.out.drewN _).alloc _) ⟨by omega,by omega⟩ (by omega) (by simp;omega) ?_;intro v' w6 F c6 L;obtain⟨av,nv,cv,rfl⟩:=F.shape3);have G6:=FY gw (.cells #[.int .i64 s2] 3) _ c6 a7;have N6:=IK L a7 zw;go_roundw
     case rel=>exact⟨i+1,av,nv,cv,by omega,by go_num,by rw[b5.out],rfl,by rw[S.out];exact F,N6,G6⟩
     case measure=>simp[intOf];omega
  ·have f7:¬(i:Int)<(x.length:Int):=by omega
   have i8:i=x.length:=by omega
   subst i8;go_wp2;go_ret2;exact⟨_,_,_,rfl,by rw[HT.out];exact M.out,a9⟩
end Go.Proofs.YtipejodijbjpcaaGreatDoor
end
