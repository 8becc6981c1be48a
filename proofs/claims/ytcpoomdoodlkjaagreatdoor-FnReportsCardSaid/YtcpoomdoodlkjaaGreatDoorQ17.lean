/- Lemmas for CardReports. No condition. -/
import Derived.Test.YtcpoomdoodlkjaaGreatDoorQ16
set_option maxRecDepth 100000
set_option maxHeartbeats 64000000
section
namespace Go
section
variable {P:Program} {ops:Array Oper} {C:World->Prop} {Q:Act->World->Prop}
def Oper.tame(o:Oper):Bool:=
 match o.op with
 |.move _|.assign _|.pick _ _ _|.load _ _|.binOp _ _ _ _ _|.unOp _ _ _|.convert _ _ _|.fieldAddr _ _ _|.field _ _ _|.indexAddr _ _ _|.index _ _ _|.slice _ _ _ _ _|.extract _ _|.build _ _=>true
 |.call c=>match c.callee with
  |.builtin .len|.builtin .min|.builtin .max=>true
  |_=>false
 |_=>false
theorem jS(s:Sem Value)(w:World)(f:FuncId)(args:Array Value)(w':World):(do pure (Next.value (<-s)):Sem Next).run P w≠.ok (.enter f args) w':=by
 simp only[Sem.run_bind,Sem.run_pure]
 cases s.run P w with
 |ok v w1=>simp[Result.andThen]
 |halt x w1=>simp[Result.andThen]
theorem aaG(s:Sem Bool)(F:Bool->Value)(w:World)(f:FuncId)(args:Array Value)(w':World):(do pure (Next.value (F (<-s))):Sem Next).run P w≠.ok (.enter f args) w':=by
 simp only[Sem.run_bind,Sem.run_pure]
 cases s.run P w with
 |ok v w1=>simp[Result.andThen]
 |halt x w1=>simp[Result.andThen]
theorem Oper.tame_enter{o:Oper}(h:o.tame=true)(ρ:Operand->Value)(w:World)(f:FuncId)(args:Array Value)(w':World):(execOp ρ o).run P w≠.ok (.enter f args) w':=by
 unfold Oper.tame at h;unfold execOp
 split at h<;>rename_i z<;>simp only[z]
 case h_1=>simp
 case h_2=>simp
 case h_3=>exact aaG _ (fun b=>if b=true then _ else _) _ _ _ _
 case h_4=>exact jS _ _ _ _ _
 case h_5=>exact jS _ _ _ _ _
 case h_6=>exact jS _ _ _ _ _
 case h_7=>exact jS _ _ _ _ _
 case h_8=>exact jS _ _ _ _ _
 case h_9=>exact jS _ _ _ _ _
 case h_10=>exact jS _ _ _ _ _
 case h_11=>exact jS _ _ _ _ _
 case h_12=>exact jS _ _ _ _ _
 case h_13=>exact jS _ _ _ _ _
 case h_14=>exact jS _ _ _ _ _
 case h_15=>
  rename_i c
  split at h
  ·rename_i hc
   simp only[resolve,hc,Sem.run_bind,Sem.run_pure,Result.andThen,invoke,builtin]
   split<;>simp
  ·rename_i hc
   simp only[resolve,hc,Sem.run_bind,Sem.run_pure,Result.andThen,invoke,builtin]
   split<;>simp
  ·rename_i hc
   simp only[resolve,hc,Sem.run_bind,Sem.run_pure,Result.andThen,invoke,builtin]
   split<;>simp
  ·cases h
 case h_16=>cases h
theorem Oper.tame_quiet{o:Oper}(h:o.tame=true):o.loud=false:=by
 unfold Oper.tame at h;unfold Oper.loud
 split
 ·rename_i c hc
  simp only[hc]at h
  split
  ·rename_i z
   simp only[z]at h
   cases h
  ·rfl
 ·rfl
theorem Oper.reads_of_quiet{o:Oper}{a:Act}{K:Act->Prop}(h:o.tame=true)(z:o.quiet P a C K):o.reads P a C K:=by
 obtain⟨v,h1,h2⟩:=z;refine⟨v,fun w hw=>?_,h2⟩;have h3:=h1 w hw;have h4:=Oper.tame_enter (P:=P) h a.eval w;unfold Oper.quietAt at h3
 generalize (execOp a.eval o).run P w=r at *
 cases r with
 |ok n w'=>
  cases n<;>simp only[Oper.quietUpon,Oper.readUpon]at h3 ⊢
  case value u=>exact h3
  case skip=>exact h3
  case enter f args=>exact h4 f args w' rfl
 |halt x w'=>simp only[Oper.quietUpon]at h3
structure WMix (P:Program) (ops:Array Oper) (C:World->Prop) (Q:Act->World->Prop) (l:List Oper) (a:Act) (w:World):Prop where
 out:tJ P ops C Q l a w
theorem Z9{K D:Act->Prop}(h:∀a,K a->D a){o:Oper}{a:Act}(z:wpQuiet P ops C K [o] a):wpQuiet P ops C D [o] a:=by
 rw[wpQuiet]at z ⊢
 split
 ·rename_i hw
  rw[if_pos hw]at z;obtain⟨v,h1,h2⟩:=z;exact⟨v,h1,h _ h2⟩
 ·rename_i hw
  rw[if_neg hw]at z;exact h _ z
theorem WL{a:Act}{w:World}{o:Oper}{rest:List Oper}(h:o.tame=true)(z:wpQuiet P ops C (fun D=>tJ P ops C Q rest D w) [o] a):tJ P ops C Q (o::rest) a w:=by
 rw[wpQuiet]at z;rw[tJ]
 split
 ·rename_i hw
  rw[if_pos hw]at z;rw[if_neg (by rw[Oper.tame_quiet h];simp)];exact Oper.reads_of_quiet h z
 ·rename_i hw
  rw[if_neg hw]at z;exact z
theorem gJ{a:Act}{w:World}{o:Oper}{rest:List Oper}(h:o.tame=true)(D:wpQuiet P ops C (fun z=>WMix P ops C Q rest z w) [o] a):WMix P ops C Q (o::rest) a w:=
 ⟨WL h (Z9 (fun _ h=>h.out) D)⟩
theorem O5{a:Act}{w:World}(h:Q a w):WMix P ops C Q [] a w:=⟨h⟩
theorem YY{o:Oper}{a:Act}{w:World}{K:Act->World->Prop}{f:FuncId}{args:Array Value}(z:(execOp a.eval o).run P w=.ok (.enter f args) w)(h:Calls P f args w fun e w''=>∃v,e=.returned v/\C w''/\K (a.put o.dst v) w''):o.goes P a w C K:=by
 unfold Oper.goes;rw[z];exact⟨rfl,h⟩
theorem iJ{a:Act}{w:World}{o:Oper}{rest:List Oper}(f:FuncId)(F:Array Operand)(ts:Array TypeId)(I:o.op=.call { callee:=.value (.func f),args:=F,argTypes:=ts })(D:∀args w,(callFunc f args).run P w=.ok (.enter f args) w)
  (hw:Region.wanted o (yielded ops a.tmps)=true) (h:∀K:Act->World->Prop,(∀z w',C w'->WMix P ops C Q rest z w'->K z w')->Calls P f (F.map a.eval) w fun e w''=>∃v,e=.returned v/\K (a.put o.dst v) w''):WMix P ops C Q (o::rest) a w:=by
 refine⟨?_⟩;rw[tJ,if_pos hw,if_pos (by unfold Oper.loud;rw[I])];have h1:=h (fun z w'=>C w'/\WMix P ops C Q rest z w') (fun z w' h1 h2=>⟨h1,h2⟩);refine YY (f:=f) (args:=F.map a.eval) ?_ (h1.mono fun e w'' ⟨v,J,hC,hk⟩=>⟨v,J,hC,hk.out⟩);unfold execOp;simp only[I,resolve,Sem.run_bind];have e:=D (F.map a.eval) w;simp[Act.eval,Deferred.ofValue,Sem.run_pure,Result.andThen,invoke,go_sem];exact e
theorem CG{F:Nat}{Q:Exit->Act->World->Prop}{a:Act}{w:World}{l:List Oper}(hm:P.follows .mixedOrders=true)(hB:Region.lexB .any l.toArray=true)(z:Region.chained .any l.toArray=true)
  (hC:C w.drew) (h:WMix P l.toArray C (fun D w'=>Q .normal D w') l a w.drew):(Code.region F l.toArray true).wp P Q a w:=
 NK hm hB z hC h.out
end
end Go
end
namespace Go.Proofs.YtcpoomdoodlkjaaGreatDoor
section
open Go.RowKit Go.G5 Go.Proofs.Tryz
def lF(l:List Int):Nat->Nat
 |0=>0
 |t+1=>if l.getD (lF l t) 0<l.getD t 0 then t else lF l t
theorem OK(l:List Int)(t:Nat):lF l (t+1)=if l.getD (lF l t) 0<l.getD t 0 then t else lF l t:=rfl
theorem EU(l:List Int):∀t,0<t->lF l t<t:=by
 intro t
 induction t with
 |zero=>intro h;omega
 |succ t ih=>
  intro _;rw[lF]
  split
  ·omega
  ·rcases Nat.eq_zero_or_pos t with rfl|h
   ·simp[lF]
   ·have:=ih h;omega
theorem aeP(l:List Int):lF l 1=0:=by have:=EU l 1 aK;omega
def zE(n:Int)(l:List Int):Int:=if bM n l then (lF l l.length:Int) else 0
def wB(n:Int)(l:List Int):Int:=if bM n l then l.getD (lF l l.length) 0 else 0
def jH(N x e:Nat):Nat:=x+(2^N-2^e)
def iY(l:List Int)(N:Nat):Nat->Nat
 |0=>0
 |e+1=>if l.getD (cV (jH N (iY l N e) e) (2^e)) 0-l.getD (jH N (iY l N e) e) 0<=eA l (iY l N e) e then bU (iY l N e) e else iY l N e
def yO(n:Int)(l:List Int):Int:=if bM n l then (iY l n.toNat n.toNat:Int) else 0
theorem aiU:∀N,N<6->∀e,e<N->∀x,x<32->x<2^e->(bU x e=x+2^e/\cV (jH N x e) (2^e)=jH N x (e+1)):=by decide +kernel
theorem aiV:∀N,N<6->∀e,e<N->∀x,x<32->x<2^e->(jH N (x+2^e) (e+1)=jH N x e/\jH N x e<2^N):=by decide +kernel
theorem aiW:∀N,N<6->∀e,e<N->∀x,x<32->x<2^e->(2^e<=jH N x e/\jH N x e-2^e=jH N x (e+1)):=by decide +kernel
theorem aiX:∀N,N<6->∀e,e<N->∀x,x<32->x<2^e->(jH N x (e+1)<2^N/\x+2^e<2^N):=by decide +kernel
theorem GI(N:Nat)(z:N<6)(e:Nat)(D:e<N)(x:Nat)(F:x<32)(h:x<2^e):(bU x e=x+2^e/\cV (jH N x e) (2^e)=jH N x (e+1))/\(jH N (x+2^e) (e+1)=jH N x e/\jH N x e<2^N)/\((2^e<=jH N x e/\jH N x e-2^e=jH N x (e+1))/\(jH N x (e+1)<2^N/\x+2^e<2^N)):=
 ⟨aiU N z e D x F h,aiV N z e D x F h,aiW N z e D x F h,aiX N z e D x F h⟩
theorem agX:∀n:Nat,n<6->∀s,s<32->s<2^n->bR s<=n:=by decide +kernel
theorem EP(l:List Int)(N:Nat)(D:N<=5):∀e,e<=N->iY l N e<2^e:=by
 intro e
 induction e with
 |zero=>intro _;exact Nat.one_pos
 |succ e ih=>
  intro F;have h:=ih aK;have I:(2:Nat)^(e+1)=2*2^e:=by rw[Nat.pow_succ];omega
  have z:(2:Nat)^e<=32:=Nat.pow_le_pow_right (n:=2) (j:=5) aY aK;rw[iY]
  split
  ·rw[(GI N aK e aK _ aK h).1.1];omega
  ·omega
theorem NS(l:List Int)(N e:Nat):iY l N (e+1)=if l.getD (cV (jH N (iY l N e) e) (2^e)) 0-l.getD (jH N (iY l N e) e) 0<=eA l (iY l N e) e then bU (iY l N e) e else iY l N e:=rfl
theorem RI(N:Nat):jH N 0 0=2^N-1:=by unfold jH;simp
theorem afY(y e:Nat)(F:y<64)(z:e<6):bits .andNot .i64 (y:Int) (2^e)=((cV y (2^e):Nat):Int):=by
 have D:=Nat.pow_lt_pow_right (show 1<2 by decide) z;have:=vS y (2^e) F (by simp at D;omega);rw[<-this];push_cast;rfl
theorem vR{l:List Int}(h:∀k,(hk:k<l.length)->-1000<=l[k]/\l[k]<=1000)(i:Nat):-1000<=l.getD i 0/\l.getD i 0<=1000:=by
 by_cases z:i<l.length
 ·rw[aX l i z];exact h i z
 ·have e:l.getD i 0=0:=by unfold List.getD;rw[List.getElem?_eq_none aK];rfl
  rw[e];omega
def nN(l:List Int):Nat->Int
 |0=>l.getD 0 0
 |k+1=>min (nN l k) (l.getD k 0)
def iP(l:List Int):Int:=nN l l.length
def mZ(l:List Int)(m:Int):Nat->List Int
 |0=>[]
 |k+1=>if l.getD k 0=m then mZ l m k++[(k:Int)] else mZ l m k
def zF(n:Int)(l:List Int):List Int:=if bM n l then mZ l (iP l) l.length else []
def xX(n:Int)(l:List Int):Int:=if bM n l then iP l else 0
theorem XC(l:List Int):nN l 1=l.getD 0 0:=by show min (l.getD 0 0) (l.getD 0 0)=_;omega
theorem ahY(l:List Int)(h:0<l.length):∀k,k<=l.length->∃i,i<l.length/\l.getD i 0=nN l k:=by
 intro k
 induction k with
 |zero=>intro _;exact⟨0,h,rfl⟩
 |succ k ih=>
  intro hk;obtain⟨i,z,D⟩:=ih aK;rw[nN];by_cases hc:nN l k<=l.getD k 0
  ·exact⟨i,z,by omega⟩
  ·exact⟨k,by omega,by omega⟩
theorem ab5(l:List Int)(m:Int):∀k,(mZ l m k).length<=k:=by
 intro k
 induction k with
 |zero=>simp[mZ]
 |succ k ih=>
  rw[mZ]
  split
  ·simp;omega
  ·omega
theorem T5(l:List Int)(v:Value)(w:World)(hv:aR w v l)(z:0<l.length):
  Calls prog 180 #[v] w fun e w'=>e=.returned (iP l)/\w=w':=by
 obtain⟨a,b,I,c,rfl,M,D,hc,hb⟩:=hv.view prog 24 3 underlying24 aS;have h1:¬(l.length:Int)<1:=aK;have i0:∀W,(Instr.indexAt 24 (aI a l.length c) (aM 0)).run prog W=.ok (.pointer (some ⟨b,I,none⟩)) W:=fun W=>D W 0 z;have c0:w.cell? ⟨b,I,none⟩=some (aM (l.getD 0 0)):=by rw[aX l 0 z];exact hc 0 z
 go_enter func180,ntmps180;go_wp2;go_loop [3,4] (fun m i=>∃k:Nat,1<=k/\k<=l.length/\i=aM k/\m=aM (nN l k)) (fun _ i=>l.length-(intOf i).toNat)
 case atStart=>exact⟨1,aO,z,rfl,by rw[XC,aX l 0 z]⟩
 case round=>
  obtain⟨k,Z,hk,rfl,rfl⟩:=hrel;by_cases hlt:k<l.length
  ·have K:=hc k hlt;have Y:=fun W=>D W k hlt;have J:nN l (k+1)=min (nN l k) l[k]:=by rw[nN,aX l k hlt]
   obtain⟨p,N⟩:=aQ (l[k]);obtain⟨q,O⟩:=aQ (nN l k);rw[<-N]at K J;rw[<-O]at J ⊢;have S:=aN J;clear J N O hc D;go_wp2;go_round
   case rel=>exact⟨k+1,by omega,by omega,by go_num,by rw[S.out]<;>(congr 1<;>(split<;>omega))⟩
   case measure=>simp[intOf];omega
  ·have F:k=l.length:=aK;have R:=aN F;clear F;go_wp2;go_ret;exact⟨fI (by rw[R.out];rfl),rfl⟩
theorem DM(w:World)(n:Int)(v:Value)(l:List Int)(O:aR w v l):
  Calls prog 66 #[.agg #[n,v]] w fun e w'=>e=.returned (.tuple #[(xX n l),.bool (bM n l)])/\Below w w w':=by
 obtain⟨a,c,rfl⟩:=O.shape;go_enter func66,ntmps66;go_wp2_with fail;refine bH ?_;intro V J;have B:Below w w V:=fU J;have K:aU V w 26 #[n,aI a l.length c]:=eJ J;clear J;refine(dV n l _ V (O.below B aO)).mono ?_;rintro e w1 ⟨rfl,R⟩;have K:=K.keep R;have B:=B.after R B.size;have G:=K.cell
 cases z:bM n l with
 |false=>
  have I:xX n l=0:=by unfold xX;rw[z];rfl
  have D:=aN (And.intro I z);clear I z;go_wp2;go_ret2;exact⟨by rw[D.out.1,D.out.2];rfl,B⟩
 |true=>
  have I:xX n l=iP l:=by unfold xX;rw[z];rfl
  have F:0<l.length:=by obtain⟨N,rfl,_,M,_⟩:=cX z;rw[M];exact Nat.two_pow_pos N
  have D:=aN (And.intro I z);have S:=aN (T5 l _ w1 (O.below B aO) F);clear I z;go_wp2_with (go_at_call 180;refine S.out.mono ?_;rintro e w' ⟨rfl,rfl⟩);go_ret2;exact⟨by rw[D.out.1,D.out.2];rfl,B⟩
theorem DG(w:World)(n:Int)(v:Value)(l:List Int)(hv:aR w v l)(z:0<l.length):
  Calls prog 78 #[.agg #[n,v]] w fun e w'=>e=.returned (iP l)/\Below w w w':=by
 obtain⟨a,b,J,c,rfl,N,F,hc,hb⟩:=hv.view prog 24 3 underlying24 aS;have D:=aW hc hb (bF w (.cells #[n,aI a l.length c] 26)) aO;have i0:∀W,(Instr.indexAt 24 (aI a l.length c) (aM 0)).run prog W=.ok (.pointer (some ⟨b,J,none⟩)) W:=fun W=>F W 0 z;have c0:(w.alloc (.cells #[n,aI a l.length c] 26)).cell? ⟨b,J,none⟩=some (aM (l.getD 0 0)):=by rw[aX l 0 z];exact D 0 z
 go_enter func78,ntmps78;go_wp2;go_loop [3,4] (fun m i=>∃k:Nat,1<=k/\k<=l.length/\i=aM k/\m=aM (nN l k)) (fun _ i=>l.length-(intOf i).toNat)
 case atStart=>exact⟨1,aO,z,rfl,by rw[XC,aX l 0 z]⟩
 case round=>
  obtain⟨k,a1,hk,rfl,rfl⟩:=hrel;by_cases hlt:k<l.length
  ·have M:=D k hlt;have Z:=fun W=>F W k hlt;have K:nN l (k+1)=min (nN l k) l[k]:=by rw[nN,aX l k hlt]
   obtain⟨p,O⟩:=aQ (l[k]);obtain⟨q,R⟩:=aQ (nN l k);rw[<-O]at M K;rw[<-R]at K ⊢;have Y:=aN K;clear K O R hc D F;go_wp2;go_round
   case rel=>exact⟨k+1,by omega,by omega,by go_num,by rw[Y.out]<;>(congr 1<;>(split<;>omega))⟩
   case measure=>simp[intOf];omega
  ·have I:k=l.length:=aK;have S:=aN I;clear I;go_wp2;go_ret;exact⟨fI (by rw[S.out];rfl),bF _ _⟩
theorem J5(w:World)(n:Int)(v:Value)(l:List Int)(hv:aR w v l):
  Calls prog 67 #[.agg #[n,v]] w fun e w'=>∃ad i c,e=.returned (.tuple #[aI ad i c,.bool (bM n l)])/\aP 3 w w' (aI ad i c) (zF n l)/\Below w w w':=by
 obtain⟨a,b,e0,c,rfl,c5,b5,hc,hb⟩:=hv.view prog 24 3 underlying24 aS;go_enter func67,ntmps67;go_wp2_with fail;refine bH ?_;intro V hV;have B:Below w w V:=fU hV;have K:aU V w 26 #[n,aI a l.length c]:=eJ hV;clear hV;refine(DM V n _ l (hv.below B aO)).mono ?_;rintro e w1 ⟨rfl,b1⟩;have K:=K.keep b1;have B:=B.after b1 B.size;have G:=K.cell
 cases D:bM n l with
 |false=>
  have hx:zF n l=[]:=by unfold zF;rw[D];rfl
  have S:=aN (And.intro hx D);clear hx D;go_wp2;go_ret2;exact⟨none,0,0,by rw[S.out.2];rfl,by rw[S.out.1];exact aP.nil _ _ _,B⟩
 |true=>
  have hx:zF n l=mZ l (iP l) l.length:=by unfold zF;rw[D];rfl
  have hm:xX n l=iP l:=by unfold xX;rw[D];rfl
  have b9:l.length<=32:=by obtain⟨N,rfl,_,_,h,_⟩:=cX D;exact h
  obtain⟨M,hM⟩:=aQ (iP l);rw[hm,<-hM];have HM:=aN hM;have S:=aN (And.intro hx D);clear hx D hm hM;go_wp2_with fail;go_loopw [6,19] (fun out i wr=>∃(k:Nat) (ad:Option Addr) (nn Y:Nat),k<=l.length/\out=aI ad nn Y/\i=aM k/\aP 3 w wr (aI ad nn Y) (mZ l (iP l) k)/\Below w w wr) (fun _ i _=>l.length-(intOf i).toNat)
  case atStart=>exact⟨0,none,0,0,Nat.zero_le _,rfl,rfl,aP.nil _ _ _,B⟩
  case round=>
   obtain⟨k,ad,nn,Y,hk,rfl,rfl,O,J⟩:=hrel;have R:=aN O;clear O;by_cases hlt:k<l.length
   ·have a1:(k:Int)<(l.length:Int):=aK;have b3:=aW hc hb J aO k hlt;have d7:=fun W=>b5 W k hlt;have hn:mZ l (iP l) (k+1)=if l[k]=M then mZ l (iP l) k++[(k:Int)] else mZ l (iP l) k:=by rw[mZ,aX l k hlt,HM.out]
    obtain⟨y,hy⟩:=aQ (l[k]);rw[<-hy]at b3 hn;have HN:=aN hn;clear hn hy;by_cases z:y=M
    ·have b0:(y==M)=true:=by simp[z]
     have I:=aN z;clear z;have o4:=R.out;have r4:=o4.lt;have zr:=J.size;go_wp2_with (at_builtin;refine cZ rfl _ _ _ rfl 3 underlying24 aS w.heap.size _ _ (k:Int) wr.heap.size rfl rfl (by simp) (o4.alloc _) ⟨by omega,by omega⟩ (by have:=ab5 l (iP l) k;omega) aV ?_;intro v' w6 F b4;obtain⟨av,nv,cv,rfl⟩:=F.shape3);have B6:Below w w w6:=(J.alloc J.size (.cells #[(k:Int)] 3)).grown b4 aV (fun q hq=>(r4 q hq).1);go_roundw
     case rel=>exact⟨k+1,av,nv,cv,by omega,rfl,by go_num,by rw[HN.out,if_pos I.out];exact F,B6⟩
     case measure=>simp[intOf];omega
    ·have b0:(y==M)=false:=by simp[z]
     have I:=aN z;clear z;go_wp2;go_roundw
     case rel=>exact⟨k+1,ad,nn,Y,by omega,rfl,by go_num,by rw[HN.out,if_neg I.out];exact R.out,J⟩
     case measure=>simp[intOf];omega
   ·have a1:¬(k:Int)<(l.length:Int):=aK;have Z:k=l.length:=aK;have O:=R.out;rw[Z,<-S.out.1]at O;have R:=aN O;clear Z O;go_wp2;go_ret2;exact⟨ad,nn,Y,by rw[S.out.2];rfl,R.out,J⟩
theorem J6(w:World)(n:Int)(v:Value)(l:List Int)(hv:aR w v l):
  Calls prog 75 #[.agg #[n,v]] w fun e w'=>∃ad i c,e=.returned (.tuple #[aI ad i c,.bool (bM n l)])/\aP 3 w w' (aI ad i c) (zF n l)/\Below w w w':=by
 obtain⟨a,b,d7,c,rfl,e5,b3,hc,hb⟩:=hv.view prog 24 3 underlying24 aS;obtain⟨V,hV⟩:=aQ ((w.alloc (.cells #[n,aI a l.length c] 26)).alloc (.cells #[] 3));have B:Below w w V:=gD hV;have K:aU V w 26 #[n,aI a l.length c]:=gO hV;have o0:aP 3 (w.heap.size+1) V (aI (some ⟨w.heap.size+1,0,none⟩) 0 0) []:=by rw[hV];have:=aP.lit0 (E:=3) (B:=w.heap.size+1) (w.alloc (.cells #[n,aI a l.length c] 26)) (by simp);simpa using this
 go_enter func75,ntmps75;go_wp2_with fail;rw[<-hV];clear hV;go_loopw [4,5] (fun out i wr=>∃(k:Nat) (ad:Option Addr) (nn cp:Nat),k<=l.length/\out=aI ad nn cp/\i=aM k/\aP 3 (w.heap.size+1) wr (aI ad nn cp) (mZ l (iP l) k)/\aU wr w 26 #[n,aI a l.length c]/\Below w w wr/\(bM n l=false->k=0)) (fun _ i _=>l.length-(intOf i).toNat)
 case atStart=>exact⟨0,_,_,_,Nat.zero_le _,rfl,rfl,o0,K,B,fun _=>rfl⟩
 case round=>
  obtain⟨k,ad,nn,cp,hk,rfl,rfl,ho,Kr,Br,hz⟩:=hrel;clear o0 K B;have HO:=aN ho;have HZ:=aN hz;have G:=Kr.cell;clear ho hz;go_wp2_with fail;clear G;refine(dJ n l _ wr (hv.below Br aO)).mono ?_;rintro e w1 ⟨rfl,b1⟩;have K1:=Kr.keep b1;have F:=Br.after b1 Br.size;have Z:=HO.out.keep b1;have G:=K1.cell;clear Kr
  cases I:bM n l with
  |false=>
   have hx:zF n l=[]:=by unfold zF;rw[I];rfl
   rw[HZ.out I]at Z;have HX:=aN (And.intro hx I);clear hx I;have O:=aN (dJ n l _ w1 (hv.below F aO));go_wp2_with (go_at_call 51;refine O.out.mono ?_;rintro e w2 ⟨rfl,b2⟩);go_ret2;exact⟨ad,nn,cp,rfl,by rw[HX.out.1];exact(Z.keep b2).mono aK,F.after b2 F.size⟩
  |true=>
   have hx:zF n l=mZ l (iP l) l.length:=by unfold zF;rw[I];rfl
   have e4:l.length<=32:=by obtain⟨N,rfl,_,_,h,_⟩:=cX I;exact h
   have HX:=aN (And.intro hx I);clear hx;by_cases hlt:k<l.length
   ·have b5:(k:Int)<(l.length:Int):=aK;have R:=aN (fun y:Ext w1=>DG y.w n _ l (y.ints (hv.below F aO)) aK);have Y:=aW hc hb F aO k hlt;have f9:=fun W=>b3 W k hlt;have hn:mZ l (iP l) (k+1)=if l[k]=iP l then mZ l (iP l) k++[(k:Int)] else mZ l (iP l) k:=by rw[mZ,aX l k hlt]
    obtain⟨y,hy⟩:=aQ (l[k]);rw[<-hy]at Y hn;obtain⟨M,hM⟩:=aQ (iP l);have b6:mZ l (iP l) (k+1)=if y=M then mZ l (iP l) k++[(k:Int)] else mZ l (iP l) k:=by rw[hn,hM]
    rw[<-hM]at R;have HN:=aN b6;have O1:=aN Z;have d6:∀x:Ext w1,x.w.cell? ⟨b,d7+k,none⟩=some (aM y):=fun x=>x.cell Y;have c0:∀x:Ext w1,x.w.cell? ⟨w.heap.size,0,none⟩=some (aM n):=fun x=>x.cell (K1.cell 0);have c1:∀x:Ext w1,x.w.cell? ⟨w.heap.size,1,none⟩=some (aI a l.length c):=fun x=>x.cell (K1.cell 1);clear hn hy b6 hM hc b3 Z Y I;by_cases D:y=M
    ·have d0:(y==M)=true:=by simp[D]
     have S:=aN D;clear D;go_wp2_with fail;refine bN _ aT aT ?_
     repeat(first|go_big_quiet_skip|(go_big_quiet_want;go_big_quiet_op;first|go_big_quiet_on|(apply Exists.intro;refine⟨fun _=>?_,?_⟩;(go_at_call 78;exact bO (R.out _));go_big_quiet_on)))
     refine wpQuiet_nil ?_;rintro w3 ⟨⟨w3,z⟩,rfl⟩
     try dsimp only
     have K3:=K1.keep z;have B3:=F.after z F.size;have o3:=O1.out.keep z;have r3:=o3.lt;have z3:=K3.lt;clear G d6 c0 c1;go_wp2_with (at_builtin;refine cZ rfl _ _ _ rfl 3 underlying24 aS (w.heap.size+1) _ _ (k:Int) w3.heap.size rfl rfl (by simp) (o3.alloc _) ⟨by omega,by omega⟩ (by have:=ab5 l (iP l) k;omega) aV ?_;intro v' w6 J b0;obtain⟨av,nv,cv,rfl⟩:=J.shape3);have B6:Below w w w6:=(B3.alloc B3.size (.cells #[(k:Int)] 3)).grown b0 aV (fun q hq=>by have:=(r3 q hq).1;omega);have K6:=(K3.alloc (.cells #[(k:Int)] 3)).grow b0 (fun e=>by have:=(r3 _ e).1;omega);go_roundw
     case rel=>exact⟨k+1,av,nv,cv,by omega,rfl,by go_num,by rw[HN.out,if_pos S.out];exact J,K6,B6,fun h=>by rw[HX.out.2]at h;cases h⟩
     case measure=>simp[intOf];omega
    ·have d0:(y==M)=false:=by simp[D]
     have S:=aN D;clear D;go_wp2_with fail;refine bN _ aT aT ?_
     repeat(first|go_big_quiet_skip|(go_big_quiet_want;go_big_quiet_op;first|go_big_quiet_on|(apply Exists.intro;refine⟨fun _=>?_,?_⟩;(go_at_call 78;exact bO (R.out _));go_big_quiet_on)))
     refine wpQuiet_nil ?_;rintro w3 ⟨⟨w3,z⟩,rfl⟩
     try dsimp only
     go_wp2;go_roundw
     case rel=>exact⟨k+1,ad,nn,cp,by omega,rfl,by go_num,by rw[HN.out,if_neg S.out];exact O1.out.keep z,K1.keep z,F.after z F.size,fun h=>by rw[HX.out.2]at h;cases h⟩
     case measure=>simp[intOf];omega
   ·have b5:¬(k:Int)<(l.length:Int):=aK;have b4:k=l.length:=aK;rw[b4,<-HX.out.1]at Z;have O1:=aN Z;have O:=aN (dJ n l _ w1 (hv.below F aO));clear b4 Z I;go_wp2_with (go_at_call 51;refine O.out.mono ?_;rintro e w2 ⟨rfl,b2⟩);go_ret2;exact⟨ad,nn,cp,rfl,(O1.out.keep b2).mono aK,F.after b2 F.size⟩
def iV(n:Int)(l x m:List Int):Bool:=gR n l&&lJ n l x&&gN n m
def fB(n:Int)(l x m:List Int):Nat->List Int
 |0=>x
 |k+1=>if (fB n l x m k).getD k 0<m.getD k 0 then (fB n l x m k).set k (min ((fB n l x m k).getD k 0+mL n l (fB n l x m k) k) (m.getD k 0)) else fB n l x m k
def qX(n:Int)(l x m:List Int):List Int:=if iV n l x m then fB n l x m x.length else []
theorem BN(n:Int)(l x m:List Int):∀k,(fB n l x m k).length=x.length:=by
 intro k
 induction k with
 |zero=>rfl
 |succ k ih=>rw[fB];split<;>simp[ih]
theorem XO(n:Int)(l x m:List Int)(hm:m.length=x.length)(I:∀k,(hk:k<x.length)->-5000<=x[k]/\x[k]<=5000)(D:∀k,(hk:k<m.length)->-5000<=m[k]/\m[k]<=5000):∀k,k<=x.length->∀y∈fB n l x m k,-5000<=y/\y<=5000:=by
 intro k
 induction k with
 |zero=>intro _ y z;obtain⟨i,F,rfl⟩:=List.getElem_of_mem z;exact I i F
 |succ k ih=>
  intro hk y z;have ih:=ih aK;rw[fB]at z;by_cases hc:(fB n l x m k).getD k 0<m.getD k 0
  ·rw[if_pos hc]at z;rcases List.mem_or_eq_of_mem_set z with z|z
   ·exact ih y z
   ·have hl:=BN n l x m k;have h1:(fB n l x m k).getD k 0=(fB n l x m k)[k]'aK:=aX _ k aK;have h2:m.getD k 0=m[k]'aK:=aX _ k aK;have h3:=ih _ (List.getElem_mem (show k<(fB n l x m k).length by omega));have h4:=D k aK;have J:=LS n l (fB n l x m k) k;rw[h1,h2]at z;omega
  ·rw[if_neg hc]at z;exact ih y z
theorem TW{n:Int}{l x m:List Int}(h:iV n l x m=true):∃N:Nat,n=N/\N<=5/\x.length=N/\m.length=x.length/\(∀k,(hk:k<x.length)->-5000<=x[k]/\x[k]<=5000)/\(∀k,(hk:k<m.length)->-5000<=m[k]/\m[k]<=5000):=by
 unfold iV at h;simp only[Bool.and_eq_true]at h;obtain⟨⟨_,h2⟩,h3⟩:=h;obtain⟨N,rfl,z,_,_,F,_,D,_⟩:=AD h2;obtain⟨h4,I⟩:=JY h3;exact⟨N,rfl,z,F,by omega,D,I⟩
theorem ZV(w:World)(n:Int)(v:Value)(l:List Int)(hv:aR w v l)(hl:l.length<=1048576)(u:Value)(x:List Int)(hu:aR w u x)(t:Value)(m:List Int)(ht:aR w t m):
  Calls prog 185 #[.agg #[n,v],u,t] w fun e' w'=>∃ad i c,e'=.returned (.tuple #[aI ad i c,.bool (iV n l x m)])/\aP 3 w w' (aI ad i c) (qX n l x m)/\Below w w w':=by
 obtain⟨a,c,rfl⟩:=hv.shape;obtain⟨b,cu,rfl⟩:=hu.shape;obtain⟨bt,bq,e7,ct,rfl,g0,a6,d0,f8⟩:=ht.view prog 24 3 underlying24 aS;obtain⟨V,hV⟩:=aQ (w.alloc (.cells #[n,aI a l.length c] 26));have B:Below w w V:=fU hV;have K:aU V w 26 #[n,aI a l.length c]:=eJ hV;go_enter func185,ntmps185;go_wp2_with fail;rw[<-hV];clear hV;refine(sD n l _ V (hv.below B aO) hl).mono ?_;rintro e' w1 ⟨rfl,b1⟩;have K:=K.keep b1;have B:=B.after b1 B.size;have G:=K.cell
 cases hs:gR n l with
 |false=>
  have F:iV n l x m=false:=by unfold iV;rw[hs];rfl
  have O:qX n l x m=[]:=by unfold qX;rw[F];rfl
  have J:=aN (And.intro F O);clear F O hs;go_wp2;go_ret2;exact⟨none,0,0,by rw[J.out.1];rfl,by rw[J.out.2];exact aP.nil _ _ _,B⟩
 |true=>
 go_wp2_with fail;clear G;refine(C0 w1 n _ l (hv.below B aO) _ x (hu.below B aO)).mono ?_;rintro e' w2 ⟨rfl,b2⟩;have K:=K.keep b2;have B:=B.after b2 B.size;have G:=K.cell
 cases hb:lJ n l x with
 |false=>
  have F:iV n l x m=false:=by unfold iV;rw[hb];simp
  have O:qX n l x m=[]:=by unfold qX;rw[F];rfl
  have J:=aN (And.intro F O);clear F O hs hb;go_wp2;go_ret2;exact⟨none,0,0,by rw[J.out.1];rfl,by rw[J.out.2];exact aP.nil _ _ _,B⟩
 |true=>
 go_wp2_with fail;clear G;refine(JO n l _ m _ w2 (hv.below B aO) (ht.below B aO)).mono ?_;rintro e' w3 ⟨rfl,b3⟩;have K:=K.keep b3;have B:=B.after b3 B.size;have G:=K.cell
 cases hlo:gN n m with
 |false=>
  have F:iV n l x m=false:=by unfold iV;rw[hlo];simp
  have O:qX n l x m=[]:=by unfold qX;rw[F];rfl
  have J:=aN (And.intro F O);clear F O hs hb hlo;go_wp2;go_ret2;exact⟨none,0,0,by rw[J.out.1];rfl,by rw[J.out.2];exact aP.nil _ _ _,B⟩
 |true=>
 have F:iV n l x m=true:=by unfold iV;rw[hs,hb,hlo];rfl
 have O:qX n l x m=fB n l x m x.length:=by unfold qX;rw[F];rfl
 obtain⟨N,rfl,i7,e6,b0,e5,a9⟩:=TW F;have e9:=aN (XO N l x m b0 e5 a9);have f2:=aN a9;have J:=aN (And.intro F O);have f3:=aN b0;have c8:=aN e6;clear F O hs hb hlo e5 a9 b0 e6;go_wp2_with fail;clear G;refine(kW _ x w3 (hu.below B aO) (by have:=c8.out;omega)).mono ?_;rintro e' w4 ⟨p,i,q,rfl,o,b4⟩;have zk:=K.lt;have M:∀g,(Value.slice p i q).ownBlock=some g->w.heap.size<g:=fun g h=>by have:=(o.lt g h).1;omega
 have K:=K.keep b4;have o:=o.mono (B':=w.heap.size) B.size;have B:=B.after b4 B.size;have hi:i=x.length:=by obtain⟨_,_,h⟩:=o.shape;injection h
 subst hi;go_wp2_with fail;go_loopw [31] (fun i wr=>∃k:Nat,k<=x.length/\i=aM k/\aP 3 w wr (aI p x.length q) (fB N l x m k)/\(∀g,(Value.slice p x.length q).ownBlock=some g->w.heap.size<g)/\aU wr w 26 #[(N:Int),aI a l.length c]/\Below w w wr) (fun i _=>x.length-(intOf i).toNat)
 case atStart=>exact⟨0,Nat.zero_le _,rfl,o,M,K,B⟩
 case round=>
  clear M;obtain⟨k,hk,rfl,ow,M,Kr,Br⟩:=hrel;clear o K B;have HO:=aN ow;have R:=aN M;clear ow M;by_cases hlt:k<x.length
  ·have d7:(k:Int)<(x.length:Int):=aK;have I:=BN N l x m k;rcases HO.out.cases with⟨h1,h2⟩|⟨g,cap,h1,i8,j0⟩
   ·rw[h2]at I;simp at I;omega
   ·injection h1 with h1 h3 h4;subst h1 h4;have j1:=R.out g rfl;clear h3;have Z:k<(fB N l x m k).length:=aK;have co:=HO.out.cellAt I.symm k Z;have ob:=e9.out k hk _ (List.getElem_mem Z);have e0:(fB N l x m k).getD k 0=(fB N l x m k)[k]:=aX _ k Z;have Y:k<m.length:=by have:=f3.out;omega
    have cm:=aW d0 f8 Br aO k Y;have im:=fun W=>a6 W k Y;have mb:=f2.out k Y;have d8:m.getD k 0=m[k]:=aX _ k Y;have f9:=LS N l (fB N l x m k) k;have a1:fB N l x m (k+1)=if (fB N l x m k).getD k 0<m.getD k 0 then (fB N l x m k).set k (min ((fB N l x m k).getD k 0+mL N l (fB N l x m k) k) (m.getD k 0)) else fB N l x m k:=rfl;rw[e0,d8]at a1;have hcl:=fun(W:World) (h1:aR W (aI a l.length c) l) (h2:aR W (aI (some ⟨g,0,none⟩) x.length q) (fB N l x m k))=>PC W N _ l h1 _ _ h2 k (by have:=c8.out;omega);obtain⟨C,hC⟩:=aQ (mL N l (fB N l x m k) k);obtain⟨D,b7⟩:=aQ ((fB N l x m k)[k]);obtain⟨mv,b6⟩:=aQ (m[k]);simp only[<-hC]at hcl;rw[<-hC,<-b7,<-b6]at a1;rw[<-hC]at f9;rw[<-b7]at co ob;rw[<-b6]at cm mb;have f0:=aN hcl;have c7:=aN a1;have c6:=aN I;have fo:=HO.out.frozenAt I.symm k;have G:=Kr.cell;clear hcl a1 I hC b7 b6 e0 d8 Z d0 a6;by_cases d6:D<mv
    ·have a7:=aN d6;go_wp2;go_quiet (fail);go_wp2_with fail;refine(f0.out _ (hv.below (Br.drewN' _) aO) (HO.out.drewN _).ints).mono ?_;rintro e' w5 ⟨rfl,b5⟩;have K5:=(Kr.drewN nq).keep b5;have o5:=(HO.out.drewN nq).keep b5;have B5:=(Br.drewN' nq).after b5 (Br.drewN' nq).size;have h9:=keep b5 (show(wr.drewN nq).cell? ⟨g,k,none⟩=some (aM D) from co);have h8:=keep b5 (show(wr.drewN nq).cell? ⟨bq,e7+k,none⟩=some (aM mv) from cm);have i6:=o5.frozenAt c6.out.symm k;have j3:IntKind.i64.wrap (D+C)=D+C:=IntWalk.i64_in _ ⟨by omega,by omega⟩;have f4:=aN o5;clear co cm fo G o5;go_wp2;go_region
     all_goals go_wp2
     go_roundw
     case rel=>
      have S:∀z,aP 3 w ((w5.drewN z).setCell ⟨g,k,none⟩ (aM (if mv<D+C then mv else D+C))) (aI (some ⟨g,0,none⟩) x.length q) (fB N l x m (k+1))/\aU ((w5.drewN z).setCell ⟨g,k,none⟩ (aM (if mv<D+C then mv else D+C))) w.heap.size 26 #[(N:Int),aI a l.length c]/\Below w w ((w5.drewN z).setCell ⟨g,k,none⟩ (aM (if mv<D+C then mv else D+C))):=by
       intro z;have d9:(if mv<D+C then mv else D+C)=min (D+C) mv:=by split<;>omega
       rw[d9];have s1:=(f4.out.drewN z).stored c6.out.symm k (min (D+C) mv) ⟨by omega,by omega⟩;rw[c7.out,if_pos a7.out];exact⟨s1.1,(K5.drewN z).far (by show w.heap.size≠g;omega) _,(B5.drewN' z).grown s1.2 (B5.drewN' z).size kH⟩
      first|exact⟨k+1,by omega,by go_num,(S _).1,R.out,(S _).2.1,(S _).2.2⟩|(simp only[show(if mv<D+C then mv else D+C)=min (D+C) mv by split<;>omega]at S;exact⟨k+1,by omega,by go_num,(S _).1,R.out,(S _).2.1,(S _).2.2⟩)
     case measure=>simp[intOf];omega
    ·have a7:=aN d6;go_wp2;go_quiet (fail);go_wp2;go_roundw
     case rel=>exact⟨k+1,by omega,by go_num,by rw[c7.out,if_neg (by have:=a7.out;omega)];exact HO.out.drewN _,R.out,Kr.drewN _,Br.drewN' _⟩
     case measure=>simp[intOf];omega
  ·have d7:¬(k:Int)<(x.length:Int):=aK;have d5:k=x.length:=aK;have HK:=aN d5;clear d5;go_wp2;go_ret2;have ho:=HO.out;rw[HK.out]at ho;exact⟨p,x.length,q,by rw[J.out.1];rfl,by rw[J.out.2];exact ho,Br⟩
theorem ZW(w:World)(n:Int)(v:Value)(l:List Int)(hv:aR w v l)(hl:l.length<=1048576)(u:Value)(x:List Int)(hu:aR w u x)(t:Value)(m:List Int)(ht:aR w t m):
  Calls prog 189 #[.agg #[n,v],u,t] w fun e' w'=>∃ad i c,e'=.returned (.tuple #[aI ad i c,.bool (iV n l x m)])/\aP 3 w w' (aI ad i c) (qX n l x m)/\Below w w w':=by
 obtain⟨a,c,rfl⟩:=hv.shape;obtain⟨b,cu,rfl⟩:=hu.shape;obtain⟨bt,bq,i1,ct,rfl,g5,a8,d5,g2⟩:=ht.view prog 24 3 underlying24 aS;obtain⟨V,hV⟩:=aQ (w.alloc (.cells #[n,aI a l.length c] 26));have B:Below w w V:=fU hV;have K:aU V w 26 #[n,aI a l.length c]:=eJ hV;go_enter func189,ntmps189;go_wp2_with fail;rw[<-hV];clear hV;refine(sE n l _ V (hv.below B aO) hl).mono ?_;rintro e' w1 ⟨rfl,b1⟩;have K:=K.keep b1;have B:=B.after b1 B.size;have G:=K.cell
 cases hs:gR n l with
 |false=>
  have D:iV n l x m=false:=by unfold iV;rw[hs];rfl
  have M:qX n l x m=[]:=by unfold qX;rw[D];rfl
  have J:=aN (And.intro D M);clear D M hs;go_wp2;go_ret2;exact⟨some ⟨w1,0,none⟩,0,0,by rw[J.out.1];rfl,by rw[J.out.2];exact aP.lit0 _ B.size,B.after (bF _ _) B.size⟩
 |true=>
 go_wp2_with fail;clear G;refine(DA w1 n _ l (hv.below B aO) _ x (hu.below B aO)).mono ?_;rintro e' w2 ⟨rfl,b2⟩;have K:=K.keep b2;have B:=B.after b2 B.size;have G:=K.cell
 cases hb:lJ n l x with
 |false=>
  have D:iV n l x m=false:=by unfold iV;rw[hb];simp
  have M:qX n l x m=[]:=by unfold qX;rw[D];rfl
  have J:=aN (And.intro D M);clear D M hs hb;go_wp2;go_ret2;exact⟨some ⟨w2,0,none⟩,0,0,by rw[J.out.1];rfl,by rw[J.out.2];exact aP.lit0 _ B.size,B.after (bF _ _) B.size⟩
 |true=>
 go_wp2_with fail;clear G;refine(xT m _ w2 (ht.below B aO)).mono ?_;rintro e' w3 ⟨rfl,rfl⟩;have G:=K.cell;have HN:=aN (show(x.length:Int)=n/\n<=5 from by obtain⟨N,hN,g0,_,_,k0,_,_,_⟩:=AD hb;exact⟨by omega,by omega⟩)
 cases a6:(kO m (-5000) 5000&&decide (m.length<=5)) with
 |false=>
  have hlo:gN n m=false:=by
   unfold gN
   cases g1:kO m (-5000) 5000 with
   |false=>simp
   |true=>rw[g1,Bool.true_and]at a6;have:=of_decide_eq_false a6;have:=HN.out;rw[decide_eq_false aK];rfl
  have D:iV n l x m=false:=by unfold iV;rw[hlo];simp
  have M:qX n l x m=[]:=by unfold qX;rw[D];rfl
  have J:=aN (And.intro D M);clear D M hs hb hlo;go_wp2;go_ret2;exact⟨some ⟨w2,0,none⟩,0,0,by rw[J.out.1];rfl,by rw[J.out.2];exact aP.lit0 _ B.size,B.after (bF _ _) B.size⟩
 |true=>
 by_cases I:m.length=x.length
 ·have hlo:gN n m=true:=by
   unfold gN;rw[(Bool.and_eq_true_iff.1 a6).1,decide_eq_true (by have:=HN.out;omega)]
   rfl
  have g6:((m.length:Int) != (x.length:Int))=false:=by simp[I]
  have D:iV n l x m=true:=by unfold iV;rw[hs,hb,hlo];rfl
  clear HN a6 I;have M:qX n l x m=fB n l x m x.length:=by unfold qX;rw[D];rfl
  obtain⟨N,rfl,g0,e8,I,e7,b0⟩:=TW D;have f4:=aN (XO N l x m I e7 b0);have f6:=aN b0;have J:=aN (And.intro D M);have f7:=aN I;have c8:=aN e8;clear D M hs hb hlo e7 b0 I e8;have e6:=hu.below B aO;have g8:x.length<=5:=by have:=c8.out;omega
  go_wp2_with (at_builtin;(refine vO rfl _ _ _ rfl 3 underlying24 aS w2.heap.size _ [] rfl (aP.lit0 w2 aO) _ x rfl (e6.alloc _) aV (by simp) ?_);intro v' w4 o d6;obtain⟨p,i,q,rfl⟩:=o.shape3);have b4:Below w2 w2 w4:=(bF w2 (.cells #[] 3)).grown d6 (by simp) (fun k hk=>by have g4:some w2.heap.size=some k:=hk;exact Nat.le_of_eq (Option.some.inj g4));have o:aP 3 w2 w4 (aI p i q) x:=by simpa using o
  clear d6 g8 e6;have zk:=K.lt;have Y:∀g,(Value.slice p i q).ownBlock=some g->w.heap.size<g:=fun g h=>by have:=(o.lt g h).1;omega
  have K:=K.keep b4;have o:=o.mono (B':=w.heap.size) B.size;have B:=B.after b4 B.size;have hi:i=x.length:=by obtain⟨_,_,h⟩:=o.shape;injection h
  subst hi;go_loopw [9] (fun i wr=>∃k:Nat,k<=x.length/\i=aM k/\aP 3 w wr (aI p x.length q) (fB N l x m k)/\(∀g,(Value.slice p x.length q).ownBlock=some g->w.heap.size<g)/\aU wr w 26 #[(N:Int),aI a l.length c]/\Below w w wr) (fun i _=>x.length-(intOf i).toNat)
  case atStart=>exact⟨0,Nat.zero_le _,rfl,o,Y,K,B⟩
  case round=>
   clear Y;obtain⟨k,hk,rfl,ow,Y,Kr,Br⟩:=hrel;clear o K B;have HO:=aN ow;have R:=aN Y;clear ow Y;by_cases hlt:k<x.length
   ·have d9:(k:Int)<(x.length:Int):=aK;have O:=BN N l x m k;rcases HO.out.cases with⟨h1,h2⟩|⟨g,cap,h1,j5,j6⟩
    ·rw[h2]at O;simp at O;omega
    ·injection h1 with h1 h3 h4;subst h1 h4;have j7:=R.out g rfl;clear h3;have a1:k<(fB N l x m k).length:=aK;have co:=HO.out.cellAt O.symm k a1;have ob:=f4.out k hk _ (List.getElem_mem a1);have e5:(fB N l x m k).getD k 0=(fB N l x m k)[k]:=aX _ k a1;have Z:k<m.length:=by have:=f7.out;omega
     have cm:=aW d5 g2 Br aO k Z;have im:=fun W=>a8 W k Z;have mb:=f6.out k Z;have e0:m.getD k 0=m[k]:=aX _ k Z;have g3:=LS N l (fB N l x m k) k;have a7:fB N l x m (k+1)=if (fB N l x m k).getD k 0<m.getD k 0 then (fB N l x m k).set k (min ((fB N l x m k).getD k 0+mL N l (fB N l x m k) k) (m.getD k 0)) else fB N l x m k:=rfl;rw[e5,e0]at a7;have hcl:=fun(W:World) (h1:aR W (aI a l.length c) l) (h2:aR W (aI (some ⟨g,0,none⟩) x.length q) (fB N l x m k))=>PD W N _ l h1 _ _ h2 k (by have:=c8.out;omega);obtain⟨C,hC⟩:=aQ (mL N l (fB N l x m k) k);obtain⟨F,b6⟩:=aQ ((fB N l x m k)[k]);obtain⟨mv,b3⟩:=aQ (m[k]);simp only[<-hC]at hcl;rw[<-hC,<-b6,<-b3]at a7;rw[<-hC]at g3;rw[<-b6]at co ob;rw[<-b3]at cm mb;have f5:=aN hcl;have c6:=aN a7;have c5:=aN O;have fo:=HO.out.frozenAt O.symm k;have G:=Kr.cell;clear hcl a7 O hC b6 b3 e5 e0 a1 d5 a8;go_wp2_with fail;refine(f5.out _ (hv.below Br aO) HO.out.ints).mono ?_;rintro e' w5 ⟨rfl,b5⟩;have K5:=Kr.keep b5;have o5:=HO.out.keep b5;have B5:=Br.after b5 Br.size;have j2:=keep b5 co;have j1:=keep b5 cm;have j4:=o5.frozenAt c5.out.symm k;have j9:IntKind.i64.wrap (F+C)=F+C:=IntWalk.i64_in _ ⟨by omega,by omega⟩;have c7:=aN o5;clear co cm fo G o5;by_cases d8:F<mv
     ·have a9:=aN d8;go_wp2;go_quiet (fail);go_wp2;go_region
      all_goals go_wp2
      go_roundw
      case rel=>
       have S:∀z,aP 3 w ((w5.drewN z).setCell ⟨g,k,none⟩ (aM (if F+C<mv then F+C else mv))) (aI (some ⟨g,0,none⟩) x.length q) (fB N l x m (k+1))/\aU ((w5.drewN z).setCell ⟨g,k,none⟩ (aM (if F+C<mv then F+C else mv))) w.heap.size 26 #[(N:Int),aI a l.length c]/\Below w w ((w5.drewN z).setCell ⟨g,k,none⟩ (aM (if F+C<mv then F+C else mv))):=by
        intro z;have e4:(if F+C<mv then F+C else mv)=min (F+C) mv:=by split<;>omega
        rw[e4];have s1:=(c7.out.drewN z).stored c5.out.symm k (min (F+C) mv) ⟨by omega,by omega⟩;rw[c6.out,if_pos a9.out];exact⟨s1.1,(K5.drewN z).far (by show w.heap.size≠g;omega) _,(B5.drewN' z).grown s1.2 (B5.drewN' z).size kH⟩
       first|exact⟨k+1,by omega,by go_num,(S _).1,R.out,(S _).2.1,(S _).2.2⟩|(simp only[show(if F+C<mv then F+C else mv)=min (F+C) mv by split<;>omega]at S;exact⟨k+1,by omega,by go_num,(S _).1,R.out,(S _).2.1,(S _).2.2⟩)|(simp only[show(if F+C<mv then F+C else mv)=min mv (F+C) by split<;>omega]at S;exact⟨k+1,by omega,by go_num,(S _).1,R.out,(S _).2.1,(S _).2.2⟩)
      case measure=>simp[intOf];omega
     ·have a9:=aN d8;go_wp2;go_quiet (fail);go_wp2;go_roundw
      case rel=>exact⟨k+1,by omega,by go_num,by rw[c6.out,if_neg (by have:=a9.out;omega)];exact c7.out.drewN _,R.out,K5.drewN _,B5.drewN' _⟩
      case measure=>simp[intOf];omega
   ·have d9:¬(k:Int)<(x.length:Int):=aK;have d7:k=x.length:=aK;have HK:=aN d7;clear d7;go_wp2;go_ret2;have ho:=HO.out;rw[HK.out]at ho;exact⟨p,x.length,q,by rw[J.out.1];rfl,by rw[J.out.2];exact ho,Br⟩
 ·have hlo:gN n m=false:=by unfold gN;rw[decide_eq_false (by have:=HN.out;omega)];rfl
  have g6:((m.length:Int) != (x.length:Int))=true:=by simp;omega
  have D:iV n l x m=false:=by unfold iV;rw[hlo];simp
  have M:qX n l x m=[]:=by unfold qX;rw[D];rfl
  have J:=aN (And.intro D M);clear D M hs hb hlo I;go_wp2;go_ret2;exact⟨some ⟨w2,0,none⟩,0,0,by rw[J.out.1];rfl,by rw[J.out.2];exact aP.lit0 _ B.size,B.after (bF _ _) B.size⟩
end
end Go.Proofs.YtcpoomdoodlkjaaGreatDoor
