/- Lemmas for CardReports. No condition. -/
import Derived.Test.YtcpoomdoodlkjaaGreatDoorQ16
set_option maxRecDepth 100000
set_option maxHeartbeats 64000000
section
namespace Go
section
variable {P:Program} {ops:Array Oper} {C:World->Prop} {Q:Act->World->Prop}
def Oper.tame(o:Oper):Bool:=
 match o.op with
 |.move _|.assign _|.pick _ _ _|.load _ _|.binOp _ _ _ _ _|.unOp _ _ _|.convert _ _ _|.fieldAddr _ _ _|.field _ _ _|.indexAddr _ _ _|.index _ _ _|.slice _ _ _ _ _|.extract _ _|.build _ _=>true
 |.call c=>match c.callee with
  |.builtin .len|.builtin .min|.builtin .max=>true
  |_=>false
 |_=>false
theorem jP(s:Sem Value)(w:World)(f:FuncId)(args:Array Value)(w':World):(do pure (Next.value (<-s)):Sem Next).run P w≠.ok (.enter f args) w':=by
 simp only[Sem.run_bind,Sem.run_pure]
 cases s.run P w with
 |ok v w1=>simp[Result.andThen]
 |halt x w1=>simp[Result.andThen]
theorem aaC(s:Sem Bool)(F:Bool->Value)(w:World)(f:FuncId)(args:Array Value)(w':World):(do pure (Next.value (F (<-s))):Sem Next).run P w≠.ok (.enter f args) w':=by
 simp only[Sem.run_bind,Sem.run_pure]
 cases s.run P w with
 |ok v w1=>simp[Result.andThen]
 |halt x w1=>simp[Result.andThen]
theorem Oper.tame_enter{o:Oper}(h:o.tame=true)(ρ:Operand->Value)(w:World)(f:FuncId)(args:Array Value)(w':World):(execOp ρ o).run P w≠.ok (.enter f args) w':=by
 unfold Oper.tame at h;unfold execOp
 split at h<;>rename_i z<;>simp only[z]
 case h_1=>simp
 case h_2=>simp
 case h_3=>exact aaC _ (fun b=>if b=true then _ else _) _ _ _ _
 case h_4=>exact jP _ _ _ _ _
 case h_5=>exact jP _ _ _ _ _
 case h_6=>exact jP _ _ _ _ _
 case h_7=>exact jP _ _ _ _ _
 case h_8=>exact jP _ _ _ _ _
 case h_9=>exact jP _ _ _ _ _
 case h_10=>exact jP _ _ _ _ _
 case h_11=>exact jP _ _ _ _ _
 case h_12=>exact jP _ _ _ _ _
 case h_13=>exact jP _ _ _ _ _
 case h_14=>exact jP _ _ _ _ _
 case h_15=>
  rename_i c
  split at h
  ·rename_i hc
   simp only[resolve,hc,Sem.run_bind,Sem.run_pure,Result.andThen,invoke,builtin]
   split<;>simp
  ·rename_i hc
   simp only[resolve,hc,Sem.run_bind,Sem.run_pure,Result.andThen,invoke,builtin]
   split<;>simp
  ·rename_i hc
   simp only[resolve,hc,Sem.run_bind,Sem.run_pure,Result.andThen,invoke,builtin]
   split<;>simp
  ·cases h
 case h_16=>cases h
theorem Oper.tame_quiet{o:Oper}(h:o.tame=true):o.loud=false:=by
 unfold Oper.tame at h;unfold Oper.loud
 split
 ·rename_i c hc
  simp only[hc]at h
  split
  ·rename_i z
   simp only[z]at h
   cases h
  ·rfl
 ·rfl
theorem Oper.reads_of_quiet{o:Oper}{a:Act}{K:Act->Prop}(h:o.tame=true)(z:o.quiet P a C K):o.reads P a C K:=by
 obtain⟨v,h1,h2⟩:=z;refine⟨v,fun w hw=>?_,h2⟩;have h3:=h1 w hw;have h4:=Oper.tame_enter (P:=P) h a.eval w;unfold Oper.quietAt at h3
 generalize (execOp a.eval o).run P w=r at *
 cases r with
 |ok n w'=>
  cases n<;>simp only[Oper.quietUpon,Oper.readUpon]at h3 ⊢
  case value u=>exact h3
  case skip=>exact h3
  case enter f args=>exact h4 f args w' rfl
 |halt x w'=>simp only[Oper.quietUpon]at h3
structure WMix (P:Program) (ops:Array Oper) (C:World->Prop) (Q:Act->World->Prop) (l:List Oper) (a:Act) (w:World):Prop where
 out:tF P ops C Q l a w
theorem Z5{K D:Act->Prop}(h:∀a,K a->D a){o:Oper}{a:Act}(z:wpQuiet P ops C K [o] a):wpQuiet P ops C D [o] a:=by
 rw[wpQuiet]at z ⊢
 split
 ·rename_i hw
  rw[if_pos hw]at z;obtain⟨v,h1,h2⟩:=z;exact⟨v,h1,h _ h2⟩
 ·rename_i hw
  rw[if_neg hw]at z;exact h _ z
theorem WH{a:Act}{w:World}{o:Oper}{rest:List Oper}(h:o.tame=true)(z:wpQuiet P ops C (fun D=>tF P ops C Q rest D w) [o] a):tF P ops C Q (o::rest) a w:=by
 rw[wpQuiet]at z;rw[tF]
 split
 ·rename_i hw
  rw[if_pos hw]at z;rw[if_neg (by rw[Oper.tame_quiet h];simp)];exact Oper.reads_of_quiet h z
 ·rename_i hw
  rw[if_neg hw]at z;exact z
theorem gG{a:Act}{w:World}{o:Oper}{rest:List Oper}(h:o.tame=true)(D:wpQuiet P ops C (fun z=>WMix P ops C Q rest z w) [o] a):WMix P ops C Q (o::rest) a w:=
 ⟨WH h (Z5 (fun _ h=>h.out) D)⟩
theorem O0{a:Act}{w:World}(h:Q a w):WMix P ops C Q [] a w:=⟨h⟩
theorem YU{o:Oper}{a:Act}{w:World}{K:Act->World->Prop}{f:FuncId}{args:Array Value}(z:(execOp a.eval o).run P w=.ok (.enter f args) w)(h:Calls P f args w fun e w''=>∃v,e=.returned v/\C w''/\K (a.put o.dst v) w''):o.goes P a w C K:=by
 unfold Oper.goes;rw[z];exact⟨rfl,h⟩
theorem gY{a:Act}{w:World}{o:Oper}{rest:List Oper}(f:FuncId)(F:Array Operand)(ts:Array TypeId)(I:o.op=.call { callee:=.value (.func f),args:=F,argTypes:=ts })(D:∀args w,(callFunc f args).run P w=.ok (.enter f args) w)
  (hw:Region.wanted o (yielded ops a.tmps)=true) (h:∀K:Act->World->Prop,(∀z w',C w'->WMix P ops C Q rest z w'->K z w')->Calls P f (F.map a.eval) w fun e w''=>∃v,e=.returned v/\K (a.put o.dst v) w''):WMix P ops C Q (o::rest) a w:=by
 refine⟨?_⟩;rw[tF,if_pos hw,if_pos (by unfold Oper.loud;rw[I])];have h1:=h (fun z w'=>C w'/\WMix P ops C Q rest z w') (fun z w' h1 h2=>⟨h1,h2⟩);refine YU (f:=f) (args:=F.map a.eval) ?_ (h1.mono fun e w'' ⟨v,J,hC,hk⟩=>⟨v,J,hC,hk.out⟩);unfold execOp;simp only[I,resolve,Sem.run_bind];have e:=D (F.map a.eval) w;simp[Act.eval,Deferred.ofValue,Sem.run_pure,Result.andThen,invoke,go_sem];exact e
theorem CC{F:Nat}{Q:Exit->Act->World->Prop}{a:Act}{w:World}{l:List Oper}(hm:P.follows .mixedOrders=true)(hB:Region.lexB .any l.toArray=true)(z:Region.chained .any l.toArray=true)
  (hC:C w.drew) (h:WMix P l.toArray C (fun D w'=>Q .normal D w') l a w.drew):(Code.region F l.toArray true).wp P Q a w:=
 NG hm hB z hC h.out
end
end Go
end
namespace Go.Proofs.YtcpoomdoodlkjaaGreatDoor
section
open Go.RowKit Go.G5 Go.Proofs.Tryz
def lC(l:List Int):Nat->Nat
 |0=>0
 |t+1=>if l.getD (lC l t) 0<l.getD t 0 then t else lC l t
theorem OG(l:List Int)(t:Nat):lC l (t+1)=if l.getD (lC l t) 0<l.getD t 0 then t else lC l t:=rfl
theorem ER(l:List Int):∀t,0<t->lC l t<t:=by
 intro t
 induction t with
 |zero=>intro h;omega
 |succ t ih=>
  intro _;rw[lC]
  split
  ·omega
  ·rcases Nat.eq_zero_or_pos t with rfl|h
   ·simp[lC]
   ·have:=ih h;omega
theorem aeL(l:List Int):lC l 1=0:=by have:=ER l 1 aI;omega
def yZ(n:Int)(l:List Int):Int:=if bH n l then (lC l l.length:Int) else 0
def vY(n:Int)(l:List Int):Int:=if bH n l then l.getD (lC l l.length) 0 else 0
def jE(N x e:Nat):Nat:=x+(2^N-2^e)
def iV(l:List Int)(N:Nat):Nat->Nat
 |0=>0
 |e+1=>if l.getD (cS (jE N (iV l N e) e) (2^e)) 0-l.getD (jE N (iV l N e) e) 0<=dX l (iV l N e) e then bO (iV l N e) e else iV l N e
def yL(n:Int)(l:List Int):Int:=if bH n l then (iV l n.toNat n.toNat:Int) else 0
theorem aiQ:∀N,N<6->∀e,e<N->∀x,x<32->x<2^e->(bO x e=x+2^e/\cS (jE N x e) (2^e)=jE N x (e+1)):=by decide +kernel
theorem aiR:∀N,N<6->∀e,e<N->∀x,x<32->x<2^e->(jE N (x+2^e) (e+1)=jE N x e/\jE N x e<2^N):=by decide +kernel
theorem aiS:∀N,N<6->∀e,e<N->∀x,x<32->x<2^e->(2^e<=jE N x e/\jE N x e-2^e=jE N x (e+1)):=by decide +kernel
theorem aiT:∀N,N<6->∀e,e<N->∀x,x<32->x<2^e->(jE N x (e+1)<2^N/\x+2^e<2^N):=by decide +kernel
theorem GA(N:Nat)(z:N<6)(e:Nat)(D:e<N)(x:Nat)(F:x<32)(h:x<2^e):(bO x e=x+2^e/\cS (jE N x e) (2^e)=jE N x (e+1))/\(jE N (x+2^e) (e+1)=jE N x e/\jE N x e<2^N)/\((2^e<=jE N x e/\jE N x e-2^e=jE N x (e+1))/\(jE N x (e+1)<2^N/\x+2^e<2^N)):=
 ⟨aiQ N z e D x F h,aiR N z e D x F h,aiS N z e D x F h,aiT N z e D x F h⟩
theorem agT:∀n:Nat,n<6->∀s,s<32->s<2^n->bN s<=n:=by decide +kernel
theorem EL(l:List Int)(N:Nat)(D:N<=5):∀e,e<=N->iV l N e<2^e:=by
 intro e
 induction e with
 |zero=>intro _;exact Nat.one_pos
 |succ e ih=>
  intro F;have h:=ih aI;have I:(2:Nat)^(e+1)=2*2^e:=by rw[Nat.pow_succ];omega
  have z:(2:Nat)^e<=32:=Nat.pow_le_pow_right (n:=2) (j:=5) aV aI;rw[iV]
  split
  ·rw[(GA N aI e aI _ aI h).1.1];omega
  ·omega
theorem NO(l:List Int)(N e:Nat):iV l N (e+1)=if l.getD (cS (jE N (iV l N e) e) (2^e)) 0-l.getD (jE N (iV l N e) e) 0<=dX l (iV l N e) e then bO (iV l N e) e else iV l N e:=rfl
theorem RE(N:Nat):jE N 0 0=2^N-1:=by unfold jE;simp
theorem afU(y e:Nat)(F:y<64)(z:e<6):bits .andNot .i64 (y:Int) (2^e)=((cS y (2^e):Nat):Int):=by
 have D:=Nat.pow_lt_pow_right (show 1<2 by decide) z;have:=vP y (2^e) F (by simp at D;omega);rw[<-this];push_cast;rfl
theorem vO{l:List Int}(h:∀k,(hk:k<l.length)->-1000<=l[k]/\l[k]<=1000)(i:Nat):-1000<=l.getD i 0/\l.getD i 0<=1000:=by
 by_cases z:i<l.length
 ·rw[aU l i z];exact h i z
 ·have e:l.getD i 0=0:=by unfold List.getD;rw[List.getElem?_eq_none aI];rfl
  rw[e];omega
def nK(l:List Int):Nat->Int
 |0=>l.getD 0 0
 |k+1=>min (nK l k) (l.getD k 0)
def iK(l:List Int):Int:=nK l l.length
def mW(l:List Int)(m:Int):Nat->List Int
 |0=>[]
 |k+1=>if l.getD k 0=m then mW l m k++[(k:Int)] else mW l m k
def zA(n:Int)(l:List Int):List Int:=if bH n l then mW l (iK l) l.length else []
def xU(n:Int)(l:List Int):Int:=if bH n l then iK l else 0
theorem W8(l:List Int):nK l 1=l.getD 0 0:=by show min (l.getD 0 0) (l.getD 0 0)=_;omega
theorem ahU(l:List Int)(h:0<l.length):∀k,k<=l.length->∃i,i<l.length/\l.getD i 0=nK l k:=by
 intro k
 induction k with
 |zero=>intro _;exact⟨0,h,rfl⟩
 |succ k ih=>
  intro hk;obtain⟨i,z,D⟩:=ih aI;rw[nK];by_cases hc:nK l k<=l.getD k 0
  ·exact⟨i,z,by omega⟩
  ·exact⟨k,by omega,by omega⟩
theorem ab1(l:List Int)(m:Int):∀k,(mW l m k).length<=k:=by
 intro k
 induction k with
 |zero=>simp[mW]
 |succ k ih=>
  rw[mW]
  split
  ·simp;omega
  ·omega
theorem TY(l:List Int)(v:Value)(w:World)(hv:aO w v l)(z:0<l.length):
  Calls prog 180 #[v] w fun e w'=>e=.returned (iK l)/\w=w':=by
 obtain⟨a,b,I,c,rfl,M,D,hc,hb⟩:=hv.view prog 24 3 underlying24 aP;have h1:¬(l.length:Int)<1:=aI;have i0:∀W,(Instr.indexAt 24 (ajH a l.length c) (ajJ 0)).run prog W=.ok (.pointer (some ⟨b,I,none⟩)) W:=fun W=>D W 0 z;have c0:w.cell? ⟨b,I,none⟩=some (ajJ (l.getD 0 0)):=by rw[aU l 0 z];exact hc 0 z
 go_enter func180,ntmps180;go_wp2;go_loop [3,4] (fun m i=>∃k:Nat,1<=k/\k<=l.length/\i=ajJ k/\m=ajJ (nK l k)) (fun _ i=>l.length-(intOf i).toNat)
 case atStart=>exact⟨1,aK,z,rfl,by rw[W8,aU l 0 z]⟩
 case round=>
  obtain⟨k,Z,hk,rfl,rfl⟩:=hrel;by_cases hlt:k<l.length
  ·have K:=hc k hlt;have Y:=fun W=>D W k hlt;have J:nK l (k+1)=min (nK l k) l[k]:=by rw[nK,aU l k hlt]
   obtain⟨p,N⟩:=aN (l[k]);obtain⟨q,O⟩:=aN (nK l k);rw[<-N]at K J;rw[<-O]at J ⊢;have S:=aJ J;clear J N O hc D;go_wp2;go_round
   case rel=>exact⟨k+1,by omega,by omega,by go_num,by rw[S.out]<;>(congr 1<;>(split<;>omega))⟩
   case measure=>simp[intOf];omega
  ·have F:k=l.length:=aI;have R:=aJ F;clear F;go_wp2;go_ret;exact⟨fF (by rw[R.out];rfl),rfl⟩
theorem DJ(w:World)(n:Int)(v:Value)(l:List Int)(O:aO w v l):
  Calls prog 66 #[.agg #[n,v]] w fun e w'=>e=.returned (.tuple #[(xU n l),.bool (bH n l)])/\Below w w w':=by
 obtain⟨a,c,rfl⟩:=O.shape;go_enter func66,ntmps66;go_wp2_with fail;refine bB ?_;intro V J;have B:Below w w V:=fR J;have K:aR V w 26 #[n,ajH a l.length c]:=eG J;clear J;refine(dS n l _ V (O.below B aK)).mono ?_;rintro e w1 ⟨rfl,R⟩;have K:=K.keep R;have B:=B.after R B.size;have G:=K.cell
 cases z:bH n l with
 |false=>
  have I:xU n l=0:=by unfold xU;rw[z];rfl
  have D:=aJ (And.intro I z);clear I z;go_wp2;go_ret2;exact⟨by rw[D.out.1,D.out.2];rfl,B⟩
 |true=>
  have I:xU n l=iK l:=by unfold xU;rw[z];rfl
  have F:0<l.length:=by obtain⟨N,rfl,_,M,_⟩:=cU z;rw[M];exact Nat.two_pow_pos N
  have D:=aJ (And.intro I z);have S:=aJ (TY l _ w1 (O.below B aK) F);clear I z;go_wp2_with (go_at_call 180;refine S.out.mono ?_;rintro e w' ⟨rfl,rfl⟩);go_ret2;exact⟨by rw[D.out.1,D.out.2];rfl,B⟩
theorem DC(w:World)(n:Int)(v:Value)(l:List Int)(hv:aO w v l)(z:0<l.length):
  Calls prog 78 #[.agg #[n,v]] w fun e w'=>e=.returned (iK l)/\Below w w w':=by
 obtain⟨a,b,J,c,rfl,N,F,hc,hb⟩:=hv.view prog 24 3 underlying24 aP;have D:=aT hc hb (aY w (.cells #[n,ajH a l.length c] 26)) aK;have i0:∀W,(Instr.indexAt 24 (ajH a l.length c) (ajJ 0)).run prog W=.ok (.pointer (some ⟨b,J,none⟩)) W:=fun W=>F W 0 z;have c0:(w.alloc (.cells #[n,ajH a l.length c] 26)).cell? ⟨b,J,none⟩=some (ajJ (l.getD 0 0)):=by rw[aU l 0 z];exact D 0 z
 go_enter func78,ntmps78;go_wp2;go_loop [3,4] (fun m i=>∃k:Nat,1<=k/\k<=l.length/\i=ajJ k/\m=ajJ (nK l k)) (fun _ i=>l.length-(intOf i).toNat)
 case atStart=>exact⟨1,aK,z,rfl,by rw[W8,aU l 0 z]⟩
 case round=>
  obtain⟨k,a1,hk,rfl,rfl⟩:=hrel;by_cases hlt:k<l.length
  ·have M:=D k hlt;have Z:=fun W=>F W k hlt;have K:nK l (k+1)=min (nK l k) l[k]:=by rw[nK,aU l k hlt]
   obtain⟨p,O⟩:=aN (l[k]);obtain⟨q,R⟩:=aN (nK l k);rw[<-O]at M K;rw[<-R]at K ⊢;have Y:=aJ K;clear K O R hc D F;go_wp2;go_round
   case rel=>exact⟨k+1,by omega,by omega,by go_num,by rw[Y.out]<;>(congr 1<;>(split<;>omega))⟩
   case measure=>simp[intOf];omega
  ·have I:k=l.length:=aI;have S:=aJ I;clear I;go_wp2;go_ret;exact⟨fF (by rw[S.out];rfl),aY _ _⟩
theorem JZ(w:World)(n:Int)(v:Value)(l:List Int)(hv:aO w v l):
  Calls prog 67 #[.agg #[n,v]] w fun e w'=>∃ad i c,e=.returned (.tuple #[ajH ad i c,.bool (bH n l)])/\aM 3 w w' (ajH ad i c) (zA n l)/\Below w w w':=by
 obtain⟨a,b,e0,c,rfl,c5,b5,hc,hb⟩:=hv.view prog 24 3 underlying24 aP;go_enter func67,ntmps67;go_wp2_with fail;refine bB ?_;intro V hV;have B:Below w w V:=fR hV;have K:aR V w 26 #[n,ajH a l.length c]:=eG hV;clear hV;refine(DJ V n _ l (hv.below B aK)).mono ?_;rintro e w1 ⟨rfl,b1⟩;have K:=K.keep b1;have B:=B.after b1 B.size;have G:=K.cell
 cases D:bH n l with
 |false=>
  have hx:zA n l=[]:=by unfold zA;rw[D];rfl
  have S:=aJ (And.intro hx D);clear hx D;go_wp2;go_ret2;exact⟨none,0,0,by rw[S.out.2];rfl,by rw[S.out.1];exact aM.nil _ _ _,B⟩
 |true=>
  have hx:zA n l=mW l (iK l) l.length:=by unfold zA;rw[D];rfl
  have hm:xU n l=iK l:=by unfold xU;rw[D];rfl
  have b9:l.length<=32:=by obtain⟨N,rfl,_,_,h,_⟩:=cU D;exact h
  obtain⟨M,hM⟩:=aN (iK l);rw[hm,<-hM];have HM:=aJ hM;have S:=aJ (And.intro hx D);clear hx D hm hM;go_wp2_with fail;go_loopw [6,19] (fun out i wr=>∃(k:Nat) (ad:Option Addr) (nn Y:Nat),k<=l.length/\out=ajH ad nn Y/\i=ajJ k/\aM 3 w wr (ajH ad nn Y) (mW l (iK l) k)/\Below w w wr) (fun _ i _=>l.length-(intOf i).toNat)
  case atStart=>exact⟨0,none,0,0,Nat.zero_le _,rfl,rfl,aM.nil _ _ _,B⟩
  case round=>
   obtain⟨k,ad,nn,Y,hk,rfl,rfl,O,J⟩:=hrel;have R:=aJ O;clear O;by_cases hlt:k<l.length
   ·have a1:(k:Int)<(l.length:Int):=aI;have b3:=aT hc hb J aK k hlt;have d7:=fun W=>b5 W k hlt;have hn:mW l (iK l) (k+1)=if l[k]=M then mW l (iK l) k++[(k:Int)] else mW l (iK l) k:=by rw[mW,aU l k hlt,HM.out]
    obtain⟨y,hy⟩:=aN (l[k]);rw[<-hy]at b3 hn;have HN:=aJ hn;clear hn hy;by_cases z:y=M
    ·have b0:(y==M)=true:=by simp[z]
     have I:=aJ z;clear z;have o4:=R.out;have r4:=o4.lt;have zr:=J.size;go_wp2_with (at_builtin;refine cW rfl _ _ _ rfl 3 underlying24 aP w.heap.size _ _ (k:Int) wr.heap.size rfl rfl (by simp) (o4.alloc _) ⟨by omega,by omega⟩ (by have:=ab1 l (iK l) k;omega) aS ?_;intro v' w6 F b4;obtain⟨av,nv,cv,rfl⟩:=F.shape3);have B6:Below w w w6:=(J.alloc J.size (.cells #[(k:Int)] 3)).grown b4 aS (fun q hq=>(r4 q hq).1);go_roundw
     case rel=>exact⟨k+1,av,nv,cv,by omega,rfl,by go_num,by rw[HN.out,if_pos I.out];exact F,B6⟩
     case measure=>simp[intOf];omega
    ·have b0:(y==M)=false:=by simp[z]
     have I:=aJ z;clear z;go_wp2;go_roundw
     case rel=>exact⟨k+1,ad,nn,Y,by omega,rfl,by go_num,by rw[HN.out,if_neg I.out];exact R.out,J⟩
     case measure=>simp[intOf];omega
   ·have a1:¬(k:Int)<(l.length:Int):=aI;have Z:k=l.length:=aI;have O:=R.out;rw[Z,<-S.out.1]at O;have R:=aJ O;clear Z O;go_wp2;go_ret2;exact⟨ad,nn,Y,by rw[S.out.2];rfl,R.out,J⟩
theorem J0(w:World)(n:Int)(v:Value)(l:List Int)(hv:aO w v l):
  Calls prog 75 #[.agg #[n,v]] w fun e w'=>∃ad i c,e=.returned (.tuple #[ajH ad i c,.bool (bH n l)])/\aM 3 w w' (ajH ad i c) (zA n l)/\Below w w w':=by
 obtain⟨a,b,d7,c,rfl,e5,b3,hc,hb⟩:=hv.view prog 24 3 underlying24 aP;obtain⟨V,hV⟩:=aN ((w.alloc (.cells #[n,ajH a l.length c] 26)).alloc (.cells #[] 3));have B:Below w w V:=fY hV;have K:aR V w 26 #[n,ajH a l.length c]:=gL hV;have o0:aM 3 (w.heap.size+1) V (ajH (some ⟨w.heap.size+1,0,none⟩) 0 0) []:=by rw[hV];have:=aM.lit0 (E:=3) (B:=w.heap.size+1) (w.alloc (.cells #[n,ajH a l.length c] 26)) (by simp);simpa using this
 go_enter func75,ntmps75;go_wp2_with fail;rw[<-hV];clear hV;go_loopw [4,5] (fun out i wr=>∃(k:Nat) (ad:Option Addr) (nn cp:Nat),k<=l.length/\out=ajH ad nn cp/\i=ajJ k/\aM 3 (w.heap.size+1) wr (ajH ad nn cp) (mW l (iK l) k)/\aR wr w 26 #[n,ajH a l.length c]/\Below w w wr/\(bH n l=false->k=0)) (fun _ i _=>l.length-(intOf i).toNat)
 case atStart=>exact⟨0,_,_,_,Nat.zero_le _,rfl,rfl,o0,K,B,fun _=>rfl⟩
 case round=>
  obtain⟨k,ad,nn,cp,hk,rfl,rfl,ho,Kr,Br,hz⟩:=hrel;clear o0 K B;have HO:=aJ ho;have HZ:=aJ hz;have G:=Kr.cell;clear ho hz;go_wp2_with fail;clear G;refine(dG n l _ wr (hv.below Br aK)).mono ?_;rintro e w1 ⟨rfl,b1⟩;have K1:=Kr.keep b1;have F:=Br.after b1 Br.size;have Z:=HO.out.keep b1;have G:=K1.cell;clear Kr
  cases I:bH n l with
  |false=>
   have hx:zA n l=[]:=by unfold zA;rw[I];rfl
   rw[HZ.out I]at Z;have HX:=aJ (And.intro hx I);clear hx I;have O:=aJ (dG n l _ w1 (hv.below F aK));go_wp2_with (go_at_call 51;refine O.out.mono ?_;rintro e w2 ⟨rfl,b2⟩);go_ret2;exact⟨ad,nn,cp,rfl,by rw[HX.out.1];exact(Z.keep b2).mono aI,F.after b2 F.size⟩
  |true=>
   have hx:zA n l=mW l (iK l) l.length:=by unfold zA;rw[I];rfl
   have e4:l.length<=32:=by obtain⟨N,rfl,_,_,h,_⟩:=cU I;exact h
   have HX:=aJ (And.intro hx I);clear hx;by_cases hlt:k<l.length
   ·have b5:(k:Int)<(l.length:Int):=aI;have R:=aJ (fun y:Ext w1=>DC y.w n _ l (y.ints (hv.below F aK)) aI);have Y:=aT hc hb F aK k hlt;have f9:=fun W=>b3 W k hlt;have hn:mW l (iK l) (k+1)=if l[k]=iK l then mW l (iK l) k++[(k:Int)] else mW l (iK l) k:=by rw[mW,aU l k hlt]
    obtain⟨y,hy⟩:=aN (l[k]);rw[<-hy]at Y hn;obtain⟨M,hM⟩:=aN (iK l);have b6:mW l (iK l) (k+1)=if y=M then mW l (iK l) k++[(k:Int)] else mW l (iK l) k:=by rw[hn,hM]
    rw[<-hM]at R;have HN:=aJ b6;have O1:=aJ Z;have d6:∀x:Ext w1,x.w.cell? ⟨b,d7+k,none⟩=some (ajJ y):=fun x=>x.cell Y;have c0:∀x:Ext w1,x.w.cell? ⟨w.heap.size,0,none⟩=some (ajJ n):=fun x=>x.cell (K1.cell 0);have c1:∀x:Ext w1,x.w.cell? ⟨w.heap.size,1,none⟩=some (ajH a l.length c):=fun x=>x.cell (K1.cell 1);clear hn hy b6 hM hc b3 Z Y I;by_cases D:y=M
    ·have d0:(y==M)=true:=by simp[D]
     have S:=aJ D;clear D;go_wp2_with fail;refine bJ _ aQ aQ ?_
     repeat(first|go_big_quiet_skip|(go_big_quiet_want;go_big_quiet_op;first|go_big_quiet_on|(apply Exists.intro;refine⟨fun _=>?_,?_⟩;(go_at_call 78;exact bK (R.out _));go_big_quiet_on)))
     refine wpQuiet_nil ?_;rintro w3 ⟨⟨w3,z⟩,rfl⟩
     try dsimp only
     have K3:=K1.keep z;have B3:=F.after z F.size;have o3:=O1.out.keep z;have r3:=o3.lt;have z3:=K3.lt;clear G d6 c0 c1;go_wp2_with (at_builtin;refine cW rfl _ _ _ rfl 3 underlying24 aP (w.heap.size+1) _ _ (k:Int) w3.heap.size rfl rfl (by simp) (o3.alloc _) ⟨by omega,by omega⟩ (by have:=ab1 l (iK l) k;omega) aS ?_;intro v' w6 J b0;obtain⟨av,nv,cv,rfl⟩:=J.shape3);have B6:Below w w w6:=(B3.alloc B3.size (.cells #[(k:Int)] 3)).grown b0 aS (fun q hq=>by have:=(r3 q hq).1;omega);have K6:=(K3.alloc (.cells #[(k:Int)] 3)).grow b0 (fun e=>by have:=(r3 _ e).1;omega);go_roundw
     case rel=>exact⟨k+1,av,nv,cv,by omega,rfl,by go_num,by rw[HN.out,if_pos S.out];exact J,K6,B6,fun h=>by rw[HX.out.2]at h;cases h⟩
     case measure=>simp[intOf];omega
    ·have d0:(y==M)=false:=by simp[D]
     have S:=aJ D;clear D;go_wp2_with fail;refine bJ _ aQ aQ ?_
     repeat(first|go_big_quiet_skip|(go_big_quiet_want;go_big_quiet_op;first|go_big_quiet_on|(apply Exists.intro;refine⟨fun _=>?_,?_⟩;(go_at_call 78;exact bK (R.out _));go_big_quiet_on)))
     refine wpQuiet_nil ?_;rintro w3 ⟨⟨w3,z⟩,rfl⟩
     try dsimp only
     go_wp2;go_roundw
     case rel=>exact⟨k+1,ad,nn,cp,by omega,rfl,by go_num,by rw[HN.out,if_neg S.out];exact O1.out.keep z,K1.keep z,F.after z F.size,fun h=>by rw[HX.out.2]at h;cases h⟩
     case measure=>simp[intOf];omega
   ·have b5:¬(k:Int)<(l.length:Int):=aI;have b4:k=l.length:=aI;rw[b4,<-HX.out.1]at Z;have O1:=aJ Z;have O:=aJ (dG n l _ w1 (hv.below F aK));clear b4 Z I;go_wp2_with (go_at_call 51;refine O.out.mono ?_;rintro e w2 ⟨rfl,b2⟩);go_ret2;exact⟨ad,nn,cp,rfl,(O1.out.keep b2).mono aI,F.after b2 F.size⟩
def iQ(n:Int)(l x m:List Int):Bool:=gO n l&&lG n l x&&gK n m
def eY(n:Int)(l x m:List Int):Nat->List Int
 |0=>x
 |k+1=>if (eY n l x m k).getD k 0<m.getD k 0 then (eY n l x m k).set k (min ((eY n l x m k).getD k 0+mI n l (eY n l x m k) k) (m.getD k 0)) else eY n l x m k
def qU(n:Int)(l x m:List Int):List Int:=if iQ n l x m then eY n l x m x.length else []
theorem BK(n:Int)(l x m:List Int):∀k,(eY n l x m k).length=x.length:=by
 intro k
 induction k with
 |zero=>rfl
 |succ k ih=>rw[eY];split<;>simp[ih]
theorem XK(n:Int)(l x m:List Int)(hm:m.length=x.length)(I:∀k,(hk:k<x.length)->-5000<=x[k]/\x[k]<=5000)(D:∀k,(hk:k<m.length)->-5000<=m[k]/\m[k]<=5000):∀k,k<=x.length->∀y∈eY n l x m k,-5000<=y/\y<=5000:=by
 intro k
 induction k with
 |zero=>intro _ y z;obtain⟨i,F,rfl⟩:=List.getElem_of_mem z;exact I i F
 |succ k ih=>
  intro hk y z;have ih:=ih aI;rw[eY]at z;by_cases hc:(eY n l x m k).getD k 0<m.getD k 0
  ·rw[if_pos hc]at z;rcases List.mem_or_eq_of_mem_set z with z|z
   ·exact ih y z
   ·have hl:=BK n l x m k;have h1:(eY n l x m k).getD k 0=(eY n l x m k)[k]'aI:=aU _ k aI;have h2:m.getD k 0=m[k]'aI:=aU _ k aI;have h3:=ih _ (List.getElem_mem (show k<(eY n l x m k).length by omega));have h4:=D k aI;have J:=LO n l (eY n l x m k) k;rw[h1,h2]at z;omega
  ·rw[if_neg hc]at z;exact ih y z
theorem TR{n:Int}{l x m:List Int}(h:iQ n l x m=true):∃N:Nat,n=N/\N<=5/\x.length=N/\m.length=x.length/\(∀k,(hk:k<x.length)->-5000<=x[k]/\x[k]<=5000)/\(∀k,(hk:k<m.length)->-5000<=m[k]/\m[k]<=5000):=by
 unfold iQ at h;simp only[Bool.and_eq_true]at h;obtain⟨⟨_,h2⟩,h3⟩:=h;obtain⟨N,rfl,z,_,_,F,_,D,_⟩:=AA h2;obtain⟨h4,I⟩:=JU h3;exact⟨N,rfl,z,F,by omega,D,I⟩
theorem ZR(w:World)(n:Int)(v:Value)(l:List Int)(hv:aO w v l)(hl:l.length<=1048576)(u:Value)(x:List Int)(hu:aO w u x)(t:Value)(m:List Int)(ht:aO w t m):
  Calls prog 185 #[.agg #[n,v],u,t] w fun e' w'=>∃ad i c,e'=.returned (.tuple #[ajH ad i c,.bool (iQ n l x m)])/\aM 3 w w' (ajH ad i c) (qU n l x m)/\Below w w w':=by
 obtain⟨a,c,rfl⟩:=hv.shape;obtain⟨b,cu,rfl⟩:=hu.shape;obtain⟨bt,bq,e7,ct,rfl,g0,a6,d0,f8⟩:=ht.view prog 24 3 underlying24 aP;obtain⟨V,hV⟩:=aN (w.alloc (.cells #[n,ajH a l.length c] 26));have B:Below w w V:=fR hV;have K:aR V w 26 #[n,ajH a l.length c]:=eG hV;go_enter func185,ntmps185;go_wp2_with fail;rw[<-hV];clear hV;refine(sA n l _ V (hv.below B aK) hl).mono ?_;rintro e' w1 ⟨rfl,b1⟩;have K:=K.keep b1;have B:=B.after b1 B.size;have G:=K.cell
 cases hs:gO n l with
 |false=>
  have F:iQ n l x m=false:=by unfold iQ;rw[hs];rfl
  have O:qU n l x m=[]:=by unfold qU;rw[F];rfl
  have J:=aJ (And.intro F O);clear F O hs;go_wp2;go_ret2;exact⟨none,0,0,by rw[J.out.1];rfl,by rw[J.out.2];exact aM.nil _ _ _,B⟩
 |true=>
 go_wp2_with fail;clear G;refine(CX w1 n _ l (hv.below B aK) _ x (hu.below B aK)).mono ?_;rintro e' w2 ⟨rfl,b2⟩;have K:=K.keep b2;have B:=B.after b2 B.size;have G:=K.cell
 cases hb:lG n l x with
 |false=>
  have F:iQ n l x m=false:=by unfold iQ;rw[hb];simp
  have O:qU n l x m=[]:=by unfold qU;rw[F];rfl
  have J:=aJ (And.intro F O);clear F O hs hb;go_wp2;go_ret2;exact⟨none,0,0,by rw[J.out.1];rfl,by rw[J.out.2];exact aM.nil _ _ _,B⟩
 |true=>
 go_wp2_with fail;clear G;refine(JK n l _ m _ w2 (hv.below B aK) (ht.below B aK)).mono ?_;rintro e' w3 ⟨rfl,b3⟩;have K:=K.keep b3;have B:=B.after b3 B.size;have G:=K.cell
 cases hlo:gK n m with
 |false=>
  have F:iQ n l x m=false:=by unfold iQ;rw[hlo];simp
  have O:qU n l x m=[]:=by unfold qU;rw[F];rfl
  have J:=aJ (And.intro F O);clear F O hs hb hlo;go_wp2;go_ret2;exact⟨none,0,0,by rw[J.out.1];rfl,by rw[J.out.2];exact aM.nil _ _ _,B⟩
 |true=>
 have F:iQ n l x m=true:=by unfold iQ;rw[hs,hb,hlo];rfl
 have O:qU n l x m=eY n l x m x.length:=by unfold qU;rw[F];rfl
 obtain⟨N,rfl,i7,e6,b0,e5,a9⟩:=TR F;have e9:=aJ (XK N l x m b0 e5 a9);have f2:=aJ a9;have J:=aJ (And.intro F O);have f3:=aJ b0;have c8:=aJ e6;clear F O hs hb hlo e5 a9 b0 e6;go_wp2_with fail;clear G;refine(kT _ x w3 (hu.below B aK) (by have:=c8.out;omega)).mono ?_;rintro e' w4 ⟨p,i,q,rfl,o,b4⟩;have zk:=K.lt;have M:∀g,(Value.slice p i q).ownBlock=some g->w.heap.size<g:=fun g h=>by have:=(o.lt g h).1;omega
 have K:=K.keep b4;have o:=o.mono (B':=w.heap.size) B.size;have B:=B.after b4 B.size;have hi:i=x.length:=by obtain⟨_,_,h⟩:=o.shape;injection h
 subst hi;go_wp2_with fail;go_loopw [31] (fun i wr=>∃k:Nat,k<=x.length/\i=ajJ k/\aM 3 w wr (ajH p x.length q) (eY N l x m k)/\(∀g,(Value.slice p x.length q).ownBlock=some g->w.heap.size<g)/\aR wr w 26 #[(N:Int),ajH a l.length c]/\Below w w wr) (fun i _=>x.length-(intOf i).toNat)
 case atStart=>exact⟨0,Nat.zero_le _,rfl,o,M,K,B⟩
 case round=>
  clear M;obtain⟨k,hk,rfl,ow,M,Kr,Br⟩:=hrel;clear o K B;have HO:=aJ ow;have R:=aJ M;clear ow M;by_cases hlt:k<x.length
  ·have d7:(k:Int)<(x.length:Int):=aI;have I:=BK N l x m k;rcases HO.out.cases with⟨h1,h2⟩|⟨g,cap,h1,i8,j0⟩
   ·rw[h2]at I;simp at I;omega
   ·injection h1 with h1 h3 h4;subst h1 h4;have j1:=R.out g rfl;clear h3;have Z:k<(eY N l x m k).length:=aI;have co:=HO.out.cellAt I.symm k Z;have ob:=e9.out k hk _ (List.getElem_mem Z);have e0:(eY N l x m k).getD k 0=(eY N l x m k)[k]:=aU _ k Z;have Y:k<m.length:=by have:=f3.out;omega
    have cm:=aT d0 f8 Br aK k Y;have im:=fun W=>a6 W k Y;have mb:=f2.out k Y;have d8:m.getD k 0=m[k]:=aU _ k Y;have f9:=LO N l (eY N l x m k) k;have a1:eY N l x m (k+1)=if (eY N l x m k).getD k 0<m.getD k 0 then (eY N l x m k).set k (min ((eY N l x m k).getD k 0+mI N l (eY N l x m k) k) (m.getD k 0)) else eY N l x m k:=rfl;rw[e0,d8]at a1;have hcl:=fun(W:World) (h1:aO W (ajH a l.length c) l) (h2:aO W (ajH (some ⟨g,0,none⟩) x.length q) (eY N l x m k))=>O8 W N _ l h1 _ _ h2 k (by have:=c8.out;omega);obtain⟨C,hC⟩:=aN (mI N l (eY N l x m k) k);obtain⟨D,b7⟩:=aN ((eY N l x m k)[k]);obtain⟨mv,b6⟩:=aN (m[k]);simp only[<-hC]at hcl;rw[<-hC,<-b7,<-b6]at a1;rw[<-hC]at f9;rw[<-b7]at co ob;rw[<-b6]at cm mb;have f0:=aJ hcl;have c7:=aJ a1;have c6:=aJ I;have fo:=HO.out.frozenAt I.symm k;have G:=Kr.cell;clear hcl a1 I hC b7 b6 e0 d8 Z d0 a6;by_cases d6:D<mv
    ·have a7:=aJ d6;go_wp2;go_quiet (fail);go_wp2_with fail;refine(f0.out _ (hv.below (Br.drewN' _) aK) (HO.out.drewN _).ints).mono ?_;rintro e' w5 ⟨rfl,b5⟩;have K5:=(Kr.drewN nq).keep b5;have o5:=(HO.out.drewN nq).keep b5;have B5:=(Br.drewN' nq).after b5 (Br.drewN' nq).size;have h9:=keep b5 (show(wr.drewN nq).cell? ⟨g,k,none⟩=some (ajJ D) from co);have h8:=keep b5 (show(wr.drewN nq).cell? ⟨bq,e7+k,none⟩=some (ajJ mv) from cm);have i6:=o5.frozenAt c6.out.symm k;have j3:IntKind.i64.wrap (D+C)=D+C:=IntWalk.i64_in _ ⟨by omega,by omega⟩;have f4:=aJ o5;clear co cm fo G o5;go_wp2;go_region
     all_goals go_wp2
     go_roundw
     case rel=>
      have S:∀z,aM 3 w ((w5.drewN z).setCell ⟨g,k,none⟩ (ajJ (if mv<D+C then mv else D+C))) (ajH (some ⟨g,0,none⟩) x.length q) (eY N l x m (k+1))/\aR ((w5.drewN z).setCell ⟨g,k,none⟩ (ajJ (if mv<D+C then mv else D+C))) w.heap.size 26 #[(N:Int),ajH a l.length c]/\Below w w ((w5.drewN z).setCell ⟨g,k,none⟩ (ajJ (if mv<D+C then mv else D+C))):=by
       intro z;have d9:(if mv<D+C then mv else D+C)=min (D+C) mv:=by split<;>omega
       rw[d9];have s1:=(f4.out.drewN z).stored c6.out.symm k (min (D+C) mv) ⟨by omega,by omega⟩;rw[c7.out,if_pos a7.out];exact⟨s1.1,(K5.drewN z).far (by show w.heap.size≠g;omega) _,(B5.drewN' z).grown s1.2 (B5.drewN' z).size kE⟩
      first|exact⟨k+1,by omega,by go_num,(S _).1,R.out,(S _).2.1,(S _).2.2⟩|(simp only[show(if mv<D+C then mv else D+C)=min (D+C) mv by split<;>omega]at S;exact⟨k+1,by omega,by go_num,(S _).1,R.out,(S _).2.1,(S _).2.2⟩)
     case measure=>simp[intOf];omega
    ·have a7:=aJ d6;go_wp2;go_quiet (fail);go_wp2;go_roundw
     case rel=>exact⟨k+1,by omega,by go_num,by rw[c7.out,if_neg (by have:=a7.out;omega)];exact HO.out.drewN _,R.out,Kr.drewN _,Br.drewN' _⟩
     case measure=>simp[intOf];omega
  ·have d7:¬(k:Int)<(x.length:Int):=aI;have d5:k=x.length:=aI;have HK:=aJ d5;clear d5;go_wp2;go_ret2;have ho:=HO.out;rw[HK.out]at ho;exact⟨p,x.length,q,by rw[J.out.1];rfl,by rw[J.out.2];exact ho,Br⟩
theorem ZS(w:World)(n:Int)(v:Value)(l:List Int)(hv:aO w v l)(hl:l.length<=1048576)(u:Value)(x:List Int)(hu:aO w u x)(t:Value)(m:List Int)(ht:aO w t m):
  Calls prog 189 #[.agg #[n,v],u,t] w fun e' w'=>∃ad i c,e'=.returned (.tuple #[ajH ad i c,.bool (iQ n l x m)])/\aM 3 w w' (ajH ad i c) (qU n l x m)/\Below w w w':=by
 obtain⟨a,c,rfl⟩:=hv.shape;obtain⟨b,cu,rfl⟩:=hu.shape;obtain⟨bt,bq,i1,ct,rfl,g5,a8,d5,g2⟩:=ht.view prog 24 3 underlying24 aP;obtain⟨V,hV⟩:=aN (w.alloc (.cells #[n,ajH a l.length c] 26));have B:Below w w V:=fR hV;have K:aR V w 26 #[n,ajH a l.length c]:=eG hV;go_enter func189,ntmps189;go_wp2_with fail;rw[<-hV];clear hV;refine(sB n l _ V (hv.below B aK) hl).mono ?_;rintro e' w1 ⟨rfl,b1⟩;have K:=K.keep b1;have B:=B.after b1 B.size;have G:=K.cell
 cases hs:gO n l with
 |false=>
  have D:iQ n l x m=false:=by unfold iQ;rw[hs];rfl
  have M:qU n l x m=[]:=by unfold qU;rw[D];rfl
  have J:=aJ (And.intro D M);clear D M hs;go_wp2;go_ret2;exact⟨some ⟨w1,0,none⟩,0,0,by rw[J.out.1];rfl,by rw[J.out.2];exact aM.lit0 _ B.size,B.after (aY _ _) B.size⟩
 |true=>
 go_wp2_with fail;clear G;refine(CY w1 n _ l (hv.below B aK) _ x (hu.below B aK)).mono ?_;rintro e' w2 ⟨rfl,b2⟩;have K:=K.keep b2;have B:=B.after b2 B.size;have G:=K.cell
 cases hb:lG n l x with
 |false=>
  have D:iQ n l x m=false:=by unfold iQ;rw[hb];simp
  have M:qU n l x m=[]:=by unfold qU;rw[D];rfl
  have J:=aJ (And.intro D M);clear D M hs hb;go_wp2;go_ret2;exact⟨some ⟨w2,0,none⟩,0,0,by rw[J.out.1];rfl,by rw[J.out.2];exact aM.lit0 _ B.size,B.after (aY _ _) B.size⟩
 |true=>
 go_wp2_with fail;clear G;refine(xQ m _ w2 (ht.below B aK)).mono ?_;rintro e' w3 ⟨rfl,rfl⟩;have G:=K.cell;have HN:=aJ (show(x.length:Int)=n/\n<=5 from by obtain⟨N,hN,g0,_,_,k0,_,_,_⟩:=AA hb;exact⟨by omega,by omega⟩)
 cases a6:(kL m (-5000) 5000&&decide (m.length<=5)) with
 |false=>
  have hlo:gK n m=false:=by
   unfold gK
   cases g1:kL m (-5000) 5000 with
   |false=>simp
   |true=>rw[g1,Bool.true_and]at a6;have:=of_decide_eq_false a6;have:=HN.out;rw[decide_eq_false aI];rfl
  have D:iQ n l x m=false:=by unfold iQ;rw[hlo];simp
  have M:qU n l x m=[]:=by unfold qU;rw[D];rfl
  have J:=aJ (And.intro D M);clear D M hs hb hlo;go_wp2;go_ret2;exact⟨some ⟨w2,0,none⟩,0,0,by rw[J.out.1];rfl,by rw[J.out.2];exact aM.lit0 _ B.size,B.after (aY _ _) B.size⟩
 |true=>
 by_cases I:m.length=x.length
 ·have hlo:gK n m=true:=by
   unfold gK;rw[(Bool.and_eq_true_iff.1 a6).1,decide_eq_true (by have:=HN.out;omega)]
   rfl
  have g6:((m.length:Int) != (x.length:Int))=false:=by simp[I]
  have D:iQ n l x m=true:=by unfold iQ;rw[hs,hb,hlo];rfl
  clear HN a6 I;have M:qU n l x m=eY n l x m x.length:=by unfold qU;rw[D];rfl
  obtain⟨N,rfl,g0,e8,I,e7,b0⟩:=TR D;have f4:=aJ (XK N l x m I e7 b0);have f6:=aJ b0;have J:=aJ (And.intro D M);have f7:=aJ I;have c8:=aJ e8;clear D M hs hb hlo e7 b0 I e8;have e6:=hu.below B aK;have g8:x.length<=5:=by have:=c8.out;omega
  go_wp2_with (at_builtin;(refine vL rfl _ _ _ rfl 3 underlying24 aP w2.heap.size _ [] rfl (aM.lit0 w2 aK) _ x rfl (e6.alloc _) aS (by simp) ?_);intro v' w4 o d6;obtain⟨p,i,q,rfl⟩:=o.shape3);have b4:Below w2 w2 w4:=(aY w2 (.cells #[] 3)).grown d6 (by simp) (fun k hk=>by have g4:some w2.heap.size=some k:=hk;exact Nat.le_of_eq (Option.some.inj g4));have o:aM 3 w2 w4 (ajH p i q) x:=by simpa using o
  clear d6 g8 e6;have zk:=K.lt;have Y:∀g,(Value.slice p i q).ownBlock=some g->w.heap.size<g:=fun g h=>by have:=(o.lt g h).1;omega
  have K:=K.keep b4;have o:=o.mono (B':=w.heap.size) B.size;have B:=B.after b4 B.size;have hi:i=x.length:=by obtain⟨_,_,h⟩:=o.shape;injection h
  subst hi;go_loopw [9] (fun i wr=>∃k:Nat,k<=x.length/\i=ajJ k/\aM 3 w wr (ajH p x.length q) (eY N l x m k)/\(∀g,(Value.slice p x.length q).ownBlock=some g->w.heap.size<g)/\aR wr w 26 #[(N:Int),ajH a l.length c]/\Below w w wr) (fun i _=>x.length-(intOf i).toNat)
  case atStart=>exact⟨0,Nat.zero_le _,rfl,o,Y,K,B⟩
  case round=>
   clear Y;obtain⟨k,hk,rfl,ow,Y,Kr,Br⟩:=hrel;clear o K B;have HO:=aJ ow;have R:=aJ Y;clear ow Y;by_cases hlt:k<x.length
   ·have d9:(k:Int)<(x.length:Int):=aI;have O:=BK N l x m k;rcases HO.out.cases with⟨h1,h2⟩|⟨g,cap,h1,j5,j6⟩
    ·rw[h2]at O;simp at O;omega
    ·injection h1 with h1 h3 h4;subst h1 h4;have j7:=R.out g rfl;clear h3;have a1:k<(eY N l x m k).length:=aI;have co:=HO.out.cellAt O.symm k a1;have ob:=f4.out k hk _ (List.getElem_mem a1);have e5:(eY N l x m k).getD k 0=(eY N l x m k)[k]:=aU _ k a1;have Z:k<m.length:=by have:=f7.out;omega
     have cm:=aT d5 g2 Br aK k Z;have im:=fun W=>a8 W k Z;have mb:=f6.out k Z;have e0:m.getD k 0=m[k]:=aU _ k Z;have g3:=LO N l (eY N l x m k) k;have a7:eY N l x m (k+1)=if (eY N l x m k).getD k 0<m.getD k 0 then (eY N l x m k).set k (min ((eY N l x m k).getD k 0+mI N l (eY N l x m k) k) (m.getD k 0)) else eY N l x m k:=rfl;rw[e5,e0]at a7;have hcl:=fun(W:World) (h1:aO W (ajH a l.length c) l) (h2:aO W (ajH (some ⟨g,0,none⟩) x.length q) (eY N l x m k))=>O9 W N _ l h1 _ _ h2 k (by have:=c8.out;omega);obtain⟨C,hC⟩:=aN (mI N l (eY N l x m k) k);obtain⟨F,b6⟩:=aN ((eY N l x m k)[k]);obtain⟨mv,b3⟩:=aN (m[k]);simp only[<-hC]at hcl;rw[<-hC,<-b6,<-b3]at a7;rw[<-hC]at g3;rw[<-b6]at co ob;rw[<-b3]at cm mb;have f5:=aJ hcl;have c6:=aJ a7;have c5:=aJ O;have fo:=HO.out.frozenAt O.symm k;have G:=Kr.cell;clear hcl a7 O hC b6 b3 e5 e0 a1 d5 a8;go_wp2_with fail;refine(f5.out _ (hv.below Br aK) HO.out.ints).mono ?_;rintro e' w5 ⟨rfl,b5⟩;have K5:=Kr.keep b5;have o5:=HO.out.keep b5;have B5:=Br.after b5 Br.size;have j2:=keep b5 co;have j1:=keep b5 cm;have j4:=o5.frozenAt c5.out.symm k;have j9:IntKind.i64.wrap (F+C)=F+C:=IntWalk.i64_in _ ⟨by omega,by omega⟩;have c7:=aJ o5;clear co cm fo G o5;by_cases d8:F<mv
     ·have a9:=aJ d8;go_wp2;go_quiet (fail);go_wp2;go_region
      all_goals go_wp2
      go_roundw
      case rel=>
       have S:∀z,aM 3 w ((w5.drewN z).setCell ⟨g,k,none⟩ (ajJ (if F+C<mv then F+C else mv))) (ajH (some ⟨g,0,none⟩) x.length q) (eY N l x m (k+1))/\aR ((w5.drewN z).setCell ⟨g,k,none⟩ (ajJ (if F+C<mv then F+C else mv))) w.heap.size 26 #[(N:Int),ajH a l.length c]/\Below w w ((w5.drewN z).setCell ⟨g,k,none⟩ (ajJ (if F+C<mv then F+C else mv))):=by
        intro z;have e4:(if F+C<mv then F+C else mv)=min (F+C) mv:=by split<;>omega
        rw[e4];have s1:=(c7.out.drewN z).stored c5.out.symm k (min (F+C) mv) ⟨by omega,by omega⟩;rw[c6.out,if_pos a9.out];exact⟨s1.1,(K5.drewN z).far (by show w.heap.size≠g;omega) _,(B5.drewN' z).grown s1.2 (B5.drewN' z).size kE⟩
       first|exact⟨k+1,by omega,by go_num,(S _).1,R.out,(S _).2.1,(S _).2.2⟩|(simp only[show(if F+C<mv then F+C else mv)=min (F+C) mv by split<;>omega]at S;exact⟨k+1,by omega,by go_num,(S _).1,R.out,(S _).2.1,(S _).2.2⟩)|(simp only[show(if F+C<mv then F+C else mv)=min mv (F+C) by split<;>omega]at S;exact⟨k+1,by omega,by go_num,(S _).1,R.out,(S _).2.1,(S _).2.2⟩)
      case measure=>simp[intOf];omega
     ·have a9:=aJ d8;go_wp2;go_quiet (fail);go_wp2;go_roundw
      case rel=>exact⟨k+1,by omega,by go_num,by rw[c6.out,if_neg (by have:=a9.out;omega)];exact c7.out.drewN _,R.out,K5.drewN _,B5.drewN' _⟩
      case measure=>simp[intOf];omega
   ·have d9:¬(k:Int)<(x.length:Int):=aI;have d7:k=x.length:=aI;have HK:=aJ d7;clear d7;go_wp2;go_ret2;have ho:=HO.out;rw[HK.out]at ho;exact⟨p,x.length,q,by rw[J.out.1];rfl,by rw[J.out.2];exact ho,Br⟩
 ·have hlo:gK n m=false:=by unfold gK;rw[decide_eq_false (by have:=HN.out;omega)];rfl
  have g6:((m.length:Int) != (x.length:Int))=true:=by simp;omega
  have D:iQ n l x m=false:=by unfold iQ;rw[hlo];simp
  have M:qU n l x m=[]:=by unfold qU;rw[D];rfl
  have J:=aJ (And.intro D M);clear D M hs hb hlo I;go_wp2;go_ret2;exact⟨some ⟨w2,0,none⟩,0,0,by rw[J.out.1];rfl,by rw[J.out.2];exact aM.lit0 _ B.size,B.after (aY _ _) B.size⟩
end
end Go.Proofs.YtcpoomdoodlkjaaGreatDoor
