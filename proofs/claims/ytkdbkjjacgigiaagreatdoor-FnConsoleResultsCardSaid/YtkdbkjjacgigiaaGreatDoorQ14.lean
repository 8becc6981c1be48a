/- Lemmas for CardConsoleResults. No condition. -/
import Derived.Test.YtkdbkjjacgigiaaGreatDoorQ11
set_option maxRecDepth 100000
set_option maxHeartbeats 64000000
namespace Go.Proofs.YtkdbkjjacgigiaaGreatDoor
section
open Go.RowKit Go.G5 Go.Proofs.Tryz
def vX(l:List Int)(s:Int)(i:Nat):Bool:=!(l.getD i 0==s)&&(bB s (l.getD i 0)==bB s (l.getD 0 0))&&(i==0||bB s (l.getD i 0)==bB (l.getD 0 0) (l.getD 1 0))
def lE(l:List Int)(s:Int):Bool:=cA (vX l s) l.length
def zO(l:List Int)(i k:Nat):Bool:=bB (l.getD i 0) (l.getD k 0)==bB (l.getD 0 0) (l.getD 1 0)
def sV(l:List Int):Bool:=cA (fun i=>cA (zO l i) i) l.length
def eT(T:List Int->Int->Bool):List Int->List Int->Int->Option (List Int)
 |sets,l,k=>if (l.length:Int)=k then some l else
  match sets with
  |[]=>none
  |s::rest=>if T l s then (match eT T rest (l++[s]) k with|some x=>some x|none=>eT T rest l k) else eT T rest l k
theorem tC(T:List Int->Int->Bool)(sets l:List Int)(k:Int)(h:(l.length:Int)=k):eT T sets l k=some l:=by unfold eT;rw[if_pos h]
theorem BO(T:List Int->Int->Bool)(l:List Int)(k:Int)(h:(l.length:Int)≠k):eT T [] l k=none:=by unfold eT;rw[if_neg h]
theorem zE(T:List Int->Int->Bool)(s:Int)(rest l:List Int)(k:Int)(h:(l.length:Int)≠k):
  eT T (s::rest) l k=if T l s then (match eT T rest (l++[s]) k with|some x=>some x|none=>eT T rest l k) else eT T rest l k:=by
 rw[eT];rw[if_neg h]
theorem ac4(a b:Int):bB a b=bB b a:=by unfold bB;rw[Nat.and_comm]
theorem M4(l:List Int):sV l=true↔∀i,i<l.length->∀k,k<i->bB (l.getD i 0) (l.getD k 0)=bB (l.getD 0 0) (l.getD 1 0):=by
 unfold sV;rw[eP];constructor
 ·intro h i z k hk;have:=eP.1 (h i z) k hk;unfold zO at this;simpa using this
 ·intro h i z;rw[eP];intro k hk;unfold zO;simpa using h i z k hk
theorem nJ(l:List Int)(s:Int)(i:Nat)(h:i<l.length):(l++[s]).getD i 0=l.getD i 0:=by
 rw[List.getD_eq_getElem?_getD,List.getD_eq_getElem?_getD,List.getElem?_append_left h]
theorem ID(l:List Int)(s:Int):(l++[s]).getD l.length 0=s:=by
 rw[List.getD_eq_getElem?_getD,List.getElem?_append_right aI];simp
theorem CN(l:List Int)(s:Int)(hl:sV l=true)(Y:s∉l):lE l s=sV (l++[s]):=by
 have N:=(M4 l).1 hl;have M:∀i,i<l.length->l.getD i 0≠s:=fun i z e=>Y (by rw[<-e,aS l i z];exact List.getElem_mem z);rw[Bool.eq_iff_iff,M4];unfold lE;rw[eP];rcases Nat.lt_or_ge l.length 2 with h2|h2
 ·
  constructor
  ·intro _ i z k hk;rw[List.length_append,List.length_singleton]at z;have O:i=1/\k=0/\l.length=1:=aD;obtain⟨rfl,rfl,_⟩:=O;exact ac4 _ _
  ·intro _ i z;have:i=0:=aD;subst this;unfold vX;have I:(l.getD 0 0==s)=false:=beq_eq_false_iff_ne.2 (M 0 z);rw[I];simp
 ·have R:(l++[s]).getD 0 0=l.getD 0 0:=nJ l s 0 aD;have e1:(l++[s]).getD 1 0=l.getD 1 0:=nJ l s 1 aD;rw[R,e1];constructor
  ·intro h i z k hk;rw[List.length_append,List.length_singleton]at z;by_cases K:i<l.length
   ·rw[nJ l s i K,nJ l s k aD];exact N i K k hk
   ·have:i=l.length:=aD;subst this;rw[ID,nJ l s k hk];have h1:=h 1 aD;have F:=h k hk;unfold vX at h1 F;simp only[Bool.and_eq_true,Bool.or_eq_true,beq_iff_eq,Bool.not_eq_true',beq_eq_false_iff_ne,ne_eq]at h1 F;have S:=h1.2.resolve_left aD;rcases F.2 with I|I
    ·subst I;rw[<-h1.1.2];exact S
    ·exact I
  ·intro h i z;have D:=h l.length (by rw[List.length_append,List.length_singleton];omega) i z;have J:=h l.length (by rw[List.length_append,List.length_singleton];omega) 0 aD;rw[ID,nJ l s i z]at D;rw[ID,R]at J;unfold vX;simp only[Bool.and_eq_true,Bool.or_eq_true,beq_iff_eq,Bool.not_eq_true',beq_eq_false_iff_ne,ne_eq];exact⟨⟨M i z,by rw[D,J]⟩,.inr D⟩
theorem afQ:∀(sets l:List Int) (k:Int),sV l=true->(∀s∈sets,s∉l)->sets.Pairwise (· < ·)->eT (fun l s=>sV (l++[s])) sets l k=eT lE sets l k:=by
 intro sets
 induction sets with
 |nil=>
  intro l k _ _ _;by_cases h:(l.length:Int)=k
  ·rw[tC _ _ _ _ h,tC _ _ _ _ h]
  ·rw[BO _ _ _ h,BO _ _ _ h]
 |cons s rest ih=>
  intro l k hl F z;by_cases h:(l.length:Int)=k
  ·rw[tC _ _ _ _ h,tC _ _ _ _ h]
  ·rw[zE _ _ _ _ _ h,zE _ _ _ _ _ h];rw[List.pairwise_cons]at z;have ht:=CN l s hl (F s (by simp));have hr:=ih l k hl (fun x D=>F x (by simp[D])) z.2;rw[<-ht,hr]
   cases I:lE l s with
   |false=>rfl
   |true=>
    rw[ih (l++[s]) k (ht▸I) (fun x D hm=>by
     rw[List.mem_append,List.mem_singleton]at hm;rcases hm with hm|hm
     ·exact F x (by simp[D]) hm
     ·have:=z.1 x D;omega) z.2]
theorem UG:∀(l:List Int) (z n:Int),l.Pairwise (· < ·)->(∀x∈l,z<=x/\x<n)->z<=n->(l.length:Int)<=n-z:=by
 intro l
 induction l with
 |nil=>intro z n _ _ h;simp;omega
 |cons x l ih=>intro z n D hb I;have J:=hb x (by simp);rw[List.pairwise_cons]at D;have:=ih (x+1) n D.2 (fun y F=>⟨by have:=D.1 y F;omega,(hb y (by simp[F])).2⟩) aD;rw[List.length_cons];omega
theorem LM(l:List Int)(n:Nat)(z:l.Pairwise (· < ·))(hb:∀x∈l,0<=x/\x<(n:Int)):l.length<=n:=by
 have:=UG l 0 n z hb aD;omega
def nT(g:Int)(l:List Int)(k:Int):Bool:=aU g l&&dV k 1 5
def sU(g:Int)(l:List Int)(k:Int):Option (List Int):=if nT g l k then eT lE l [] k else none
def iE(g:Int)(l:List Int)(k:Int):Bool:=(sU g l k).isSome
def iH(g:Int)(l:List Int)(k:Int):List Int:=(sU g l k).getD []
theorem aj0(g:Int)(l:List Int)(k:Int)(h:nT g l k=true):sU g l k=eT (fun l s=>sV (l++[s])) l [] k:=by
 unfold sU;rw[h];unfold nT at h;have z:=(Bool.and_eq_true_iff.1 h).1;exact(afQ l [] k aQ (by simp) (dB z).2.2.2).symm
def qV(l:List Int):List Int:=l.filter fun s=>!gQ (jR l) s
def qJ:Nat->List Int->List (List Int)
 |0,_=>[]
 |k+1,l=>if l=[] then [] else jR l::qJ k (qV l)
def alP(l:List Int):List (List Int):=qJ l.length l
def lenOf:Value->Nat
 |.slice _ n _=>n
 |_=>0
theorem sub_le:∀s:Nat,s<64->∀t:Nat,t<64->cO t s=0->t<=s:=by decide +kernel
theorem adP(x:Int)(l:List Int)(F:(x::l).Pairwise (· < ·))(hb:∀y∈x::l,0<=y/\y<64):x∈jR (x::l):=by
 unfold jR;rw[List.mem_filter];refine⟨by simp,?_⟩;rw[Bool.not_eq_true',List.any_eq_false];intro y z;have h1:=hb y z;have h2:=hb x (by simp);unfold nS;intro h;rw[Bool.and_eq_true,bne_iff_ne,beq_iff_eq]at h;obtain⟨D,I⟩:=h;unfold cG at I;have h3:=sub_le x.toNat aD y.toNat aD aD;rcases List.mem_cons.1 z with e|z
 ·exact D e
 ·have:=(List.pairwise_cons.1 F).1 y z;omega
theorem abT{l:List Int}(z:l≠[])(D:l.Pairwise (· < ·))(hb:∀y∈l,0<=y/\y<64):(qV l).length<l.length:=by
 cases l with
 |nil=>exact absurd rfl z
 |cons x l=>unfold qV;rw[List.length_filter_lt_length_iff_exists];exact⟨x,by simp,by rw[MC.2 (adP x l D hb)];simp⟩
theorem YE{l:List Int}(z:l.Pairwise (· < ·)):(qV l).Pairwise (· < ·):=z.filter _
theorem MV{l:List Int}{x:Int}(h:x∈qV l):x∈l:=(List.mem_filter.1 h).1
theorem SE(k:Nat)(l:List Int)(h:l≠[]):qJ (k+1) l=jR l::qJ k (qV l):=by rw[qJ,if_neg h]
theorem WT(k:Nat):qJ k []=[]:=by cases k<;>simp[qJ]
theorem MJ:∀(k:Nat) (l:List Int),(qJ k l).length<=k:=by
 intro k
 induction k with
 |zero=>intro l;simp[qJ]
 |succ k ih=>
  intro l;rw[qJ]
  split
  ·simp
  ·have:=ih (qV l);rw[List.length_cons];omega
theorem alO:∀(k:Nat) (l:List Int),∀m∈qJ k l,m.length<=l.length/\∀x∈m,x∈l:=by
 intro k
 induction k with
 |zero=>intro l m hm;simp[qJ]at hm
 |succ k ih=>
  intro l m hm;rw[qJ]at hm
  split at hm
  ·simp at hm
  ·rcases List.mem_cons.1 hm with e|hm
   ·subst e;exact⟨XD l,fun x z=>XE z⟩
   ·have h:=ih _ m hm;exact⟨Nat.le_trans h.1 (List.length_filter_le _ _),fun x z=>MV (h.2 x z)⟩
def eA(g:Int)(l:List Int):List (List Int):=if aU g l then alP l else []
theorem SU(p:Int->Bool)(L:List Int)(k:Nat)(h:k<L.length):(L.take (k+1)).filter p=(L.take k).filter p++(if p L[k] then [L[k]] else []):=by
 rw[List.take_succ_eq_append_getElem h,List.filter_append]
 congr 1
 cases z:p L[k]<;>simp[z]
theorem T7{g:Int}{l:List Int}(h:aU g l=true):l.length<=64:=by
 have h1:=dB h;have h2:=oH h;exact LM l 64 h1.2.2.2 (fun x z=>by obtain⟨k,hk,rfl⟩:=List.getElem_of_mem z;have:=h2.2.2 k hk;omega)
def H6(out:List Int)(s:Int):Bool:=out.isEmpty||cG s (out.headD 0)==0
def lS:List Int->List Int->List Int
 |[],out=>out
 |s::r,out=>if H6 out s then s::out else lS r out
def yP(z:List (List Int)):Nat->List Int->List Int
 |0,out=>out
 |i+1,out=>yP z i (lS (z.getD i []) out)
def yQ(g:Int)(l:List Int):List Int:=yP (eA g l) (eA g l).length []
theorem S5:∀(M out:List Int),(lS M out).length<=out.length+1
 |[],out=>by rw[lS];omega
 |s::r,out=>by
  rw[lS]
  split
  ·simp
  ·exact S5 r out
theorem aa0(z:List (List Int)):∀(i:Nat) (out:List Int),(yP z i out).length<=out.length+i
 |0,out=>by rw[yP];omega
 |i+1,out=>by rw[yP];have h1:=aa0 z i (lS (z.getD i []) out);have h2:=S5 (z.getD i []) out;omega
theorem tH(g:Int)(l:List Int):(eA g l).length<=64:=by
 unfold eA
 split
 ·rename_i h;exact Nat.le_trans (MJ _ _) (T7 h)
 ·simp
theorem OE(g:Int)(l:List Int):∀m∈eA g l,m.length<=64/\∀x∈m,0<=x/\x<64:=by
 unfold eA
 split
 ·rename_i h;intro m hm;have h1:=alO _ _ m hm;refine⟨Nat.le_trans h1.1 (T7 h),fun x z=>?_⟩;obtain⟨k,hk,e⟩:=List.getElem_of_mem (h1.2 x z);rw[<-e];exact(oH h).2.2 k hk
 ·intro m hm;simp at hm
theorem PK(g:Int)(l:List Int):(yQ g l).length<=64:=by
 have h1:=aa0 (eA g l) (eA g l).length [];have h2:=tH g l;unfold yQ;simp at h1;omega
theorem YP(M:List Int)(j:Nat)(h:j<M.length)(out:List Int):lS (M.drop j) out=if H6 out M[j] then M[j]::out else lS (M.drop (j+1)) out:=by
 rw[List.drop_eq_getElem_cons h,lS]
theorem S0(M out:List Int):lS (M.drop M.length) out=out:=by rw[List.drop_length];rfl
theorem afB(z:List (List Int))(i:Nat)(h:i<z.length)(out:List Int):yP z (i+1) out=yP z i (lS z[i] out):=by
 rw[yP,List.getD_eq_getElem?_getD,List.getElem?_eq_getElem h];rfl
def fE(n:Int)(l:List Int)(m:Int)(k:List Int):Bool:=(dQ n l&&dQ m k)&&decide (n=m)
def fX(l:List Int)(s:Nat):Bool:=decide (l.getD s 0=(bY s:Int))
def vU(l k:List Int):Nat->Nat
 |0=>0
 |t+1=>if decide (bY (vU l k t)<bY t)&&(fX l t&&fX k t) then t else vU l k t
def rQ(l k:List Int)(t:Nat):Int:=l.getD t 0+k.getD (l.length-1-t) 0
def lI(l k:List Int):Nat->Nat
 |0=>0
 |t+1=>if rQ l k t<rQ l k (lI l k t) then t else lI l k t
def yU(n:Int)(l:List Int)(m:Int)(k:List Int):Int:=if fE n l m k then (vU l k l.length:Int) else 0
def BH(n:Int)(l:List Int)(m:Int)(k:List Int):Int:=if fE n l m k then (lI l k l.length:Int) else 0
def FO(n:Int)(l:List Int)(m:Int)(k:List Int):Int:=if fE n l m k then rQ l k (lI l k l.length) else 0
theorem abE(l k:List Int):∀t,0<t->vU l k t<t:=by
 intro t
 induction t with
 |zero=>intro h;omega
 |succ t ih=>
  intro _;rw[vU]
  split
  ·omega
  ·rcases Nat.eq_zero_or_pos t with rfl|h
   ·simp[vU]
   ·have:=ih h;omega
theorem apI(l k:List Int):∀t,0<t->lI l k t<t:=by
 intro t
 induction t with
 |zero=>intro h;omega
 |succ t ih=>
  intro _;rw[lI]
  split
  ·omega
  ·rcases Nat.eq_zero_or_pos t with rfl|h
   ·simp[lI]
   ·have:=ih h;omega
theorem amQ(l k:List Int):lI l k 1=0:=by
 have:=apI l k 1 aD;omega
theorem zQ{n m:Int}{l k:List Int}(h:fE n l m k=true):m=n/\∃N:Nat,n=N/\N<=5/\l.length=2^N/\l.length<=32/\k.length=l.length/\(∀i,(R:i<l.length)->-1000<=l[i]/\l[i]<=1000)/\(∀i,(R:i<k.length)->-1000<=k[i]/\k[i]<=1000):=by
 unfold fE dQ at h;simp only[Bool.and_eq_true,decide_eq_true_eq]at h;obtain⟨⟨⟨h1,_⟩,h2,_⟩,rfl⟩:=h;obtain⟨N,rfl,D,I,z,J⟩:=cS (sO h1);obtain⟨M,Y,O,S,K,F⟩:=cS (sO h2);have:N=M:=aD;subst this;exact⟨rfl,N,rfl,D,I,z,by omega,J,F⟩
theorem PG(a b:Int):(a==b)=decide (a=b):=by by_cases h:a=b<;>simp[h]
theorem xI(w:World)(n:Int)(v:Value)(l:List Int)(R:aK w v l)(hl:l.length<=1048576)(m:Int)(u:Value)(k:List Int)(O:aK w u k)(hk:k.length<=1048576):
  Calls prog 288 #[.agg #[n,v],.agg #[m,u]] w fun e w'=>e=.returned (.bool (fE n l m k))/\Below w w w':=by
 obtain⟨a,c,rfl⟩:=R.shape;obtain⟨b,d,rfl⟩:=O.shape;go_enter func288,ntmps288;go_wp2_with fail;refine bU ?_;intro V J;have B:Below w w V:=gO J;have D:aP V w 27 #[n,aA a l.length c]:=gR J;have z:aP V (w.heap.size+1) 27 #[m,aA b k.length d]:=iP J;clear J;refine(lX n l _ V (R.below B aI) hl).mono ?_;rintro e w1 ⟨rfl,N⟩;have D:=D.keep N;have z:=z.keep N;have B:=B.after N B.size;have z2:=z.lt
 cases h1:dQ n l with
 |false=>
  have F:fE n l m k=false:=by unfold fE;rw[h1];rfl
  have I:=aH F;clear F h1;have S:=D.cell;have K:=z.cell;go_wp2;go_ret;exact⟨aW I.out.symm,B⟩
 |true=>
  have Y:=aH h1;clear h1;have K:=z.cell;go_wp2_with fail;clear K;refine(lX m k _ w1 (O.below B aI) hk).mono ?_;rintro e Z ⟨rfl,b2⟩;have D:=D.keep b2;have z:=z.keep b2;have B:=B.after b2 B.size;have F:fE n l m k=(dQ m k&&decide (n=m)):=by unfold fE;rw[Y.out];rfl
  have I:=aH F;clear F;have S:=D.cell;have K:=z.cell;have z2:=z.lt
  cases h2:dQ m k with
  |false=>have M:=aH h2;clear h2;go_wp2;go_ret;exact⟨aW (by rw[I.out,M.out];rfl),B⟩
  |true=>have M:=aH h2;clear h2;go_wp2;go_ret;exact⟨aW (by rw[I.out,M.out,Bool.true_and];exact PG n m),B⟩
theorem tF(w:World)(n:Int)(v:Value)(l:List Int)(S:aK w v l)(s:Nat)(M:s<l.length)(a6:s<64):
  Calls prog 278 #[.agg #[n,v],s] w fun e w'=>e=.returned (.bool (fX l s))/\Below w w w':=by
 have a7:=S;obtain⟨a,b,N,c,rfl,R,D,hc,hb⟩:=S.view prog 25 3 underlying25 aN;obtain⟨V,F⟩:=aJ (w.alloc (.cells #[n,aA a l.length c] 27));have B:Below w w V:=gY F;have K1:aP V w 27 #[n,aA a l.length c]:=gJ F;have J:=aR hc hb B aI s M;have ik:=fun W=>D W s M;have O:l.getD s 0=l[s]:=aS l s M;have z:fX l s=decide (l[s]=(bY s:Int)):=by unfold fX;rw[O]
 obtain⟨x,Y⟩:=aJ (l[s]);rw[<-Y]at J z;have I:=aH z;have Z:=aH (fun W=>fH s W aD);have e1:∀y:Ext V,y.w.cell? ⟨w.heap.size,1,none⟩=some (aA a l.length c):=fun y=>y.cell (K1.cell 1);have e2:∀y:Ext V,y.w.cell? ⟨b,N+s,none⟩=some (aG x):=fun y=>y.cell J;clear hc D hb O z Y J;go_enter func278,ntmps278;go_wp2_with fail;rw[<-F];clear F;refine bH _ aO aO ?_
 repeat(first|go_big_quiet_skip|(go_big_quiet_want;go_big_quiet_op;first|go_big_quiet_on|(apply Exists.intro;refine⟨fun _=>?_,?_⟩;(go_at_call 214;exact dN (Z.out _));go_big_quiet_on)))
 refine wpQuiet_nil ?_;rintro w3 ⟨⟨w3,K⟩,rfl⟩
 try dsimp only
 go_wp2;go_ret;exact⟨aW (by rw[I.out];exact PG _ _),B.after K B.size⟩
theorem ZT(w:World)(g1 O:Nat)(n m:Int)(v u:Value)(l k:List Int)(Y:aK w v l)(S:aK w u k)(D:k.length=l.length)(hl:l.length<=32)(s:Nat)(R:s<l.length)(N:aP w g1 27 #[n,v])(K:aP w O 27 #[m,u]):
  Calls prog 290 #[s,.pointer (some ⟨g1,0,none⟩),.pointer (some ⟨O,0,none⟩)] w fun e w'=>e=.returned (.bool (fX l s&&fX k s))/\Below w w w':=by
 obtain⟨a,c,rfl⟩:=Y.shape;obtain⟨b,d,rfl⟩:=S.shape;have Z:=N.cell;have z1:=N.lt;go_enter func290,ntmps290;go_wp2_with fail;clear Z;refine(tF w n _ l Y s R aD).mono ?_;rintro e w1 ⟨rfl,z⟩;have K:=K.keep z;have M:=S.keep z;have I:=aH D;clear D
 cases h1:fX l s with
 |false=>
  have F:(fX l s&&fX k s)=false:=by rw[h1];rfl
  have J:=aH F;clear F h1;go_wp2;go_ret;exact⟨aW (by first|exact J.out.symm|simp),z⟩
 |true=>
  have F:(fX l s&&fX k s)=fX k s:=by rw[h1];rfl
  have J:=aH F;clear F h1;have G2:=K.cell;go_wp2_with fail;clear G2;refine(tF w1 m _ k M s (by rw[I.out];exact R) aD).mono ?_;rintro e w2 ⟨rfl,b2⟩;go_wp2;go_ret;exact⟨aW (by first|exact J.out.symm|simp),z.after b2 z.size⟩
theorem IA:∀args w,(callFunc 290 args).run prog w=.ok (.enter 290 args) w:=enters_of func290 aO rfl
end
section
open Go.RowKit Go.G5 Go.Proofs.Tryz
end
section
open Go.RowKit Go.G5 Go.Proofs.Tryz
end
section
open Go.RowKit Go.G5 Go.Proofs.Tryz
end
section
open Go.RowKit Go.G5 Go.Proofs.Tryz
end
section
open Go.RowKit Go.G5 Go.Proofs.Tryz
end
end Go.Proofs.YtkdbkjjacgigiaaGreatDoor
section
namespace Go.G5
open Go Go.RowKit
theorem cV.lit0{EI EO:TypeId}{B:Nat}(w:World)(hB:B<=w.heap.size):cV EI EO B (w.alloc (.cells #[] EO)) (aA (some ⟨w,0,none⟩) 0 0) []:=
 ⟨[],World.ownsRow_lit w #[] 0 hB (Nat.zero_le _) rfl,by simp⟩
theorem cV.alloc{EI EO:TypeId}{B:Nat}{w:World}{v:Value}{z:List (List Int)}(h:cV EI EO B w v z)(o:Obj):cV EI EO B (w.alloc o) v z:=h.keep (bF w o)
theorem cV.one{EI EO:TypeId}{B:Nat}{w:World}{v:Value}{l:List Int}(h:aM EI B w v l)(hB:B<=w.heap.size):cV EI EO B (w.alloc (.cells #[v] EO)) (aA (some ⟨w,0,none⟩) 1 1) [l]:=by
 refine⟨[v],World.ownsRow_lit w #[v] 1 hB aQ rfl,?_⟩;intro k u z
 cases k with
 |zero=>simp only[List.getElem?_cons_zero,Option.some.injEq]at z;subst z;exact⟨l,rfl,h.alloc _⟩
 |succ k=>simp at z
theorem YI{P:Program}{w:World}{EI EO:TypeId}(T ty:TypeId)(hT:P.underlying T=some (.slice EO))(hE:SliceElem P EO)(K:EI≠EO)(B:Nat)(v:Value)(Z:List (List Int))(O:cV EI EO B w v Z)
  (B':Nat) (sv:Value) (ms:List (List Int)) (hs:cV EI EO B' w sv ms) (b0:B<=B') (b7:Z.length+ms.length<=5497558138879) (hB:B<=w.heap.size):
  ∃v' w',(Builtin.append_ #[T,T] ty #[v,sv]).run P w=.ok v' w'/\cV EI EO B w' v' (Z++ms)/\w.grownBy w' v.ownBlock/\vK w v v':=by
 obtain⟨i,hi,hz,h1,h8⟩:=hE.get;obtain⟨vs,z,M⟩:=O;obtain⟨I,F,S⟩:=hs;have Y:=F;have e8:=F.1;rcases F.2 with⟨rfl,b4⟩|⟨g,cap,a9,rfl,c8,hg,e4,e5,d0,ht⟩
 ·have:ms=[]:=List.eq_nil_of_length_eq_zero b4;subst this;refine⟨v,w,?_,by rw[List.append_nil];exact⟨vs,z,M⟩,World.grownBy.refl w _,.inl rfl⟩;rcases z.2 with⟨rfl,hn⟩|⟨g,cap,a9,rfl,_,_,b5,_⟩
  ·simp[Builtin.append_,run_underlying hT,sizeOf,typeInfo,hi,Builtin.lenOf,Builtin.firstCells]
  ·simp[Builtin.append_,run_underlying hT,sizeOf,typeInfo,hi,Builtin.lenOf,Builtin.firstCells,b5,storeCells]
 ·have N:∀u∈I,u.oneCell'=true:=by intro u hu;obtain⟨j,J,rfl⟩:=List.getElem_of_mem hu;obtain⟨l,_,h4⟩:=S j I[j] (List.getElem?_eq_getElem J);obtain⟨a',n',c',e⟩:=h4.shape3;rw[e];rfl
  obtain⟨v',w',R,h2,h3,_,h5⟩:=run_append_own_at (P:=P) w B T ty EO i (aA none 0 0) 1 24 hT hi hz h1 h8 rfl aQ v Z.length vs z ⟨g,0,none⟩ ms.length cap I aD
   (by
    intro j u J;have e0:j<I.length:=by
     rcases Nat.lt_or_ge j I.length with h|h
     ·exact h
     ·rw[List.getElem?_eq_none h]at J;cases J
    have e:(⟨g,0,none⟩:Addr).add j=⟨g,j,none⟩:=by
     unfold Addr.add;split
     ·rename_i h0;rw[h0]
     ·simp
    rw[e,Y.cellAt j aD];exact J)
   N (by unfold maxLen;omega) aD hB
  refine⟨v',w',R,⟨vs++I,by rw[List.length_append];exact h2,fun k q hq=>?_⟩,h3,h5⟩;have hl:=z.1;by_cases hk:k<vs.length
  ·rw[List.getElem?_append_left hk]at hq;obtain⟨l',D,h4⟩:=M k q hq;exact⟨l',by rw[List.getElem?_append_left aD];exact D,h4.grow h3 (DE h4.1 z K)⟩
  ·rw[List.getElem?_append_right aD]at hq;obtain⟨l',D,h4⟩:=S _ q hq;exact⟨l',by rw[List.getElem?_append_right aD,show k-Z.length=k-vs.length by omega];exact D,(h4.grow h3 (DE h4.1 z K)).mono b0⟩
theorem aaX{P:Program}{w:World}{EI EO:TypeId}{o:Oper}{a:Act}{K:Act->World->Prop}{Q:Exit->Act->World->Prop}(s x:Operand)(t:TypeId)
  (ho:o.op=.call { callee:=.builtin .append,args:=#[s,x],argTypes:=#[t,t] })
  (Y:P.underlying t=some (.slice EO)) (S:SliceElem P EO) (Z:EI≠EO) (B:Nat) (v:Value) (N:List (List Int)) (hs:a.eval s=v) (D:cV EI EO B w v N)
  (B':Nat) (M:Value) (O:List (List Int)) (hx:a.eval x=M) (J:cV EI EO B' w M O) (R:B<=B') (z:N.length+O.length<=5497558138879) (hB:B<=w.heap.size)
  (h:∀F w',cV EI EO B w' F (N++O)->w.grownBy w' v.ownBlock->vK w v F->K (a.put o.dst F) w'):o.wp P a w K Q:=by
 obtain⟨F,w',I,h2,h3,h4⟩:=YI (P:=P) t o.type Y S Z B v N D B' M O J R z hB;exact ah8
theorem PC{P:Program}{w:World}{EI EO:TypeId}{ops:Array Oper}{rest:List Oper}{o:Oper}{a:Act}{Q:Exit->Act->World->Prop}(M:o.guard=none)(s x:Operand)(t:TypeId)
  (ho:o.op=.call { callee:=.builtin .append,args:=#[s,x],argTypes:=#[t,t] })
  (Z:P.underlying t=some (.slice EO)) (S:SliceElem P EO) (N:EI≠EO) (B:Nat) (v:Value) (I:List (List Int)) (hs:a.eval s=v) (D:cV EI EO B w v I)
  (B':Nat) (R:Value) (J:List (List Int)) (hx:a.eval x=R) (O:cV EI EO B' w R J) (K:B<=B') (z:I.length+J.length<=5497558138879) (hB:B<=w.heap.size)
  (h:∀F w',cV EI EO B w' F (I++J)->w.grownBy w' v.ownBlock->vK w v F->wpList P ops Q rest (a.put o.dst F) w'):wpList P ops Q (o::rest) a w:=
 wpList_plain M fun _ Y=>aaX s x t ho Z S N B v I hs D B' R J hx O K z hB fun F w' h2 h3 h4=>Y _ _ (h F w' h2 h3 h4)
end Go.G5
namespace Go.Proofs.YtkdbkjjacgigiaaGreatDoor
open Go.RowKit Go.G5 Go.Proofs.Tryz
structure Dist (N:Nat) (o:List Int):Prop where
 bd:∀x∈o,0<=x/\x<(N:Int)
 nd:o.Nodup
end Go.Proofs.YtkdbkjjacgigiaaGreatDoor
end
