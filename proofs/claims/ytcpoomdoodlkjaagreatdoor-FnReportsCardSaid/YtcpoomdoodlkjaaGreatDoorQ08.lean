/- Lemmas for CardReports. No condition. -/
import Derived.Test.YtcpoomdoodlkjaaGreatDoorQ07
import Derived.Lib.SlicesCompact
set_option maxRecDepth 100000
set_option maxHeartbeats 64000000
namespace Go.Proofs.YtcpoomdoodlkjaaGreatDoor
section
open Go.RowKit Go.G5 Go.Proofs.Tryz
theorem cU(w:World)(g:Nat)(D:Dr w g)(n:Int):
  Calls prog 148 #[.pointer (some ⟨g,0,none⟩),n] w fun e w'=>∃x:Int,e=.returned x/\dD x/\(0<n->0<=x/\x<n)/\(n<=0->x=0)/\Dr w' g/\w.grownBy w' (some g):=by
 by_cases h0:n<=0
 ·go_enter func148,ntmps148;go_wp2;go_ret;exact⟨0,rfl,⟨by omega,by omega⟩,fun h=>by omega,fun _=>rfl,D,World.grownBy.refl _ _⟩
 ·by_cases h1:n<=256
  ·go_enter func148,ntmps148;go_wp2_with fail;refine(uS w g D).mono ?_;rintro e w1 ⟨x,hx,rfl,J,K⟩;have F:n≠0:=aK;have N:Int.tmod (x:Int) n=(x:Int)%n:=Int.tmod_eq_emod_of_nonneg aK;have O:=Int.emod_nonneg (x:Int) F;have R:=Int.emod_lt_of_pos (x:Int) (show 0<n by omega);go_wp2;go_ret;exact⟨(x:Int)%n,rfl,⟨by omega,by omega⟩,fun _=>⟨by omega,by omega⟩,fun h=>by omega,J,K⟩
  ·go_enter func148,ntmps148;go_wp2_with fail;refine(uS w g D).mono ?_;rintro e w1 ⟨x,hx,rfl,J,K⟩;go_wp2_with fail;refine(uS w1 g J).mono ?_;rintro e w2 ⟨y,hy,rfl,Z,g2⟩;go_wp2_with fail;refine(uS w2 g Z).mono ?_;rintro e w3 ⟨z,hz,rfl,D3,g3⟩;go_wp2_with fail;refine(uS w3 g D3).mono ?_;rintro e w4 ⟨q,hq,rfl,D4,g4⟩;have F:n≠0:=aK;obtain⟨t,ht⟩:∃t:Int,t=(x:Int)*16777216+(y:Int)*65536+(z:Int)*256+(q:Int):=⟨_,rfl⟩;have N:Int.tmod t n=t%n:=Int.tmod_eq_emod_of_nonneg aK;have O:=Int.emod_nonneg t F;have R:=Int.emod_lt_of_pos t (show 0<n by omega);have S:=Int.mul_ediv_add_emod t n;have I:=Int.ediv_nonneg (a:=t) (b:=n) aK aK;have Y:0<=n*(t/n):=Int.mul_nonneg aK I;have b0:t%n<=t:=aK;clear S I Y;have M:=eF (eF (eF K g2) g3) g4;go_wp2;rw[<-ht];go_ret;exact⟨t%n,rfl,⟨by omega,by omega⟩,fun _=>⟨by omega,by omega⟩,fun h=>by omega,D4,M⟩
theorem uT(w:World)(g:Nat)(D:Dr w g)(n:Int):
  Calls prog 28 #[.pointer (some ⟨g,0,none⟩),n] w fun e w'=>∃b:Bool,e=.returned (.bool b)/\Dr w' g/\w.grownBy w' (some g):=by
 go_enter func28,ntmps28;go_wp2_with fail;refine(cU w g D n).mono ?_;rintro e w1 ⟨x,rfl,I,_,_,z,F⟩;go_wp2;go_ret;exact⟨_,rfl,z,F⟩
theorem tH(w:World)(g:Nat)(D:Dr w g)(B:Nat)(hB:g<B)(v:Value)(l:List Int)(I:aP 3 B w v l)(h0:0<l.length):
  Calls prog 149 #[.pointer (some ⟨g,0,none⟩),v] w fun e w'=>∃x:Int,e=.returned x/\x∈l/\Dr w' g/\w.grownBy w' (some g):=by
 obtain⟨a,c,rfl⟩:=I.shape;go_enter func149,ntmps149;go_wp2_with fail;refine(cU w g D (l.length:Int)).mono ?_;rintro e w1 ⟨x,rfl,_,J,_,R,K⟩;have J:=J aK;obtain⟨k,rfl⟩:=Int.eq_ofNat_of_zero_le J.1;have hk:k<l.length:=aK;have o1:=I.grow K (fun q Z e=>by have:=Option.some.inj Z;have:=(I.lt _ e).1;omega);obtain⟨a',b,a6,c',M,N,F,hc,hb⟩:=o1.ints.view prog 24 3 underlying24 aS;simp only[Value.slice.injEq]at M;obtain⟨rfl,_,rfl⟩:=M;have Y:=hc k hk;have ik:=fun W=>F W k hk;have z:=List.getElem_mem hk;obtain⟨y,O⟩:=aQ (l[k]);rw[<-O]at Y z;have S:=aN z;clear hc F O z;go_wp2;go_ret;exact⟨y,rfl,S.out,R,K⟩
theorem rK(w:World)(v:Value)(l:List Nat)(N:mJ w v l):
  Calls prog 27 #[v] w fun e w'=>e=.returned (.pointer (some ⟨w,0,none⟩))/\Dr w' w.heap.size/\Below w w w':=by
 have F:=N;obtain⟨a,b,a6,c,rfl,M,I,hc,hb,z⟩:=N.view prog 22 5 underlying22 QW;have J:∀h:Int,Dr (w.alloc (.cells #[aI a l.length c,aJ,h] 86)) w.heap.size:=fun h=>
  ⟨_,l,0,h,aU.new _ _ _,F.below (bF _ _) aO,fun Y b' O n' c' e=>by
   obtain⟨a2,c2,e2,_,_,_,h4⟩:=F;simp only[Value.slice.injEq]at e e2;obtain⟨rfl,_⟩:=e;obtain⟨rfl,_⟩:=e2;rcases h4 with rfl|⟨b3,R,e3,hlt,_⟩
   ·exact absurd rfl Y
   ·simp only[Option.some.injEq,Addr.mk.injEq]at e3;omega⟩
 go_enter func27,ntmps27;go_wp2_with fail;go_loop [3,4] (fun h i=>∃(K:Int) (k:Nat),h=aM K/\k<=l.length/\i=aM k) (fun _ i=>l.length-(intOf i).toNat)
 case atStart=>exact⟨_,0,rfl,Nat.zero_le _,rfl⟩
 case round=>
  obtain⟨K,k,rfl,hk,rfl⟩:=hrel;by_cases hlt:k<l.length
  ·have D:(k:Int)<(l.length:Int):=aK;have S:=hc k hlt;have ik:=fun W=>I W k hlt;have Z:=z l[k] (List.getElem_mem _);obtain⟨y,hy⟩:=aQ (l[k]);rw[<-hy]at S Z;by_cases h4:(k:Int)<4000
   ·go_wp2
    go_round
    case rel=>exact⟨_,k+1,rfl,by omega,by go_num⟩
    case measure=>simp[intOf];omega
   ·go_wp2;go_ret;exact⟨rfl,J _,bF _ _⟩
  ·have D:¬(k:Int)<(l.length:Int):=aK;go_wp2;go_ret;exact⟨rfl,J _,bF _ _⟩
def eD(l:List Int):List Int:=Lib.compact (l.mergeSort fun x y=>decide (x<=y))
theorem FH(d:Array Int)(mono:∀i j,i<=j->j<d.size->d[i]! <= d[j]!):∀m,m<=d.size ->
  (Lib.compactUpTo d m).Pairwise (· < ·)/\(∀x∈Lib.compactUpTo d m,∃j,j<m/\x=d[j]!)/\(∀j,j<m->d[j]! ∈ Lib.compactUpTo d m):=by
 intro m
 induction m with
 |zero=>intro _;simp[Lib.compactUpTo]
 |succ m ih=>
  intro hm;obtain⟨h1,h2,h3⟩:=ih aK;rw[Lib.compactUpTo_succ];by_cases hk:Lib.keeps d m=true
  ·rw[if_pos hk]
   have hlt:∀x∈Lib.compactUpTo d m,x<d[m]! := by
    intro x z;obtain⟨j,I,rfl⟩:=h2 x z;have e1:=mono j (m-1) aK aK;have e2:=mono (m-1) m aK aK;unfold Lib.keeps at hk;have D:=of_decide_eq_true hk;rcases D with J|N
    ·omega
    ·omega
   refine⟨?_,?_,?_⟩
   ·rw[List.pairwise_append];exact⟨h1,by simp,fun a K b hb=>by simp only[List.mem_singleton]at hb;rw[hb];exact hlt a K⟩
   ·intro x z;rcases List.mem_append.1 z with z|z
    ·obtain⟨j,I,e⟩:=h2 x z;exact⟨j,by omega,e⟩
    ·simp only[List.mem_singleton]at z;exact⟨m,by omega,z⟩
   ·intro j I;by_cases F:j<m
    ·exact List.mem_append.2 (.inl (h3 j F))
    ·have:j=m:=aK;subst this;exact List.mem_append.2 (.inr (by simp))
  ·rw[if_neg hk,List.append_nil];refine⟨h1,fun x z=>?_,fun j I=>?_⟩
   ·obtain⟨j,I,e⟩:=h2 x z;exact⟨j,by omega,e⟩
   ·by_cases F:j<m
    ·exact h3 j F
    ·have:j=m:=aK;subst this;unfold Lib.keeps at hk;have D:¬(j=0∨d[j]! ≠ d[j-1]!):=fun h=>hk (decide_eq_true h);have J:j≠0:=fun h=>D (.inl h);have M:d[j]! = d[j-1]! := Classical.byContradiction fun h=>D (.inr h);rw[M];exact h3 (j-1) aK
theorem OW(l:List Int):∀i j,i<=j->j<(l.mergeSort fun x y=>decide (x<=y)).toArray.size->(l.mergeSort fun x y=>decide (x<=y)).toArray[i]! <= (l.mergeSort fun x y=>decide (x<=y)).toArray[j]! := by
 have F:(l.mergeSort fun x y=>decide (x<=y)).Pairwise (fun a b=>decide (a<=b)=true):=
  List.pairwise_mergeSort (le:=fun x y:Int=>decide (x<=y)) (fun a b c h1 h2=>decide_eq_true (Int.le_trans (of_decide_eq_true h1) (of_decide_eq_true h2))) (fun a b=>by
   rcases Int.le_total a b with h|h
   ·show(decide (a<=b)||decide (b<=a))=true;rw[decide_eq_true h];rfl
   ·show(decide (a<=b)||decide (b<=a))=true;rw[decide_eq_true h];simp) l
 generalize l.mergeSort (fun x y=>decide (x<=y))=s at *
 intro i j D z;rw[getElem!_pos s.toArray i aK,getElem!_pos s.toArray j z];simp only[List.getElem_toArray];rcases Nat.lt_or_ge i j with h|h
 ·exact of_decide_eq_true (List.pairwise_iff_getElem.1 F i j (by simpa using(show i<s.toArray.size by omega)) (by simpa using z) h)
 ·have:i=j:=aK;subst this;exact Int.le_refl _
theorem vT(l:List Int):(eD l).Pairwise (· < ·):=by
 have:=(FH _ (OW l) _ aO).1;simpa[eD,Lib.compact]using this
theorem qE(l:List Int)(x:Int):x∈eD l↔x∈l:=by
 have h:=FH _ (OW l) _ aO;have hm:∀y,y∈(l.mergeSort fun x y=>decide (x<=y))↔y∈l:=fun y=>List.mem_mergeSort;have e:eD l=Lib.compactUpTo (l.mergeSort fun x y=>decide (x<=y)).toArray (l.mergeSort fun x y=>decide (x<=y)).toArray.size:=by simp[eD,Lib.compact]
 rw[e,<-hm]
 generalize l.mergeSort (fun x y=>decide (x<=y))=s at *
 constructor
 ·intro D;obtain⟨j,z,rfl⟩:=h.2.1 x D;rw[getElem!_pos s.toArray j z];simp
 ·intro D;obtain⟨j,z,rfl⟩:=List.getElem_of_mem D;have:=h.2.2 j (by simpa using z);rw[getElem!_pos s.toArray j (by simpa using z)]at this;simpa using this
theorem LQ:∀(a b:List Int),a.Pairwise (· < ·)->b.Pairwise (· < ·)->(∀x,x∈a↔x∈b)->a=b:=by
 intro a
 induction a with
 |nil=>
  intro b _ _ h
  cases b with
  |nil=>rfl
  |cons y b=>have:=(h y).2 (by simp);simp at this
 |cons x a ih=>
  intro b N hb h
  cases b with
  |nil=>have:=(h x).1 (by simp);simp at this
  |cons y b=>
   obtain⟨D,J⟩:=List.pairwise_cons.1 N;obtain⟨F,K⟩:=List.pairwise_cons.1 hb;have M:x=y:=by
    have h1:=(h x).1 (by simp);have h2:=(h y).2 (by simp);rcases List.mem_cons.1 h1 with h1|h1
    ·exact h1
    ·rcases List.mem_cons.1 h2 with h2|h2
     ·exact h2.symm
     ·have:=F x h1;have:=D y h2;omega
   subst M;rw[ih b J K fun z=>?_];constructor
   ·intro I;rcases List.mem_cons.1 ((h z).1 (List.mem_cons.2 (.inr I))) with e|e
    ·subst e;have:=D z I;omega
    ·exact e
   ·intro I;rcases List.mem_cons.1 ((h z).2 (List.mem_cons.2 (.inr I))) with e|e
    ·subst e;have:=F z I;omega
    ·exact e
theorem FI(d:Array Int)(m:Nat):(Lib.compactUpTo d m).length<=m:=by
 unfold Lib.compactUpTo;rw[List.length_map];have:=List.length_filter_le (Lib.keeps d) (List.range m);simpa using this
theorem zU(l:List Int):(eD l).length<=l.length:=by
 have:=FI (l.mergeSort fun x y=>decide (x<=y)).toArray (l.mergeSort fun x y=>decide (x<=y)).length;unfold eD Lib.compact;simpa using this
def vK(l:List Int)(x:Int):List Int:=eD (l++[x])
theorem IC(l:List Int)(x y:Int):y∈vK l x↔y∈l∨y=x:=by
 unfold vK;rw[qE];simp
theorem yC(l:List Int)(x:Int):(vK l x).Pairwise (· < ·):=vT _
theorem TU(l:List Int)(x:Int):(vK l x).length<=l.length+1:=by
 have:=zU (l++[x]);simpa[vK]using this
theorem VY(A:List Int)(x:Int):vK (eD A) x=eD (A++[x]):=by
 refine LQ _ _ (yC _ _) (vT _) ?_;intro y;rw[IC,qE,qE];simp
theorem ae0(l:List Int)(x:Int)(h:l.Pairwise (· < ·))(z:x∈l):vK l x=l:=by
 refine LQ _ _ (yC _ _) h ?_;intro y;rw[IC];constructor
 ·rintro(h|h)
  ·exact h
  ·rw[h];exact z
 ·exact .inl
theorem agZ(l:List Int)(x:Int)(i:Nat)(h:l.Pairwise (· < ·))(h1:∀y∈l.drop i,x<y)(h2:∀y∈l.take i,y<x):vK l x=(l.take i++[x])++l.drop i:=by
 refine LQ _ _ (yC _ _) ?_ ?_
 ·rw[<-List.take_append_drop i l,List.pairwise_append]at h;rw[List.pairwise_append,List.pairwise_append];refine⟨⟨h.1,by simp,?_⟩,h.2.1,?_⟩
  ·intro a z b hb;rw[List.mem_singleton]at hb;rw[hb];exact h2 a z
  ·intro a z b hb;rw[List.mem_append,List.mem_singleton]at z;rcases z with z|z
   ·exact h.2.2 a z b hb
   ·rw[z];exact h1 b hb
 ·intro y;rw[IC]
  conv=>lhs;rw[<-List.take_append_drop i l]
  simp only[List.mem_append,List.mem_singleton];constructor
  ·rintro((h|h)|h)
   ·exact .inl (.inl h)
   ·exact .inr h
   ·exact .inl (.inr h)
  ·rintro((h|h)|h)
   ·exact .inl (.inl h)
   ·exact .inr h
   ·exact .inl (.inr h)
theorem Z4(l:List Int)(x:Int)(i:Nat)(h:l.Pairwise (· < ·))(D:i<l.length)(I:l[i]<x):∀y∈l.take (i+1),y<x:=by
 intro y z;rw[List.take_succ_eq_append_getElem D,List.mem_append,List.mem_singleton]at z;rcases z with z|z
 ·obtain⟨j,F,rfl⟩:=List.getElem_of_mem z;rw[List.length_take]at F;have:=List.pairwise_iff_getElem.1 h j i aK D aK;rw[List.getElem_take];omega
 ·rw[z];exact I
theorem YR(l:List Int)(x:Int)(i:Nat)(D:i<l.length)(h:∀y∈l.drop (i+1),x<y)(F:x<l[i]):∀y∈l.drop i,x<y:=by
 intro y z;rw[List.drop_eq_getElem_cons D,List.mem_cons]at z;rcases z with z|z
 ·rw[z];exact F
 ·exact h y z
theorem A9(B:Nat)(l:List Int)(v:Value)(x:Int)(w:World)(D:aP 3 B w v l)(hB:B<=w.heap.size)(z:l.Pairwise (· < ·))(hl:l.length<=1048576)(hx:dD x):
  Calls prog 157 #[v,x] w fun e w'=>∃ad i cp,e=.returned (aI ad i cp)/\aP 3 B w' (aI ad i cp) (vK l x)/\Below w w w'/\(∀k,(Value.slice ad i cp).ownBlock=some k->v.ownBlock=some k∨w.heap.size<=k):=by
 have hv:=D.ints;have a1:=hv;obtain⟨a,b,e9,c,rfl,d9,S,hc,hb⟩:=hv.view prog 24 3 underlying24 aS;have HA:=aN z;clear z;go_enter func157,ntmps157;go_wp2;go_loop [5] (fun i=>∃k:Nat,k<=l.length/\i=aM k/\∀y∈l.drop k,x<y) (fun i=>(intOf i).toNat)
 case atStart=>exact⟨l.length,aO,rfl,by simp⟩
 case round=>
  obtain⟨k,hk,rfl,R⟩:=hrel;have M:=aN R;clear R;have O:∀(hz:(∀y∈l.take k,y<x)),vK l x=(([]++l.take k)++[x])++l.drop k:=fun hz=>agZ l x k HA.out M.out hz;obtain⟨u1,u2⟩:=a1.upto 24 3 underlying24 aS k hk;obtain⟨a',c',d1,d2⟩:=a1.from 24 3 underlying24 aS k hk
  have K:=aN O;have zk:(l.take k).length=k:=by rw[List.length_take,Nat.min_eq_left hk]
  have zd:(l.drop k).length=l.length-k:=List.length_drop;rw[zd]at d1 d2;clear zk zd;clear O;by_cases hz:(0:Int)<k
  ·have Y:k-1<l.length:=aK;have c5:=hc (k-1) Y;have d8:=fun W=>S W (k-1) Y;obtain⟨y,hy⟩:=aQ (l[k-1]);rw[<-hy]at c5;have e7:IntKind.i64.wrap ((k:Int)-1)=((k-1:Nat):Int):=by rw[IntWalk.i64_in _ ⟨by omega,by omega⟩];omega
   have HY:=aN hy;clear hy S hc;rcases Int.lt_trichotomy x y with hlt|c6|c7
   ·have e6:x<y:=hlt;go_wp2;go_round
    case rel=>refine⟨k-1,by omega,by go_num,?_⟩;have:=YR l x (k-1) Y (by rw[show k-1+1=k by omega];exact M.out) (by rw[<-HY.out];exact hlt);exact this
    case measure=>simp[intOf];omega
   ·subst c6;have F:=ae0 l x HA.out (by rw[HY.out];exact List.getElem_mem Y);have N:=aN F;clear F;go_wp2;go_ret;exact⟨a,l.length,c,rfl,by rw[N.out];exact D,Below.refl _ _,fun _ h=>.inl h⟩
   ·have hn:¬x<y:=aK;have e8:(y==x)=false:=by simp;omega
    have Z:=K.out (by have:=Z4 l x (k-1) HA.out Y (by rw[<-HY.out];exact c7);rw[show k-1+1=k by omega]at this;exact this);have HP:=aN Z;clear Z;go_wp2;go_region_held3 (fun _=>True) (trivial)
     (first
      |(refine iT rfl _ _ _ rfl 3 underlying24 aS w.heap.size (aI (some ⟨_,0,none⟩) 0 0) [] rfl (aI a k c) (l.take k) rfl ?_ ?_ ?_ w ?_ aO ?_;(first|(with_reducible exact(aP.lit0 w aO).drew')|(with_reducible exact((aP.lit0 w aO).alloc _).drew')|(with_reducible exact(aP.lit0' w _).drew'));(first|(with_reducible exact(u2.alloc _).drew')|(with_reducible exact((u2.alloc _).alloc _).drew'));(simp;omega);(first|(with_reducible exact(bF w _).drew)|(with_reducible exact(wM w _ _).drew));(intro v1 w1 o1 I pc))
      |(refine iT rfl _ _ _ rfl 3 underlying24 aS w.heap.size v1 ([]++l.take k) rfl (aI (some ⟨_,0,none⟩) 1 1) [x] rfl ?_ ?_ ?_ w ?_ aO ?_;(first|(with_reducible exact o1)|(with_reducible exact o1.alloc _));(refine aR.one ?_ hx;first|(with_reducible exact bB _ _ _ _ _ rfl)|(with_reducible exact pc _ _ (sY _ _ _ _) (AJ _ _ _))|(with_reducible exact pc _ _ (uL _ _ _ _) (AK _ _ _)));(simp;omega);(first|(with_reducible exact I)|(with_reducible exact I.alloc I.size _));(intro v2 w2 o2 b2 _))
      |(refine iT rfl _ _ _ rfl 3 underlying24 aS w.heap.size v2 (([]++l.take k)++[x]) rfl (aI a' (l.length-k) c') (l.drop k) rfl o2 (d2.below b2 aO) ?_ w b2 aO ?_;(simp;omega);(intro v3 w3 J b3 _;obtain⟨av,nv,cv,rfl⟩:=J.shape3))
     )
    all_goals
     go_wp2;go_ret;exact⟨av,nv,cv,rfl,by rw[HP.out];exact J.mono hB,b3,fun _ h=>.inr (J.lt _ h).1⟩
  ·have Z:=K.out (by intro y hy;have:k=0:=aK;subst this;simp at hy);have HP:=aN Z;clear Z;go_wp2;go_region_held3 (fun _=>True) (trivial)
    (first
     |(refine iT rfl _ _ _ rfl 3 underlying24 aS w.heap.size (aI (some ⟨_,0,none⟩) 0 0) [] rfl (aI a k c) (l.take k) rfl ?_ ?_ ?_ w ?_ aO ?_;(first|(with_reducible exact(aP.lit0 w aO).drew')|(with_reducible exact((aP.lit0 w aO).alloc _).drew')|(with_reducible exact(aP.lit0' w _).drew'));(first|(with_reducible exact(u2.alloc _).drew')|(with_reducible exact((u2.alloc _).alloc _).drew'));(simp;omega);(first|(with_reducible exact(bF w _).drew)|(with_reducible exact(wM w _ _).drew));(intro v1 w1 o1 I pc))
     |(refine iT rfl _ _ _ rfl 3 underlying24 aS w.heap.size v1 ([]++l.take k) rfl (aI (some ⟨_,0,none⟩) 1 1) [x] rfl ?_ ?_ ?_ w ?_ aO ?_;(first|(with_reducible exact o1)|(with_reducible exact o1.alloc _));(refine aR.one ?_ hx;first|(with_reducible exact bB _ _ _ _ _ rfl)|(with_reducible exact pc _ _ (sY _ _ _ _) (AJ _ _ _))|(with_reducible exact pc _ _ (uL _ _ _ _) (AK _ _ _)));(simp;omega);(first|(with_reducible exact I)|(with_reducible exact I.alloc I.size _));(intro v2 w2 o2 b2 _))
     |(refine iT rfl _ _ _ rfl 3 underlying24 aS w.heap.size v2 (([]++l.take k)++[x]) rfl (aI a' (l.length-k) c') (l.drop k) rfl o2 (d2.below b2 aO) ?_ w b2 aO ?_;(simp;omega);(intro v3 w3 J b3 _;obtain⟨av,nv,cv,rfl⟩:=J.shape3))
    )
   all_goals
    go_wp2;go_ret;exact⟨av,nv,cv,rfl,by rw[HP.out];exact J.mono hB,b3,fun _ h=>.inr (J.lt _ h).1⟩
theorem VM(w:World)(g:Nat)(D:Dr w g):
  Calls prog 156 #[.pointer (some ⟨g,0,none⟩),aM 5] w fun e w'=>∃(n:Int) (ad:Option Addr) (i I:Nat) (l:List Int),e=.returned (.agg #[n,aI ad i I])/\dD n/\aP 3 w w' (aI ad i I) l/\l.Pairwise (· < ·)/\l.length<=7/\Dr w' g/\w.grownBy w' (some g):=by
 have zg:=D.lt;go_enter func156,ntmps156;go_wp2_with fail;refine bH ?_;intro V hV;have B:Below w w V:=fU hV;have K:aU V w 31 #[aJ,()]:=eJ hV;have D0:=D.keep B;have g0:w.grownBy V (some g):=fN _ B;have y0:=B.size;clear hV B;refine(cU V g D0 6).mono ?_;rintro e w1 ⟨n,rfl,hn,Z,_,D1,J⟩;have Z:=Z aK;have O:=K.grow J aV;have J:=eF g0 J;have y1:=J.size;have x1:=O.lt;go_wp2_with fail;refine bH ?_;intro V1 a9;have D1:=D1.keep (bF w1 (.cells #[] 3));have O:=O.alloc (.cells #[] 3);have o1:aP 3 w1 (w1.alloc (.cells #[] 3)) (aI (some ⟨w1,0,none⟩) 0 0) []:=aP.lit0 w1 aO;have J:=eF J (fN (some g) (bF w1 (.cells #[] 3)));rw[<-a9]at D1 O o1 J;have z1:=O.lt;clear a9;refine(cU V1 g D1 7).mono ?_;rintro e w2 ⟨m,rfl,_,hm,_,D2,R⟩;have hm:=hm aK;have K2:=O.grow R aV;have o2:=(o1.grow R (fun q hq e=>by have:=Option.some.inj hq;have:=(o1.lt _ e).1;omega)).mono (B':=w.heap.size+1) aK;have R:=eF J R;obtain⟨M,rfl⟩:=Int.eq_ofNat_of_zero_le hm.1;have hM:M<=6:=aK;have y2:=R.size;have z2:=K2.lt;clear o1 O D1 J hm D0 g0 K;go_wp2_with fail;go_loopw [6,7] (fun l k wr=>∃(ad:Option Addr) (i I:Nat) (L:List Int) (j:Nat),l=aI ad i I/\k=aM j/\j+L.length<=M/\j<=M/\aP 3 (w.heap.size+1) wr (aI ad i I) L/\L.Pairwise (· < ·)/\Dr wr g/\w.grownBy wr (some g)/\aU wr w 31 #[aJ,()]) (fun _ k _=>(intOf k).toNat)
 case atStart=>exact⟨_,_,_,[],M,rfl,rfl,by simp,aO,o2,List.Pairwise.nil,D2,R,K2⟩
 case round=>
  obtain⟨ad,i,I,L,j,rfl,rfl,e6,hj,ho,N,a7,z,Kr⟩:=hrel;clear o2 D2 R K2;have zr:=Kr.lt;have yr:=z.size;have HA:=aN N;clear N;by_cases h0:0<j
  ·have h1:(0:Int)<(j:Int):=aK;have b0:0<=n/\n<6:=Z;obtain⟨nn,rfl⟩:=Int.eq_ofNat_of_zero_le b0.1;have c6:nn<=5:=aK;have p5:=cO nn 5 c6;have e8:IntKind.i64.wrap ((2:Int)^nn)=(2:Int)^nn:=by rw[IntKind.wrap_i64];omega
   go_wp2_with fail;refine(cU wr g a7 _).mono ?_;rintro e w3 ⟨x,rfl,hx,_,_,D3,g3⟩;have o3:=ho.grow g3 (fun q hq e=>by have:=Option.some.inj hq;have:=(ho.lt _ e).1;omega);have K3:=Kr.grow g3 aV;have y3:=g3.size;have g3:=eF z g3;go_wp2_with fail;refine(A9 (w.heap.size+1) L _ x w3 o3 aK HA.out aK hx).mono ?_;rintro e w4 ⟨a4,i4,q4,rfl,o4,b4,_⟩;have hp:=TU L x;have c7:=yC L x;go_wp2;go_roundw
   case rel=>exact⟨a4,i4,q4,vK L x,j-1,rfl,by go_num,by omega,by omega,o4,c7,D3.keep b4,eF g3 (fN _ b4),K3.keep b4⟩
   case measure=>simp[intOf];omega
  ·have c5:j=0:=aK;subst c5;have G:=Kr.cell;have F:=Kr.frozen;go_wp2;refine bG ?_;intro Wf Y;have KF:aU Wf w 31 #[n,aI ad i I]:=by rw[Y];have:=(Kr.set 0 (aM n)).set 1 (aI ad i I);simpa using this
   have S:wr.grownBy Wf (some w.heap.size):=by rw[Y];exact dW (dW (World.grownBy.refl _ _) 0 _) 1 _
   have GF:=KF.cell;have DF:=a7.grow S kH;have oF:=ho.grow S (fun q hq e=>by have:=Option.some.inj hq;have:=(ho.lt _ e).1;omega);have gF:w.grownBy Wf (some g):=⟨S.os.trans z.os,S.tape.trans z.tape,S.output.trans z.output,Nat.le_trans z.size S.size,fun b hb hr=>(S.block b aK vI).trans (z.block b hb hr)⟩;clear Y;exact bodyPost_ret (v:=.agg #[n,aI ad i I]) (by simp[results,results156,go_sem,GF]) rfl ⟨n,ad,i,I,L,rfl,hn,oF.mono aK,HA.out,by omega,DF,gF⟩
theorem vZ{w w' w'':World}{g:Nat}{row:Option Nat}(h:w.grownBy w' (some g))(k:w'.grownBy w'' row)(hr:∀b,row=some b->b=g∨w.heap.size<=b):w.grownBy w'' (some g):=
 ⟨k.os.trans h.os,k.tape.trans h.tape,k.output.trans h.output,Nat.le_trans h.size k.size,fun b hb z=>(k.block b (Nat.lt_of_lt_of_le hb h.size) (fun e=>by
  rcases hr b e.symm with h1|h1
  ·exact z (by rw[h1])
  ·omega)).trans (h.block b hb z)⟩
theorem aP.lit5{E:TypeId}(w:World)(a b c d e:Int)(h:∀x∈[a,b,c,d,e],dD x):aP E w.heap.size (w.alloc (.cells #[a,b,c,d,e] E)) (aI (some ⟨w,0,none⟩) 5 5) [a,b,c,d,e]:=
 ⟨World.ownsRow_lit w #[a,b,c,d,e] 5 aO aY rfl,h⟩
theorem vC{w z Wf:World}{g B:Nat}{n:Int}{ad:Option Addr}{i F:Nat}{l:List Int}(N:g<w.heap.size)(K:aU z w 31 #[aJ,()])(D:Dr z g)(o:aP 3 B z (aI ad i F) l)(hB:w.heap.size<B)(h:w.grownBy z (some g))
  (I:Wf=(z.setCell ⟨w.heap.size,0,none⟩ (aM n)).setCell ⟨w.heap.size,1,none⟩ (aI ad i F)):aU Wf w 31 #[n,aI ad i F]/\Dr Wf g/\aP 3 w Wf (aI ad i F) l/\w.grownBy Wf (some g):=by
 have J:z.grownBy Wf (some w.heap.size):=by rw[I];exact dW (dW (World.grownBy.refl _ _) 0 _) 1 _
 refine⟨?_,D.grow J kH,(o.grow J (fun q M e=>by have:=Option.some.inj M;have:=(o.lt _ e).1;omega)).mono aK,vZ h J (fun b e=>.inr (by have:=Option.some.inj e;omega))⟩;rw[I];have:=(K.set 0 (aM n)).set 1 (aI ad i F);simpa using this
theorem OP{w:World}{B b:Nat}{v:Value}{l:List Int}{cs:Array Value}(h:aP 3 B w v l)(K:aU w b 31 cs):v.ownBlock≠some b:=by
 intro e;obtain⟨⟨_,h1⟩,_⟩:=h;rcases h1 with⟨rfl,_⟩|⟨q,cap,F,rfl,_,I,_⟩
 ·simp[Value.ownBlock]at e
 ·have z:q=b:=by simpa[Value.ownBlock]using e
  subst z;have D:w.heap[q]?=some (.cells cs 31 (0,0)):=K;rw[I]at D;simp at D
theorem JU(w:World)(g:Nat)(D:Dr w g):
  Calls prog 32 #[.pointer (some ⟨g,0,none⟩)] w fun e w'=>∃(n:Int) (ad:Option Addr) (i K:Nat) (l:List Int),e=.returned (.agg #[n,aI ad i K])/\dD n/\aP 3 w w' (aI ad i K) l/\l.length<=8/\Dr w' g/\w.grownBy w' (some g):=by
 have zg:=D.lt;go_enter func32,ntmps32;go_wp2_with fail;refine bH ?_;intro V hV;have B:Below w w V:=fU hV;have F:aU V w 31 #[aJ,()]:=eJ hV;have D0:=D.keep B;have g0:w.grownBy V (some g):=fN _ B;have y0:=F.lt;clear hV B;refine(VM V g D0).mono ?_;rintro e w1 ⟨n,ad,i,K,l,rfl,hn,o1,_,hl,D1,g1⟩;have F:=F.grow g1 aV;have yV:=g1.size;have g1:=eF g0 g1;have x1:=F.lt;have y1:=g1.size;go_wp2_with fail;refine bH ?_;intro V1 b1;have S:aU V1 w1 31 #[n,aI ad i K]:=by
  rw[b1]
  first
   |exact aU.new _ _ _
   |(have:=((aU.new w1 31 #[aJ,()]).set 0 (aM n)).set 1 (aI ad i K);simpa using this)
 have g2:w1.grownBy V1 (some w1.heap.size):=by
  rw[b1]
  first
   |exact fN _ (bF _ _)
   |exact dW (dW (fN _ (bF _ _)) 0 _) 1 _
 have F:=F.grow g2 aV;have D2:=D1.grow g2 kH;have o2:=o1.grow g2 (fun q R e=>by have:=Option.some.inj R;have:=(o1.lt _ e).2;omega);have g2:=vZ g1 g2 (fun b e=>.inr (by have:=Option.some.inj e;omega));have b5:=o1.lt;clear b1 o1 D1 g1 g0 D0;refine(cU V1 g D2 14).mono ?_;rintro e J ⟨x,rfl,_,hx,_,D3,g3⟩;have hx:=hx aK;have F:=F.grow g3 aV;have S:=S.grow g3 aV;have o3:=o2.grow g3 (fun q R e=>by have:=Option.some.inj R;have:=(o2.lt _ e).1;omega);have g3:=eF g2 g3;have x3:=S.lt;have G3:=S.cell;have F3:=S.frozen;clear D2 o2 g2;by_cases d8:x=0
 ·subst d8;go_wp2_with fail;refine bH ?_;intro V4 b3;have b4:Below J J V4:=fU b3;have o4:aP 3 J V4 (aI (some ⟨J,0,none⟩) 5 5) [-1,7,6,0,9223372036854775807]:=by rw[b3];exact aP.lit5 J _ _ _ _ _ (by simp[dD])
  clear b3;refine(tH V4 g (D3.keep b4) J.heap.size aK _ _ o4 (by simp)).mono ?_;rintro e w5 ⟨y,rfl,hy,D5,M⟩;have g4:dD y:=by
   have:∀z∈[(-1:Int),7,6,0,9223372036854775807],dD z:=by simp[dD]
   exact this y hy
  have F:=(F.keep b4).grow M aV;have S:=(S.keep b4).grow M aV;have o5:=(o3.keep b4).grow M (fun q R e=>by have:=Option.some.inj R;have:=(o3.lt _ e).1;omega);have M:=eF (eF g3 (fN _ b4)) M;clear G3 F3;have G3:=S.cell;have F3:=S.frozen;have G2:=F.cell;have F2:=F.frozen;go_wp2;refine bG ?_;intro Wf I;have gs:=fH w5 ⟨w1.heap.size,0,none⟩ (aM y);obtain⟨KF,DF,oF,gF⟩:=vC zg (F.far (p:=⟨w1.heap.size,0,none⟩) aV (aM y)) (D5.setCell (aM y) aK) (o5.grow gs (fun q R e=>by have:=Option.some.inj R;simp at this;have:=b5 q e;omega)) aK (vZ M gs (fun b e=>.inr (by have:=Option.some.inj e;simp at this;omega))) I;have GF:=KF.cell;clear I;exact bodyPost_ret (v:=.agg #[y,aI ad i K]) (by simp[results,results32,go_sem,GF]) rfl ⟨y,ad,i,K,l,rfl,g4,oF,by omega,DF,gF⟩
 ·by_cases f8:x=1
  ·subst f8;have e7:Dr J.drew g:=D3.keep (Below.refl _ _).drew;have O:=tH (J.drew.alloc (.cells #[aJ,aM 3,aM 63,aM 64,aM (-1)] 3)) g (e7.keep (bF _ _)) J.drew.heap.size (by show g<J.heap.size;omega) _ _ (aP.lit5 J.drew 0 3 63 64 (-1) (by simp[dD])) (by simp);have e9:=aN O;have c8:aU (J.drew.alloc (.cells #[aJ,aM 3,aM 63,aM 64,aM (-1)] 3)) w1.heap.size 31 #[n,aI ad i K]:=aU.alloc (w:=J.drew) S _;have f2:aU (J.drew.alloc (.cells #[aJ,aM 3,aM 63,aM 64,aM (-1)] 3)) w.heap.size 31 #[aJ,()]:=aU.alloc (w:=J.drew) F _;have a6:aP 3 V (J.drew.alloc (.cells #[aJ,aM 3,aM 63,aM 64,aM (-1)] 3)) (aI ad i K) l:=(o3.keep (Below.refl _ _).drew).alloc _;have j6:=c8.cell;have f5:w.grownBy (J.drew.alloc (.cells #[aJ,aM 3,aM 63,aM 64,aM (-1)] 3)) (some g):=eF (eF g3 (fN _ (Below.refl _ _).drew)) (fN _ (bF _ _));have d7:∀z∈[(0:Int),3,63,64,-1],dD z:=by simp[dD]
   clear O;go_wp2_with fail;go_region_law
    (first
     |(go_simp;go_at_call 149;refine e9.out.mono ?_;rintro e w5 ⟨y,rfl,hy,D5,M⟩;have Y:=c8.grow M aV;have j3:=Y.cell;have j1:=Y.frozen;have f0:=f2.grow M aV;have o5:=a6.grow M (fun q R e=>by have:=Option.some.inj R;have:=b5 q e;omega);have f6:=eF f5 M;have c7:=Y.alloc (.cells #[y] 3);have j4:=c7.cell)
     |(refine rU rfl _ _ _ rfl 3 underlying24 aS V.heap.size _ _ y w5.heap.size rfl rfl (bB w5 #[y] 3 0 _ rfl) (o5.alloc (.cells #[y] 3)) (d7 y hy) aK (by have:=Y.lt;simp;omega) ?_;intro v' w6 N a1;obtain⟨av,nv,cv,rfl⟩:=N.shape3;have Z:=c7.grow a1 (fun e=>by have:=b5 _ e;omega);have j5:=Z.cell;have j2:=Z.frozen))
   all_goals
    have D6:=(D5.keep (bF w5 (.cells #[y] 3))).grow a1 (fun k e=>by have:=(a6.lt k e).1;omega);have a8:=(f0.alloc (.cells #[y] 3)).grow a1 (fun e=>by have:=(a6.lt _ e).1;omega);have g6:=vZ (eF f6 (fN _ (bF w5 (.cells #[y] 3)))) a1 (fun b e=>.inr (by have:=(a6.lt b e).1;omega));have G2:=a8.cell;have F2:=a8.frozen;have k0:=Z.lt;have e0:(Value.slice av nv cv).ownBlock≠some w1.heap.size:=OP N Z;go_wp2;refine bG ?_;intro Wf I;have gs:=fH w6 ⟨w1.heap.size,1,none⟩ (aI av nv cv);obtain⟨KF,DF,oF,gF⟩:=vC zg (a8.far (p:=⟨w1.heap.size,1,none⟩) aV (aI av nv cv)) (D6.setCell (aI av nv cv) aK) (N.grow gs (fun q R e=>by have:=Option.some.inj R;simp at this;exact e0 (by rw[e,this]))) aK (vZ g6 gs (fun b e=>.inr (by have:=Option.some.inj e;simp at this;omega))) I;have GF:=KF.cell;clear I;exact bodyPost_ret (v:=.agg #[n,aI av nv cv]) (by simp[results,results32,go_sem,GF]) rfl ⟨n,av,nv,cv,l++[y],rfl,hn,oF,by simp;omega,DF,gF⟩
  ·have i8:¬x=0:=d8;have G2:=F.cell;have F2:=F.frozen;go_wp2;refine bG ?_;intro Wf I;obtain⟨KF,DF,oF,gF⟩:=vC zg F D3 o3 aK g3 I;have GF:=KF.cell;clear I;exact bodyPost_ret (v:=.agg #[n,aI ad i K]) (by simp[results,results32,go_sem,GF]) rfl ⟨n,ad,i,K,l,rfl,hn,oF,by omega,DF,gF⟩
end
end Go.Proofs.YtcpoomdoodlkjaaGreatDoor
section
namespace Go.G5
open Go Go.RowKit
section
variable {wr w2:World} {g:Nat}
theorem aP.cur0{E:TypeId}{B:Nat}{v:Value}{l:List Int}(o:aP E B wr v l)(hB:g<B)(z:wr.grownBy w2 (some g)):aP E B w2 v l:=
 o.grow z (fun q D e=>by have:=Option.some.inj D;have:=(o.lt _ e).1;omega)
theorem aU.cur0{t:TypeId}{b:Nat}{cs:Array Value}(K:aU wr b t cs)(hb:g<b)(z:wr.grownBy w2 (some g)):aU w2 b t cs:=
 K.grow z vI
theorem aU.own{E t:TypeId}{B b:Nat}{v:Value}{l:List Int}{cs:Array Value}(K:aU wr b t cs)(o:aP E B wr v l)(hB:b<B)(z:wr.grownBy w2 v.ownBlock):aU w2 b t cs:=
 K.grow z (fun e=>by have:=(o.lt _ e).1;omega)
end
end Go.G5
namespace Go.Proofs.YtcpoomdoodlkjaaGreatDoor
open Go.RowKit Go.G5 Go.Proofs.Tryz
structure Cur (w wr:World) (g:Nat):Prop where
 D:Dr wr g
 gr:w.grownBy wr (some g)
 zg:g<w.heap.size
section
variable {w wr w2:World} {g:Nat}
theorem Cur.start(D:Dr w g):Cur w w g:=⟨D,World.grownBy.refl _ _,D.lt⟩
theorem Cur.size(h:Cur w wr g):w.heap.size<=wr.heap.size:=h.gr.size
theorem Cur.next(h:Cur w wr g)(D:Dr w2 g)(z:wr.grownBy w2 (some g)):Cur w w2 g:=⟨D,eF h.gr z,h.zg⟩
theorem Cur.keep(h:Cur w wr g)(b:Below wr wr w2):Cur w w2 g:=⟨h.D.keep b,eF h.gr (fN _ b),h.zg⟩
theorem Cur.alloc(h:Cur w wr g)(o:Obj):Cur w (wr.alloc o) g:=h.keep (bF _ _)
theorem Cur.row{r:Option Nat}(h:Cur w wr g)(z:wr.grownBy w2 r)(hr:∀b,r=some b->w.heap.size<=b):Cur w w2 g:=
 ⟨h.D.grow z (fun k e=>by have:=hr k e;have:=h.zg;omega),vZ h.gr z (fun b e=>.inr (hr b e)),h.zg⟩
end
end Go.Proofs.YtcpoomdoodlkjaaGreatDoor
end
namespace Go.Proofs.YtcpoomdoodlkjaaGreatDoor
section
open Go.RowKit Go.G5 Go.Proofs.Tryz
theorem FO(w:World)(g:Nat)(D:Dr w g)(N:Nat)(hN:N<=5):
  Calls prog 253 #[.pointer (some ⟨g,0,none⟩),(N:Int)] w fun e w'=>∃(ad:Option Addr) (cp:Nat) (L:List Int),e=.returned (aI ad (2^N) cp)/\aP 3 w w' (aI ad (2^N) cp) L/\L.length=2^N/\(∀x∈L,-1000<=x/\x<=1000)/\Dr w' g/\w.grownBy w' (some g):=by
 have p1:(2:Nat)^N<=32:=Nat.pow_le_pow_right (n:=2) aY hN;have K:((2^N:Nat):Int)=(2:Int)^N:=by simp
 have tp:=cO N 5 hN;have o9:(2:Int)^N<=32:=by rw[<-K];omega
 have p0:=tp.2;clear tp;go_enter func253,ntmps253;go_wp2_with fail;refine bH ?_;intro V hV;have oa:aP 3 w V (aI (some ⟨w,0,none⟩) 0 0) []:=by rw[hV];exact(aP.lit0 w aO).alloc _
 have ob:aP 3 w V (aI (some ⟨w.heap.size+1,0,none⟩) 0 0) []:=by rw[hV];exact(aP.lit0' w _)
 have ap:kB (aI (some ⟨w,0,none⟩) 0 0) (aI (some ⟨w.heap.size+1,0,none⟩) 0 0):=fun k h1 h2=>by have e1:w.heap.size=k:=Option.some.inj h1;have e2:w.heap.size+1=k:=Option.some.inj h2;omega
 have C:Cur w V g:=by rw[hV];exact((Cur.start D).alloc _).alloc _
 clear hV;refine(cU V g C.D 5).mono ?_;rintro e w1 ⟨m,rfl,_,hm,_,D1,g1⟩;have hm:=hm aK;have oa:=oa.cur0 C.zg g1;have ob:=ob.cur0 C.zg g1;have C:=C.next D1 g1;obtain⟨M,rfl⟩:=Int.eq_ofNat_of_zero_le hm.1;have hM:M<=4:=aK;clear g1 D1 hm;go_wp2_with fail;go_loopw [5,6,7] (fun a s k wr=>∃(a1:Option Addr) (n1 c1:Nat) (a2:Option Addr) (n2 c2:Nat) (A S:List Int) (j:Nat),a=aI a1 n1 c1/\s=aI a2 n2 c2/\k=aM j/\j+A.length<=4/\S.length=A.length/\(∀x∈A,0<=x/\x<=4)/\aP 3 w wr (aI a1 n1 c1) A/\aP 3 w wr (aI a2 n2 c2) S/\kB (aI a1 n1 c1) (aI a2 n2 c2)/\Cur w wr g) (fun _ _ k _=>(intOf k).toNat)
 case atStart=>exact⟨_,_,_,_,_,_,[],[],M,rfl,rfl,rfl,by simpa using hM,rfl,by simp,oa,ob,ap,C⟩
 case round=>
  obtain⟨a1,n1,c1,a2,n2,c2,A,S,j,rfl,rfl,rfl,o6,Y,hA,J,O,a9,Cr⟩:=hrel;clear oa ob ap C;by_cases h0:0<j
  ·have h1:(0:Int)<(j:Int):=aK;have j1:IntKind.i64.wrap ((2:Int)^N)=(2:Int)^N:=by rw[IntKind.wrap_i64];omega
   have F:=aN (And.intro Y (And.intro hA K));clear Y hA K;go_wp2_with fail;refine(cU wr g Cr.D 3).mono ?_;rintro e w3 ⟨x,rfl,_,hx,_,D3,g3⟩;have hx:=hx aK;have b3:=J.cur0 Cr.zg g3;have b5:=O.cur0 Cr.zg g3;have C3:=Cr.next D3 g3;have p6:=hx.1;have p8:=hx.2;have z3:=C3.size;clear Cr J O D3 g3 hx;go_wp2_with (at_builtin;refine dI rfl _ _ _ rfl 3 underlying24 aS w.heap.size (aI a1 n1 c1) A (1+x) _ rfl rfl (bB _ _ _ _ _ rfl) (b3.alloc _) ⟨by omega,by omega⟩ aK aV ?_;intro v5 w5 o5 g5 h5;obtain⟨p5,i5,q5,rfl⟩:=o5.shape3;have f0:=(b5.alloc (.cells #[aM (1+x)] 3)).growA g5 a9;have c8:=h5.apart a9 (fun q Z=>(((b5.alloc (.cells #[aM (1+x)] 3))).lt q Z).2);have C5:=(C3.alloc (.cells #[aM (1+x)] 3)).row g5 (fun q Z=>(b3.lt q Z).1));refine(cU w5 g C5.D _).mono ?_;rintro e w6 ⟨y,rfl,j4,_,_,D6,g6⟩;have b4:=o5.cur0 C5.zg g6;have f2:=f0.cur0 C5.zg g6;have C6:=C5.next D6 g6;have z6:=C6.size;clear C5 o5 f0 D6 g6 C3 b3 b5;have m4:=aN b4;have n3:S.length<=4:=by have:=F.out.1;omega
   go_wp2_with (at_builtin;refine dI rfl _ _ _ rfl 3 underlying24 aS w.heap.size (aI a2 n2 c2) S y _ rfl rfl (bB _ _ _ _ _ rfl) (f2.alloc _) j4 aK aV ?_;intro v7 w7 o7 g7 h7;obtain⟨p7,i7,q7,rfl⟩:=o7.shape3;have j5:=(b4.alloc (.cells #[y] 3)).growA g7 c8.symm;have g9:=(h7.apart c8.symm (fun q Z=>(((b4.alloc (.cells #[y] 3))).lt q Z).2)).symm;have C7:=(C6.alloc (.cells #[y] 3)).row g7 (fun q Z=>(f2.lt q Z).1));go_roundw
   case rel=>
    refine⟨p5,i5,q5,p7,i7,q7,A++[1+x],S++[y],j-1,rfl,rfl,by go_num,by simp;omega,by simp;exact F.out.1,fun z I=>?_,j5,o7,g9,C7⟩;rcases List.mem_append.1 I with I|I
    ·exact F.out.2.1 z I
    ·rw[List.mem_singleton.1 I];omega
   case measure=>simp[intOf];omega
  ·have h1:¬(0:Int)<(j:Int):=aK;have j1:IntKind.i64.wrap ((2:Int)^N)=(2:Int)^N:=by rw[IntKind.wrap_i64];omega
   have o8:=J.shape3;obtain⟨m5,m7,i8⟩:=J.ints.shape;injection i8 with e1 e2 e3;subst e1 e2 e3;obtain⟨m6,m8,j0⟩:=O.ints.shape;injection j0 with e1 e2 e3;subst e1 e2 e3;obtain⟨WB,h9⟩:∃WB:World,WB=wr:=⟨_,rfl⟩;subst h9;obtain⟨xa,ba,l7,ya,j2,_,e6,ca,c9⟩:=J.ints.view prog 24 3 underlying24 aS;obtain⟨xs,bs,l8,ys,j3,_,e7,cs,d0⟩:=O.ints.view prog 24 3 underlying24 aS;injection j2 with e1 _ e3;subst e1 e3;injection j3 with e1 _ e3;subst e1 e3;have o0:=aP.lit0 (E:=3) (B:=WB.heap.size) WB aO;have zW:=Cr.size;have HC:=aN Cr;have HX:=aN (And.intro e6 e7);have R:=aN (And.intro (And.intro ca c9) (And.intro cs d0));have F:=aN (And.intro Y (And.intro hA K));clear Cr e6 e7 ca cs c9 d0 Y hA J O a9 K;go_wp2_with fail;go_loopw [8,9] (fun v i wr=>∃(s:Nat) (ad:Option Addr) (nn cp:Nat) (L:List Int),s<=2^N/\v=aI ad nn cp/\i=aM s/\L.length=s/\(∀x∈L,-1000<=x/\x<=1000)/\aP 3 WB wr (aI ad nn cp) L/\Below WB WB wr) (fun _ i _=>2^N-(intOf i).toNat)
   case atStart=>exact⟨0,_,_,_,[],Nat.zero_le _,rfl,rfl,rfl,by simp,o0,bF _ _⟩
   case round=>
    obtain⟨s,ad,nn,cp,L,hs,rfl,rfl,d5,hL,ho,Bw⟩:=hrel;clear o0;obtain⟨WC,i1⟩:∃WC:World,WC=wr:=⟨_,rfl⟩;subst i1;have HL:=aN (And.intro d5 hL);have HO:=aN ho;have l0:L.length<=32:=aK;clear d5 hL ho;by_cases hlt:s<2^N
    ·have d9:(s:Int)<(2:Int)^N:=by rw[<-F.out.2.2];exact_mod_cast hlt
     have d6:=aW R.out.1.1 R.out.1.2 Bw aO;have d7:=aW R.out.2.1 R.out.2.2 Bw aO;have g8:=aN d6;have c5:=aN d7;clear d6 d7;go_wp2_with fail;go_loop [10,11] (fun x i=>∃(k:Nat) (X:Int),k<=A.length/\i=aM k/\x=aM X/\0<=X/\X<=4*k) (fun _ i=>A.length-(intOf i).toNat)
     case atStart=>exact⟨0,0,Nat.zero_le _,rfl,rfl,by omega,by omega⟩
     case round=>
      obtain⟨k,X,hk,rfl,rfl,i6,o1⟩:=hrel;by_cases b1:k<A.length
      ·have d8:k<S.length:=by have:=F.out.1;omega
       have h6:=g8.out k b1;have h8:=c5.out k d8;have ia:=fun W=>HX.out.1 W k b1;have is:=fun W=>HX.out.2 W k d8;have hb:=F.out.2.1 _ (List.getElem_mem b1);obtain⟨y,hy⟩:=aQ (A[k]);obtain⟨z,I⟩:=aQ (S[k]);rw[<-hy]at h6 hb;rw[<-I]at h8;have o3:=hb.1;have o4:=hb.2;clear hy I hb;obtain⟨t,ht⟩:∃t,(bits .and .i64 z (s:Int) != 0)=t:=⟨_,rfl⟩
       cases t with
       |false=>
        go_wp2;go_round
        case rel=>exact⟨k+1,X,by omega,by go_num,rfl,i6,by omega⟩
        case measure=>simp[intOf];omega
       |true=>
        go_wp2;go_round
        case rel=>exact⟨k+1,X+y,by omega,by go_num,rfl,by omega,by omega⟩
        case measure=>simp[intOf];omega
      ·have l2:¬(k:Int)<(A.length:Int):=aK;have o2:X<=1000:=aK;have zC:=Bw.size;go_wp2_with (at_builtin;refine dI rfl _ _ _ rfl 3 underlying24 aS WB.heap.size _ L X _ rfl rfl (bB _ _ _ _ _ rfl) (HO.out.alloc _) ⟨by omega,by omega⟩ aK aV ?_;intro v5 w5 o5 g5 h5;obtain⟨p5,i5,q5,rfl⟩:=o5.shape3);have B5:=(Bw.alloc zC (.cells #[X] 3)).grown g5 aV (fun q Z=>(HO.out.lt q Z).1);go_roundw
       case rel=>
        refine⟨s+1,p5,i5,q5,L++[X],by omega,rfl,by go_num,by simp;exact HL.out.1,fun z I=>?_,o5,B5⟩;rcases List.mem_append.1 I with I|I
        ·exact HL.out.2 z I
        ·rw[List.mem_singleton.1 I];omega
       case measure=>simp[intOf];omega
    ·have d9:¬(s:Int)<(2:Int)^N:=by rw[<-F.out.2.2];exact_mod_cast hlt
     have e4:s=2^N:=aK;have e0:nn=2^N:=by rw[HO.out.ints.capLe.1,HL.out.1];exact e4
     have a8:=aN e0;clear e0 e4;go_wp2;go_ret;refine⟨ad,cp,by rw[<-a8.out];rfl,L,?_,by rw[HL.out.1,<-a8.out,HO.out.ints.capLe.1,HL.out.1],HL.out.2,(HC.out.keep Bw).D,(HC.out.keep Bw).gr⟩;rw[<-a8.out];exact HO.out.mono zW
end
end Go.Proofs.YtcpoomdoodlkjaaGreatDoor
