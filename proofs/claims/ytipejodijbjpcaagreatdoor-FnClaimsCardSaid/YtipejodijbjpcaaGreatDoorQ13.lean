/- Lemmas for CardClaims, part 13 of 52. No condition. -/
import Derived.Test.YtipejodijbjpcaaGreatDoorQ02
import Derived.Test.YtipejodijbjpcaaGreatDoorQ03
import Derived.Test.YtipejodijbjpcaaGreatDoorQ05
import Derived.Test.YtipejodijbjpcaaGreatDoorQ08
import Derived.Lib.SlicesCompact
import Derived.Deep.RegionHeld3
import Derived.Deep.AppendLies
set_option maxRecDepth 100000
set_option maxHeartbeats 64000000
namespace Go.Proofs.YtipejodijbjpcaaGreatDoor
section
open Go.RowKit Go.G5
theorem aU(w:World)(g:Nat)(D:Dr w g)(n:Int):
  Calls Tryz.prog 205 #[.pointer (some ⟨g,0,none⟩),.int .i64 n] w fun e w'=>∃x:Int,e=.returned (.int .i64 x)/\bA x/\(0<n->0<=x/\x<n)/\(n<=0->x=0)/\Dr w' g/\w.grownBy w' (some g):=by
 by_cases h0:n<=0
 ·go_enter Tryz.func205,Tryz.ntmps205
  go_wp2;go_ret;exact⟨0,rfl,⟨by omega,by omega⟩,fun h=>by omega,fun _=>rfl,D,World.grownBy.refl _ _⟩
 ·by_cases h1:n<=256
  ·go_enter Tryz.func205,Tryz.ntmps205
   go_wp2_with fail;refine(nL w g D).mono ?_;rintro e R ⟨x,hx,rfl,F,I⟩;have o:n≠0:=by omega
   have L:Int.tmod (x:Int) n=(x:Int)%n:=Int.tmod_eq_emod_of_nonneg (by omega);have M:=Int.emod_nonneg (x:Int) o;have N:=Int.emod_lt_of_pos (x:Int) (show 0<n by omega);go_wp2;go_ret;exact⟨(x:Int)%n,rfl,⟨by omega,by omega⟩,fun _=>⟨by omega,by omega⟩,fun h=>by omega,F,I⟩
  ·go_enter Tryz.func205,Tryz.ntmps205
   go_wp2_with fail;refine(nL w g D).mono ?_;rintro e R ⟨x,hx,rfl,F,I⟩;go_wp2_with fail;refine(nL R g F).mono ?_;rintro e w2 ⟨y,hy,rfl,S,Z⟩;go_wp2_with fail;refine(nL w2 g S).mono ?_;rintro e w3 ⟨z,hz,rfl,U,g3⟩;go_wp2_with fail;refine(nL w3 g U).mono ?_;rintro e w4 ⟨q,hq,rfl,Y,g4⟩;have o:n≠0:=by omega
   obtain⟨t,ht⟩:∃t:Int,t=(x:Int)*16777216+(y:Int)*65536+(z:Int)*256+(q:Int):=⟨_,rfl⟩;have L:Int.tmod t n=t%n:=Int.tmod_eq_emod_of_nonneg (by omega);have M:=Int.emod_nonneg t o;have N:=Int.emod_lt_of_pos t (show 0<n by omega);have O:=Int.mul_ediv_add_emod t n;have A:=Int.ediv_nonneg (a:=t) (b:=n) (by omega) (by omega);have Q:0<=n*(t/n):=Int.mul_nonneg (by omega) A;have a7:t%n<=t:=by omega
   clear O A Q;have K:=cN (cN (cN I Z) g3) g4;go_wp2;rw[<-ht];go_ret;exact⟨t%n,rfl,⟨by omega,by omega⟩,fun _=>⟨by omega,by omega⟩,fun h=>by omega,Y,K⟩
theorem iH(w:World)(g:Nat)(D:Dr w g)(n:Int):
  Calls Tryz.prog 204 #[.pointer (some ⟨g,0,none⟩),.int .i64 n] w fun e w'=>∃b:Bool,e=.returned (.bool b)/\Dr w' g/\w.grownBy w' (some g):=by
 go_enter Tryz.func204,Tryz.ntmps204;go_wp2_with fail;refine(aU w g D n).mono ?_;rintro e F ⟨x,rfl,A,_,_,o,z⟩;go_wp2;go_ret;exact⟨_,rfl,o,z⟩
theorem fM(w:World)(g:Nat)(D:Dr w g)(B:Nat)(hB:g<B)(v:Value)(l:List Int)(F:aC 3 B w v l)(h0:0<l.length):
  Calls Tryz.prog 293 #[.pointer (some ⟨g,0,none⟩),v] w fun e w'=>∃x:Int,e=.returned (.int .i64 x)/\x∈l/\Dr w' g/\w.grownBy w' (some g):=by
 obtain⟨a,c,rfl⟩:=F.shape;go_enter Tryz.func293,Tryz.ntmps293;go_wp2_with fail;refine(aU w g D (l.length:Int)).mono ?_;rintro e w1 ⟨x,rfl,_,I,_,Q,K⟩;have I:=I (by omega);obtain⟨k,rfl⟩:=Int.eq_ofNat_of_zero_le I.1;have A:k<l.length:=by omega
 have Y:=F.grow K (fun q U e=>by have:=Option.some.inj U;have:=(F.lt _ e).1;omega);obtain⟨a',b,Z,c',M,N,z,L,hb⟩:=Y.ints.view Tryz.prog 22 3 Tryz.underlying22 aG;simp only[Value.slice.injEq]at M;obtain⟨rfl,_,rfl⟩:=M;have S:=L k A;have ik:=fun W=>z W k A;have o:=List.getElem_mem A;obtain⟨y,O⟩:∃y,y=l[k]:=⟨_,rfl⟩;rw[<-O]at S o;have R:=Lib.hid o;clear L z O o;go_wp2;go_ret;exact⟨y,rfl,R.out,Q,K⟩
theorem jL(w:World)(v:Value)(l:List Nat)(L:fO w v l):
  Calls Tryz.prog 176 #[v] w fun e w'=>e=.returned (.pointer (some ⟨w.heap.size,0,none⟩))/\Dr w' w.heap.size/\Below w.heap.size w w':=by
 have A:=L;obtain⟨a,b,Y,c,rfl,K,D,R,hb,o⟩:=L.view Tryz.prog 58 5 Tryz.underlying58 JQ;have F:∀h:Int,Dr (w.alloc (.cells #[.slice a l.length c,.int .i64 0,.int .i64 h] 192)) w.heap.size:=fun h=>
  ⟨_,l,0,h,aB.new _ _ _,A.below (aM _ _) (Nat.le_refl _),fun Q Z M n' c' e=>by
   obtain⟨a2,c2,e2,_,_,_,h4⟩:=A;simp only[Value.slice.injEq]at e e2;obtain⟨rfl,_⟩:=e;obtain⟨rfl,_⟩:=e2
   rcases h4 with rfl|⟨b3,N,e3,hlt,_⟩
   ·exact absurd rfl Q
   ·simp only[Option.some.injEq,Addr.mk.injEq]at e3
    omega⟩
 go_enter Tryz.func176,Tryz.ntmps176;go_wp2_with fail;go_loop [3,4] (fun h i=>∃(I:Int) (k:Nat),h=.int .i64 I/\k<=l.length/\i=.int .i64 k) (fun _ i=>l.length-(intOf i).toNat)
 case atStart=>exact⟨_,0,rfl,Nat.zero_le _,rfl⟩
 case round=>
  obtain⟨I,k,rfl,hk,rfl⟩:=hrel
  by_cases hlt:k<l.length
  ·have z:(k:Int)<(l.length:Int):=by omega
   have O:=R k hlt;have ik:=fun W=>D W k hlt;have S:=o l[k] (List.getElem_mem _);obtain⟨y,U⟩:∃y,y=l[k]:=⟨_,rfl⟩;rw[<-U]at O S
   by_cases h4:(k:Int)<4000
   ·go_wp2
    go_round
    case rel=>exact⟨_,k+1,rfl,by omega,by go_num⟩
    case measure=>simp[intOf];omega
   ·go_wp2
    go_ret;exact⟨rfl,F _,aM _ _⟩
  ·have z:¬(k:Int)<(l.length:Int):=by omega
   go_wp2;go_ret;exact⟨rfl,F _,aM _ _⟩
end
section
open Go.RowKit Go.G5
def jI(l:List Int):List Int:=Lib.compact (l.mergeSort fun x y=>decide (x<=y))
theorem xJ(d:Array Int)(mono:∀i j,i<=j->j<d.size->d[i]! <= d[j]!):∀m,m<=d.size ->
  (Lib.compactUpTo d m).Pairwise (· < ·)/\(∀x∈Lib.compactUpTo d m,∃j,j<m/\x=d[j]!)/\(∀j,j<m->d[j]! ∈ Lib.compactUpTo d m):=by
 intro m
 induction m with
 |zero=>intro _;simp[Lib.compactUpTo]
 |succ m ih=>
  intro N;obtain⟨h1,h2,h3⟩:=ih (by omega);rw[Lib.compactUpTo_succ]
  by_cases D:Lib.keeps d m=true
  ·rw[if_pos D]
   have hlt:∀x∈Lib.compactUpTo d m,x<d[m]! := by
    intro x o;obtain⟨j,F,rfl⟩:=h2 x o;have e1:=mono j (m-1) (by omega) (by omega);have e2:=mono (m-1) m (by omega) (by omega);unfold Lib.keeps at D;have z:=of_decide_eq_true D
    rcases z with I|M
    ·omega
    ·omega
   refine⟨?_,?_,?_⟩
   ·rw[List.pairwise_append]
    exact⟨h1,by simp,fun a K b hb=>by simp only[List.mem_singleton]at hb;rw[hb];exact hlt a K⟩
   ·intro x o
    rcases List.mem_append.1 o with o|o
    ·obtain⟨j,F,e⟩:=h2 x o
     exact⟨j,by omega,e⟩
    ·simp only[List.mem_singleton]at o
     exact⟨m,by omega,o⟩
   ·intro j F
    by_cases A:j<m
    ·exact List.mem_append.2 (.inl (h3 j A))
    ·have:j=m:=by omega
     subst this;exact List.mem_append.2 (.inr (by simp))
  ·rw[if_neg D,List.append_nil]
   refine⟨h1,fun x o=>?_,fun j F=>?_⟩
   ·obtain⟨j,F,e⟩:=h2 x o
    exact⟨j,by omega,e⟩
   ·by_cases A:j<m
    ·exact h3 j A
    ·have:j=m:=by omega
     subst this;unfold Lib.keeps at D;have z:¬(j=0∨d[j]! ≠ d[j-1]!):=fun h=>D (decide_eq_true h);have I:j≠0:=fun h=>z (.inl h);have L:d[j]! = d[j-1]! := Classical.byContradiction fun h=>z (.inr h);rw[L];exact h3 (j-1) (by omega)
theorem EA(l:List Int):∀i j,i<=j->j<(l.mergeSort fun x y=>decide (x<=y)).toArray.size->(l.mergeSort fun x y=>decide (x<=y)).toArray[i]! <= (l.mergeSort fun x y=>decide (x<=y)).toArray[j]! := by
 have A:(l.mergeSort fun x y=>decide (x<=y)).Pairwise (fun a b=>decide (a<=b)=true):=
  List.pairwise_mergeSort (le:=fun x y:Int=>decide (x<=y)) (fun a b c h1 h2=>decide_eq_true (Int.le_trans (of_decide_eq_true h1) (of_decide_eq_true h2))) (fun a b=>by
   rcases Int.le_total a b with h|h
   ·show(decide (a<=b)||decide (b<=a))=true
    rw[decide_eq_true h];rfl
   ·show(decide (a<=b)||decide (b<=a))=true
    rw[decide_eq_true h];simp) l
 generalize l.mergeSort (fun x y=>decide (x<=y))=s at *
 intro i j z o;rw[getElem!_pos s.toArray i (by omega),getElem!_pos s.toArray j o];simp only[List.getElem_toArray]
 rcases Nat.lt_or_ge i j with h|h
 ·exact of_decide_eq_true (List.pairwise_iff_getElem.1 A i j (by simpa using(show i<s.toArray.size by omega)) (by simpa using o) h)
 ·have:i=j:=by omega
  subst this;exact Int.le_refl _
theorem xI(l:List Int):(jI l).Pairwise (· < ·):=by
 have:=(xJ _ (EA l) _ (Nat.le_refl _)).1;simpa[jI,Lib.compact]using this
theorem xW(l:List Int)(x:Int):x∈jI l↔x∈l:=by
 have h:=xJ _ (EA l) _ (Nat.le_refl _);have A:∀y,y∈(l.mergeSort fun x y=>decide (x<=y))↔y∈l:=fun y=>List.mem_mergeSort;have e:jI l=Lib.compactUpTo (l.mergeSort fun x y=>decide (x<=y)).toArray (l.mergeSort fun x y=>decide (x<=y)).toArray.size:=by simp[jI,Lib.compact]
 rw[e,<-A]
 generalize l.mergeSort (fun x y=>decide (x<=y))=s at *
 constructor
 ·intro z
  obtain⟨j,o,rfl⟩:=h.2.1 x z;rw[getElem!_pos s.toArray j o];simp
 ·intro z
  obtain⟨j,o,rfl⟩:=List.getElem_of_mem z;have:=h.2.2 j (by simpa using o);rw[getElem!_pos s.toArray j (by simpa using o)]at this;simpa using this
theorem DB:∀(a b:List Int),a.Pairwise (· < ·)->b.Pairwise (· < ·)->(∀x,x∈a↔x∈b)->a=b:=by
 intro a
 induction a with
 |nil=>
  intro b _ _ h
  cases b with
  |nil=>rfl
  |cons y b=>have:=(h y).2 (by simp);simp at this
 |cons x a ih=>
  intro b L hb h
  cases b with
  |nil=>have:=(h x).1 (by simp);simp at this
  |cons y b=>
   obtain⟨o,F⟩:=List.pairwise_cons.1 L;obtain⟨A,I⟩:=List.pairwise_cons.1 hb;have K:x=y:=by
    have h1:=(h x).1 (by simp);have h2:=(h y).2 (by simp)
    rcases List.mem_cons.1 h1 with h1|h1
    ·exact h1
    ·rcases List.mem_cons.1 h2 with h2|h2
     ·exact h2.symm
     ·have:=A x h1;have:=o y h2;omega
   subst K;rw[ih b F I fun z=>?_]
   constructor
   ·intro D
    rcases List.mem_cons.1 ((h z).1 (List.mem_cons.2 (.inr D))) with e|e
    ·subst e;have:=o z D;omega
    ·exact e
   ·intro D
    rcases List.mem_cons.1 ((h z).2 (List.mem_cons.2 (.inr D))) with e|e
    ·subst e;have:=A z D;omega
    ·exact e
theorem qE(l:List Int)(h:l.Pairwise (· < ·)):jI l=l:=DB _ _ (xI l) h (xW l)
theorem xL(d:Array Int)(m:Nat):(Lib.compactUpTo d m).length<=m:=by
 unfold Lib.compactUpTo;rw[List.length_map];have:=List.length_filter_le (Lib.keeps d) (List.range m);simpa using this
theorem xC(l:List Int):(jI l).length<=l.length:=by
 have:=xL (l.mergeSort fun x y=>decide (x<=y)).toArray (l.mergeSort fun x y=>decide (x<=y)).length;unfold jI Lib.compact;simpa using this
end
section
open Go.RowKit Go.G5
def sN(l:List Int)(x:Int):List Int:=jI (l++[x])
theorem IU(l:List Int)(x y:Int):y∈sN l x↔y∈l∨y=x:=by
 unfold sN;rw[xW];simp
theorem yG(l:List Int)(x:Int):(sN l x).Pairwise (· < ·):=xI _
theorem SO(l:List Int)(x:Int):(sN l x).length<=l.length+1:=by
 have:=xC (l++[x]);simpa[sN]using this
theorem TT(l:List Int)(x:Int)(h:l.Pairwise (· < ·))(o:x∈l):sN l x=l:=by
 refine DB _ _ (yG _ _) h ?_;intro y;rw[IU]
 constructor
 ·rintro(h|h)
  ·exact h
  ·rw[h];exact o
 ·exact .inl
theorem UA(l:List Int)(x:Int)(i:Nat)(h:l.Pairwise (· < ·))(h1:∀y∈l.drop i,x<y)(h2:∀y∈l.take i,y<x):sN l x=(l.take i++[x])++l.drop i:=by
 refine DB _ _ (yG _ _) ?_ ?_
 ·rw[<-List.take_append_drop i l,List.pairwise_append]at h
  rw[List.pairwise_append,List.pairwise_append];refine⟨⟨h.1,by simp,?_⟩,h.2.1,?_⟩
  ·intro a o b hb
   rw[List.mem_singleton]at hb;rw[hb];exact h2 a o
  ·intro a o b hb
   rw[List.mem_append,List.mem_singleton]at o
   rcases o with o|o
   ·exact h.2.2 a o b hb
   ·rw[o];exact h1 b hb
 ·intro y
  rw[IU]
  conv=>lhs;rw[<-List.take_append_drop i l]
  simp only[List.mem_append,List.mem_singleton]
  constructor
  ·rintro((h|h)|h)
   ·exact .inl (.inl h)
   ·exact .inr h
   ·exact .inl (.inr h)
  ·rintro((h|h)|h)
   ·exact .inl (.inl h)
   ·exact .inr h
   ·exact .inl (.inr h)
theorem O9(l:List Int)(x:Int)(i:Nat)(h:l.Pairwise (· < ·))(z:i<l.length)(D:l[i]<x):∀y∈l.take (i+1),y<x:=by
 intro y o;rw[List.take_succ_eq_append_getElem z,List.mem_append,List.mem_singleton]at o
 rcases o with o|o
 ·obtain⟨j,A,rfl⟩:=List.getElem_of_mem o
  rw[List.length_take]at A;have:=List.pairwise_iff_getElem.1 h j i (by omega) z (by omega);rw[List.getElem_take];omega
 ·rw[o];exact D
theorem O4(l:List Int)(x:Int)(i:Nat)(z:i<l.length)(h:∀y∈l.drop (i+1),x<y)(A:x<l[i]):∀y∈l.drop i,x<y:=by
 intro y o;rw[List.drop_eq_getElem_cons z,List.mem_cons]at o
 rcases o with o|o
 ·rw[o];exact A
 ·exact h y o
end
section
open Go.RowKit Go.G5
theorem OZ(B : Nat)(l : List Int)(v : Value)(x : Int)(w : World)(hown : aC 3 B w v l)(hB : B <= w.heap.size)(hasc : l.Pairwise (· < ·))(hl : l.length <= 1048576)(hx : bA x) :
    Calls Tryz.prog 305 #[v, .int .i64 x] w fun e w' => ∃ ad i cp, e = .returned (.slice ad i cp) /\ aC 3 B w' (.slice ad i cp) (sN l x) /\ Below w.heap.size w w' /\ (∀ k, (Value.slice ad i cp).ownBlock = some k -> v.ownBlock = some k ∨ w.heap.size <= k) := by
  have hv := hown.ints
  have hv0 := hv
  obtain ⟨a, b, off, c, rfl, hlen, hix, hc, hb⟩ := hv.view Tryz.prog 22 3 Tryz.underlying22 aG
  have HA := Lib.hid hasc
  clear hasc
  go_enter Tryz.func305, Tryz.ntmps305
  go_wp2
  go_loop [5] (fun i => ∃ k : Nat, k <= l.length /\ i = .int .i64 k /\ ∀ y ∈ l.drop k, x < y) (fun i => (intOf i).toNat)
  case atStart => exact ⟨l.length, Nat.le_refl _, rfl, by simp⟩
  case round =>
    obtain ⟨k, hk, rfl, hab⟩ := hrel
    have HAB := Lib.hid hab
    clear hab
    have fin : ∀ (hz : (∀ y ∈ l.take k, y < x)), sN l x = (([] ++ l.take k) ++ [x]) ++ l.drop k := fun hz => UA l x k HA.out HAB.out hz
    obtain ⟨u1, u2⟩ := hv0.upto 22 3 Tryz.underlying22 aG k hk
    obtain ⟨a', c', d1, d2⟩ := hv0.from 22 3 Tryz.underlying22 aG k hk
    have FIN := Lib.hid fin
    have zk : (l.take k).length = k := by rw [List.length_take, Nat.min_eq_left hk]
    have zd : (l.drop k).length = l.length - k := List.length_drop
    rw [zd] at d1 d2
    clear zk zd
    clear fin
    by_cases hz : (0 : Int) < k
    · have hj : k - 1 < l.length := by omega
      have hcj := hc (k - 1) hj
      have hixj := fun W => hix W (k - 1) hj
      obtain ⟨y, hy⟩ : ∃ y, y = l[k - 1] := ⟨_, rfl⟩
      rw [<- hy] at hcj
      have hk1 : IntKind.i64.wrap ((k : Int) - 1) = ((k - 1 : Nat) : Int) := by rw [IntWalk.i64_in _ ⟨by omega, by omega⟩]; omega
      have HY := Lib.hid hy
      clear hy hix hc
      rcases Int.lt_trichotomy x y with hlt | heq | hgt
      · have hge : x < y := hlt
        go_wp2
        go_round
        case rel =>
          refine ⟨k - 1, by omega, by go_num, ?_⟩
          have := O4 l x (k - 1) hj (by rw [show k - 1 + 1 = k by omega]; exact HAB.out) (by rw [<- HY.out]; exact hlt)
          exact this
        case measure => simp [intOf]; omega
      · subst heq
        have hput := TT l x HA.out (by rw [HY.out]; exact List.getElem_mem hj)
        have HPUT := Lib.hid hput
        clear hput
        go_wp2
        go_ret
        exact ⟨a, l.length, c, rfl, by rw [HPUT.out]; exact hown, Below.refl _ _, fun _ h => .inl h⟩
      · have hn : ¬ x < y := by omega
        have hne : (y == x) = false := by simp; omega
        have hp := FIN.out (by
          have := O9 l x (k - 1) HA.out hj (by rw [<- HY.out]; exact hgt)
          rw [show k - 1 + 1 = k by omega] at this
          exact this)
        have HP := Lib.hid hp
        clear hp
        go_wp2
        go_region_held3 (fun _ => True) (trivial)
          (first
            | (refine cV rfl _ _ _ rfl 3 Tryz.underlying22 aG w.heap.size (.slice (some ⟨_, 0, none⟩) 0 0) [] rfl (.slice a k c) (l.take k) rfl ?_ ?_ ?_ w ?_ (Nat.le_refl _) ?_; (first | (with_reducible exact (aC.lit0 w (Nat.le_refl _)).drew') | (with_reducible exact ((aC.lit0 w (Nat.le_refl _)).alloc _).drew') | (with_reducible exact (aC.lit0' w _).drew')); (first | (with_reducible exact (u2.alloc _).drew') | (with_reducible exact ((u2.alloc _).alloc _).drew')); (simp; omega); (first | (with_reducible exact (aM w _).drew) | (with_reducible exact (cD w _ _).drew)); (intro v1 w1 o1 b1 pc))
            | (refine cV rfl _ _ _ rfl 3 Tryz.underlying22 aG w.heap.size v1 ([] ++ l.take k) rfl (.slice (some ⟨_, 0, none⟩) 1 1) [x] rfl ?_ ?_ ?_ w ?_ (Nat.le_refl _) ?_; (first | (with_reducible exact o1) | (with_reducible exact o1.alloc _)); (refine aD.one ?_ hx; first | (with_reducible exact aT _ _ _ _ _ rfl) | (with_reducible exact pc _ _ (iM _ _ _ _) (mB _ _ _)) | (with_reducible exact pc _ _ (jT _ _ _ _) (lX _ _ _))); (simp; omega); (first | (with_reducible exact b1) | (with_reducible exact b1.alloc b1.size _)); (intro v2 w2 o2 b2 _))
            | (refine cV rfl _ _ _ rfl 3 Tryz.underlying22 aG w.heap.size v2 (([] ++ l.take k) ++ [x]) rfl (.slice a' (l.length - k) c') (l.drop k) rfl o2 (d2.below b2 (Nat.le_refl _)) ?_ w b2 (Nat.le_refl _) ?_; (simp; omega); (intro v3 w3 o3 b3 _; obtain ⟨av, nv, cv, rfl⟩ := o3.shape3))
          )
        all_goals
          go_wp2
          go_ret
          exact ⟨av, nv, cv, rfl, by rw [HP.out]; exact o3.mono hB, b3, fun _ h => .inr (o3.lt _ h).1⟩
    · have hp := FIN.out (by intro y hy; have : k = 0 := by omega
                             subst this; simp at hy)
      have HP := Lib.hid hp
      clear hp
      go_wp2
      go_region_held3 (fun _ => True) (trivial)
        (first
          | (refine cV rfl _ _ _ rfl 3 Tryz.underlying22 aG w.heap.size (.slice (some ⟨_, 0, none⟩) 0 0) [] rfl (.slice a k c) (l.take k) rfl ?_ ?_ ?_ w ?_ (Nat.le_refl _) ?_; (first | (with_reducible exact (aC.lit0 w (Nat.le_refl _)).drew') | (with_reducible exact ((aC.lit0 w (Nat.le_refl _)).alloc _).drew') | (with_reducible exact (aC.lit0' w _).drew')); (first | (with_reducible exact (u2.alloc _).drew') | (with_reducible exact ((u2.alloc _).alloc _).drew')); (simp; omega); (first | (with_reducible exact (aM w _).drew) | (with_reducible exact (cD w _ _).drew)); (intro v1 w1 o1 b1 pc))
          | (refine cV rfl _ _ _ rfl 3 Tryz.underlying22 aG w.heap.size v1 ([] ++ l.take k) rfl (.slice (some ⟨_, 0, none⟩) 1 1) [x] rfl ?_ ?_ ?_ w ?_ (Nat.le_refl _) ?_; (first | (with_reducible exact o1) | (with_reducible exact o1.alloc _)); (refine aD.one ?_ hx; first | (with_reducible exact aT _ _ _ _ _ rfl) | (with_reducible exact pc _ _ (iM _ _ _ _) (mB _ _ _)) | (with_reducible exact pc _ _ (jT _ _ _ _) (lX _ _ _))); (simp; omega); (first | (with_reducible exact b1) | (with_reducible exact b1.alloc b1.size _)); (intro v2 w2 o2 b2 _))
          | (refine cV rfl _ _ _ rfl 3 Tryz.underlying22 aG w.heap.size v2 (([] ++ l.take k) ++ [x]) rfl (.slice a' (l.length - k) c') (l.drop k) rfl o2 (d2.below b2 (Nat.le_refl _)) ?_ w b2 (Nat.le_refl _) ?_; (simp; omega); (intro v3 w3 o3 b3 _; obtain ⟨av, nv, cv, rfl⟩ := o3.shape3))
        )
      all_goals
        go_wp2
        go_ret
        exact ⟨av, nv, cv, rfl, by rw [HP.out]; exact o3.mono hB, b3, fun _ h => .inr (o3.lt _ h).1⟩
end
section
open Go.RowKit Go.G5
theorem ME(w:World)(g:Nat)(D:Dr w g):
  Calls Tryz.prog 292 #[.pointer (some ⟨g,0,none⟩),.int .i64 5] w fun e w'=>∃(n:Int) (z:Option Addr) (i A:Nat) (l:List Int),e=.returned (.agg #[.int .i64 n,.slice z i A])/\bA n/\aC 3 w.heap.size w' (.slice z i A) l/\l.Pairwise (· < ·)/\l.length<=7/\Dr w' g/\w.grownBy w' (some g):=by
 have zg:=D.lt;go_enter Tryz.func292,Tryz.ntmps292;go_wp2_with fail;refine aH ?_;intro V hV;have B:Below w.heap.size w V:=by rw[hV];exact aM _ _
 have K:aB V w.heap.size 27 #[.int .i64 0,.slice none 0 0]:=by rw[hV];exact aB.new _ _ _
 have D0:=D.keep B;have g0:w.grownBy V (some g):=dI _ B;have y0:=B.size;clear hV B;refine(aU V g D0 6).mono ?_;rintro e Z ⟨n,rfl,hn,U,_,D1,I⟩;have U:=U (by omega);have O:=K.grow I (by simp;omega);have I:=cN g0 I;have y1:=I.size;have x1:=O.lt;go_wp2_with fail;refine aH ?_;intro V1 a8;have D1:=D1.keep (aM Z (.cells #[] 3));have O:=O.alloc (.cells #[] 3);have o1:aC 3 Z.heap.size (Z.alloc (.cells #[] 3)) (.slice (some ⟨Z.heap.size,0,none⟩) 0 0) []:=aC.lit0 Z (Nat.le_refl _);have I:=cN I (dI (some g) (aM Z (.cells #[] 3)));rw[<-a8]at D1 O o1 I;have z1:=O.lt;clear a8;refine(aU V1 g D1 7).mono ?_;rintro e w2 ⟨m,rfl,_,hm,_,D2,Q⟩;have hm:=hm (by omega);have K2:=O.grow Q (by simp;omega);have o2:=(o1.grow Q (fun q hq e=>by have:=Option.some.inj hq;have:=(o1.lt _ e).1;omega)).mono (B':=w.heap.size+1) (by omega);have Q:=cN I Q;obtain⟨M,rfl⟩:=Int.eq_ofNat_of_zero_le hm.1;have hM:M<=6:=by omega
 have y2:=Q.size;have z2:=K2.lt;clear o1 O D1 I hm D0 g0 K;go_wp2_with fail;go_loopw [6,7] (fun l k wr=>∃(z:Option Addr) (i A:Nat) (L:List Int) (j:Nat),l=.slice z i A/\k=.int .i64 j/\j+L.length<=M/\j<=M/\aC 3 (w.heap.size+1) wr (.slice z i A) L/\L.Pairwise (· < ·)/\Dr wr g/\w.grownBy wr (some g)/\aB wr w.heap.size 27 #[.int .i64 0,.slice none 0 0]) (fun _ k _=>(intOf k).toNat)
 case atStart=>exact⟨_,_,_,[],M,rfl,rfl,by simp,Nat.le_refl _,o2,List.Pairwise.nil,D2,Q,K2⟩
 case round=>
  obtain⟨z,i,A,L,j,rfl,rfl,f2,hj,ho,N,a6,o,Kr⟩:=hrel;clear o2 D2 Q K2;have zr:=Kr.lt;have yr:=o.size;have HA:=Lib.hid N;clear N
  by_cases h0:0<j
  ·have h1:(0:Int)<(j:Int):=by omega
   have a9:0<=n/\n<6:=U;obtain⟨nn,rfl⟩:=Int.eq_ofNat_of_zero_le a9.1;have c6:nn<=5:=by omega
   have p5:=bJ nn 5 c6;have f4:IntKind.i64.wrap ((2:Int)^nn)=(2:Int)^nn:=by rw[IntKind.wrap_i64];omega
   go_wp2_with fail;refine(aU wr g a6 _).mono ?_;rintro e w3 ⟨x,rfl,hx,_,_,D3,Y⟩;have o3:=ho.grow Y (fun q hq e=>by have:=Option.some.inj hq;have:=(ho.lt _ e).1;omega);have K3:=Kr.grow Y (by simp;omega);have y3:=Y.size;have Y:=cN o Y;go_wp2_with fail;refine(OZ (w.heap.size+1) L _ x w3 o3 (by omega) HA.out (by omega) hx).mono ?_;rintro e w4 ⟨a4,i4,q4,rfl,o4,b4,_⟩;have hp:=SO L x;have c7:=yG L x;go_wp2;go_roundw
   case rel=>exact⟨a4,i4,q4,sN L x,j-1,rfl,by go_num,by omega,by omega,o4,c7,D3.keep b4,cN Y (dI _ b4),K3.keep b4⟩
   case measure=>simp[intOf];omega
  ·have c5:j=0:=by omega
   subst c5;have G:=Kr.cell;have F:=Kr.frozen;go_wp2;refine aI ?_;intro Wf S;have KF:aB Wf w.heap.size 27 #[.int .i64 n,.slice z i A]:=by
    rw[S];have:=(Kr.set 0 (.int .i64 n)).set 1 (.slice z i A);simpa using this
   have R:wr.grownBy Wf (some w.heap.size):=by rw[S];exact aA (aA (World.grownBy.refl _ _) 0 _) 1 _
   have GF:=KF.cell;have DF:=a6.grow R (fun k e=>by have:=Option.some.inj e;omega);have oF:=ho.grow R (fun q hq e=>by have:=Option.some.inj hq;have:=(ho.lt _ e).1;omega);have gF:w.grownBy Wf (some g):=⟨R.os.trans o.os,R.tape.trans o.tape,R.output.trans o.output,Nat.le_trans o.size R.size,fun b hb hr=>(R.block b (by omega) (fun e=>by have:=Option.some.inj e;omega)).trans (o.block b hb hr)⟩;clear S;exact bodyPost_ret (v:=.agg #[.int .i64 n,.slice z i A]) (by simp[results,Tryz.results292,go_sem,GF]) rfl ⟨n,z,i,A,L,rfl,hn,oF.mono (by omega),HA.out,by omega,DF,gF⟩
end
section
open Go.RowKit Go.G5
theorem rE{w w' w'':World}{g:Nat}{row:Option Nat}(h:w.grownBy w' (some g))(k:w'.grownBy w'' row)(hr:∀b,row=some b->b=g∨w.heap.size<=b):w.grownBy w'' (some g):=
 ⟨k.os.trans h.os,k.tape.trans h.tape,k.output.trans h.output,Nat.le_trans h.size k.size,fun b hb o=>(k.block b (Nat.lt_of_lt_of_le hb h.size) (fun e=>by
  rcases hr b e.symm with h1|h1
  ·exact o (by rw[h1])
  ·omega)).trans (h.block b hb o)⟩
theorem aC.lit5{E:TypeId}(w:World)(a b c d e:Int)(h:∀x∈[a,b,c,d,e],bA x):aC E w.heap.size (w.alloc (.cells #[.int .i64 a,.int .i64 b,.int .i64 c,.int .i64 d,.int .i64 e] E)) (.slice (some ⟨w.heap.size,0,none⟩) 5 5) [a,b,c,d,e]:=
 ⟨World.ownsRow_lit w #[.int .i64 a,.int .i64 b,.int .i64 c,.int .i64 d,.int .i64 e] 5 (Nat.le_refl _) (by decide) rfl,h⟩
theorem uR{w z Wf:World}{g B:Nat}{n:Int}{A:Option Addr}{i F:Nat}{l:List Int}(O:g<w.heap.size)(K:aB z w.heap.size 27 #[.int .i64 0,.slice none 0 0])(D:Dr z g)(o:aC 3 B z (.slice A i F) l)(N:w.heap.size<B)(h:w.grownBy z (some g))
  (I:Wf=(z.setCell ⟨w.heap.size,0,none⟩ (.int .i64 n)).setCell ⟨w.heap.size,1,none⟩ (.slice A i F)):aB Wf w.heap.size 27 #[.int .i64 n,.slice A i F]/\Dr Wf g/\aC 3 w.heap.size Wf (.slice A i F) l/\w.grownBy Wf (some g):=by
 have L:z.grownBy Wf (some w.heap.size):=by rw[I];exact aA (aA (World.grownBy.refl _ _) 0 _) 1 _
 refine⟨?_,D.grow L (fun k e=>by have:=Option.some.inj e;omega),(o.grow L (fun q M e=>by have:=Option.some.inj M;have:=(o.lt _ e).1;omega)).mono (by omega),rE h L (fun b e=>.inr (by have:=Option.some.inj e;omega))⟩;rw[I];have:=(K.set 0 (.int .i64 n)).set 1 (.slice A i F);simpa using this
theorem DT{w:World}{B b:Nat}{v:Value}{l:List Int}{cs:Array Value}(h:aC 3 B w v l)(K:aB w b 27 cs):v.ownBlock≠some b:=by
 intro e;obtain⟨⟨_,h1⟩,_⟩:=h
 rcases h1 with⟨rfl,_⟩|⟨q,cap,A,rfl,_,D,_⟩
 ·simp[Value.ownBlock]at e
 ·have o:q=b:=by simpa[Value.ownBlock]using e
  subst o;have z:w.heap[q]?=some (.cells cs 27 (0,0)):=K;rw[D]at z;simp at z
theorem uF(w:World)(g:Nat)(D:Dr w g):
  Calls Tryz.prog 181 #[.pointer (some ⟨g,0,none⟩)] w fun e w'=>∃(n:Int) (I:Option Addr) (i K:Nat) (l:List Int),e=.returned (.agg #[.int .i64 n,.slice I i K])/\bA n/\aC 3 w.heap.size w' (.slice I i K) l/\l.length<=8/\Dr w' g/\w.grownBy w' (some g):=by
 have zg:=D.lt;go_enter Tryz.func181,Tryz.ntmps181;go_wp2_with fail;refine aH ?_;intro V hV;have B:Below w.heap.size w V:=by rw[hV];exact aM _ _
 have o:aB V w.heap.size 27 #[.int .i64 0,.slice none 0 0]:=by rw[hV];exact aB.new _ _ _
 have D0:=D.keep B;have g0:w.grownBy V (some g):=dI _ B;have y0:=o.lt;clear hV B;refine(ME V g D0).mono ?_;rintro e R ⟨n,I,i,K,l,rfl,hn,o1,_,hl,D1,g1⟩;have o:=o.grow g1 (by simp;omega);have yV:=g1.size;have g1:=cN g0 g1;have x1:=o.lt;have y1:=g1.size;go_wp2_with fail;refine aH ?_;intro V1 a9;have Q:aB V1 R.heap.size 27 #[.int .i64 n,.slice I i K]:=by
  rw[a9]
  first
   |exact aB.new _ _ _
   |(have:=((aB.new R 27 #[.int .i64 0,.slice none 0 0]).set 0 (.int .i64 n)).set 1 (.slice I i K);simpa using this)
 have g2:R.grownBy V1 (some R.heap.size):=by
  rw[a9]
  first
   |exact dI _ (aM _ _)
   |exact aA (aA (dI _ (aM _ _)) 0 _) 1 _
 have o:=o.grow g2 (by simp;omega);have D2:=D1.grow g2 (fun k e=>by have:=Option.some.inj e;omega);have o2:=o1.grow g2 (fun q O e=>by have:=Option.some.inj O;have:=(o1.lt _ e).2;omega);have g2:=rE g1 g2 (fun b e=>.inr (by have:=Option.some.inj e;omega));have b1:=o1.lt;clear a9 o1 D1 g1 g0 D0;refine(aU V1 g D2 14).mono ?_;rintro e F ⟨x,rfl,_,hx,_,D3,g3⟩;have hx:=hx (by omega);have o:=o.grow g3 (by simp;omega);have Q:=Q.grow g3 (by simp;omega);have o3:=o2.grow g3 (fun q O e=>by have:=Option.some.inj O;have:=(o2.lt _ e).1;omega);have g3:=cN g2 g3;have x3:=Q.lt;have G3:=Q.cell;have F3:=Q.frozen;clear D2 o2 g2
 by_cases e4:x=0
 ·subst e4
  go_wp2_with fail;refine aH ?_;intro V4 b0;have b4:Below F.heap.size F V4:=by rw[b0];exact aM _ _
  have o4:aC 3 F.heap.size V4 (.slice (some ⟨F.heap.size,0,none⟩) 5 5) [-1,7,6,0,9223372036854775807]:=by rw[b0];exact aC.lit5 F _ _ _ _ _ (by simp[bA])
  clear b0;refine(fM V4 g (D3.keep b4) F.heap.size (by omega) _ _ o4 (by simp)).mono ?_;rintro e w5 ⟨y,rfl,hy,D5,L⟩;have g9:bA y:=by
   have:∀z∈[(-1:Int),7,6,0,9223372036854775807],bA z:=by simp[bA]
   exact this y hy
  have o:=(o.keep b4).grow L (by simp;omega);have Q:=(Q.keep b4).grow L (by simp;omega);have o5:=(o3.keep b4).grow L (fun q O e=>by have:=Option.some.inj O;have:=(o3.lt _ e).1;omega);have L:=cN (cN g3 (dI _ b4)) L;clear G3 F3;have G3:=Q.cell;have F3:=Q.frozen;have G2:=o.cell;have F2:=o.frozen;go_wp2;refine aI ?_;intro Wf A;have gs:=gG w5 ⟨R.heap.size,0,none⟩ (.int .i64 y);obtain⟨KF,DF,oF,gF⟩:=uR zg (o.far (p:=⟨R.heap.size,0,none⟩) (by simp;omega) (.int .i64 y)) (D5.setCell (.int .i64 y) (by omega)) (o5.grow gs (fun q O e=>by have:=Option.some.inj O;simp at this;have:=b1 q e;omega)) (by omega) (rE L gs (fun b e=>.inr (by have:=Option.some.inj e;simp at this;omega))) A;have GF:=KF.cell;clear A;exact bodyPost_ret (v:=.agg #[.int .i64 y,.slice I i K]) (by simp[results,Tryz.results181,go_sem,GF]) rfl ⟨y,I,i,K,l,rfl,g9,oF,by omega,DF,gF⟩
 ·by_cases g7:x=1
  ·subst g7
   have f0:Dr F.drew g:=D3.keep (Below.refl _ _).drew;have N:=fM (F.drew.alloc (.cells #[.int .i64 0,.int .i64 3,.int .i64 63,.int .i64 64,.int .i64 (-1)] 3)) g (f0.keep (aM _ _)) F.drew.heap.size (by show g<F.heap.size;omega) _ _ (aC.lit5 F.drew 0 3 63 64 (-1) (by simp[bA])) (by simp);have f3:=Lib.hid N;have c6:aB (F.drew.alloc (.cells #[.int .i64 0,.int .i64 3,.int .i64 63,.int .i64 64,.int .i64 (-1)] 3)) R.heap.size 27 #[.int .i64 n,.slice I i K]:=aB.alloc (w:=F.drew) Q _;have f5:aB (F.drew.alloc (.cells #[.int .i64 0,.int .i64 3,.int .i64 63,.int .i64 64,.int .i64 (-1)] 3)) w.heap.size 27 #[.int .i64 0,.slice none 0 0]:=aB.alloc (w:=F.drew) o _;have Z:aC 3 V.heap.size (F.drew.alloc (.cells #[.int .i64 0,.int .i64 3,.int .i64 63,.int .i64 64,.int .i64 (-1)] 3)) (.slice I i K) l:=(o3.keep (Below.refl _ _).drew).alloc _;have j9:=c6.cell;have f8:w.grownBy (F.drew.alloc (.cells #[.int .i64 0,.int .i64 3,.int .i64 63,.int .i64 64,.int .i64 (-1)] 3)) (some g):=cN (cN g3 (dI _ (Below.refl _ _).drew)) (dI _ (aM _ _));have e0:∀z∈[(0:Int),3,63,64,-1],bA z:=by simp[bA]
   clear N;go_wp2_with fail;go_region_law
    (first
     |(go_simp;go_at_call 293;refine f3.out.mono ?_;rintro e w5 ⟨y,rfl,hy,D5,L⟩;have S:=c6.grow L (by simp;omega);have j6:=S.cell;have j4:=S.frozen;have f4:=f5.grow L (by simp;omega);have o5:=Z.grow L (fun q O e=>by have:=Option.some.inj O;have:=b1 q e;omega);have f9:=cN f8 L;have c5:=S.alloc (.cells #[.int .i64 y] 3);have j7:=c5.cell)
     |(refine lM rfl _ _ _ rfl 3 Tryz.underlying22 aG V.heap.size _ _ y w5.heap.size rfl rfl (aT w5 #[.int .i64 y] 3 0 _ rfl) (o5.alloc (.cells #[.int .i64 y] 3)) (e0 y hy) (by omega) (by have:=S.lt;simp;omega) ?_;intro v' w6 M Y;obtain⟨av,nv,cv,rfl⟩:=M.shape3;have U:=c5.grow Y (fun e=>by have:=b1 _ e;omega);have j8:=U.cell;have j5:=U.frozen))
   all_goals
    have D6:=(D5.keep (aM w5 (.cells #[.int .i64 y] 3))).grow Y (fun k e=>by have:=(Z.lt k e).1;omega);have a6:=(f4.alloc (.cells #[.int .i64 y] 3)).grow Y (fun e=>by have:=(Z.lt _ e).1;omega);have g6:=rE (cN f9 (dI _ (aM w5 (.cells #[.int .i64 y] 3)))) Y (fun b e=>.inr (by have:=(Z.lt b e).1;omega));have G2:=a6.cell;have F2:=a6.frozen;have k3:=U.lt;have e6:(Value.slice av nv cv).ownBlock≠some R.heap.size:=DT M U;go_wp2;refine aI ?_;intro Wf A;have gs:=gG w6 ⟨R.heap.size,1,none⟩ (.slice av nv cv);obtain⟨KF,DF,oF,gF⟩:=uR zg (a6.far (p:=⟨R.heap.size,1,none⟩) (by simp;omega) (.slice av nv cv)) (D6.setCell (.slice av nv cv) (by omega)) (M.grow gs (fun q O e=>by have:=Option.some.inj O;simp at this;exact e6 (by rw[e,this]))) (by omega) (rE g6 gs (fun b e=>.inr (by have:=Option.some.inj e;simp at this;omega))) A;have GF:=KF.cell;clear A;exact bodyPost_ret (v:=.agg #[.int .i64 n,.slice av nv cv]) (by simp[results,Tryz.results181,go_sem,GF]) rfl ⟨n,av,nv,cv,l++[y],rfl,hn,oF,by simp;omega,DF,gF⟩
  ·have j2:¬x=0:=e4
   have G2:=o.cell;have F2:=o.frozen;go_wp2;refine aI ?_;intro Wf A;obtain⟨KF,DF,oF,gF⟩:=uR zg o D3 o3 (by omega) g3 A;have GF:=KF.cell;clear A;exact bodyPost_ret (v:=.agg #[.int .i64 n,.slice I i K]) (by simp[results,Tryz.results181,go_sem,GF]) rfl ⟨n,I,i,K,l,rfl,hn,oF,by omega,DF,gF⟩
end
end Go.Proofs.YtipejodijbjpcaaGreatDoor
section
namespace Go.G5
open Go Go.RowKit
section
variable {wr w2:World} {g:Nat}
theorem aC.cur0{E:TypeId}{B:Nat}{v:Value}{l:List Int}(o:aC E B wr v l)(D:g<B)(z:wr.grownBy w2 (some g)):aC E B w2 v l:=
 o.grow z (fun q A e=>by have:=Option.some.inj A;have:=(o.lt _ e).1;omega)
theorem aB.cur0{t:TypeId}{b:Nat}{cs:Array Value}(K:aB wr b t cs)(hb:g<b)(o:wr.grownBy w2 (some g)):aB w2 b t cs:=
 K.grow o (fun e=>by have:=Option.some.inj e;omega)
theorem aB.own{E t:TypeId}{B b:Nat}{v:Value}{l:List Int}{cs:Array Value}(K:aB wr b t cs)(o:aC E B wr v l)(A:b<B)(z:wr.grownBy w2 v.ownBlock):aB w2 b t cs:=
 K.grow z (fun e=>by have:=(o.lt _ e).1;omega)
end
end Go.G5
namespace Go.Proofs.YtipejodijbjpcaaGreatDoor
open Go.RowKit Go.G5
structure Cur (w wr:World) (g:Nat):Prop where
 D:Dr wr g
 gr:w.grownBy wr (some g)
 zg:g<w.heap.size
section
variable {w wr w2:World} {g:Nat}
theorem Cur.start(D:Dr w g):Cur w w g:=⟨D,World.grownBy.refl _ _,D.lt⟩
theorem Cur.size(h:Cur w wr g):w.heap.size<=wr.heap.size:=h.gr.size
theorem Cur.next(h:Cur w wr g)(D:Dr w2 g)(o:wr.grownBy w2 (some g)):Cur w w2 g:=⟨D,cN h.gr o,h.zg⟩
theorem Cur.keep(h:Cur w wr g)(b:Below wr.heap.size wr w2):Cur w w2 g:=⟨h.D.keep b,cN h.gr (dI _ b),h.zg⟩
theorem Cur.alloc(h:Cur w wr g)(o:Obj):Cur w (wr.alloc o) g:=h.keep (aM _ _)
theorem Cur.row{r:Option Nat}(h:Cur w wr g)(o:wr.grownBy w2 r)(hr:∀b,r=some b->w.heap.size<=b):Cur w w2 g:=
 ⟨h.D.grow o (fun k e=>by have:=hr k e;have:=h.zg;omega),rE h.gr o (fun b e=>.inr (hr b e)),h.zg⟩
end
end Go.Proofs.YtipejodijbjpcaaGreatDoor
end
namespace Go.Proofs.YtipejodijbjpcaaGreatDoor
section
open Go.RowKit Go.G5
theorem xY(w:World)(g:Nat)(D:Dr w g)(N:Nat)(hN:N<=5):
  Calls Tryz.prog 369 #[.pointer (some ⟨g,0,none⟩),.int .i64 (N:Int)] w fun e w'=>∃(ad:Option Addr) (cp:Nat) (L:List Int),e=.returned (.slice ad (2^N) cp)/\aC 3 w.heap.size w' (.slice ad (2^N) cp) L/\L.length=2^N/\(∀x∈L,-1000<=x/\x<=1000)/\Dr w' g/\w.grownBy w' (some g):=by
 have q3:(2:Nat)^N<=32:=Nat.pow_le_pow_right (n:=2) (by decide) hN;have K:((2^N:Nat):Int)=(2:Int)^N:=by simp
 have tp:=bJ N 5 hN;have q1:(2:Int)^N<=32:=by rw[<-K];omega
 have q2:=tp.2;clear tp;go_enter Tryz.func369,Tryz.ntmps369;go_wp2_with fail;refine aH ?_;intro V hV;have oa:aC 3 w.heap.size V (.slice (some ⟨w.heap.size,0,none⟩) 0 0) []:=by rw[hV];exact(aC.lit0 w (Nat.le_refl _)).alloc _
 have ob:aC 3 w.heap.size V (.slice (some ⟨w.heap.size+1,0,none⟩) 0 0) []:=by rw[hV];exact(aC.lit0' w _)
 have ap:aF (.slice (some ⟨w.heap.size,0,none⟩) 0 0) (.slice (some ⟨w.heap.size+1,0,none⟩) 0 0):=fun k h1 h2=>by
  have e1:w.heap.size=k:=Option.some.inj h1;have e2:w.heap.size+1=k:=Option.some.inj h2;omega
 have C:Cur w V g:=by rw[hV];exact((Cur.start D).alloc _).alloc _
 clear hV;refine(aU V g C.D 5).mono ?_;rintro e w1 ⟨m,rfl,_,hm,_,D1,g1⟩;have hm:=hm (by omega);have oa:=oa.cur0 C.zg g1;have ob:=ob.cur0 C.zg g1;have C:=C.next D1 g1;obtain⟨M,rfl⟩:=Int.eq_ofNat_of_zero_le hm.1;have hM:M<=4:=by omega
 clear g1 D1 hm;go_wp2_with fail;go_loopw [5,6,7] (fun a s k wr=>∃(a1:Option Addr) (n1 c1:Nat) (a2:Option Addr) (n2 c2:Nat) (A S:List Int) (j:Nat),a=.slice a1 n1 c1/\s=.slice a2 n2 c2/\k=.int .i64 j/\j+A.length<=4/\S.length=A.length/\(∀x∈A,0<=x/\x<=4)/\aC 3 w.heap.size wr (.slice a1 n1 c1) A/\aC 3 w.heap.size wr (.slice a2 n2 c2) S/\aF (.slice a1 n1 c1) (.slice a2 n2 c2)/\Cur w wr g) (fun _ _ k _=>(intOf k).toNat)
 case atStart=>exact⟨_,_,_,_,_,_,[],[],M,rfl,rfl,rfl,by simpa using hM,rfl,by simp,oa,ob,ap,C⟩
 case round=>
  obtain⟨a1,n1,c1,a2,n2,c2,A,S,j,rfl,rfl,rfl,p9,R,hA,I,O,a8,Y⟩:=hrel;clear oa ob ap C
  by_cases h0:0<j
  ·have h1:(0:Int)<(j:Int):=by omega
   have j4:IntKind.i64.wrap ((2:Int)^N)=(2:Int)^N:=by rw[IntKind.wrap_i64];omega
   have o:=Lib.hid (And.intro R (And.intro hA K));clear R hA K;go_wp2_with fail;refine(aU wr g Y.D 3).mono ?_;rintro e w3 ⟨x,rfl,_,hx,_,D3,g3⟩;have hx:=hx (by omega);have b1:=I.cur0 Y.zg g3;have b4:=O.cur0 Y.zg g3;have C3:=Y.next D3 g3;have q4:=hx.1;have q6:=hx.2;have z3:=C3.size;clear Y I O D3 g3 hx;go_wp2_with (at_builtin;refine bB rfl _ _ _ rfl 3 Tryz.underlying22 aG w.heap.size (.slice a1 n1 c1) A (1+x) _ rfl rfl (aT _ _ _ _ _ rfl) (b1.alloc _) ⟨by omega,by omega⟩ (by omega) (by simp;omega) ?_;intro v5 w5 o5 g5 h5;obtain⟨p5,i5,q5,rfl⟩:=o5.shape3;have f3:=(b4.alloc (.cells #[.int .i64 (1+x)] 3)).growA g5 a8;have c7:=h5.apart a8 (fun q U=>(((b4.alloc (.cells #[.int .i64 (1+x)] 3))).lt q U).2);have C5:=(C3.alloc (.cells #[.int .i64 (1+x)] 3)).row g5 (fun q U=>(b1.lt q U).1));refine(aU w5 g C5.D _).mono ?_;rintro e w6 ⟨y,rfl,j7,_,_,D6,g6⟩;have b3:=o5.cur0 C5.zg g6;have f4:=f3.cur0 C5.zg g6;have C6:=C5.next D6 g6;have z6:=C6.size;clear C5 o5 f3 D6 g6 C3 b1 b4;have n0:=Lib.hid b3;have o9:S.length<=4:=by have:=o.out.1;omega
   go_wp2_with (at_builtin;refine bB rfl _ _ _ rfl 3 Tryz.underlying22 aG w.heap.size (.slice a2 n2 c2) S y _ rfl rfl (aT _ _ _ _ _ rfl) (f4.alloc _) j7 (by omega) (by simp;omega) ?_;intro v7 w7 o7 g7 h7;obtain⟨p7,i7,q7,rfl⟩:=o7.shape3;have j8:=(b3.alloc (.cells #[.int .i64 y] 3)).growA g7 c7.symm;have h9:=(h7.apart c7.symm (fun q U=>(((b3.alloc (.cells #[.int .i64 y] 3))).lt q U).2)).symm;have C7:=(C6.alloc (.cells #[.int .i64 y] 3)).row g7 (fun q U=>(f4.lt q U).1));go_roundw
   case rel=>
    refine⟨p5,i5,q5,p7,i7,q7,A++[1+x],S++[y],j-1,rfl,rfl,by go_num,by simp;omega,by simp;exact o.out.1,fun z F=>?_,j8,o7,h9,C7⟩
    rcases List.mem_append.1 F with F|F
    ·exact o.out.2.1 z F
    ·rw[List.mem_singleton.1 F];omega
   case measure=>simp[intOf];omega
  ·have h1:¬(0:Int)<(j:Int):=by omega
   have j4:IntKind.i64.wrap ((2:Int)^N)=(2:Int)^N:=by rw[IntKind.wrap_i64];omega
   have q0:=I.shape3;obtain⟨o1,o3,j2⟩:=I.ints.shape
   injection j2 with e1 e2 e3
   subst e1 e2 e3;obtain⟨o2,o4,j3⟩:=O.ints.shape
   injection j3 with e1 e2 e3
   subst e1 e2 e3;obtain⟨Z,i8⟩:∃Z:World,Z=wr:=⟨_,rfl⟩;subst i8;obtain⟨xa,ba,m4,ya,j5,_,f0,ca,c8⟩:=I.ints.view Tryz.prog 22 3 Tryz.underlying22 aG;obtain⟨xs,bs,m5,ys,j6,_,f2,cs,c9⟩:=O.ints.view Tryz.prog 22 3 Tryz.underlying22 aG
   injection j5 with e1 _ e3
   subst e1 e3
   injection j6 with e1 _ e3
   subst e1 e3;have o0:=aC.lit0 (E:=3) (B:=Z.heap.size) Z (Nat.le_refl _);have zW:=Y.size;have HC:=Lib.hid Y;have HX:=Lib.hid (And.intro f0 f2);have Q:=Lib.hid (And.intro (And.intro ca c8) (And.intro cs c9));have o:=Lib.hid (And.intro R (And.intro hA K));clear Y f0 f2 ca cs c8 c9 R hA I O a8 K;go_wp2_with fail;go_loopw [8,9] (fun v i wr=>∃(s:Nat) (ad:Option Addr) (nn cp:Nat) (L:List Int),s<=2^N/\v=.slice ad nn cp/\i=.int .i64 s/\L.length=s/\(∀x∈L,-1000<=x/\x<=1000)/\aC 3 Z.heap.size wr (.slice ad nn cp) L/\Below Z.heap.size Z wr) (fun _ i _=>2^N-(intOf i).toNat)
   case atStart=>exact⟨0,_,_,_,[],Nat.zero_le _,rfl,rfl,rfl,by simp,o0,aM _ _⟩
   case round=>
    obtain⟨s,ad,nn,cp,L,hs,rfl,rfl,d0,hL,ho,Bw⟩:=hrel;clear o0;obtain⟨WC,j0⟩:∃WC:World,WC=wr:=⟨_,rfl⟩;subst j0;have HL:=Lib.hid (And.intro d0 hL);have HO:=Lib.hid ho;have l7:L.length<=32:=by omega
    clear d0 hL ho
    by_cases hlt:s<2^N
    ·have e6:(s:Int)<(2:Int)^N:=by rw[<-o.out.2.2];exact_mod_cast hlt
     have e0:=aK Q.out.1.1 Q.out.1.2 Bw (Nat.le_refl _);have e4:=aK Q.out.2.1 Q.out.2.2 Bw (Nat.le_refl _);have h8:=Lib.hid e0;have b9:=Lib.hid e4;clear e0 e4;go_wp2_with fail;go_loop [10,11] (fun x i=>∃(k:Nat) (X:Int),k<=A.length/\i=.int .i64 k/\x=.int .i64 X/\0<=X/\X<=4*k) (fun _ i=>A.length-(intOf i).toNat)
     case atStart=>exact⟨0,0,Nat.zero_le _,rfl,rfl,by omega,by omega⟩
     case round=>
      obtain⟨k,X,hk,rfl,rfl,j1,p0⟩:=hrel
      by_cases b0:k<A.length
      ·have e5:k<S.length:=by have:=o.out.1;omega
       have i1:=h8.out k b0;have i6:=b9.out k e5;have ia:=fun W=>HX.out.1 W k b0;have is:=fun W=>HX.out.2 W k e5;have hb:=o.out.2.1 _ (List.getElem_mem b0);obtain⟨y,hy⟩:∃y,y=A[k]:=⟨_,rfl⟩;obtain⟨z,F⟩:∃y,y=S[k]:=⟨_,rfl⟩;rw[<-hy]at i1 hb;rw[<-F]at i6;have p6:=hb.1;have p8:=hb.2;clear hy F hb;obtain⟨t,ht⟩:∃t,(bits .and .i64 z (s:Int) != 0)=t:=⟨_,rfl⟩
       cases t with
       |false=>
        go_wp2;go_round
        case rel=>exact⟨k+1,X,by omega,by go_num,rfl,j1,by omega⟩
        case measure=>simp[intOf];omega
       |true=>
        go_wp2;go_round
        case rel=>exact⟨k+1,X+y,by omega,by go_num,rfl,by omega,by omega⟩
        case measure=>simp[intOf];omega
      ·have l9:¬(k:Int)<(A.length:Int):=by omega
       have p1:X<=1000:=by omega
       have zC:=Bw.size;go_wp2_with (at_builtin;refine bB rfl _ _ _ rfl 3 Tryz.underlying22 aG Z.heap.size _ L X _ rfl rfl (aT _ _ _ _ _ rfl) (HO.out.alloc _) ⟨by omega,by omega⟩ (by omega) (by simp;omega) ?_;intro v5 w5 o5 g5 h5;obtain⟨p5,i5,q5,rfl⟩:=o5.shape3);have B5:=(Bw.alloc zC (.cells #[.int .i64 X] 3)).grown g5 (by simp;omega) (fun q U=>(HO.out.lt q U).1);go_roundw
       case rel=>
        refine⟨s+1,p5,i5,q5,L++[X],by omega,rfl,by go_num,by simp;exact HL.out.1,fun z F=>?_,o5,B5⟩
        rcases List.mem_append.1 F with F|F
        ·exact HL.out.2 z F
        ·rw[List.mem_singleton.1 F];omega
       case measure=>simp[intOf];omega
    ·have e6:¬(s:Int)<(2:Int)^N:=by rw[<-o.out.2.2];exact_mod_cast hlt
     have e8:s=2^N:=by omega
     have e7:nn=2^N:=by rw[HO.out.ints.capLe.1,HL.out.1];exact e8
     have a6:=Lib.hid e7;clear e7 e8;go_wp2;go_ret;refine⟨ad,cp,by rw[<-a6.out];rfl,L,?_,by rw[HL.out.1,<-a6.out,HO.out.ints.capLe.1,HL.out.1],HL.out.2,(HC.out.keep Bw).D,(HC.out.keep Bw).gr⟩;rw[<-a6.out];exact HO.out.mono zW
end
end Go.Proofs.YtipejodijbjpcaaGreatDoor
