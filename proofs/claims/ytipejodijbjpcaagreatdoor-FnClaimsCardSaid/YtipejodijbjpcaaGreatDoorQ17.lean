/- Lemmas for CardClaims, part 17 of 52. No condition. -/
import Derived.Test.YtipejodijbjpcaaGreatDoorQ02
import Derived.Test.YtipejodijbjpcaaGreatDoorQ03
import Derived.Test.YtipejodijbjpcaaGreatDoorQ05
import Derived.Test.YtipejodijbjpcaaGreatDoorQ10
import Derived.Test.YtipejodijbjpcaaGreatDoorQ15
import Derived.Test.YtipejodijbjpcaaGreatDoorQ16
import Derived.Shelf.Abstract
set_option maxRecDepth 100000
set_option maxHeartbeats 64000000
namespace Go.Proofs.YtipejodijbjpcaaGreatDoor
section
open Go.RowKit Go.G5
end
section
open Go.RowKit Go.G5
theorem OI(w : World)(N : Nat)(hN : N <= 5)(v : Value)(l : List Int)(hv : aD w v l) :
    Calls Tryz.prog 366 #[v, .int .i64 (N : Int)] w fun e w' => ∃ b : Bool, e = .returned (.bool b) /\ (b = true -> l.length = N /\ ∀ x ∈ l, 0 <= x /\ x < (N : Int)) /\ w = w' := by
  obtain ⟨a, b, off, c, rfl, hlen, hix, hc, hb⟩ := hv.view Tryz.prog 22 3 Tryz.underlying22 aG
  go_enter Tryz.func366, Tryz.ntmps366
  go_wp2_with fail
  go_loop [5, 6] (fun s i => ∃ (k S : Nat), k <= l.length /\ i = .int .i64 k /\ s = .int .i64 S /\ S < 2 ^ N /\ (∀ j (h : j < l.length), j < k -> 0 <= l[j] /\ l[j] < (N : Int))) (fun _ i => l.length - (intOf i).toNat)
  case atStart => exact ⟨0, 0, Nat.zero_le _, rfl, rfl, Nat.two_pow_pos N, fun j h hj => by omega⟩
  case round =>
    obtain ⟨k, S, hk, rfl, rfl, hS, hall⟩ := hrel
    have HA := Lib.hid hall
    have hS32 : S < 32 := by have : (2 : Nat) ^ N <= 32 := Nat.pow_le_pow_right (n := 2) (by decide) hN
                             omega
    clear hall
    by_cases hlt : k < l.length
    · have hlt2 : (k : Int) < (l.length : Int) := by omega
      have ck := hc k hlt
      have ik := fun W => hix W k hlt
      have hin := fun W => aR l[k] 0 ((N : Int) - 1) W
      have hR := hv.inR _ (List.getElem_mem hlt)
      have hw1 : IntKind.i64.wrap ((N : Int) - 1) = (N : Int) - 1 := by rw [IntKind.wrap_i64]; omega
      cases hib : cM l[k] 0 ((N : Int) - 1) with
      | false =>
        rw [hib] at hin
        have HIN := Lib.hid hin
        obtain ⟨x, hx⟩ : ∃ x, x = l[k] := ⟨_, rfl⟩
        rw [<- hx] at ck HIN
        clear hib hin hx hc hix hR
        go_wp2_with fail
        refine (HIN.out _).mono ?_
        rintro e w' ⟨rfl, rfl⟩
        go_wp2
        go_ret
        exact ⟨false, rfl, by simp, rfl⟩
      | true =>
        have hx2 := bL.1 hib
        obtain ⟨e, he⟩ : ∃ e : Nat, l[k] = (e : Int) := ⟨l[k].toNat, by omega⟩
        rw [hib, he] at hin
        rw [he] at ck hx2
        have heN : e < N := by omega
        have hstep : ∀ j (h : j < l.length), j < k + 1 -> 0 <= l[j] /\ l[j] < (N : Int) := fun j h hj => by
          by_cases hjk : j < k
          · exact HA.out j h hjk
          · have : j = k := by omega
            subst this
            rw [he]; omega
        have HST := Lib.hid hstep
        have HIN := Lib.hid hin
        have hor := eK S e (by omega) (by omega)
        have hsl := eE S e N hS heN
        have hp64 := bJ e 6 (by omega)
        have hp1 : (2 : Int) ^ e <= 64 := by simpa using hp64.1
        have hp2 := hp64.2
        have hbit := dY (S : Int) e (by omega) (by omega)
        obtain ⟨q, hq⟩ : ∃ q, q = aP S e := ⟨_, rfl⟩
        rw [<- hq] at hor hsl
        obtain ⟨t, ht⟩ : ∃ t, (bR (S : Int) e == 1) = t := ⟨_, rfl⟩
        clear hib hin he hstep hc hix hR hp64 hq
        cases t with
        | true =>
          go_wp2_with fail
          refine (HIN.out _).mono ?_
          rintro e w' ⟨rfl, rfl⟩
          go_wp2
          go_ret
          exact ⟨false, rfl, by simp, rfl⟩
        | false =>
          go_wp2_with fail
          refine (HIN.out _).mono ?_
          rintro e w' ⟨rfl, rfl⟩
          go_wp2
          go_round
          case rel => exact ⟨k + 1, q, by omega, by go_num, rfl, hsl, HST.out⟩
          case measure => simp [intOf]; omega
    · have hkl : k = l.length := by omega
      have hlt2 : ¬ (k : Int) < (l.length : Int) := by omega
      by_cases hln : l.length = N
      · have ht : ((l.length : Int) == (N : Int)) = true := by simp [hln]
        have hend : ∀ x ∈ l, 0 <= x /\ x < (N : Int) := fun x hx => by
          obtain ⟨j, hj, rfl⟩ := List.getElem_of_mem hx
          exact HA.out j hj (by omega)
        have HE := Lib.hid (And.intro hln hend)
        clear hend hkl hln
        go_wp2
        go_ret
        first | exact .inr ⟨by rw [ht]; rfl, HE.out, rfl⟩ | exact .inr ⟨rfl, HE.out, rfl⟩
      · have ht : ((l.length : Int) == (N : Int)) = false := by simp; omega
        clear hkl hln
        go_wp2
        go_ret
        first | exact .inl ⟨rfl, rfl⟩ | exact .inl ⟨by rw [ht]; rfl, rfl⟩
theorem FB(w:World)(n:Int)(v u:Value)(l o:List Int)(U:aD w v l)(S:aD w u o):
  Calls Tryz.prog 326 #[.agg #[.int .i64 n,v],u] w fun e w'=>∃(b:Bool) (ad:Option Addr) (i c:Nat) (X:List Int),e=.returned (.tuple #[.slice ad i c,.bool b])/\aC 3 w.heap.size w' (.slice ad i c) X/\X.length<=5/\Below w.heap.size w w':=by
 obtain⟨a,c,rfl⟩:=U.shape;obtain⟨au,cu,rfl⟩:=S.shape;have Z:=aB.new w 32 #[.int .i64 n,.slice a l.length c];go_enter Tryz.func326,Tryz.ntmps326;go_wp2_with fail;refine(kJ n l _ _ (U.alloc _)).mono ?_;rintro e M ⟨rfl,D⟩;have K1:=Z.keep D;have z:Below w.heap.size w M:=(aM _ _).after D (by simp);have I:=(aC.lit0 (E:=3) (B:=M.heap.size) M (Nat.le_refl _)).mono (B':=w.heap.size) z.size;clear D Z
 cases hg:bP n l with
 |false=>
  go_wp2;go_ret2
  first|exact⟨false,_,_,_,[],rfl,I,by simp,z.after (aM _ _) z.size⟩|exact⟨_,_,_,rfl,[],I,by simp,z.after (aM _ _) z.size⟩|exact⟨_,_,_,[],rfl,I,by simp,z.after (aM _ _) z.size⟩
 |true=>
  obtain⟨N,rfl,A,K,a7,L⟩:=bN (jD hg);have O:=Lib.hid K;have Q:=Lib.hid L;have G1:=K1.cell;clear K L hg;go_wp2_with fail;refine(OI M N A _ o (S.below z (Nat.le_refl _))).mono ?_;rintro e w2 ⟨b,rfl,hb,rfl⟩
  cases b with
  |false=>
   clear hb;go_wp2;go_ret2
   first|exact⟨false,_,_,_,[],rfl,I,by simp,z.after (aM _ _) z.size⟩|exact⟨_,_,_,rfl,[],I,by simp,z.after (aM _ _) z.size⟩|exact⟨_,_,_,[],rfl,I,by simp,z.after (aM _ _) z.size⟩
  |true=>
   obtain⟨h1,h2⟩:=hb rfl;clear hb;subst h1;have HC:=Lib.hid (vZ l o _ _ M (U.below z (Nat.le_refl _)) (S.below z (Nat.le_refl _)) A O.out Q.out h2);have F:(dS l o).length<=5:=by unfold dS;rw[fY];exact A
   clear h2 I;go_wp2_with fail;refine HC.out.mono ?_;rintro e w3 ⟨p3,i3,q3,rfl,Y,R⟩;go_wp2;go_ret2
   first|exact⟨true,_,_,_,_,rfl,Y.mono z.size,F,z.after R z.size⟩|exact⟨_,_,_,rfl,_,Y.mono z.size,F,z.after R z.size⟩|exact⟨_,_,_,_,rfl,Y.mono z.size,F,z.after R z.size⟩
end
end Go.Proofs.YtipejodijbjpcaaGreatDoor
section
namespace Go.G5
open Go Go.RowKit
structure FunElem (P:Program) (E:TypeId):Prop where
 info:(P.info? E).map (fun i=>(i.zero,i.size,i.bytes))=some (some (.agg #[.int .i64 0,.slice none 0 0]),2,32)
theorem FunElem.get{P:Program}{E:TypeId}(h:FunElem P E):∃i,P.info? E=some i/\i.zero=some (.agg #[.int .i64 0,.slice none 0 0])/\i.size=2/\i.bytes=32:=by
 have h:=h.info
 cases o:P.info? E with
 |none=>rw[o]at h;simp at h
 |some i=>rw[o]at h;simp at h;exact⟨i,rfl,h.1,h.2.1,h.2.2⟩
def lS(E:TypeId)(B:Nat)(w:World)(v:Value)(n:Nat):Prop:=∃o,w.ownsRow B E 2 v n o/\∀u∈o,u.oneCell'=true
theorem lS.nil(E:TypeId)(B:Nat)(w:World):lS E B w (.slice none 0 0) 0:=⟨[],World.ownsRow_nil _ _ _ _,by simp⟩
theorem lS.lit0{E:TypeId}{B:Nat}(w:World)(o:B<=w.heap.size):lS E B (w.alloc (.cells #[] E)) (.slice (some ⟨w.heap.size,0,none⟩) 0 0) 0:=
 ⟨[],World.ownsRow_lit w #[] 0 o (Nat.zero_le _) rfl,by simp⟩
theorem lS.keep{E:TypeId}{B:Nat}{w w':World}{v:Value}{n:Nat}(h:lS E B w v n)(hb:Below w.heap.size w w'):lS E B w' v n:=by
 obtain⟨F,⟨D,h1⟩,h2⟩:=h;refine⟨F,⟨D,?_⟩,h2⟩
 rcases h1 with h1|⟨g,cap,o,rfl,z,A,r⟩
 ·exact .inl h1
 ·exact .inr ⟨g,cap,o,rfl,z,by rw[hb.block g (Array.getElem?_eq_some_iff.1 A).1];exact A,r⟩
theorem lS.mono{E:TypeId}{B B':Nat}{w:World}{v:Value}{n:Nat}(h:lS E B w v n)(F:B'<=B):lS E B' w v n:=by
 obtain⟨D,⟨z,h1⟩,h2⟩:=h;refine⟨D,⟨z,?_⟩,h2⟩
 rcases h1 with h1|⟨g,cap,o,rfl,A,r⟩
 ·exact .inl h1
 ·exact .inr ⟨g,cap,o,rfl,by omega,r⟩
theorem lS.lt{E:TypeId}{B:Nat}{w:World}{v:Value}{n:Nat}(h:lS E B w v n):∀k,v.ownBlock=some k->B<=k/\k<w.heap.size:=by
 obtain⟨o,h1,_⟩:=h;exact h1.lt
theorem lS.shape{E:TypeId}{B:Nat}{w:World}{v:Value}{n:Nat}(h:lS E B w v n):∃a c,v=.slice a n c:=by
 obtain⟨A,⟨_,h1⟩,_⟩:=h
 rcases h1 with⟨rfl,z⟩|⟨g,cap,o,rfl,_⟩
 ·exact⟨none,0,by rw[z]⟩
 ·exact⟨_,cap,rfl⟩
theorem lS.grow{E:TypeId}{B:Nat}{w w':World}{row:Option Nat}{v:Value}{n:Nat}(h:lS E B w v n)(z:w.grownBy w' row)(o:∀k,row=some k->v.ownBlock≠some k):lS E B w' v n:=by
 obtain⟨D,h1,h2⟩:=h;refine⟨D,h1.kept z ?_,h2⟩
 cases A:v.ownBlock with
 |none=>exact .inl rfl
 |some k=>right;intro e;exact o k e.symm A
end Go.G5
end
section
namespace Go.G5
open Go Go.RowKit
def gJ(E:TypeId)(m B:Nat)(w:World)(v:Value)(n:Nat):Prop:=∃o:List Int,w.ownsRow B E m v n (o.map (Value.int .i64))/\∀x∈o,0<=x/\x<=63
theorem gJ.lit0{E:TypeId}{m B:Nat}(w:World)(o:B<=w.heap.size):gJ E m B (w.alloc (.cells #[] E)) (.slice (some ⟨w.heap.size,0,none⟩) 0 0) 0:=
 ⟨[],World.ownsRow_lit w #[] 0 o (Nat.zero_le _) (by simp),by simp⟩
theorem gJ.keep{E:TypeId}{m B:Nat}{w w':World}{v:Value}{n:Nat}(h:gJ E m B w v n)(hb:Below w.heap.size w w'):gJ E m B w' v n:=by
 obtain⟨F,⟨D,h1⟩,h2⟩:=h;refine⟨F,⟨D,?_⟩,h2⟩
 rcases h1 with h1|⟨g,cap,o,rfl,z,A,r⟩
 ·exact .inl h1
 ·exact .inr ⟨g,cap,o,rfl,z,by rw[hb.block g (Array.getElem?_eq_some_iff.1 A).1];exact A,r⟩
theorem gJ.alloc{E:TypeId}{m B:Nat}{w:World}{v:Value}{n:Nat}(h:gJ E m B w v n)(o:Obj):gJ E m B (w.alloc o) v n:=h.keep (aM w o)
theorem gJ.lt{E:TypeId}{m B:Nat}{w:World}{v:Value}{n:Nat}(h:gJ E m B w v n):∀k,v.ownBlock=some k->B<=k/\k<w.heap.size:=by
 obtain⟨o,h1,_⟩:=h;exact h1.lt
theorem gJ.shape{E:TypeId}{m B:Nat}{w:World}{v:Value}{n:Nat}(h:gJ E m B w v n):∃a c,v=.slice a n c:=by
 obtain⟨A,⟨_,h1⟩,_⟩:=h
 rcases h1 with⟨rfl,z⟩|⟨g,cap,o,rfl,_⟩
 ·exact⟨none,0,by rw[z]⟩
 ·exact⟨_,cap,rfl⟩
theorem gJ.grow{E:TypeId}{m B:Nat}{w w':World}{row:Option Nat}{v:Value}{n:Nat}(h:gJ E m B w v n)(z:w.grownBy w' row)(o:∀k,row=some k->v.ownBlock≠some k):gJ E m B w' v n:=by
 obtain⟨D,h1,h2⟩:=h;refine⟨D,h1.kept z ?_,h2⟩
 cases A:v.ownBlock with
 |none=>exact .inl rfl
 |some k=>right;intro e;exact o k e.symm A
theorem gJ.at{E:TypeId}{m B:Nat}{w:World}{v:Value}{n:Nat}(h:gJ E m B w v n):(∃c,v=.slice none 0 c/\n=0)∨∃g c,v=.slice (some ⟨g,0,none⟩) n c/\g<w.heap.size/\B<=g/\∃z:Nat->Int,(∀k,k<n*m->w.cell? ⟨g,k,none⟩=some (.int .i64 (z k)))/\∀k,0<=z k/\z k<=63:=by
 obtain⟨o,h1,h2⟩:=h;have O:=h1;obtain⟨K,h1⟩:=h1
 rcases h1 with⟨rfl,F⟩|⟨g,cap,I,rfl,L,N,F,Q,M,ht⟩
 ·subst F;exact .inl ⟨0,rfl,rfl⟩
 ·refine .inr ⟨g,cap,rfl,(Array.getElem?_eq_some_iff.1 N).1,L,fun k=>o.getD k 0,fun k D=>?_,fun k=>?_⟩
  ·have A:k<o.length:=by rw[List.length_map]at K;omega
   have e:o.getD k 0=o[k]:=by rw[List.getD_eq_getElem?_getD,List.getElem?_eq_getElem A];rfl
   rw[World.ownsRow.cellAt O k D,List.getElem?_map,List.getElem?_eq_getElem A];show some (Value.int .i64 o[k])=some (Value.int .i64 (o.getD k 0));rw[e]
  ·show 0<=o.getD k 0/\o.getD k 0<=63
   by_cases D:k<o.length
   ·have e:o.getD k 0=o[k]:=by rw[List.getD_eq_getElem?_getD,List.getElem?_eq_getElem D];rfl
    rw[e];exact h2 _ (List.getElem_mem D)
   ·have e:o.getD k 0=0:=by rw[List.getD_eq_getElem?_getD,List.getElem?_eq_none (by omega)];rfl
    rw[e];omega
theorem sW{P:Program}{w:World}{M:Array Oper}{rest:List Oper}{o:Oper}{a:Act}{Q:Exit->Act->World->Prop}(S:o.guard=none)(s x:Operand)(t:TypeId)
  (ho:o.op=.call { callee:=.builtin .append,args:=#[s,x],argTypes:=#[t,t] })
  (E:TypeId) (hT:P.underlying t=some (.slice E)) (i:TypeInfo) (z:Value) (m A:Nat) (hi:P.info? E=some i) (hz:i.zero=some z) (h1:i.size=m) (h8:i.bytes=A) (a1:z.cells.size=m) (hm:0<m) (R:A<=64) (B:Nat) (v:Value) (n:Nat) (hs:a.eval s=v) (I:gJ E m B w v n)
  (b:Nat) (D:List Int) (Y:D.length=m) (hx:a.eval x=.slice (some ⟨b,0,none⟩) 1 1) (hc:∀(j:Nat) (u:Int),D[j]?=some u->w.cell? ⟨b,j,none⟩=some (.int .i64 u)) (hb:∀u∈D,0<=u/\u<=63) (a6:n<=1000) (hB:B<=w.heap.size)
  (h:∀N w',gJ E m B w' N (n+1)->w.grownBy w' v.ownBlock->wpList P M Q rest (a.put o.dst N) w'):wpList P M Q (o::rest) a w:=by
 refine wpList_plain S fun _ hK=>?_;obtain⟨xs,Z,O⟩:=I;obtain⟨N,w',K,h2,h3,_,_⟩:=run_append_own_at (P:=P) w B t o.type E i z m A hT hi hz h1 h8 a1 hm v n (xs.map (Value.int .i64)) Z ⟨b,0,none⟩ 1 1 (D.map (Value.int .i64)) (by rw[List.length_map,Y];omega)
  (by
   intro j u F;rw[List.getElem?_map]at F
   cases U:D[j]? with
   |none=>rw[U]at F;cases F
   |some y=>
    rw[U]at F
    cases F
    have e:(⟨b,0,none⟩:Addr).add j=⟨b,j,none⟩:=by
     unfold Addr.add;split
     ·rename_i h0;rw[h0]
     ·simp
    rw[e];exact hc j y U)
  (by intro u hu;obtain⟨y,_,rfl⟩:=List.mem_map.1 hu;rfl) (by unfold maxLen;omega) (by have:(n+1)*A<=1001*64:=Nat.mul_le_mul (by omega) R;omega) hB
 unfold Oper.wp execOp;simp only[ho,resolve,invoke,builtin,Sem.run_bind,Sem.run_pure,Result.andThen_ok,List.map_toArray,List.map_cons,List.map_nil,hs,hx,K];refine hK _ _ (h N w' ⟨xs++D,by rw[List.map_append];exact h2,fun y L=>?_⟩ h3)
 rcases List.mem_append.1 L with L|L
 ·exact O y L
 ·exact hb y L
end Go.G5
end
namespace Go.Proofs.YtipejodijbjpcaaGreatDoor
section
open Go.RowKit Go.G5
def gE(l x:List Int):Nat->Bool
 |0=>true
 |k+1=>gE l x k&&decide (0<=aS l x k)
def dZ(n:Int)(l x:List Int):Bool:=bP n l&&cR n x&&gE l x l.length
theorem xF(l x:List Int)(k:Nat)(h:aS l x k<0):∀m,k<m->gE l x m=false:=by
 intro m
 induction m with
 |zero=>intro h;omega
 |succ m ih=>
  intro z;rw[gE]
  by_cases o:k<m
  ·rw[ih o];rfl
  ·have:m=k:=by omega
   subst this;rw[decide_eq_false (by omega)];simp
theorem NW(l x:List Int):∀m,gE l x m=true->∀k:Nat,k<m->0<=aS l x k:=by
 intro m
 induction m with
 |zero=>intro _ k z;omega
 |succ m ih=>
  intro h k z;rw[gE]at h;obtain⟨h1,h2⟩:=Bool.and_eq_true_iff.1 h
  by_cases o:k<m
  ·exact ih h1 k o
  ·have:k=m:=by omega
   subst this;exact of_decide_eq_true h2
theorem lU(w:World)(n:Int)(v:Value)(l:List Int)(hv:aD w v l)(u:Value)(x:List Int)(hu:aD w u x):
  Calls Tryz.prog 125 #[.agg #[.int .i64 n,v],u] w fun e w'=>e=.returned (.bool (dZ n l x))/\Below w.heap.size w w':=by
 obtain⟨av,cv,rfl⟩:=hv.shape;obtain⟨au,cu,rfl⟩:=hu.shape;go_enter Tryz.func125,Tryz.ntmps125;go_wp2_with fail;refine(nC n l _ _ (hv.alloc _)).mono ?_;rintro e w1 ⟨rfl,K⟩;have X1:=(Box2.new w n (.slice av l.length cv) 32).after K;clear K
 cases Z:bP n l with
 |false=>
  have D:dZ n l x=false:=by unfold dZ;rw[Z];rfl
  have I:=Lib.hid D;obtain⟨z,d1,o,A⟩:=X1;clear D;go_wp2;go_ret;exact⟨by rw[I.out];rfl,o⟩
 |true=>
  obtain⟨h0,h5,hl,Q⟩:=jS (jD Z);have hp:=iX h0 h5;have O:l.length<=64:=by omega
  have a6:=Lib.hid Q;clear hl Q hp;obtain⟨z,d1,o,A⟩:=X1;go_wp2_with fail;refine(zO n l _ x _ _ (hv.below o (Nat.le_refl _)) (hu.below o (Nat.le_refl _))).mono ?_;rintro e w2 ⟨rfl,L⟩;have X2:=(Box2.mk z d1 o A).after L;clear L z d1 o A
  cases F:cR n x with
  |false=>
   have D:dZ n l x=false:=by unfold dZ;rw[Z,F];rfl
   have I:=Lib.hid D;obtain⟨z,d1,o,A⟩:=X2;clear D;go_wp2;go_ret;exact⟨by rw[I.out];rfl,o⟩
  |true=>
   obtain⟨b0,U⟩:=iV F;have Y:x.length<=6:=by omega
   have D:dZ n l x=gE l x l.length:=by unfold dZ;rw[Z,F];rfl
   have I:=Lib.hid D;have a7:=Lib.hid U;clear D U b0;obtain⟨z,d1,o,A⟩:=X2;go_wp2_with fail;go_loopw [18] (fun i wr=>∃k:Nat,k<=l.length/\i=.int .i64 k/\gE l x k=true/\Box2 w wr n (.slice av l.length cv)) (fun i _=>l.length-(intOf i).toNat)
   case atStart=>exact⟨0,Nat.zero_le _,rfl,rfl,⟨z,d1,o,A⟩⟩
   case round=>
    obtain⟨k,hk,rfl,S,X⟩:=hrel;have HO:=Lib.hid S;clear S z d1 o A;obtain⟨z,d1,o,A⟩:=X
    by_cases hlt:k<l.length
    ·have R:(k:Int)<(l.length:Int):=by omega
     go_wp2_with fail;refine(rY n l _ x _ k _ (hv.below o (Nat.le_refl _)) (hu.below o (Nat.le_refl _)) (by omega) (by omega) O a6.out a7.out Y).mono ?_;rintro e w3 ⟨rfl,M⟩;have X3:=(Box2.mk z d1 o A).after M;clear M z d1 o A
     by_cases a8:aS l x k<0
     ·go_wp2
      go_ret;refine⟨aE ?_,X3.B⟩;rw[I.out,xF l x k a8 _ hlt]
     ·go_wp2
      go_roundw
      case rel=>exact⟨k+1,by omega,by go_num,by rw[gE,HO.out,decide_eq_true (by omega)];rfl,X3⟩
      case measure=>simp[intOf];omega
    ·have R:¬(k:Int)<(l.length:Int):=by omega
     have N:k=l.length:=by omega
     have HK:=Lib.hid N;clear N;go_wp2;go_ret;exact⟨aE (by rw[I.out,<-HK.out,HO.out]),o⟩
theorem lQ(w:World)(n:Int)(v:Value)(l:List Int)(hv:aD w v l)(u:Value)(x:List Int)(hu:aD w u x):
  Calls Tryz.prog 198 #[.agg #[.int .i64 n,v],u] w fun e w'=>e=.returned (.bool (dZ n l x))/\Below w.heap.size w w':=by
 obtain⟨a,b,e5,c,rfl,b4,c9,hc,hb⟩:=hv.view Tryz.prog 22 3 Tryz.underlying22 aG;obtain⟨au,cu,rfl⟩:=hu.shape;go_enter Tryz.func198,Tryz.ntmps198;go_wp2_with fail;refine(kJ n l _ _ (hv.alloc _)).mono ?_;rintro e w1 ⟨rfl,N⟩;have X1:=(Box2.new w n (.slice a l.length c) 32).after N;clear N;have c8:=aK hc hb X1.B (Nat.le_refl _);have z:=hu.below X1.B (Nat.le_refl _);clear hc
 cases O:bP n l with
 |false=>
  have A:dZ n l x=false:=by unfold dZ;rw[O];rfl
  have I:=Lib.hid A;obtain⟨d0,d1,M,z1⟩:=X1;clear A;go_wp2;go_ret;exact⟨by rw[I.out];rfl,M⟩
 |true=>
  obtain⟨h0,h5,hl,R⟩:=jS (jD O);have hp:=iX h0 h5;have b3:l.length<=64:=by omega
  have b8:=Lib.hid R;clear hl R;obtain⟨d0,d1,M,z1⟩:=X1
  by_cases o:(x.length:Int)=n
  ·have a7:((x.length:Int) != n)=false:=by simp[o]
   have a8:x.length<=5:=by omega
   have b9:=Lib.hid o
   cases F:dB x (-5000) 5000 with
   |false=>
    have A:dZ n l x=false:=by unfold dZ cR;rw[O,F];simp
    have I:=Lib.hid A;clear A o;go_wp2_with (go_at_call 299;refine(qY x _ _ z).mono ?_;rintro e w' ⟨rfl,rfl⟩;rw[F]);go_ret;exact⟨by rw[I.out];rfl,M⟩
   |true=>
    have L:cR n x=true:=by unfold cR;rw[F,decide_eq_true o];rfl
    obtain⟨_,Z⟩:=iV L;have A:dZ n l x=gE l x l.length:=by unfold dZ;rw[O,L];rfl
    have I:=Lib.hid A;have D:=Lib.hid Z;have a6:decide (x.length<=5)=true:=decide_eq_true a8;clear A Z o L;go_wp2_with (go_at_call 299;refine(qY x _ _ z).mono ?_;rintro e w' ⟨rfl,rfl⟩;rw[F,a6]);go_loopw [5] (fun i wr=>∃k m:Nat,k<=l.length/\i=.int .i64 k/\gE l x k=true/\wr=w1.drewN m) (fun i _=>l.length-(intOf i).toNat)
    case atStart=>exact⟨0,0,Nat.zero_le _,rfl,rfl,rfl⟩
    case round=>
     obtain⟨k,m,hk,rfl,U,rfl⟩:=hrel;have HO:=Lib.hid U;clear U
     by_cases hlt:k<l.length
     ·have S:(k:Int)<(l.length:Int):=by omega
      have Y:aS l x k=l[k]-wt x k:=by unfold aS;simp[hlt]
      have HS:=Lib.hid Y;clear Y
      by_cases e4:wt x k>l[k]
      ·go_wp2
       go_quiet ((go_at_call 186;first|exact kB (gS x _ _ _ (z.drewN _) (by omega) (by omega) (fun j K=>by have:=D.out j K;omega) (by omega))|exact lR (gS x _ _ _ (z.drewN _) (by omega) (by omega) (fun j K=>by have:=D.out j K;omega) (by omega))));go_wp2;go_ret;refine⟨aE ?_,(M.drewN' _).drewN' _⟩;rw[I.out,xF l x k (by rw[HS.out];omega) _ hlt]
      ·go_wp2
       go_quiet ((go_at_call 186;first|exact kB (gS x _ _ _ (z.drewN _) (by omega) (by omega) (fun j K=>by have:=D.out j K;omega) (by omega))|exact lR (gS x _ _ _ (z.drewN _) (by omega) (by omega) (fun j K=>by have:=D.out j K;omega) (by omega))));go_wp2;go_roundw
       case rel=>exact⟨k+1,m+nq,by omega,by go_num,by rw[gE,HO.out,decide_eq_true (by rw[HS.out];omega)];rfl,by simp⟩
       case measure=>simp[intOf];omega
     ·have S:¬(k:Int)<(l.length:Int):=by omega
      have Q:k=l.length:=by omega
      have HK:=Lib.hid Q;clear Q;go_wp2;go_ret;exact⟨aE (by rw[I.out,<-HK.out,HO.out]),M.drewN' _⟩
  ·have a7:((x.length:Int) != n)=true:=by simp[o]
   have A:dZ n l x=false:=by unfold dZ cR;rw[O,decide_eq_false o];rfl
   have I:=Lib.hid A;clear A o;go_wp2;go_ret;exact⟨by rw[I.out];rfl,M⟩
end
section
open Go.RowKit Go.G5
def dX(l x:List Int)(e:Nat):Nat->Int
 |0=>100000
 |k+1=>if bR (k:Int) e=1 then min (dX l x e k) (aS l x k) else dX l x e k
def kQ(l x:List Int)(e:Nat):Nat->Option Int
 |0=>none
 |k+1=>if bR (k:Int) e=1 then (match kQ l x e k with|none=>some (aS l x k)|some m=>if aS l x k<m then some (aS l x k) else some m) else kQ l x e k
def lE(n:Int)(l x:List Int)(e:Nat):Bool:=dZ n l x&&decide ((e:Int)<n)
def iA(n:Int)(l x:List Int)(e:Nat):Int:=if lE n l x e then dX l x e l.length else 0
theorem WV(x:List Int)(s:Int)(h:∀k,(o:k<x.length)->-5000<=x[k]/\x[k]<=5000)(k:Nat)(o:k<=x.length):-5000*(k:Int)<=cP x s k/\cP x s k<=5000*(k:Int):=by
 induction k with
 |zero=>simp[cP]
 |succ k ih=>
  have h1:=ih (by omega);have h2:=h k (by omega);rw[cP,List.getD_eq_getElem?_getD,List.getElem?_eq_getElem (show k<x.length by omega),Option.getD_some]
  split<;>omega
theorem zI(l x:List Int)(z:∀k,(o:k<l.length)->-1000<=l[k]/\l[k]<=1000)(D:∀k,(o:k<x.length)->-5000<=x[k]/\x[k]<=5000)(F:x.length<=6)(k:Nat)(o:k<l.length):-31000<=aS l x k/\aS l x k<=31000:=by
 have h1:=z k o;have h2:=WV x k D x.length (Nat.le_refl _);have A:l.getD (k:Int).toNat 0=l[k]:=by simp[o]
 unfold aS wt;rw[A];omega
theorem WM(l x:List Int)(e:Nat)(hb:∀k,k<l.length->aS l x k<=31000):∀k,k<=l.length->(∀m,kQ l x e k=some m->dX l x e k=m/\m<=31000)/\(kQ l x e k=none->dX l x e k=100000):=by
 intro k
 induction k with
 |zero=>intro _;exact⟨fun m h=>(by rw[kQ]at h;cases h),fun _=>rfl⟩
 |succ k ih=>
  intro F;obtain⟨h1,h2⟩:=ih (by omega);have h3:=hb k (by omega);rw[kQ,dX]
  by_cases o:bR (k:Int) e=1
  ·rw[if_pos o,if_pos o]
   cases A:kQ l x e k with
   |none=>
    rw[h2 A];refine⟨fun m h=>?_,fun h=>by cases h⟩;have z:aS l x k=m:=Option.some.inj h;omega
   |some q=>
    obtain⟨h4,D⟩:=h1 q A;rw[h4];refine⟨fun m h=>?_,fun h=>?_⟩
    ·by_cases hlt:aS l x k<q
     ·simp only[if_pos hlt]at h
      have z:aS l x k=m:=Option.some.inj h;omega
     ·simp only[if_neg hlt]at h
      have z:q=m:=Option.some.inj h;omega
    ·by_cases hlt:aS l x k<q
     ·simp only[if_pos hlt]at h;cases h
     ·simp only[if_neg hlt]at h;cases h
  ·rw[if_neg o,if_neg o]
   exact⟨h1,h2⟩
theorem VH(l x : List Int)(e : Nat) : ∀ k, 2 ^ e < k -> ∃ m, kQ l x e k = some m := by
  intro k
  induction k with
  | zero => intro h; exact absurd h (Nat.not_lt_zero _)
  | succ k ih =>
    intro hk
    rw [kQ]
    by_cases hlt : 2 ^ e < k
    · obtain ⟨m, hm⟩ := ih hlt
      rw [hm]
      by_cases hone : bR (k : Int) e = 1
      · rw [if_pos hone]
        by_cases h : aS l x k < m
        · exact ⟨aS l x k, by simp only [if_pos h]⟩
        · exact ⟨m, by simp only [if_neg h]⟩
      · rw [if_neg hone]; exact ⟨m, rfl⟩
    · have hke : k = 2 ^ e := by omega
      have hone : bR (k : Int) e = 1 := by
        subst hke
        unfold bR
        have h0 : (2 : Int) ^ e ≠ 0 := by have := Nat.two_pow_pos e; have h : ((2 ^ e : Nat) : Int) = (2 : Int) ^ e := by push_cast; rfl
                                          omega
        push_cast
        rw [Int.ediv_self h0]
        rfl
      rw [if_pos hone]
      cases kQ l x e k with
      | none => exact ⟨_, rfl⟩
      | some m =>
        by_cases h : aS l x k < m
        · exact ⟨aS l x k, by simp only [if_pos h]⟩
        · exact ⟨m, by simp only [if_neg h]⟩
theorem OC(W:World)(g e s:Nat)(A:e<6)(D:s<1073741824)(d:W.cell? ⟨g,0,none⟩=some (.int .i64 (e:Int))):
  Calls Tryz.prog 317 #[.int .i64 (s:Int),.pointer (some ⟨g,0,none⟩)] W fun z w'=>z=.returned (.bool (bR (s:Int) e==1))/\Below W.heap.size W w':=by
 have o:=dY (s:Int) e (by omega) (by omega);go_enter Tryz.func317,Tryz.ntmps317;go_wp2;go_ret;exact⟨rfl,Below.refl _ _⟩
theorem wY:∀args w,(callFunc 317 args).run Tryz.prog w=.ok (.enter 317 args) w:=enters_of Tryz.func317 (by kernel_rfl) rfl
theorem CA(w:World)(n:Int)(v:Value)(l:List Int)(hv:aD w v l)(u:Value)(x:List Int)(hu:aD w u x)(e g:Nat)(he:e<6)(d:w.cell? ⟨g,0,none⟩=some (.int .i64 (e:Int)))(b7:l.length<=64)
  (b6:∀k,(hk:k<l.length)->-1000<=l[k]/\l[k]<=1000) (hx:∀k,(hk:k<x.length)->-5000<=x[k]/\x[k]<=5000) (b9:x.length<=6):
  Calls Tryz.prog 316 #[.agg #[.int .i64 n,v],u,.func (.func 317) #[] #[.pointer (some ⟨g,0,none⟩)]] w fun Q w'=>Q=.returned (.int .i64 ((kQ l x e l.length).getD 0))/\Below w.heap.size w w':=by
 obtain⟨a,c,rfl⟩:=hv.shape;obtain⟨b,cu,rfl⟩:=hu.shape;have b1:=World.block_lt_of_cell? w _ d;have f0:=wY;obtain⟨V,hV⟩:∃V,V=w.alloc (.cells #[.int .i64 n,.slice a l.length c] 32):=⟨_,rfl⟩;have B:Below w.heap.size w V:=by rw[hV];exact aM _ _
 have K:aB V w.heap.size 32 #[.int .i64 n,.slice a l.length c]:=by rw[hV];exact aB.new _ _ _
 have HD:=Lib.hid (And.intro d b1);have U:=Lib.hid (And.intro b6 (And.intro hx b9));go_enter Tryz.func316,Tryz.ntmps316;go_wp2_with fail;rw[<-hV];clear hV;go_loopw [7,8,13] (fun m f i wr=>∃k:Nat,k<=l.length/\i=.int .i64 k/\m=.int .i64 ((kQ l x e k).getD 0)/\f=.bool (kQ l x e k).isSome/\aB wr w.heap.size 32 #[.int .i64 n,.slice a l.length c]/\Below w.heap.size w wr) (fun _ _ i _=>l.length-(intOf i).toNat)
 case atStart=>exact⟨0,Nat.zero_le _,rfl,rfl,rfl,K,B⟩
 case round=>
  obtain⟨k,hk,rfl,rfl,rfl,Kr,Br⟩:=hrel;clear K B;have K:=Kr;have B:=Br
  by_cases hlt:k<l.length
  ·have a7:(k:Int)<(l.length:Int):=by omega
   have D:=OC wr g e k he (by omega) ((B.cell (p:=⟨g,0,none⟩) HD.out.2).trans HD.out.1);have I:=fun(W:World) (h:Below w.heap.size w W)=>rY n l (.slice a l.length c) x (.slice b x.length cu) k W (hv.below h (Nat.le_refl _)) (hu.below h (Nat.le_refl _)) (by omega) (by omega) b7 U.out.1 U.out.2.1 U.out.2.2;have b8:=zI l x U.out.1 U.out.2.1 U.out.2.2 k hlt;have o:kQ l x e (k+1)=if bR (k:Int) e=1 then (match kQ l x e k with|none=>some (aS l x k)|some m=>if aS l x k<m then some (aS l x k) else some m) else kQ l x e k:=rfl;obtain⟨r,hr⟩:∃r,r=aS l x k:=⟨_,rfl⟩;simp only[<-hr]at I b8 o;have O:=Lib.hid I
   by_cases z:bR (k:Int) e=1
   ·have ht:(bR (k:Int) e==1)=true:=by simp[z]
    rw[if_pos z]at o;rw[ht]at D;have L:=Lib.hid D
    cases hq:kQ l x e k with
    |none=>
     rw[hq]at o;have A:=Lib.hid o;clear o D I hr z ht hq;have G:=K.cell;go_wp2_with fail;refine L.out.mono ?_;rintro Q Z ⟨rfl,N⟩;have M:=K.keep N;have F:=B.after N B.size;have G3:=M.cell;go_wp2_with fail;refine(O.out Z F).mono ?_;rintro Q w4 ⟨rfl,R⟩;have Y:=M.keep R;have S:=F.after R F.size;go_wp2;go_roundw
     case rel=>exact⟨k+1,by omega,by go_num,by rw[A.out];rfl,by rw[A.out];rfl,Y,S⟩
     case measure=>simp[intOf];omega
    |some m=>
     rw[hq]at o
     by_cases a6:r<m
     ·simp only[if_pos a6]at o
      have A:=Lib.hid o;clear o D I hr z ht hq;have G:=K.cell;go_wp2_with fail;refine L.out.mono ?_;rintro Q Z ⟨rfl,N⟩;have M:=K.keep N;have F:=B.after N B.size;have G3:=M.cell;go_wp2_with fail;refine(O.out Z F).mono ?_;rintro Q w4 ⟨rfl,R⟩;have Y:=M.keep R;have S:=F.after R F.size;have G4:=Y.cell;go_wp2_with fail;refine(O.out w4 S).mono ?_;rintro Q w5 ⟨rfl,b5⟩;have K5:=Y.keep b5;have B5:=S.after b5 S.size;go_wp2;go_roundw
      case rel=>exact⟨k+1,by omega,by go_num,by rw[A.out];rfl,by rw[A.out];rfl,K5,B5⟩
      case measure=>simp[intOf];omega
     ·simp only[if_neg a6]at o
      have A:=Lib.hid o;clear o D I hr z ht hq;have G:=K.cell;go_wp2_with fail;refine L.out.mono ?_;rintro Q Z ⟨rfl,N⟩;have M:=K.keep N;have F:=B.after N B.size;have G3:=M.cell;go_wp2_with fail;refine(O.out Z F).mono ?_;rintro Q w4 ⟨rfl,R⟩;have Y:=M.keep R;have S:=F.after R F.size;go_wp2;go_roundw
      case rel=>exact⟨k+1,by omega,by go_num,by rw[A.out];rfl,by rw[A.out];rfl,Y,S⟩
      case measure=>simp[intOf];omega
   ·have ht:(bR (k:Int) e==1)=false:=by simp[z]
    rw[if_neg z]at o;rw[ht]at D;have L:=Lib.hid D;have A:=Lib.hid o;clear o D I hr z ht;have G:=K.cell;go_wp2_with fail;refine L.out.mono ?_;rintro Q Z ⟨rfl,N⟩;have M:=K.keep N;have F:=B.after N B.size;have G3:=M.cell;go_wp2;go_roundw
    case rel=>exact⟨k+1,by omega,by go_num,by rw[A.out],by rw[A.out],M,F⟩
    case measure=>simp[intOf];omega
  ·have a7:¬(k:Int)<(l.length:Int):=by omega
   have a1:k=l.length:=by omega
   have HK:=Lib.hid a1;clear a1;go_wp2;go_ret;exact⟨eJ (by rw[<-HK.out]),B⟩
theorem sY{n:Int}{l x:List Int}(h:dZ n l x=true):∃N:Nat,n=N/\N<=5/\l.length=2^N/\l.length<=32/\x.length=N/\(∀k,(I:k<l.length)->-1000<=l[k]/\l[k]<=1000)/\(∀k,(I:k<x.length)->-5000<=x[k]/\x[k]<=5000)/\∀k:Nat,k<l.length->0<=aS l x k:=by
 unfold dZ at h;simp only[Bool.and_eq_true]at h;obtain⟨⟨h1,h2⟩,h3⟩:=h;obtain⟨D,F,L,z⟩:=jS (jD h1);have M:=iX D F;obtain⟨K,A⟩:=iV h2;have o:l.length=2^n.toNat:=by
  have h4:((2^n.toNat:Nat):Int)=(2:Int)^n.toNat:=by push_cast;rfl
  omega
 exact⟨n.toNat,by omega,by omega,o,by omega,by omega,z,A,NW l x _ h3⟩
theorem Q3{n:Int}{l x:List Int}{e:Nat}(h:lE n l x e=true):(kQ l x e l.length).getD 0=dX l x e l.length/\0<=dX l x e l.length/\dX l x e l.length<=31000:=by
 unfold lE at h;obtain⟨h1,h2⟩:=Bool.and_eq_true_iff.1 h;have h2:=of_decide_eq_true h2;obtain⟨N,rfl,L,z,I,O,A,D,M⟩:=sY h1;have hlt:2^e<l.length:=by rw[z];exact Nat.pow_lt_pow_right (by decide) (by omega)
 obtain⟨m,K⟩:=VH l x e l.length hlt;have hb:=(WM l x e (fun k F=>(zI l x A D (by omega) k F).2) l.length (Nat.le_refl _)).1 m K;have o:∀k,k<=l.length->0<=dX l x e k:=by
  intro k
  induction k with
  |zero=>intro _;simp[dX]
  |succ k ih=>
   intro F;have:=ih (by omega);have:=M k (by omega);rw[dX]
   split<;>omega
 rw[K];have:=o l.length (Nat.le_refl _);exact⟨hb.1.symm,this,by omega⟩
theorem WO(l x:List Int)(e:Nat)(o:∀k:Nat,k<l.length->0<=aS l x k):∀k,k<=l.length->0<=dX l x e k/\dX l x e k<=100000:=by
 intro k
 induction k with
 |zero=>intro _;simp[dX]
 |succ k ih=>
  intro z;have:=ih (by omega);have:=o k (by omega);rw[dX]
  split<;>omega
theorem BQ(n:Int)(l x:List Int)(e:Nat):0<=iA n l x e/\iA n l x e<=31000:=by
 unfold iA
 split
 ·rename_i h;exact(Q3 h).2
 ·omega
theorem E8(n:Int)(e:Nat)(A:e<6)(w:World):
  Calls Tryz.prog 248 #[.int .i64 n,.int .i64 (e:Int)] w fun o w'=>o=.returned (.bool (decide ((e:Int)<n)))/\w=w':=by
 have z:(0:Int)<=(e:Int):=by omega
 go_enter Tryz.func248,Tryz.ntmps248;go_wp2;go_ret;exact⟨rfl,rfl⟩
theorem E0(w:World)(n:Int)(v:Value)(l:List Int)(hv:aD w v l)(u:Value)(x:List Int)(Z:aD w u x)(e:Nat)(he:e<6):
  Calls Tryz.prog 246 #[.agg #[.int .i64 n,v],u,.int .i64 (e:Int)] w fun M w'=>M=.returned (.tuple #[.int .i64 (iA n l x e),.bool (lE n l x e)])/\Below w.heap.size w w':=by
 obtain⟨a,c,rfl⟩:=hv.shape;obtain⟨b,cu,rfl⟩:=Z.shape;have b4:∀(fn:Fn) (first cap:Array Value) (w:World),(Instr.makeFunc fn first cap).run Tryz.prog w=.ok (.func fn first cap) w:=fun _ _ _ _=>rfl;obtain⟨V,O⟩:∃V,V=(w.alloc (.cells #[.int .i64 n,.slice a l.length c] 32)).alloc (.cells #[.int .i64 (e:Int)] 3):=⟨_,rfl⟩;have B:Below w.heap.size w V:=by rw[O];exact cD _ _ _
 have K:aB V w.heap.size 32 #[.int .i64 n,.slice a l.length c]:=by rw[O];exact(aB.new _ _ _).alloc _
 have U:aB V (w.heap.size+1) 3 #[.int .i64 (e:Int)]:=by rw[O];have:=aB.new (w.alloc (.cells #[.int .i64 n,.slice a l.length c] 32)) 3 #[.int .i64 (e:Int)];simpa using this
 go_enter Tryz.func246,Tryz.ntmps246;go_wp2_with fail;rw[<-O];clear O;refine(lU V n _ l (hv.below B (Nat.le_refl _)) _ x (Z.below B (Nat.le_refl _))).mono ?_;rintro M w1 ⟨rfl,Y⟩;have K:=K.keep Y;have U:=U.keep Y;have B:=B.after Y B.size;have G:=K.cell;have GE:=U.cell
 cases hb:dZ n l x with
 |false=>
  have z:lE n l x e=false:=by unfold lE;rw[hb];rfl
  have F:iA n l x e=0:=by unfold iA;rw[z];rfl
  have A:=Lib.hid (And.intro z F);clear z F hb;go_wp2;go_ret2;exact⟨by rw[A.out.1,A.out.2];rfl,B⟩
 |true=>
  obtain⟨N,rfl,b3,Q,D,R,I,L,hs⟩:=sY hb;have S:=Lib.hid (E8 (N:Int) e he w1)
  by_cases o:(e:Int)<(N:Int)
  ·have z:lE N l x e=true:=by unfold lE;rw[hb,decide_eq_true o];rfl
   have F:iA N l x e=(kQ l x e l.length).getD 0:=by unfold iA;rw[z,(Q3 z).1];rfl
   have A:=Lib.hid (And.intro z F);have hd:=decide_eq_true o;rw[hd]at S;have HL:=Lib.hid (CA w1 N _ l (hv.below B (Nat.le_refl _)) _ x (Z.below B (Nat.le_refl _)) e (w.heap.size+1) he (U.cell 0) (by omega) I L (by omega));clear z F hb Q D R I L hs hd o;go_wp2_with (first|(go_at_call 248;refine S.out.mono ?_;rintro M w' ⟨rfl,rfl⟩)|(go_at_call 316;refine HL.out.mono ?_;rintro M w2 ⟨rfl,b2⟩));go_ret2;exact⟨by rw[A.out.1,A.out.2];rfl,B.after b2 B.size⟩
  ·have z:lE N l x e=false:=by unfold lE;rw[decide_eq_false o];simp
   have F:iA N l x e=0:=by unfold iA;rw[z];rfl
   have A:=Lib.hid (And.intro z F);have hd:=decide_eq_false o;rw[hd]at S;clear z F hb Q D R I L hs hd o;go_wp2_with (go_at_call 248;refine S.out.mono ?_;rintro M w' ⟨rfl,rfl⟩);go_ret2;exact⟨by rw[A.out.1,A.out.2];rfl,B⟩
theorem FL(w:World)(n:Int)(v:Value)(l:List Int)(hv:aD w v l)(u:Value)(x:List Int)(hu:aD w u x)(e:Nat)(he:e<6):
  Calls Tryz.prog 328 #[.agg #[.int .i64 n,v],u,.int .i64 (e:Int)] w fun e' w'=>e'=.returned (.tuple #[.int .i64 (iA n l x e),.bool (lE n l x e)])/\Below w.heap.size w w':=by
 obtain⟨a,b,g1,c,rfl,f2,Y,hc,c7⟩:=hv.view Tryz.prog 22 3 Tryz.underlying22 aG;obtain⟨au,cu,rfl⟩:=hu.shape;obtain⟨V,hV⟩:∃V,V=w.alloc (.cells #[.int .i64 n,.slice a l.length c] 32):=⟨_,rfl⟩;have B:Below w.heap.size w V:=by rw[hV];exact aM _ _
 have K:aB V w.heap.size 32 #[.int .i64 n,.slice a l.length c]:=by rw[hV];exact aB.new _ _ _
 go_enter Tryz.func328,Tryz.ntmps328;go_wp2_with fail;rw[<-hV];clear hV;refine(lQ V n _ l (hv.below B (Nat.le_refl _)) _ x (hu.below B (Nat.le_refl _))).mono ?_;rintro e' w1 ⟨rfl,b1⟩;have K:=K.keep b1;have B:=B.after b1 B.size;have G:=K.cell
 cases hb:dZ n l x with
 |false=>
  have I:lE n l x e=false:=by unfold lE;rw[hb];rfl
  have F:iA n l x e=0:=by unfold iA;rw[I];rfl
  have O:=Lib.hid (And.intro I F);clear I F hb;go_wp2;go_ret2;exact⟨by rw[O.out.1,O.out.2];rfl,B⟩
 |true=>
  obtain⟨N,rfl,f6,a1,a6,b4,L,M,hs⟩:=sY hb;have D:cM (e:Int) 0 ((N:Int)-1)=decide ((e:Int)<(N:Int)):=by
   by_cases h:(e:Int)<(N:Int)
   ·rw[decide_eq_true h];exact bL.2 ⟨by omega,by omega⟩
   ·rw[decide_eq_false h]
    cases S:cM (e:Int) 0 ((N:Int)-1) with
    |false=>rfl
    |true=>have:=bL.1 S;omega
  have hw:IntKind.i64.wrap ((N:Int)-1)=(N:Int)-1:=IntWalk.i64_in _ ⟨by omega,by omega⟩
  by_cases A:(e:Int)<(N:Int)
  ·have I:lE N l x e=true:=by unfold lE;rw[hb,decide_eq_true A];rfl
   have F:iA N l x e=dX l x e l.length:=by unfold iA;rw[I];rfl
   have O:=Lib.hid (And.intro I F);rw[decide_eq_true A]at D;have R:=Lib.hid D;have c5:=Lib.hid M;have b7:=Lib.hid L;have b8:=Lib.hid (WO l x e hs);have b9:=Lib.hid (zI l x L M (by omega));have g0:x.length<=6:=by omega
   clear I F hb a1 b4 hs A D M L;go_wp2_with (go_at_call 188;refine(aR _ _ _ _).mono ?_;rintro e' w' ⟨rfl,rfl⟩;rw[R.out]);clear G;go_loopw [8,9] (fun m i wr=>∃k:Nat,k<=l.length/\i=.int .i64 k/\m=.int .i64 (dX l x e k)/\aB wr w.heap.size 32 #[.int .i64 (N:Int),.slice a l.length c]/\Below w.heap.size w wr) (fun _ i _=>l.length-(intOf i).toNat)
   case atStart=>exact⟨0,Nat.zero_le _,rfl,rfl,K,B⟩
   case round=>
    obtain⟨k,hk,rfl,rfl,Kr,Br⟩:=hrel;clear K B;have K:=Kr;have B:=Br;have G:=K.cell;clear Kr Br
    by_cases hlt:k<l.length
    ·have a7:(k:Int)<(l.length:Int):=by omega
     have e9:=dY (k:Int) e (by omega) (by omega);have z:dX l x e (k+1)=if bR (k:Int) e=1 then min (dX l x e k) (aS l x k) else dX l x e k:=rfl;have c8:=b8.out k hk
     by_cases o:bR (k:Int) e=1
     ·have ht:(bR (k:Int) e==1)=true:=by simp[o]
      rw[if_pos o]at z;have a9:aS l x k=l[k]-wt x k:=by unfold aS;simp[hlt]
      have a8:=b9.out k hlt;rw[a9]at z a8;have ck:=aK hc c7 B (Nat.le_refl _) k hlt;have ik:=fun W=>Y W k hlt;have c9:=b7.out k hlt;obtain⟨q,S⟩:∃q,q=wt x (k:Int):=⟨_,rfl⟩;obtain⟨C,hC⟩:∃C,C=dX l x e k:=⟨_,rfl⟩;obtain⟨y,F⟩:∃y,y=l[k]:=⟨_,rfl⟩;have b3:∀W,aD W (.slice au x.length cu) x->Calls Tryz.prog 186 #[.slice au x.length cu,.int .i64 (k:Int)] W fun e w'=>e=.returned (.int .i64 q)/\W=w':=by
       rw[S];exact fun W h=>gS x _ _ W h (by omega) (by omega) (fun j hj=>by have:=c5.out j hj;omega) (by omega)
      have b0:=hu.below B (Nat.le_refl _);rw[<-S,<-F,<-hC]at z;rw[<-S,<-F]at a8;rw[<-hC]at c8 ⊢;rw[<-F]at ck c9;have U:=Lib.hid b3;have Q:=Lib.hid z;have f9:IntKind.i64.wrap (y-q)=y-q:=IntWalk.i64_in _ ⟨by omega,by omega⟩;clear z b3 S hC F a9 o hc Y;go_wp2;go_quiet ((go_at_call 186;first|exact kB (U.out _ (b0.drewN _))|exact lR (U.out _ (b0.drewN _))));go_wp2;go_roundw
      case rel=>exact⟨k+1,by omega,by go_num,by rw[Q.out]<;>(congr 1<;>(split<;>omega)),K.drewN _,B.drewN' _⟩
      case measure=>simp[intOf];omega
     ·have ht:(bR (k:Int) e==1)=false:=by simp[o]
      rw[if_neg o]at z;have Q:=Lib.hid z;clear z o;go_wp2;go_roundw
      case rel=>exact⟨k+1,by omega,by go_num,by rw[Q.out],K,B⟩
      case measure=>simp[intOf];omega
    ·have a7:¬(k:Int)<(l.length:Int):=by omega
     have Z:k=l.length:=by omega
     have HK:=Lib.hid Z;clear Z;go_wp2;go_ret2;exact⟨by rw[O.out.1,O.out.2,<-HK.out];rfl,B⟩
  ·have I:lE N l x e=false:=by unfold lE;rw[decide_eq_false A];simp
   have F:iA N l x e=0:=by unfold iA;rw[I];rfl
   have O:=Lib.hid (And.intro I F);rw[decide_eq_false A]at D;have R:=Lib.hid D;clear I F hb a1 a6 b4 L M hs A D;go_wp2_with (go_at_call 188;refine(aR _ _ _ _).mono ?_;rintro e' w' ⟨rfl,rfl⟩;rw[R.out]);go_ret2;exact⟨by rw[O.out.1,O.out.2];rfl,B⟩
end
end Go.Proofs.YtipejodijbjpcaaGreatDoor
