/- Lemmas for CardClaims, part 18 of 52. No condition. -/
import Derived.Test.YtipejodijbjpcaaGreatDoorQ03
import Derived.Test.YtipejodijbjpcaaGreatDoorQ04
import Derived.Test.YtipejodijbjpcaaGreatDoorQ06
import Derived.Shelf.Abstract
import Derived.Deep.RegionHeld3
set_option maxRecDepth 100000
set_option maxHeartbeats 64000000
namespace Go.Proofs.YtipejodijbjpcaaGreatDoor
section
open Go.RowKit Go.G5
theorem SL{p:Nat->Bool}{n:Nat}(h:∀k,k<n->p k=true):bX p n=true:=by
 induction n with
 |zero=>rfl
 |succ n ih=>exact dM (ih fun k o=>h k (by omega)) (h n (by omega))
end
section
open Go.RowKit Go.G5
end
section
open Go.RowKit Go.G5
theorem fI{p:Nat->Bool}{n:Nat}:bX p n=true↔∀k,k<n->p k=true:=by
 constructor
 ·intro h k o
  cases z:p k with
  |true=>rfl
  |false=>rw[cL o z]at h;cases h
 ·exact SL
end
section
open Go.RowKit Go.G5
def nU(l:List Int)(s:Int)(i:Nat):Bool:=!(l.getD i 0==s)&&(cQ s (l.getD i 0)==cQ s (l.getD 0 0))&&(i==0||cQ s (l.getD i 0)==cQ (l.getD 0 0) (l.getD 1 0))
def gY(l:List Int)(s:Int):Bool:=bX (nU l s) l.length
def qJ(l:List Int)(i k:Nat):Bool:=cQ (l.getD i 0) (l.getD k 0)==cQ (l.getD 0 0) (l.getD 1 0)
def jX(l:List Int):Bool:=bX (fun i=>bX (qJ l i) i) l.length
def cU(T:List Int->Int->Bool):List Int->List Int->Int->Option (List Int)
 |sets,l,k=>if (l.length:Int)=k then some l else
  match sets with
  |[]=>none
  |s::rest=>if T l s then (match cU T rest (l++[s]) k with|some x=>some x|none=>cU T rest l k) else cU T rest l k
theorem gT(T:List Int->Int->Bool)(sets l:List Int)(k:Int)(h:(l.length:Int)=k):cU T sets l k=some l:=by unfold cU;rw[if_pos h]
theorem nD(T:List Int->Int->Bool)(l:List Int)(k:Int)(h:(l.length:Int)≠k):cU T [] l k=none:=by unfold cU;rw[if_neg h]
theorem lZ(T:List Int->Int->Bool)(s:Int)(rest l:List Int)(k:Int)(h:(l.length:Int)≠k):
  cU T (s::rest) l k=if T l s then (match cU T rest (l++[s]) k with|some x=>some x|none=>cU T rest l k) else cU T rest l k:=by
 rw[cU];rw[if_neg h]
theorem NO(a b:Int):cQ a b=cQ b a:=by unfold cQ;rw[Nat.and_comm]
theorem yF(l:List Int):jX l=true↔∀i,i<l.length->∀k,k<i->cQ (l.getD i 0) (l.getD k 0)=cQ (l.getD 0 0) (l.getD 1 0):=by
 unfold jX;rw[fI]
 constructor
 ·intro h i o k z
  have:=fI.1 (h i o) k z;unfold qJ at this;simpa using this
 ·intro h i o
  rw[fI];intro k z;unfold qJ;simpa using h i o k z
theorem jV(l:List Int)(s:Int)(i:Nat)(h:i<l.length):(l++[s]).getD i 0=l.getD i 0:=by
 rw[List.getD_eq_getElem?_getD,List.getD_eq_getElem?_getD,List.getElem?_append_left h]
theorem vP(l:List Int)(s:Int):(l++[s]).getD l.length 0=s:=by
 rw[List.getD_eq_getElem?_getD,List.getElem?_append_right (Nat.le_refl _)];simp
theorem sQ(l:List Int)(s:Int)(R:jX l=true)(S:s∉l):gY l s=jX (l++[s]):=by
 have L:=(yF l).1 R;have K:∀i,i<l.length->l.getD i 0≠s:=fun i o e=>S (by rw[<-e,aJ l i o];exact List.getElem_mem o);rw[Bool.eq_iff_iff,yF];unfold gY;rw[fI]
 rcases Nat.lt_or_ge l.length 2 with h2|h2
 ·
  constructor
  ·intro _ i o k M
   rw[List.length_append,List.length_singleton]at o;have N:i=1/\k=0/\l.length=1:=by omega
   obtain⟨rfl,rfl,_⟩:=N;exact NO _ _
  ·intro _ i o
   have:i=0:=by omega
   subst this;unfold nU;have D:(l.getD 0 0==s)=false:=beq_eq_false_iff_ne.2 (K 0 o);rw[D];simp
 ·have O:(l++[s]).getD 0 0=l.getD 0 0:=jV l s 0 (by omega)
  have e1:(l++[s]).getD 1 0=l.getD 1 0:=jV l s 1 (by omega);rw[O,e1]
  constructor
  ·intro h i o k M
   rw[List.length_append,List.length_singleton]at o
   by_cases I:i<l.length
   ·rw[jV l s i I,jV l s k (by omega)]
    exact L i I k M
   ·have:i=l.length:=by omega
    subst this;rw[vP,jV l s k M];have h1:=h 1 (by omega);have A:=h k M;unfold nU at h1 A;simp only[Bool.and_eq_true,Bool.or_eq_true,beq_iff_eq,Bool.not_eq_true',beq_eq_false_iff_ne,ne_eq]at h1 A;have Q:=h1.2.resolve_left (by omega)
    rcases A.2 with D|D
    ·subst D
     rw[<-h1.1.2];exact Q
    ·exact D
  ·intro h i o
   have z:=h l.length (by rw[List.length_append,List.length_singleton];omega) i o;have F:=h l.length (by rw[List.length_append,List.length_singleton];omega) 0 (by omega);rw[vP,jV l s i o]at z;rw[vP,O]at F;unfold nU;simp only[Bool.and_eq_true,Bool.or_eq_true,beq_iff_eq,Bool.not_eq_true',beq_eq_false_iff_ne,ne_eq];exact⟨⟨K i o,by rw[z,F]⟩,.inr z⟩
theorem PF:∀(sets l:List Int) (k:Int),jX l=true->(∀s∈sets,s∉l)->sets.Pairwise (· < ·)->cU (fun l s=>jX (l++[s])) sets l k=cU gY sets l k:=by
 intro sets
 induction sets with
 |nil=>
  intro l k _ _ _
  by_cases h:(l.length:Int)=k
  ·rw[gT _ _ _ _ h,gT _ _ _ _ h]
  ·rw[nD _ _ _ h,nD _ _ _ h]
 |cons s rest ih=>
  intro l k F D z
  by_cases h:(l.length:Int)=k
  ·rw[gT _ _ _ _ h,gT _ _ _ _ h]
  ·rw[lZ _ _ _ _ _ h,lZ _ _ _ _ _ h]
   rw[List.pairwise_cons]at z;have ht:=sQ l s F (D s (by simp));have hr:=ih l k F (fun x A=>D x (by simp[A])) z.2;rw[<-ht,hr]
   cases I:gY l s with
   |false=>rfl
   |true=>
    rw[ih (l++[s]) k (ht▸I) (fun x A o=>by
     rw[List.mem_append,List.mem_singleton]at o
     rcases o with o|o
     ·exact D x (by simp[A]) o
     ·have:=z.1 x A;omega) z.2]
theorem DJ(T:List Int->Int->Bool):∀(sets l:List Int) (k:Int) (x:List Int),cU T sets l k=some x->(x.length:Int)=k:=by
 intro sets
 induction sets with
 |nil=>
  intro l k x h
  by_cases o:(l.length:Int)=k
  ·rw[gT _ _ _ _ o]at h;cases h;exact o
  ·rw[nD _ _ _ o]at h;cases h
 |cons s rest ih=>
  intro l k x h
  by_cases o:(l.length:Int)=k
  ·rw[gT _ _ _ _ o]at h;cases h;exact o
  ·rw[lZ _ _ _ _ _ o]at h
   split at h
   ·split at h
    ·rename_i y z;cases h;exact ih _ _ _ z
    ·exact ih _ _ _ h
   ·exact ih _ _ _ h
theorem GS:∀(l:List Int) (o n:Int),l.Pairwise (· < ·)->(∀x∈l,o<=x/\x<n)->o<=n->(l.length:Int)<=n-o:=by
 intro l
 induction l with
 |nil=>intro o n _ _ h;simp;omega
 |cons x l ih=>
  intro o n z hb D;have F:=hb x (by simp);rw[List.pairwise_cons]at z;have:=ih (x+1) n z.2 (fun y A=>⟨by have:=z.1 y A;omega,(hb y (by simp[A])).2⟩) (by omega);rw[List.length_cons];omega
theorem IQ(l:List Int)(n:Nat)(o:l.Pairwise (· < ·))(hb:∀x∈l,0<=x/\x<(n:Int)):l.length<=n:=by
 have:=GS l 0 n o hb (by omega);omega
def gM(g:Int)(l:List Int)(k:Int):Bool:=bW g l&&cM k 1 5
def jF(g:Int)(l:List Int)(k:Int):Option (List Int):=if gM g l k then cU gY l [] k else none
def eS(g:Int)(l:List Int)(k:Int):Bool:=(jF g l k).isSome
def eP(g:Int)(l:List Int)(k:Int):List Int:=(jF g l k).getD []
theorem vY(g:Int)(l:List Int)(k:Int)(h:gM g l k=true):jF g l k=cU (fun l s=>jX (l++[s])) l [] k:=by
 unfold jF;rw[h];unfold gM at h;have o:=(Bool.and_eq_true_iff.1 h).1;exact(PF l [] k (by decide) (by simp) (jZ o).2.2.2).symm
theorem SC(g:Int)(l:List Int)(k:Int):(eP g l k).length<=5:=by
 unfold eP jF
 split
 ·rename_i h
  unfold gM at h;have z:=bL.1 (Bool.and_eq_true_iff.1 h).2
  cases o:cU gY l [] k with
  |none=>simp
  |some x=>have:=DJ _ _ _ _ _ o;simp;omega
 ·simp
end
section
open Go.RowKit Go.G5
theorem wD(l : List Int)(v : Value)(s : Int)(w : World)(hv : aD w v l)(hm : ∀ x ∈ l, 0 <= x /\ x < 64)(hs : 0 <= s /\ s < 64) :
    Calls Tryz.prog 321 #[v, .int .i64 s] w fun e w' => e = .returned (.bool (gY l s)) /\ Below w.heap.size w w' := by
  obtain ⟨a, b, off, c, rfl, hlen, hix, hc, hb⟩ := hv.view Tryz.prog 22 3 Tryz.underlying22 aG
  have hs0 := hs.1
  have hs1 := hs.2
  go_enter Tryz.func321, Tryz.ntmps321
  go_wp2
  go_loopw [9] (fun i wr => ∃ k n : Nat, k <= l.length /\ i = .int .i64 k /\ bX (nU l s) k = true /\ wr = w.drewN n) (fun i _ => l.length - (intOf i).toNat)
  case atStart => exact ⟨0, 0, Nat.zero_le _, rfl, rfl, rfl⟩
  case round =>
    obtain ⟨k, n, hk, rfl, hall, rfl⟩ := hrel
    have H := Lib.hid hall
    clear hall
    by_cases hlt : k < l.length
    · have hck := hc k hlt
      have hc0 := hc 0 (by omega)
      have hix0 : ∀ w', (Instr.indexAt 22 (.slice a l.length c) (.int .i64 0)).run Tryz.prog w' = .ok (.pointer (some ⟨b, off, none⟩)) w' := fun w' => by have := hix w' 0 (by omega); simpa using this
      have hmk := hm _ (List.getElem_mem hlt)
      have hm0 := hm _ (List.getElem_mem (show 0 < l.length by omega))
      have gk := aJ l k hlt
      have g0 := aJ l 0 (by omega)
      have hpet : nU l s k = (!(l[k] == s) && (cQ s l[k] == cQ s l[0]) && (k == 0 || cQ s l[k] == cQ l[0] (l.getD 1 0))) := by unfold nU; rw [gk, g0]
      have hixk := fun W => hix W k hlt
      obtain ⟨t, ht⟩ : ∃ t, t = l[k] := ⟨_, rfl⟩
      obtain ⟨t0, ht0⟩ : ∃ t, t = l[0] := ⟨_, rfl⟩
      rw [<- ht] at hck hmk hpet
      rw [<- ht0] at hc0 hm0 hpet
      rw [Nat.add_zero] at hc0
      have h1 := oO hs0 (show s < 4611686018427387904 by omega) hmk.1 (show t < 4611686018427387904 by omega)
      have h2 := oO hs0 (show s < 4611686018427387904 by omega) hm0.1 (show t0 < 4611686018427387904 by omega)
      have HT0 := Lib.hid ht0
      have HT := Lib.hid ht
      clear ht ht0 gk g0
      have bad : nU l s k = false -> gY l s = false := fun h => cL hlt h
      cases c1 : (t == s) with
      | true =>
        have hbad := bad (by rw [hpet, c1]; rfl)
        have HBAD := Lib.hid hbad
        clear hbad bad hpet hc hm h1 h2
        go_wp2_with fail
        go_quiet (fail)
        go_wp2
        go_ret
        exact ⟨aE HBAD.out.symm, ((Below.refl _ _).drewN' _).drewN' _⟩
      | false =>
        cases c2 : (cQ s t != cQ s t0) with
        | true =>
          have hbad := bad (by rw [hpet]; have : (cQ s t == cQ s t0) = false := by simpa using c2
                               rw [this]; simp)
          have HBAD := Lib.hid hbad
          obtain ⟨q, hq⟩ : ∃ q, q = cQ s t := ⟨_, rfl⟩
          obtain ⟨q0, hq0⟩ : ∃ q, q = cQ s t0 := ⟨_, rfl⟩
          rw [<- hq] at h1 c2
          rw [<- hq0] at h2 c2
          clear hbad bad hpet hc hm hq hq0
          go_wp2_with fail
          go_quiet (fail)
          go_wp2
          go_ret
          exact ⟨aE HBAD.out.symm, ((Below.refl _ _).drewN' _).drewN' _⟩
        | false =>
          have c2' : (cQ s t == cQ s t0) = true := by simpa using c2
          by_cases hk0 : k = 0
          · have hgood : nU l s k = true := by rw [hpet, c1, c2', hk0]; rfl
            have HG := Lib.hid hgood
            subst hk0
            have ett : t = t0 := HT.out.trans HT0.out.symm
            subst ett
            obtain ⟨q, hq⟩ : ∃ q, q = cQ s t := ⟨_, rfl⟩
            rw [<- hq] at h1
            clear hgood bad hpet hc hm hq c2' hck h2 c2
            go_wp2_with fail
            go_quiet (fail)
            go_wp2
            go_roundw
            case rel => exact ⟨0 + 1, n + nq, by omega, by go_num, dM H.out HG.out, by simp⟩
            case measure => simp [intOf]; omega
          · have h1l : 1 < l.length := by omega
            have hc1 := hc 1 h1l
            have hix1 : ∀ w', (Instr.indexAt 22 (.slice a l.length c) (.int .i64 1)).run Tryz.prog w' = .ok (.pointer (some ⟨b, off + 1, none⟩)) w' := fun w' => by have := hix w' 1 h1l; simpa using this
            have hm1 := hm _ (List.getElem_mem h1l)
            have g1 := aJ l 1 h1l
            rw [g1] at hpet
            obtain ⟨t1, ht1⟩ : ∃ t, t = l[1] := ⟨_, rfl⟩
            rw [<- ht1] at hc1 hm1 hpet
            have h3 := oO hm0.1 (show t0 < 4611686018427387904 by omega) hm1.1 (show t1 < 4611686018427387904 by omega)
            have hkg : (0 : Int) < k := by omega
            have hkn : 0 < k := by omega
            have hkb : (k == 0) = false := by simpa using hk0
            cases c4 : (cQ s t != cQ t0 t1) with
            | true =>
              have hbad := bad (by rw [hpet]; have : (cQ s t == cQ t0 t1) = false := by simpa using c4
                                   rw [this, hkb]; simp)
              have HBAD := Lib.hid hbad
              obtain ⟨q, hq⟩ : ∃ q, q = cQ s t := ⟨_, rfl⟩
              obtain ⟨q0, hq0⟩ : ∃ q, q = cQ s t0 := ⟨_, rfl⟩
              obtain ⟨q1, hq1⟩ : ∃ q, q = cQ t0 t1 := ⟨_, rfl⟩
              rw [<- hq] at h1 c2 c4
              rw [<- hq0] at h2 c2
              rw [<- hq1] at h3 c4
              clear hbad bad hpet hc hm hq hq0 hq1 c2' g1 ht1
              go_wp2_with fail
              go_quiet (fail)
              go_wp2
              go_ret
              exact ⟨aE HBAD.out.symm, ((Below.refl _ _).drewN' _).drewN' _⟩
            | false =>
              have c4' : (cQ s t == cQ t0 t1) = true := by simpa using c4
              have hgood : nU l s k = true := by rw [hpet, c1, c2', c4']; simp
              have HG := Lib.hid hgood
              obtain ⟨q, hq⟩ : ∃ q, q = cQ s t := ⟨_, rfl⟩
              obtain ⟨q0, hq0⟩ : ∃ q, q = cQ s t0 := ⟨_, rfl⟩
              obtain ⟨q1, hq1⟩ : ∃ q, q = cQ t0 t1 := ⟨_, rfl⟩
              rw [<- hq] at h1 c2 c4
              rw [<- hq0] at h2 c2
              rw [<- hq1] at h3 c4
              clear hgood bad hpet hc hm hq hq0 hq1 c2' c4' g1 ht1
              go_wp2_with fail
              go_quiet (fail)
              go_wp2
              go_roundw
              case rel => exact ⟨k + 1, n + nq, by omega, by go_num, dM H.out HG.out, by simp⟩
              case measure => simp [intOf]; omega
    · have hkl : k = l.length := by omega
      subst hkl
      go_wp2
      go_ret
      exact ⟨aE H.out.symm, (Below.refl _ _).drewN' _⟩
end
section
open Go.RowKit Go.G5
theorem Q8:∀(n:Nat) (sets l:List Int) (sv lv:Value) (K:Int) (w:World) (B:Nat),sets.length=n->aD w sv sets->aC 3 B w lv l->B<=w.heap.size->(∀x∈sets,0<=x/\x<64)->(∀x∈l,0<=x/\x<64)->l.length+sets.length<=100->bA K ->
  Calls Tryz.prog 290 #[sv,lv,.int .i64 K] w fun e w'=>∃ad i cp,e=.returned (.tuple #[.slice ad i cp,.bool (cU gY sets l K).isSome])/\aC 3 B w' (.slice ad i cp) ((cU gY sets l K).getD [])/\Below w.heap.size w w':=by
 intro n
 induction n using Nat.strongRecOn with
 |_ n ih=>
  intro sets l sv lv K w B hn hv own hB c9 c8 g6 hK;have f3:=hv;obtain⟨a,b,j1,c,rfl,f2,e9,hc,hb⟩:=hv.view Tryz.prog 22 3 Tryz.underlying22 aG;obtain⟨al,cl,rfl⟩:=own.shape;have HN:=Lib.hid hn;clear hn
  by_cases hk:(l.length:Int)=K
  ·have ht:((l.length:Int)==K)=true:=by simpa using hk
   have hr:=gT gY sets l K hk;have HR:=Lib.hid hr;clear hr hk;go_enter Tryz.func290,Tryz.ntmps290;go_wp2;go_ret2;exact⟨al,l.length,cl,by rw[HR.out];rfl,by rw[HR.out];exact own,Below.refl _ _⟩
  ·have ht:((l.length:Int)==K)=false:=by simpa using hk
   have HK:=Lib.hid hk;have IH:=Lib.hid ih;have b4:=Lib.hid c9;have b1:=Lib.hid c8;clear hk ih c9 c8;go_enter Tryz.func290,Tryz.ntmps290;go_wp2_with fail;go_loopw [19] (fun i wr=>∃k:Nat,k<=sets.length/\i=.int .i64 k/\cU gY (sets.drop k) l K=cU gY sets l K/\Below w.heap.size w wr) (fun i _=>sets.length-(intOf i).toNat)
   case atStart=>exact⟨0,Nat.zero_le _,rfl,rfl,Below.refl _ _⟩
   case round=>
    obtain⟨k,hk,rfl,N,Z⟩:=hrel;have H:=Lib.hid N;clear N;have o:=own.keep Z
    by_cases hlt:k<sets.length
    ·have b9:=aK hc hb Z (Nat.le_refl _) k hlt
     have a7:=b4.out _ (List.getElem_mem hlt);have I:sets.drop k=sets[k]::sets.drop (k+1):=List.drop_eq_getElem_cons hlt;have z:=lZ gY sets[k] (sets.drop (k+1)) l K HK.out;rw[<-I,H.out]at z;obtain⟨x,hx⟩:∃x,x=sets[k]:=⟨_,rfl⟩;rw[<-hx]at b9 a7 z;have hT:=wD l _ x wr o.ints b1.out a7;have HX:=Lib.hid hx;have g5:=fun W=>e9 W k hlt;have HT:=Lib.hid hT;clear I hx hT
     cases F:gY l x with
     |false=>
      rw[F]at z;have HF:=Lib.hid z;have HI:=Lib.hid F;clear z F;go_wp2_with (go_at_call 321;refine HT.out.mono ?_;rintro e A ⟨rfl,Q⟩;rw[HI.out]);go_roundw
      case rel=>exact⟨k+1,by omega,by go_num,by rw[HF.out];rfl,Z.after Q Z.size⟩
      case measure=>simp[intOf];omega
     |true=>
      rw[F]at z;have HI:=Lib.hid F;have e4:=Lib.hid z;clear F z;go_wp2_with (go_at_call 321;refine HT.out.mono ?_;rintro e A ⟨rfl,Q⟩;rw[HI.out]);have z:=e4.out;have S:=o.keep Q;have D:=Z.after Q Z.size;obtain⟨a',c',d1,d2⟩:=f3.from 22 3 Tryz.underlying22 aG (k+1) hlt
      have f0:((k+1:Nat):Int)=(k:Int)+1:=by omega
      simp only[f0,List.length_drop]at d1;have c5:(sets.drop (k+1)).length<n:=by have:=HN.out;rw[List.length_drop];omega
      have c7:l.length + [x].length<=17592186044416:=by simp;omega
      have c6:l.length<=1048576:=by omega
      have d0:bA x:=⟨by omega,by omega⟩;have L:∀y∈l++[x],0<=y/\y<64:=by
       intro y Y
       rcases List.mem_append.1 Y with Y|Y
       ·exact b1.out y Y
       ·rw[List.mem_singleton]at Y;rw[Y];exact a7
      have M:∀(v2:Value) (w2:World),aC 3 A.heap.size w2 v2 (l++[x])->Below A.heap.size A w2->Calls Tryz.prog 290 #[.slice a' (sets.drop (k+1)).length c',v2,.int .i64 K] w2 fun e w'=>
        ∃ad i cp,e=.returned (.tuple #[.slice ad i cp,.bool (cU gY (sets.drop (k+1)) (l++[x]) K).isSome])/\aC 3 A.heap.size w' (.slice ad i cp) ((cU gY (sets.drop (k+1)) (l++[x]) K).getD [])/\Below w2.heap.size w2 w':=fun v2 w2 h1 h2=>
       IH.out _ c5 (sets.drop (k+1)) (l++[x]) _ v2 K w2 A.heap.size rfl (d2.below (D.after h2 D.size) (Nat.le_refl _)) h1 h2.size (fun y Y=>b4.out y (List.mem_of_mem_drop Y)) L (by rw[List.length_append,List.length_singleton,List.length_drop];omega) hK
      obtain⟨R,hR⟩:∃R,R=cU gY (sets.drop (k+1)) (l++[x]) K:=⟨_,rfl⟩;rw[<-hR]at z;simp only[<-hR,List.length_drop]at M;have U:=Lib.hid M;have HL:=Lib.hid c6;have b0:=Lib.hid c7;have b6:=Lib.hid d0;have g7:(k:Int)+1<=(sets.length:Int):=by omega
      have yB:=D.size;have j0:IntKind.i64.wrap ((k:Int)+1)=(k:Int)+1:=by rw[IntKind.wrap_i64];omega
      clear M c6 c7 d0 hR L d2 c5 b9
      cases R with
      |some y=>
       have HF:=Lib.hid z;clear z;go_region_held3 (fun _=>True) (trivial)
        (first
         |(go_at_call 242;refine(pY _ l _ ?_ HL.out).mono ?_;(first|(with_reducible exact S.ints.drew')|(with_reducible exact(S.ints.alloc _).drew'));rintro e1 wc ⟨p1,i1,q1,rfl,oc,bc⟩;first|(have cx:=keep bc (uX A 3 (.int .i64 x));have O:=(aM A (.cells #[.int .i64 x] 3)).drew.after bc (aM A (.cells #[.int .i64 x] 3)).drew.size;have ob:=oc.mono (aM A (.cells #[.int .i64 x] 3)).drew.size)|(have O:=(Below.refl A.heap.size A).drew.after bc (Nat.le_refl _);have ob:=oc.mono (Nat.le_refl A.heap.size)))
         |(refine cV rfl _ _ _ rfl 3 Tryz.underlying22 aG A.heap.size (.slice p1 i1 q1) l rfl (.slice (some ⟨_,0,none⟩) 1 1) [x] rfl ?_ ?_ b0.out A ?_ (Nat.le_refl _) ?_;(first|(with_reducible exact ob)|(with_reducible exact ob.alloc _));(refine aD.one ?_ b6.out;first|(with_reducible exact aT _ _ _ _ _ rfl)|(with_reducible exact cx));(first|(with_reducible exact O)|(with_reducible exact O.alloc O.size _));(intro v2 w2 o2 b2 _))
         |(go_at_call 290;with_reducible refine(U.out v2 w2 o2 b2).mono ?_;rintro e3 w3 ⟨p3,i3,q3,rfl,o3,b3⟩)
        )
       all_goals
        go_wp2;go_ret2;exact⟨p3,i3,q3,by rw[HF.out];rfl,by rw[HF.out];exact o3.mono (by omega),(D.after b2 D.size).after b3 (D.after b2 D.size).size⟩
      |none=>
       have HF:=Lib.hid z;clear z;go_region_held3 (fun _=>True) (trivial)
        (first
         |(go_at_call 242;refine(pY _ l _ ?_ HL.out).mono ?_;(first|(with_reducible exact S.ints.drew')|(with_reducible exact(S.ints.alloc _).drew'));rintro e1 wc ⟨p1,i1,q1,rfl,oc,bc⟩;first|(have cx:=keep bc (uX A 3 (.int .i64 x));have O:=(aM A (.cells #[.int .i64 x] 3)).drew.after bc (aM A (.cells #[.int .i64 x] 3)).drew.size;have ob:=oc.mono (aM A (.cells #[.int .i64 x] 3)).drew.size)|(have O:=(Below.refl A.heap.size A).drew.after bc (Nat.le_refl _);have ob:=oc.mono (Nat.le_refl A.heap.size)))
         |(refine cV rfl _ _ _ rfl 3 Tryz.underlying22 aG A.heap.size (.slice p1 i1 q1) l rfl (.slice (some ⟨_,0,none⟩) 1 1) [x] rfl ?_ ?_ b0.out A ?_ (Nat.le_refl _) ?_;(first|(with_reducible exact ob)|(with_reducible exact ob.alloc _));(refine aD.one ?_ b6.out;first|(with_reducible exact aT _ _ _ _ _ rfl)|(with_reducible exact cx));(first|(with_reducible exact O)|(with_reducible exact O.alloc O.size _));(intro v2 w2 o2 b2 _))
         |(go_at_call 290;with_reducible refine(U.out v2 w2 o2 b2).mono ?_;rintro e3 w3 ⟨p3,i3,q3,rfl,o3,b3⟩)
        )
       all_goals
        go_wp2;go_roundw
        case rel=>exact⟨k+1,by omega,by go_num,by rw[HF.out];rfl,(D.after b2 D.size).after b3 (D.after b2 D.size).size⟩
        case measure=>simp[intOf];omega
    ·have hr:cU gY sets l K=none:=by
      rw[<-H.out,List.drop_eq_nil_of_le (by omega)];exact nD _ _ _ HK.out
     have HR:=Lib.hid hr;clear hr;go_wp2;go_ret2;exact⟨none,0,0,by rw[HR.out];rfl,by rw[HR.out];exact aC.nil _ _ _,Z⟩
end
end Go.Proofs.YtipejodijbjpcaaGreatDoor
