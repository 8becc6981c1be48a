/- Lemmas for CardConsoleResults. No condition. -/
import Derived.Test.YtkdbkjjacgigiaaGreatDoorQ14
set_option maxRecDepth 100000
set_option maxHeartbeats 64000000
namespace Go.Proofs.YtkdbkjjacgigiaaGreatDoor
section
open Go.RowKit Go.G5 Go.Proofs.Tryz
def tW(N:Nat):Nat->List Int->List (List Int)
 |0,p=>[p]
 |m+1,p=>(List.range N).flatMap fun(x:Nat)=>if gQ p (x:Int) then [] else tW N m (p++[(x:Int)])
def E3(N m:Nat)(p:List Int)(x:Nat):List (List Int):=(List.range x).flatMap fun(x:Nat)=>if gQ p (x:Int) then [] else tW N m (p++[(x:Int)])
theorem SR(N m:Nat)(p:List Int)(x:Nat):E3 N m p (x+1)=E3 N m p x++(if gQ p (x:Int) then [] else tW N m (p++[(x:Int)])):=by
 unfold E3;rw[List.range_succ,List.flatMap_append,List.flatMap_singleton]
theorem LF(N m:Nat)(h:∀p,(tW N m p).length<=6^m)(p:List Int):∀x,(E3 N m p x).length<=x*6^m:=by
 intro x
 induction x with
 |zero=>simp[E3]
 |succ x ih=>
  rw[SR,List.length_append,Nat.succ_mul];have:(if gQ p (x:Int) then [] else tW N m (p++[(x:Int)])).length<=6^m:=by
   split
   ·simp
   ·exact h _
  omega
theorem XQ(N:Nat)(z:N<=6):∀m p,(tW N m p).length<=6^m:=by
 intro m
 induction m with
 |zero=>intro p;simp[tW]
 |succ m ih=>intro p;have h:=LF N m ih p N;have h2:N*6^m<=6*6^m:=Nat.mul_le_mul_right _ z;show(E3 N m p N).length<=_;rw[Nat.pow_succ];omega
theorem ak1(l:List Int):∀e,jP l e=(List.range e).flatMap fun(x:Nat)=>if gQ l (x:Int) then [] else [l++[(x:Int)]]:=by
 intro e
 induction e with
 |zero=>rfl
 |succ e ih=>
  rw[jP,List.range_succ,List.flatMap_append,List.flatMap_singleton,ih]
  cases gQ l (e:Int)<;>simp
theorem aiW(n:Nat)(z:List (List Int)):∀k,k<=z.length->kW n z k=(z.take k).flatMap fun l=>jP l n:=by
 intro k
 induction k with
 |zero=>intro _;rfl
 |succ k ih=>intro hk;rw[kW,ih aD,List.take_succ_eq_append_getElem aD,List.flatMap_append,List.flatMap_singleton,List.getD_eq_getElem?_getD,List.getElem?_eq_getElem (show k<z.length by omega),Option.getD_some]
theorem ak2(N m:Nat)(l:List Int):(jP l N).flatMap (tW N m)=tW N (m+1) l:=by
 rw[ak1,List.flatMap_assoc];show _=(List.range N).flatMap _
 congr 1
 funext x
 cases gQ l (x:Int)<;>simp
theorem ai5(N:Nat):∀m r,(cY N r).flatMap (tW N m)=cY N (r+m):=by
 intro m
 induction m with
 |zero=>intro r;show(cY N r).flatMap (fun p=>[p])=_;simp
 |succ m ih=>
  intro r;rw[show r+(m+1)=(r+1)+m by omega,<-ih (r+1)];show _=List.flatMap (tW N m) (kW N (cY N r) (cY N r).length);rw[aiW _ _ _ aI,List.take_length,List.flatMap_assoc]
  congr 1
  funext l
  exact(ak2 N m l).symm
theorem al3(N:Nat):tW N N []=cY N N:=by
 have h:=ai5 N N 0;rw[Nat.zero_add]at h;rw[<-h];show _=List.flatMap (tW N N) [[]];simp
theorem TS(N : Nat)(hN : N <= 6) : ∀ (m : Nat) (p : List Int) (v : Value) (w : World) (B : Nat), p.length + m = N -> aM 3 B w v p -> B <= w.heap.size ->
    Calls prog 114 #[aG (N : Int), v] w fun e w' => ∃ a i c, e = .returned (aA a i c) /\ cV 3 25 B w' (aA a i c) (tW N m p) /\ Below w w w' := by
  intro m
  induction m with
  | zero =>
    intro p v w B hpm hv hB
    obtain ⟨av, cv, rfl⟩ := hv.shape
    have ht : ((p.length : Int) == (N : Int)) = true := by simp; omega
    have o1 := cV.one (EO := 25) hv hB
    have hpn : p.length = N := aD
    have HP := aH hpn
    clear hpm hpn
    go_enter func114, ntmps114
    go_wp2
    go_ret
    exact ⟨_, _, _, rfl, o1, bF _ _⟩
  | succ m ih =>
    intro p v w B hpm hv hB
    obtain ⟨av, cv, rfl⟩ := hv.shape
    have ht : ((p.length : Int) == (N : Int)) = false := by simp; omega
    have hp5 : p.length <= 6 := aD
    have IH := aH ih
    have HPM := aH hpm
    have HV := aH hv
    have hm4 : m <= 5 := aD
    have h5m : (6 : Nat) ^ m <= 7776 := Nat.le_trans (Nat.pow_le_pow_right aQ hm4) aQ
    have o0 := cV.lit0 (EI := 3) (EO := 25) (B := w.heap.size) w aI
    clear ih hpm hv
    go_enter func114, ntmps114
    go_wp2_with fail
    go_loopw [5, 6] (fun out i wr => ∃ (x : Nat) (a : Option Addr) (q c : Nat), x <= N /\ i = aG x /\ out = aA a q c /\ cV 3 25 w.heap.size wr (aA a q c) (E3 N m p x) /\ Below w w wr) (fun _ i _ => N - (intOf i).toNat)
    case atStart => exact ⟨0, _, _, _, Nat.zero_le _, rfl, rfl, o0, bF _ _⟩
    case round =>
      obtain ⟨x, a, q, c, hx, rfl, rfl, ho, Bw⟩ := hrel
      have hll := LF N m (XQ N hN m) p x
      have hts := SR N m p x
      have hsl := XQ N hN m (p ++ [(x : Int)])
      have hfin : x = N -> E3 N m p x = tW N (m + 1) p := fun h => by rw [h]; rfl
      have HFIN := aH hfin
      obtain ⟨ls, hls0⟩ := aJ (E3 N m p x)
      rw [<- hls0] at ho hll hts HFIN
      have HO := aH ho
      have HTS := aH hts
      have hl5 : ls.length <= 46656 := Nat.le_trans hll (Nat.le_trans (Nat.mul_le_mul (show x <= 6 by omega) h5m) aQ)
      have hvr := (HV.out.below Bw aI).ints
      clear o0 ho hls0 hll hts hfin
      obtain ⟨wz, hwz⟩ : ∃ wz : World, wz = wr := ⟨_, rfl⟩
      by_cases hlt : x < N
      · have hlt2 : (x : Int) < (N : Int) := aD
        obtain ⟨_, b, off, _, hva, _, hix, hc, hb⟩ := hvr.view prog 25 3 underlying25 aN
        injection hva with e1 _ e3
        subst e1 e3
        have HC := aH hc
        have HIX := aH hix
        clear hc hix hb
        go_wp2_with fail
        go_loop [7, 8] (fun u i => ∃ k : Nat, k <= p.length /\ i = aG k /\ u = .bool (decide ((x : Int) ∈ p.take k))) (fun _ i => p.length - (intOf i).toNat)
        case atStart => exact ⟨0, Nat.zero_le _, rfl, by simp⟩
        case round =>
          obtain ⟨k, hk, rfl, rfl⟩ := hrel
          by_cases hkl : k < p.length
          · have hkl2 : (k : Int) < (p.length : Int) := aD
            have ck := HC.out k hkl
            have ik := fun W => HIX.out W k hkl
            have hsu : decide ((x : Int) ∈ p.take (k + 1)) = (decide ((x : Int) ∈ p.take k) || (p[k] == (x : Int))) := by
              rw [List.take_succ_eq_append_getElem hkl]
              simp only [List.mem_append, List.mem_singleton, Bool.decide_or]
              congr 1
              exact decide_eq_decide.2 ⟨fun e => e.symm, fun e => e.symm⟩
            obtain ⟨y, hy⟩ := aJ (p[k])
            rw [<- hy] at ck hsu
            have HSU := aH hsu
            clear hsu hy
            obtain ⟨t, ht2⟩ := isB (decide ((x : Int) ∈ p.take k))
            rw [ht2] at HSU ⊢
            clear ht2
            obtain ⟨t3, ht3⟩ : ∃ t, (y == (x : Int)) = t := ⟨_, rfl⟩
            rw [ht3] at HSU
            cases t with
            | true =>
              go_wp2
              go_round
              case rel => exact ⟨k + 1, by omega, by go_num, by rw [HSU.out]; rfl⟩
              case measure => simp [intOf]; omega
            | false =>
              cases t3 with
              | true =>
                go_wp2
                go_round
                case rel => exact ⟨k + 1, by omega, by go_num, by rw [HSU.out]; rfl⟩
                case measure => simp [intOf]; omega
              | false =>
                go_wp2
                go_round
                case rel => exact ⟨k + 1, by omega, by go_num, by rw [HSU.out]; rfl⟩
                case measure => simp [intOf]; omega
          · have hkp : k = p.length := aD
            have hkl2 : ¬ (k : Int) < (p.length : Int) := aD
            obtain ⟨t, ht2⟩ := isB (decide ((x : Int) ∈ p.take k))
            rw [ht2]
            cases t with
            | true =>
              have hhx : gQ p (x : Int) = true := by rw [<- ht2, hkp, List.take_length]; rfl
              have HHX := aH hhx
              clear ht2 hkp hhx
              go_wp2
              go_roundw
              case rel => exact ⟨x + 1, a, q, c, by omega, by go_num, rfl, by rw [HTS.out, HHX.out]; simpa using HO.out, Bw⟩
              case measure => simp [intOf]; omega
            | false =>
              have hhx : gQ p (x : Int) = false := by rw [<- ht2, hkp, List.take_length]; rfl
              have HHX := aH hhx
              have hER : dL (x : Int) := ⟨by omega, by omega⟩
              have HER := aH hER
              have hrec := fun (v6 : Value) (w6 : World) (h1 : aM 3 wr w6 v6 (([] ++ p) ++ [(x : Int)])) (h2 : wr.heap.size <= w6.heap.size) => IH.out (([] ++ p) ++ [(x : Int)]) v6 w6 wr.heap.size (by have := HPM.out; simp; omega) h1 h2
              have HREC := aH hrec
              clear ht2 hkp hhx hrec hER
              go_wp2_with (first
  | (at_builtin; refine mD rfl _ _ _ rfl 3 underlying25 aN wr.heap.size (aA (some ⟨wr, 0, none⟩) 0 0) [] rfl (aM.lit0 wr aI) (aA av p.length cv) p rfl (hvr.alloc _) aT (bF wr _).size ?_; intro v5 w5 o5 g5 n5; have b5 := (bF wr (.cells #[] 3)).grown g5 (bF wr (.cells #[] 3)).size (fun q hq => ((aM.lit0 (E := 3) wr (Nat.le_refl wr.heap.size)).lt q hq).1))
  | (at_builtin; refine fN rfl _ _ _ rfl 3 underlying25 aN wr.heap.size v5 ([] ++ p) (x : Int) w5.heap.size rfl rfl (aZ _ _ _ _ _ rfl) (o5.alloc _) HER.out aT (b5.alloc b5.size _).size ?_; intro v6 w6 o6 g6 n6; have b6 := (b5.alloc b5.size _).grown g6 (b5.alloc b5.size _).size (fun q hq => (o5.lt q hq).1))
  | (go_at_call 114; refine (HREC.out v6 w6 o6 b6.size).mono ?_; rintro e7 w7 ⟨p7, q7, c7, rfl, o7, b7⟩; have bb := b6.after b7 b6.size; have oo := HO.out.keep bb)
  | (at_builtin; refine PC rfl _ _ _ rfl underlying77 lY yD w.heap.size _ ls rfl oo wr.heap.size _ (tW N m (p ++ [(x : Int)])) rfl o7 Bw.size aD (Bw.after bb Bw.size).size ?_; intro v8 w8 o8 g8 _))
              obtain ⟨a8, n8, c8, rfl⟩ := o8.shape3
              have B7 := Bw.after bb Bw.size
              go_roundw
              case rel => exact ⟨x + 1, a8, n8, c8, by omega, by go_num, rfl, by rw [HTS.out, HHX.out]; exact o8, B7.grown g8 B7.size (fun k hk => (oo.lt k hk).1)⟩
              case measure => simp [intOf]; omega
      · have hxN : x = N := aD
        have hlt2 : ¬ (x : Int) < (N : Int) := aD
        have hle := HFIN.out hxN
        have HLE := aH hle
        clear hxN hle
        go_wp2
        go_ret
        exact ⟨a, q, c, rfl, by rw [<- HLE.out]; exact HO.out.mono hB, Bw⟩
def KY(p:List Int)(s k:Nat):Bool:=cZ s (p.getD k 0).toNat
def rH(p:List Int)(s:Nat):Nat->Int
 |0=>-1
 |k+1=>if KY p s k&&decide (rH p s k<0) then (k:Int) else rH p s k
def wK(p:List Int)(s:Nat):Nat->Int
 |0=>-1
 |k+1=>if KY p s k then (k:Int) else wK p s k
theorem FJ(p:List Int)(s k:Nat):rH p s (k+1)=if KY p s k&&decide (rH p s k<0) then (k:Int) else rH p s k:=rfl
theorem M1(p:List Int)(s k:Nat):wK p s (k+1)=if KY p s k then (k:Int) else wK p s k:=rfl
theorem O5(p:List Int)(s:Nat):∀k:Nat,-1<=rH p s k/\rH p s k<=k:=by
 intro k
 induction k with
 |zero=>exact⟨by simp[rH],by simp[rH]⟩
 |succ k ih=>
  rw[FJ]
  split<;>omega
theorem ajS(p:List Int)(s:Nat):∀k:Nat,-1<=wK p s k/\wK p s k<=k:=by
 intro k
 induction k with
 |zero=>exact⟨by simp[wK],by simp[wK]⟩
 |succ k ih=>
  rw[M1]
  split<;>omega
theorem apH(p:List Int)(s:Nat)(j:Nat)(z:KY p s j=true):∀k,j<k->0<=rH p s k:=by
 intro k
 induction k with
 |zero=>intro h;omega
 |succ k ih=>
  intro h;rw[FJ];by_cases hk:j<k
  ·have:=ih hk
   split<;>omega
  ·have e:j=k:=aD;subst e;rw[z,Bool.true_and]
   split
   ·omega
   ·rename_i h2;rw[decide_eq_true_eq]at h2;omega
def xC(p:List Int)(s:Nat):Bool:=decide (wK p s p.length-rH p s p.length+1=(bY s:Int))
def oW(p:List Int)(s:Int):Bool:=s==0||xC p s.toNat
def mE(l p:List Int):Bool:=l.all (oW p)
theorem aoF:∀s:Nat,s<64->s≠0->∃e,e<6/\(cZ s e=true/\2^e<=s):=by decide +kernel
theorem aaE:∀n,n<7->(cY n n).all (fun p=>(List.range n).all fun e=>gQ p (e:Int))=true:=by decide +kernel
theorem ai4{n:Nat}(F:n<=6){p:List Int}(D:p∈cY n n){e:Nat}(z:e<n):(e:Int)∈p:=by
 have h:=aaE n aD;rw[List.all_eq_true]at h;have h2:=h p D;rw[List.all_eq_true]at h2;exact MC.1 (h2 e (List.mem_range.2 z))
theorem ak7{n:Nat}(J:n<=6){p:List Int}(K:∀e,e<n->(e:Int)∈p)(s:Nat)(N:s<2^n)(F:s≠0):0<=rH p s p.length:=by
 have M:(2:Nat)^n<=64:=Nat.pow_le_pow_right (n:=2) (j:=6) aQ J;obtain⟨e,_,hb,I⟩:=aoF s aD F;have z:e<n:=by
  rcases Nat.lt_or_ge e n with h|h
  ·exact h
  ·have:=Nat.pow_le_pow_right (n:=2) aQ h;omega
 obtain⟨k,hk,D⟩:=List.getElem_of_mem (K e z);refine apH p s k ?_ p.length hk;unfold KY;rw[List.getD_eq_getElem?_getD,List.getElem?_eq_getElem hk,Option.getD_some,D,Int.toNat_natCast];exact hb
def yT(g:Int)(l:List Int):Option (List Int):=(cY g.toNat g.toNat).find? (mE l)
def AK(g:Int)(l:List Int):Bool:=aU g l&&(yT g l).isSome
def oK(g:Int)(l:List Int):List Int:=if aU g l then (yT g l).getD [] else []
theorem VS{z:List (List Int)}{P:List Int->Bool}(k:Nat)(hk:k<z.length)(F:∀j,(D:j<z.length)->j<k->P z[j]=false)(h1:P z[k]=true):z.find? P=some z[k]:=by
 rw[List.find?_eq_some_iff_getElem];exact⟨h1,k,hk,rfl,fun j D=>by rw[F j aD D];rfl⟩
theorem RX{z:List (List Int)}{P:List Int->Bool}(D:∀j,(I:j<z.length)->P z[j]=false):z.find? P=none:=by
 rw[List.find?_eq_none];intro x F;obtain⟨k,hk,rfl⟩:=List.getElem_of_mem F;rw[D k hk];simp
theorem IM(g:Int)(l:List Int):(oK g l).length<=6/\∀x∈oK g l,0<=x/\x<6:=by
 unfold oK
 split
 ·rename_i h;have D:=dB h
  cases hr:yT g l with
  |none=>exact⟨by simp,by simp⟩
  |some p=>unfold yT at hr;have hm:=List.mem_of_find?_eq_some hr;have h2:=uI _ _ p hm;rw[Option.getD_some];refine⟨by omega,fun x z=>by have:=h2.2 x z;omega⟩
 ·exact⟨by simp,by simp⟩
theorem XB{p:Prop}(h:p:=by
  go_wp2_with fail;go_quiet (fail);go_wp2;go_ret;exact⟨aW J.out.symm,((Below.refl _ _).drewN' _).drewN' _⟩):p:=h
theorem IG(l:List Int)(v:Value)(s:Int)(w:World)(hv:aK w v l)(hm:∀x∈l,0<=x/\x<64)(hs:0<=s/\s<64):
  Calls prog 361 #[v,s] w fun e w'=>e=.returned (.bool (lE l s))/\Below w w w':=by
 obtain⟨a,b,b5,c,rfl,e4,S,hc,hb⟩:=hv.view prog 25 3 underlying25 aN;have b4:=hs.1;have f0:=hs.2;go_enter func361,ntmps361;go_wp2;go_loopw [9] (fun i wr=>∃k n:Nat,k<=l.length/\i=aG k/\cA (vX l s) k=true/\wr=w.drewN n) (fun i _=>l.length-(intOf i).toNat)
 case atStart=>exact⟨0,0,Nat.zero_le _,rfl,rfl,rfl⟩
 case round=>
  obtain⟨k,n,hk,rfl,R,rfl⟩:=hrel;have H:=aH R;clear R;by_cases hlt:k<l.length
  ·have b0:=hc k hlt;have a9:=hc 0 aD;have c9:∀w',(Instr.indexAt 25 (aA a l.length c) (aG 0)).run prog w'=.ok (.pointer (some ⟨b,b5,none⟩)) w':=fun w'=>by have:=S w' 0 aD;simpa using this
   have b3:=hm _ (List.getElem_mem hlt);have Z:=hm _ (List.getElem_mem (show 0<l.length by omega));have gk:=aS l k hlt;have g0:=aS l 0 aD;have z:vX l s k=(!(l[k]==s)&&(bB s l[k]==bB s l[0])&&(k==0||bB s l[k]==bB l[0] (l.getD 1 0))):=by unfold vX;rw[gk,g0]
   have e0:=fun W=>S W k hlt;obtain⟨t,ht⟩:=aJ (l[k]);obtain⟨t0,a1⟩:=aJ (l[0]);rw[<-ht]at b0 b3 z;rw[<-a1]at a9 Z z;rw[Nat.add_zero]at a9;have h1:=dU b4 (show s<4611686018427387904 by omega) b3.1 (show t<4611686018427387904 by omega);have h2:=dU b4 (show s<4611686018427387904 by omega) Z.1 (show t0<4611686018427387904 by omega);have b7:=aH a1;have HT:=aH ht;clear ht a1 gk g0;have bad:vX l s k=false->lE l s=false:=fun h=>cW hlt h
   cases c1:(t==s) with
   |true=>have D:=bad (by rw[z,c1];rfl);have J:=aH D;clear D bad z hc hm h1 h2;exact XB
   |false=>
    cases c2:(bB s t != bB s t0) with
    |true=>have D:=bad (by rw[z];have:(bB s t==bB s t0)=false:=(by simpa using c2);rw[this];simp);have J:=aH D;obtain⟨q,M⟩:=aJ (bB s t);obtain⟨q0,I⟩:=aJ (bB s t0);rw[<-M]at h1 c2;rw[<-I]at h2 c2;clear D bad z hc hm M I;exact XB
    |false=>
     have K:(bB s t==bB s t0)=true:=by simpa using c2
     by_cases Y:k=0
     ·have F:vX l s k=true:=by rw[z,c1,K,Y];rfl
      have HG:=aH F;subst Y;have b8:t=t0:=HT.out.trans b7.out.symm;subst b8;obtain⟨q,M⟩:=aJ (bB s t);rw[<-M]at h1;clear F bad z hc hm M K b0 h2 c2;go_wp2_with fail;go_quiet (fail);go_wp2;go_roundw
      case rel=>exact⟨0+1,n+nq,by omega,by go_num,dG H.out HG.out,by simp⟩
      case measure=>simp[intOf];omega
     ·have O:1<l.length:=aD;have b9:=hc 1 O;have d0:∀w',(Instr.indexAt 25 (aA a l.length c) (aG 1)).run prog w'=.ok (.pointer (some ⟨b,b5+1,none⟩)) w':=fun w'=>by have:=S w' 1 O;simpa using this
      have b1:=hm _ (List.getElem_mem O);have g1:=aS l 1 O;rw[g1]at z;obtain⟨t1,a6⟩:=aJ (l[1]);rw[<-a6]at b9 b1 z;have h3:=dU Z.1 (show t0<4611686018427387904 by omega) b1.1 (show t1<4611686018427387904 by omega);have e8:(0:Int)<k:=aD;have e9:0<k:=aD;have c5:(k==0)=false:=by simpa using Y
      cases c4:(bB s t != bB t0 t1) with
      |true=>have D:=bad (by rw[z];have:(bB s t==bB t0 t1)=false:=(by simpa using c4);rw[this,c5];simp);have J:=aH D;obtain⟨q,M⟩:=aJ (bB s t);obtain⟨q0,I⟩:=aJ (bB s t0);obtain⟨q1,N⟩:=aJ (bB t0 t1);rw[<-M]at h1 c2 c4;rw[<-I]at h2 c2;rw[<-N]at h3 c4;clear D bad z hc hm M I N K g1 a6;exact XB
      |false=>
       have a8:(bB s t==bB t0 t1)=true:=by simpa using c4
       have F:vX l s k=true:=by rw[z,c1,K,a8];simp
       have HG:=aH F;obtain⟨q,M⟩:=aJ (bB s t);obtain⟨q0,I⟩:=aJ (bB s t0);obtain⟨q1,N⟩:=aJ (bB t0 t1);rw[<-M]at h1 c2 c4;rw[<-I]at h2 c2;rw[<-N]at h3 c4;clear F bad z hc hm M I N K a8 g1 a6;go_wp2_with fail;go_quiet (fail);go_wp2;go_roundw
       case rel=>exact⟨k+1,n+nq,by omega,by go_num,dG H.out HG.out,by simp⟩
       case measure=>simp[intOf];omega
  ·have c6:k=l.length:=aD;subst c6;go_wp2;go_ret;exact⟨aW H.out.symm,(Below.refl _ _).drewN' _⟩
theorem OC(l:List Int)(v:Value)(w:World)(hv:aK w v l)(hm:∀x∈l,0<=x/\x<64):
  Calls prog 158 #[v] w fun e w'=>e=.returned (.bool (sV l))/\Below w w w':=by
 obtain⟨a,b,b7,c,rfl,f0,b0,hc,hb⟩:=hv.view prog 25 3 underlying25 aN;obtain⟨F,hF⟩:∃F:Nat->Bool,F=fun i=>cA (zO l i) i:=⟨_,rfl⟩;have J:sV l=cA F l.length:=by rw[hF];rfl
 have HS:=aH J;have HF:=aH hF;have HC:=aH hc;have HX:=aH b0;have HM:=aH hm;clear J hF hc b0 hm;go_enter func158,ntmps158;go_wp2;go_loopw [3] (fun i wr=>∃k n:Nat,k<=l.length/\i=aG k/\cA F k=true/\wr=w.drewN n) (fun i _=>l.length-(intOf i).toNat)
 case atStart=>exact⟨0,0,Nat.zero_le _,rfl,rfl,rfl⟩
 case round=>
  obtain⟨k,n,hk,rfl,D,rfl⟩:=hrel;have H:=aH D;clear D;by_cases hlt:k<l.length
  ·have a7:F k=cA (zO l k) k:=by rw[HF.out]
   have bad:F k=false->sV l=false:=fun h=>by rw[HS.out];exact cW hlt h
   have S:=aH bad;have Y:=aH a7;clear bad a7;go_wp2;go_loopw [4] (fun i wr=>∃j n':Nat,j<=k/\i=aG j/\cA (zO l k) j=true/\wr=w.drewN n') (fun i _=>k-(intOf i).toNat)
   case atStart=>exact⟨0,n,Nat.zero_le _,rfl,rfl,rfl⟩
   case round=>
    obtain⟨j,n',hj,rfl,a9,rfl⟩:=hrel;have Z:=aH a9;clear a9;by_cases e0:j<k
    ·have d0:=HC.out k hlt;have c9:=HC.out j aD;have a8:=HC.out 0 aD;have c8:=HC.out 1 aD;rw[Nat.add_zero]at a8;have e9:=fun W=>HX.out W k hlt;have e8:=fun W=>HX.out W j aD;have e6:∀w',(Instr.indexAt 25 (aA a l.length c) (aG 0)).run prog w'=.ok (.pointer (some ⟨b,b7,none⟩)) w':=fun w'=>by have:=HX.out w' 0 aD;simpa using this
     have e7:∀w',(Instr.indexAt 25 (aA a l.length c) (aG 1)).run prog w'=.ok (.pointer (some ⟨b,b7+1,none⟩)) w':=fun w'=>by have:=HX.out w' 1 aD;simpa using this
     have O:=HM.out _ (List.getElem_mem hlt);have N:=HM.out _ (List.getElem_mem (show j<l.length by omega));have K:=HM.out _ (List.getElem_mem (show 0<l.length by omega));have M:=HM.out _ (List.getElem_mem (show 1<l.length by omega));have z:zO l k j=(bB l[k] l[j]==bB l[0] l[1]):=by unfold zO;rw[aS l k hlt,aS l j aD,aS l 0 aD,aS l 1 aD]
     obtain⟨tk,b5⟩:∃t,t=l[k]:=⟨_,rfl⟩;obtain⟨tj,b3⟩:∃t,t=l[j]:=⟨_,rfl⟩;obtain⟨t0,a1⟩:∃t,t=l[0]:=⟨_,rfl⟩;obtain⟨t1,a6⟩:∃t,t=l[1]:=⟨_,rfl⟩;rw[<-b5]at d0 O z;rw[<-b3]at c9 N z;rw[<-a1]at a8 K z;rw[<-a6]at c8 M z;have b1:=dU O.1 (show tk<4611686018427387904 by omega) N.1 (show tj<4611686018427387904 by omega);have b2:=dU K.1 (show t0<4611686018427387904 by omega) M.1 (show t1<4611686018427387904 by omega);obtain⟨q,hq⟩:=aJ (bB tk tj);obtain⟨q0,b6⟩:=aJ (bB t0 t1);rw[<-hq]at b1 z;rw[<-b6]at b2 z;clear b5 b3 a1 a6 hq b6 O N K M
     cases R:zO l k j with
     |false=>
      have ht:(q != q0)=true:=by rw[R]at z;have:=z.symm;simpa using this
      have I:=S.out (by rw[Y.out];exact cW e0 R);have HB:=aH I;clear z R I;go_wp2_with fail;go_quiet (fail);go_wp2;go_ret;exact⟨aW HB.out.symm,((Below.refl _ _).drewN' _).drewN' _⟩
     |true=>
      have ht:(q != q0)=false:=by rw[R]at z;have:=z.symm;simpa using this
      have HP:=aH R;clear z R;go_wp2_with fail;go_quiet (fail);go_wp2;go_roundw
      case rel=>exact⟨j+1,n'+nq,by omega,by go_num,dG Z.out HP.out,by simp⟩
      case measure=>simp[intOf];omega
    ·have b4:j=k:=aD;subst b4;go_wp2;go_roundw
     case rel=>exact⟨j+1,n',by omega,by go_num,dG H.out (by rw[Y.out];exact Z.out),rfl⟩
     case measure=>simp[intOf];omega
  ·have e4:k=l.length:=aD;subst e4;go_wp2;go_ret;exact⟨aW (by rw[HS.out,H.out]),(Below.refl _ _).drewN' _⟩
def VH(l:List Int)(i k:Nat):Bool:=!(l.getD k 0==l.getD i 0)
def O9(l:List Int)(i:Nat):Bool:=eB 6 (l.getD i 0)&&cA (VH l i) i
def xE(l:List Int):Bool:=decide (l.length<=64)&&cA (O9 l) l.length
def gV(l:List Int):Bool:=xE l&&sV l
def AG(l:List Int)(i:Nat):Bool:=lE (l.take i) (l.getD i 0)
theorem IK(s:Int):eB 6 s=true↔0<=s/\s<64:=by unfold eB;simp
theorem FK{l:List Int}(h:xE l=true):l.length<=64/\(∀x∈l,0<=x/\x<64)/\∀i,i<l.length->∀k,k<i->l.getD k 0≠l.getD i 0:=by
 unfold xE at h;obtain⟨h1,h2⟩:=Bool.and_eq_true_iff.1 h;have h2:=eP.1 h2;refine⟨of_decide_eq_true h1,fun x D=>?_,fun i z k hk=>?_⟩
 ·obtain⟨i,z,rfl⟩:=List.getElem_of_mem D;have:=h2 i z;unfold O9 at this;obtain⟨h3,_⟩:=Bool.and_eq_true_iff.1 this;rw[aS l i z]at h3;exact(IK _).1 h3
 ·have:=h2 i z;unfold O9 at this;obtain⟨_,h3⟩:=Bool.and_eq_true_iff.1 this;have h4:=eP.1 h3 k hk;unfold VH at h4;simpa using h4
theorem alH(l:List Int)(s:Int)(h:s∈l):lE l s=false:=by
 obtain⟨i,z,rfl⟩:=List.getElem_of_mem h;unfold lE;refine cW z ?_;unfold vX;rw[aS l i z];simp
theorem aoE(l:List Int):∀n,n<=l.length->(cA (AG l) n=true↔(∀i,i<n->∀k,k<i->l.getD k 0≠l.getD i 0)/\sV (l.take n)=true):=by
 intro n
 induction n with
 |zero=>intro _;simp[cA,sV]
 |succ n ih=>
  intro Y;have F:n<l.length:=aD;have O:l.take (n+1)=l.take n++[l.getD n 0]:=by rw[List.take_succ_eq_append_getElem F,aS l n F]
  have D:l.getD n 0∈l.take n↔∃k,k<n/\l.getD k 0=l.getD n 0:=by
   constructor
   ·intro h;obtain⟨k,hk,J⟩:=List.getElem_of_mem h;have N:k<n:=by simp at hk;omega
    refine⟨k,N,?_⟩;rw[aS l k aD,<-J];simp
   ·rintro⟨k,hk,J⟩;rw[<-J,aS l k aD];exact List.mem_take_iff_getElem.2 ⟨k,by omega,rfl⟩
  rw[cA,Bool.and_eq_true,ih aD,O];constructor
  ·rintro⟨⟨h1,h2⟩,h3⟩;have z:l.getD n 0∉l.take n:=fun hm=>by unfold AG at h3;rw[alH _ _ hm]at h3;cases h3
   refine⟨fun i K k hk=>?_,?_⟩
   ·by_cases M:i<n
    ·exact h1 i M k hk
    ·have:i=n:=aD;subst this;exact fun e=>z (D.2 ⟨k,hk,e⟩)
   ·unfold AG at h3;rw[CN _ _ h2 z]at h3;exact h3
  ·rintro⟨h1,h2⟩;have z:l.getD n 0∉l.take n:=fun hm=>by obtain⟨k,hk,e⟩:=D.1 hm;exact h1 n aD k hk e
   have I:sV (l.take n)=true:=by
    rw[M4]at h2 ⊢;intro i K k hk;have R:(l.take n).length=n:=by simp;omega
    have:=h2 i aT k hk;rw[nJ _ _ i K,nJ _ _ k aD]at this;by_cases S:1<n
    ·rw[nJ _ _ 0 aD,nJ _ _ 1 aD]at this;exact this
    ·omega
   refine⟨⟨fun i K k hk=>h1 i aD k hk,I⟩,?_⟩;unfold AG;rw[CN _ _ I z];exact h2
theorem adC(l:List Int)(D:l.length<=64)(F:dZ 6 l=true):gV l=cA (AG l) l.length:=by
 have I:∀i,i<l.length->eB 6 (l.getD i 0)=true:=by intro i z;unfold dZ at F;simp only[Bool.and_eq_true,List.all_eq_true]at F;rw[aS l i z];exact F.2 _ (List.getElem_mem z)
 have h:=aoE l l.length aI;rw[List.take_of_length_le aI]at h;have e:gV l=true↔cA (AG l) l.length=true:=by
  rw[h];unfold gV;rw[Bool.and_eq_true];constructor
  ·rintro⟨h1,h2⟩;exact⟨(FK h1).2.2,h2⟩
  ·rintro⟨h1,h2⟩;refine⟨?_,h2⟩;unfold xE;rw[decide_eq_true D,Bool.true_and];refine eP.2 fun i z=>?_;unfold O9;rw[I i z,Bool.true_and];exact eP.2 fun k hk=>by unfold VH;simpa using h1 i z k hk
 cases h1:gV l with
 |true=>rw[e.1 h1]
 |false=>
  cases h2:cA (AG l) l.length with
  |false=>rfl
  |true=>rw[e.2 h2]at h1;cases h1
theorem WJ{l:List Int}(h:¬l.length<=64∨dZ 6 l=false):gV l=false:=by
 cases hb:gV l with
 |false=>rfl
 |true=>
  unfold gV at hb;obtain⟨h1,h2,_⟩:=FK (Bool.and_eq_true_iff.1 hb).1;rcases h with h|h
  ·exact absurd h1 h
  ·unfold dZ at h;have:l.all (eB (6:Int).toNat)=true:=List.all_eq_true.2 fun x z=>(IK x).2 (h2 x z);rw[this]at h
   cases h
theorem adA(l:List Int)(v:Value)(w:World)(hv:aK w v l):
  Calls prog 323 #[v] w fun e w'=>e=.returned (.bool (gV l))/\Below w w w':=by
 have K:=hv;obtain⟨a,b,c7,c,rfl,b7,Z,hc,hb⟩:=hv.view prog 25 3 underlying25 aN;by_cases R:l.length<=64
 ·have S:¬(64:Int)<(l.length:Int):=aD
  cases F:dZ 6 l with
  |false=>have D:gV l=false:=WJ (.inr F);have N:=aH D;have O:=aH (rI 6 l _ w K);rw[F]at O;clear D F;go_enter func323,ntmps323;go_wp2_with (go_at_call 219;refine O.out.mono ?_;rintro e w' ⟨rfl,rfl⟩);go_ret;exact⟨aW N.out.symm,Below.refl _ _⟩
  |true=>
   have D:=adC l R F;have hm:∀x∈l,0<=x/\x<64:=by intro x D;unfold dZ at F;simp only[Bool.and_eq_true,List.all_eq_true]at F;exact(IK x).1 (F.2 x D)
   have N:=aH D;have HM:=aH hm;have O:=aH (rI 6 l _ w K);rw[F]at O;clear D F hm;go_enter func323,ntmps323;go_wp2_with (go_at_call 219;refine O.out.mono ?_;rintro e w' ⟨rfl,rfl⟩);go_loopw [15] (fun i wr=>∃k:Nat,k<=l.length/\i=aG k/\cA (AG l) k=true/\Below w w wr) (fun i _=>l.length-(intOf i).toNat)
   case atStart=>exact⟨0,Nat.zero_le _,rfl,rfl,Below.refl _ _⟩
   case round=>
    obtain⟨k,hk,rfl,I,B⟩:=hrel;have H:=aH I;clear I;by_cases hlt:k<l.length
    ·have a6:(k:Int)<(l.length:Int):=aD;have b5:=K.below B aI;obtain⟨u1,u2⟩:=b5.upto 25 3 underlying25 aN k hk;have ck:=aR hc hb B aI k hlt;have ik:=fun W=>Z W k hlt;have Y:AG l k=lE (l.take k) l[k]:=by unfold AG;rw[aS l k hlt]
     have a9:=HM.out _ (List.getElem_mem hlt);have a7:∀x∈l.take k,0<=x/\x<64:=fun x D=>HM.out x (List.mem_of_mem_take D);have M:=aH (IG (l.take k) _ l[k] wr u2 a7 a9);rw[<-Y]at M;obtain⟨y,hy⟩:=aJ (l[k]);rw[<-hy]at M ck;clear Y a7 hy a9 hc Z
     cases z:AG l k with
     |true=>
      rw[z]at M;have b0:=aH z;clear z;go_wp2_with (go_at_call 361;refine M.out.mono ?_;rintro e w3 ⟨rfl,b3⟩);go_roundw
      case rel=>exact⟨k+1,by omega,by go_num,dG H.out b0.out,B.after b3 B.size⟩
      case measure=>simp[intOf];omega
     |false=>
      rw[z]at M;have a8:gV l=false:=by rw[N.out];exact cW hlt z
      have b1:=aH a8;clear z a8;go_wp2_with (go_at_call 361;refine M.out.mono ?_;rintro e w3 ⟨rfl,b3⟩);go_ret;exact⟨aW b1.out.symm,B.after b3 B.size⟩
    ·have a6:¬(k:Int)<(l.length:Int):=aD;have a1:k=l.length:=aD;have J:gV l=true:=by rw[N.out,<-a1];exact H.out
     have HY:=aH J;clear a1 J;go_wp2;go_ret;exact⟨aW HY.out.symm,B⟩
 ·have S:(64:Int)<(l.length:Int):=aD;have D:gV l=false:=WJ (.inl R);have N:=aH D;clear D;go_enter func323,ntmps323;go_wp2;go_ret;exact⟨aW N.out.symm,Below.refl _ _⟩
theorem WO(l:List Int)(v:Value)(w:World)(hv:aK w v l):
  Calls prog 159 #[v] w fun e w'=>e=.returned (.bool (xE l))/\Below w w w':=by
 obtain⟨a,b,b3,c,rfl,f9,a8,hc,hb⟩:=hv.view prog 25 3 underlying25 aN;by_cases b8:l.length<=64
 ·have b9:¬(64:Int)<(l.length:Int):=aD;have hx:xE l=cA (O9 l) l.length:=by unfold xE;rw[decide_eq_true b8,Bool.true_and]
  have HX:=aH hx;clear hx;go_enter func159,ntmps159;go_wp2_with fail;go_loopw [3] (fun i wr=>∃k:Nat,k<=l.length/\i=aG k/\cA (O9 l) k=true/\Below w w wr) (fun i _=>l.length-(intOf i).toNat)
  case atStart=>exact⟨0,Nat.zero_le _,rfl,rfl,Below.refl _ _⟩
  case round=>
   obtain⟨k,hk,rfl,K,B⟩:=hrel;have H:=aH K;clear K;by_cases hlt:k<l.length
   ·have c7:(k:Int)<(l.length:Int):=aD;have Y:=aR hc hb B aI k hlt;have ik:=fun W=>a8 W k hlt;have F:=aS l k hlt;have b0:O9 l k=(eB 6 l[k]&&cA (VH l k) k):=by unfold O9;rw[F]
    have HC:=aH hc;have b6:=aH a8;have a7:dV l[k] 0 63=eB 6 l[k]:=by
     cases I:eB 6 l[k]with
     |true=>have:=(IK _).1 I;exact cR.2 ⟨this.1,by omega⟩
     |false=>
      cases hq:dV l[k] 0 63 with
      |false=>rfl
      |true=>
       have h2:=cR.1 hq;have:=(IK l[k]).2 ⟨h2.1,by omega⟩;rw[this]at I
       cases I
    obtain⟨y,hy⟩:=aJ (l[k]);rw[<-hy]at Y b0 a7 F;have O:=aH a7;have e6:=aH F;have e8:=aH hy.symm;have S:=aH b0;have Z:(63:Int)=2^(6:Int).toNat-1:=by decide
    have f8:=aH Z;rw[Z]at O;clear a7 F b0 hc a8 hy Z
    cases I:eB 6 y with
    |false=>
     have D:xE l=false:=by rw[HX.out];exact cW hlt (by rw[S.out,I];rfl)
     have R:=aH D;have HS:=aH I;clear D I;have d0:∀x:Ext wr,x.w.cell? ⟨b,b3+k,none⟩=some (aG y):=fun x=>x.cell Y;go_wp2_with fail;refine bH _ aO aO ?_
     repeat(first|go_big_quiet_skip|(go_big_quiet_want;go_big_quiet_op;first|go_big_quiet_on|(apply Exists.intro;refine⟨fun _=>?_,?_⟩;(first|(go_at_call 78;exact dN (ET 6 _ aQ aQ))|(go_at_call 77;exact RS (cP _ _ _ _) (O.out.trans HS.out)));go_big_quiet_on)))
     refine wpQuiet_nil ?_;rintro w3 ⟨⟨w3,a1⟩,rfl⟩
     try dsimp only
     go_wp2;go_ret;exact⟨aW R.out.symm,B.after a1 B.size⟩
    |true=>
     have HS:=aH I;clear I;have d0:∀x:Ext wr,x.w.cell? ⟨b,b3+k,none⟩=some (aG y):=fun x=>x.cell Y;go_wp2_with fail;refine bH _ aO aO ?_
     repeat(first|go_big_quiet_skip|(go_big_quiet_want;go_big_quiet_op;first|go_big_quiet_on|(apply Exists.intro;refine⟨fun _=>?_,?_⟩;(first|(go_at_call 78;exact dN (ET 6 _ aQ aQ))|(go_at_call 77;exact RS (cP _ _ _ _) (O.out.trans HS.out)));go_big_quiet_on)))
     refine wpQuiet_nil ?_;rintro w3 ⟨⟨w3,a1⟩,rfl⟩
     try dsimp only
     clear d0;have B3:=B.after a1 B.size;obtain⟨wo,rfl⟩:∃wo:World,wo=w3:=⟨_,rfl⟩;go_wp2_with fail;go_loopw [4] (fun i wi=>∃j:Nat,j<=k/\i=aG j/\cA (VH l k) j=true/\Below w w wi) (fun i _=>k-(intOf i).toNat)
     case atStart=>exact⟨0,Nat.zero_le _,rfl,rfl,B3⟩
     case round=>
      obtain⟨j,hj,rfl,M,Bj⟩:=hrel;obtain⟨wi,f3⟩:∃wi:World,wi=wr:=⟨_,rfl⟩;subst f3;clear B3;have HD:=aH M;clear M Y ik;have Y:=aR HC.out hb Bj aI k hlt;have g8:wi.cell? ⟨b,b3+k,none⟩=some (aG y):=by rw[Y,e8.out]
      clear Y;by_cases f2:j<k
      ·have c5:(j:Int)<(k:Int):=aD;have a9:j<l.length:=aD;have cj:=aR HC.out hb Bj aI j a9;have ij:=fun W=>b6.out W j a9;have ik:=fun W=>b6.out W k hlt;have a6:VH l k j=!(l[j]==y):=by unfold VH;rw[aS l j a9,e6.out]
       obtain⟨z,hz⟩:=aJ (l[j]);rw[<-hz]at cj a6;have b5:=aH a6;clear hz a6;by_cases J:z=y
       ·have b1:(z==y)=true:=by simp[J]
        have D:xE l=false:=by rw[HX.out];exact cW hlt (by rw[S.out];rw[cW f2 (by rw[b5.out,b1];rfl)];simp)
        have R:=aH D;clear D J;go_wp2;go_quiet (fail);go_wp2;go_ret;exact⟨aW R.out.symm,Bj.drewN' _⟩
       ·have b1:(z==y)=false:=by simp[J]
        have e9:=aH b1;clear J;go_wp2;go_quiet (fail);go_wp2;go_roundw
        case rel=>exact⟨j+1,by omega,by go_num,dG HD.out (by rw[b5.out,e9.out];rfl),Bj.drewN' _⟩
        case measure=>simp[intOf];omega
      ·have c5:¬(j:Int)<(k:Int):=aD;have f0:j=k:=aD;subst f0;have c8:O9 l j=true:=by rw[S.out,HS.out,HD.out];rfl
       have e7:=aH c8;clear c8;go_wp2;go_roundw
       case rel=>exact⟨j+1,by omega,by go_num,dG H.out e7.out,Bj⟩
       case measure=>simp[intOf];omega
   ·have c7:¬(k:Int)<(l.length:Int):=aD;have c6:k=l.length:=aD;have N:xE l=true:=by rw[HX.out,<-c6];exact H.out
    have HY:=aH N;clear c6 N;go_wp2;go_ret;exact⟨aW HY.out.symm,B⟩
 ·have b9:(64:Int)<(l.length:Int):=aD;have hx:xE l=false:=by unfold xE;rw[decide_eq_false b8];rfl
  have HX:=aH hx;clear hx;go_enter func159,ntmps159;go_wp2;go_ret;exact⟨aW HX.out.symm,Below.refl _ _⟩
def uT(l:List Int):Bool:=gV l&&decide (2<=l.length)
def mV(l:List Int):Int:=if uT l then bB (l.getD 0 0) (l.getD 1 0) else 0
theorem O7{l:List Int}(h:gV l=true):l.length<=64/\∀x∈l,0<=x/\x<64:=by
 unfold gV at h;have:=FK (Bool.and_eq_true_iff.1 h).1;exact⟨this.1,this.2.1⟩
theorem adB(l:List Int)(v:Value)(w:World)(K:aK w v l):
  Calls prog 117 #[v] w fun e w'=>e=.returned (.bool (gV l))/\Below w w w':=by
 have I:=aH (WO l v w K)
 cases z:xE l with
 |false=>
  have F:gV l=false:=by unfold gV;rw[z];rfl
  have J:=aH F;rw[z]at I;clear F z;go_enter func117,ntmps117;go_wp2_with (go_at_call 159;refine I.out.mono ?_;rintro e w1 ⟨rfl,D⟩);go_ret;exact⟨aW J.out.symm,D⟩
 |true=>
  have F:gV l=sV l:=by unfold gV;rw[z];rfl
  have hm:=(FK z).2.1;have J:=aH F;rw[z]at I;have M:=aH (fun W (h:Below w w W)=>OC l v W (K.below h aI) hm);clear F z hm;go_enter func117,ntmps117;go_wp2_with (first|(go_at_call 159;refine I.out.mono ?_;rintro e w1 ⟨rfl,D⟩)|(go_at_call 158;refine(M.out w1 D).mono ?_;rintro e N ⟨rfl,b2⟩));go_ret;exact⟨aW J.out.symm,D.after b2 D.size⟩
theorem Z4(l:List Int)(v:Value)(w:World)(hv:aK w v l):
  Calls prog 241 #[v] w fun e w'=>e=.returned (.tuple #[(mV l),.bool (uT l)])/\Below w w w':=by
 have R:=aH (adA l v w hv);obtain⟨a,b,F,c,rfl,a7,K,hc,hb⟩:=hv.view prog 25 3 underlying25 aN;by_cases h2:2<=l.length
 ·have a6:¬(l.length:Int)<2:=aD
  cases J:gV l with
  |false=>
   have z:uT l=false:=by unfold uT;rw[J];rfl
   have D:mV l=0:=by unfold mV;rw[z];rfl
   have I:=aH (And.intro z D);rw[J]at R;clear z D J;go_enter func241,ntmps241;go_wp2_with (go_at_call 323;refine R.out.mono ?_;rintro e w1 ⟨rfl,M⟩);go_ret2;exact⟨by rw[I.out.1,I.out.2];rfl,M⟩
  |true=>
   rw[J]at R;have z:uT l=true:=by unfold uT;rw[J,decide_eq_true h2];rfl
   have D:mV l=bB (l.getD 0 0) (l.getD 1 0):=by unfold mV;rw[z];rfl
   have N:=(O7 J).2 _ (List.getElem_mem (show 0<l.length by omega));have O:=(O7 J).2 _ (List.getElem_mem (show 1<l.length by omega));rw[aS l 0 aD,aS l 1 aD]at D;have c0:∀W,Below w w W->W.cell? ⟨b,F,none⟩=some (aG (l[0]'aD)):=fun W h=>aR hc hb h aI 0 aD;have c1:∀W,Below w w W->W.cell? ⟨b,F+1,none⟩=some (aG (l[1]'aD)):=fun W h=>aR hc hb h aI 1 aD;have i0:∀W,(Instr.indexAt 25 (aA a l.length c) (aG 0)).run prog W=.ok (.pointer (some ⟨b,F,none⟩)) W:=fun W=>K W 0 aD;have i1:∀W,(Instr.indexAt 25 (aA a l.length c) (aG 1)).run prog W=.ok (.pointer (some ⟨b,F+1,none⟩)) W:=fun W=>K W 1 aD;obtain⟨p,S⟩:=aJ (l[0]'aD);obtain⟨q,Y⟩:=aJ (l[1]'aD);simp only[<-S]at c0;simp only[<-Y]at c1;rw[<-S,<-Y]at D;rw[<-S]at N;rw[<-Y]at O;have a9:=dU N.1 (show p<4611686018427387904 by omega) O.1 (show q<4611686018427387904 by omega);have I:=aH (And.intro z D);have Z:=aH c0;have a1:=aH c1;clear z D S Y c0 c1 hc K J;go_enter func241,ntmps241;go_wp2_with (go_at_call 323;refine R.out.mono ?_;rintro e w1 ⟨rfl,M⟩;have c0:=Z.out w1 M;have c1:=a1.out w1 M);go_quiet (fail);go_wp2;go_ret2;exact⟨by rw[I.out.1,I.out.2];rfl,M.drewN' _⟩
 ·have a6:(l.length:Int)<2:=aD;have z:uT l=false:=by unfold uT;rw[decide_eq_false h2];simp
  have D:mV l=0:=by unfold mV;rw[z];rfl
  have I:=aH (And.intro z D);clear z D;go_enter func241,ntmps241;go_wp2;go_ret2;exact⟨by rw[I.out.1,I.out.2];rfl,Below.refl _ _⟩
theorem aiJ{p:Prop}(h:p:=by
  clear z D I;go_enter func74,ntmps74;go_wp2_with (go_at_call 117;refine R.out.mono ?_;rintro e w1 ⟨rfl,M⟩);go_ret2;exact⟨by rw[K.out.1,K.out.2];rfl,M⟩):p:=h
theorem Z5(l:List Int)(v:Value)(w:World)(hv:aK w v l):
  Calls prog 74 #[v] w fun e w'=>e=.returned (.tuple #[(mV l),.bool (uT l)])/\Below w w w':=by
 have R:=aH (adB l v w hv);obtain⟨a,b,F,c,rfl,a7,J,hc,hb⟩:=hv.view prog 25 3 underlying25 aN
 cases I:gV l with
 |false=>
  have z:uT l=false:=by unfold uT;rw[I];rfl
  have D:mV l=0:=by unfold mV;rw[z];rfl
  have K:=aH (And.intro z D);rw[I]at R;exact aiJ
 |true=>
  rw[I]at R;by_cases h2:2<=l.length
  ·have a6:¬(l.length:Int)<2:=aD;have z:uT l=true:=by unfold uT;rw[I,decide_eq_true h2];rfl
   have D:mV l=bB (l.getD 0 0) (l.getD 1 0):=by unfold mV;rw[z];rfl
   have N:=(O7 I).2 _ (List.getElem_mem (show 0<l.length by omega));have O:=(O7 I).2 _ (List.getElem_mem (show 1<l.length by omega));rw[aS l 0 aD,aS l 1 aD]at D;have c0:∀W,Below w w W->W.cell? ⟨b,F,none⟩=some (aG (l[0]'aD)):=fun W h=>aR hc hb h aI 0 aD;have c1:∀W,Below w w W->W.cell? ⟨b,F+1,none⟩=some (aG (l[1]'aD)):=fun W h=>aR hc hb h aI 1 aD;have i0:∀W,(Instr.indexAt 25 (aA a l.length c) (aG 0)).run prog W=.ok (.pointer (some ⟨b,F,none⟩)) W:=fun W=>J W 0 aD;have i1:∀W,(Instr.indexAt 25 (aA a l.length c) (aG 1)).run prog W=.ok (.pointer (some ⟨b,F+1,none⟩)) W:=fun W=>J W 1 aD;obtain⟨p,S⟩:=aJ (l[0]'aD);obtain⟨q,Y⟩:=aJ (l[1]'aD);simp only[<-S]at c0;simp only[<-Y]at c1;rw[<-S,<-Y]at D;rw[<-S]at N;rw[<-Y]at O;have a9:=dU N.1 (show p<4611686018427387904 by omega) O.1 (show q<4611686018427387904 by omega);have K:=aH (And.intro z D);have Z:=aH c0;have a1:=aH c1;clear z D S Y c0 c1 hc J I;go_enter func74,ntmps74;go_wp2_with (go_at_call 117;refine R.out.mono ?_;rintro e w1 ⟨rfl,M⟩;have c0:=Z.out w1 M;have c1:=a1.out w1 M);go_quiet (fail);go_wp2;go_ret2;exact⟨by rw[K.out.1,K.out.2];rfl,M.drewN' _⟩
  ·have a6:(l.length:Int)<2:=aD;have z:uT l=false:=by unfold uT;rw[decide_eq_false h2];simp
   have D:mV l=0:=by unfold mV;rw[z];rfl
   have K:=aH (And.intro z D);exact aiJ
end
end Go.Proofs.YtkdbkjjacgigiaaGreatDoor
