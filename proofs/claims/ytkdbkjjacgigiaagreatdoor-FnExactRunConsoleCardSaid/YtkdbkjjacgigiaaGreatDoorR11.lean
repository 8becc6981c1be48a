/- Lemmas for CardRunConsole. No condition. -/
import Derived.Test.YtkdbkjjacgigiaaGreatDoorR09
import Derived.Test.YtkdbkjjacgigiaaGreatDoorR10
set_option maxRecDepth 100000
set_option maxHeartbeats 64000000
namespace Go.Proofs.YtkdbkjjacgigiaaGreatDoor
section
open Go.RowKit Go.G5 Go.Proofs.Tryz
variable(w:World)(n:Int)(v:Value)(l:aI)
def wO(N:Nat):Nat->List Int->List (List Int)
 |0,p=>[p]
 |m+1,p=>(List.range N).flatMap fun(x:Nat)=>if jI p (x:Int) then [] else wO N m (p++[(x:Int)])
def JH(N m:Nat)(p:List Int)(x:Nat):List (List Int):=(List.range x).flatMap fun(x:Nat)=>if jI p (x:Int) then [] else wO N m (p++[(x:Int)])
theorem VP(N m:Nat)(p:aI)(x:Nat):JH N m p (x+1)=JH N m p x++(if jI p (x:Int) then [] else wO N m (p++[(x:Int)])):=by
 unfold JH;rw[List.range_succ,List.flatMap_append,List.flatMap_singleton]
theorem OF(N m:Nat)(h:∀p,(wO N m p).length<=6^m)(p:aI):∀x,(JH N m p x).length<=x*6^m:=by
 intro x
 induction x with
 |zero=>simp[JH]
 |succ x ih=>
  rw[VP,bN,Nat.succ_mul];have:(if jI p (x:Int) then [] else wO N m (p++[(x:Int)])).length<=6^m:=by
   split
   .simp
   .exact h _
  omega
theorem aaB(N:Nat)(z:N<=6):∀m p,(wO N m p).length<=6^m:=by
 intro m
 induction m with
 |zero=>intro p;simp[wO]
 |succ m ih=>intro p;have h:=OF N m ih p N;have h2:N*6^m<=6*6^m:=Nat.mul_le_mul_right _ z;show(JH N m p N).length<=_;rw[Nat.pow_succ];omega
theorem anG:∀e,mB l e=(List.range e).flatMap fun(x:Nat)=>if jI l (x:Int) then [] else [l++[(x:Int)]]:=by
 intro e
 induction e with
 |zero=>rfl
 |succ e ih=>
  rw[mB,List.range_succ,List.flatMap_append,List.flatMap_singleton,ih]
  cases jI l (e:Int)<;>simp
theorem alG(n:Nat)(z:List aI):∀k,k<=z.length->nL n z k=(z.take k).flatMap fun l=>mB l n:=by
 intro k
 induction k with
 |zero=>intro _;rfl
 |succ k ih=>intro hk;rw[nL,ih aA,cH aA,List.flatMap_append,List.flatMap_singleton,bR,cG (show k<z.length from aA),Option.getD_some]
theorem anH(N m:Nat)(l:aI):(mB l N).flatMap (wO N m)=wO N (m+1) l:=by
 rw[anG,List.flatMap_assoc];show _=(List.range N).flatMap _
 congr 1
 funext x
 cases jI l (x:Int)<;>simp
theorem alO(N:Nat):∀m r,(eV N r).flatMap (wO N m)=eV N (r+m):=by
 intro m
 induction m with
 |zero=>intro r;show(eV N r).flatMap (fun p=>[p])=_;simp
 |succ m ih=>
  intro r;rw[show r+(m+1)=(r+1)+m from aA,<-ih (r+1)];show _=List.flatMap (wO N m) (nL N (eV N r) (eV N r).length);rw[alG _ _ _ aU,List.take_length,List.flatMap_assoc]
  congr 1
  funext l
  exact(anH N m l).symm
theorem aoP(N:Nat):wO N N []=eV N N:=by
 have h:=alO N N 0;rw[Nat.zero_add]at h;rw[<-h];show _=List.flatMap (wO N N) [[]];simp
theorem WS(N : Nat)(hN : N <= 6) : ∀ (m : Nat) (p : aI) (v : Value) (w : World) (B : Nat), p.length + m = N -> bB 3 B w v p -> B <= w.heap.size ->
    Calls prog 114 #[aO (N : Int), v] w fun e w' => ∃ a i c, e = aQ (aD a i c) /\ eR 3 25 B w' (aD a i c) (wO N m p) /\ Below w w w' := by
  intro m
  induction m with
  | zero =>
    intro p v w B hpm hv hB
    obtain ⟨av, cv, rfl⟩ := hv.shape
    have ht : ((p.length : Int) == (N : Int)) = true := bO
    have o1 := eR.one (EO := 25) hv hB
    have hpn : p.length = N := aA
    have HP := aT hpn
    clear hpm hpn
    go_enter func114, ntmps114
    go_wp2
    go_ret
    exact ⟨_, _, _, rfl, o1, cQ _ _⟩
  | succ m ih =>
    intro p v w B hpm hv hB
    obtain ⟨av, cv, rfl⟩ := hv.shape
    have ht : ((p.length : Int) == (N : Int)) = false := bO
    have hp5 : p.length <= 6 := aA
    have IH := aT ih
    have HPM := aT hpm
    have HV := aT hv
    have hm4 : m <= 5 := aA
    have h5m : (6 : Nat) ^ m <= 7776 := dC (bQ bZ hm4) bZ
    have o0 := eR.lit0 (EI := 3) (EO := 25) (B := w.heap.size) w aU
    clear ih hpm hv
    go_enter func114, ntmps114
    go_wp2_with fail
    go_loopw [5, 6] (fun out i wr => ∃ (x : Nat) (a : Option Addr) (q c : Nat), x <= N /\ i = aO x /\ out = aD a q c /\ eR 3 25 w.heap.size wr (aD a q c) (JH N m p x) /\ Below w w wr) (fun _ i _ => N - (intOf i).toNat)
    case atStart => exact ⟨0, _, _, _, aZ _, rfl, rfl, o0, cQ _ _⟩
    case round =>
      obtain ⟨x, a, q, c, hx, rfl, rfl, ho, Bw⟩ := hrel
      have hll := OF N m (aaB N hN m) p x
      have hts := VP N m p x
      have hsl := aaB N hN m (p ++ [(x : Int)])
      have hfin : x = N -> JH N m p x = wO N (m + 1) p := fun h => by rw [h]; rfl
      have HFIN := aT hfin
      obtain ⟨ls, hls0⟩ := aW (JH N m p x)
      rw [<- hls0] at ho hll hts HFIN
      have HO := aT ho
      have HTS := aT hts
      have hl5 : ls.length <= 46656 := dC hll (dC (Nat.mul_le_mul (show x <= 6 from aA) h5m) bZ)
      have hvr := (HV.out.below Bw aU).ints
      clear o0 ho hls0 hll hts hfin
      obtain ⟨wz, hwz⟩ : ∃ wz : World, wz = wr := ⟨_, rfl⟩
      by_cases hlt : x < N
      . have hlt2 : (x : Int) < (N : Int) := aA
        obtain ⟨_, b, off, _, hva, _, hix, hc, hb⟩ := hvr.vw
        injection hva with e1 _ e3
        subst e1 e3
        have HC := aT hc
        have HIX := aT hix
        clear hc hix hb
        go_wp2_with fail
        go_loop [7, 8] (fun u i => ∃ k : Nat, k <= p.length /\ i = aO k /\ u = aG (decide ((x : Int) ∈ p.take k))) (fun _ i => p.length - (intOf i).toNat)
        case atStart => exact ⟨0, aZ _, rfl, bF⟩
        case round =>
          obtain ⟨k, hk, rfl, rfl⟩ := hrel
          by_cases hkl : k < p.length
          . have hkl2 : (k : Int) < (p.length : Int) := aA
            have ck := HC.out k hkl
            have ik := fun W => HIX.out W k hkl
            have hsu : decide ((x : Int) ∈ p.take (k + 1)) = (decide ((x : Int) ∈ p.take k) || (p[k] == (x : Int))) := by
              rw [cH hkl]
              simp only [List.mem_append, List.mem_singleton, Bool.decide_or]
              congr 1
              exact decide_eq_decide.2 ⟨fun e => e.symm, fun e => e.symm⟩
            obtain ⟨y, hy⟩ := aW (p[k])
            rw [<- hy] at ck hsu
            have HSU := aT hsu
            clear hsu hy
            obtain ⟨t, ht2⟩ := isB (decide ((x : Int) ∈ p.take k))
            rw [ht2] at HSU |-
            clear ht2
            obtain ⟨t3, ht3⟩ : ∃ t, (y == (x : Int)) = t := ⟨_, rfl⟩
            rw [ht3] at HSU
            cases t with
            | true =>
              go_wp2
              go_round
              case rel => exact ⟨k + 1, aA, cD, by rw [HSU.out]; rfl⟩
              case measure => exact aY
            | false =>
              cases t3 with
              | true =>
                go_wp2
                go_round
                case rel => exact ⟨k + 1, aA, cD, by rw [HSU.out]; rfl⟩
                case measure => exact aY
              | false =>
                go_wp2
                go_round
                case rel => exact ⟨k + 1, aA, cD, by rw [HSU.out]; rfl⟩
                case measure => exact aY
          . have hkp : k = p.length := aA
            have hkl2 : ¬ (k : Int) < (p.length : Int) := aA
            obtain ⟨t, ht2⟩ := isB (decide ((x : Int) ∈ p.take k))
            rw [ht2]
            cases t with
            | true =>
              have hhx : jI p (x : Int) = true := by rw [<- ht2, hkp, List.take_length]; rfl
              have HHX := aT hhx
              clear ht2 hkp hhx
              go_wp2
              go_roundw
              case rel => exact ⟨x + 1, a, q, c, aA, cD, rfl, by rw [HTS.out, HHX.out]; simpa using HO.out, Bw⟩
              case measure => exact aY
            | false =>
              have hhx : jI p (x : Int) = false := by rw [<- ht2, hkp, List.take_length]; rfl
              have HHX := aT hhx
              have hER : fM (x : Int) := ⟨aA, aA⟩
              have HER := aT hER
              have hrec := fun (v6 : Value) (w6 : World) (h1 : bB 3 wr w6 v6 (([] ++ p) ++ [(x : Int)])) (h2 : wr.heap.size <= w6.heap.size) => IH.out (([] ++ p) ++ [(x : Int)]) v6 w6 wr.heap.size (by have := HPM.out; simp; omega) h1 h2
              have HREC := aT hrec
              clear ht2 hkp hhx hrec hER
              go_wp2_with (first
  | (at_builtin; refine qH rfl _ _ _ rfl 3 underlying25 intElem wr.heap.size (aD (some ⟨wr, 0, none⟩) 0 0) [] rfl (bB.lit0 wr aU) (aD av p cv) p rfl (hvr.alloc _) bO (cQ wr _).size ?_; intro v5 w5 o5 g5 n5; have b5 := (cQ wr (.cells #[] 3)).grown g5 (cQ wr (.cells #[] 3)).size (fun q hq => ((bB.lit0 (E := 3) wr (Nat.le_refl wr.heap.size)).lt q hq).1))
  | (at_builtin; refine kX rfl _ _ _ rfl 3 underlying25 intElem wr.heap.size v5 ([] ++ p) (x : Int) w5.heap.size rfl rfl (cR _ _ _ _ _ rfl) (o5.alloc _) HER.out bO (b5.alloc b5.size _).size ?_; intro v6 w6 o6 g6 n6; have b6 := (b5.alloc b5.size _).grown g6 (b5.alloc b5.size _).size (fun q hq => (o5.lt q hq).1))
  | (go_at_call 114; refine (HREC.out v6 w6 o6 b6.size).mono ?_; rintro e7 w7 ⟨p7, q7, c7, rfl, o7, b7⟩; have bb := b6.after b7 b6.size; have oo := HO.out.keep bb)
  | (at_builtin; refine R8 rfl _ _ _ rfl underlying77 pU BG w.heap.size _ ls rfl oo wr.heap.size _ (wO N m (p ++ [(x : Int)])) rfl o7 Bw.size aA (Bw.after bb Bw.size).size ?_; intro v8 w8 o8 g8 _))
              obtain ⟨a8, n8, c8, rfl⟩ := o8.shape3
              have B7 := Bw.after bb Bw.size
              go_roundw
              case rel => exact ⟨x + 1, a8, n8, c8, aA, cD, rfl, by rw [HTS.out, HHX.out]; exact o8, B7.grown g8 B7.size (fun k hk => (oo.lt k hk).1)⟩
              case measure => exact aY
      . have hxN : x = N := aA
        have hlt2 : ¬ (x : Int) < (N : Int) := aA
        have hle := HFIN.out hxN
        have HLE := aT hle
        clear hxN hle
        go_wp2
        go_ret
        exact ⟨a, q, c, rfl, by rw [<- HLE.out]; exact HO.out.mono hB, Bw⟩
def N8(p:List Int)(s k:Nat):Bool:=eI s (p.getD k 0).toNat
def uJ(p:List Int)(s:Nat):Nat->Int
 |0=>-1
 |k+1=>if N8 p s k&&decide (uJ p s k<0) then (k:Int) else uJ p s k
def zJ(p:List Int)(s:Nat):Nat->Int
 |0=>-1
 |k+1=>if N8 p s k then (k:Int) else zJ p s k
theorem JW(p:aI)(s k:Nat):uJ p s (k+1)=if N8 p s k&&decide (uJ p s k<0) then (k:Int) else uJ p s k:=rfl
theorem PN(p:aI)(s k:Nat):zJ p s (k+1)=if N8 p s k then (k:Int) else zJ p s k:=rfl
theorem RT(p:aI)(s:Nat):∀k:Nat,-1<=uJ p s k/\uJ p s k<=k:=by
 intro k
 induction k with
 |zero=>exact⟨by simp[uJ],by simp[uJ]⟩
 |succ k ih=>
  rw[JW]
  split<;>omega
theorem al8(p:aI)(s:Nat):∀k:Nat,-1<=zJ p s k/\zJ p s k<=k:=by
 intro k
 induction k with
 |zero=>exact⟨by simp[zJ],by simp[zJ]⟩
 |succ k ih=>
  rw[PN]
  split<;>omega
theorem arY(p:aI)(s:Nat)(j:Nat)(z:N8 p s j=true):∀k,j<k->0<=uJ p s k:=by
 intro k
 induction k with
 |zero=>intro h;omega
 |succ k ih=>
  intro h;rw[JW];by_cases hk:j<k
  .have:=ih hk
   split<;>omega
  .have e:j=k:=aA;subst e;rw[z,Bool.true_and]
   split
   .omega
   .rename_i h2;rw[decide_eq_true_eq]at h2;omega
def AC(p:List Int)(s:Nat):Bool:=decide (zJ p s p.length-uJ p s p.length+1=(dG s:Int))
def tF(p:List Int)(s:Int):Bool:=s==0||AC p s.toNat
def qK(l p:List Int):Bool:=l.all (tF p)
theorem aqW:∀s:Nat,s<64->s≠0->∃e,e<6/\(eI s e=true/\2^e<=s):=dS
theorem acP:∀n,n<7->(eV n n).all (fun p=>(List.range n).all fun e=>jI p (e:Int))=true:=dS
theorem alN{n:Nat}(F:n<=6){p:aI}(D:p∈eV n n){e:Nat}(z:e<n):(e:Int)∈p:=by
 have h:=acP n aA;rw[List.all_eq_true]at h;have h2:=h p D;rw[List.all_eq_true]at h2;exact O0.1 (h2 e (List.mem_range.2 z))
theorem anN{n:Nat}(J:n<=6){p:aI}(K:∀e,e<n->(e:Int)∈p)(s:Nat)(N:s<2^n)(F:s≠0):0<=uJ p s p.length:=by
 have M:(2:Nat)^n<=64:=bQ (n:=2) (j:=6) bZ J;obtain⟨e,_,hb,I⟩:=aqW s aA F;have z:e<n:=by
  rcases Nat.lt_or_ge e n with h|h
  .exact h
  .have:=bQ (n:=2) bZ h;omega
 obtain⟨k,hk,D⟩:=List.getElem_of_mem (K e z);refine arY p s k ?_ p.length hk;unfold N8;rw[bR,cG hk,Option.getD_some,D,cA];exact hb
def CA(g:Int)(l:List Int):Option (List Int):=(eV g.toNat g.toNat).find? (qK l)
def DD(g:Int)(l:List Int):Bool:=cO g l&&(CA g l).isSome
def tB(g:Int)(l:List Int):List Int:=if cO g l then (CA g l).getD [] else []
theorem YO{z:List aI}{P:aI->Bool}(k:Nat)(hk:k<z)(F:∀j,(D:j<z.length)->j<k->P z[j]=false)(h1:P z[k]=true):z.find? P=some z[k]:=by
 rw[List.find?_eq_some_iff_getElem];exact⟨h1,k,hk,rfl,fun j D=>by rw[F j aA D];rfl⟩
theorem UZ{z:List aI}{P:aI->Bool}(D:∀j,(I:j<z.length)->P z[j]=false):z.find? P=none:=by
 rw[List.find?_eq_none];intro x F;obtain⟨k,hk,rfl⟩:=List.getElem_of_mem F;rw[D k hk];simp
theorem LI(g:Int)(l:aI):(tB g l).length<=6/\∀x∈tB g l,0<=x/\x<6:=by
 unfold tB
 split
 .rename_i h;have D:=fF h
  cases hr:CA g l with
  |none=>exact⟨bF,bF⟩
  |some p=>unfold CA at hr;have hm:=List.mem_of_find?_eq_some hr;have h2:=xA _ _ p hm;rw[Option.getD_some];refine⟨aA,fun x z=>by have:=h2.2 x z;omega⟩
 .exact⟨bF,bF⟩
theorem TE{p:Prop}(h:p:=by
  go_wp2_with fail;go_quiet (fail);go_wp2;go_ret;exact⟨cP J.out.symm,((bJ _ _).drewN' _).drewN' _⟩):p:=h
theorem LE(v:Value)(s:Int)(w:World)(hv:Ints w v l)(hm:∀x∈l,0<=x/\x<64)(hs:0<=s/\s<64):
  aH 361 #[v,s] w (aG (nV l s)):=by
 obtain⟨a,b,b5,c,rfl,e4,S,hc,hb⟩:=hv.vw;have b4:=hs.1;have f0:=hs.2;go_enter func361,ntmps361;go_wp2;go_loopw [9] (fun i wr=>∃k n:Nat,k<=l/\i=aO k/\dP (yS l s) k=true/\wr=w.drewN n) (fun i _=>l.length-(intOf i).toNat)
 .exact⟨0,0,aZ _,rfl,rfl,rfl⟩
 obtain⟨k,n,hk,rfl,R,rfl⟩:=hrel;have H:=aT R;clear R;by_cases hlt:k<l
 .have b0:=hc k hlt;have a9:=hc 0 aA;have c9:∀w',(Instr.indexAt 25 (aD a l c) (aO 0)).run prog w'=.ok (aP (some ⟨b,b5,none⟩)) w':=fun w'=>by have:=S w' 0 aA;simpa using this
  have b3:=hm _ (aX hlt);have Z:=hm _ (aX (show 0<l.length from aA));have gk:=cJ l k hlt;have g0:=cJ l 0 aA;have z:yS l s k=(!(l[k]==s)&&(cU s l[k]==cU s l[0])&&(k==0||cU s l[k]==cU l[0] (l.getD 1 0))):=by unfold yS;rw[gk,g0]
  have e0:=fun W=>S W k hlt;obtain⟨t,ht⟩:=aW (l[k]);obtain⟨t0,a1⟩:=aW (l[0]);rw[<-ht]at b0 b3 z;rw[<-a1]at a9 Z z;rw[Nat.add_zero]at a9;have h1:=fV b4 (show s<4611686018427387904 from aA) b3.1 (show t<4611686018427387904 from aA);have h2:=fV b4 (show s<4611686018427387904 from aA) Z.1 (show t0<4611686018427387904 from aA);have b7:=aT a1;have HT:=aT ht;clear ht a1 gk g0;have bad:yS l s k=false->nV l s=false:=fun h=>eT hlt h
  cases c1:(t==s) with
  |true=>have D:=bad (by rw[z,c1];rfl);have J:=aT D;clear D bad z hc hm h1 h2;exact TE
  |false=>
   cases c2:(cU s t != cU s t0) with
   |true=>have D:=bad (by rw[z];have:(cU s t==cU s t0)=false:=(by simpa using c2);rw[this];simp);have J:=aT D;obtain⟨q,M⟩:=aW (cU s t);obtain⟨q0,I⟩:=aW (cU s t0);rw[<-M]at h1 c2;rw[<-I]at h2 c2;clear D bad z hc hm M I;exact TE
   |false=>
    have K:(cU s t==cU s t0)=true:=by simpa using c2
    by_cases Y:k=0
    .have F:yS l s k=true:=by rw[z,c1,K,Y];rfl
     have HG:=aT F;subst Y;have b8:t=t0:=HT.out.trans b7.out.symm;subst b8;obtain⟨q,M⟩:=aW (cU s t);rw[<-M]at h1;clear F bad z hc hm M K b0 h2 c2;go_wp2_with fail;go_quiet (fail);go_wp2;go_roundw
     .exact⟨0+1,n+nq,aA,cD,fJ H.out HG.out,bF⟩
     exact aY
    .have O:1<l.length:=aA;have b9:=hc 1 O;have d0:∀w',(Instr.indexAt 25 (aD a l c) (aO 1)).run prog w'=.ok (aP (some ⟨b,b5+1,none⟩)) w':=fun w'=>by have:=S w' 1 O;simpa using this
     have b1:=hm _ (aX O);have g1:=cJ l 1 O;rw[g1]at z;obtain⟨t1,a6⟩:=aW (l[1]);rw[<-a6]at b9 b1 z;have h3:=fV Z.1 (show t0<4611686018427387904 from aA) b1.1 (show t1<4611686018427387904 from aA);have e8:(0:Int)<k:=aA;have e9:0<k:=aA;have c5:(k==0)=false:=by simpa using Y
     cases c4:(cU s t != cU t0 t1) with
     |true=>have D:=bad (by rw[z];have:(cU s t==cU t0 t1)=false:=(by simpa using c4);rw[this,c5];simp);have J:=aT D;obtain⟨q,M⟩:=aW (cU s t);obtain⟨q0,I⟩:=aW (cU s t0);obtain⟨q1,N⟩:=aW (cU t0 t1);rw[<-M]at h1 c2 c4;rw[<-I]at h2 c2;rw[<-N]at h3 c4;clear D bad z hc hm M I N K g1 a6;exact TE
     |false=>
      have a8:(cU s t==cU t0 t1)=true:=by simpa using c4
      have F:yS l s k=true:=by rw[z,c1,K,a8];simp
      have HG:=aT F;obtain⟨q,M⟩:=aW (cU s t);obtain⟨q0,I⟩:=aW (cU s t0);obtain⟨q1,N⟩:=aW (cU t0 t1);rw[<-M]at h1 c2 c4;rw[<-I]at h2 c2;rw[<-N]at h3 c4;clear F bad z hc hm M I N K a8 g1 a6;go_wp2_with fail;go_quiet (fail);go_wp2;go_roundw
      .exact⟨k+1,n+nq,aA,cD,fJ H.out HG.out,bF⟩
      exact aY
 .have c6:k=l.length:=aA;subst c6;go_wp2;go_ret;exact⟨cP H.out.symm,(bJ _ _).drewN' _⟩
theorem QS(v:Value)(w:World)(hv:Ints w v l)(hm:∀x∈l,0<=x/\x<64):
  aH 158 #[v] w (aG (vQ l)):=by
 obtain⟨a,b,b7,c,rfl,f0,b0,hc,hb⟩:=hv.vw;obtain⟨F,hF⟩:∃F:Nat->Bool,F=fun i=>dP (CN l i) i:=⟨_,rfl⟩;have J:vQ l=dP F l.length:=by rw[hF];rfl
 have HS:=aT J;have HF:=aT hF;have HC:=aT hc;have HX:=aT b0;have HM:=aT hm;clear J hF hc b0 hm;go_enter func158,ntmps158;go_wp2;go_loopw [3] (fun i wr=>∃k n:Nat,k<=l/\i=aO k/\dP F k=true/\wr=w.drewN n) (fun i _=>l.length-(intOf i).toNat)
 .exact⟨0,0,aZ _,rfl,rfl,rfl⟩
 obtain⟨k,n,hk,rfl,D,rfl⟩:=hrel;have H:=aT D;clear D;by_cases hlt:k<l
 .have a7:F k=dP (CN l k) k:=by rw[HF.out]
  have bad:F k=false->vQ l=false:=fun h=>by rw[HS.out];exact eT hlt h
  have S:=aT bad;have Y:=aT a7;clear bad a7;go_wp2;go_loopw [4] (fun i wr=>∃j n':Nat,j<=k/\i=aO j/\dP (CN l k) j=true/\wr=w.drewN n') (fun i _=>k-(intOf i).toNat)
  .exact⟨0,n,aZ _,rfl,rfl,rfl⟩
  obtain⟨j,n',hj,rfl,a9,rfl⟩:=hrel;have Z:=aT a9;clear a9;by_cases e0:j<k
  .have d0:=HC.out k hlt;have c9:=HC.out j aA;have a8:=HC.out 0 aA;have c8:=HC.out 1 aA;rw[Nat.add_zero]at a8;have e9:=fun W=>HX.out W k hlt;have e8:=fun W=>HX.out W j aA;have e6:∀w',(Instr.indexAt 25 (aD a l c) (aO 0)).run prog w'=.ok (aP (some ⟨b,b7,none⟩)) w':=fun w'=>by have:=HX.out w' 0 aA;simpa using this
   have e7:∀w',(Instr.indexAt 25 (aD a l c) (aO 1)).run prog w'=.ok (aP (some ⟨b,b7+1,none⟩)) w':=fun w'=>by have:=HX.out w' 1 aA;simpa using this
   have O:=HM.out _ (aX hlt);have N:=HM.out _ (aX (show j<l.length from aA));have K:=HM.out _ (aX (show 0<l.length from aA));have M:=HM.out _ (aX (show 1<l.length from aA));have z:CN l k j=(cU l[k] l[j]==cU l[0] l[1]):=by unfold CN;rw[cJ l k hlt,cJ l j aA,cJ l 0 aA,cJ l 1 aA]
   obtain⟨tk,b5⟩:∃t,t=l[k]:=⟨_,rfl⟩;obtain⟨tj,b3⟩:∃t,t=l[j]:=⟨_,rfl⟩;obtain⟨t0,a1⟩:∃t,t=l[0]:=⟨_,rfl⟩;obtain⟨t1,a6⟩:∃t,t=l[1]:=⟨_,rfl⟩;rw[<-b5]at d0 O z;rw[<-b3]at c9 N z;rw[<-a1]at a8 K z;rw[<-a6]at c8 M z;have b1:=fV O.1 (show tk<4611686018427387904 from aA) N.1 (show tj<4611686018427387904 from aA);have b2:=fV K.1 (show t0<4611686018427387904 from aA) M.1 (show t1<4611686018427387904 from aA);obtain⟨q,hq⟩:=aW (cU tk tj);obtain⟨q0,b6⟩:=aW (cU t0 t1);rw[<-hq]at b1 z;rw[<-b6]at b2 z;clear b5 b3 a1 a6 hq b6 O N K M
   cases R:CN l k j with
   |false=>
    have ht:(q != q0)=true:=by rw[R]at z;have:=z.symm;simpa using this
    have I:=S.out (by rw[Y.out];exact eT e0 R);have HB:=aT I;clear z R I;go_wp2_with fail;go_quiet (fail);go_wp2;go_ret;exact⟨cP HB.out.symm,((bJ _ _).drewN' _).drewN' _⟩
   |true=>
    have ht:(q != q0)=false:=by rw[R]at z;have:=z.symm;simpa using this
    have HP:=aT R;clear z R;go_wp2_with fail;go_quiet (fail);go_wp2;go_roundw
    .exact⟨j+1,n'+nq,aA,cD,fJ Z.out HP.out,bF⟩
    exact aY
  .have b4:j=k:=aA;subst b4;go_wp2;go_roundw
   .exact⟨j+1,n',aA,cD,fJ H.out (by rw[Y.out];exact Z.out),rfl⟩
   exact aY
 .have e4:k=l.length:=aA;subst e4;go_wp2;go_ret;exact⟨cP (by rw[HS.out,H.out]),(bJ _ _).drewN' _⟩
def YE(l:List Int)(i k:Nat):Bool:=!(l.getD k 0==l.getD i 0)
def RY(l:List Int)(i:Nat):Bool:=gL 6 (l.getD i 0)&&dP (YE l i) i
def AE(l:List Int):Bool:=decide (l.length<=64)&&dP (RY l) l.length
def kP(l:List Int):Bool:=AE l&&vQ l
def C8(l:List Int)(i:Nat):Bool:=nV (l.take i) (l.getD i 0)
theorem LH(s:Int):gL 6 s=true↔0<=s/\s<64:=by unfold gL;simp
theorem JX{l:aI}(h:AE l=true):l.length<=64/\(∀x∈l,0<=x/\x<64)/\∀i,i<l.length->∀k,k<i->l.getD k 0≠l.getD i 0:=by
 unfold AE at h;obtain⟨h1,h2⟩:=Bool.and_eq_true_iff.1 h;have h2:=gD.1 h2;refine⟨eD h1,fun x D=>?_,fun i z k hk=>?_⟩
 .obtain⟨i,z,rfl⟩:=List.getElem_of_mem D;have:=h2 i z;unfold RY at this;obtain⟨h3,_⟩:=Bool.and_eq_true_iff.1 this;rw[cJ l i z]at h3;exact(LH _).1 h3
 .have:=h2 i z;unfold RY at this;obtain⟨_,h3⟩:=Bool.and_eq_true_iff.1 this;have h4:=gD.1 h3 k hk;unfold YE at h4;simpa using h4
theorem an0(s:Int)(h:s∈l):nV l s=false:=by
 obtain⟨i,z,rfl⟩:=List.getElem_of_mem h;unfold nV;refine eT z ?_;unfold yS;rw[cJ l i z];simp
theorem aqU:∀n,n<=l.length->(dP (C8 l) n=true↔(∀i,i<n->∀k,k<i->l.getD k 0≠l.getD i 0)/\vQ (l.take n)=true):=by
 intro n
 induction n with
 |zero=>intro _;simp[dP,vQ]
 |succ n ih=>
  intro Y;have F:n<l.length:=aA;have O:l.take (n+1)=l.take n++[l.getD n 0]:=by rw[cH F,cJ l n F]
  have D:l.getD n 0∈l.take n↔∃k,k<n/\l.getD k 0=l.getD n 0:=by
   constructor
   .intro h;obtain⟨k,hk,J⟩:=List.getElem_of_mem h;have N:k<n:=by simp at hk;omega
    refine⟨k,N,?_⟩;rw[cJ l k aA,<-J];simp
   .rintro⟨k,hk,J⟩;rw[<-J,cJ l k aA];exact List.mem_take_iff_getElem.2 ⟨k,aA,rfl⟩
  rw[dP,fB,ih aA,O];constructor
  .rintro⟨⟨h1,h2⟩,h3⟩;have z:l.getD n 0∉l.take n:=fun hm=>by unfold C8 at h3;rw[an0 _ _ hm]at h3;cases h3
   refine⟨fun i K k hk=>?_,?_⟩
   .by_cases M:i<n
    .exact h1 i M k hk
    .have:i=n:=aA;subst this;exact fun e=>z (D.2 ⟨k,hk,e⟩)
   .unfold C8 at h3;rw[EU _ _ h2 z]at h3;exact h3
  .rintro⟨h1,h2⟩;have z:l.getD n 0∉l.take n:=fun hm=>by obtain⟨k,hk,e⟩:=D.1 hm;exact h1 n aA k hk e
   have I:vQ (l.take n)=true:=by
    rw[PO]at h2 |-;intro i K k hk;have R:(l.take n).length=n:=bO;have:=h2 i bO k hk;rw[sD _ _ i K,sD _ _ k aA]at this;by_cases S:1<n
    .rw[sD _ _ 0 aA,sD _ _ 1 aA]at this;exact this
    .omega
   refine⟨⟨fun i K k hk=>h1 i aA k hk,I⟩,?_⟩;unfold C8;rw[EU _ _ I z];exact h2
theorem afJ(D:l.length<=64)(F:gE 6 l=true):kP l=dP (C8 l) l.length:=by
 have I:∀i,i<l.length->gL 6 (l.getD i 0)=true:=by intro i z;unfold gE at F;simp only[Bool.and_eq_true,List.all_eq_true]at F;rw[cJ l i z];exact F.2 _ (aX z)
 have h:=aqU l l.length aU;rw[List.take_of_length_le aU]at h;have e:kP l=true↔dP (C8 l) l.length=true:=by
  rw[h];unfold kP;rw[fB];constructor
  .rintro⟨h1,h2⟩;exact⟨(JX h1).2.2,h2⟩
  .rintro⟨h1,h2⟩;refine⟨?_,h2⟩;unfold AE;rw[bH D,Bool.true_and];refine gD.2 fun i z=>?_;unfold RY;rw[I i z,Bool.true_and];exact gD.2 fun k hk=>by unfold YE;simpa using h1 i z k hk
 cases h1:kP l with
 |true=>rw[e.1 h1]
 |false=>
  cases h2:dP (C8 l) l.length with
  |false=>rfl
  |true=>rw[e.2 h2]at h1;cases h1
theorem ZF{l:aI}(h:¬l.length<=64\/gE 6 l=false):kP l=false:=by
 cases hb:kP l with
 |false=>rfl
 |true=>
  unfold kP at hb;obtain⟨h1,h2,_⟩:=JX (Bool.and_eq_true_iff.1 hb).1;rcases h with h|h
  .exact absurd h1 h
  .unfold gE at h;have:l.all (gL (6:Int).toNat)=true:=List.all_eq_true.2 fun x z=>(LH x).2 (h2 x z);rw[this]at h
   cases h
theorem afH(v:Value)(w:World)(hv:Ints w v l):
  aH 323 #[v] w (aG (kP l)):=by
 have K:=hv;obtain⟨a,b,c7,c,rfl,b7,Z,hc,hb⟩:=hv.vw;by_cases R:l.length<=64
 .have S:¬(64:Int)<(l.length:Int):=aA
  cases F:gE 6 l with
  |false=>have D:kP l=false:=ZF (.inr F);have N:=aT D;have O:=aT (uL 6 l _ w K);rw[F]at O;clear D F;go_enter func323,ntmps323;go_wp2_with (go_at_call 219;refine aV O.out ?_;rintro w' rfl);go_ret;exact⟨cP N.out.symm,bJ _ _⟩
  |true=>
   have D:=afJ l R F;have hm:∀x∈l,0<=x/\x<64:=by intro x D;unfold gE at F;simp only[Bool.and_eq_true,List.all_eq_true]at F;exact(LH x).1 (F.2 x D)
   have N:=aT D;have HM:=aT hm;have O:=aT (uL 6 l _ w K);rw[F]at O;clear D F hm;go_enter func323,ntmps323;go_wp2_with (go_at_call 219;refine aV O.out ?_;rintro w' rfl);go_loopw [15] (fun i wr=>∃k:Nat,k<=l/\i=aO k/\dP (C8 l) k=true/\Below w w wr) (fun i _=>l.length-(intOf i).toNat)
   .exact⟨0,aZ _,rfl,rfl,bJ _ _⟩
   obtain⟨k,hk,rfl,I,B⟩:=hrel;have H:=aT I;clear I;by_cases hlt:k<l
   .have a6:(k:Int)<(l.length:Int):=aA;have b5:=K.below B aU;obtain⟨u1,u2⟩:=b5.upto 25 3 underlying25 intElem k hk;have ck:=bY hc hb B aU k hlt;have ik:=fun W=>Z W k hlt;have Y:C8 l k=nV (l.take k) l[k]:=by unfold C8;rw[cJ l k hlt]
    have a9:=HM.out _ (aX hlt);have a7:∀x∈l.take k,0<=x/\x<64:=fun x D=>HM.out x (List.mem_of_mem_take D);have M:=aT (LE (l.take k) _ l[k] wr u2 a7 a9);rw[<-Y]at M;obtain⟨y,hy⟩:=aW (l[k]);rw[<-hy]at M ck;clear Y a7 hy a9 hc Z
    cases z:C8 l k with
    |true=>
     rw[z]at M;have b0:=aT z;clear z;go_wp2_with (go_at_call 361;refine aV M.out ?_;intro w3 b3);go_roundw
     .exact⟨k+1,aA,cD,fJ H.out b0.out,B.after b3 B.size⟩
     exact aY
    |false=>
     rw[z]at M;have a8:kP l=false:=by rw[N.out];exact eT hlt z
     have b1:=aT a8;clear z a8;go_wp2_with (go_at_call 361;refine aV M.out ?_;intro w3 b3);go_ret;exact⟨cP b1.out.symm,B.after b3 B.size⟩
   .have a6:¬(k:Int)<(l.length:Int):=aA;have a1:k=l.length:=aA;have J:kP l=true:=by rw[N.out,<-a1];exact H.out
    have HY:=aT J;clear a1 J;go_wp2;go_ret;exact⟨cP HY.out.symm,B⟩
 .have S:(64:Int)<(l.length:Int):=aA;have D:kP l=false:=ZF (.inl R);have N:=aT D;clear D;go_enter func323,ntmps323;go_wp2;go_ret;exact⟨cP N.out.symm,bJ _ _⟩
theorem ZK(v:Value)(w:World)(hv:Ints w v l):
  aH 159 #[v] w (aG (AE l)):=by
 obtain⟨a,b,b3,c,rfl,f9,a8,hc,hb⟩:=hv.vw;by_cases b8:l.length<=64
 .have b9:¬(64:Int)<(l.length:Int):=aA;have hx:AE l=dP (RY l) l.length:=by unfold AE;rw[bH b8,Bool.true_and]
  have HX:=aT hx;clear hx;go_enter func159,ntmps159;go_wp2_with fail;go_loopw [3] (fun i wr=>∃k:Nat,k<=l/\i=aO k/\dP (RY l) k=true/\Below w w wr) (fun i _=>l.length-(intOf i).toNat)
  .exact⟨0,aZ _,rfl,rfl,bJ _ _⟩
  obtain⟨k,hk,rfl,K,B⟩:=hrel;have H:=aT K;clear K;by_cases hlt:k<l
  .have c7:(k:Int)<(l.length:Int):=aA;have Y:=bY hc hb B aU k hlt;have ik:=fun W=>a8 W k hlt;have F:=cJ l k hlt;have b0:RY l k=(gL 6 l[k]&&dP (YE l k) k):=by unfold RY;rw[F]
   have HC:=aT hc;have b6:=aT a8;have a7:fN l[k] 0 63=gL 6 l[k]:=by
    cases I:gL 6 l[k]with
    |true=>have:=(LH _).1 I;exact eW.2 ⟨this.1,aA⟩
    |false=>
     cases hq:fN l[k] 0 63 with
     |false=>rfl
     |true=>
      have h2:=eW.1 hq;have:=(LH l[k]).2 ⟨h2.1,aA⟩;rw[this]at I
      cases I
   obtain⟨y,hy⟩:=aW (l[k]);rw[<-hy]at Y b0 a7 F;have O:=aT a7;have e6:=aT F;have e8:=aT hy.symm;have S:=aT b0;have Z:(63:Int)=2^(6:Int).toNat-1:=bZ;have f8:=aT Z;rw[Z]at O;clear a7 F b0 hc a8 hy Z
   cases I:gL 6 y with
   |false=>
    have D:AE l=false:=by rw[HX.out];exact eT hlt (by rw[S.out,I];rfl)
    have R:=aT D;have HS:=aT I;clear D I;have d0:∀x:Ext wr,x.w.cell? ⟨b,b3+k,none⟩=some (aO y):=fun x=>x.cell Y;go_wp2_with fail;refine cW _ bM bM ?_
    repeat(first|go_big_quiet_skip|(go_big_quiet_want;go_big_quiet_op;first|go_big_quiet_on|(apply Exists.intro;refine⟨fun _=>?_,?_⟩;(first|(go_at_call 78;exact fA (I6 6 _ bZ bZ))|(go_at_call 77;exact UV (eH _ _ _ _) (O.out.trans HS.out)));go_big_quiet_on)))
    refine wpQuiet_nil ?_;rintro w3 ⟨⟨w3,a1⟩,rfl⟩
    try dsimp only
    go_wp2;go_ret;exact⟨cP R.out.symm,B.after a1 B.size⟩
   |true=>
    have HS:=aT I;clear I;have d0:∀x:Ext wr,x.w.cell? ⟨b,b3+k,none⟩=some (aO y):=fun x=>x.cell Y;go_wp2_with fail;refine cW _ bM bM ?_
    repeat(first|go_big_quiet_skip|(go_big_quiet_want;go_big_quiet_op;first|go_big_quiet_on|(apply Exists.intro;refine⟨fun _=>?_,?_⟩;(first|(go_at_call 78;exact fA (I6 6 _ bZ bZ))|(go_at_call 77;exact UV (eH _ _ _ _) (O.out.trans HS.out)));go_big_quiet_on)))
    refine wpQuiet_nil ?_;rintro w3 ⟨⟨w3,a1⟩,rfl⟩
    try dsimp only
    clear d0;have B3:=B.after a1 B.size;obtain⟨wo,rfl⟩:∃wo:World,wo=w3:=⟨_,rfl⟩;go_wp2_with fail;go_loopw [4] (fun i wi=>∃j:Nat,j<=k/\i=aO j/\dP (YE l k) j=true/\Below w w wi) (fun i _=>k-(intOf i).toNat)
    .exact⟨0,aZ _,rfl,rfl,B3⟩
    obtain⟨j,hj,rfl,M,Bj⟩:=hrel;obtain⟨wi,f3⟩:∃wi:World,wi=wr:=⟨_,rfl⟩;subst f3;clear B3;have HD:=aT M;clear M Y ik;have Y:=bY HC.out hb Bj aU k hlt;have g7:wi.cell? ⟨b,b3+k,none⟩=some (aO y):=by rw[Y,e8.out]
    clear Y;by_cases f2:j<k
    .have c5:(j:Int)<(k:Int):=aA;have a9:j<l:=aA;have cj:=bY HC.out hb Bj aU j a9;have ij:=fun W=>b6.out W j a9;have ik:=fun W=>b6.out W k hlt;have a6:YE l k j=!(l[j]==y):=by unfold YE;rw[cJ l j a9,e6.out]
     obtain⟨z,hz⟩:=aW (l[j]);rw[<-hz]at cj a6;have b5:=aT a6;clear hz a6;by_cases J:z=y
     .have b1:(z==y)=true:=by simp[J]
      have D:AE l=false:=by rw[HX.out];exact eT hlt (by rw[S.out];rw[eT f2 (by rw[b5.out,b1];rfl)];simp)
      have R:=aT D;clear D J;go_wp2;go_quiet (fail);go_wp2;go_ret;exact⟨cP R.out.symm,Bj.drewN' _⟩
     .have b1:(z==y)=false:=by simp[J]
      have e9:=aT b1;clear J;go_wp2;go_quiet (fail);go_wp2;go_roundw
      .exact⟨j+1,aA,cD,fJ HD.out (by rw[b5.out,e9.out];rfl),Bj.drewN' _⟩
      exact aY
    .have c5:¬(j:Int)<(k:Int):=aA;have f0:j=k:=aA;subst f0;have c8:RY l j=true:=by rw[S.out,HS.out,HD.out];rfl
     have e7:=aT c8;clear c8;go_wp2;go_roundw
     .exact⟨j+1,aA,cD,fJ H.out e7.out,Bj⟩
     exact aY
  .have c7:¬(k:Int)<(l.length:Int):=aA;have c6:k=l.length:=aA;have N:AE l=true:=by rw[HX.out,<-c6];exact H.out
   have HY:=aT N;clear c6 N;go_wp2;go_ret;exact⟨cP HY.out.symm,B⟩
 .have b9:(64:Int)<(l.length:Int):=aA;have hx:AE l=false:=by unfold AE;rw[bG b8];rfl
  have HX:=aT hx;clear hx;go_enter func159,ntmps159;go_wp2;go_ret;exact⟨cP HX.out.symm,bJ _ _⟩
def xR(l:List Int):Bool:=kP l&&decide (2<=l.length)
def rH(l:List Int):Int:=if xR l then cU (l.getD 0 0) (l.getD 1 0) else 0
theorem RV{l:aI}(h:kP l=true):l.length<=64/\∀x∈l,0<=x/\x<64:=by
 unfold kP at h;have:=JX (Bool.and_eq_true_iff.1 h).1;exact⟨this.1,this.2.1⟩
theorem afI(v:Value)(w:World)(K:Ints w v l):
  aH 117 #[v] w (aG (kP l)):=by
 have I:=aT (ZK l v w K)
 cases z:AE l with
 |false=>
  have F:kP l=false:=by unfold kP;rw[z];rfl
  have J:=aT F;rw[z]at I;clear F z;go_enter func117,ntmps117;go_wp2_with (go_at_call 159;refine aV I.out ?_;intro w1 D);go_ret;exact⟨cP J.out.symm,D⟩
 |true=>
  have F:kP l=vQ l:=by unfold kP;rw[z];rfl
  have hm:=(JX z).2.1;have J:=aT F;rw[z]at I;have M:=aT (fun W (h:Below w w W)=>QS l v W (K.below h aU) hm);clear F z hm;go_enter func117,ntmps117;go_wp2_with (first|(go_at_call 159;refine aV I.out ?_;intro w1 D)|(go_at_call 158;refine aV (M.out w1 D) ?_;intro N b2));go_ret;exact⟨cP J.out.symm,D.after b2 D.size⟩
theorem acE(v:Value)(w:World)(hv:Ints w v l):
  aH 241 #[v] w (aS #[(rH l),aG (xR l)]):=by
 have R:=aT (afH l v w hv);obtain⟨a,b,F,c,rfl,a7,K,hc,hb⟩:=hv.vw;by_cases h2:2<=l.length
 .have a6:¬(l.length:Int)<2:=aA
  cases J:kP l with
  |false=>
   have z:xR l=false:=by unfold xR;rw[J];rfl
   have D:rH l=0:=by unfold rH;rw[z];rfl
   have I:=aT (And.intro z D);rw[J]at R;clear z D J;go_enter func241,ntmps241;go_wp2_with (go_at_call 323;refine aV R.out ?_;intro w1 M);go_ret2;exact⟨by rw[I.out.1,I.out.2];rfl,M⟩
  |true=>
   rw[J]at R;have z:xR l=true:=by unfold xR;rw[J,bH h2];rfl
   have D:rH l=cU (l.getD 0 0) (l.getD 1 0):=by unfold rH;rw[z];rfl
   have N:=(RV J).2 _ (aX (show 0<l.length from aA));have O:=(RV J).2 _ (aX (show 1<l.length from aA));rw[cJ l 0 aA,cJ l 1 aA]at D;have c0:∀W,Below w w W->W.cell? ⟨b,F,none⟩=some (aO (l[0]'aA)):=fun W h=>bY hc hb h aU 0 aA;have c1:∀W,Below w w W->W.cell? ⟨b,F+1,none⟩=some (aO (l[1]'aA)):=fun W h=>bY hc hb h aU 1 aA;have i0:∀W,(Instr.indexAt 25 (aD a l c) (aO 0)).run prog W=.ok (aP (some ⟨b,F,none⟩)) W:=fun W=>K W 0 aA;have i1:∀W,(Instr.indexAt 25 (aD a l c) (aO 1)).run prog W=.ok (aP (some ⟨b,F+1,none⟩)) W:=fun W=>K W 1 aA;obtain⟨p,S⟩:=aW (l[0]'aA);obtain⟨q,Y⟩:=aW (l[1]'aA);simp only[<-S]at c0;simp only[<-Y]at c1;rw[<-S,<-Y]at D;rw[<-S]at N;rw[<-Y]at O;have a9:=fV N.1 (show p<4611686018427387904 from aA) O.1 (show q<4611686018427387904 from aA);have I:=aT (And.intro z D);have Z:=aT c0;have a1:=aT c1;clear z D S Y c0 c1 hc K J;go_enter func241,ntmps241;go_wp2_with (go_at_call 323;refine aV R.out ?_;intro w1 M;have c0:=Z.out w1 M;have c1:=a1.out w1 M);go_quiet (fail);go_wp2;go_ret2;exact⟨by rw[I.out.1,I.out.2];rfl,M.drewN' _⟩
 .have a6:(l.length:Int)<2:=aA;have z:xR l=false:=by unfold xR;rw[bG h2];simp
  have D:rH l=0:=by unfold rH;rw[z];rfl
  have I:=aT (And.intro z D);clear z D;go_enter func241,ntmps241;go_wp2;go_ret2;exact⟨by rw[I.out.1,I.out.2];rfl,bJ _ _⟩
theorem acF(v:Value)(w:World)(hv:Ints w v l):
  aH 74 #[v] w (aS #[(rH l),aG (xR l)]):=by
 have N:=aT (afI l v w hv);obtain⟨a,b,I,c,rfl,a7,M,hc,hb⟩:=hv.vw
 cases F:kP l with
 |false=>
  have z:xR l=false:=by unfold xR;rw[F];rfl
  have D:rH l=0:=by unfold rH;rw[z];rfl
  have J:=aT (And.intro z D);rw[F]at N;clear z D F;go_enter func74,ntmps74;go_wp2_with (go_at_call 117;refine aV N.out ?_;intro w1 K);go_ret2;exact⟨by rw[J.out.1,J.out.2];rfl,K⟩
 |true=>
  rw[F]at N;by_cases h2:2<=l.length
  .have a6:¬(l.length:Int)<2:=aA;have z:xR l=true:=by unfold xR;rw[F,bH h2];rfl
   have D:rH l=cU (l.getD 0 0) (l.getD 1 0):=by unfold rH;rw[z];rfl
   have O:=(RV F).2 _ (aX (show 0<l.length from aA));have R:=(RV F).2 _ (aX (show 1<l.length from aA));rw[cJ l 0 aA,cJ l 1 aA]at D;have c0:∀W,Below w w W->W.cell? ⟨b,I,none⟩=some (aO (l[0]'aA)):=fun W h=>bY hc hb h aU 0 aA;have c1:∀W,Below w w W->W.cell? ⟨b,I+1,none⟩=some (aO (l[1]'aA)):=fun W h=>bY hc hb h aU 1 aA;have i0:∀W,(Instr.indexAt 25 (aD a l c) (aO 0)).run prog W=.ok (aP (some ⟨b,I,none⟩)) W:=fun W=>M W 0 aA;have i1:∀W,(Instr.indexAt 25 (aD a l c) (aO 1)).run prog W=.ok (aP (some ⟨b,I+1,none⟩)) W:=fun W=>M W 1 aA;obtain⟨p,S⟩:=aW (l[0]'aA);obtain⟨q,Y⟩:=aW (l[1]'aA);simp only[<-S]at c0;simp only[<-Y]at c1;rw[<-S,<-Y]at D;rw[<-S]at O;rw[<-Y]at R;have a9:=fV O.1 (show p<4611686018427387904 from aA) R.1 (show q<4611686018427387904 from aA);have J:=aT (And.intro z D);have Z:=aT c0;have a1:=aT c1;clear z D S Y c0 c1 hc M F;go_enter func74,ntmps74;go_wp2_with (go_at_call 117;refine aV N.out ?_;intro w1 K;have c0:=Z.out w1 K;have c1:=a1.out w1 K);go_quiet (fail);go_wp2;go_ret2;exact⟨by rw[J.out.1,J.out.2];rfl,K.drewN' _⟩
  .have a6:(l.length:Int)<2:=aA;have z:xR l=false:=by unfold xR;rw[bG h2];simp
   have D:rH l=0:=by unfold rH;rw[z];rfl
   have J:=aT (And.intro z D);clear z D F;go_enter func74,ntmps74;go_wp2_with (go_at_call 117;refine aV N.out ?_;intro w1 K);go_ret2;exact⟨by rw[J.out.1,J.out.2];rfl,K⟩
def b2(b:Bool):Int:=if b then 1 else 0
theorem M9(y e:Nat):eI y e=y.testBit e:=by
 unfold eI Nat.testBit;rw[Nat.shiftRight_eq_div_pow,Nat.one_and_eq_mod_two];rcases Nat.mod_two_eq_zero_or_one (y/2^e) with h|h<;>rw[h]<;>rfl
def MU(p:List Int)(s e:Nat):Int:=if eI s e then p.getD e 0 else 0
def wtE(p:List Int)(s:Nat):Int:=MU p s 0+MU p s 1+MU p s 2+MU p s 3+MU p s 4+MU p s 5
structure PrInv (g:Nat) (l L:List Int) (j:Nat) (p:List Int) (left:Int):Prop where
 run:fL l (64-j) left=some (L.drop j)
 bd:0<=left/\left<2^g
 len:p.length=g
 zero:∀e,e<6->eI left.toNat e=true->p.getD e 0=0
 pos:∀e,0<=p.getD e 0
 top:∀e,p.getD e 0<=60
 DS:wtE p (2^g-1)=60*j
 pay:∀s∈l,wtE p s.toNat<=YZ (dG s.toNat)-YZ (dG (s.toNat &&& left.toNat))
structure PriceFacts (g:Int) (l:List Int):Prop where
 same:mH g l=iH g l
 greedy:iH g l=true->ZE g l (fC g l)=true
 small:iH g l=true->ZE g l (iV g l)=true
 less:iH g l=true->(iV g l).length<=(fC g l).length
def au2(l:List Int):Int:=l.foldl (· + ·) 0
structure PriceSums (g:Int) (l:List Int):Prop where
 total:au2 (gM g l)=60*(fC g l).length
 pays:∀s∈l,wtE (gM g l) s.toNat<=YZ (dG s.toNat)
 bound:60*((fC g l).length:Int)<=YZ (LK g l).toNat*(iV g l).length
 size:0<=LK g l/\LK g l<=6
 pos:∀e,0<=(gM g l).getD e 0
 top:∀e,(gM g l).getD e 0<=60
 len:(gM g l).length=g.toNat
end
section
open Go.RowKit Go.G5 Go.Proofs.Tryz
