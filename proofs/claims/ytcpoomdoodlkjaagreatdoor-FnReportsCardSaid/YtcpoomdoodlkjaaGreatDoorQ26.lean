/- Lemmas for CardReports. No condition. -/
import Derived.Test.YtcpoomdoodlkjaaGreatDoorQ25
set_option maxRecDepth 100000
set_option maxHeartbeats 64000000
namespace Go.Proofs.YtcpoomdoodlkjaaGreatDoor
section
open Go.RowKit Go.G5 Go.Proofs.Tryz
theorem yA(n:Nat)(z:n<=6)(r:Nat):(cY n r).length<=6^r:=by
 induction r with
 |zero=>simp[cY]
 |succ r ih=>have h1:=xB n (cY n r) (cY n r).length;have h2:(cY n r).length*n<=6^r*6:=Nat.mul_le_mul ih z;rw[cY,Nat.pow_succ];omega
def sQ(N:Nat):Nat->List Int->List (List Int)
 |0,p=>[p]
 |m+1,p=>(List.range N).flatMap fun(x:Nat)=>if fS p (x:Int) then [] else sQ N m (p++[(x:Int)])
def BI(N m:Nat)(p:List Int)(x:Nat):List (List Int):=(List.range x).flatMap fun(x:Nat)=>if fS p (x:Int) then [] else sQ N m (p++[(x:Int)])
theorem OO(N m:Nat)(p:List Int)(x:Nat):BI N m p (x+1)=BI N m p x++(if fS p (x:Int) then [] else sQ N m (p++[(x:Int)])):=by
 unfold BI;rw[List.range_succ,List.flatMap_append,List.flatMap_singleton]
theorem FT(N m:Nat)(h:∀p,(sQ N m p).length<=6^m)(p:List Int):∀x,(BI N m p x).length<=x*6^m:=by
 intro x
 induction x with
 |zero=>simp[BI]
 |succ x ih=>
  rw[OO,List.length_append,Nat.succ_mul];have:(if fS p (x:Int) then [] else sQ N m (p++[(x:Int)])).length<=6^m:=by
   split
   ·simp
   ·exact h _
  omega
theorem TF(N:Nat)(z:N<=6):∀m p,(sQ N m p).length<=6^m:=by
 intro m
 induction m with
 |zero=>intro p;simp[sQ]
 |succ m ih=>intro p;have h:=FT N m ih p N;have h2:N*6^m<=6*6^m:=Nat.mul_le_mul_right _ z;show(BI N m p N).length<=_;rw[Nat.pow_succ];omega
theorem adU(l:List Int):∀e,fP l e=(List.range e).flatMap fun(x:Nat)=>if fS l (x:Int) then [] else [l++[(x:Int)]]:=by
 intro e
 induction e with
 |zero=>rfl
 |succ e ih=>
  rw[fP,List.range_succ,List.flatMap_append,List.flatMap_singleton,ih]
  cases fS l (e:Int)<;>simp
theorem ab7(n:Nat)(z:List (List Int)):∀k,k<=z.length->gV n z k=(z.take k).flatMap fun l=>fP l n:=by
 intro k
 induction k with
 |zero=>intro _;rfl
 |succ k ih=>intro hk;rw[gV,ih aK,List.take_succ_eq_append_getElem aK,List.flatMap_append,List.flatMap_singleton,List.getD_eq_getElem?_getD,List.getElem?_eq_getElem (show k<z.length by omega),Option.getD_some]
theorem adV(N m:Nat)(l:List Int):(fP l N).flatMap (sQ N m)=sQ N (m+1) l:=by
 rw[adU,List.flatMap_assoc];show _=(List.range N).flatMap _
 congr 1
 funext x
 cases fS l (x:Int)<;>simp
theorem acE(N:Nat):∀m r,(cY N r).flatMap (sQ N m)=cY N (r+m):=by
 intro m
 induction m with
 |zero=>intro r;show(cY N r).flatMap (fun p=>[p])=_;simp
 |succ m ih=>
  intro r;rw[show r+(m+1)=(r+1)+m by omega,<-ih (r+1)];show _=List.flatMap (sQ N m) (gV N (cY N r) (cY N r).length);rw[ab7 _ _ _ aO,List.take_length,List.flatMap_assoc]
  congr 1
  funext l
  exact(adV N m l).symm
theorem aeV(N:Nat):sQ N N []=cY N N:=by
 have h:=acE N N 0;rw[Nat.zero_add]at h;rw[<-h];show _=List.flatMap (sQ N N) [[]];simp
theorem QC(n:Nat)(hn:n<=6)(w:World):
  Calls prog 166 #[(n:Int)] w fun e w'=>∃ad i c,e=.returned (aI ad i c)/\dA 3 24 w.heap.size w' (aI ad i c) (cY n n)/\Below w w w':=by
 have o0:=dA.single (EI:=3) (EO:=24) w (Nat.le_refl w.heap.size);go_enter func166,ntmps166;go_wp2_with fail;go_loopw [3,10] (fun v i wr=>∃(r:Nat) (ad:Option Addr) (cp:Nat),r<=n/\i=aM r/\v=.slice ad (cY n r).length cp/\dA 3 24 w.heap.size wr (.slice ad (cY n r).length cp) (cY n r)/\Below w w wr)
  (fun _ i _=>n-(intOf i).toNat)
 case atStart=>exact⟨0,_,_,Nat.zero_le _,rfl,rfl,o0,bF _ _⟩
 case round=>
  obtain⟨r,ad,cp,hr,rfl,rfl,ol,B⟩:=hrel;obtain⟨wo,rfl⟩:∃wo:World,wo=wr:=⟨_,rfl⟩;clear o0;by_cases k4:r<n
  ·have R:=qJ n r;have a6:=yA n hn r;have h5:(6:Nat)^r<=6^5:=Nat.pow_le_pow_right aY aK;have b9:cY n (r+1)=gV n (cY n r) (cY n r).length:=rfl;obtain⟨I,e6⟩:=aQ (cY n r);rw[<-e6]at ol R a6 b9 ⊢;have g2:I.length<=7776:=aK;have d5:=aN b9;have d0:=aN R;have d6:=aN ol;clear e6 R a6 h5 b9 ol;go_wp2_with fail;go_loopw [4,14] (fun v i wm=>∃(k:Nat) (b0:Option Addr) (c5 b1:Nat),k<=I.length/\i=aM k/\v=aI b0 c5 b1/\dA 3 24 wo.heap.size wm (aI b0 c5 b1) (gV n I k) /\
     dA 3 24 w.heap.size wm (aI ad I.length cp) I/\Below w w wm/\wo.heap.size<=wm.heap.size)
    (fun _ i _=>I.length-(intOf i).toNat)
   case atStart=>exact⟨0,none,0,0,Nat.zero_le _,rfl,rfl,dA.nil _ _ _ _,d6.out,B,aO⟩
   case round=>
    obtain⟨k,b0,c5,b1,hk,rfl,rfl,M,oL,Bm,zm⟩:=hrel;obtain⟨wm,rfl⟩:∃wm:World,wm=wr:=⟨_,rfl⟩;have rL:=d6.out.lt;by_cases b5:k<I.length
    ·obtain⟨g,u,g0,b4,hu⟩:=oL.view prog 77 underlying77 jV k b5;have b8:=d0.out _ (List.getElem_mem b5);have e4:I.getD k []=I[k]:=by rw[List.getD_eq_getElem?_getD,List.getElem?_eq_getElem b5];rfl
     have Z:gV n I (k+1)=gV n I k++fP I[k] n:=by rw[gV,e4]
     have g4:=xB n I k;have h9:k*n<=7776*6:=Nat.mul_le_mul aK hn;obtain⟨l,hl⟩:=aQ (I[k]);rw[<-hl]at hu b8 Z;obtain⟨N,hN⟩:=aQ (gV n I k);rw[<-hN]at Z g4 M;have k3:l.length<=6:=by have:=b8.1;omega
     obtain⟨au,nu,cu,rfl⟩:=hu.shape3;have f6:=aN Z;have a8:=aN M;have d8:=aN oL;have HU:=aN hu;clear hl hN b8 e4 Z M oL hu;go_wp2_with fail;go_loopw [4,19] (fun v i K=>∃(e:Nat) (z:Option Addr) (F D:Nat),e<=n/\i=aM e/\v=aI z F D/\dA 3 24 wo.heap.size K (aI z F D) (N++fP l e) /\
       dA 3 24 w.heap.size K (aI ad I.length cp) I/\aP 3 w K (aI au nu cu) l/\Below w w K/\wo.heap.size<=K.heap.size)
      (fun _ i _=>n-(intOf i).toNat)
     case atStart=>exact⟨0,_,_,_,Nat.zero_le _,rfl,rfl,by simpa[fP]using a8.out,d8.out,HU.out,Bm,zm⟩
     case round=>
      obtain⟨e,z,F,D,he,rfl,rfl,M,oL,oU,Bi,zi⟩:=hrel;obtain⟨K,rfl⟩:∃K:World,K=wr:=⟨_,rfl⟩;clear g0 b4;by_cases k2:e<n
      ·cases hh:fS l (e:Int) with
       |true=>
        have hx:fP l (e+1)=fP l e:=by rw[fP,hh];rfl
        have HX:=aN hx;have HH:=aN hh;clear hx hh;go_wp2_with (go_at_call 242;refine(nZ l _ _ _ oU.ints).mono ?_;rintro e' w' ⟨rfl,rfl⟩;rw[HH.out]);go_roundw
        case rel=>exact⟨e+1,z,F,D,by omega,by go_num,rfl,by rw[HX.out];exact M,oL,oU,Bi,zi⟩
        case measure=>simp[intOf];omega
       |false=>
        have hx:fP l (e+1)=fP l e++[l++[(e:Int)]]:=by rw[fP,hh];rfl
        have f9:=CP l e;have HX:=aN hx;have HH:=aN hh;have rN:=M.lt;have O:=aN M;have d7:=aN oL;have a9:=aN oU;have g3:(N++fP l e).length<=46700:=by rw[List.length_append];omega
        clear hx hh M oL oU f9;go_wp2_with (first
         |(go_at_call 242;refine(nZ l _ _ _ a9.out.ints).mono ?_;rintro e' w' ⟨rfl,rfl⟩;rw[HH.out])
         |(go_at_call 260;refine(kW _ l _ a9.out.ints aK).mono ?_;rintro e' w5 ⟨p5,i5,q5,rfl,o5,b3⟩;have z5:=b3.size)
         |(at_builtin;refine cZ rfl _ _ _ rfl 3 underlying24 aS K.heap.size (aI p5 i5 q5) l (e:Int) w5.heap.size rfl rfl (by simp) (o5.alloc _) ⟨by omega,by omega⟩ aK aV ?_;intro v' w6 S e5;obtain⟨p6,i6,q6,rfl⟩:=S.shape3;have b6:Below K K w6:=IP (Below.after (Below.refl _ _) (b3.after (bF w5 _) b3.size) aO) e5 aV (fun q hq=>(o5.lt q hq).1);have z6:=b6.size;obtain⟨l3,j4⟩:=(O.out.keep b6).row)
         |(at_builtin;refine sJ rfl _ _ _ rfl 3 24 rQ underlying77 jV wo.heap.size (aI z F D) (N++fP l e) (aI p6 i6 q6) (l++[(e:Int)]) w6.heap.size rfl rfl (by simp) ((O.out.keep b6).keep (bF w6 _)) ((S.mono aK).alloc _) aK aV ?_;intro v' w7 Y J;obtain⟨p7,i7,q7,rfl⟩:=Y.shape3))
        have b7:Below K K (w6.alloc (.cells #[aI p6 i6 q6] 24)):=b6.alloc b6.size _;obtain⟨l4,a7⟩:=(O.out.keep b7).row;have g8:=(d7.out.keep b7).grow a7 rQ J (fun q hq g5=>by have:=(rN q hq).1;have:=(rL q g5).2;omega);have g9:=(a9.out.keep b7).growL a7 rQ J;have l6:=Bi.size;have B7:=(Bi.after b7 Bi.size).grown J aV (fun q hq=>by have:=(rN q hq).1;have:=B.size;omega);have z7:=J.size;go_roundw
        case rel=>exact⟨e+1,p7,i7,q7,by omega,by go_num,rfl,by rw[HX.out,<-List.append_assoc];exact Y,g8,g9,B7,by simp at z7;omega⟩
        case measure=>simp[intOf];omega
      ·have f8:e=n:=aK;subst f8;go_wp2;go_roundw
       case rel=>exact⟨k+1,z,F,D,by omega,by go_num,rfl,by rw[f6.out];exact M,oL,Bi,zi⟩
       case measure=>simp[intOf];omega
    ·have g1:k=I.length:=aK;subst g1;have g7:=M.len;obtain⟨a3,c3,e3,_⟩:=g7;simp only[Value.slice.injEq]at e3;obtain⟨rfl,rfl,rfl⟩:=e3;have a8:=aN M;clear M oL;go_wp2;go_roundw
     case rel=>exact⟨r+1,_,_,by omega,by go_num,by rw[d5.out],by rw[d5.out];exact a8.out.mono B.size,Bm⟩
     case measure=>simp[intOf];omega
  ·have g6:r=n:=aK;subst g6;go_wp2;go_ret;exact⟨_,_,_,rfl,ol,B⟩
theorem QA(N : Nat)(hN : N <= 6) : ∀ (m : Nat) (p : List Int) (v : Value) (w : World) (B : Nat), p.length + m = N -> aP 3 B w v p -> B <= w.heap.size ->
    Calls prog 249 #[aM (N : Int), v] w fun e w' => ∃ a i c, e = .returned (aI a i c) /\ dA 3 24 B w' (aI a i c) (sQ N m p) /\ Below w w w' := by
  intro m
  induction m with
  | zero =>
    intro p v w B hpm hv hB
    obtain ⟨av, cv, rfl⟩ := hv.shape
    have ht : ((p.length : Int) == (N : Int)) = true := by simp; omega
    have o1 := dA.one (EO := 24) hv hB
    have hpn : p.length = N := aK
    have HP := aN hpn
    clear hpm hpn
    go_enter func249, ntmps249
    go_wp2
    go_ret
    exact ⟨_, _, _, rfl, o1, bF _ _⟩
  | succ m ih =>
    intro p v w B hpm hv hB
    obtain ⟨av, cv, rfl⟩ := hv.shape
    have ht : ((p.length : Int) == (N : Int)) = false := by simp; omega
    have hp5 : p.length <= 6 := aK
    have IH := aN ih
    have HPM := aN hpm
    have HV := aN hv
    have hm4 : m <= 5 := aK
    have h5m : (6 : Nat) ^ m <= 7776 := Nat.le_trans (Nat.pow_le_pow_right aY hm4) aY
    have o0 := dA.lit0 (EI := 3) (EO := 24) (B := w.heap.size) w aO
    clear ih hpm hv
    go_enter func249, ntmps249
    go_wp2_with fail
    go_loopw [5, 6] (fun out i wr => ∃ (x : Nat) (a : Option Addr) (q c : Nat), x <= N /\ i = aM x /\ out = aI a q c /\ dA 3 24 w.heap.size wr (aI a q c) (BI N m p x) /\ Below w w wr) (fun _ i _ => N - (intOf i).toNat)
    case atStart => exact ⟨0, _, _, _, Nat.zero_le _, rfl, rfl, o0, bF _ _⟩
    case round =>
      obtain ⟨x, a, q, c, hx, rfl, rfl, ho, Bw⟩ := hrel
      have hll := FT N m (TF N hN m) p x
      have hts := OO N m p x
      have hsl := TF N hN m (p ++ [(x : Int)])
      have hfin : x = N -> BI N m p x = sQ N (m + 1) p := fun h => by rw [h]; rfl
      have HFIN := aN hfin
      obtain ⟨ls, hls0⟩ := aQ (BI N m p x)
      rw [<- hls0] at ho hll hts HFIN
      have HO := aN ho
      have HTS := aN hts
      have hl5 : ls.length <= 46656 := Nat.le_trans hll (Nat.le_trans (Nat.mul_le_mul (show x <= 6 by omega) h5m) aY)
      have hvr := (HV.out.below Bw aO).ints
      clear o0 ho hls0 hll hts hfin
      obtain ⟨wz, hwz⟩ : ∃ wz : World, wz = wr := ⟨_, rfl⟩
      by_cases hlt : x < N
      · have hlt2 : (x : Int) < (N : Int) := aK
        obtain ⟨_, b, off, _, hva, _, hix, hc, hb⟩ := hvr.view prog 24 3 underlying24 aS
        injection hva with e1 _ e3
        subst e1 e3
        have HC := aN hc
        have HIX := aN hix
        clear hc hix hb
        go_wp2_with fail
        go_loop [7, 8] (fun u i => ∃ k : Nat, k <= p.length /\ i = aM k /\ u = .bool (decide ((x : Int) ∈ p.take k))) (fun _ i => p.length - (intOf i).toNat)
        case atStart => exact ⟨0, Nat.zero_le _, rfl, by simp⟩
        case round =>
          obtain ⟨k, hk, rfl, rfl⟩ := hrel
          by_cases hkl : k < p.length
          · have hkl2 : (k : Int) < (p.length : Int) := aK
            have ck := HC.out k hkl
            have ik := fun W => HIX.out W k hkl
            have hsu : decide ((x : Int) ∈ p.take (k + 1)) = (decide ((x : Int) ∈ p.take k) || (p[k] == (x : Int))) := by
              rw [List.take_succ_eq_append_getElem hkl]
              simp only [List.mem_append, List.mem_singleton, Bool.decide_or]
              congr 1
              exact decide_eq_decide.2 ⟨fun e => e.symm, fun e => e.symm⟩
            obtain ⟨y, hy⟩ := aQ (p[k])
            rw [<- hy] at ck hsu
            have HSU := aN hsu
            clear hsu hy
            obtain ⟨t, ht2⟩ := xR (decide ((x : Int) ∈ p.take k))
            rw [ht2] at HSU ⊢
            clear ht2
            obtain ⟨t3, ht3⟩ : ∃ t, (y == (x : Int)) = t := ⟨_, rfl⟩
            rw [ht3] at HSU
            cases t with
            | true =>
              go_wp2
              go_round
              case rel => exact ⟨k + 1, by omega, by go_num, by rw [HSU.out]; rfl⟩
              case measure => simp [intOf]; omega
            | false =>
              cases t3 with
              | true =>
                go_wp2
                go_round
                case rel => exact ⟨k + 1, by omega, by go_num, by rw [HSU.out]; rfl⟩
                case measure => simp [intOf]; omega
              | false =>
                go_wp2
                go_round
                case rel => exact ⟨k + 1, by omega, by go_num, by rw [HSU.out]; rfl⟩
                case measure => simp [intOf]; omega
          · have hkp : k = p.length := aK
            have hkl2 : ¬ (k : Int) < (p.length : Int) := aK
            obtain ⟨t, ht2⟩ := xR (decide ((x : Int) ∈ p.take k))
            rw [ht2]
            cases t with
            | true =>
              have hhx : fS p (x : Int) = true := by rw [<- ht2, hkp, List.take_length]; rfl
              have HHX := aN hhx
              clear ht2 hkp hhx
              go_wp2
              go_roundw
              case rel => exact ⟨x + 1, a, q, c, by omega, by go_num, rfl, by rw [HTS.out, HHX.out]; simpa using HO.out, Bw⟩
              case measure => simp [intOf]; omega
            | false =>
              have hhx : fS p (x : Int) = false := by rw [<- ht2, hkp, List.take_length]; rfl
              have HHX := aN hhx
              have hER : dD (x : Int) := ⟨by omega, by omega⟩
              have HER := aN hER
              have hrec := fun (v6 : Value) (w6 : World) (h1 : aP 3 wr w6 v6 (([] ++ p) ++ [(x : Int)])) (h2 : wr.heap.size <= w6.heap.size) => IH.out (([] ++ p) ++ [(x : Int)]) v6 w6 wr.heap.size (by have := HPM.out; simp; omega) h1 h2
              have HREC := aN hrec
              clear ht2 hkp hhx hrec hER
              go_wp2_with (first
  | (at_builtin; refine sK rfl _ _ _ rfl 3 underlying24 aS wr.heap.size (aI (some ⟨wr, 0, none⟩) 0 0) [] rfl (aP.lit0 wr aO) (aI av p.length cv) p rfl (hvr.alloc _) aV (bF wr _).size ?_; intro v5 w5 o5 g5 n5; have b5 := (bF wr (.cells #[] 3)).grown g5 (bF wr (.cells #[] 3)).size (fun q hq => ((aP.lit0 (E := 3) wr (Nat.le_refl wr.heap.size)).lt q hq).1))
  | (at_builtin; refine dI rfl _ _ _ rfl 3 underlying24 aS wr.heap.size v5 ([] ++ p) (x : Int) w5.heap.size rfl rfl (bB _ _ _ _ _ rfl) (o5.alloc _) HER.out aV (b5.alloc b5.size _).size ?_; intro v6 w6 o6 g6 n6; have b6 := (b5.alloc b5.size _).grown g6 (b5.alloc b5.size _).size (fun q hq => (o5.lt q hq).1))
  | (go_at_call 249; refine (HREC.out v6 w6 o6 b6.size).mono ?_; rintro e7 w7 ⟨p7, q7, c7, rfl, o7, b7⟩; have bb := b6.after b7 b6.size; have oo := HO.out.keep bb)
  | (at_builtin; refine LM rfl _ _ _ rfl underlying77 jV rQ w.heap.size _ ls rfl oo wr.heap.size _ (sQ N m (p ++ [(x : Int)])) rfl o7 Bw.size aK (Bw.after bb Bw.size).size ?_; intro v8 w8 o8 g8 _))
              obtain ⟨a8, n8, c8, rfl⟩ := o8.shape3
              have B7 := Bw.after bb Bw.size
              go_roundw
              case rel => exact ⟨x + 1, a8, n8, c8, by omega, by go_num, rfl, by rw [HTS.out, HHX.out]; exact o8, B7.grown g8 B7.size (fun k hk => (oo.lt k hk).1)⟩
              case measure => simp [intOf]; omega
      · have hxN : x = N := aK
        have hlt2 : ¬ (x : Int) < (N : Int) := aK
        have hle := HFIN.out hxN
        have HLE := aN hle
        clear hxN hle
        go_wp2
        go_ret
        exact ⟨a, q, c, rfl, by rw [<- HLE.out]; exact HO.out.mono hB, Bw⟩
def FM(p:List Int)(s k:Nat):Bool:=dC s (p.getD k 0).toNat
def pW(p:List Int)(s:Nat):Nat->Int
 |0=>-1
 |k+1=>if FM p s k&&decide (pW p s k<0) then (k:Int) else pW p s k
def vB(p:List Int)(s:Nat):Nat->Int
 |0=>-1
 |k+1=>if FM p s k then (k:Int) else vB p s k
theorem BS(p:List Int)(s k:Nat):pW p s (k+1)=if FM p s k&&decide (pW p s k<0) then (k:Int) else pW p s k:=rfl
theorem IJ(p:List Int)(s k:Nat):vB p s (k+1)=if FM p s k then (k:Int) else vB p s k:=rfl
theorem KX(p:List Int)(s:Nat):∀k:Nat,-1<=pW p s k/\pW p s k<=k:=by
 intro k
 induction k with
 |zero=>exact⟨by simp[pW],by simp[pW]⟩
 |succ k ih=>
  rw[BS]
  split<;>omega
theorem acW(p:List Int)(s:Nat):∀k:Nat,-1<=vB p s k/\vB p s k<=k:=by
 intro k
 induction k with
 |zero=>exact⟨by simp[vB],by simp[vB]⟩
 |succ k ih=>
  rw[IJ]
  split<;>omega
theorem ag7(p:List Int)(s:Nat)(j:Nat)(z:FM p s j=true):∀k,j<k->0<=pW p s k:=by
 intro k
 induction k with
 |zero=>intro h;omega
 |succ k ih=>
  intro h;rw[BS];by_cases hk:j<k
  ·have:=ih hk
   split<;>omega
  ·have e:j=k:=aK;subst e;rw[z,Bool.true_and]
   split
   ·omega
   ·rename_i h2;rw[decide_eq_true_eq]at h2;omega
def vM(p:List Int)(s:Nat):Bool:=decide (vB p s p.length-pW p s p.length+1=(bR s:Int))
def nX(p:List Int)(s:Int):Bool:=s==0||vM p s.toNat
def lZ(l p:List Int):Bool:=l.all (nX p)
theorem agG:∀s:Nat,s<64->s≠0->∃e,e<6/\(dC s e=true/\2^e<=s):=by decide +kernel
theorem VX:∀n,n<7->(cY n n).all (fun p=>(List.range n).all fun e=>fS p (e:Int))=true:=by decide +kernel
theorem acD{n:Nat}(F:n<=6){p:List Int}(D:p∈cY n n){e:Nat}(z:e<n):(e:Int)∈p:=by
 have h:=VX n aK;rw[List.all_eq_true]at h;have h2:=h p D;rw[List.all_eq_true]at h2;exact GS.1 (h2 e (List.mem_range.2 z))
theorem adY{n:Nat}(J:n<=6){p:List Int}(K:∀e,e<n->(e:Int)∈p)(s:Nat)(N:s<2^n)(F:s≠0):0<=pW p s p.length:=by
 have M:(2:Nat)^n<=64:=Nat.pow_le_pow_right (n:=2) (j:=6) aY J;obtain⟨e,_,hb,I⟩:=agG s aK F;have z:e<n:=by
  rcases Nat.lt_or_ge e n with h|h
  ·exact h
  ·have:=Nat.pow_le_pow_right (n:=2) aY h;omega
 obtain⟨k,hk,D⟩:=List.getElem_of_mem (K e z);refine ag7 p s k ?_ p.length hk;unfold FM;rw[List.getD_eq_getElem?_getD,List.getElem?_eq_getElem hk,Option.getD_some,D,Int.toNat_natCast];exact hb
def wQ(g:Int)(l:List Int):Option (List Int):=(cY g.toNat g.toNat).find? (lZ l)
def xS(g:Int)(l:List Int):Bool:=bJ g l&&(wQ g l).isSome
def nU(g:Int)(l:List Int):List Int:=if bJ g l then (wQ g l).getD [] else []
theorem RO{z:List (List Int)}{P:List Int->Bool}(k:Nat)(hk:k<z.length)(F:∀j,(D:j<z.length)->j<k->P z[j]=false)(h1:P z[k]=true):z.find? P=some z[k]:=by
 rw[List.find?_eq_some_iff_getElem];exact⟨h1,k,hk,rfl,fun j D=>by rw[F j aK D];rfl⟩
theorem NZ{z:List (List Int)}{P:List Int->Bool}(D:∀j,(I:j<z.length)->P z[j]=false):z.find? P=none:=by
 rw[List.find?_eq_none];intro x F;obtain⟨k,hk,rfl⟩:=List.getElem_of_mem F;rw[D k hk];simp
theorem DD(g:Int)(l:List Int):(nU g l).length<=6/\∀x∈nU g l,0<=x/\x<6:=by
 unfold nU
 split
 ·rename_i h;have D:=dT h
  cases hr:wQ g l with
  |none=>exact⟨by simp,by simp⟩
  |some p=>unfold wQ at hr;have hm:=List.mem_of_find?_eq_some hr;have h2:=qJ _ _ p hm;rw[Option.getD_some];refine⟨by omega,fun x z=>by have:=h2.2 x z;omega⟩
 ·exact⟨by simp,by simp⟩
theorem CZ(l:List Int)(v:Value)(s:Int)(w:World)(hv:aR w v l)(hm:∀x∈l,0<=x/\x<64)(hs:0<=s/\s<64):
  Calls prog 292 #[v,s] w fun e w'=>e=.returned (.bool (lE l s))/\Below w w w':=by
 obtain⟨a,b,b5,c,rfl,d7,S,hc,hb⟩:=hv.view prog 24 3 underlying24 aS;have b4:=hs.1;have e6:=hs.2;go_enter func292,ntmps292;go_wp2;go_loopw [9] (fun i wr=>∃k n:Nat,k<=l.length/\i=aM k/\cJ (uV l s) k=true/\wr=w.drewN n) (fun i _=>l.length-(intOf i).toNat)
 case atStart=>exact⟨0,0,Nat.zero_le _,rfl,rfl,rfl⟩
 case round=>
  obtain⟨k,n,hk,rfl,R,rfl⟩:=hrel;have H:=aN R;clear R;by_cases hlt:k<l.length
  ·have b0:=hc k hlt;have a9:=hc 0 aK;have d0:∀w',(Instr.indexAt 24 (aI a l.length c) (aM 0)).run prog w'=.ok (.pointer (some ⟨b,b5,none⟩)) w':=fun w'=>by have:=S w' 0 aK;simpa using this
   have b3:=hm _ (List.getElem_mem hlt);have Z:=hm _ (List.getElem_mem (show 0<l.length by omega));have gk:=aX l k hlt;have g0:=aX l 0 aK;have z:uV l s k=(!(l[k]==s)&&(bK s l[k]==bK s l[0])&&(k==0||bK s l[k]==bK l[0] (l.getD 1 0))):=by unfold uV;rw[gk,g0]
   have d6:=fun W=>S W k hlt;obtain⟨t,ht⟩:=aQ (l[k]);obtain⟨t0,a1⟩:=aQ (l[0]);rw[<-ht]at b0 b3 z;rw[<-a1]at a9 Z z;rw[Nat.add_zero]at a9;have h1:=eG b4 (show s<4611686018427387904 by omega) b3.1 (show t<4611686018427387904 by omega);have h2:=eG b4 (show s<4611686018427387904 by omega) Z.1 (show t0<4611686018427387904 by omega);have b7:=aN a1;have HT:=aN ht;clear ht a1 gk g0;have bad:uV l s k=false->lE l s=false:=fun h=>dG hlt h
   cases c1:(t==s) with
   |true=>have D:=bad (by rw[z,c1];rfl);have I:=aN D;clear D bad z hc hm h1 h2;go_wp2_with fail;go_quiet (fail);go_wp2;go_ret;exact⟨aZ I.out.symm,((Below.refl _ _).drewN' _).drewN' _⟩
   |false=>
    cases c2:(bK s t != bK s t0) with
    |true=>have D:=bad (by rw[z];have:(bK s t==bK s t0)=false:=(by simpa using c2);rw[this];simp);have I:=aN D;obtain⟨q,M⟩:=aQ (bK s t);obtain⟨q0,J⟩:=aQ (bK s t0);rw[<-M]at h1 c2;rw[<-J]at h2 c2;clear D bad z hc hm M J;go_wp2_with fail;go_quiet (fail);go_wp2;go_ret;exact⟨aZ I.out.symm,((Below.refl _ _).drewN' _).drewN' _⟩
    |false=>
     have K:(bK s t==bK s t0)=true:=by simpa using c2
     by_cases Y:k=0
     ·have F:uV l s k=true:=by rw[z,c1,K,Y];rfl
      have HG:=aN F;subst Y;have b8:t=t0:=HT.out.trans b7.out.symm;subst b8;obtain⟨q,M⟩:=aQ (bK s t);rw[<-M]at h1;clear F bad z hc hm M K b0 h2 c2;go_wp2_with fail;go_quiet (fail);go_wp2;go_roundw
      case rel=>exact⟨0+1,n+nq,by omega,by go_num,dN H.out HG.out,by simp⟩
      case measure=>simp[intOf];omega
     ·have O:1<l.length:=aK;have c5:=hc 1 O;have d5:∀w',(Instr.indexAt 24 (aI a l.length c) (aM 1)).run prog w'=.ok (.pointer (some ⟨b,b5+1,none⟩)) w':=fun w'=>by have:=S w' 1 O;simpa using this
      have b1:=hm _ (List.getElem_mem O);have g1:=aX l 1 O;rw[g1]at z;obtain⟨t1,a6⟩:=aQ (l[1]);rw[<-a6]at c5 b1 z;have h3:=eG Z.1 (show t0<4611686018427387904 by omega) b1.1 (show t1<4611686018427387904 by omega);have e4:(0:Int)<k:=aK;have e5:0<k:=aK;have c6:(k==0)=false:=by simpa using Y
      cases c4:(bK s t != bK t0 t1) with
      |true=>have D:=bad (by rw[z];have:(bK s t==bK t0 t1)=false:=(by simpa using c4);rw[this,c6];simp);have I:=aN D;obtain⟨q,M⟩:=aQ (bK s t);obtain⟨q0,J⟩:=aQ (bK s t0);obtain⟨q1,N⟩:=aQ (bK t0 t1);rw[<-M]at h1 c2 c4;rw[<-J]at h2 c2;rw[<-N]at h3 c4;clear D bad z hc hm M J N K g1 a6;go_wp2_with fail;go_quiet (fail);go_wp2;go_ret;exact⟨aZ I.out.symm,((Below.refl _ _).drewN' _).drewN' _⟩
      |false=>
       have a8:(bK s t==bK t0 t1)=true:=by simpa using c4
       have F:uV l s k=true:=by rw[z,c1,K,a8];simp
       have HG:=aN F;obtain⟨q,M⟩:=aQ (bK s t);obtain⟨q0,J⟩:=aQ (bK s t0);obtain⟨q1,N⟩:=aQ (bK t0 t1);rw[<-M]at h1 c2 c4;rw[<-J]at h2 c2;rw[<-N]at h3 c4;clear F bad z hc hm M J N K a8 g1 a6;go_wp2_with fail;go_quiet (fail);go_wp2;go_roundw
       case rel=>exact⟨k+1,n+nq,by omega,by go_num,dN H.out HG.out,by simp⟩
       case measure=>simp[intOf];omega
  ·have c7:k=l.length:=aK;subst c7;go_wp2;go_ret;exact⟨aZ H.out.symm,(Below.refl _ _).drewN' _⟩
theorem JV(l:List Int)(v:Value)(w:World)(hv:aR w v l)(hm:∀x∈l,0<=x/\x<64):
  Calls prog 294 #[v] w fun e w'=>e=.returned (.bool (rW l))/\Below w w w':=by
 obtain⟨a,b,b7,c,rfl,e5,b0,hc,hb⟩:=hv.view prog 24 3 underlying24 aS;obtain⟨F,hF⟩:∃F:Nat->Bool,F=fun i=>cJ (xC l i) i:=⟨_,rfl⟩;have J:rW l=cJ F l.length:=by rw[hF];rfl
 have HS:=aN J;have HF:=aN hF;have HC:=aN hc;have HX:=aN b0;have HM:=aN hm;clear J hF hc b0 hm;go_enter func294,ntmps294;go_wp2;go_loopw [3] (fun i wr=>∃k n:Nat,k<=l.length/\i=aM k/\cJ F k=true/\wr=w.drewN n) (fun i _=>l.length-(intOf i).toNat)
 case atStart=>exact⟨0,0,Nat.zero_le _,rfl,rfl,rfl⟩
 case round=>
  obtain⟨k,n,hk,rfl,D,rfl⟩:=hrel;have H:=aN D;clear D;by_cases hlt:k<l.length
  ·have a7:F k=cJ (xC l k) k:=by rw[HF.out]
   have bad:F k=false->rW l=false:=fun h=>by rw[HS.out];exact dG hlt h
   have S:=aN bad;have Y:=aN a7;clear bad a7;go_wp2;go_loopw [4] (fun i wr=>∃j n':Nat,j<=k/\i=aM j/\cJ (xC l k) j=true/\wr=w.drewN n') (fun i _=>k-(intOf i).toNat)
   case atStart=>exact⟨0,n,Nat.zero_le _,rfl,rfl,rfl⟩
   case round=>
    obtain⟨j,n',hj,rfl,a9,rfl⟩:=hrel;have Z:=aN a9;clear a9;by_cases d5:j<k
    ·have d0:=HC.out k hlt;have c9:=HC.out j aK;have a8:=HC.out 0 aK;have c8:=HC.out 1 aK;rw[Nat.add_zero]at a8;have e4:=fun W=>HX.out W k hlt;have e0:=fun W=>HX.out W j aK;have d8:∀w',(Instr.indexAt 24 (aI a l.length c) (aM 0)).run prog w'=.ok (.pointer (some ⟨b,b7,none⟩)) w':=fun w'=>by have:=HX.out w' 0 aK;simpa using this
     have d9:∀w',(Instr.indexAt 24 (aI a l.length c) (aM 1)).run prog w'=.ok (.pointer (some ⟨b,b7+1,none⟩)) w':=fun w'=>by have:=HX.out w' 1 aK;simpa using this
     have O:=HM.out _ (List.getElem_mem hlt);have N:=HM.out _ (List.getElem_mem (show j<l.length by omega));have K:=HM.out _ (List.getElem_mem (show 0<l.length by omega));have M:=HM.out _ (List.getElem_mem (show 1<l.length by omega));have z:xC l k j=(bK l[k] l[j]==bK l[0] l[1]):=by unfold xC;rw[aX l k hlt,aX l j aK,aX l 0 aK,aX l 1 aK]
     obtain⟨tk,b5⟩:∃t,t=l[k]:=⟨_,rfl⟩;obtain⟨tj,b3⟩:∃t,t=l[j]:=⟨_,rfl⟩;obtain⟨t0,a1⟩:∃t,t=l[0]:=⟨_,rfl⟩;obtain⟨t1,a6⟩:∃t,t=l[1]:=⟨_,rfl⟩;rw[<-b5]at d0 O z;rw[<-b3]at c9 N z;rw[<-a1]at a8 K z;rw[<-a6]at c8 M z;have b1:=eG O.1 (show tk<4611686018427387904 by omega) N.1 (show tj<4611686018427387904 by omega);have b2:=eG K.1 (show t0<4611686018427387904 by omega) M.1 (show t1<4611686018427387904 by omega);obtain⟨q,hq⟩:=aQ (bK tk tj);obtain⟨q0,b6⟩:=aQ (bK t0 t1);rw[<-hq]at b1 z;rw[<-b6]at b2 z;clear b5 b3 a1 a6 hq b6 O N K M
     cases R:xC l k j with
     |false=>
      have ht:(q != q0)=true:=by rw[R]at z;have:=z.symm;simpa using this
      have I:=S.out (by rw[Y.out];exact dG d5 R);have HB:=aN I;clear z R I;go_wp2_with fail;go_quiet (fail);go_wp2;go_ret;exact⟨aZ HB.out.symm,((Below.refl _ _).drewN' _).drewN' _⟩
     |true=>
      have ht:(q != q0)=false:=by rw[R]at z;have:=z.symm;simpa using this
      have HP:=aN R;clear z R;go_wp2_with fail;go_quiet (fail);go_wp2;go_roundw
      case rel=>exact⟨j+1,n'+nq,by omega,by go_num,dN Z.out HP.out,by simp⟩
      case measure=>simp[intOf];omega
    ·have b4:j=k:=aK;subst b4;go_wp2;go_roundw
     case rel=>exact⟨j+1,n',by omega,by go_num,dN H.out (by rw[Y.out];exact Z.out),rfl⟩
     case measure=>simp[intOf];omega
  ·have d6:k=l.length:=aK;subst d6;go_wp2;go_ret;exact⟨aZ (by rw[HS.out,H.out]),(Below.refl _ _).drewN' _⟩
def RG(l:List Int)(i k:Nat):Bool:=!(l.getD k 0==l.getD i 0)
def LJ(l:List Int)(i:Nat):Bool:=fD 6 (l.getD i 0)&&cJ (RG l i) i
def vN(l:List Int):Bool:=decide (l.length<=64)&&cJ (LJ l) l.length
def iL(l:List Int):Bool:=vN l&&rW l
def xP(l:List Int)(i:Nat):Bool:=lE (l.take i) (l.getD i 0)
theorem DB(s:Int):fD 6 s=true↔0<=s/\s<64:=by unfold fD;simp
theorem BT{l:List Int}(h:vN l=true):l.length<=64/\(∀x∈l,0<=x/\x<64)/\∀i,i<l.length->∀k,k<i->l.getD k 0≠l.getD i 0:=by
 unfold vN at h;obtain⟨h1,h2⟩:=Bool.and_eq_true_iff.1 h;have h2:=eK.1 h2;refine⟨of_decide_eq_true h1,fun x D=>?_,fun i z k hk=>?_⟩
 ·obtain⟨i,z,rfl⟩:=List.getElem_of_mem D;have:=h2 i z;unfold LJ at this;obtain⟨h3,_⟩:=Bool.and_eq_true_iff.1 this;rw[aX l i z]at h3;exact(DB _).1 h3
 ·have:=h2 i z;unfold LJ at this;obtain⟨_,h3⟩:=Bool.and_eq_true_iff.1 this;have h4:=eK.1 h3 k hk;unfold RG at h4;simpa using h4
theorem ad8(l:List Int)(s:Int)(h:s∈l):lE l s=false:=by
 obtain⟨i,z,rfl⟩:=List.getElem_of_mem h;unfold lE;refine dG z ?_;unfold uV;rw[aX l i z];simp
theorem agF(l:List Int):∀n,n<=l.length->(cJ (xP l) n=true↔(∀i,i<n->∀k,k<i->l.getD k 0≠l.getD i 0)/\rW (l.take n)=true):=by
 intro n
 induction n with
 |zero=>intro _;simp[cJ,rW]
 |succ n ih=>
  intro Y;have F:n<l.length:=aK;have O:l.take (n+1)=l.take n++[l.getD n 0]:=by rw[List.take_succ_eq_append_getElem F,aX l n F]
  have D:l.getD n 0∈l.take n↔∃k,k<n/\l.getD k 0=l.getD n 0:=by
   constructor
   ·intro h;obtain⟨k,hk,J⟩:=List.getElem_of_mem h;have N:k<n:=by simp at hk;omega
    refine⟨k,N,?_⟩;rw[aX l k aK,<-J];simp
   ·rintro⟨k,hk,J⟩;rw[<-J,aX l k aK];exact List.mem_take_iff_getElem.2 ⟨k,by omega,rfl⟩
  rw[cJ,Bool.and_eq_true,ih aK,O];constructor
  ·rintro⟨⟨h1,h2⟩,h3⟩;have z:l.getD n 0∉l.take n:=fun hm=>by unfold xP at h3;rw[ad8 _ _ hm]at h3;cases h3
   refine⟨fun i K k hk=>?_,?_⟩
   ·by_cases M:i<n
    ·exact h1 i M k hk
    ·have:i=n:=aK;subst this;exact fun e=>z (D.2 ⟨k,hk,e⟩)
   ·unfold xP at h3;rw[zT _ _ h2 z]at h3;exact h3
  ·rintro⟨h1,h2⟩;have z:l.getD n 0∉l.take n:=fun hm=>by obtain⟨k,hk,e⟩:=D.1 hm;exact h1 n aK k hk e
   have I:rW (l.take n)=true:=by
    rw[IK]at h2 ⊢;intro i K k hk;have R:(l.take n).length=n:=by simp;omega
    have:=h2 i aV k hk;rw[mW _ _ i K,mW _ _ k aK]at this;by_cases S:1<n
    ·rw[mW _ _ 0 aK,mW _ _ 1 aK]at this;exact this
    ·omega
   refine⟨⟨fun i K k hk=>h1 i aK k hk,I⟩,?_⟩;unfold xP;rw[zT _ _ I z];exact h2
theorem ZC(l:List Int)(D:l.length<=64)(F:gA 6 l=true):iL l=cJ (xP l) l.length:=by
 have I:∀i,i<l.length->fD 6 (l.getD i 0)=true:=by intro i z;unfold gA at F;simp only[Bool.and_eq_true,List.all_eq_true]at F;rw[aX l i z];exact F.2 _ (List.getElem_mem z)
 have h:=agF l l.length aO;rw[List.take_of_length_le aO]at h;have e:iL l=true↔cJ (xP l) l.length=true:=by
  rw[h];unfold iL;rw[Bool.and_eq_true];constructor
  ·rintro⟨h1,h2⟩;exact⟨(BT h1).2.2,h2⟩
  ·rintro⟨h1,h2⟩;refine⟨?_,h2⟩;unfold vN;rw[decide_eq_true D,Bool.true_and];refine eK.2 fun i z=>?_;unfold LJ;rw[I i z,Bool.true_and];exact eK.2 fun k hk=>by unfold RG;simpa using h1 i z k hk
 cases h1:iL l with
 |true=>rw[e.1 h1]
 |false=>
  cases h2:cJ (xP l) l.length with
  |false=>rfl
  |true=>rw[e.2 h2]at h1;cases h1
theorem SP{l:List Int}(h:¬l.length<=64∨gA 6 l=false):iL l=false:=by
 cases hb:iL l with
 |false=>rfl
 |true=>
  unfold iL at hb;obtain⟨h1,h2,_⟩:=BT (Bool.and_eq_true_iff.1 hb).1;rcases h with h|h
  ·exact absurd h1 h
  ·unfold gA at h;have:l.all (fD (6:Int).toNat)=true:=List.all_eq_true.2 fun x z=>(DB x).2 (h2 x z);rw[this]at h
   cases h
theorem ZA(l:List Int)(v:Value)(w:World)(hv:aR w v l):
  Calls prog 247 #[v] w fun e w'=>e=.returned (.bool (iL l))/\Below w w w':=by
 have K:=hv;obtain⟨a,b,c7,c,rfl,b7,Z,hc,hb⟩:=hv.view prog 24 3 underlying24 aS;by_cases R:l.length<=64
 ·have S:¬(64:Int)<(l.length:Int):=aK
  cases F:gA 6 l with
  |false=>have D:iL l=false:=SP (.inr F);have N:=aN D;have O:=aN (sX 6 l _ w K);rw[F]at O;clear D F;go_enter func247,ntmps247;go_wp2_with (go_at_call 211;refine O.out.mono ?_;rintro e w' ⟨rfl,rfl⟩);go_ret;exact⟨aZ N.out.symm,Below.refl _ _⟩
  |true=>
   have D:=ZC l R F;have hm:∀x∈l,0<=x/\x<64:=by intro x D;unfold gA at F;simp only[Bool.and_eq_true,List.all_eq_true]at F;exact(DB x).1 (F.2 x D)
   have N:=aN D;have HM:=aN hm;have O:=aN (sX 6 l _ w K);rw[F]at O;clear D F hm;go_enter func247,ntmps247;go_wp2_with (go_at_call 211;refine O.out.mono ?_;rintro e w' ⟨rfl,rfl⟩);go_loopw [15] (fun i wr=>∃k:Nat,k<=l.length/\i=aM k/\cJ (xP l) k=true/\Below w w wr) (fun i _=>l.length-(intOf i).toNat)
   case atStart=>exact⟨0,Nat.zero_le _,rfl,rfl,Below.refl _ _⟩
   case round=>
    obtain⟨k,hk,rfl,I,B⟩:=hrel;have H:=aN I;clear I;by_cases hlt:k<l.length
    ·have a6:(k:Int)<(l.length:Int):=aK;have b5:=K.below B aO;obtain⟨u1,u2⟩:=b5.upto 24 3 underlying24 aS k hk;have ck:=aW hc hb B aO k hlt;have ik:=fun W=>Z W k hlt;have Y:xP l k=lE (l.take k) l[k]:=by unfold xP;rw[aX l k hlt]
     have a9:=HM.out _ (List.getElem_mem hlt);have a7:∀x∈l.take k,0<=x/\x<64:=fun x D=>HM.out x (List.mem_of_mem_take D);have M:=aN (CZ (l.take k) _ l[k] wr u2 a7 a9);rw[<-Y]at M;obtain⟨y,hy⟩:=aQ (l[k]);rw[<-hy]at M ck;clear Y a7 hy a9 hc Z
     cases z:xP l k with
     |true=>
      rw[z]at M;have b0:=aN z;clear z;go_wp2_with (go_at_call 292;refine M.out.mono ?_;rintro e w3 ⟨rfl,b3⟩);go_roundw
      case rel=>exact⟨k+1,by omega,by go_num,dN H.out b0.out,B.after b3 B.size⟩
      case measure=>simp[intOf];omega
     |false=>
      rw[z]at M;have a8:iL l=false:=by rw[N.out];exact dG hlt z
      have b1:=aN a8;clear z a8;go_wp2_with (go_at_call 292;refine M.out.mono ?_;rintro e w3 ⟨rfl,b3⟩);go_ret;exact⟨aZ b1.out.symm,B.after b3 B.size⟩
    ·have a6:¬(k:Int)<(l.length:Int):=aK;have a1:k=l.length:=aK;have J:iL l=true:=by rw[N.out,<-a1];exact H.out
     have HY:=aN J;clear a1 J;go_wp2;go_ret;exact⟨aZ HY.out.symm,B⟩
 ·have S:(64:Int)<(l.length:Int):=aK;have D:iL l=false:=SP (.inl R);have N:=aN D;clear D;go_enter func247,ntmps247;go_wp2;go_ret;exact⟨aZ N.out.symm,Below.refl _ _⟩
end
end Go.Proofs.YtcpoomdoodlkjaaGreatDoor
