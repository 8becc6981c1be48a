/- Lemmas for CardReports. No condition. -/
import Derived.Test.YtcpoomdoodlkjaaGreatDoorQ25
set_option maxRecDepth 100000
set_option maxHeartbeats 64000000
namespace Go.Proofs.YtcpoomdoodlkjaaGreatDoor
section
open Go.RowKit Go.G5 Go.Proofs.Tryz
theorem xX(n:Nat)(z:n<=6)(r:Nat):(cV n r).length<=6^r:=by
 induction r with
 |zero=>simp[cV]
 |succ r ih=>have h1:=wY n (cV n r) (cV n r).length;have h2:(cV n r).length*n<=6^r*6:=Nat.mul_le_mul ih z;rw[cV,Nat.pow_succ];omega
def sN(N:Nat):Nat->List Int->List (List Int)
 |0,p=>[p]
 |m+1,p=>(List.range N).flatMap fun(x:Nat)=>if fP p (x:Int) then [] else sN N m (p++[(x:Int)])
def BE(N m:Nat)(p:List Int)(x:Nat):List (List Int):=(List.range x).flatMap fun(x:Nat)=>if fP p (x:Int) then [] else sN N m (p++[(x:Int)])
theorem OK(N m:Nat)(p:List Int)(x:Nat):BE N m p (x+1)=BE N m p x++(if fP p (x:Int) then [] else sN N m (p++[(x:Int)])):=by
 unfold BE;rw[List.range_succ,List.flatMap_append,List.flatMap_singleton]
theorem FQ(N m:Nat)(h:∀p,(sN N m p).length<=6^m)(p:List Int):∀x,(BE N m p x).length<=x*6^m:=by
 intro x
 induction x with
 |zero=>simp[BE]
 |succ x ih=>
  rw[OK,List.length_append,Nat.succ_mul];have:(if fP p (x:Int) then [] else sN N m (p++[(x:Int)])).length<=6^m:=by
   split
   ·simp
   ·exact h _
  omega
theorem TB(N:Nat)(z:N<=6):∀m p,(sN N m p).length<=6^m:=by
 intro m
 induction m with
 |zero=>intro p;simp[sN]
 |succ m ih=>intro p;have h:=FQ N m ih p N;have h2:N*6^m<=6*6^m:=Nat.mul_le_mul_right _ z;show(BE N m p N).length<=_;rw[Nat.pow_succ];omega
theorem adQ(l:List Int):∀e,fM l e=(List.range e).flatMap fun(x:Nat)=>if fP l (x:Int) then [] else [l++[(x:Int)]]:=by
 intro e
 induction e with
 |zero=>rfl
 |succ e ih=>
  rw[fM,List.range_succ,List.flatMap_append,List.flatMap_singleton,ih]
  cases fP l (e:Int)<;>simp
theorem ab3(n:Nat)(z:List (List Int)):∀k,k<=z.length->gS n z k=(z.take k).flatMap fun l=>fM l n:=by
 intro k
 induction k with
 |zero=>intro _;rfl
 |succ k ih=>intro hk;rw[gS,ih aI,List.take_succ_eq_append_getElem aI,List.flatMap_append,List.flatMap_singleton,List.getD_eq_getElem?_getD,List.getElem?_eq_getElem (show k<z.length by omega),Option.getD_some]
theorem adR(N m:Nat)(l:List Int):(fM l N).flatMap (sN N m)=sN N (m+1) l:=by
 rw[adQ,List.flatMap_assoc];show _=(List.range N).flatMap _
 congr 1
 funext x
 cases fP l (x:Int)<;>simp
theorem acA(N:Nat):∀m r,(cV N r).flatMap (sN N m)=cV N (r+m):=by
 intro m
 induction m with
 |zero=>intro r;show(cV N r).flatMap (fun p=>[p])=_;simp
 |succ m ih=>
  intro r;rw[show r+(m+1)=(r+1)+m by omega,<-ih (r+1)];show _=List.flatMap (sN N m) (gS N (cV N r) (cV N r).length);rw[ab3 _ _ _ aK,List.take_length,List.flatMap_assoc]
  congr 1
  funext l
  exact(adR N m l).symm
theorem aeR(N:Nat):sN N N []=cV N N:=by
 have h:=acA N N 0;rw[Nat.zero_add]at h;rw[<-h];show _=List.flatMap (sN N N) [[]];simp
theorem P8(n:Nat)(hn:n<=6)(w:World):
  Calls prog 166 #[(n:Int)] w fun e w'=>∃ad i c,e=.returned (ajH ad i c)/\cX 3 24 w.heap.size w' (ajH ad i c) (cV n n)/\Below w w w':=by
 have o0:=cX.single (EI:=3) (EO:=24) w (Nat.le_refl w.heap.size);go_enter func166,ntmps166;go_wp2_with fail;go_loopw [3,10] (fun v i wr=>∃(r:Nat) (ad:Option Addr) (cp:Nat),r<=n/\i=ajJ r/\v=.slice ad (cV n r).length cp/\cX 3 24 w.heap.size wr (.slice ad (cV n r).length cp) (cV n r)/\Below w w wr)
  (fun _ i _=>n-(intOf i).toNat)
 case atStart=>exact⟨0,_,_,Nat.zero_le _,rfl,rfl,o0,aY _ _⟩
 case round=>
  obtain⟨r,ad,cp,hr,rfl,rfl,ol,B⟩:=hrel;obtain⟨wo,rfl⟩:∃wo:World,wo=wr:=⟨_,rfl⟩;clear o0;by_cases k4:r<n
  ·have R:=pY n r;have a6:=xX n hn r;have h5:(6:Nat)^r<=6^5:=Nat.pow_le_pow_right aV aI;have b9:cV n (r+1)=gS n (cV n r) (cV n r).length:=rfl;obtain⟨I,e6⟩:=aN (cV n r);rw[<-e6]at ol R a6 b9 ⊢;have g2:I.length<=7776:=aI;have d5:=aJ b9;have d0:=aJ R;have d6:=aJ ol;clear e6 R a6 h5 b9 ol;go_wp2_with fail;go_loopw [4,14] (fun v i wm=>∃(k:Nat) (b0:Option Addr) (c5 b1:Nat),k<=I.length/\i=ajJ k/\v=ajH b0 c5 b1/\cX 3 24 wo.heap.size wm (ajH b0 c5 b1) (gS n I k) /\
     cX 3 24 w.heap.size wm (ajH ad I.length cp) I/\Below w w wm/\wo.heap.size<=wm.heap.size)
    (fun _ i _=>I.length-(intOf i).toNat)
   case atStart=>exact⟨0,none,0,0,Nat.zero_le _,rfl,rfl,cX.nil _ _ _ _,d6.out,B,aK⟩
   case round=>
    obtain⟨k,b0,c5,b1,hk,rfl,rfl,M,oL,Bm,zm⟩:=hrel;obtain⟨wm,rfl⟩:∃wm:World,wm=wr:=⟨_,rfl⟩;have rL:=d6.out.lt;by_cases b5:k<I.length
    ·obtain⟨g,u,g0,b4,hu⟩:=oL.view prog 77 underlying77 jS k b5;have b8:=d0.out _ (List.getElem_mem b5);have e4:I.getD k []=I[k]:=by rw[List.getD_eq_getElem?_getD,List.getElem?_eq_getElem b5];rfl
     have Z:gS n I (k+1)=gS n I k++fM I[k] n:=by rw[gS,e4]
     have g4:=wY n I k;have h9:k*n<=7776*6:=Nat.mul_le_mul aI hn;obtain⟨l,hl⟩:=aN (I[k]);rw[<-hl]at hu b8 Z;obtain⟨N,hN⟩:=aN (gS n I k);rw[<-hN]at Z g4 M;have k3:l.length<=6:=by have:=b8.1;omega
     obtain⟨au,nu,cu,rfl⟩:=hu.shape3;have f6:=aJ Z;have a8:=aJ M;have d8:=aJ oL;have HU:=aJ hu;clear hl hN b8 e4 Z M oL hu;go_wp2_with fail;go_loopw [4,19] (fun v i K=>∃(e:Nat) (z:Option Addr) (F D:Nat),e<=n/\i=ajJ e/\v=ajH z F D/\cX 3 24 wo.heap.size K (ajH z F D) (N++fM l e) /\
       cX 3 24 w.heap.size K (ajH ad I.length cp) I/\aM 3 w K (ajH au nu cu) l/\Below w w K/\wo.heap.size<=K.heap.size)
      (fun _ i _=>n-(intOf i).toNat)
     case atStart=>exact⟨0,_,_,_,Nat.zero_le _,rfl,rfl,by simpa[fM]using a8.out,d8.out,HU.out,Bm,zm⟩
     case round=>
      obtain⟨e,z,F,D,he,rfl,rfl,M,oL,oU,Bi,zi⟩:=hrel;obtain⟨K,rfl⟩:∃K:World,K=wr:=⟨_,rfl⟩;clear g0 b4;by_cases k2:e<n
      ·cases hh:fP l (e:Int) with
       |true=>
        have hx:fM l (e+1)=fM l e:=by rw[fM,hh];rfl
        have HX:=aJ hx;have HH:=aJ hh;clear hx hh;go_wp2_with (go_at_call 242;refine(nW l _ _ _ oU.ints).mono ?_;rintro e' w' ⟨rfl,rfl⟩;rw[HH.out]);go_roundw
        case rel=>exact⟨e+1,z,F,D,by omega,by go_num,rfl,by rw[HX.out];exact M,oL,oU,Bi,zi⟩
        case measure=>simp[intOf];omega
       |false=>
        have hx:fM l (e+1)=fM l e++[l++[(e:Int)]]:=by rw[fM,hh];rfl
        have f9:=CM l e;have HX:=aJ hx;have HH:=aJ hh;have rN:=M.lt;have O:=aJ M;have d7:=aJ oL;have a9:=aJ oU;have g3:(N++fM l e).length<=46700:=by rw[List.length_append];omega
        clear hx hh M oL oU f9;go_wp2_with (first
         |(go_at_call 242;refine(nW l _ _ _ a9.out.ints).mono ?_;rintro e' w' ⟨rfl,rfl⟩;rw[HH.out])
         |(go_at_call 260;refine(kT _ l _ a9.out.ints aI).mono ?_;rintro e' w5 ⟨p5,i5,q5,rfl,o5,b3⟩;have z5:=b3.size)
         |(at_builtin;refine cW rfl _ _ _ rfl 3 underlying24 aP K.heap.size (ajH p5 i5 q5) l (e:Int) w5.heap.size rfl rfl (by simp) (o5.alloc _) ⟨by omega,by omega⟩ aI aS ?_;intro v' w6 S e5;obtain⟨p6,i6,q6,rfl⟩:=S.shape3;have b6:Below K K w6:=IL (Below.after (Below.refl _ _) (b3.after (aY w5 _) b3.size) aK) e5 aS (fun q hq=>(o5.lt q hq).1);have z6:=b6.size;obtain⟨l3,j4⟩:=(O.out.keep b6).row)
         |(at_builtin;refine sG rfl _ _ _ rfl 3 24 rJ underlying77 jS wo.heap.size (ajH z F D) (N++fM l e) (ajH p6 i6 q6) (l++[(e:Int)]) w6.heap.size rfl rfl (by simp) ((O.out.keep b6).keep (aY w6 _)) ((S.mono aI).alloc _) aI aS ?_;intro v' w7 Y J;obtain⟨p7,i7,q7,rfl⟩:=Y.shape3))
        have b7:Below K K (w6.alloc (.cells #[ajH p6 i6 q6] 24)):=b6.alloc b6.size _;obtain⟨l4,a7⟩:=(O.out.keep b7).row;have g8:=(d7.out.keep b7).grow a7 rJ J (fun q hq g5=>by have:=(rN q hq).1;have:=(rL q g5).2;omega);have g9:=(a9.out.keep b7).growL a7 rJ J;have l6:=Bi.size;have B7:=(Bi.after b7 Bi.size).grown J aS (fun q hq=>by have:=(rN q hq).1;have:=B.size;omega);have z7:=J.size;go_roundw
        case rel=>exact⟨e+1,p7,i7,q7,by omega,by go_num,rfl,by rw[HX.out,<-List.append_assoc];exact Y,g8,g9,B7,by simp at z7;omega⟩
        case measure=>simp[intOf];omega
      ·have f8:e=n:=aI;subst f8;go_wp2;go_roundw
       case rel=>exact⟨k+1,z,F,D,by omega,by go_num,rfl,by rw[f6.out];exact M,oL,Bi,zi⟩
       case measure=>simp[intOf];omega
    ·have g1:k=I.length:=aI;subst g1;have g7:=M.len;obtain⟨a3,c3,e3,_⟩:=g7;simp only[Value.slice.injEq]at e3;obtain⟨rfl,rfl,rfl⟩:=e3;have a8:=aJ M;clear M oL;go_wp2;go_roundw
     case rel=>exact⟨r+1,_,_,by omega,by go_num,by rw[d5.out],by rw[d5.out];exact a8.out.mono B.size,Bm⟩
     case measure=>simp[intOf];omega
  ·have g6:r=n:=aI;subst g6;go_wp2;go_ret;exact⟨_,_,_,rfl,ol,B⟩
theorem P6(N : Nat)(hN : N <= 6) : ∀ (m : Nat) (p : List Int) (v : Value) (w : World) (B : Nat), p.length + m = N -> aM 3 B w v p -> B <= w.heap.size ->
    Calls prog 249 #[ajJ (N : Int), v] w fun e w' => ∃ a i c, e = .returned (ajH a i c) /\ cX 3 24 B w' (ajH a i c) (sN N m p) /\ Below w w w' := by
  intro m
  induction m with
  | zero =>
    intro p v w B hpm hv hB
    obtain ⟨av, cv, rfl⟩ := hv.shape
    have ht : ((p.length : Int) == (N : Int)) = true := by simp; omega
    have o1 := cX.one (EO := 24) hv hB
    have hpn : p.length = N := aI
    have HP := aJ hpn
    clear hpm hpn
    go_enter func249, ntmps249
    go_wp2
    go_ret
    exact ⟨_, _, _, rfl, o1, aY _ _⟩
  | succ m ih =>
    intro p v w B hpm hv hB
    obtain ⟨av, cv, rfl⟩ := hv.shape
    have ht : ((p.length : Int) == (N : Int)) = false := by simp; omega
    have hp5 : p.length <= 6 := aI
    have IH := aJ ih
    have HPM := aJ hpm
    have HV := aJ hv
    have hm4 : m <= 5 := aI
    have h5m : (6 : Nat) ^ m <= 7776 := Nat.le_trans (Nat.pow_le_pow_right aV hm4) aV
    have o0 := cX.lit0 (EI := 3) (EO := 24) (B := w.heap.size) w aK
    clear ih hpm hv
    go_enter func249, ntmps249
    go_wp2_with fail
    go_loopw [5, 6] (fun out i wr => ∃ (x : Nat) (a : Option Addr) (q c : Nat), x <= N /\ i = ajJ x /\ out = ajH a q c /\ cX 3 24 w.heap.size wr (ajH a q c) (BE N m p x) /\ Below w w wr) (fun _ i _ => N - (intOf i).toNat)
    case atStart => exact ⟨0, _, _, _, Nat.zero_le _, rfl, rfl, o0, aY _ _⟩
    case round =>
      obtain ⟨x, a, q, c, hx, rfl, rfl, ho, Bw⟩ := hrel
      have hll := FQ N m (TB N hN m) p x
      have hts := OK N m p x
      have hsl := TB N hN m (p ++ [(x : Int)])
      have hfin : x = N -> BE N m p x = sN N (m + 1) p := fun h => by rw [h]; rfl
      have HFIN := aJ hfin
      obtain ⟨ls, hls0⟩ := aN (BE N m p x)
      rw [<- hls0] at ho hll hts HFIN
      have HO := aJ ho
      have HTS := aJ hts
      have hl5 : ls.length <= 46656 := Nat.le_trans hll (Nat.le_trans (Nat.mul_le_mul (show x <= 6 by omega) h5m) aV)
      have hvr := (HV.out.below Bw aK).ints
      clear o0 ho hls0 hll hts hfin
      obtain ⟨wz, hwz⟩ : ∃ wz : World, wz = wr := ⟨_, rfl⟩
      by_cases hlt : x < N
      · have hlt2 : (x : Int) < (N : Int) := aI
        obtain ⟨_, b, off, _, hva, _, hix, hc, hb⟩ := hvr.view prog 24 3 underlying24 aP
        injection hva with e1 _ e3
        subst e1 e3
        have HC := aJ hc
        have HIX := aJ hix
        clear hc hix hb
        go_wp2_with fail
        go_loop [7, 8] (fun u i => ∃ k : Nat, k <= p.length /\ i = ajJ k /\ u = .bool (decide ((x : Int) ∈ p.take k))) (fun _ i => p.length - (intOf i).toNat)
        case atStart => exact ⟨0, Nat.zero_le _, rfl, by simp⟩
        case round =>
          obtain ⟨k, hk, rfl, rfl⟩ := hrel
          by_cases hkl : k < p.length
          · have hkl2 : (k : Int) < (p.length : Int) := aI
            have ck := HC.out k hkl
            have ik := fun W => HIX.out W k hkl
            have hsu : decide ((x : Int) ∈ p.take (k + 1)) = (decide ((x : Int) ∈ p.take k) || (p[k] == (x : Int))) := by
              rw [List.take_succ_eq_append_getElem hkl]
              simp only [List.mem_append, List.mem_singleton, Bool.decide_or]
              congr 1
              exact decide_eq_decide.2 ⟨fun e => e.symm, fun e => e.symm⟩
            obtain ⟨y, hy⟩ := aN (p[k])
            rw [<- hy] at ck hsu
            have HSU := aJ hsu
            clear hsu hy
            obtain ⟨t, ht2⟩ := xO (decide ((x : Int) ∈ p.take k))
            rw [ht2] at HSU ⊢
            clear ht2
            obtain ⟨t3, ht3⟩ : ∃ t, (y == (x : Int)) = t := ⟨_, rfl⟩
            rw [ht3] at HSU
            cases t with
            | true =>
              go_wp2
              go_round
              case rel => exact ⟨k + 1, by omega, by go_num, by rw [HSU.out]; rfl⟩
              case measure => simp [intOf]; omega
            | false =>
              cases t3 with
              | true =>
                go_wp2
                go_round
                case rel => exact ⟨k + 1, by omega, by go_num, by rw [HSU.out]; rfl⟩
                case measure => simp [intOf]; omega
              | false =>
                go_wp2
                go_round
                case rel => exact ⟨k + 1, by omega, by go_num, by rw [HSU.out]; rfl⟩
                case measure => simp [intOf]; omega
          · have hkp : k = p.length := aI
            have hkl2 : ¬ (k : Int) < (p.length : Int) := aI
            obtain ⟨t, ht2⟩ := xO (decide ((x : Int) ∈ p.take k))
            rw [ht2]
            cases t with
            | true =>
              have hhx : fP p (x : Int) = true := by rw [<- ht2, hkp, List.take_length]; rfl
              have HHX := aJ hhx
              clear ht2 hkp hhx
              go_wp2
              go_roundw
              case rel => exact ⟨x + 1, a, q, c, by omega, by go_num, rfl, by rw [HTS.out, HHX.out]; simpa using HO.out, Bw⟩
              case measure => simp [intOf]; omega
            | false =>
              have hhx : fP p (x : Int) = false := by rw [<- ht2, hkp, List.take_length]; rfl
              have HHX := aJ hhx
              have hER : dA (x : Int) := ⟨by omega, by omega⟩
              have HER := aJ hER
              have hrec := fun (v6 : Value) (w6 : World) (h1 : aM 3 wr w6 v6 (([] ++ p) ++ [(x : Int)])) (h2 : wr.heap.size <= w6.heap.size) => IH.out (([] ++ p) ++ [(x : Int)]) v6 w6 wr.heap.size (by have := HPM.out; simp; omega) h1 h2
              have HREC := aJ hrec
              clear ht2 hkp hhx hrec hER
              go_wp2_with (first
  | (at_builtin; refine sH rfl _ _ _ rfl 3 underlying24 aP wr.heap.size (ajH (some ⟨wr, 0, none⟩) 0 0) [] rfl (aM.lit0 wr aK) (ajH av p.length cv) p rfl (hvr.alloc _) aS (aY wr _).size ?_; intro v5 w5 o5 g5 n5; have b5 := (aY wr (.cells #[] 3)).grown g5 (aY wr (.cells #[] 3)).size (fun q hq => ((aM.lit0 (E := 3) wr (Nat.le_refl wr.heap.size)).lt q hq).1))
  | (at_builtin; refine dF rfl _ _ _ rfl 3 underlying24 aP wr.heap.size v5 ([] ++ p) (x : Int) w5.heap.size rfl rfl (aX _ _ _ _ _ rfl) (o5.alloc _) HER.out aS (b5.alloc b5.size _).size ?_; intro v6 w6 o6 g6 n6; have b6 := (b5.alloc b5.size _).grown g6 (b5.alloc b5.size _).size (fun q hq => (o5.lt q hq).1))
  | (go_at_call 249; refine (HREC.out v6 w6 o6 b6.size).mono ?_; rintro e7 w7 ⟨p7, q7, c7, rfl, o7, b7⟩; have bb := b6.after b7 b6.size; have oo := HO.out.keep bb)
  | (at_builtin; refine KY rfl _ _ _ rfl underlying77 jS rJ w.heap.size _ ls rfl oo wr.heap.size _ (sN N m (p ++ [(x : Int)])) rfl o7 Bw.size aI (Bw.after bb Bw.size).size ?_; intro v8 w8 o8 g8 _))
              obtain ⟨a8, n8, c8, rfl⟩ := o8.shape3
              have B7 := Bw.after bb Bw.size
              go_roundw
              case rel => exact ⟨x + 1, a8, n8, c8, by omega, by go_num, rfl, by rw [HTS.out, HHX.out]; exact o8, B7.grown g8 B7.size (fun k hk => (oo.lt k hk).1)⟩
              case measure => simp [intOf]; omega
      · have hxN : x = N := aI
        have hlt2 : ¬ (x : Int) < (N : Int) := aI
        have hle := HFIN.out hxN
        have HLE := aJ hle
        clear hxN hle
        go_wp2
        go_ret
        exact ⟨a, q, c, rfl, by rw [<- HLE.out]; exact HO.out.mono hB, Bw⟩
def FJ(p:List Int)(s k:Nat):Bool:=cZ s (p.getD k 0).toNat
def pT(p:List Int)(s:Nat):Nat->Int
 |0=>-1
 |k+1=>if FJ p s k&&decide (pT p s k<0) then (k:Int) else pT p s k
def uY(p:List Int)(s:Nat):Nat->Int
 |0=>-1
 |k+1=>if FJ p s k then (k:Int) else uY p s k
theorem BP(p:List Int)(s k:Nat):pT p s (k+1)=if FJ p s k&&decide (pT p s k<0) then (k:Int) else pT p s k:=rfl
theorem IF(p:List Int)(s k:Nat):uY p s (k+1)=if FJ p s k then (k:Int) else uY p s k:=rfl
theorem KR(p:List Int)(s:Nat):∀k:Nat,-1<=pT p s k/\pT p s k<=k:=by
 intro k
 induction k with
 |zero=>exact⟨by simp[pT],by simp[pT]⟩
 |succ k ih=>
  rw[BP]
  split<;>omega
theorem acQ(p:List Int)(s:Nat):∀k:Nat,-1<=uY p s k/\uY p s k<=k:=by
 intro k
 induction k with
 |zero=>exact⟨by simp[uY],by simp[uY]⟩
 |succ k ih=>
  rw[IF]
  split<;>omega
theorem ag3(p:List Int)(s:Nat)(j:Nat)(z:FJ p s j=true):∀k,j<k->0<=pT p s k:=by
 intro k
 induction k with
 |zero=>intro h;omega
 |succ k ih=>
  intro h;rw[BP];by_cases hk:j<k
  ·have:=ih hk
   split<;>omega
  ·have e:j=k:=aI;subst e;rw[z,Bool.true_and]
   split
   ·omega
   ·rename_i h2;rw[decide_eq_true_eq]at h2;omega
def vJ(p:List Int)(s:Nat):Bool:=decide (uY p s p.length-pT p s p.length+1=(bN s:Int))
def nU(p:List Int)(s:Int):Bool:=s==0||vJ p s.toNat
def lW(l p:List Int):Bool:=l.all (nU p)
theorem agC:∀s:Nat,s<64->s≠0->∃e,e<6/\(cZ s e=true/\2^e<=s):=by decide +kernel
theorem VT:∀n,n<7->(cV n n).all (fun p=>(List.range n).all fun e=>fP p (e:Int))=true:=by decide +kernel
theorem ab9{n:Nat}(F:n<=6){p:List Int}(D:p∈cV n n){e:Nat}(z:e<n):(e:Int)∈p:=by
 have h:=VT n aI;rw[List.all_eq_true]at h;have h2:=h p D;rw[List.all_eq_true]at h2;exact GP.1 (h2 e (List.mem_range.2 z))
theorem adU{n:Nat}(J:n<=6){p:List Int}(K:∀e,e<n->(e:Int)∈p)(s:Nat)(N:s<2^n)(F:s≠0):0<=pT p s p.length:=by
 have M:(2:Nat)^n<=64:=Nat.pow_le_pow_right (n:=2) (j:=6) aV J;obtain⟨e,_,hb,I⟩:=agC s aI F;have z:e<n:=by
  rcases Nat.lt_or_ge e n with h|h
  ·exact h
  ·have:=Nat.pow_le_pow_right (n:=2) aV h;omega
 obtain⟨k,hk,D⟩:=List.getElem_of_mem (K e z);refine ag3 p s k ?_ p.length hk;unfold FJ;rw[List.getD_eq_getElem?_getD,List.getElem?_eq_getElem hk,Option.getD_some,D,Int.toNat_natCast];exact hb
def wN(g:Int)(l:List Int):Option (List Int):=(cV g.toNat g.toNat).find? (lW l)
def xP(g:Int)(l:List Int):Bool:=bF g l&&(wN g l).isSome
def nR(g:Int)(l:List Int):List Int:=if bF g l then (wN g l).getD [] else []
theorem RK{z:List (List Int)}{P:List Int->Bool}(k:Nat)(hk:k<z.length)(F:∀j,(D:j<z.length)->j<k->P z[j]=false)(h1:P z[k]=true):z.find? P=some z[k]:=by
 rw[List.find?_eq_some_iff_getElem];exact⟨h1,k,hk,rfl,fun j D=>by rw[F j aI D];rfl⟩
theorem NV{z:List (List Int)}{P:List Int->Bool}(D:∀j,(I:j<z.length)->P z[j]=false):z.find? P=none:=by
 rw[List.find?_eq_none];intro x F;obtain⟨k,hk,rfl⟩:=List.getElem_of_mem F;rw[D k hk];simp
theorem DA(g:Int)(l:List Int):(nR g l).length<=6/\∀x∈nR g l,0<=x/\x<6:=by
 unfold nR
 split
 ·rename_i h;have D:=dQ h
  cases hr:wN g l with
  |none=>exact⟨by simp,by simp⟩
  |some p=>unfold wN at hr;have hm:=List.mem_of_find?_eq_some hr;have h2:=pY _ _ p hm;rw[Option.getD_some];refine⟨by omega,fun x z=>by have:=h2.2 x z;omega⟩
 ·exact⟨by simp,by simp⟩
theorem CW(l : List Int)(v : Value)(s : Int)(w : World)(hv : aO w v l)(hm : ∀ x ∈ l, 0 <= x /\ x < 64)(hs : 0 <= s /\ s < 64) :
    Calls prog 292 #[v, ajJ s] w fun e w' => e = .returned (.bool (lB l s)) /\ Below w w w' := by
  obtain ⟨a, b, off, c, rfl, hlen, hix, hc, hb⟩ := hv.view prog 24 3 underlying24 aP
  have hs0 := hs.1
  have hs1 := hs.2
  go_enter func292, ntmps292
  go_wp2
  go_loopw [9] (fun i wr => ∃ k n : Nat, k <= l.length /\ i = ajJ k /\ bY (uS l s) k = true /\ wr = w.drewN n) (fun i _ => l.length - (intOf i).toNat)
  case atStart => exact ⟨0, 0, Nat.zero_le _, rfl, rfl, rfl⟩
  case round =>
    obtain ⟨k, n, hk, rfl, hall, rfl⟩ := hrel
    have H := aJ hall
    clear hall
    by_cases hlt : k < l.length
    · have hck := hc k hlt
      have hc0 := hc 0 aI
      have hix0 : ∀ w', (Instr.indexAt 24 (ajH a l.length c) (ajJ 0)).run prog w' = .ok (.pointer (some ⟨b, off, none⟩)) w' := fun w' => by have := hix w' 0 aI; simpa using this
      have hmk := hm _ (List.getElem_mem hlt)
      have hm0 := hm _ (List.getElem_mem (show 0 < l.length by omega))
      have gk := aU l k hlt
      have g0 := aU l 0 aI
      have hpet : uS l s k = (!(l[k] == s) && (bG s l[k] == bG s l[0]) && (k == 0 || bG s l[k] == bG l[0] (l.getD 1 0))) := by unfold uS; rw [gk, g0]
      have hixk := fun W => hix W k hlt
      obtain ⟨t, ht⟩ := aN (l[k])
      obtain ⟨t0, ht0⟩ := aN (l[0])
      rw [<- ht] at hck hmk hpet
      rw [<- ht0] at hc0 hm0 hpet
      rw [Nat.add_zero] at hc0
      have h1 := eB hs0 (show s < 4611686018427387904 by omega) hmk.1 (show t < 4611686018427387904 by omega)
      have h2 := eB hs0 (show s < 4611686018427387904 by omega) hm0.1 (show t0 < 4611686018427387904 by omega)
      have HT0 := aJ ht0
      have HT := aJ ht
      clear ht ht0 gk g0
      have bad : uS l s k = false -> lB l s = false := fun h => dD hlt h
      cases c1 : (t == s) with
      | true =>
        have hbad := bad (by rw [hpet, c1]; rfl)
        have HBAD := aJ hbad
        clear hbad bad hpet hc hm h1 h2
        go_wp2_with fail
        go_quiet (fail)
        go_wp2
        go_ret
        exact ⟨aW HBAD.out.symm, ((Below.refl _ _).drewN' _).drewN' _⟩
      | false =>
        cases c2 : (bG s t != bG s t0) with
        | true =>
          have hbad := bad (by rw [hpet]; have : (bG s t == bG s t0) = false := by simpa using c2
                               rw [this]; simp)
          have HBAD := aJ hbad
          obtain ⟨q, hq⟩ := aN (bG s t)
          obtain ⟨q0, hq0⟩ := aN (bG s t0)
          rw [<- hq] at h1 c2
          rw [<- hq0] at h2 c2
          clear hbad bad hpet hc hm hq hq0
          go_wp2_with fail
          go_quiet (fail)
          go_wp2
          go_ret
          exact ⟨aW HBAD.out.symm, ((Below.refl _ _).drewN' _).drewN' _⟩
        | false =>
          have c2' : (bG s t == bG s t0) = true := by simpa using c2
          by_cases hk0 : k = 0
          · have hgood : uS l s k = true := by rw [hpet, c1, c2', hk0]; rfl
            have HG := aJ hgood
            subst hk0
            have ett : t = t0 := HT.out.trans HT0.out.symm
            subst ett
            obtain ⟨q, hq⟩ := aN (bG s t)
            rw [<- hq] at h1
            clear hgood bad hpet hc hm hq c2' hck h2 c2
            go_wp2_with fail
            go_quiet (fail)
            go_wp2
            go_roundw
            case rel => exact ⟨0 + 1, n + nq, by omega, by go_num, dK H.out HG.out, by simp⟩
            case measure => simp [intOf]; omega
          · have h1l : 1 < l.length := aI
            have hc1 := hc 1 h1l
            have hix1 : ∀ w', (Instr.indexAt 24 (ajH a l.length c) (ajJ 1)).run prog w' = .ok (.pointer (some ⟨b, off + 1, none⟩)) w' := fun w' => by have := hix w' 1 h1l; simpa using this
            have hm1 := hm _ (List.getElem_mem h1l)
            have g1 := aU l 1 h1l
            rw [g1] at hpet
            obtain ⟨t1, ht1⟩ := aN (l[1])
            rw [<- ht1] at hc1 hm1 hpet
            have h3 := eB hm0.1 (show t0 < 4611686018427387904 by omega) hm1.1 (show t1 < 4611686018427387904 by omega)
            have hkg : (0 : Int) < k := aI
            have hkn : 0 < k := aI
            have hkb : (k == 0) = false := by simpa using hk0
            cases c4 : (bG s t != bG t0 t1) with
            | true =>
              have hbad := bad (by rw [hpet]; have : (bG s t == bG t0 t1) = false := by simpa using c4
                                   rw [this, hkb]; simp)
              have HBAD := aJ hbad
              obtain ⟨q, hq⟩ := aN (bG s t)
              obtain ⟨q0, hq0⟩ := aN (bG s t0)
              obtain ⟨q1, hq1⟩ := aN (bG t0 t1)
              rw [<- hq] at h1 c2 c4
              rw [<- hq0] at h2 c2
              rw [<- hq1] at h3 c4
              clear hbad bad hpet hc hm hq hq0 hq1 c2' g1 ht1
              go_wp2_with fail
              go_quiet (fail)
              go_wp2
              go_ret
              exact ⟨aW HBAD.out.symm, ((Below.refl _ _).drewN' _).drewN' _⟩
            | false =>
              have c4' : (bG s t == bG t0 t1) = true := by simpa using c4
              have hgood : uS l s k = true := by rw [hpet, c1, c2', c4']; simp
              have HG := aJ hgood
              obtain ⟨q, hq⟩ := aN (bG s t)
              obtain ⟨q0, hq0⟩ := aN (bG s t0)
              obtain ⟨q1, hq1⟩ := aN (bG t0 t1)
              rw [<- hq] at h1 c2 c4
              rw [<- hq0] at h2 c2
              rw [<- hq1] at h3 c4
              clear hgood bad hpet hc hm hq hq0 hq1 c2' c4' g1 ht1
              go_wp2_with fail
              go_quiet (fail)
              go_wp2
              go_roundw
              case rel => exact ⟨k + 1, n + nq, by omega, by go_num, dK H.out HG.out, by simp⟩
              case measure => simp [intOf]; omega
    · have hkl : k = l.length := aI
      subst hkl
      go_wp2
      go_ret
      exact ⟨aW H.out.symm, (Below.refl _ _).drewN' _⟩
theorem JR(l:List Int)(v:Value)(w:World)(hv:aO w v l)(hm:∀x∈l,0<=x/\x<64):
  Calls prog 294 #[v] w fun e w'=>e=.returned (.bool (rT l))/\Below w w w':=by
 obtain⟨a,b,b7,c,rfl,e5,b0,hc,hb⟩:=hv.view prog 24 3 underlying24 aP;obtain⟨F,hF⟩:∃F:Nat->Bool,F=fun i=>bY (wZ l i) i:=⟨_,rfl⟩;have J:rT l=bY F l.length:=by rw[hF];rfl
 have HS:=aJ J;have HF:=aJ hF;have HC:=aJ hc;have HX:=aJ b0;have HM:=aJ hm;clear J hF hc b0 hm;go_enter func294,ntmps294;go_wp2;go_loopw [3] (fun i wr=>∃k n:Nat,k<=l.length/\i=ajJ k/\bY F k=true/\wr=w.drewN n) (fun i _=>l.length-(intOf i).toNat)
 case atStart=>exact⟨0,0,Nat.zero_le _,rfl,rfl,rfl⟩
 case round=>
  obtain⟨k,n,hk,rfl,D,rfl⟩:=hrel;have H:=aJ D;clear D;by_cases hlt:k<l.length
  ·have a7:F k=bY (wZ l k) k:=by rw[HF.out]
   have bad:F k=false->rT l=false:=fun h=>by rw[HS.out];exact dD hlt h
   have S:=aJ bad;have Y:=aJ a7;clear bad a7;go_wp2;go_loopw [4] (fun i wr=>∃j n':Nat,j<=k/\i=ajJ j/\bY (wZ l k) j=true/\wr=w.drewN n') (fun i _=>k-(intOf i).toNat)
   case atStart=>exact⟨0,n,Nat.zero_le _,rfl,rfl,rfl⟩
   case round=>
    obtain⟨j,n',hj,rfl,a9,rfl⟩:=hrel;have Z:=aJ a9;clear a9;by_cases d5:j<k
    ·have d0:=HC.out k hlt;have c9:=HC.out j aI;have a8:=HC.out 0 aI;have c8:=HC.out 1 aI;rw[Nat.add_zero]at a8;have e4:=fun W=>HX.out W k hlt;have e0:=fun W=>HX.out W j aI;have d8:∀w',(Instr.indexAt 24 (ajH a l.length c) (ajJ 0)).run prog w'=.ok (.pointer (some ⟨b,b7,none⟩)) w':=fun w'=>by have:=HX.out w' 0 aI;simpa using this
     have d9:∀w',(Instr.indexAt 24 (ajH a l.length c) (ajJ 1)).run prog w'=.ok (.pointer (some ⟨b,b7+1,none⟩)) w':=fun w'=>by have:=HX.out w' 1 aI;simpa using this
     have O:=HM.out _ (List.getElem_mem hlt);have N:=HM.out _ (List.getElem_mem (show j<l.length by omega));have K:=HM.out _ (List.getElem_mem (show 0<l.length by omega));have M:=HM.out _ (List.getElem_mem (show 1<l.length by omega));have z:wZ l k j=(bG l[k] l[j]==bG l[0] l[1]):=by unfold wZ;rw[aU l k hlt,aU l j aI,aU l 0 aI,aU l 1 aI]
     obtain⟨tk,b5⟩:∃t,t=l[k]:=⟨_,rfl⟩;obtain⟨tj,b3⟩:∃t,t=l[j]:=⟨_,rfl⟩;obtain⟨t0,a1⟩:∃t,t=l[0]:=⟨_,rfl⟩;obtain⟨t1,a6⟩:∃t,t=l[1]:=⟨_,rfl⟩;rw[<-b5]at d0 O z;rw[<-b3]at c9 N z;rw[<-a1]at a8 K z;rw[<-a6]at c8 M z;have b1:=eB O.1 (show tk<4611686018427387904 by omega) N.1 (show tj<4611686018427387904 by omega);have b2:=eB K.1 (show t0<4611686018427387904 by omega) M.1 (show t1<4611686018427387904 by omega);obtain⟨q,hq⟩:=aN (bG tk tj);obtain⟨q0,b6⟩:=aN (bG t0 t1);rw[<-hq]at b1 z;rw[<-b6]at b2 z;clear b5 b3 a1 a6 hq b6 O N K M
     cases R:wZ l k j with
     |false=>
      have ht:(q != q0)=true:=by rw[R]at z;have:=z.symm;simpa using this
      have I:=S.out (by rw[Y.out];exact dD d5 R);have HB:=aJ I;clear z R I;go_wp2_with fail;go_quiet (fail);go_wp2;go_ret;exact⟨aW HB.out.symm,((Below.refl _ _).drewN' _).drewN' _⟩
     |true=>
      have ht:(q != q0)=false:=by rw[R]at z;have:=z.symm;simpa using this
      have HP:=aJ R;clear z R;go_wp2_with fail;go_quiet (fail);go_wp2;go_roundw
      case rel=>exact⟨j+1,n'+nq,by omega,by go_num,dK Z.out HP.out,by simp⟩
      case measure=>simp[intOf];omega
    ·have b4:j=k:=aI;subst b4;go_wp2;go_roundw
     case rel=>exact⟨j+1,n',by omega,by go_num,dK H.out (by rw[Y.out];exact Z.out),rfl⟩
     case measure=>simp[intOf];omega
  ·have d6:k=l.length:=aI;subst d6;go_wp2;go_ret;exact⟨aW (by rw[HS.out,H.out]),(Below.refl _ _).drewN' _⟩
def RC(l:List Int)(i k:Nat):Bool:=!(l.getD k 0==l.getD i 0)
def KW(l:List Int)(i:Nat):Bool:=fA 6 (l.getD i 0)&&bY (RC l i) i
def vK(l:List Int):Bool:=decide (l.length<=64)&&bY (KW l) l.length
def hJ(l:List Int):Bool:=vK l&&rT l
def xM(l:List Int)(i:Nat):Bool:=lB (l.take i) (l.getD i 0)
theorem CZ(s:Int):fA 6 s=true↔0<=s/\s<64:=by unfold fA;simp
theorem BQ{l:List Int}(h:vK l=true):l.length<=64/\(∀x∈l,0<=x/\x<64)/\∀i,i<l.length->∀k,k<i->l.getD k 0≠l.getD i 0:=by
 unfold vK at h;obtain⟨h1,h2⟩:=Bool.and_eq_true_iff.1 h;have h2:=eH.1 h2;refine⟨of_decide_eq_true h1,fun x D=>?_,fun i z k hk=>?_⟩
 ·obtain⟨i,z,rfl⟩:=List.getElem_of_mem D;have:=h2 i z;unfold KW at this;obtain⟨h3,_⟩:=Bool.and_eq_true_iff.1 this;rw[aU l i z]at h3;exact(CZ _).1 h3
 ·have:=h2 i z;unfold KW at this;obtain⟨_,h3⟩:=Bool.and_eq_true_iff.1 this;have h4:=eH.1 h3 k hk;unfold RC at h4;simpa using h4
theorem ad4(l:List Int)(s:Int)(h:s∈l):lB l s=false:=by
 obtain⟨i,z,rfl⟩:=List.getElem_of_mem h;unfold lB;refine dD z ?_;unfold uS;rw[aU l i z];simp
theorem agB(l:List Int):∀n,n<=l.length->(bY (xM l) n=true↔(∀i,i<n->∀k,k<i->l.getD k 0≠l.getD i 0)/\rT (l.take n)=true):=by
 intro n
 induction n with
 |zero=>intro _;simp[bY,rT]
 |succ n ih=>
  intro Y;have F:n<l.length:=aI;have O:l.take (n+1)=l.take n++[l.getD n 0]:=by rw[List.take_succ_eq_append_getElem F,aU l n F]
  have D:l.getD n 0∈l.take n↔∃k,k<n/\l.getD k 0=l.getD n 0:=by
   constructor
   ·intro h;obtain⟨k,hk,J⟩:=List.getElem_of_mem h;have N:k<n:=by simp at hk;omega
    refine⟨k,N,?_⟩;rw[aU l k aI,<-J];simp
   ·rintro⟨k,hk,J⟩;rw[<-J,aU l k aI];exact List.mem_take_iff_getElem.2 ⟨k,by omega,rfl⟩
  rw[bY,Bool.and_eq_true,ih aI,O];constructor
  ·rintro⟨⟨h1,h2⟩,h3⟩;have z:l.getD n 0∉l.take n:=fun hm=>by unfold xM at h3;rw[ad4 _ _ hm]at h3;cases h3
   refine⟨fun i K k hk=>?_,?_⟩
   ·by_cases M:i<n
    ·exact h1 i M k hk
    ·have:i=n:=aI;subst this;exact fun e=>z (D.2 ⟨k,hk,e⟩)
   ·unfold xM at h3;rw[zQ _ _ h2 z]at h3;exact h3
  ·rintro⟨h1,h2⟩;have z:l.getD n 0∉l.take n:=fun hm=>by obtain⟨k,hk,e⟩:=D.1 hm;exact h1 n aI k hk e
   have I:rT (l.take n)=true:=by
    rw[IG]at h2 ⊢;intro i K k hk;have R:(l.take n).length=n:=by simp;omega
    have:=h2 i aS k hk;rw[mT _ _ i K,mT _ _ k aI]at this;by_cases S:1<n
    ·rw[mT _ _ 0 aI,mT _ _ 1 aI]at this;exact this
    ·omega
   refine⟨⟨fun i K k hk=>h1 i aI k hk,I⟩,?_⟩;unfold xM;rw[zQ _ _ I z];exact h2
theorem Y8(l:List Int)(D:l.length<=64)(F:fX 6 l=true):hJ l=bY (xM l) l.length:=by
 have I:∀i,i<l.length->fA 6 (l.getD i 0)=true:=by intro i z;unfold fX at F;simp only[Bool.and_eq_true,List.all_eq_true]at F;rw[aU l i z];exact F.2 _ (List.getElem_mem z)
 have h:=agB l l.length aK;rw[List.take_of_length_le aK]at h;have e:hJ l=true↔bY (xM l) l.length=true:=by
  rw[h];unfold hJ;rw[Bool.and_eq_true];constructor
  ·rintro⟨h1,h2⟩;exact⟨(BQ h1).2.2,h2⟩
  ·rintro⟨h1,h2⟩;refine⟨?_,h2⟩;unfold vK;rw[decide_eq_true D,Bool.true_and];refine eH.2 fun i z=>?_;unfold KW;rw[I i z,Bool.true_and];exact eH.2 fun k hk=>by unfold RC;simpa using h1 i z k hk
 cases h1:hJ l with
 |true=>rw[e.1 h1]
 |false=>
  cases h2:bY (xM l) l.length with
  |false=>rfl
  |true=>rw[e.2 h2]at h1;cases h1
theorem SL{l:List Int}(h:¬l.length<=64∨fX 6 l=false):hJ l=false:=by
 cases hb:hJ l with
 |false=>rfl
 |true=>
  unfold hJ at hb;obtain⟨h1,h2,_⟩:=BQ (Bool.and_eq_true_iff.1 hb).1;rcases h with h|h
  ·exact absurd h1 h
  ·unfold fX at h;have:l.all (fA (6:Int).toNat)=true:=List.all_eq_true.2 fun x z=>(CZ x).2 (h2 x z);rw[this]at h
   cases h
theorem YZ(l:List Int)(v:Value)(w:World)(hv:aO w v l):
  Calls prog 247 #[v] w fun e w'=>e=.returned (.bool (hJ l))/\Below w w w':=by
 have K:=hv;obtain⟨a,b,c7,c,rfl,b7,Z,hc,hb⟩:=hv.view prog 24 3 underlying24 aP;by_cases R:l.length<=64
 ·have S:¬(64:Int)<(l.length:Int):=aI
  cases F:fX 6 l with
  |false=>have D:hJ l=false:=SL (.inr F);have N:=aJ D;have O:=aJ (sU 6 l _ w K);rw[F]at O;clear D F;go_enter func247,ntmps247;go_wp2_with (go_at_call 211;refine O.out.mono ?_;rintro e w' ⟨rfl,rfl⟩);go_ret;exact⟨aW N.out.symm,Below.refl _ _⟩
  |true=>
   have D:=Y8 l R F;have hm:∀x∈l,0<=x/\x<64:=by intro x D;unfold fX at F;simp only[Bool.and_eq_true,List.all_eq_true]at F;exact(CZ x).1 (F.2 x D)
   have N:=aJ D;have HM:=aJ hm;have O:=aJ (sU 6 l _ w K);rw[F]at O;clear D F hm;go_enter func247,ntmps247;go_wp2_with (go_at_call 211;refine O.out.mono ?_;rintro e w' ⟨rfl,rfl⟩);go_loopw [15] (fun i wr=>∃k:Nat,k<=l.length/\i=ajJ k/\bY (xM l) k=true/\Below w w wr) (fun i _=>l.length-(intOf i).toNat)
   case atStart=>exact⟨0,Nat.zero_le _,rfl,rfl,Below.refl _ _⟩
   case round=>
    obtain⟨k,hk,rfl,I,B⟩:=hrel;have H:=aJ I;clear I;by_cases hlt:k<l.length
    ·have a6:(k:Int)<(l.length:Int):=aI;have b5:=K.below B aK;obtain⟨u1,u2⟩:=b5.upto 24 3 underlying24 aP k hk;have ck:=aT hc hb B aK k hlt;have ik:=fun W=>Z W k hlt;have Y:xM l k=lB (l.take k) l[k]:=by unfold xM;rw[aU l k hlt]
     have a9:=HM.out _ (List.getElem_mem hlt);have a7:∀x∈l.take k,0<=x/\x<64:=fun x D=>HM.out x (List.mem_of_mem_take D);have M:=aJ (CW (l.take k) _ l[k] wr u2 a7 a9);rw[<-Y]at M;obtain⟨y,hy⟩:=aN (l[k]);rw[<-hy]at M ck;clear Y a7 hy a9 hc Z
     cases z:xM l k with
     |true=>
      rw[z]at M;have b0:=aJ z;clear z;go_wp2_with (go_at_call 292;refine M.out.mono ?_;rintro e w3 ⟨rfl,b3⟩);go_roundw
      case rel=>exact⟨k+1,by omega,by go_num,dK H.out b0.out,B.after b3 B.size⟩
      case measure=>simp[intOf];omega
     |false=>
      rw[z]at M;have a8:hJ l=false:=by rw[N.out];exact dD hlt z
      have b1:=aJ a8;clear z a8;go_wp2_with (go_at_call 292;refine M.out.mono ?_;rintro e w3 ⟨rfl,b3⟩);go_ret;exact⟨aW b1.out.symm,B.after b3 B.size⟩
    ·have a6:¬(k:Int)<(l.length:Int):=aI;have a1:k=l.length:=aI;have J:hJ l=true:=by rw[N.out,<-a1];exact H.out
     have HY:=aJ J;clear a1 J;go_wp2;go_ret;exact⟨aW HY.out.symm,B⟩
 ·have S:(64:Int)<(l.length:Int):=aI;have D:hJ l=false:=SL (.inl R);have N:=aJ D;clear D;go_enter func247,ntmps247;go_wp2;go_ret;exact⟨aW N.out.symm,Below.refl _ _⟩
end
end Go.Proofs.YtcpoomdoodlkjaaGreatDoor
