/- Lemmas for CardReports. No condition. -/
import Derived.Test.YtcpoomdoodlkjaaGreatDoorQ19
import Derived.Test.YtcpoomdoodlkjaaGreatDoorQ20
set_option maxRecDepth 100000
set_option maxHeartbeats 64000000
namespace Go.Proofs.YtcpoomdoodlkjaaGreatDoor
section
open Go.RowKit Go.G5 Go.Proofs.Tryz
def EV(o:Option (List Int))(z:List Int):List Int:=match o with|some x=>z++x|none=>[]
theorem AB(g:Nat)(hg:g<=6)(F t z:List Int)(K:Int)(w:World)(vF tv:Value)(ad:Option Addr)(ni cp:Nat)(B:Nat)(a1:aO w vF F)(hv:aO w tv t)(R:aM 3 B w (ajH ad ni cp) z)
  (ha:∀s∈z,0<=s/\s<64) (hu:dB z=2^g-1):
  Calls prog 237 #[.agg #[(g:Int),vF],tv,ajH ad ni cp,K] w fun e w'=>
   e=.returned (.tuple #[ajH ad ni cp,.bool true])/\aM 3 B w' (ajH ad ni cp) z/\Below w w w':=by
 obtain⟨N,O,rfl⟩:=a1.shape;obtain⟨av,cv,rfl⟩:=hv.shape;obtain⟨d0,d1,M,z1⟩:=Box2.new w g (ajH N F.length O) 31;obtain⟨W0,J⟩:=aN (w.alloc (.cells #[g,ajH N F.length O] 31));rw[<-J]at d0 d1 M z1;have e0:∀x:Ext W0,x.w.cell? ⟨w.heap.size,0,none⟩=some (ajJ g):=fun x=>x.cell d0;have e1:∀x:Ext W0,x.w.cell? ⟨w.heap.size,1,none⟩=some (ajH N F.length O):=fun x=>x.cell d1;have D:=R.below M aK;have a6:=a1.below M aK;have HA:=aJ ha;have HU:=aJ hu;obtain⟨u,I⟩:=aN ((2:Int)^g-1);have Y:∀W,aO W (ajH N F.length O) F->Calls prog 215 #[.agg #[g,ajH N F.length O]] W fun e w'=>e=.returned u/\Below W W w':=fun W hW=>by rw[I];exact iW g _ F W hW aI aI
 have HG:=aJ Y;have b9:=aJ I;have Z:dB z=u:=by rw[I,hu]
 have a9:=aJ Z;clear ha hu Y I Z;go_enter func237,ntmps237;go_wp2;rw[<-J];clear J;refine bJ _ aQ aQ ?_
 repeat(first|go_big_quiet_skip|(go_big_quiet_want;go_big_quiet_op;first|go_big_quiet_on|(apply Exists.intro;refine⟨fun _=>?_,?_⟩;(first|(go_at_call 236;exact aaT (lP z _ _ (Ext.ints _ D.ints) HA.out) a9.out)|(go_at_call 215;exact bK (HG.out _ (Ext.ints _ a6))));go_big_quiet_on)))
 refine wpQuiet_nil ?_;rintro w3 ⟨⟨w3,S⟩,rfl⟩
 try dsimp only
 clear e0 e1;go_wp2;go_ret2;exact⟨rfl,D.keep S,M.after S M.size⟩
theorem LT(g:Nat)(hg:g<=6)(F t z:List Int)(w:World)(vF tv:Value)(ad:Option Addr)(ni cp:Nat)(B:Nat)(S:aO w vF F)(hv:aO w tv t)(O:aM 3 B w (ajH ad ni cp) z)
  (ha:∀s∈z,0<=s/\s<64) (hu:dB z≠2^g-1):
  Calls prog 237 #[.agg #[(g:Int),vF],tv,ajH ad ni cp,'0'] w fun e w'=>
   e=.returned (.tuple #[(),.bool false])/\Below w w w':=by
 obtain⟨M,N,rfl⟩:=S.shape;obtain⟨av,cv,rfl⟩:=hv.shape;obtain⟨d0,d1,K,z1⟩:=Box2.new w g (ajH M F.length N) 31;obtain⟨W0,I⟩:=aN (w.alloc (.cells #[g,ajH M F.length N] 31));rw[<-I]at d0 d1 K z1;have e0:∀x:Ext W0,x.w.cell? ⟨w.heap.size,0,none⟩=some (ajJ g):=fun x=>x.cell d0;have e1:∀x:Ext W0,x.w.cell? ⟨w.heap.size,1,none⟩=some (ajH M F.length N):=fun x=>x.cell d1;have J:=O.below K aK;have Y:=S.below K aK;have HA:=aJ ha;obtain⟨u,D⟩:=aN ((2:Int)^g-1);have R:∀W,aO W (ajH M F.length N) F->Calls prog 215 #[.agg #[g,ajH M F.length N]] W fun e w'=>e=.returned u/\Below W W w':=fun W hW=>by rw[D];exact iW g _ F W hW aI aI
 have HG:=aJ R;have b9:(dB z==u)=false:=by rw[D];simpa using hu
 have b6:=aJ D;clear ha hu R D;go_enter func237,ntmps237;go_wp2;rw[<-I];clear I;refine bJ _ aQ aQ ?_
 repeat(first|go_big_quiet_skip|(go_big_quiet_want;go_big_quiet_op;first|go_big_quiet_on|(apply Exists.intro;refine⟨fun _=>?_,?_⟩;(first|(go_at_call 236;exact cO (lP z _ _ (Ext.ints _ J.ints) HA.out))|(go_at_call 215;exact bK (HG.out _ (Ext.ints _ Y))));go_big_quiet_on)))
 refine wpQuiet_nil ?_;rintro w3 ⟨⟨w3,Z⟩,rfl⟩
 try dsimp only
 clear e0 e1;go_wp2;go_ret2;exact⟨rfl,K.after Z K.size⟩
theorem PB(g : Nat)(hg : g <= 6)(F : List Int) : ∀ (k : Nat) (_ : k <= 60) (K : Int) (_ : K = k) (t acc : List Int) (w : World) (vF tv : Value) (ad : Option Addr) (ni cp : Nat) (B : Nat) (_ : B <= w.heap.size) (_ : aO w vF F) (_ : aO w tv t) (_ : aM 3 B w (ajH ad ni cp) acc)
    (_ : ∀ s ∈ t, 0 <= s /\ s < 2 ^ g) (_ : ∀ s ∈ acc, 0 <= s /\ s < 2 ^ g) (_ : acc.length + k <= 100),
    Calls prog 237 #[.agg #[ajJ (g : Int), vF], tv, ajH ad ni cp, ajJ K] w fun e w' =>
      ∃ ad' i' cp', e = .returned (.tuple #[ajH ad' i' cp', .bool (eP t k (cI (2 ^ g - 1) (dB acc))).isSome]) /\ aM 3 B w' (ajH ad' i' cp') (EV (eP t k (cI (2 ^ g - 1) (dB acc))) acc) /\ Below w w w' := by
  intro k
  induction k with
  | zero =>
    intro _ K hK t acc w vF tv ad ni cp B hB hvF hv hacc ht ha hlen
    have hp := cK g 6 hg
    have hp1 : (2 : Int) ^ g <= 64 := by simpa using hp.1
    have hp2 := hp.2
    have hU : 0 <= dB acc /\ dB acc < 2 ^ g := tU g acc ha 0 aI hp2
    have ha64 : ∀ s ∈ acc, 0 <= s /\ s < 64 := fun s hs => by have := ha s hs; omega
    rw [yS g _ hU.1 hU.2]
    by_cases hue : dB acc = 2 ^ g - 1
    · rw [hue, Int.sub_self, tW]
      exact (AB g hg F t acc K w vF tv ad ni cp B hvF hv hacc ha64 hue).mono fun e w' ⟨h1, h2, h3⟩ => ⟨ad, ni, cp, h1, by simpa [EV] using h2, h3⟩
    · rw [tX _ _ aI]
      have : K = 0 := hK
      subst this
      exact (LT g hg F t acc w vF tv ad ni cp B hvF hv hacc ha64 hue).mono fun e w' ⟨h1, h2⟩ => ⟨none, 0, 0, h1, aM.nil _ _ _, h2⟩
  | succ k ih =>
    intro hk K hK t acc w vF tv ad ni cp B hB hvF hv hacc ht ha hlen
    have hp := cK g 6 hg
    have hp1 : (2 : Int) ^ g <= 64 := by simpa using hp.1
    have hp2 := hp.2
    have hU : 0 <= dB acc /\ dB acc < 2 ^ g := tU g acc ha 0 aI hp2
    have ha64 : ∀ s ∈ acc, 0 <= s /\ s < 64 := fun s hs => by have := ha s hs; omega
    by_cases hue : dB acc = 2 ^ g - 1
    · rw [yS g _ hU.1 hU.2, hue, Int.sub_self, tW]
      exact (AB g hg F t acc K w vF tv ad ni cp B hvF hv hacc ha64 hue).mono fun e w' ⟨h1, h2, h3⟩ => ⟨ad, ni, cp, h1, by simpa [EV] using h2, h3⟩
    obtain ⟨aF, cF, rfl⟩ := hvF.shape
    obtain ⟨a, b, off, c, rfl, hlen', hix, hc, hb⟩ := hv.view prog 24 3 underlying24 aP
    obtain ⟨u, hu⟩ := aN (dB acc)
    obtain ⟨L, hL⟩ := aN (cI (2 ^ g - 1) (dB acc))
    rw [<- hL]
    have hL0 : L ≠ 0 := by rw [hL, yS g _ hU.1 hU.2]; omega
    rw [<- hu] at hU hL hue
    have hu0 := hU.1
    have hu1 := hU.2
    obtain ⟨f, hf⟩ := aN ((2 : Int) ^ g - 1)
    have hgr : ∀ W, aO W (ajH aF F.length cF) F -> Calls prog 215 #[.agg #[g, ajH aF F.length cF]] W fun e w' => e = .returned f /\ Below W W w' := fun W hW => by
      rw [hf]; exact iW g _ F W hW aI aI
    have htt : (u == f) = false := by rw [hf]; simpa using hue
    have hkt : (K == 0) = false := by simp; omega
    obtain ⟨d0, d1, B1, z1⟩ := Box2.new w g (ajH aF F.length cF) 31
    obtain ⟨W0, hW0⟩ := aN (w.alloc (.cells #[g, ajH aF F.length cF] 31))
    rw [<- hW0] at d0 d1 B1 z1
    have e0 : ∀ x : Ext W0, x.w.cell? ⟨w.heap.size, 0, none⟩ = some (ajJ g) := fun x => x.cell d0
    have e1 : ∀ x : Ext W0, x.w.cell? ⟨w.heap.size, 1, none⟩ = some (ajH aF F.length cF) := fun x => x.cell d1
    have hacc0 := hacc.below B1 aK
    have hvF0 := hvF.below B1 aK
    have hun : ∀ W, aO W (ajH ad ni cp) acc -> Calls prog 236 #[ajH ad ni cp] W fun e w' => e = .returned u /\ W = w' := fun W hW => by
      rw [hu]; exact lP acc _ W hW ha64
    have HUN := aJ hun
    have HG := aJ hgr
    have HU := aJ hu
    have HL := aJ hL
    have HF := aJ hf
    have HT := aJ ht
    have HA := aJ ha
    have HK := aJ hK
    have HL0 := aJ hL0
    have IH := aJ ih
    have hKr : 1 <= K /\ K <= 60 := aI
    have hK1 := hKr.1
    have hK2 := hKr.2
    clear hu hL hf hp hU ht ha ha64 hun hgr hue ih hK hL0 hKr
    go_enter func237, ntmps237
    go_wp2
    rw [<- hW0]
    clear hW0
    refine bJ _ aQ aQ ?_
    repeat (first | go_big_quiet_skip | (go_big_quiet_want; go_big_quiet_op; first | go_big_quiet_on | (apply Exists.intro; refine ⟨fun _ => ?_, ?_⟩; (first | (go_at_call 236; exact cO (HUN.out _ (Ext.ints _ hacc0.ints))) | (go_at_call 215; exact bK (HG.out _ (Ext.ints _ hvF0)))); go_big_quiet_on)))
    refine wpQuiet_nil ?_
    rintro w3 ⟨⟨w3, hb3⟩, rfl⟩
    try dsimp only
    clear e0 e1
    have X3 := (Box2.mk d0 d1 B1 z1).after hb3
    clear hb3 d0 d1 hacc0 hvF0 z1
    go_wp2_with fail
    go_loopw [24] (fun i wr => ∃ j : Nat, j <= t.length /\ i = ajJ j /\ eP (t.drop j) (k + 1) L = eP t (k + 1) L /\ Box2 w wr g (ajH aF F.length cF)) (fun i _ => t.length - (intOf i).toNat)
    case atStart => exact ⟨0, Nat.zero_le _, rfl, by rw [List.drop_zero], X3⟩
    case round =>
      obtain ⟨j, hj, rfl, hcv, X⟩ := hrel
      clear X3 htt hkt B1
      have HCV := aJ hcv
      clear hcv
      obtain ⟨d0, d1, B4, z4⟩ := X
      by_cases hlt : j < t.length
      · have hck := aT hc hb B4 aK
        have htj := HT.out _ (List.getElem_mem hlt)
        have hcj := hck j hlt
        have hsl2 := hv.from 24 3 underlying24 aP j aI
        have hsl3 := hv.from 24 3 underlying24 aP (j + 1) aI
        have hdr : t.drop j = t[j] :: t.drop (j + 1) := List.drop_eq_getElem_cons hlt
        have hm2 : ∀ x ∈ t.drop j, 0 <= x /\ x < 2 ^ g := fun x hx => HT.out x (List.mem_of_mem_drop hx)
        have hm3 : ∀ x ∈ t.drop (j + 1), 0 <= x /\ x < 2 ^ g := fun x hx => HT.out x (List.mem_of_mem_drop hx)
        have HCV2 := aJ HCV.out
        obtain ⟨t2, ht2⟩ := aN (t.drop j)
        obtain ⟨t3, ht3⟩ := aN (t.drop (j + 1))
        obtain ⟨s, hs⟩ := aN (t[j])
        rw [<- ht2] at hsl2 hdr hm2
        rw [<- ht3] at hsl3 hdr hm3
        rw [<- hs] at hcj htj hdr
        have hcv2 : eP t2 (k + 1) L = eP t (k + 1) L := by rw [ht2]; exact HCV2.out
        have HC2 := aJ hcv2
        have HT3 := aJ ht3
        obtain ⟨a2, c2, hsl2, hv2⟩ := hsl2
        obtain ⟨a3, c3, hsl3, hv3⟩ := hsl3
        have hsl3' : ∀ (kk : IntKind) (w' : World), (Instr.slice 24 (ajH a t.length c) (some (.int kk ((j : Int) + 1))) none none).run prog w' = .ok (ajH a3 t3.length c3) w' := by simpa using hsl3
        have hs0 : 0 <= s := htj.1
        have hs1 : s < 64 := aI
        have HDR := aJ hdr
        have HM2 := aJ hm2
        have HM3 := aJ hm3
        have hq : 0 <= dB t2 /\ dB t2 < 2 ^ g := tU g t2 hm2 0 aI hp2
        obtain ⟨q, hqe⟩ := aN (dB t2)
        have hun2 : ∀ W, aO W (ajH a2 t2.length c2) t2 -> Calls prog 236 #[ajH a2 t2.length c2] W fun e w' => e = .returned q /\ W = w' := fun W hW => by
          rw [hqe]; exact lP t2 _ W hW (fun x hx => by have := hm2 x hx; omega)
        rw [<- hqe] at hq
        have hor := xN hu0 (show u < 4611686018427387904 by omega) hq.1 aI
        obtain ⟨r, hr⟩ := aN (fQ u q)
        rw [<- hr] at hor
        have HUN2 := aJ hun2
        have HQ := aJ hqe
        have HR := aJ hr
        have hix1 := hix
        have hacc4 := hacc.below B4 aK
        have hvF4 := hvF.below B4 aK
        have hv24 := hv2.below B4 aK
        clear hcv2 ht2 hdr hm2 hm3 hun2 hqe hq hr hck hsl3 htj hs HCV HCV2 ht3
        have e0 : ∀ x : Ext wr, x.w.cell? ⟨w.heap.size, 0, none⟩ = some (ajJ g) := fun x => x.cell d0
        have e1 : ∀ x : Ext wr, x.w.cell? ⟨w.heap.size, 1, none⟩ = some (ajH aF F.length cF) := fun x => x.cell d1
        by_cases hrf : r = f
        · have htr : (r != f) = false := by simp [hrf]
          have hor2 := hor
          have HRF := aJ hrf
          clear hrf
          go_wp2_with fail
          refine bJ _ aQ aQ ?_
          repeat (first | go_big_quiet_skip | (go_big_quiet_want; go_big_quiet_op; first | go_big_quiet_on | (apply Exists.intro; refine ⟨fun _ => ?_, ?_⟩; (first | (go_at_call 236; first | (with_reducible exact cO (HUN.out _ (Ext.ints _ hacc4.ints))) | (with_reducible exact cO (HUN2.out _ (Ext.ints _ hv24)))) | (go_at_call 215; exact bK (HG.out _ (Ext.ints _ hvF4)))); go_big_quiet_on)))
          refine wpQuiet_nil ?_
          rintro w5 ⟨⟨w5, hb5⟩, rfl⟩
          try dsimp only
          clear e0 e1
          have B5 := B4.after hb5 B4.size
          obtain ⟨d0', d1', B5', z5'⟩ := (Box2.mk d0 d1 B4 z4).after hb5
          have hacc5 := hacc.below B5 aK
          have hvF5 := hvF.below B5 aK
          have hv35 := hv3.below B5 aK
          obtain ⟨o, ho⟩ := aN (eP t3 k (cI L s))
          have hih : ∀ (W : World) (ad' : Option Addr) (ni' cp' : Nat) (B' : Nat), B' <= W.heap.size -> aO W (ajH aF F.length cF) F -> aO W (ajH a3 t3.length c3) t3 -> aM 3 B' W (ajH ad' ni' cp') (acc ++ [s]) ->
              Calls prog 237 #[.agg #[ajJ (g : Int), ajH aF F.length cF], ajH a3 t3.length c3, ajH ad' ni' cp', ajJ (K - 1)] W fun e w' =>
                ∃ ad i cp, e = .returned (.tuple #[ajH ad i cp, .bool o.isSome]) /\ aM 3 B' w' (ajH ad i cp) (EV o (acc ++ [s])) /\ Below W W w' := by
            intro W ad' ni' cp' B' h1 h2 h3 h4
            have hsg : 0 <= s /\ s < 2 ^ g := by
              have := HM2.out s (by rw [HDR.out]; simp)
              exact this
            have := IH.out aI (K - 1) (by have := HK.out; omega) t3 (acc ++ [s]) W (ajH aF F.length cF) (ajH a3 t3.length c3) ad' ni' cp' B' h1 h2 h3 h4 HM3.out
              (fun x hx => by rcases List.mem_append.1 hx with hx | hx
                              · exact HA.out x hx
                              · simp only [List.mem_singleton] at hx; subst hx; exact hsg)
              aS
            have e : cI (2 ^ g - 1) (dB (acc ++ [s])) = cI L s := by
              rw [Z2, agE ⟨by omega, by omega⟩ (by rw [<- HU.out]; omega) ⟨hs0, hs1⟩, HL.out, HU.out]
            rw [e, <- ho] at this
            exact this
          have hno : o = none -> eP t3 (k + 1) L = eP t (k + 1) L := fun e => by
            rw [<- HC2.out, HDR.out]
            simp only [eP, if_neg HL0.out]
            rw [<- ho, e]
          have hso : ∀ x, o = some x -> eP t (k + 1) L = some (s :: x) := fun x e => by
            rw [<- HC2.out, HDR.out]
            simp only [eP, if_neg HL0.out]
            rw [<- ho, e]
          have HNO := aJ hno
          have HSO := aJ hso
          clear hno hso
          have HIH := aJ hih
          have HO := aJ ho
          have zw5 : w.heap.size < w5.heap.size := z5'
          clear hih ho d0 d1 z4 hb5 hsl2 hor hor2 hacc4 hvF4 hv24 B5' z5'
          have hwj : IntKind.i64.wrap ((j : Int) + 1) = (j : Int) + 1 := IntWalk.i64_in _ aI
          have hwk : IntKind.i64.wrap (K - 1) = K - 1 := IntWalk.i64_in _ aI
          go_wp2_with fail
          go_region_held3 (fun w' => w'.cell? ⟨w.heap.size, 0, none⟩ = some (ajJ g) /\ w'.cell? ⟨w.heap.size, 1, none⟩ = some (ajH aF F.length cF)) (go_keep)
            (first
              | (go_at_call 260; refine (kT _ acc _ (hacc5.below (B' := w5.heap.size) (by repeat (first | exact Below.refl _ _ | (with_reducible refine Below.setCell ?_ (by first | omega | (simp; done) | (simp; omega)) _) | (with_reducible refine Below.alloc ?_ (by first | omega | (simp; done) | (simp; omega)) _) | (with_reducible refine Below.drewN' ?_ _) | (with_reducible refine Below.drew ?_) | (with_reducible assumption) | refine Below.trans ?_ (Below.mono (by assumption) (by first | omega | (simp; done) | (simp; omega))))) aK).ints aI).mono ?_; rintro e w6 ⟨p6, i6, q6, rfl, o6, hb6⟩; obtain ⟨hc6, hf6⟩ := gZ hb6 w5.heap.size (by first | omega | (simp; done) | (simp; omega)); have z6 := hb6.size; (try simp at z6); have r6 := o6.lt)
              | (refine rQ rfl _ _ _ rfl 3 underlying24 aP w5.heap.size (ajH p6 i6 q6) acc s _ rfl rfl ?_ ?_ ⟨by omega, by omega⟩ aI ?_ ?_; (first | exact aX _ _ _ _ _ rfl | exact keep hb6 (aX _ _ _ _ _ rfl) | exact keep hb6 (by simp [go_sem])); (first | exact (o6.mono (by first | omega | (simp; done) | (simp; omega))).alloc _ | exact o6.mono (by first | omega | (simp; done) | (simp; omega))); (first | omega | (simp; done) | (simp; omega)); intro v' w7 hown hgr; obtain ⟨p7, i7, q7, rfl⟩ := hown.shape3; have b7 : Below w5 w5 w7 := UR (by repeat (first | exact Below.refl _ _ | (with_reducible refine Below.setCell ?_ (by first | omega | (simp; done) | (simp; omega)) _) | (with_reducible refine Below.alloc ?_ (by first | omega | (simp; done) | (simp; omega)) _) | (with_reducible refine Below.drewN' ?_ _) | (with_reducible refine Below.drew ?_) | (with_reducible assumption) | refine Below.trans ?_ (Below.mono (by assumption) (by first | omega | (simp; done) | (simp; omega))))) hgr (by first | omega | (simp; done) | (simp; omega)) (fun q hq => by have := (r6 q hq).1; (try simp at this); omega); obtain ⟨hc7, hf7⟩ := gZ b7 w5.heap.size aK; have z7 := b7.size)
              | (go_at_call 237; refine (HIH.out _ p7 i7 q7 w5.heap.size z7 (hvF5.below b7 aK) (hv35.below b7 aK) hown).mono ?_; rintro e w8 ⟨p8, i8, q8, rfl, o8, hb8⟩; obtain ⟨hc8, hf8⟩ := gZ hb8 w5.heap.size (by first | omega | (simp; done) | (simp; omega)); have z8 := hb8.size))
          all_goals
            have b8 : Below w5 w5 w8 := b7.after hb8 b7.size
            have X8 := (Box2.mk d0' d1' B5 zw5).after b8
            have HO8 := aJ o8
            have HX8 := aJ X8
            clear o8 X8 b8 hb8 b7 hb6 hc6 hf6 hc7 hf7 hc8 hf8 hgr hown r6 o6 d0' d1'
            cases o with
            | none =>
              go_wp2
              go_roundw
              case rel => exact ⟨j + 1, by omega, by go_num, by have := HNO.out rfl; rw [HT3.out] at this; exact this, HX8.out⟩
              case measure => simp [intOf]; omega
            | some x =>
              have hfin := HSO.out x rfl
              have HFIN := aJ hfin
              clear hfin
              go_wp2
              go_ret2
              exact ⟨p8, i8, q8, by rw [HFIN.out]; rfl, by rw [HFIN.out]; have := HO8.out.mono (B' := B) (by have := B5.size; omega); simpa [EV] using this, HX8.out.B⟩
        · have htr : (r != f) = true := by simp [hrf]
          have hnone : eP t (k + 1) L = none := by
            rw [<- HC2.out, HL.out]
            exact YF g hg u hu0 hu1 t2 HM2.out (k + 1) (by rw [<- HQ.out, <- HR.out, <- HF.out]; exact hrf)
          have HN := aJ hnone
          clear hrf hnone
          go_wp2_with fail
          refine bJ _ aQ aQ ?_
          repeat (first | go_big_quiet_skip | (go_big_quiet_want; go_big_quiet_op; first | go_big_quiet_on | (apply Exists.intro; refine ⟨fun _ => ?_, ?_⟩; (first | (go_at_call 236; first | (with_reducible exact cO (HUN.out _ (Ext.ints _ hacc4.ints))) | (with_reducible exact cO (HUN2.out _ (Ext.ints _ hv24)))) | (go_at_call 215; exact bK (HG.out _ (Ext.ints _ hvF4)))); go_big_quiet_on)))
          refine wpQuiet_nil ?_
          rintro w5 ⟨⟨w5, hb5⟩, rfl⟩
          try dsimp only
          clear e0 e1
          go_wp2
          go_ret2
          exact ⟨none, 0, 0, by rw [HN.out]; rfl, by rw [HN.out]; exact aM.nil _ _ _, B4.after hb5 B4.size⟩
      · have hr : eP t (k + 1) L = none := by
          rw [<- HCV.out, List.drop_eq_nil_of_le aI]
          exact F9 _ _ HL0.out
        have HR := aJ hr
        clear hr
        go_wp2
        go_ret2
        exact ⟨none, 0, 0, by rw [HR.out]; rfl, by rw [HR.out]; exact aM.nil _ _ _, B4⟩
theorem V8{g:Nat}{l:List Int}(z:bF g l=true):lT g l=gP (fun k=>eP l k (2^g-1)) 0 (g+1):=by
 have D:=(cK g g aK).2;unfold lT;rw[if_pos z,RL l _ aI]
 rfl
theorem V9(w:World)(g:Int)(v:Value)(l:List Int)(hv:aO w v l)(_:l.length<=1048576):
  Calls prog 127 #[.agg #[g,v]] w fun e w'=>∃ad i cp,e=.returned (.tuple #[ajH ad i cp,.bool (jO g l)])/\aM 3 w w' (ajH ad i cp) (fH g l)/\Below w w w':=by
 obtain⟨a,c,rfl⟩:=hv.shape;obtain⟨d0,d1,Y,z1⟩:=Box2.new w g (ajH a l.length c) 31;obtain⟨W0,I⟩:=aN (w.alloc (.cells #[g,ajH a l.length c] 31));rw[<-I]at d0 d1 Y z1;have e0:∀x:Ext W0,x.w.cell? ⟨w.heap.size,0,none⟩=some (ajJ g):=fun x=>x.cell d0;have e1:∀x:Ext W0,x.w.cell? ⟨w.heap.size,1,none⟩=some (ajH a l.length c):=fun x=>x.cell d1;have z:=hv.below Y aK
 cases Z:bF g l with
 |false=>
  have hx:lT g l=none:=by unfold lT;rw[Z];rfl
  have D:jO g l=false:=by unfold jO;rw[hx];rfl
  have F:fH g l=[]:=by unfold fH;rw[hx];rfl
  have HB:=aJ D;have HL:=aJ F;clear hx D F;go_enter func127,ntmps127;go_wp2;rw[<-I];clear I;refine bJ _ aQ aQ ?_
  repeat(first|go_big_quiet_skip|(go_big_quiet_want;go_big_quiet_op;first|go_big_quiet_on|(apply Exists.intro;refine⟨fun _=>?_,?_⟩;(go_at_call 101;exact vC (dC g l _ _ (Ext.ints _ z)) Z);go_big_quiet_on)))
  refine wpQuiet_nil ?_;rintro w3 ⟨⟨w3,J⟩,rfl⟩
  try dsimp only
  clear e0 e1;have B3:=Y.after J Y.size;go_wp2;go_ret2;exact⟨none,0,0,by rw[HB.out];rfl,by rw[HL.out];exact aM.nil _ _ _,B3⟩
 |true=>
  obtain⟨h0,h6,hs,_⟩:=dQ Z;have hm:=dV Z;obtain⟨G,rfl⟩:=Int.eq_ofNat_of_zero_le h0;have hG:G<=6:=aI;obtain⟨f,K⟩:=aN ((2:Int)^G-1);have a7:∀W,aO W (ajH a l.length c) l->Calls prog 215 #[.agg #[G,ajH a l.length c]] W fun e w'=>e=.returned f/\Below W W w':=fun W hW=>by rw[K];exact iW G _ l W hW aI aI
  have e9:=(cK G G aK).2;have HM:=aJ hm;have HS:=aJ hs;have HG:=aJ a7;have g2:=aJ K;by_cases hu:dB l=2^G-1
  ·have c5:(dB l != f)=false:=by rw[K];simp[hu]
   have S:=V8 Z;obtain⟨q,hq⟩:=aN (gP (fun k=>eP l k (2^G-1)) 0 (G+1));rw[<-hq]at S;have D:jO G l=q.isSome:=by unfold jO;rw[S]
   have F:fH G l=q.getD []:=by unfold fH;rw[S]
   have b7:∀(k:Nat),k<=60->∀(W:World),aO W (ajH a l.length c) l->Calls prog 237 #[.agg #[(G:Int),ajH a l.length c],ajH a l.length c,(),k] W fun e w'=>
     ∃N i' O,e=.returned (.tuple #[ajH N i' O,.bool (eP l k (2^G-1)).isSome])/\aM 3 W w' (ajH N i' O) ((eP l k (2^G-1)).getD [])/\Below W W w':=by
    intro k hk W hW;have:=PB G hG l k hk k rfl l [] W _ _ none 0 0 W.heap.size aK hW hW (aM.nil _ _ _) hs (by simp) aS;have e:cI (2^G-1) (dB [])=2^G-1:=by have:dB []=0:=rfl;rw[this,yS G 0 aI e9];omega
    rw[e]at this;refine this.mono ?_;rintro e w' ⟨ad,i,cp,h1,h2,h3⟩;refine⟨ad,i,cp,h1,?_,h3⟩
    cases hc:eP l k (2^G-1) with
    |none=>rw[hc]at h2;exact h2
    |some x=>rw[hc]at h2;simpa[EV]using h2
   have HB:=aJ D;have HL:=aJ F;have HQ:=aJ hq;have e4:=aJ b7;clear D F hu hq S b7 a7 K hs hm;go_enter func127,ntmps127;go_wp2;rw[<-I];clear I;refine bJ _ aQ aQ ?_
   repeat(first|go_big_quiet_skip|(go_big_quiet_want;go_big_quiet_op;first|go_big_quiet_on|(apply Exists.intro;refine⟨fun _=>?_,?_⟩;(first|(go_at_call 101;exact vC (dC G l _ _ (Ext.ints _ z)) Z)|(go_at_call 236;exact cO (lP l _ _ (Ext.ints _ z) HM.out))|(go_at_call 215;exact bK (HG.out _ (Ext.ints _ z))));go_big_quiet_on)))
   refine wpQuiet_nil ?_;rintro w3 ⟨⟨w3,J⟩,rfl⟩
   try dsimp only
   clear e0 e1;obtain⟨d2,d3,B3,z3⟩:=(Box2.mk d0 d1 Y z1).after J;clear J d0 d1 Y z1 c5 z;go_wp2_with fail;go_loopw [4] (fun i wr=>∃k:Nat,k<=G+1/\i=ajJ k/\gP (fun k=>eP l k (2^G-1)) k (G+1-k)=q/\Box2 w wr G (ajH a l.length c)) (fun i _=>G+1-(intOf i).toNat)
   case atStart=>exact⟨0,Nat.zero_le _,rfl,HQ.out.symm,⟨d2,d3,B3,z3⟩⟩
   case round=>
    obtain⟨k,hk,rfl,b8,X⟩:=hrel;clear d2 d3 B3 z3;have a1:=aJ b8;clear b8;obtain⟨d0,d1,B4,z4⟩:=X;by_cases hlt:k<=G
    ·have f3:=hv.below B4 aK;have c6:gP (fun k=>eP l k (2^G-1)) k (G+1-k)=(match eP l k (2^G-1) with|some x=>some x|none=>gP (fun k=>eP l k (2^G-1)) (k+1) (G+1-(k+1))):=by rw[show G+1-k=(G+1-(k+1))+1 by omega];rfl
     have b3:=aJ c6;have HC:=aJ (e4.out k aI);obtain⟨o,ho⟩:=aN (eP l k (2^G-1));have b6:∀(W:World),aO W (ajH a l.length c) l->Calls prog 237 #[.agg #[(G:Int),ajH a l.length c],ajH a l.length c,(),k] W fun e w'=>∃N i' O,e=.returned (.tuple #[ajH N i' O,.bool o.isSome])/\aM 3 W w' (ajH N i' O) (o.getD [])/\Below W W w':=by rw[ho];exact HC.out
     have d9:=aJ b6;have HO:=aJ ho;clear c6 b6 ho HC;go_wp2_with fail;refine(d9.out _ f3).mono ?_;rintro e w5 ⟨p5,i5,q5,rfl,o5,b5⟩;have X5:=(Box2.mk d0 d1 B4 z4).after b5;have b4:=aJ X5;have e6:=aJ o5;clear d0 d1 X5 o5 b5
     cases o with
     |none=>
      have b9:gP (fun k=>eP l k (2^G-1)) (k+1) (G+1-(k+1))=q:=by have h1:=b3.out;rw[<-HO.out,a1.out]at h1;exact h1.symm
      have e5:=aJ b9;clear b9;go_wp2;go_roundw
      case rel=>exact⟨k+1,by omega,by go_num,e5.out,b4.out⟩
      case measure=>simp[intOf];omega
     |some x=>
      have R:q=some x:=by have h1:=b3.out;rw[<-HO.out,a1.out]at h1;exact h1
      have M:=aJ R;clear R;go_wp2;go_ret2;exact⟨p5,i5,q5,by rw[HB.out,M.out];rfl,by rw[HL.out,M.out];exact e6.out.mono B4.size,b4.out.B⟩
    ·have R:q=none:=by rw[<-a1.out,show G+1-k=0 by omega];rfl
     have M:=aJ R;clear R;go_wp2;go_ret2;exact⟨none,0,0,by rw[HB.out,M.out];rfl,by rw[HL.out,M.out];exact aM.nil _ _ _,B4⟩
  ·have c5:(dB l != f)=true:=by rw[K];simp[hu]
   have hx:=ZW Z hu;have D:jO G l=false:=by unfold jO;rw[hx];rfl
   have F:fH G l=[]:=by unfold fH;rw[hx];rfl
   have HB:=aJ D;have HL:=aJ F;clear hx D F hu a7 K hs hm;go_enter func127,ntmps127;go_wp2;rw[<-I];clear I;refine bJ _ aQ aQ ?_
   repeat(first|go_big_quiet_skip|(go_big_quiet_want;go_big_quiet_op;first|go_big_quiet_on|(apply Exists.intro;refine⟨fun _=>?_,?_⟩;(first|(go_at_call 101;exact vC (dC G l _ _ (Ext.ints _ z)) Z)|(go_at_call 236;exact cO (lP l _ _ (Ext.ints _ z) HM.out))|(go_at_call 215;exact bK (HG.out _ (Ext.ints _ z))));go_big_quiet_on)))
   refine wpQuiet_nil ?_;rintro w3 ⟨⟨w3,J⟩,rfl⟩
   try dsimp only
   clear e0 e1;have B3:=Y.after J Y.size;go_wp2;go_ret2;exact⟨none,0,0,by rw[HB.out];rfl,by rw[HL.out];exact aM.nil _ _ _,B3⟩
theorem aM.lit1{E:TypeId}{B:Nat}(w:World)(y:Int)(D:dA y)(hB:B<=w.heap.size):aM E B (w.alloc (.cells #[y] E)) (ajH (some ⟨w,0,none⟩) 1 1) [y]:=
 ⟨World.ownsRow_lit w #[y] 1 hB aV rfl,by intro q z;simp only[List.mem_singleton]at z;subst z;exact D⟩
theorem agF{a b:Int}(z:0<=a):a-bG a b=cI a b:=by
 have:=@Nat.and_le_left a.toNat b.toNat;unfold bG cI cS;omega
theorem SR(l:List Int)(hl:l.length<=1048576)(hm:∀s∈l,0<=s/\s<64):∀(k:Nat) (_:k<=60) (K:Int) (_:K=k) (i:Nat) (_:i<=l.length) (L:Int) (_:0<=L) (_:L<64) (w:World) (v:Value) (_:aO w v l),
  Calls prog 239 #[v,(i:Int),L,K] w fun e w'=>
   ∃z i' D,e=.returned (.tuple #[ajH z i' D,.bool (fT (l.drop i) k L).isSome])/\aM 3 w w' (ajH z i' D) ((fT (l.drop i) k L).getD [])/\Below w w w':=by
 intro k
 induction k with
 |zero=>
  intro _ K hK i hi L h0 h1 w v hv;obtain⟨a,c,rfl⟩:=hv.shape;have:K=0:=hK;subst this;clear hK;by_cases I:L=0
  ·subst I;rw[tY];clear hm;go_enter func239,ntmps239;go_wp2;go_ret2;exact⟨_,_,_,rfl,aM.lit0 w aK,(by repeat(first|exact Below.refl _ _|(with_reducible refine Below.setCell ?_ (by first|omega|(simp;done)|(simp;omega)) _)|(with_reducible refine Below.alloc ?_ (by first|omega|(simp;done)|(simp;omega)) _)|(with_reducible refine Below.drewN' ?_ _)|(with_reducible refine Below.drew ?_)|(with_reducible assumption)|refine Below.trans ?_ (Below.mono (by assumption) (by first|omega|(simp;done)|(simp;omega)))))⟩
  ·rw[vT _ _ I];have ht:(L==0)=false:=by simpa using I
   clear hm I;go_enter func239,ntmps239;go_wp2;go_ret2;exact⟨_,_,_,rfl,aM.lit0 w aK,(by repeat(first|exact Below.refl _ _|(with_reducible refine Below.setCell ?_ (by first|omega|(simp;done)|(simp;omega)) _)|(with_reducible refine Below.alloc ?_ (by first|omega|(simp;done)|(simp;omega)) _)|(with_reducible refine Below.drewN' ?_ _)|(with_reducible refine Below.drew ?_)|(with_reducible assumption)|refine Below.trans ?_ (Below.mono (by assumption) (by first|omega|(simp;done)|(simp;omega)))))⟩
 |succ k ih=>
  intro hk K hK i hi L h0 h1 w v hv;by_cases I:L=0
  ·obtain⟨a,c,rfl⟩:=hv.shape;subst I;rw[tY];clear hm ih;go_enter func239,ntmps239;go_wp2;go_ret2;exact⟨_,_,_,rfl,aM.lit0 w aK,(by repeat(first|exact Below.refl _ _|(with_reducible refine Below.setCell ?_ (by first|omega|(simp;done)|(simp;omega)) _)|(with_reducible refine Below.alloc ?_ (by first|omega|(simp;done)|(simp;omega)) _)|(with_reducible refine Below.drewN' ?_ _)|(with_reducible refine Below.drew ?_)|(with_reducible assumption)|refine Below.trans ?_ (Below.mono (by assumption) (by first|omega|(simp;done)|(simp;omega)))))⟩
  have ht:(L==0)=false:=by simpa using I
  obtain⟨a,b,h6,c,rfl,d8,g7,hc,hb⟩:=hv.view prog 24 3 underlying24 aP;have g8:(K==0)=false:=by simp;omega
  have O:1<=K/\K<=60:=aI;have g3:=O.1;have g4:=O.2;obtain⟨q,hq⟩:=aN (fT (l.drop i) (k+1) L);rw[<-hq];have HQ:=aJ hq;have HM:=aJ hm;have HK:=aJ hK;have IH:=aJ ih;have HL:=aJ I;clear hm hK ih I O hq;go_enter func239,ntmps239;go_wp2_with fail;go_loopw [10] (fun x wr=>∃j:Nat,i<=j/\j<=l.length/\x=ajJ j/\fT (l.drop j) (k+1) L=q/\Below w w wr) (fun x _=>l.length-(intOf x).toNat)
  case atStart=>exact⟨i,aK,hi,rfl,HQ.out.symm,Below.refl _ _⟩
  case round=>
   obtain⟨j,g6,hj,rfl,b0,B⟩:=hrel;have F:=aJ b0;clear b0;have a9:=aT hc hb B aK;by_cases hlt:j<l.length
   ·have J:=HM.out _ (List.getElem_mem hlt);have R:=a9 j hlt;have S:l.drop j=l[j]::l.drop (j+1):=List.drop_eq_getElem_cons hlt;obtain⟨s,hs⟩:=aN (l[j]);rw[<-hs]at J R S;have b7:=J.1;have g9:=J.2;have N:=aJ S;have hA:=eB b7 (show s<4611686018427387904 by omega) h0 aI;have g1:=eB h0 (show L<4611686018427387904 by omega) b7 aI;have g2:=lR L s 64 h0 h1;clear S a9 J hs;by_cases Y:bG s L=0
    ·have e5:(bG s L==0)=true:=by simp[Y]
     have b4:fT (l.drop (j+1)) (k+1) L=q:=by rw[<-F.out,N.out];simp only[fT,if_neg HL.out,if_pos Y]
     have d0:=aJ b4;clear b4 Y;go_wp2;go_roundw
     case rel=>exact⟨j+1,by omega,by omega,by go_num,d0.out,B⟩
     case measure=>simp[intOf];omega
    ·have e5:(bG s L==0)=false:=by simp[Y]
     obtain⟨o,ho⟩:=aN (fT (l.drop (j+1)) k (cI L s));have b3:o=none->fT (l.drop (j+1)) (k+1) L=q:=fun e=>by rw[<-F.out,N.out];simp only[fT,if_neg HL.out,if_neg Y];rw[<-ho,e]
     have b8:∀x,o=some x->q=some (s::x):=fun x e=>by rw[<-F.out,N.out];simp only[fT,if_neg HL.out,if_neg Y];rw[<-ho,e]
     have hlo:∀x,o=some x->x.length<=60:=fun x e=>by have:=QZ _ _ _ x (ho.symm.trans e);omega
     have c8:=aJ hlo;have c9:=aJ b3;have d6:=aJ b8;have hd:=nQ L s 64 h0 h1;have b1:∀(W:World),aO W (ajH a l.length c) l->Calls prog 239 #[ajH a l.length c,ajJ ((j:Int)+1),ajJ (L-bG L s),ajJ (K-1)] W fun e w'=>
       ∃z i' D,e=.returned (.tuple #[ajH z i' D,.bool o.isSome])/\aM 3 W w' (ajH z i' D) (o.getD [])/\Below W W w':=by
      intro W hW;have:=IH.out aI (K-1) (by have:=HK.out;omega) (j+1) aI (cI L s) hd.1 hd.2 W _ hW;rw[<-ho]at this;rw[agF h0];exact this
     have c7:=aJ b1;have e6:=hv.below B aK;clear b3 b8 b1 ho Y hd hlo;go_wp2_with fail;refine(c7.out _ e6).mono ?_;rintro e w5 ⟨p5,i5,q5,rfl,o5,a8⟩;have Z:=B.after a8 B.size;have e9:=keep a8 R
     cases o with
     |none=>
      have HN:=aJ (c9.out rfl);go_wp2;go_roundw
      case rel=>exact⟨j+1,by omega,by omega,by go_num,HN.out,Z⟩
      case measure=>simp[intOf];omega
     |some x=>have HS:=aJ (d6.out x rfl);have d9:=c8.out x rfl;have d5:=aJ o5;clear R o5;go_wp2_with (at_builtin;refine vL rfl _ _ _ rfl 3 underlying24 aP w5.heap.size _ [s] rfl (aM.lit1 w5 s ⟨by omega,by omega⟩ aK) _ x rfl (d5.out.ints.alloc _) aS (by simp) ?_;intro v' w6 M d7;obtain⟨av,nv,cv,rfl⟩:=M.shape3);go_ret2;have z5:=Z.size;refine⟨av,nv,cv,by rw[HS.out];rfl,by rw[HS.out];exact M.mono Z.size,(Z.alloc Z.size _).grown d7 (by first|omega|(simp;done)|(simp;omega)) ?_⟩;intro r hr;have e4:some w5.heap.size=some r:=hr;have:=Option.some.inj e4;have:=Z.size;omega
   ·have b6:q=none:=by rw[<-F.out,List.drop_eq_nil_of_le aI];exact AV _ _ HL.out
    have a6:=aJ b6;clear b6;go_wp2;go_ret2;exact⟨_,_,_,by rw[a6.out];rfl,by rw[a6.out];exact aM.lit0 wr B.size,B.alloc B.size _⟩
theorem WA(w:World)(g:Int)(v:Value)(l:List Int)(hv:aO w v l)(d9:l.length<=1048576):
  Calls prog 132 #[.agg #[g,v]] w fun e w'=>∃ad i cp,e=.returned (.tuple #[ajH ad i cp,.bool (jO g l)])/\aM 3 w w' (ajH ad i cp) (fH g l)/\Below w w w':=by
 obtain⟨a,c,rfl⟩:=hv.shape;obtain⟨K,d1,B1,z1⟩:=Box2.new w g (ajH a l.length c) 31;obtain⟨W0,D⟩:=aN (w.alloc (.cells #[g,ajH a l.length c] 31));rw[<-D]at K d1 B1 z1
 cases R:bF g l with
 |false=>
  have hx:lT g l=none:=by unfold lT;rw[R];rfl
  have I:jO g l=false:=by unfold jO;rw[hx];rfl
  have J:fH g l=[]:=by unfold fH;rw[hx];rfl
  have HB:=aJ I;have HL:=aJ J;have HF:=aJ R;clear hx I J R;go_enter func132,ntmps132;go_wp2;rw[<-D];clear D;refine wp_loop_rounds 1 ?_;rw[rounds_succ];go_wp2_with fail;refine(cP g l _ _ (hv.below B1 aK)).mono ?_;rintro e w2 ⟨rfl,M⟩;rw[HF.out];have B2:=B1.after M B1.size;go_wp2;go_ret2;exact⟨_,_,_,by rw[HB.out];rfl,by rw[HL.out];exact aM.lit0 w2 B2.size,B2.alloc B2.size _⟩
 |true=>
  obtain⟨h0,h6,hs,_⟩:=dQ R;have hm:=dV R;obtain⟨G,rfl⟩:=Int.eq_ofNat_of_zero_le h0;have hG:G<=6:=aI;have hp:=cK G 6 hG;have g4:(2:Int)^G<=64:=by simpa using hp.1
  have g5:=hp.2;obtain⟨f,Z⟩:=aN ((2:Int)^G-1);have b4:∀W,Calls prog 187 #[G] W fun e w'=>e=.returned f/\W=w':=fun W=>by rw[Z];exact fB G W aI
  have N:lT G l=gP (fun k=>fT l k f) 0 (G+1):=by unfold lT;rw[if_pos R,Z];rfl
  obtain⟨q,hq⟩:=aN (gP (fun k=>fT l k f) 0 (G+1));rw[<-hq]at N;have I:jO G l=q.isSome:=by unfold jO;rw[N]
  have J:fH G l=q.getD []:=by unfold fH;rw[N]
  have d6:0<=f:=aI;have d7:f<64:=aI;have HM:=aJ hm;have c8:=aJ b4;have HB:=aJ I;have HL:=aJ J;have HQ:=aJ hq;have HF:=aJ R;clear hm b4 I J hq N R Z hs hp;go_enter func132,ntmps132;go_wp2_with fail;rw[<-D];clear D;go_loopw [4] (fun i wr=>∃k:Nat,k<=G+1/\i=ajJ k/\gP (fun k=>fT l k f) k (G+1-k)=q/\Box2 w wr G (ajH a l.length c)) (fun i _=>G+1-(intOf i).toNat)
  case atStart=>exact⟨0,Nat.zero_le _,rfl,HQ.out.symm,⟨K,d1,B1,z1⟩⟩
  case round=>
   obtain⟨k,hk,rfl,b3,X⟩:=hrel;clear K d1 B1 z1;have S:=aJ b3;clear b3;obtain⟨K,d1,O,z4⟩:=X;go_wp2_with fail;refine(cP G l _ _ (hv.below O aK)).mono ?_;rintro e w2 ⟨rfl,M⟩;rw[HF.out];have X2:=(Box2.mk K d1 O z4).after M;clear K d1 O z4 M;obtain⟨K,d1,O,z4⟩:=X2;have zw:w.heap.size<w2.heap.size:=z4;clear z4;by_cases hlt:k<=G
   ·have e6:=hv.below O aK;have b6:gP (fun k=>fT l k f) k (G+1-k)=(match fT l k f with|some x=>some x|none=>gP (fun k=>fT l k f) (k+1) (G+1-(k+1))):=by rw[show G+1-k=(G+1-(k+1))+1 by omega];rfl
    have a6:=aJ b6;obtain⟨o,ho⟩:=aN (fT l k f);have b1:∀(W:World),aO W (ajH a l.length c) l->Calls prog 239 #[ajH a l.length c,'0',f,k] W fun e w'=>
      ∃a8 i' a9,e=.returned (.tuple #[ajH a8 i' a9,.bool o.isSome])/\aM 3 W w' (ajH a8 i' a9) (o.getD [])/\Below W W w':=fun W hW=>by
     have:=SR l d9 HM.out k aI k rfl 0 (Nat.zero_le _) f d6 d7 W _ hW;rw[List.drop_zero,<-ho]at this;exact this
    have c6:=aJ b1;have HO:=aJ ho;clear b6 b1 ho;go_wp2_with fail;go_region_held3 (fun w'=>w'.cell? ⟨w.heap.size,0,none⟩=some (ajJ G)/\w'.cell? ⟨w.heap.size,1,none⟩=some (ajH a l.length c)) (go_keep)
     (first
      |(go_at_call 187;refine(c8.out _).mono ?_;rintro e w5 ⟨rfl,rfl⟩)
      |(go_at_call 239;refine(c6.out _ (e6.below (B:=w2.heap.size) (by repeat(first|exact Below.refl _ _|(with_reducible refine Below.setCell ?_ (by first|omega|(simp;done)|(simp;omega)) _)|(with_reducible refine Below.alloc ?_ (by first|omega|(simp;done)|(simp;omega)) _)|(with_reducible refine Below.drewN' ?_ _)|(with_reducible refine Below.drew ?_)|(with_reducible assumption)|refine Below.trans ?_ (Below.mono (by assumption) (by first|omega|(simp;done)|(simp;omega))))) aK)).mono ?_;rintro e w6 ⟨p6,i6,q6,rfl,o6,b0⟩;obtain⟨Y,d8⟩:=gZ b0 w2.heap.size (by first|omega|(simp;done)|(simp;omega));have z6:=b0.size;(try simp at z6)))
    have B6:Below w w w6:=(by repeat(first|exact Below.refl _ _|(with_reducible refine Below.setCell ?_ (by first|omega|(simp;done)|(simp;omega)) _)|(with_reducible refine Below.alloc ?_ (by first|omega|(simp;done)|(simp;omega)) _)|(with_reducible refine Below.drewN' ?_ _)|(with_reducible refine Below.drew ?_)|(with_reducible assumption)|refine Below.trans ?_ (Below.mono (by assumption) (by first|omega|(simp;done)|(simp;omega)))));have X6:Box2 w w6 G (ajH a l.length c):=⟨(Y _ _ zw).trans K,(Y _ _ zw).trans d1,B6,by omega⟩;have a7:=aJ X6;have d5:=aJ o6;clear X6 o6 Y d8 K d1
    cases o with
    |none=>
     have b5:gP (fun k=>fT l k f) (k+1) (G+1-(k+1))=q:=by have h1:=a6.out;rw[<-HO.out,S.out]at h1;exact h1.symm
     have c9:=aJ b5;clear b5;go_wp2;go_roundw
     case rel=>exact⟨k+1,by omega,by go_num,c9.out,a7.out⟩
     case measure=>simp[intOf];omega
    |some x=>
     have F:q=some x:=by have h1:=a6.out;rw[<-HO.out,S.out]at h1;exact h1
     have z:=aJ F;clear F;go_wp2;go_ret2;exact⟨p6,i6,q6,by rw[HB.out,z.out];rfl,by rw[HL.out,z.out];exact d5.out.mono (by first|omega|(simp;done)|(simp;omega)),a7.out.B⟩
   ·have F:q=none:=by rw[<-S.out,show G+1-k=0 by omega];rfl
    have z:=aJ F;clear F;go_wp2;go_ret2;exact⟨_,_,_,by rw[HB.out,z.out];rfl,by rw[HL.out,z.out];exact aM.lit0 w2 O.size,O.alloc O.size _⟩
def uS(l:List Int)(s:Int)(i:Nat):Bool:=!(l.getD i 0==s)&&(bG s (l.getD i 0)==bG s (l.getD 0 0))&&(i==0||bG s (l.getD i 0)==bG (l.getD 0 0) (l.getD 1 0))
def lB(l:List Int)(s:Int):Bool:=bY (uS l s) l.length
def wZ(l:List Int)(i k:Nat):Bool:=bG (l.getD i 0) (l.getD k 0)==bG (l.getD 0 0) (l.getD 1 0)
def rT(l:List Int):Bool:=bY (fun i=>bY (wZ l i) i) l.length
def eV(T:List Int->Int->Bool):List Int->List Int->Int->Option (List Int)
 |sets,l,k=>if (l.length:Int)=k then some l else
  match sets with
  |[]=>none
  |s::rest=>if T l s then (match eV T rest (l++[s]) k with|some x=>some x|none=>eV T rest l k) else eV T rest l k
theorem rX(T:List Int->Int->Bool)(sets l:List Int)(k:Int)(h:(l.length:Int)=k):eV T sets l k=some l:=by unfold eV;rw[if_pos h]
theorem yM(T:List Int->Int->Bool)(l:List Int)(k:Int)(h:(l.length:Int)≠k):eV T [] l k=none:=by unfold eV;rw[if_neg h]
theorem wR(T:List Int->Int->Bool)(s:Int)(rest l:List Int)(k:Int)(h:(l.length:Int)≠k):
  eV T (s::rest) l k=if T l s then (match eV T rest (l++[s]) k with|some x=>some x|none=>eV T rest l k) else eV T rest l k:=by
 rw[eV];rw[if_neg h]
theorem YV(a b:Int):bG a b=bG b a:=by unfold bG;rw[Nat.and_comm]
theorem IG(l:List Int):rT l=true↔∀i,i<l.length->∀k,k<i->bG (l.getD i 0) (l.getD k 0)=bG (l.getD 0 0) (l.getD 1 0):=by
 unfold rT;rw[eH];constructor
 ·intro h i z k hk;have:=eH.1 (h i z) k hk;unfold wZ at this;simpa using this
 ·intro h i z;rw[eH];intro k hk;unfold wZ;simpa using h i z k hk
theorem mT(l:List Int)(s:Int)(i:Nat)(h:i<l.length):(l++[s]).getD i 0=l.getD i 0:=by
 rw[List.getD_eq_getElem?_getD,List.getD_eq_getElem?_getD,List.getElem?_append_left h]
theorem CU(l:List Int)(s:Int):(l++[s]).getD l.length 0=s:=by
 rw[List.getD_eq_getElem?_getD,List.getElem?_append_right aK];simp
theorem zQ(l:List Int)(s:Int)(hl:rT l=true)(Y:s∉l):lB l s=rT (l++[s]):=by
 have N:=(IG l).1 hl;have M:∀i,i<l.length->l.getD i 0≠s:=fun i z e=>Y (by rw[<-e,aU l i z];exact List.getElem_mem z);rw[Bool.eq_iff_iff,IG];unfold lB;rw[eH];rcases Nat.lt_or_ge l.length 2 with h2|h2
 ·
  constructor
  ·intro _ i z k hk;rw[List.length_append,List.length_singleton]at z;have O:i=1/\k=0/\l.length=1:=aI;obtain⟨rfl,rfl,_⟩:=O;exact YV _ _
  ·intro _ i z;have:i=0:=aI;subst this;unfold uS;have I:(l.getD 0 0==s)=false:=beq_eq_false_iff_ne.2 (M 0 z);rw[I];simp
 ·have R:(l++[s]).getD 0 0=l.getD 0 0:=mT l s 0 aI;have e1:(l++[s]).getD 1 0=l.getD 1 0:=mT l s 1 aI;rw[R,e1];constructor
  ·intro h i z k hk;rw[List.length_append,List.length_singleton]at z;by_cases K:i<l.length
   ·rw[mT l s i K,mT l s k aI];exact N i K k hk
   ·have:i=l.length:=aI;subst this;rw[CU,mT l s k hk];have h1:=h 1 aI;have F:=h k hk;unfold uS at h1 F;simp only[Bool.and_eq_true,Bool.or_eq_true,beq_iff_eq,Bool.not_eq_true',beq_eq_false_iff_ne,ne_eq]at h1 F;have S:=h1.2.resolve_left aI;rcases F.2 with I|I
    ·subst I;rw[<-h1.1.2];exact S
    ·exact I
  ·intro h i z;have D:=h l.length (by rw[List.length_append,List.length_singleton];omega) i z;have J:=h l.length (by rw[List.length_append,List.length_singleton];omega) 0 aI;rw[CU,mT l s i z]at D;rw[CU,R]at J;unfold uS;simp only[Bool.and_eq_true,Bool.or_eq_true,beq_iff_eq,Bool.not_eq_true',beq_eq_false_iff_ne,ne_eq];exact⟨⟨M i z,by rw[D,J]⟩,.inr D⟩
theorem aaW:∀(sets l:List Int) (k:Int),rT l=true->(∀s∈sets,s∉l)->sets.Pairwise (· < ·)->eV (fun l s=>rT (l++[s])) sets l k=eV lB sets l k:=by
 intro sets
 induction sets with
 |nil=>
  intro l k _ _ _;by_cases h:(l.length:Int)=k
  ·rw[rX _ _ _ _ h,rX _ _ _ _ h]
  ·rw[yM _ _ _ h,yM _ _ _ h]
 |cons s rest ih=>
  intro l k hl F z;by_cases h:(l.length:Int)=k
  ·rw[rX _ _ _ _ h,rX _ _ _ _ h]
  ·rw[wR _ _ _ _ _ h,wR _ _ _ _ _ h];rw[List.pairwise_cons]at z;have ht:=zQ l s hl (F s (by simp));have hr:=ih l k hl (fun x D=>F x (by simp[D])) z.2;rw[<-ht,hr]
   cases I:lB l s with
   |false=>rfl
   |true=>
    rw[ih (l++[s]) k (ht▸I) (fun x D hm=>by
     rw[List.mem_append,List.mem_singleton]at hm;rcases hm with hm|hm
     ·exact F x (by simp[D]) hm
     ·have:=z.1 x D;omega) z.2]
theorem QM:∀(l:List Int) (z n:Int),l.Pairwise (· < ·)->(∀x∈l,z<=x/\x<n)->z<=n->(l.length:Int)<=n-z:=by
 intro l
 induction l with
 |nil=>intro z n _ _ h;simp;omega
 |cons x l ih=>intro z n D hb I;have J:=hb x (by simp);rw[List.pairwise_cons]at D;have:=ih (x+1) n D.2 (fun y F=>⟨by have:=D.1 y F;omega,(hb y (by simp[F])).2⟩) aI;rw[List.length_cons];omega
theorem FW(l:List Int)(n:Nat)(z:l.Pairwise (· < ·))(hb:∀x∈l,0<=x/\x<(n:Int)):l.length<=n:=by
 have:=QM l 0 n z hb aI;omega
def pJ(g:Int)(l:List Int)(k:Int):Bool:=bF g l&&eW k 1 5
def tR(g:Int)(l:List Int)(k:Int):Option (List Int):=if pJ g l k then eV lB l [] k else none
def mZ(g:Int)(l:List Int)(k:Int):Bool:=(tR g l k).isSome
def jX(g:Int)(l:List Int)(k:Int):List Int:=(tR g l k).getD []
theorem acW(g:Int)(l:List Int)(k:Int)(h:pJ g l k=true):tR g l k=eV (fun l s=>rT (l++[s])) l [] k:=by
 unfold tR;rw[h];unfold pJ at h;have z:=(Bool.and_eq_true_iff.1 h).1;exact(aaW l [] k aV (by simp) (dQ z).2.2.2).symm
def oY(l:List Int):List Int:=l.filter fun s=>!fP (iY l) s
def oN:Nat->List Int->List (List Int)
 |0,_=>[]
 |k+1,l=>if l=[] then [] else iY l::oN k (oY l)
def aeB(l:List Int):List (List Int):=oN l.length l
def lenOf:Value->Nat
 |.slice _ n _=>n
 |_=>0
theorem sub_le:∀s:Nat,s<64->∀t:Nat,t<64->cS t s=0->t<=s:=by decide +kernel
theorem ZH(x:Int)(l:List Int)(F:(x::l).Pairwise (· < ·))(hb:∀y∈x::l,0<=y/\y<64):x∈iY (x::l):=by
 unfold iY;rw[List.mem_filter];refine⟨by simp,?_⟩;rw[Bool.not_eq_true',List.any_eq_false];intro y z;have h1:=hb y z;have h2:=hb x (by simp);unfold nM;intro h;rw[Bool.and_eq_true,bne_iff_ne,beq_iff_eq]at h;obtain⟨D,I⟩:=h;unfold cI at I;have h3:=sub_le x.toNat aI y.toNat aI aI;rcases List.mem_cons.1 z with e|z
 ·exact D e
 ·have:=(List.pairwise_cons.1 F).1 y z;omega
theorem XI{l:List Int}(z:l≠[])(D:l.Pairwise (· < ·))(hb:∀y∈l,0<=y/\y<64):(oY l).length<l.length:=by
 cases l with
 |nil=>exact absurd rfl z
 |cons x l=>unfold oY;rw[List.length_filter_lt_length_iff_exists];exact⟨x,by simp,by rw[GP.2 (ZH x l D hb)];simp⟩
theorem TS{l:List Int}(z:l.Pairwise (· < ·)):(oY l).Pairwise (· < ·):=z.filter _
theorem IA{l:List Int}{x:Int}(h:x∈oY l):x∈l:=(List.mem_filter.1 h).1
theorem N9(k:Nat)(l:List Int)(h:l≠[]):oN (k+1) l=iY l::oN k (oY l):=by rw[oN,if_neg h]
theorem SW(k:Nat):oN k []=[]:=by cases k<;>simp[oN]
theorem GX:∀(k:Nat) (l:List Int),(oN k l).length<=k:=by
 intro k
 induction k with
 |zero=>intro l;simp[oN]
 |succ k ih=>
  intro l;rw[oN]
  split
  ·simp
  ·have:=ih (oY l);rw[List.length_cons];omega
theorem aeA:∀(k:Nat) (l:List Int),∀m∈oN k l,m.length<=l.length/\∀x∈m,x∈l:=by
 intro k
 induction k with
 |zero=>intro l m hm;simp[oN]at hm
 |succ k ih=>
  intro l m hm;rw[oN]at hm
  split at hm
  ·simp at hm
  ·rcases List.mem_cons.1 hm with e|hm
   ·subst e;exact⟨S0 l,fun x z=>S5 z⟩
   ·have h:=ih _ m hm;exact⟨Nat.le_trans h.1 (List.length_filter_le _ _),fun x z=>IA (h.2 x z)⟩
def eI(g:Int)(l:List Int):List (List Int):=if bF g l then aeB l else []
theorem OO(p:Int->Bool)(L:List Int)(k:Nat)(h:k<L.length):(L.take (k+1)).filter p=(L.take k).filter p++(if p L[k] then [L[k]] else []):=by
 rw[List.take_succ_eq_append_getElem h,List.filter_append]
 congr 1
 cases z:p L[k]<;>simp[z]
theorem QH{g:Int}{l:List Int}(h:bF g l=true):l.length<=64:=by
 have h1:=dQ h;have h2:=pV h;exact FW l 64 h1.2.2.2 (fun x z=>by obtain⟨k,hk,rfl⟩:=List.getElem_of_mem z;have:=h2.2.2 k hk;omega)
def CO(out:List Int)(s:Int):Bool:=out.isEmpty||cI s (out.headD 0)==0
def lJ:List Int->List Int->List Int
 |[],out=>out
 |s::r,out=>if CO out s then s::out else lJ r out
def wK(z:List (List Int)):Nat->List Int->List Int
 |0,out=>out
 |i+1,out=>wK z i (lJ (z.getD i []) out)
def wL(g:Int)(l:List Int):List Int:=wK (eI g l) (eI g l).length []
theorem OV:∀(M out:List Int),(lJ M out).length<=out.length+1
 |[],out=>by rw[lJ];omega
 |s::r,out=>by
  rw[lJ]
  split
  ·simp
  ·exact OV r out
theorem WL(z:List (List Int)):∀(i:Nat) (out:List Int),(wK z i out).length<=out.length+i
 |0,out=>by rw[wK];omega
 |i+1,out=>by rw[wK];have h1:=WL z i (lJ (z.getD i []) out);have h2:=OV (z.getD i []) out;omega
theorem sE(g:Int)(l:List Int):(eI g l).length<=64:=by
 unfold eI
 split
 ·rename_i h;exact Nat.le_trans (GX _ _) (QH h)
 ·simp
theorem JT(g:Int)(l:List Int):∀m∈eI g l,m.length<=64/\∀x∈m,0<=x/\x<64:=by
 unfold eI
 split
 ·rename_i h;intro m hm;have h1:=aeA _ _ m hm;refine⟨Nat.le_trans h1.1 (QH h),fun x z=>?_⟩;obtain⟨k,hk,e⟩:=List.getElem_of_mem (h1.2 x z);rw[<-e];exact(pV h).2.2 k hk
 ·intro m hm;simp at hm
theorem LP(g:Int)(l:List Int):(wL g l).length<=64:=by
 have h1:=WL (eI g l) (eI g l).length [];have h2:=sE g l;unfold wL;simp at h1;omega
theorem T7(M:List Int)(j:Nat)(h:j<M.length)(out:List Int):lJ (M.drop j) out=if CO out M[j] then M[j]::out else lJ (M.drop (j+1)) out:=by
 rw[List.drop_eq_getElem_cons h,lJ]
theorem OU(M out:List Int):lJ (M.drop M.length) out=out:=by rw[List.drop_length];rfl
theorem aaJ(z:List (List Int))(i:Nat)(h:i<z.length)(out:List Int):wK z (i+1) out=wK z i (lJ z[i] out):=by
 rw[wK,List.getD_eq_getElem?_getD,List.getElem?_eq_getElem h];rfl
end
end Go.Proofs.YtcpoomdoodlkjaaGreatDoor
