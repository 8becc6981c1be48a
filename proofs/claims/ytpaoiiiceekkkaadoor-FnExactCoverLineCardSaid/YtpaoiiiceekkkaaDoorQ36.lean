/- Smallest covers: the program's own. -/
import Derived.Test.YtpaoiiiceekkkaaDoorQ35
import Derived.Deep.RegionHeld3
import Derived.IntWalk
section
namespace Go.Proofs.YtpaoiiiceekkkaaDoor
open Go.RowKit Go.G5

def pickL (o : Option (List Int)) (acc : List Int) : List Int := match o with | some x => acc ++ x | none => []

set_option maxHeartbeats 2000000 in
set_option maxRecDepth 100000 in
theorem coverWith_done (g : Nat) (hg : g ≤ 6) (F t acc : List Int) (K : Int) (w : World) (vF tv : Value) (ad : Option Addr) (ni cp : Nat) (B : Nat) (hvF : Ints w vF F) (hv : Ints w tv t) (hacc : OwnI 3 B w (.slice ad ni cp) acc)
    (ha : ∀ s ∈ acc, 0 ≤ s ∧ s < 64) (hu : unionL acc = 2 ^ g - 1) :
    Calls Tryd.prog 146 #[.agg #[.int .i64 (g : Int), vF], tv, .slice ad ni cp, .int .i64 K] w fun e w' =>
      e = .returned (.tuple #[.slice ad ni cp, .bool true]) ∧ OwnI 3 B w' (.slice ad ni cp) acc ∧ Below w.heap.size w w' := by
  obtain ⟨aF, cF, rfl⟩ := hvF.shape
  obtain ⟨av, cv, rfl⟩ := hv.shape
  obtain ⟨d0, d1, B1, z1⟩ := Box2.new w g (.slice aF F.length cF) 32
  obtain ⟨W0, hW0⟩ : ∃ W, W = w.alloc (.cells #[.int .i64 g, .slice aF F.length cF] 32) := ⟨_, rfl⟩
  rw [← hW0] at d0 d1 B1 z1
  have e0 : ∀ x : Ext W0, x.w.cell? ⟨w.heap.size, 0, none⟩ = some (.int .i64 g) := fun x => x.cell d0
  have e1 : ∀ x : Ext W0, x.w.cell? ⟨w.heap.size, 1, none⟩ = some (.slice aF F.length cF) := fun x => x.cell d1
  have hacc0 := hacc.below B1 (Nat.le_refl _)
  have hvF0 := hvF.below B1 (Nat.le_refl _)
  have HA := Lib.hid ha
  have HU := Lib.hid hu
  obtain ⟨u, hue⟩ : ∃ u, u = (2 : Int) ^ g - 1 := ⟨_, rfl⟩
  have hgr : ∀ W, Ints W (.slice aF F.length cF) F → Calls Tryd.prog 145 #[.agg #[.int .i64 g, .slice aF F.length cF]] W fun e w' => e = .returned (.int .i64 u) ∧ Below W.heap.size W w' := fun W hW => by
    rw [hue]; exact groundOf_any g _ F W hW (by omega) (by omega)
  have HG := Lib.hid hgr
  have HUE := Lib.hid hue
  have huu : unionL acc = u := by rw [hue, hu]
  have HUU := Lib.hid huu
  clear ha hu hgr hue huu
  go_enter Tryd.func146, Tryd.ntmps146
  go_wp2
  rw [← hW0]
  clear hW0
  refine wp_region_ext _ (by kernel_rfl) (by kernel_rfl) ?_
  repeat (first | go_big_quiet_skip | (go_big_quiet_want; go_big_quiet_op; first | go_big_quiet_on | (apply Exists.intro; refine ⟨fun _ => ?_, ?_⟩; (first | (go_at_call 144; exact ext_sameI (unionOf_any acc _ _ (Ext.ints _ hacc0.ints) HA.out) HUU.out) | (go_at_call 145; exact ext_call (HG.out _ (Ext.ints _ hvF0)))); go_big_quiet_on)))
  refine wpQuiet_nil ?_
  rintro w3 ⟨⟨w3, hb3⟩, rfl⟩
  try dsimp only
  clear e0 e1
  go_wp2
  go_ret2
  exact ⟨rfl, hacc0.keep hb3, B1.after hb3 B1.size⟩

set_option maxHeartbeats 2000000 in
set_option maxRecDepth 100000 in
theorem coverWith_zero (g : Nat) (hg : g ≤ 6) (F t acc : List Int) (w : World) (vF tv : Value) (ad : Option Addr) (ni cp : Nat) (B : Nat) (hvF : Ints w vF F) (hv : Ints w tv t) (hacc : OwnI 3 B w (.slice ad ni cp) acc)
    (ha : ∀ s ∈ acc, 0 ≤ s ∧ s < 64) (hu : unionL acc ≠ 2 ^ g - 1) :
    Calls Tryd.prog 146 #[.agg #[.int .i64 (g : Int), vF], tv, .slice ad ni cp, .int .i64 0] w fun e w' =>
      e = .returned (.tuple #[.slice none 0 0, .bool false]) ∧ Below w.heap.size w w' := by
  obtain ⟨aF, cF, rfl⟩ := hvF.shape
  obtain ⟨av, cv, rfl⟩ := hv.shape
  obtain ⟨d0, d1, B1, z1⟩ := Box2.new w g (.slice aF F.length cF) 32
  obtain ⟨W0, hW0⟩ : ∃ W, W = w.alloc (.cells #[.int .i64 g, .slice aF F.length cF] 32) := ⟨_, rfl⟩
  rw [← hW0] at d0 d1 B1 z1
  have e0 : ∀ x : Ext W0, x.w.cell? ⟨w.heap.size, 0, none⟩ = some (.int .i64 g) := fun x => x.cell d0
  have e1 : ∀ x : Ext W0, x.w.cell? ⟨w.heap.size, 1, none⟩ = some (.slice aF F.length cF) := fun x => x.cell d1
  have hacc0 := hacc.below B1 (Nat.le_refl _)
  have hvF0 := hvF.below B1 (Nat.le_refl _)
  have HA := Lib.hid ha
  obtain ⟨u, hue⟩ : ∃ u, u = (2 : Int) ^ g - 1 := ⟨_, rfl⟩
  have hgr : ∀ W, Ints W (.slice aF F.length cF) F → Calls Tryd.prog 145 #[.agg #[.int .i64 g, .slice aF F.length cF]] W fun e w' => e = .returned (.int .i64 u) ∧ Below W.heap.size W w' := fun W hW => by
    rw [hue]; exact groundOf_any g _ F W hW (by omega) (by omega)
  have HG := Lib.hid hgr
  have htt : (unionL acc == u) = false := by rw [hue]; simpa using hu
  have HUE := Lib.hid hue
  clear ha hu hgr hue
  go_enter Tryd.func146, Tryd.ntmps146
  go_wp2
  rw [← hW0]
  clear hW0
  refine wp_region_ext _ (by kernel_rfl) (by kernel_rfl) ?_
  repeat (first | go_big_quiet_skip | (go_big_quiet_want; go_big_quiet_op; first | go_big_quiet_on | (apply Exists.intro; refine ⟨fun _ => ?_, ?_⟩; (first | (go_at_call 144; exact ext_same (unionOf_any acc _ _ (Ext.ints _ hacc0.ints) HA.out)) | (go_at_call 145; exact ext_call (HG.out _ (Ext.ints _ hvF0)))); go_big_quiet_on)))
  refine wpQuiet_nil ?_
  rintro w3 ⟨⟨w3, hb3⟩, rfl⟩
  try dsimp only
  clear e0 e1
  go_wp2
  go_ret2
  exact ⟨rfl, B1.after hb3 B1.size⟩

set_option maxHeartbeats 4000000 in
set_option maxRecDepth 100000 in
theorem coverWith_any (g : Nat) (hg : g ≤ 6) (F : List Int) : ∀ (k : Nat) (_ : k ≤ 60) (K : Int) (_ : K = k) (t acc : List Int) (w : World) (vF tv : Value) (ad : Option Addr) (ni cp : Nat) (B : Nat) (_ : B ≤ w.heap.size) (_ : Ints w vF F) (_ : Ints w tv t) (_ : OwnI 3 B w (.slice ad ni cp) acc)
    (_ : ∀ s ∈ t, 0 ≤ s ∧ s < 2 ^ g) (_ : ∀ s ∈ acc, 0 ≤ s ∧ s < 2 ^ g) (_ : acc.length + k ≤ 100),
    Calls Tryd.prog 146 #[.agg #[.int .i64 (g : Int), vF], tv, .slice ad ni cp, .int .i64 K] w fun e w' =>
      ∃ ad' i' cp', e = .returned (.tuple #[.slice ad' i' cp', .bool (covI t k (idif (2 ^ g - 1) (unionL acc))).isSome]) ∧ OwnI 3 B w' (.slice ad' i' cp') (pickL (covI t k (idif (2 ^ g - 1) (unionL acc))) acc) ∧ Below w.heap.size w w' := by
  intro k
  induction k with
  | zero =>
    intro _ K hK t acc w vF tv ad ni cp B hB hvF hv hacc ht ha hlen
    have hp := two_pow g 6 hg
    have hp1 : (2 : Int) ^ g ≤ 64 := by simpa using hp.1
    have hp2 := hp.2
    have hU : 0 ≤ unionL acc ∧ unionL acc < 2 ^ g := union_bd g acc ha 0 (by omega) hp2
    have ha64 : ∀ s ∈ acc, 0 ≤ s ∧ s < 64 := fun s hs => by have := ha s hs; omega
    rw [idif_full g _ hU.1 hU.2]
    by_cases hue : unionL acc = 2 ^ g - 1
    · rw [hue, Int.sub_self, covI_done]
      exact (coverWith_done g hg F t acc K w vF tv ad ni cp B hvF hv hacc ha64 hue).mono fun e w' ⟨h1, h2, h3⟩ => ⟨ad, ni, cp, h1, by simpa [pickL] using h2, h3⟩
    · rw [covI_zero _ _ (by omega)]
      have : K = 0 := hK
      subst this
      exact (coverWith_zero g hg F t acc w vF tv ad ni cp B hvF hv hacc ha64 hue).mono fun e w' ⟨h1, h2⟩ => ⟨none, 0, 0, h1, OwnI.nil _ _ _, h2⟩
  | succ k ih =>
    intro hk K hK t acc w vF tv ad ni cp B hB hvF hv hacc ht ha hlen
    have hp := two_pow g 6 hg
    have hp1 : (2 : Int) ^ g ≤ 64 := by simpa using hp.1
    have hp2 := hp.2
    have hU : 0 ≤ unionL acc ∧ unionL acc < 2 ^ g := union_bd g acc ha 0 (by omega) hp2
    have ha64 : ∀ s ∈ acc, 0 ≤ s ∧ s < 64 := fun s hs => by have := ha s hs; omega
    by_cases hue : unionL acc = 2 ^ g - 1
    · rw [idif_full g _ hU.1 hU.2, hue, Int.sub_self, covI_done]
      exact (coverWith_done g hg F t acc K w vF tv ad ni cp B hvF hv hacc ha64 hue).mono fun e w' ⟨h1, h2, h3⟩ => ⟨ad, ni, cp, h1, by simpa [pickL] using h2, h3⟩
    obtain ⟨aF, cF, rfl⟩ := hvF.shape
    obtain ⟨a, b, off, c, rfl, hlen', hix, hc, hb⟩ := hv.view Tryd.prog 22 3 Tryd.underlying22 intElem
    obtain ⟨u, hu⟩ : ∃ u, u = unionL acc := ⟨_, rfl⟩
    obtain ⟨L, hL⟩ : ∃ L, L = idif (2 ^ g - 1) (unionL acc) := ⟨_, rfl⟩
    rw [← hL]
    have hL0 : L ≠ 0 := by rw [hL, idif_full g _ hU.1 hU.2]; omega
    rw [← hu] at hU hL hue
    have hu0 := hU.1
    have hu1 := hU.2
    obtain ⟨f, hf⟩ : ∃ f, f = (2 : Int) ^ g - 1 := ⟨_, rfl⟩
    have hgr : ∀ W, Ints W (.slice aF F.length cF) F → Calls Tryd.prog 145 #[.agg #[.int .i64 g, .slice aF F.length cF]] W fun e w' => e = .returned (.int .i64 f) ∧ Below W.heap.size W w' := fun W hW => by
      rw [hf]; exact groundOf_any g _ F W hW (by omega) (by omega)
    have htt : (u == f) = false := by rw [hf]; simpa using hue
    have hkt : (K == 0) = false := by simp; omega
    obtain ⟨d0, d1, B1, z1⟩ := Box2.new w g (.slice aF F.length cF) 32
    obtain ⟨W0, hW0⟩ : ∃ W, W = w.alloc (.cells #[.int .i64 g, .slice aF F.length cF] 32) := ⟨_, rfl⟩
    rw [← hW0] at d0 d1 B1 z1
    have e0 : ∀ x : Ext W0, x.w.cell? ⟨w.heap.size, 0, none⟩ = some (.int .i64 g) := fun x => x.cell d0
    have e1 : ∀ x : Ext W0, x.w.cell? ⟨w.heap.size, 1, none⟩ = some (.slice aF F.length cF) := fun x => x.cell d1
    have hacc0 := hacc.below B1 (Nat.le_refl _)
    have hvF0 := hvF.below B1 (Nat.le_refl _)
    have hun : ∀ W, Ints W (.slice ad ni cp) acc → Calls Tryd.prog 144 #[.slice ad ni cp] W fun e w' => e = .returned (.int .i64 u) ∧ W = w' := fun W hW => by
      rw [hu]; exact unionOf_any acc _ W hW ha64
    have HUN := Lib.hid hun
    have HG := Lib.hid hgr
    have HU := Lib.hid hu
    have HL := Lib.hid hL
    have HF := Lib.hid hf
    have HT := Lib.hid ht
    have HA := Lib.hid ha
    have HK := Lib.hid hK
    have HL0 := Lib.hid hL0
    have IH := Lib.hid ih
    have hKr : 1 ≤ K ∧ K ≤ 60 := by omega
    have hK1 := hKr.1
    have hK2 := hKr.2
    clear hu hL hf hp hU ht ha ha64 hun hgr hue ih hK hL0 hKr
    go_enter Tryd.func146, Tryd.ntmps146
    go_wp2
    rw [← hW0]
    clear hW0
    refine wp_region_ext _ (by kernel_rfl) (by kernel_rfl) ?_
    repeat (first | go_big_quiet_skip | (go_big_quiet_want; go_big_quiet_op; first | go_big_quiet_on | (apply Exists.intro; refine ⟨fun _ => ?_, ?_⟩; (first | (go_at_call 144; exact ext_same (HUN.out _ (Ext.ints _ hacc0.ints))) | (go_at_call 145; exact ext_call (HG.out _ (Ext.ints _ hvF0)))); go_big_quiet_on)))
    refine wpQuiet_nil ?_
    rintro w3 ⟨⟨w3, hb3⟩, rfl⟩
    try dsimp only
    clear e0 e1
    have X3 := (Box2.mk d0 d1 B1 z1).after hb3
    clear hb3 d0 d1 hacc0 hvF0 z1
    go_wp2_with fail
    go_loopw [24] (fun i wr => ∃ j : Nat, j ≤ t.length ∧ i = .int .i64 j ∧ covI (t.drop j) (k + 1) L = covI t (k + 1) L ∧ Box2 w wr g (.slice aF F.length cF)) (fun i _ => t.length - (intOf i).toNat)
    case atStart => exact ⟨0, Nat.zero_le _, rfl, by rw [List.drop_zero], X3⟩
    case round =>
      obtain ⟨j, hj, rfl, hcv, X⟩ := hrel
      clear X3 htt hkt B1
      have HCV := Lib.hid hcv
      clear hcv
      obtain ⟨d0, d1, B4, z4⟩ := X
      by_cases hlt : j < t.length
      · have hck := cells_below hc hb B4 (Nat.le_refl _)
        have htj := HT.out _ (List.getElem_mem hlt)
        have hcj := hck j hlt
        have hsl2 := hv.from 22 3 Tryd.underlying22 intElem j (by omega)
        have hsl3 := hv.from 22 3 Tryd.underlying22 intElem (j + 1) (by omega)
        have hdr : t.drop j = t[j] :: t.drop (j + 1) := List.drop_eq_getElem_cons hlt
        have hm2 : ∀ x ∈ t.drop j, 0 ≤ x ∧ x < 2 ^ g := fun x hx => HT.out x (List.mem_of_mem_drop hx)
        have hm3 : ∀ x ∈ t.drop (j + 1), 0 ≤ x ∧ x < 2 ^ g := fun x hx => HT.out x (List.mem_of_mem_drop hx)
        have HCV2 := Lib.hid HCV.out
        obtain ⟨t2, ht2⟩ : ∃ t2, t2 = t.drop j := ⟨_, rfl⟩
        obtain ⟨t3, ht3⟩ : ∃ t3, t3 = t.drop (j + 1) := ⟨_, rfl⟩
        obtain ⟨s, hs⟩ : ∃ s, s = t[j] := ⟨_, rfl⟩
        rw [← ht2] at hsl2 hdr hm2
        rw [← ht3] at hsl3 hdr hm3
        rw [← hs] at hcj htj hdr
        have hcv2 : covI t2 (k + 1) L = covI t (k + 1) L := by rw [ht2]; exact HCV2.out
        have HC2 := Lib.hid hcv2
        have HT3 := Lib.hid ht3
        obtain ⟨a2, c2, hsl2, hv2⟩ := hsl2
        obtain ⟨a3, c3, hsl3, hv3⟩ := hsl3
        have hsl3' : ∀ (kk : IntKind) (w' : World), (Instr.slice 22 (.slice a t.length c) (some (.int kk ((j : Int) + 1))) none none).run Tryd.prog w' = .ok (.slice a3 t3.length c3) w' := by simpa using hsl3
        have hs0 : 0 ≤ s := htj.1
        have hs1 : s < 64 := by omega
        have HDR := Lib.hid hdr
        have HM2 := Lib.hid hm2
        have HM3 := Lib.hid hm3
        have hq : 0 ≤ unionL t2 ∧ unionL t2 < 2 ^ g := union_bd g t2 hm2 0 (by omega) hp2
        obtain ⟨q, hqe⟩ : ∃ q, q = unionL t2 := ⟨_, rfl⟩
        have hun2 : ∀ W, Ints W (.slice a2 t2.length c2) t2 → Calls Tryd.prog 144 #[.slice a2 t2.length c2] W fun e w' => e = .returned (.int .i64 q) ∧ W = w' := fun W hW => by
          rw [hqe]; exact unionOf_any t2 _ W hW (fun x hx => by have := hm2 x hx; omega)
        rw [← hqe] at hq
        have hor := ior_is hu0 (show u < 4611686018427387904 by omega) hq.1 (by omega)
        obtain ⟨r, hr⟩ : ∃ r, r = ior u q := ⟨_, rfl⟩
        rw [← hr] at hor
        have HUN2 := Lib.hid hun2
        have HQ := Lib.hid hqe
        have HR := Lib.hid hr
        have hix1 := hix
        have hacc4 := hacc.below B4 (Nat.le_refl _)
        have hvF4 := hvF.below B4 (Nat.le_refl _)
        have hv24 := hv2.below B4 (Nat.le_refl _)
        clear hcv2 ht2 hdr hm2 hm3 hun2 hqe hq hr hck hsl3 htj hs HCV HCV2 ht3
        have e0 : ∀ x : Ext wr, x.w.cell? ⟨w.heap.size, 0, none⟩ = some (.int .i64 g) := fun x => x.cell d0
        have e1 : ∀ x : Ext wr, x.w.cell? ⟨w.heap.size, 1, none⟩ = some (.slice aF F.length cF) := fun x => x.cell d1
        by_cases hrf : r = f
        · have htr : (r != f) = false := by simp [hrf]
          have hor2 := hor
          have HRF := Lib.hid hrf
          clear hrf
          go_wp2_with fail
          refine wp_region_ext _ (by kernel_rfl) (by kernel_rfl) ?_
          repeat (first | go_big_quiet_skip | (go_big_quiet_want; go_big_quiet_op; first | go_big_quiet_on | (apply Exists.intro; refine ⟨fun _ => ?_, ?_⟩; (first | (go_at_call 144; first | (with_reducible exact ext_same (HUN.out _ (Ext.ints _ hacc4.ints))) | (with_reducible exact ext_same (HUN2.out _ (Ext.ints _ hv24)))) | (go_at_call 145; exact ext_call (HG.out _ (Ext.ints _ hvF4)))); go_big_quiet_on)))
          refine wpQuiet_nil ?_
          rintro w5 ⟨⟨w5, hb5⟩, rfl⟩
          try dsimp only
          clear e0 e1
          have B5 := B4.after hb5 B4.size
          obtain ⟨d0', d1', B5', z5'⟩ := (Box2.mk d0 d1 B4 z4).after hb5
          have hacc5 := hacc.below B5 (Nat.le_refl _)
          have hvF5 := hvF.below B5 (Nat.le_refl _)
          have hv35 := hv3.below B5 (Nat.le_refl _)
          obtain ⟨o, ho⟩ : ∃ o, o = covI t3 k (idif L s) := ⟨_, rfl⟩
          have hih : ∀ (W : World) (ad' : Option Addr) (ni' cp' : Nat) (B' : Nat), B' ≤ W.heap.size → Ints W (.slice aF F.length cF) F → Ints W (.slice a3 t3.length c3) t3 → OwnI 3 B' W (.slice ad' ni' cp') (acc ++ [s]) →
              Calls Tryd.prog 146 #[.agg #[.int .i64 (g : Int), .slice aF F.length cF], .slice a3 t3.length c3, .slice ad' ni' cp', .int .i64 (K - 1)] W fun e w' =>
                ∃ ad i cp, e = .returned (.tuple #[.slice ad i cp, .bool o.isSome]) ∧ OwnI 3 B' w' (.slice ad i cp) (pickL o (acc ++ [s])) ∧ Below W.heap.size W w' := by
            intro W ad' ni' cp' B' h1 h2 h3 h4
            have hsg : 0 ≤ s ∧ s < 2 ^ g := by
              have := HM2.out s (by rw [HDR.out]; simp)
              exact this
            have := IH.out (by omega) (K - 1) (by have := HK.out; omega) t3 (acc ++ [s]) W (.slice aF F.length cF) (.slice a3 t3.length c3) ad' ni' cp' B' h1 h2 h3 h4 HM3.out
              (fun x hx => by rcases List.mem_append.1 hx with hx | hx
                              · exact HA.out x hx
                              · simp only [List.mem_singleton] at hx; subst hx; exact hsg)
              (by simp; omega)
            have e : idif (2 ^ g - 1) (unionL (acc ++ [s])) = idif L s := by
              rw [union_snoc, idif_or ⟨by omega, by omega⟩ (by rw [← HU.out]; omega) ⟨hs0, hs1⟩, HL.out, HU.out]
            rw [e, ← ho] at this
            exact this
          have hno : o = none → covI t3 (k + 1) L = covI t (k + 1) L := fun e => by
            rw [← HC2.out, HDR.out]
            simp only [covI, if_neg HL0.out]
            rw [← ho, e]
          have hso : ∀ x, o = some x → covI t (k + 1) L = some (s :: x) := fun x e => by
            rw [← HC2.out, HDR.out]
            simp only [covI, if_neg HL0.out]
            rw [← ho, e]
          have HNO := Lib.hid hno
          have HSO := Lib.hid hso
          clear hno hso
          have HIH := Lib.hid hih
          have HO := Lib.hid ho
          have zw5 : w.heap.size < w5.heap.size := z5'
          clear hih ho d0 d1 z4 hb5 hsl2 hor hor2 hacc4 hvF4 hv24 B5' z5'
          have hwj : IntKind.i64.wrap ((j : Int) + 1) = (j : Int) + 1 := IntWalk.i64_in _ (by omega)
          have hwk : IntKind.i64.wrap (K - 1) = K - 1 := IntWalk.i64_in _ (by omega)
          go_wp2_with fail
          go_region_held3 (fun w' => w'.cell? ⟨w.heap.size, 0, none⟩ = some (.int .i64 g) ∧ w'.cell? ⟨w.heap.size, 1, none⟩ = some (.slice aF F.length cF)) (go_keep)
            (first
              | (go_at_call 177; refine (clone_any _ acc _ (hacc5.below (B' := w5.heap.size) (by repeat (first | exact Below.refl _ _ | (with_reducible refine Below.setCell ?_ (by first | omega | (simp; done) | (simp; omega)) _) | (with_reducible refine Below.alloc ?_ (by first | omega | (simp; done) | (simp; omega)) _) | (with_reducible refine Below.drewN' ?_ _) | (with_reducible refine Below.drew ?_) | (with_reducible assumption) | refine Below.trans ?_ (Below.mono (by assumption) (by first | omega | (simp; done) | (simp; omega))))) (Nat.le_refl _)).ints (by omega)).mono ?_; rintro e w6 ⟨p6, i6, q6, rfl, o6, hb6⟩; obtain ⟨hc6, hf6⟩ := bcellN hb6 w5.heap.size (by first | omega | (simp; done) | (simp; omega)); have z6 := hb6.size; (try simp at z6); have r6 := o6.lt)
              | (refine step_appendI rfl _ _ _ rfl 3 Tryd.underlying22 intElem w5.heap.size (.slice p6 i6 q6) acc s _ rfl rfl ?_ ?_ ⟨by omega, by omega⟩ (by omega) ?_ ?_; (first | exact cell_new _ _ _ _ _ rfl | exact keep hb6 (cell_new _ _ _ _ _ rfl) | exact keep hb6 (by simp [go_sem])); (first | exact (o6.mono (by first | omega | (simp; done) | (simp; omega))).alloc _ | exact o6.mono (by first | omega | (simp; done) | (simp; omega))); (first | omega | (simp; done) | (simp; omega)); intro v' w7 hown hgr; obtain ⟨p7, i7, q7, rfl⟩ := hown.shape3; have b7 : Below w5.heap.size w5 w7 := below_grown (by repeat (first | exact Below.refl _ _ | (with_reducible refine Below.setCell ?_ (by first | omega | (simp; done) | (simp; omega)) _) | (with_reducible refine Below.alloc ?_ (by first | omega | (simp; done) | (simp; omega)) _) | (with_reducible refine Below.drewN' ?_ _) | (with_reducible refine Below.drew ?_) | (with_reducible assumption) | refine Below.trans ?_ (Below.mono (by assumption) (by first | omega | (simp; done) | (simp; omega))))) hgr (by first | omega | (simp; done) | (simp; omega)) (fun q hq => by have := (r6 q hq).1; (try simp at this); omega); obtain ⟨hc7, hf7⟩ := bcellN b7 w5.heap.size (Nat.le_refl _); have z7 := b7.size)
              | (go_at_call 146; refine (HIH.out _ p7 i7 q7 w5.heap.size z7 (hvF5.below b7 (Nat.le_refl _)) (hv35.below b7 (Nat.le_refl _)) hown).mono ?_; rintro e w8 ⟨p8, i8, q8, rfl, o8, hb8⟩; obtain ⟨hc8, hf8⟩ := bcellN hb8 w5.heap.size (by first | omega | (simp; done) | (simp; omega)); have z8 := hb8.size))
          all_goals
            have b8 : Below w5.heap.size w5 w8 := b7.after hb8 b7.size
            have X8 := (Box2.mk d0' d1' B5 zw5).after b8
            have HO8 := Lib.hid o8
            have HX8 := Lib.hid X8
            clear o8 X8 b8 hb8 b7 hb6 hc6 hf6 hc7 hf7 hc8 hf8 hgr hown r6 o6 d0' d1'
            cases o with
            | none =>
              go_wp2
              go_roundw
              case rel => exact ⟨j + 1, by omega, by go_num, by have := HNO.out rfl; rw [HT3.out] at this; exact this, HX8.out⟩
              case measure => simp [intOf]; omega
            | some x =>
              have hfin := HSO.out x rfl
              have HFIN := Lib.hid hfin
              clear hfin
              go_wp2
              go_ret2
              exact ⟨p8, i8, q8, by rw [HFIN.out]; rfl, by rw [HFIN.out]; have := HO8.out.mono (B' := B) (by have := B5.size; omega); simpa [pickL] using this, HX8.out.B⟩
        · have htr : (r != f) = true := by simp [hrf]
          have hnone : covI t (k + 1) L = none := by
            rw [← HC2.out, HL.out]
            exact covI_prune g hg u hu0 hu1 t2 HM2.out (k + 1) (by rw [← HQ.out, ← HR.out, ← HF.out]; exact hrf)
          have HN := Lib.hid hnone
          clear hrf hnone
          go_wp2_with fail
          refine wp_region_ext _ (by kernel_rfl) (by kernel_rfl) ?_
          repeat (first | go_big_quiet_skip | (go_big_quiet_want; go_big_quiet_op; first | go_big_quiet_on | (apply Exists.intro; refine ⟨fun _ => ?_, ?_⟩; (first | (go_at_call 144; first | (with_reducible exact ext_same (HUN.out _ (Ext.ints _ hacc4.ints))) | (with_reducible exact ext_same (HUN2.out _ (Ext.ints _ hv24)))) | (go_at_call 145; exact ext_call (HG.out _ (Ext.ints _ hvF4)))); go_big_quiet_on)))
          refine wpQuiet_nil ?_
          rintro w5 ⟨⟨w5, hb5⟩, rfl⟩
          try dsimp only
          clear e0 e1
          go_wp2
          go_ret2
          exact ⟨none, 0, 0, by rw [HN.out]; rfl, by rw [HN.out]; exact OwnI.nil _ _ _, B4.after hb5 B4.size⟩
      · have hr : covI t (k + 1) L = none := by
          rw [← HCV.out, List.drop_eq_nil_of_le (by omega)]
          exact covI_nil _ _ HL0.out
        have HR := Lib.hid hr
        clear hr
        go_wp2
        go_ret2
        exact ⟨none, 0, 0, by rw [HR.out]; rfl, by rw [HR.out]; exact OwnI.nil _ _ _, B4⟩

theorem small_first {g : Nat} {l : List Int} (hf : isFamB g l = true) : smallOf g l = firstK (fun k => covI l k (2 ^ g - 1)) 0 (g + 1) := by
  have hp := (two_pow g g (Nat.le_refl _)).2
  unfold smallOf
  rw [if_pos hf, first_eq l _ (by omega)]
  rfl

set_option maxHeartbeats 2000000 in
set_option maxRecDepth 100000 in
theorem smallestI_c (w : World) (g : Int) (v : Value) (l : List Int) (hv : Ints w v l) (_ : l.length ≤ 1048576) :
    Calls Tryd.prog 83 #[.agg #[.int .i64 g, v]] w fun e w' => ∃ ad i cp, e = .returned (.tuple #[.slice ad i cp, .bool (smallB g l)]) ∧ OwnI 3 w.heap.size w' (.slice ad i cp) (smallL g l) ∧ Below w.heap.size w w' := by
  obtain ⟨a, c, rfl⟩ := hv.shape
  obtain ⟨d0, d1, B1, z1⟩ := Box2.new w g (.slice a l.length c) 32
  obtain ⟨W0, hW0⟩ : ∃ W, W = w.alloc (.cells #[.int .i64 g, .slice a l.length c] 32) := ⟨_, rfl⟩
  rw [← hW0] at d0 d1 B1 z1
  have e0 : ∀ x : Ext W0, x.w.cell? ⟨w.heap.size, 0, none⟩ = some (.int .i64 g) := fun x => x.cell d0
  have e1 : ∀ x : Ext W0, x.w.cell? ⟨w.heap.size, 1, none⟩ = some (.slice a l.length c) := fun x => x.cell d1
  have hv0 := hv.below B1 (Nat.le_refl _)
  cases hf : isFamB g l with
  | false =>
    have hx : smallOf g l = none := by unfold smallOf; rw [hf]; rfl
    have hxB : smallB g l = false := by unfold smallB; rw [hx]; rfl
    have hxL : smallL g l = [] := by unfold smallL; rw [hx]; rfl
    have HB := Lib.hid hxB
    have HL := Lib.hid hxL
    clear hx hxB hxL
    go_enter Tryd.func83, Tryd.ntmps83
    go_wp2
    rw [← hW0]
    clear hW0
    refine wp_region_ext _ (by kernel_rfl) (by kernel_rfl) ?_
    repeat (first | go_big_quiet_skip | (go_big_quiet_want; go_big_quiet_op; first | go_big_quiet_on | (apply Exists.intro; refine ⟨fun _ => ?_, ?_⟩; (go_at_call 78; exact ext_bool (isFamI_any g l _ _ (Ext.ints _ hv0)) hf); go_big_quiet_on)))
    refine wpQuiet_nil ?_
    rintro w3 ⟨⟨w3, hb3⟩, rfl⟩
    try dsimp only
    clear e0 e1
    have B3 := B1.after hb3 B1.size
    go_wp2
    go_ret2
    exact ⟨none, 0, 0, by rw [HB.out]; rfl, by rw [HL.out]; exact OwnI.nil _ _ _, B3⟩
  | true =>
    obtain ⟨h0, h6, hs, _⟩ := famOk hf
    have hm := fam_mem hf
    obtain ⟨G, rfl⟩ := Int.eq_ofNat_of_zero_le h0
    have hG : G ≤ 6 := by omega
    obtain ⟨f, hfe⟩ : ∃ f, f = (2 : Int) ^ G - 1 := ⟨_, rfl⟩
    have hgr : ∀ W, Ints W (.slice a l.length c) l → Calls Tryd.prog 145 #[.agg #[.int .i64 G, .slice a l.length c]] W fun e w' => e = .returned (.int .i64 f) ∧ Below W.heap.size W w' := fun W hW => by
      rw [hfe]; exact groundOf_any G _ l W hW (by omega) (by omega)
    have hp1 := (two_pow G G (Nat.le_refl _)).2
    have HM := Lib.hid hm
    have HS := Lib.hid hs
    have HG := Lib.hid hgr
    have HFE := Lib.hid hfe
    by_cases hu : unionL l = 2 ^ G - 1
    · have hne : (unionL l != f) = false := by rw [hfe]; simp [hu]
      have hsf := small_first hf
      obtain ⟨q, hq⟩ : ∃ q, q = firstK (fun k => covI l k (2 ^ G - 1)) 0 (G + 1) := ⟨_, rfl⟩
      rw [← hq] at hsf
      have hxB : smallB G l = q.isSome := by unfold smallB; rw [hsf]
      have hxL : smallL G l = q.getD [] := by unfold smallL; rw [hsf]
      have hcw : ∀ (k : Nat), k ≤ 60 → ∀ (W : World), Ints W (.slice a l.length c) l → Calls Tryd.prog 146 #[.agg #[.int .i64 (G : Int), .slice a l.length c], .slice a l.length c, .slice none 0 0, .int .i64 k] W fun e w' =>
          ∃ ad' i' cp', e = .returned (.tuple #[.slice ad' i' cp', .bool (covI l k (2 ^ G - 1)).isSome]) ∧ OwnI 3 W.heap.size w' (.slice ad' i' cp') ((covI l k (2 ^ G - 1)).getD []) ∧ Below W.heap.size W w' := by
        intro k hk W hW
        have := coverWith_any G hG l k hk k rfl l [] W _ _ none 0 0 W.heap.size (Nat.le_refl _) hW hW (OwnI.nil _ _ _) hs (by simp) (by simp; omega)
        have e : idif (2 ^ G - 1) (unionL []) = 2 ^ G - 1 := by
          have : unionL [] = 0 := rfl
          rw [this, idif_full G 0 (by omega) hp1]; omega
        rw [e] at this
        refine this.mono ?_
        rintro e w' ⟨ad, i, cp, h1, h2, h3⟩
        refine ⟨ad, i, cp, h1, ?_, h3⟩
        cases hc : covI l k (2 ^ G - 1) with
        | none => rw [hc] at h2; exact h2
        | some x => rw [hc] at h2; simpa [pickL] using h2
      have HB := Lib.hid hxB
      have HL := Lib.hid hxL
      have HQ := Lib.hid hq
      have HCW := Lib.hid hcw
      clear hxB hxL hu hq hsf hcw hgr hfe hs hm
      go_enter Tryd.func83, Tryd.ntmps83
      go_wp2
      rw [← hW0]
      clear hW0
      refine wp_region_ext _ (by kernel_rfl) (by kernel_rfl) ?_
      repeat (first | go_big_quiet_skip | (go_big_quiet_want; go_big_quiet_op; first | go_big_quiet_on | (apply Exists.intro; refine ⟨fun _ => ?_, ?_⟩; (first | (go_at_call 78; exact ext_bool (isFamI_any G l _ _ (Ext.ints _ hv0)) hf) | (go_at_call 144; exact ext_same (unionOf_any l _ _ (Ext.ints _ hv0) HM.out)) | (go_at_call 145; exact ext_call (HG.out _ (Ext.ints _ hv0)))); go_big_quiet_on)))
      refine wpQuiet_nil ?_
      rintro w3 ⟨⟨w3, hb3⟩, rfl⟩
      try dsimp only
      clear e0 e1
      obtain ⟨d2, d3, B3, z3⟩ := (Box2.mk d0 d1 B1 z1).after hb3
      clear hb3 d0 d1 B1 z1 hne hv0
      go_wp2_with fail
      go_loopw [4] (fun i wr => ∃ k : Nat, k ≤ G + 1 ∧ i = .int .i64 k ∧ firstK (fun k => covI l k (2 ^ G - 1)) k (G + 1 - k) = q ∧ Box2 w wr G (.slice a l.length c)) (fun i _ => G + 1 - (intOf i).toNat)
      case atStart => exact ⟨0, Nat.zero_le _, rfl, HQ.out.symm, ⟨d2, d3, B3, z3⟩⟩
      case round =>
        obtain ⟨k, hk, rfl, hfk, X⟩ := hrel
        clear d2 d3 B3 z3
        have HFK := Lib.hid hfk
        clear hfk
        obtain ⟨d0, d1, B4, z4⟩ := X
        by_cases hlt : k ≤ G
        · have hv4 := hv.below B4 (Nat.le_refl _)
          have hnx : firstK (fun k => covI l k (2 ^ G - 1)) k (G + 1 - k) = (match covI l k (2 ^ G - 1) with | some x => some x | none => firstK (fun k => covI l k (2 ^ G - 1)) (k + 1) (G + 1 - (k + 1))) := by
            rw [show G + 1 - k = (G + 1 - (k + 1)) + 1 by omega]; rfl
          have HNX := Lib.hid hnx
          have HC := Lib.hid (HCW.out k (by omega))
          obtain ⟨o, ho⟩ : ∃ o, o = covI l k (2 ^ G - 1) := ⟨_, rfl⟩
          have hco : ∀ (W : World), Ints W (.slice a l.length c) l → Calls Tryd.prog 146 #[.agg #[.int .i64 (G : Int), .slice a l.length c], .slice a l.length c, .slice none 0 0, .int .i64 k] W fun e w' =>
              ∃ ad' i' cp', e = .returned (.tuple #[.slice ad' i' cp', .bool o.isSome]) ∧ OwnI 3 W.heap.size w' (.slice ad' i' cp') (o.getD []) ∧ Below W.heap.size W w' := by rw [ho]; exact HC.out
          have HCO := Lib.hid hco
          have HO := Lib.hid ho
          clear hnx hco ho HC
          go_wp2_with fail
          refine (HCO.out _ hv4).mono ?_
          rintro e w5 ⟨p5, i5, q5, rfl, o5, hb5⟩
          have X5 := (Box2.mk d0 d1 B4 z4).after hb5
          have HX5 := Lib.hid X5
          have HO5 := Lib.hid o5
          clear d0 d1 X5 o5 hb5
          cases o with
          | none =>
            have hn2 : firstK (fun k => covI l k (2 ^ G - 1)) (k + 1) (G + 1 - (k + 1)) = q := by
              have h1 := HNX.out
              rw [← HO.out, HFK.out] at h1
              exact h1.symm
            have HN2 := Lib.hid hn2
            clear hn2
            go_wp2
            go_roundw
            case rel => exact ⟨k + 1, by omega, by go_num, HN2.out, HX5.out⟩
            case measure => simp [intOf]; omega
          | some x =>
            have hq2 : q = some x := by
              have h1 := HNX.out
              rw [← HO.out, HFK.out] at h1
              exact h1
            have HQ2 := Lib.hid hq2
            clear hq2
            go_wp2
            go_ret2
            exact ⟨p5, i5, q5, by rw [HB.out, HQ2.out]; rfl, by rw [HL.out, HQ2.out]; exact HO5.out.mono B4.size, HX5.out.B⟩
        · have hq2 : q = none := by
            rw [← HFK.out, show G + 1 - k = 0 by omega]; rfl
          have HQ2 := Lib.hid hq2
          clear hq2
          go_wp2
          go_ret2
          exact ⟨none, 0, 0, by rw [HB.out, HQ2.out]; rfl, by rw [HL.out, HQ2.out]; exact OwnI.nil _ _ _, B4⟩
    · have hne : (unionL l != f) = true := by rw [hfe]; simp [hu]
      have hx := small_none hf hu
      have hxB : smallB G l = false := by unfold smallB; rw [hx]; rfl
      have hxL : smallL G l = [] := by unfold smallL; rw [hx]; rfl
      have HB := Lib.hid hxB
      have HL := Lib.hid hxL
      clear hx hxB hxL hu hgr hfe hs hm
      go_enter Tryd.func83, Tryd.ntmps83
      go_wp2
      rw [← hW0]
      clear hW0
      refine wp_region_ext _ (by kernel_rfl) (by kernel_rfl) ?_
      repeat (first | go_big_quiet_skip | (go_big_quiet_want; go_big_quiet_op; first | go_big_quiet_on | (apply Exists.intro; refine ⟨fun _ => ?_, ?_⟩; (first | (go_at_call 78; exact ext_bool (isFamI_any G l _ _ (Ext.ints _ hv0)) hf) | (go_at_call 144; exact ext_same (unionOf_any l _ _ (Ext.ints _ hv0) HM.out)) | (go_at_call 145; exact ext_call (HG.out _ (Ext.ints _ hv0)))); go_big_quiet_on)))
      refine wpQuiet_nil ?_
      rintro w3 ⟨⟨w3, hb3⟩, rfl⟩
      try dsimp only
      clear e0 e1
      have B3 := B1.after hb3 B1.size
      go_wp2
      go_ret2
      exact ⟨none, 0, 0, by rw [HB.out]; rfl, by rw [HL.out]; exact OwnI.nil _ _ _, B3⟩
end Go.Proofs.YtpaoiiiceekkkaaDoor
end
