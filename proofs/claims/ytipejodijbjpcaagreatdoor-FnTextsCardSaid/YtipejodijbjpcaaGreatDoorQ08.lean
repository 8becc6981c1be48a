/- The walk over sets and pairs of the first program. Violations: the first program. Violations: the first program's search. -/
import Derived.Test.YtipejodijbjpcaaGreatDoorQ07
import Derived.Shelf.Abstract
section
namespace Go.Proofs.YtipejodijbjpcaaGreatDoor
open Go.RowKit Go.G5

theorem ibit_zero' (c s : Nat) : (ibit (c : Int) s == 0) = !nbit c s := by
  have h := nbit_is c s
  have h2 : ibit (c : Int) s = 0 ∨ ibit (c : Int) s = 1 := by
    unfold ibit
    omega
  rcases h2 with h2 | h2
  · rw [h2] at h ⊢; rw [← h]; rfl
  · rw [h2] at h ⊢; rw [← h]; rfl

set_option maxHeartbeats 4000000 in
set_option maxRecDepth 100000 in
theorem visitPairs_any {α : Type} (n : Nat) (hn : n ≤ 5) (l : List Int) (lv : Value) (hl : l.length = 2 ^ n) (c : FuncId) (he : ∀ args w, (callFunc c args).run Tryz.prog w = .ok (.enter c args) w) (g1 g2 : Nat)
    (step : α → Tri → α × Bool) (Rel : α → World → Prop) (P : Nat → Prop) (hmono : ∀ a W W', Rel a W → Below W.heap.size W W' → Rel a W')
    (w : World) (hlv : ∃ a c, lv = .slice a l.length c) (hP : ∀ b, P b → b < w.heap.size)
    (hcl : ∀ a (s i k : Nat) W, s < 2 ^ n → i < k → k < n → nbit s i = false → nbit s k = false → Rel a W → GrownIn w W P → Calls Tryz.prog c #[.int .i64 s, .int .i64 i, .int .i64 k, .pointer (some ⟨g1, 0, none⟩), .pointer (some ⟨g2, 0, none⟩)] W fun e w' => e = .returned (.bool (step a (s, i, k)).2) ∧ Rel (step a (s, i, k)).1 w' ∧ GrownIn W w' P)
    (a0 : α) (h0 : Rel a0 w) :
    Calls Tryz.prog 116 #[.agg #[.int .i64 n, lv], .func (.func c) #[] #[.pointer (some ⟨g1, 0, none⟩), .pointer (some ⟨g2, 0, none⟩)]] w fun e w' => e = .returned (.tuple #[]) ∧ Rel (runT step (tri3 n (2 ^ n)) a0).1 w' ∧ GrownIn w w' P := by
  obtain ⟨a, cp, rfl⟩ := hlv
  have hp5 : (2 : Nat) ^ n ≤ 32 := Nat.pow_le_pow_right (n := 2) (by decide) hn
  obtain ⟨N, hN⟩ : ∃ N : Nat, N = 2 ^ n := ⟨_, rfl⟩
  rw [← hN] at hl hp5 hcl ⊢
  obtain ⟨T, hT⟩ : ∃ T, T = tri3 n N := ⟨_, rfl⟩
  rw [← hT]
  have hcell : l.length ≤ 32 := by omega
  have K0 := Blk.new w 32 #[.int .i64 n, .slice a l.length cp]
  have R0 := hmono a0 w _ h0 (bl1 w (.cells #[.int .i64 n, .slice a l.length cp] 32))
  have GR0 : GrownIn w (w.alloc (.cells #[.int .i64 n, .slice a l.length cp] 32)) P := GrownIn.of_below (bl1 _ _)
  have HT := Lib.hid hT
  have HL := Lib.hid hl
  have HCL := Lib.hid hcl
  have HM := Lib.hid hmono
  have HP := Lib.hid hP
  clear hT hl hcl hmono hP hN
  go_enter Tryz.func116, Tryz.ntmps116
  go_wp2_with fail
  go_loopw [10] (fun s wr => ∃ (k : Nat) (b : α), k ≤ l.length ∧ s = .int .i64 k ∧ runT step (tri3 n k) a0 = (b, true) ∧ Rel b wr ∧ GrownIn w wr P ∧ Blk wr w.heap.size 32 #[.int .i64 n, .slice a l.length cp]) (fun s _ => l.length - (intOf s).toNat)
  case atStart => exact ⟨0, a0, Nat.zero_le _, rfl, rfl, R0, GR0, K0⟩
  case round =>
    obtain ⟨s, b, hs, rfl, hrun, hrel1, hgr, K⟩ := hrel
    obtain ⟨wo, rfl⟩ : ∃ wo : World, wo = wr := ⟨_, rfl⟩
    have HR := Lib.hid hrun
    have HREL := Lib.hid hrel1
    have HGR := Lib.hid hgr
    clear hrun hrel1 hgr R0 GR0 K0
    by_cases hsl : s < l.length
    · have hsN : s < N := by rw [← HL.out]; exact hsl
      have HSN := Lib.hid hsN
      have G1 := K.cell
      clear hsN
      go_wp2_with fail
      go_loopw [15] (fun i wr => ∃ (k : Nat) (b : α), k ≤ n ∧ i = .int .i64 k ∧ runT step (tri3 n s ++ tri2 n s k) a0 = (b, true) ∧ Rel b wr ∧ GrownIn w wr P ∧ Blk wr w.heap.size 32 #[.int .i64 n, .slice a l.length cp]) (fun i _ => n - (intOf i).toNat)
      case atStart => exact ⟨0, b, Nat.zero_le _, rfl, by rw [show tri2 n s 0 = [] from rfl, List.append_nil]; exact HR.out, HREL.out, HGR.out, K⟩
      case round =>
        obtain ⟨i, b2, hi, rfl, hrun, hrel1, hgr, K⟩ := hrel
        obtain ⟨wi, rfl⟩ : ∃ wo : World, wo = wr := ⟨_, rfl⟩
        have HR2 := Lib.hid hrun
        have HREL2 := Lib.hid hrel1
        have HGR2 := Lib.hid hgr
        clear hrun hrel1 hgr G1
        by_cases hin : i < n
        · have hst := tri_start s i (i + 1) (Nat.le_refl _)
          have HST := Lib.hid hst
          clear hst
          go_wp2_with fail
          go_loopw [6] (fun i' wr => ∃ (k : Nat) (b : α), i < k ∧ k ≤ n ∧ i' = .int .i64 k ∧ runT step ((tri3 n s ++ tri2 n s i) ++ tri s i k) a0 = (b, true) ∧ Rel b wr ∧ GrownIn w wr P ∧ Blk wr w.heap.size 32 #[.int .i64 n, .slice a l.length cp]) (fun i' _ => n - (intOf i').toNat)
          case atStart => exact ⟨i + 1, b2, by omega, by omega, by go_num, by rw [HST.out, List.append_nil]; exact HR2.out, HREL2.out, HGR2.out, K⟩
          case round =>
            obtain ⟨k, b3, hik, hk, rfl, hrun, hrel1, hgr, K⟩ := hrel
            obtain ⟨wk, rfl⟩ : ∃ wo : World, wo = wr := ⟨_, rfl⟩
            have HR3 := Lib.hid hrun
            have HREL3 := Lib.hid hrel1
            have HGR3 := Lib.hid hgr
            have G1 := K.cell
            clear hrun hrel1 hgr
            by_cases hkn : k < n
            · have hbi := bit_is (s : Int) i (by omega) (by omega)
              have hbk := bit_is (s : Int) k (by omega) (by omega)
              have hni := ibit_zero' s i
              have hnk := ibit_zero' s k
              obtain ⟨y, hy⟩ : ∃ y, y = ibit (s : Int) i := ⟨_, rfl⟩
              obtain ⟨z, hz⟩ : ∃ y, y = ibit (s : Int) k := ⟨_, rfl⟩
              rw [← hy] at hbi hni
              rw [← hz] at hbk hnk
              have htk : tri s i (k + 1) = tri s i k ++ (if (decide (i < k) && (!nbit s i && !nbit s k)) then [(s, i, k)] else []) := rfl
              rw [decide_eq_true hik, Bool.true_and] at htk
              have HTK := Lib.hid htk
              clear hy hz htk
              cases h1 : nbit s i with
              | true =>
                have hy1 : (y == 0) = false := by rw [hni, h1]; rfl
                have H1 := Lib.hid h1
                clear h1 hni hnk
                go_wp2
                go_roundw
                case rel => exact ⟨k + 1, b3, by omega, by omega, by go_num, by rw [HTK.out, H1.out]; simpa using HR3.out, HREL3.out, HGR3.out, K⟩
                case measure => simp [intOf]; omega
              | false =>
                have hy1 : (y == 0) = true := by rw [hni, h1]; rfl
                cases h2 : nbit s k with
                | true =>
                  have hz1 : (z == 0) = false := by rw [hnk, h2]; rfl
                  have H2 := Lib.hid h2
                  clear h1 h2 hni hnk
                  go_wp2
                  go_roundw
                  case rel => exact ⟨k + 1, b3, by omega, by omega, by go_num, by rw [HTK.out, H2.out]; simpa using HR3.out, HREL3.out, HGR3.out, K⟩
                  case measure => simp [intOf]; omega
                | false =>
                  have hz1 : (z == 0) = true := by rw [hnk, h2]; rfl
                  have hc1 := HCL.out b3 s i k wk HSN.out hik hkn h1 h2 HREL3.out HGR3.out
                  have htk2 : tri s i (k + 1) = tri s i k ++ [(s, i, k)] := by rw [HTK.out, h1, h2]; rfl
                  obtain ⟨r, hr⟩ : ∃ r, r = step b3 (s, i, k) := ⟨_, rfl⟩
                  have hone : runT step [(s, i, k)] b3 = r := by rw [runT_one, hr]
                  rw [← hr] at hc1
                  have hrun2 : runT step (((tri3 n s ++ tri2 n s i) ++ tri s i k) ++ [(s, i, k)]) a0 = r := by rw [runT_go HR3.out]; exact hone
                  obtain ⟨ra, rb⟩ := r
                  have HC1 := Lib.hid hc1
                  have HT2 := Lib.hid htk2
                  have HRUN := Lib.hid hrun2
                  clear h1 h2 hni hnk hc1 htk2 hone hrun2 hr
                  cases rb with
                  | true =>
                    go_wp2_with (go_at_fn c; refine HC1.out.mono ?_; rintro e w4 ⟨rfl, hR4, hG4⟩)
                    have K4 := K.growIn hG4 (fun h => by have := HP.out _ h; omega)
                    have GG := HGR3.out.trans hG4
                    go_roundw
                    case rel => exact ⟨k + 1, ra, by omega, by omega, by go_num, by rw [HT2.out, ← List.append_assoc]; exact HRUN.out, hR4, GG, K4⟩
                    case measure => simp [intOf]; omega
                  | false =>
                    go_wp2_with (go_at_fn c; refine HC1.out.mono ?_; rintro e w4 ⟨rfl, hR4, hG4⟩)
                    refine bodyPost_ret (v := .tuple #[]) (results_none rfl _ _ _) rfl ⟨rfl, ?_, HGR3.out.trans hG4⟩
                    have hT : (runT step T a0).1 = ra := by
                      obtain ⟨r, hr⟩ := tri_front n N s i (k + 1) HSN.out hin hkn
                      rw [HT.out, hr, HT2.out, ← List.append_assoc, runT_stop HRUN.out]
                    rw [hT]; exact hR4
            · have hkn' : k = n := by omega
              subst hkn'
              go_wp2
              go_roundw
              case rel => exact ⟨i + 1, b3, by omega, by go_num, by rw [show tri2 k s (i + 1) = tri2 k s i ++ tri s i k from rfl, ← List.append_assoc]; exact HR3.out, HREL3.out, HGR3.out, K⟩
              case measure => simp [intOf]; omega
        · have hin' : i = n := by omega
          subst hin'
          have G1 := K.cell
          go_wp2
          go_roundw
          case rel => exact ⟨s + 1, b2, by omega, by go_num, HR2.out, HREL2.out, HGR2.out, K⟩
          case measure => simp [intOf]; omega
    · have hsl' : s = l.length := by omega
      subst hsl'
      go_wp2
      go_end0
      refine ⟨rfl, ?_, HGR.out⟩
      rw [HT.out, ← HL.out, HR.out]
      exact HREL.out
end Go.Proofs.YtipejodijbjpcaaGreatDoor
end
section
namespace Go.Proofs.YtipejodijbjpcaaGreatDoor
open Go.RowKit Go.G5

set_option maxHeartbeats 2000000 in
set_option maxRecDepth 100000 in
theorem excess_any (n : Nat) (hn : n ≤ 5) (l : List Int) (v : Value) (w : World) (hv : Ints w v l) (hl : l.length = 2 ^ n) (hlb : ∀ k, (hk : k < l.length) → -1000 ≤ l[k] ∧ l[k] ≤ 1000) (s i k : Nat) (hs : s < 2 ^ n) (hi : i < n) (hk : k < n) :
    Calls Tryz.prog 118 #[.agg #[.int .i64 n, v], .int .i64 s, .int .i64 i, .int .i64 k] w fun e w' => e = .returned (.int .i64 (exL l s i k)) ∧ Below w.heap.size w w' := by
  obtain ⟨a, b, off, c, rfl, hlen, hix, hc, hb⟩ := hv.view Tryz.prog 22 3 Tryz.underlying22 intElem
  have hc := cells_below hc hb (bl1 w (.cells #[.int .i64 n, .slice a l.length c] 32)) (Nat.le_refl _)
  have h1 := setBit_lt s i n hs hi
  have h2 := setBit_lt s k n hs hk
  have h3 := setBit_lt (setBit s i) k n h1 hk
  rw [← setBit_or] at h3
  have p5 : (2 : Nat) ^ n ≤ 32 := Nat.pow_le_pow_right (n := 2) (by decide) hn
  rw [← hl] at h1 h2 h3 hs p5
  have c0 := hc s hs
  have c1 := hc _ h1
  have c2 := hc _ h2
  have c3 := hc _ h3
  have i0 := fun W => hix W s hs
  have i1 := fun W => hix W _ h1
  have i2 := fun W => hix W _ h2
  have i3 := fun W => hix W _ h3
  have b0 := hlb s hs
  have b1 := hlb _ h1
  have b2 := hlb _ h2
  have b3 := hlb _ h3
  have hex : exL l s i k = l[setBit s i ||| setBit s k] + l[s] - l[setBit s i] - l[setBit s k] := by
    unfold exL
    rw [getD_at l _ h3, getD_at l _ hs, getD_at l _ h1, getD_at l _ h2]
  have q1 := setBit_is s i (by omega) (by omega)
  have q2 := setBit_is s k (by omega) (by omega)
  have q3 := bitsO (setBit s i) (setBit s k) (by omega) (by omega)
  have q4 := setBit_is (setBit s i) k (by omega) (by omega)
  rw [← setBit_or] at q4
  obtain ⟨u1, hu1⟩ : ∃ u, u = setBit s i := ⟨_, rfl⟩
  obtain ⟨u2, hu2⟩ : ∃ u, u = setBit s k := ⟨_, rfl⟩
  simp only [← hu1, ← hu2] at c1 c2 c3 i1 i2 i3 b1 b2 b3 hex q1 q2 q3 q4 h1 h2 h3
  obtain ⟨u3, hu3⟩ : ∃ u, u = u1 ||| u2 := ⟨_, rfl⟩
  simp only [← hu3] at c3 i3 b3 hex q3 q4 h3
  obtain ⟨x0, hx0⟩ : ∃ x, x = l[s] := ⟨_, rfl⟩
  obtain ⟨x1, hx1⟩ : ∃ x, x = l[u1] := ⟨_, rfl⟩
  obtain ⟨x2, hx2⟩ : ∃ x, x = l[u2] := ⟨_, rfl⟩
  obtain ⟨x3, hx3⟩ : ∃ x, x = l[u3] := ⟨_, rfl⟩
  rw [← hx0] at c0 b0 hex
  rw [← hx1] at c1 b1 hex
  rw [← hx2] at c2 b2 hex
  rw [← hx3] at c3 b3 hex
  have pi := two_pow i 6 (by omega)
  have pk := two_pow k 6 (by omega)
  have pi1 : (2 : Int) ^ i ≤ 64 := by simpa using pi.1
  have pk1 : (2 : Int) ^ k ≤ 64 := by simpa using pk.1
  have pi2 := pi.2
  have pk2 := pk.2
  have wi : IntKind.i64.wrap ((2 : Int) ^ i) = 2 ^ i := by rw [IntKind.wrap_i64]; omega
  have wk : IntKind.i64.wrap ((2 : Int) ^ k) = 2 ^ k := by rw [IntKind.wrap_i64]; omega
  have w1 : IntKind.i64.wrap (x3 + x0) = x3 + x0 := by rw [IntKind.wrap_i64]; omega
  have w2 : IntKind.i64.wrap (x3 + x0 - x1) = x3 + x0 - x1 := by rw [IntKind.wrap_i64]; omega
  have w3 : IntKind.i64.wrap (x3 + x0 - x1 - x2) = x3 + x0 - x1 - x2 := by rw [IntKind.wrap_i64]; omega
  have HEX := Lib.hid hex
  have z0 : (0 : Int) ≤ (s : Int) := by omega
  clear hix hb hlb hex hu1 hu2 hu3 hx0 hx1 hx2 hx3 pi pk q4 hc hl
  go_enter Tryz.func118, Tryz.ntmps118
  go_wp2_with fail
  go_quiet (fail)
  go_wp2
  go_ret
  exact ⟨ret_int HEX.out.symm, (bl1 _ _).drewN' _⟩
end Go.Proofs.YtipejodijbjpcaaGreatDoor
end
section
namespace Go.Proofs.YtipejodijbjpcaaGreatDoor
open Go.RowKit Go.G5

def violRel (w : World) (ob : Nat) (n : Nat) (v : Value) (a : Option Tri) (W : World) : Prop :=
  Below w.heap.size w W ∧ Blk W w.heap.size 32 #[.int .i64 n, v] ∧ match a with
    | none => Blk W (ob) 22 #[.slice none 0 0]
    | some t => ∃ g, Blk W (ob) 22 #[.slice (some ⟨g, 0, none⟩) 3 3] ∧ OwnI 3 (ob + 1) W (.slice (some ⟨g, 0, none⟩) 3 3) (triL (some t))
theorem violRel_mono (w : World) (ob : Nat) (n : Nat) (v : Value) (a : Option Tri) (W W' : World) (h : violRel w ob n v a W) (hb : Below W.heap.size W W') : violRel w ob n v a W' := by
  obtain ⟨h1, h2, h3⟩ := h
  refine ⟨h1.after hb h1.size, h2.keep hb, ?_⟩
  cases a with
  | none => exact Blk.keep h3 hb
  | some t =>
    obtain ⟨g, k1, k2⟩ := h3
    exact ⟨g, k1.keep hb, k2.keep hb⟩
theorem OwnI.lit3 {E : TypeId} {B : Nat} (w : World) (hB : B ≤ w.heap.size) (x y z : Int) (hx : InR x) (hy : InR y) (hz : InR z) : OwnI E B (w.alloc (.cells #[.int .i64 x, .int .i64 y, .int .i64 z] E)) (.slice (some ⟨w.heap.size, 0, none⟩) 3 3) [x, y, z] :=
  ⟨World.ownsRow_lit w #[.int .i64 x, .int .i64 y, .int .i64 z] 3 hB (by decide) rfl, by
    intro q hq
    simp only [List.mem_cons, List.not_mem_nil, or_false] at hq
    rcases hq with rfl | rfl | rfl <;> assumption⟩
set_option maxHeartbeats 2000000 in
set_option maxRecDepth 100000 in
theorem violClosure (w : World) (ob : Nat) (hob : w.heap.size < ob) (n : Nat) (hn : n ≤ 5) (l : List Int) (v : Value) (hv : Ints w v l) (hl : l.length = 2 ^ n) (hlb : ∀ k, (hk : k < l.length) → -1000 ≤ l[k] ∧ l[k] ≤ 1000) (a : Option Tri) (s i k : Nat) (W : World) (hs : s < 2 ^ n) (hik : i < k) (hk : k < n) (hR : violRel w ob n v a W) :
    Calls Tryz.prog 117 #[.int .i64 s, .int .i64 i, .int .i64 k, .pointer (some ⟨w.heap.size, 0, none⟩), .pointer (some ⟨ob, 0, none⟩)] W fun e w' =>
      e = .returned (.bool (vstep l a (s, i, k)).2) ∧ violRel w ob n v (vstep l a (s, i, k)).1 w' ∧ GrownIn W w' (fun b => b = ob) := by
  obtain ⟨B, Kf, h3⟩ := hR
  have hp5 : (2 : Nat) ^ n ≤ 32 := Nat.pow_le_pow_right (n := 2) (by decide) hn
  have hex := excess_any n hn l v W (hv.below B (Nat.le_refl _)) hl hlb s i k hs (by omega) hk
  have hbad : badB l (s, i, k) = decide (0 < exL l s i k) := rfl
  have hbd := exL_bd n l hl hlb s i k hs (by omega) hk
  obtain ⟨av, cv, rfl⟩ := hv.shape
  obtain ⟨x, hx⟩ : ∃ x, x = exL l s i k := ⟨_, rfl⟩
  rw [← hx] at hex hbad hbd
  have hrs : InR (s : Int) := ⟨by omega, by omega⟩
  have hri : InR (i : Int) := ⟨by omega, by omega⟩
  have hrk : InR (k : Int) := ⟨by omega, by omega⟩
  have G1 := Kf.cell
  have yB := B.size
  have HEX := Lib.hid hex
  have hsi : s < 32 := by omega
  clear hl hlb hx hex hs
  by_cases hpos : 0 < x
  · have hb : badB l (s, i, k) = true := by rw [hbad]; exact decide_eq_true hpos
    have hst : vstep l a (s, i, k) = (some (s, i, k), false) := by unfold vstep; rw [if_pos hb]
    have HST := Lib.hid hst
    have Ko : ∃ u, Blk W (ob) 22 #[u] := by
      cases a with
      | none => exact ⟨_, h3⟩
      | some t => obtain ⟨g, k1, _⟩ := h3; exact ⟨_, k1⟩
    obtain ⟨u, Ko⟩ := Ko
    have zo := Ko.lt
    clear hbad hb hst h3
    go_enter Tryz.func117, Tryz.ntmps117
    go_wp2_with fail
    refine HEX.out.mono ?_
    rintro e w1 ⟨rfl, hb1⟩
    have Ko := Ko.keep hb1
    have Kf := Kf.keep hb1
    have B1 := B.after hb1 B.size
    have y1 := hb1.size
    have Go := Ko.cell
    have Fo := Ko.frozen
    have zo1 := Ko.lt
    clear G1
    go_wp2
    refine post_named ?_
    intro Wf hWf
    obtain ⟨W2, hW2⟩ : ∃ W2, W2 = w1.setCell ⟨ob, 0, none⟩ (.slice (some ⟨w1.heap.size, 0, none⟩) 3 3) := ⟨_, rfl⟩
    rw [← hW2] at hWf
    have hgf : w1.grownBy W2 (some (ob)) := by rw [hW2]; exact grow_set (World.grownBy.refl _ _) 0 _
    have hsz : W2.heap.size = w1.heap.size := by rw [hW2]; simp
    have KO : Blk W2 (ob) 22 #[.slice (some ⟨w1.heap.size, 0, none⟩) 3 3] := by
      rw [hW2]
      have := Ko.set 0 (.slice (some ⟨w1.heap.size, 0, none⟩) 3 3)
      simpa using this
    have KF := Kf.grow hgf (by intro h; have := Option.some.inj h; omega)
    have BF := B1.grown hgf B1.size (fun q hq => by have := Option.some.inj hq; omega)
    have ol := OwnI.lit3 (E := 3) (B := ob + 1) W2 (by omega) s i k hrs hri hrk
    rw [hsz] at ol
    have hgr := (GrownIn.of_below (P := fun b => b = ob) hb1).trans ((GrownIn.of_row hgf (fun q hq => (Option.some.inj hq).symm)).trans (GrownIn.of_below (bl1 W2 (.cells #[.int .i64 s, .int .i64 i, .int .i64 k] 3))))
    have KO := KO.alloc (.cells #[.int .i64 s, .int .i64 i, .int .i64 k] 3)
    have KF := KF.alloc (.cells #[.int .i64 s, .int .i64 i, .int .i64 k] 3)
    have BF := BF.alloc BF.size (.cells #[.int .i64 s, .int .i64 i, .int .i64 k] 3)
    rw [← hWf] at KO KF BF ol hgr
    clear hWf Go Fo
    go_ret
    refine ⟨by rw [HST.out]; rfl, ?_, hgr⟩
    rw [HST.out]
    exact ⟨BF, KF, _, KO, ol⟩
  · have hb : badB l (s, i, k) = false := by rw [hbad]; exact decide_eq_false hpos
    have hst : vstep l a (s, i, k) = (a, a.isNone) := by unfold vstep; rw [if_neg (by rw [hb]; simp)]
    have HST := Lib.hid hst
    clear hbad hb hst
    cases a with
    | none =>
      have Ko : Blk W (ob) 22 #[.slice none 0 0] := h3
      have zo := Ko.lt
      clear h3
      go_enter Tryz.func117, Tryz.ntmps117
      go_wp2_with fail
      refine HEX.out.mono ?_
      rintro e w1 ⟨rfl, hb1⟩
      have Ko := Ko.keep hb1
      have Go := Ko.cell
      clear G1
      go_wp2
      go_ret
      refine ⟨by rw [HST.out]; rfl, ?_, GrownIn.of_below hb1⟩
      rw [HST.out]
      exact ⟨B.after hb1 B.size, Kf.keep hb1, Ko⟩
    | some t =>
      obtain ⟨g, Ko, ow⟩ := h3
      have zo := Ko.lt
      go_enter Tryz.func117, Tryz.ntmps117
      go_wp2_with fail
      refine HEX.out.mono ?_
      rintro e w1 ⟨rfl, hb1⟩
      have Ko := Ko.keep hb1
      have Go := Ko.cell
      clear G1
      go_wp2
      go_ret
      refine ⟨by rw [HST.out]; rfl, ?_, GrownIn.of_below hb1⟩
      rw [HST.out]
      exact ⟨B.after hb1 B.size, Kf.keep hb1, g, Ko, ow.keep hb1⟩
theorem violClosure_enters : ∀ args w, (callFunc 117 args).run Tryz.prog w = .ok (.enter 117 args) w := enters_of Tryz.func117 (by kernel_rfl) rfl

set_option maxHeartbeats 2000000 in
set_option maxRecDepth 100000 in
theorem violI_c (w : World) (n : Int) (v : Value) (l : List Int) (hv : Ints w v l) (_ : l.length ≤ 1048576) :
    Calls Tryz.prog 15 #[.agg #[.int .i64 n, v]] w fun e w' => ∃ ad i cp, e = .returned (.tuple #[.slice ad i cp, .bool (violB n l)]) ∧ OwnW 3 w.heap.size w' (.slice ad i cp) (violL n l) ∧ Below w.heap.size w w' := by
  have hv0 := hv
  obtain ⟨a, c, rfl⟩ := hv.shape
  have hmf : ∀ (fn : Fn) (first cap : Array Value) (w : World), (Instr.makeFunc fn first cap).run Tryz.prog w = .ok (.func fn first cap) w := fun _ _ _ _ => rfl
  have K0 := Blk.new w 32 #[.int .i64 n, .slice a l.length c]
  cases hf : isFunB n l with
  | false =>
    have hr : violR n l = none := by unfold violR; rw [hf]; rfl
    have hB : violB n l = false := by unfold violB; rw [hr]; rfl
    have hL : violL n l = [] := by unfold violL; rw [hr]; rfl
    have H := Lib.hid (And.intro hB hL)
    have HF := Lib.hid hf
    clear hr hB hL hf
    go_enter Tryz.func15, Tryz.ntmps15
    go_wp2_with (go_at_call 111; refine (isFunI_any n l _ _ (hv0.alloc _)).mono ?_; rintro e w1 ⟨rfl, hb1⟩; rw [HF.out])
    go_ret2
    exact ⟨none, 0, 0, by rw [H.out.1]; rfl, by rw [H.out.2]; exact OwnW.nil _ _ _, (bl1 _ _).after hb1 (by simp)⟩
  | true =>
    obtain ⟨h0, h5, hlen, hlb⟩ := funOk hf
    obtain ⟨N, rfl⟩ := Int.eq_ofNat_of_zero_le h0
    have hN5 : N ≤ 5 := by omega
    have hl2 : l.length = 2 ^ N := by
      have e2 : (N : Int).toNat = N := by omega
      rw [e2] at hlen
      exact_mod_cast hlen
    have hr : violR N l = violT N l := by unfold violR; rw [hf]; rfl
    have hvis : ∀ ob V, w.heap.size < ob → violRel w ob N (.slice a l.length c) none V → Calls Tryz.prog 116 #[.agg #[.int .i64 N, .slice a l.length c], .func (.func 117) #[] #[.pointer (some ⟨w.heap.size, 0, none⟩), .pointer (some ⟨ob, 0, none⟩)]] V fun e w' =>
        e = .returned (.tuple #[]) ∧ violRel w ob N (.slice a l.length c) (violR N l) w' ∧ GrownIn V w' (fun b => b = ob) := fun ob V hob hV => by
      rw [hr]
      refine visitPairs_any N hN5 l _ hl2 117 violClosure_enters _ _ (vstep l) (violRel w ob N (.slice a l.length c)) _ (violRel_mono w ob N _) V ⟨a, c, rfl⟩ (fun b hb => by have := (hV.2.2 : Blk V ob 22 #[.slice none 0 0]).lt; omega) ?_ none hV
      intro a' s i k W hs hik hk _ _ hR _
      exact violClosure w ob hob N hN5 l _ hv0 hl2 hlb a' s i k W hs hik hk hR
    have HV := Lib.hid hvis
    have HF := Lib.hid hf
    clear hvis hr hf hlen hlb hl2
    go_enter Tryz.func15, Tryz.ntmps15
    go_wp2_with fail
    refine (isFunI_any N l _ _ (hv0.alloc _)).mono ?_
    rintro e w1 ⟨rfl, hb1⟩
    rw [HF.out]
    have K1 := K0.keep hb1
    have B1 : Below w.heap.size w w1 := (bl1 _ _).after hb1 (by simp)
    have G1 := K1.cell
    have z1 := K1.lt
    clear hb1 K0
    go_wp2_with fail
    have R0 : violRel w w1.heap.size N (.slice a l.length c) none (w1.alloc (.cells #[.slice none 0 0] 22)) := ⟨B1.alloc B1.size _, K1.alloc _, Blk.new _ _ _⟩
    refine (HV.out w1.heap.size _ z1 R0).mono ?_
    rintro e w2 ⟨rfl, ⟨B2, K2, hout⟩, hg2⟩
    clear G1 R0
    cases hR : violR N l with
    | none =>
      rw [hR] at hout
      have Ko : Blk w2 w1.heap.size 22 #[.slice none 0 0] := hout
      have hB : violB N l = false := by unfold violB; rw [hR]; rfl
      have hL : violL N l = [] := by unfold violL; rw [hR]; rfl
      have H := Lib.hid (And.intro hB hL)
      have Go := Ko.cell
      clear hout hR hB hL
      go_wp2_with fail
      go_quiet (fail)
      go_wp2
      go_ret2
      exact ⟨none, 0, 0, by rw [H.out.1]; rfl, by rw [H.out.2]; exact OwnW.nil _ _ _, B2.drewN' _⟩
    | some t =>
      rw [hR] at hout
      obtain ⟨g, Ko, ow⟩ := hout
      have hB : violB N l = true := by unfold violB; rw [hR]; rfl
      have hL : violL N l = triL (some t) := by unfold violL; rw [hR]
      have H := Lib.hid (And.intro hB hL)
      have Go := Ko.cell
      have y1 := B1.size
      clear hR hB hL
      go_wp2_with fail
      go_quiet (fail)
      go_wp2
      go_ret2
      exact ⟨some ⟨g, 0, none⟩, 3, 3, by rw [H.out.1]; rfl, by rw [H.out.2]; exact ((ow.toW.mono (by omega)).drewN _), B2.drewN' _⟩

set_option maxHeartbeats 1000000 in
theorem isSubI_any (n : Int) (l : List Int) (v : Value) (w : World) (hv : Ints w v l) (hl : l.length ≤ 1048576) :
    Calls Tryz.prog 17 #[.agg #[.int .i64 n, v]] w fun e w' => e = .returned (.bool (subB n l)) ∧ Below w.heap.size w w' := by
  have hv0 := hv
  obtain ⟨a, c, rfl⟩ := hv.shape
  have K0 := Blk.new w 32 #[.int .i64 n, .slice a l.length c]
  go_enter Tryz.func17, Tryz.ntmps17
  go_wp2_with fail
  refine (violI_c _ n _ l (hv0.alloc _) hl).mono ?_
  rintro e w1 ⟨p1, i1, q1, rfl, o1, hb1⟩
  have K1 := K0.keep hb1
  have B1 : Below w.heap.size w w1 := (bl1 _ _).after hb1 (by simp)
  have G1 := K1.cell
  go_wp2_with fail
  refine (isFunI_any n l _ _ (hv0.below B1 (Nat.le_refl _))).mono ?_
  rintro e w2 ⟨rfl, hb2⟩
  have B2 := B1.after hb2 B1.size
  cases hf : isFunB n l with
  | false =>
    have hx : subB n l = false := by unfold subB; rw [hf]; rfl
    have HX := Lib.hid hx
    clear hx hf
    go_wp2
    go_ret
    exact ⟨by rw [HX.out]; rfl, B2⟩
  | true =>
    have hx : subB n l = !violB n l := by unfold subB; rw [hf]; rfl
    have HX := Lib.hid hx
    clear hx hf
    go_wp2
    go_ret
    exact ⟨by rw [HX.out]; rfl, B2⟩
end Go.Proofs.YtipejodijbjpcaaGreatDoor
end
