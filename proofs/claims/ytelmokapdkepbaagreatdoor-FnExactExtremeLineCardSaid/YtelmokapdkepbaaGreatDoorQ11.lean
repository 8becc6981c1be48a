/- The laws' own marks. Marks of values with several lists. The walk over sets and pairs of the first program. Violations: the first program. -/
import Derived.Test.YtelmokapdkepbaaGreatDoorQ10
import Derived.Deep.Light
import Derived.Shelf.Abstract
section
namespace Go.Proofs.YtelmokapdkepbaaGreatDoor
open Go.RowKit Go.G5

def ramp (k : Int) : Nat → List Int
  | 0 => []
  | n + 1 => k :: ramp (k + 1) n
theorem ramp_len (n : Nat) : ∀ k : Int, (ramp k n).length = n := by
  induction n with
  | zero => intro k; rfl
  | succ n ih => intro k; simp [ramp, ih]
theorem ramp_get (n : Nat) : ∀ (k : Int) (j : Nat) (h : j < (ramp k n).length), (ramp k n)[j] = k + j := by
  induction n with
  | zero => intro k j h; simp [ramp] at h
  | succ n ih =>
    intro k j h
    cases j with
    | zero => simp [ramp]
    | succ j =>
      simp only [ramp, List.getElem_cons_succ]
      rw [ih (k + 1) j (by simpa [ramp] using h)]
      push_cast; omega
theorem ramp_step (k : Int) (l : List Int) (j : Nat) (h : j < l.length) : (ramp k j ++ l.drop j).set j (k + j) = ramp k (j + 1) ++ l.drop (j + 1) := by
  apply List.ext_getElem
  · simp [ramp_len]; omega
  · intro i h1 h2
    simp only [List.length_set, List.length_append, ramp_len, List.length_drop] at h1 h2
    rw [List.getElem_set]
    by_cases hi : j = i
    · subst hi
      rw [if_pos rfl, List.getElem_append_left (by rw [ramp_len]; omega), ramp_get]
    · rw [if_neg hi]
      by_cases hij : i < j
      · rw [List.getElem_append_left (by rw [ramp_len]; omega), List.getElem_append_left (by rw [ramp_len]; omega), ramp_get, ramp_get]
      · rw [List.getElem_append_right (by rw [ramp_len]; omega), List.getElem_append_right (by rw [ramp_len]; omega)]
        simp only [ramp_len, List.getElem_drop]
        congr 1; omega

theorem ramp_inR (k : Int) (n : Nat) (h0 : 0 ≤ k) (h1 : k + n ≤ 9223372036854775807) : ∀ x ∈ ramp k n, InR x := by
  intro x hx
  obtain ⟨j, hj, rfl⟩ := List.getElem_of_mem hx
  rw [ramp_get]
  rw [ramp_len] at hj
  exact ⟨by omega, by omega⟩

end Go.Proofs.YtelmokapdkepbaaGreatDoor
end
section
namespace Go.G5
open Go Go.RowKit
/-- w' is w with new blocks and changes to blocks of P alone -/
structure GrownIn (w w' : World) (P : Nat → Prop) : Prop where
  os : w'.os = w.os
  tape : w'.tape = w.tape
  output : w'.output = w.output
  size : w.heap.size ≤ w'.heap.size
  block : ∀ b, b < w.heap.size → ¬ P b → w'.heap[b]? = w.heap[b]?
section
variable {w w' w'' : World} {P : Nat → Prop}
theorem GrownIn.refl (w : World) (P : Nat → Prop) : GrownIn w w P := ⟨rfl, rfl, rfl, Nat.le_refl _, fun _ _ _ => rfl⟩
theorem GrownIn.trans (h : GrownIn w w' P) (k : GrownIn w' w'' P) : GrownIn w w'' P :=
  ⟨k.os.trans h.os, k.tape.trans h.tape, k.output.trans h.output, Nat.le_trans h.size k.size, fun b hb hr => (k.block b (Nat.lt_of_lt_of_le hb h.size) hr).trans (h.block b hb hr)⟩
theorem GrownIn.of_row {row : Option Nat} (h : w.grownBy w' row) (hP : ∀ k, row = some k → P k) : GrownIn w w' P := ⟨h.os, h.tape, h.output, h.size, fun b hb hn => h.block b hb (fun e => hn (hP b e.symm))⟩
theorem GrownIn.of_below (h : Below w.heap.size w w') : GrownIn w w' P := ⟨h.os, h.tape, h.output, h.size, fun b hb _ => h.block b hb⟩
theorem Blk.growIn {g : Nat} {t : TypeId} {cs : Array Value} (h : Blk w g t cs) (hg : GrownIn w w' P) (hn : ¬ P g) : Blk w' g t cs := (hg.block g h.lt hn).trans h
theorem OwnW.growIn {E : TypeId} {B : Nat} {v : Value} {l : List Int} (h : OwnW E B w v l) (hg : GrownIn w w' P) (hn : ∀ k, v.ownBlock = some k → ¬ P k) : OwnW E B w' v l := by
  refine ⟨h.1, ?_⟩
  rcases h.2 with h1 | ⟨g, cap, cur, rfl, hBg, hh, r⟩
  · exact .inl h1
  · refine .inr ⟨g, cap, cur, rfl, hBg, ?_, r⟩
    rw [hg.block g (Array.getElem?_eq_some_iff.1 hh).1 (hn g rfl)]
    exact hh
theorem Below.growIn {B : Nat} {a : World} (h : Below B a w) (hg : GrownIn w w' P) (hB : B ≤ w.heap.size) (hn : ∀ k, P k → B ≤ k) : Below B a w' :=
  ⟨hg.os.trans h.os, hg.tape.trans h.tape, hg.output.trans h.output, Nat.le_trans h.size hg.size, fun b hb => (hg.block b (by omega) (fun hp => by have := hn b hp; omega)).trans (h.block b hb)⟩
end
end Go.G5
namespace Go.Proofs.YtelmokapdkepbaaGreatDoor
open Go.RowKit Go.G5

end Go.Proofs.YtelmokapdkepbaaGreatDoor
end
section
namespace Go.Proofs.YtelmokapdkepbaaGreatDoor
open Go.RowKit Go.G5

theorem ibit_zero' (c s : Nat) : (ibit (c : Int) s == 0) = !nbit c s := by
  have h := nbit_is c s
  have h2 : ibit (c : Int) s = 0 ∨ ibit (c : Int) s = 1 := by
    unfold ibit
    omega
  rcases h2 with h2 | h2
  · rw [h2] at h ⊢; rw [← h]; rfl
  · rw [h2] at h ⊢; rw [← h]; rfl

set_option maxHeartbeats 4000000 in
set_option maxRecDepth 100000 in
theorem visitPairs_any {α : Type} (n : Nat) (hn : n ≤ 5) (l : List Int) (lv : Value) (hl : l.length = 2 ^ n) (c : FuncId) (he : ∀ args w, (callFunc c args).run Tryz.prog w = .ok (.enter c args) w) (g1 g2 : Nat)
    (step : α → Tri → α × Bool) (Rel : α → World → Prop) (P : Nat → Prop) (hmono : ∀ a W W', Rel a W → Below W.heap.size W W' → Rel a W')
    (w : World) (hlv : ∃ a c, lv = .slice a l.length c) (hP : ∀ b, P b → b < w.heap.size)
    (hcl : ∀ a (s i k : Nat) W, s < 2 ^ n → i < k → k < n → nbit s i = false → nbit s k = false → Rel a W → GrownIn w W P → Calls Tryz.prog c #[.int .i64 s, .int .i64 i, .int .i64 k, .pointer (some ⟨g1, 0, none⟩), .pointer (some ⟨g2, 0, none⟩)] W fun e w' => e = .returned (.bool (step a (s, i, k)).2) ∧ Rel (step a (s, i, k)).1 w' ∧ GrownIn W w' P)
    (a0 : α) (h0 : Rel a0 w) :
    Calls Tryz.prog 157 #[.agg #[.int .i64 n, lv], .func (.func c) #[] #[.pointer (some ⟨g1, 0, none⟩), .pointer (some ⟨g2, 0, none⟩)]] w fun e w' => e = .returned (.tuple #[]) ∧ Rel (runT step (tri3 n (2 ^ n)) a0).1 w' ∧ GrownIn w w' P := by
  obtain ⟨a, cp, rfl⟩ := hlv
  have hp5 : (2 : Nat) ^ n ≤ 32 := Nat.pow_le_pow_right (n := 2) (by decide) hn
  obtain ⟨N, hN⟩ : ∃ N : Nat, N = 2 ^ n := ⟨_, rfl⟩
  rw [← hN] at hl hp5 hcl ⊢
  obtain ⟨T, hT⟩ : ∃ T, T = tri3 n N := ⟨_, rfl⟩
  rw [← hT]
  have hcell : l.length ≤ 32 := by omega
  have K0 := Blk.new w 27 #[.int .i64 n, .slice a l.length cp]
  have R0 := hmono a0 w _ h0 (bl1 w (.cells #[.int .i64 n, .slice a l.length cp] 27))
  have GR0 : GrownIn w (w.alloc (.cells #[.int .i64 n, .slice a l.length cp] 27)) P := GrownIn.of_below (bl1 _ _)
  have HT := Lib.hid hT
  have HL := Lib.hid hl
  have HCL := Lib.hid hcl
  have HM := Lib.hid hmono
  have HP := Lib.hid hP
  clear hT hl hcl hmono hP hN
  go_enter Tryz.func157, Tryz.ntmps157
  go_wp2_with fail
  go_loopw [10] (fun s wr => ∃ (k : Nat) (b : α), k ≤ l.length ∧ s = .int .i64 k ∧ runT step (tri3 n k) a0 = (b, true) ∧ Rel b wr ∧ GrownIn w wr P ∧ Blk wr w.heap.size 27 #[.int .i64 n, .slice a l.length cp]) (fun s _ => l.length - (intOf s).toNat)
  case atStart => exact ⟨0, a0, Nat.zero_le _, rfl, rfl, R0, GR0, K0⟩
  case round =>
    obtain ⟨s, b, hs, rfl, hrun, hrel1, hgr, K⟩ := hrel
    obtain ⟨wo, rfl⟩ : ∃ wo : World, wo = wr := ⟨_, rfl⟩
    have HR := Lib.hid hrun
    have HREL := Lib.hid hrel1
    have HGR := Lib.hid hgr
    clear hrun hrel1 hgr R0 GR0 K0
    by_cases hsl : s < l.length
    · have hsN : s < N := by rw [← HL.out]; exact hsl
      have HSN := Lib.hid hsN
      have G1 := K.cell
      clear hsN
      go_wp2_with fail
      go_loopw [15] (fun i wr => ∃ (k : Nat) (b : α), k ≤ n ∧ i = .int .i64 k ∧ runT step (tri3 n s ++ tri2 n s k) a0 = (b, true) ∧ Rel b wr ∧ GrownIn w wr P ∧ Blk wr w.heap.size 27 #[.int .i64 n, .slice a l.length cp]) (fun i _ => n - (intOf i).toNat)
      case atStart => exact ⟨0, b, Nat.zero_le _, rfl, by rw [show tri2 n s 0 = [] from rfl, List.append_nil]; exact HR.out, HREL.out, HGR.out, K⟩
      case round =>
        obtain ⟨i, b2, hi, rfl, hrun, hrel1, hgr, K⟩ := hrel
        obtain ⟨wi, rfl⟩ : ∃ wo : World, wo = wr := ⟨_, rfl⟩
        have HR2 := Lib.hid hrun
        have HREL2 := Lib.hid hrel1
        have HGR2 := Lib.hid hgr
        clear hrun hrel1 hgr G1
        by_cases hin : i < n
        · have hst := tri_start s i (i + 1) (Nat.le_refl _)
          have HST := Lib.hid hst
          clear hst
          go_wp2_with fail
          go_loopw [6] (fun i' wr => ∃ (k : Nat) (b : α), i < k ∧ k ≤ n ∧ i' = .int .i64 k ∧ runT step ((tri3 n s ++ tri2 n s i) ++ tri s i k) a0 = (b, true) ∧ Rel b wr ∧ GrownIn w wr P ∧ Blk wr w.heap.size 27 #[.int .i64 n, .slice a l.length cp]) (fun i' _ => n - (intOf i').toNat)
          case atStart => exact ⟨i + 1, b2, by omega, by omega, by go_num, by rw [HST.out, List.append_nil]; exact HR2.out, HREL2.out, HGR2.out, K⟩
          case round =>
            obtain ⟨k, b3, hik, hk, rfl, hrun, hrel1, hgr, K⟩ := hrel
            obtain ⟨wk, rfl⟩ : ∃ wo : World, wo = wr := ⟨_, rfl⟩
            have HR3 := Lib.hid hrun
            have HREL3 := Lib.hid hrel1
            have HGR3 := Lib.hid hgr
            have G1 := K.cell
            clear hrun hrel1 hgr
            by_cases hkn : k < n
            · have hbi := bit_is (s : Int) i (by omega) (by omega)
              have hbk := bit_is (s : Int) k (by omega) (by omega)
              have hni := ibit_zero' s i
              have hnk := ibit_zero' s k
              obtain ⟨y, hy⟩ : ∃ y, y = ibit (s : Int) i := ⟨_, rfl⟩
              obtain ⟨z, hz⟩ : ∃ y, y = ibit (s : Int) k := ⟨_, rfl⟩
              rw [← hy] at hbi hni
              rw [← hz] at hbk hnk
              have htk : tri s i (k + 1) = tri s i k ++ (if (decide (i < k) && (!nbit s i && !nbit s k)) then [(s, i, k)] else []) := rfl
              rw [decide_eq_true hik, Bool.true_and] at htk
              have HTK := Lib.hid htk
              clear hy hz htk
              cases h1 : nbit s i with
              | true =>
                have hy1 : (y == 0) = false := by rw [hni, h1]; rfl
                have H1 := Lib.hid h1
                clear h1 hni hnk
                go_wp2
                go_roundw
                case rel => exact ⟨k + 1, b3, by omega, by omega, by go_num, by rw [HTK.out, H1.out]; simpa using HR3.out, HREL3.out, HGR3.out, K⟩
                case measure => simp [intOf]; omega
              | false =>
                have hy1 : (y == 0) = true := by rw [hni, h1]; rfl
                cases h2 : nbit s k with
                | true =>
                  have hz1 : (z == 0) = false := by rw [hnk, h2]; rfl
                  have H2 := Lib.hid h2
                  clear h1 h2 hni hnk
                  go_wp2
                  go_roundw
                  case rel => exact ⟨k + 1, b3, by omega, by omega, by go_num, by rw [HTK.out, H2.out]; simpa using HR3.out, HREL3.out, HGR3.out, K⟩
                  case measure => simp [intOf]; omega
                | false =>
                  have hz1 : (z == 0) = true := by rw [hnk, h2]; rfl
                  have hc1 := HCL.out b3 s i k wk HSN.out hik hkn h1 h2 HREL3.out HGR3.out
                  have htk2 : tri s i (k + 1) = tri s i k ++ [(s, i, k)] := by rw [HTK.out, h1, h2]; rfl
                  obtain ⟨r, hr⟩ : ∃ r, r = step b3 (s, i, k) := ⟨_, rfl⟩
                  have hone : runT step [(s, i, k)] b3 = r := by rw [runT_one, hr]
                  rw [← hr] at hc1
                  have hrun2 : runT step (((tri3 n s ++ tri2 n s i) ++ tri s i k) ++ [(s, i, k)]) a0 = r := by rw [runT_go HR3.out]; exact hone
                  obtain ⟨ra, rb⟩ := r
                  have HC1 := Lib.hid hc1
                  have HT2 := Lib.hid htk2
                  have HRUN := Lib.hid hrun2
                  clear h1 h2 hni hnk hc1 htk2 hone hrun2 hr
                  cases rb with
                  | true =>
                    go_wp2_with (go_at_fn c; refine HC1.out.mono ?_; rintro e w4 ⟨rfl, hR4, hG4⟩)
                    have K4 := K.growIn hG4 (fun h => by have := HP.out _ h; omega)
                    have GG := HGR3.out.trans hG4
                    go_roundw
                    case rel => exact ⟨k + 1, ra, by omega, by omega, by go_num, by rw [HT2.out, ← List.append_assoc]; exact HRUN.out, hR4, GG, K4⟩
                    case measure => simp [intOf]; omega
                  | false =>
                    go_wp2_with (go_at_fn c; refine HC1.out.mono ?_; rintro e w4 ⟨rfl, hR4, hG4⟩)
                    refine bodyPost_ret (v := .tuple #[]) (results_none rfl _ _ _) rfl ⟨rfl, ?_, HGR3.out.trans hG4⟩
                    have hT : (runT step T a0).1 = ra := by
                      obtain ⟨r, hr⟩ := tri_front n N s i (k + 1) HSN.out hin hkn
                      rw [HT.out, hr, HT2.out, ← List.append_assoc, runT_stop HRUN.out]
                    rw [hT]; exact hR4
            · have hkn' : k = n := by omega
              subst hkn'
              go_wp2
              go_roundw
              case rel => exact ⟨i + 1, b3, by omega, by go_num, by rw [show tri2 k s (i + 1) = tri2 k s i ++ tri s i k from rfl, ← List.append_assoc]; exact HR3.out, HREL3.out, HGR3.out, K⟩
              case measure => simp [intOf]; omega
        · have hin' : i = n := by omega
          subst hin'
          have G1 := K.cell
          go_wp2
          go_roundw
          case rel => exact ⟨s + 1, b2, by omega, by go_num, HR2.out, HREL2.out, HGR2.out, K⟩
          case measure => simp [intOf]; omega
    · have hsl' : s = l.length := by omega
      subst hsl'
      go_wp2
      go_end0
      refine ⟨rfl, ?_, HGR.out⟩
      rw [HT.out, ← HL.out, HR.out]
      exact HREL.out
end Go.Proofs.YtelmokapdkepbaaGreatDoor
end
section
namespace Go.Proofs.YtelmokapdkepbaaGreatDoor
open Go.RowKit Go.G5

set_option maxHeartbeats 2000000 in
set_option maxRecDepth 100000 in
theorem excess_any (n : Nat) (hn : n ≤ 5) (l : List Int) (v : Value) (w : World) (hv : Ints w v l) (hl : l.length = 2 ^ n) (hlb : ∀ k, (hk : k < l.length) → -1000 ≤ l[k] ∧ l[k] ≤ 1000) (s i k : Nat) (hs : s < 2 ^ n) (hi : i < n) (hk : k < n) :
    Calls Tryz.prog 159 #[.agg #[.int .i64 n, v], .int .i64 s, .int .i64 i, .int .i64 k] w fun e w' => e = .returned (.int .i64 (exL l s i k)) ∧ Below w.heap.size w w' := by
  obtain ⟨a, b, off, c, rfl, hlen, hix, hc, hb⟩ := hv.view Tryz.prog 22 3 Tryz.underlying22 intElem
  have hc := cells_below hc hb (bl1 w (.cells #[.int .i64 n, .slice a l.length c] 27)) (Nat.le_refl _)
  have h1 := setBit_lt s i n hs hi
  have h2 := setBit_lt s k n hs hk
  have h3 := setBit_lt (setBit s i) k n h1 hk
  rw [← setBit_or] at h3
  have p5 : (2 : Nat) ^ n ≤ 32 := Nat.pow_le_pow_right (n := 2) (by decide) hn
  rw [← hl] at h1 h2 h3 hs p5
  have c0 := hc s hs
  have c1 := hc _ h1
  have c2 := hc _ h2
  have c3 := hc _ h3
  have i0 := fun W => hix W s hs
  have i1 := fun W => hix W _ h1
  have i2 := fun W => hix W _ h2
  have i3 := fun W => hix W _ h3
  have b0 := hlb s hs
  have b1 := hlb _ h1
  have b2 := hlb _ h2
  have b3 := hlb _ h3
  have hex : exL l s i k = l[setBit s i ||| setBit s k] + l[s] - l[setBit s i] - l[setBit s k] := by
    unfold exL
    rw [getD_at l _ h3, getD_at l _ hs, getD_at l _ h1, getD_at l _ h2]
  have q1 := setBit_is s i (by omega) (by omega)
  have q2 := setBit_is s k (by omega) (by omega)
  have q3 := bitsO (setBit s i) (setBit s k) (by omega) (by omega)
  have q4 := setBit_is (setBit s i) k (by omega) (by omega)
  rw [← setBit_or] at q4
  obtain ⟨u1, hu1⟩ : ∃ u, u = setBit s i := ⟨_, rfl⟩
  obtain ⟨u2, hu2⟩ : ∃ u, u = setBit s k := ⟨_, rfl⟩
  simp only [← hu1, ← hu2] at c1 c2 c3 i1 i2 i3 b1 b2 b3 hex q1 q2 q3 q4 h1 h2 h3
  obtain ⟨u3, hu3⟩ : ∃ u, u = u1 ||| u2 := ⟨_, rfl⟩
  simp only [← hu3] at c3 i3 b3 hex q3 q4 h3
  obtain ⟨x0, hx0⟩ : ∃ x, x = l[s] := ⟨_, rfl⟩
  obtain ⟨x1, hx1⟩ : ∃ x, x = l[u1] := ⟨_, rfl⟩
  obtain ⟨x2, hx2⟩ : ∃ x, x = l[u2] := ⟨_, rfl⟩
  obtain ⟨x3, hx3⟩ : ∃ x, x = l[u3] := ⟨_, rfl⟩
  rw [← hx0] at c0 b0 hex
  rw [← hx1] at c1 b1 hex
  rw [← hx2] at c2 b2 hex
  rw [← hx3] at c3 b3 hex
  have pi := two_pow i 6 (by omega)
  have pk := two_pow k 6 (by omega)
  have pi1 : (2 : Int) ^ i ≤ 64 := by simpa using pi.1
  have pk1 : (2 : Int) ^ k ≤ 64 := by simpa using pk.1
  have pi2 := pi.2
  have pk2 := pk.2
  have wi : IntKind.i64.wrap ((2 : Int) ^ i) = 2 ^ i := by rw [IntKind.wrap_i64]; omega
  have wk : IntKind.i64.wrap ((2 : Int) ^ k) = 2 ^ k := by rw [IntKind.wrap_i64]; omega
  have w1 : IntKind.i64.wrap (x3 + x0) = x3 + x0 := by rw [IntKind.wrap_i64]; omega
  have w2 : IntKind.i64.wrap (x3 + x0 - x1) = x3 + x0 - x1 := by rw [IntKind.wrap_i64]; omega
  have w3 : IntKind.i64.wrap (x3 + x0 - x1 - x2) = x3 + x0 - x1 - x2 := by rw [IntKind.wrap_i64]; omega
  have HEX := Lib.hid hex
  have z0 : (0 : Int) ≤ (s : Int) := by omega
  clear hix hb hlb hex hu1 hu2 hu3 hx0 hx1 hx2 hx3 pi pk q4 hc hl
  go_enter Tryz.func159, Tryz.ntmps159
  go_wp2_with fail
  go_quiet (fail)
  go_wp2
  go_ret
  exact ⟨ret_int HEX.out.symm, (bl1 _ _).drewN' _⟩
end Go.Proofs.YtelmokapdkepbaaGreatDoor
end
