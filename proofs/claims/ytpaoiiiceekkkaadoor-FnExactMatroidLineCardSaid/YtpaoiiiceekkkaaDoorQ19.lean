/- Increasing functions: the second program. The walk over sets and pairs of the first program. Violations: the first program. -/
import Derived.Test.YtpaoiiiceekkkaaDoorQ18
import Derived.Shelf.Abstract
section
namespace Go.Proofs.YtpaoiiiceekkkaaDoor
open Go.RowKit Go.G5

set_option maxHeartbeats 4000000 in
set_option maxRecDepth 100000 in
theorem incS_any (n : Int) (l : List Int) (v : Value) (w : World) (hv : Ints w v l) :
    Calls Tryd.prog 50 #[.agg #[.int .i64 n, v]] w fun e w' => e = .returned (.bool (incB n l)) ∧ Below w.heap.size w w' := by
  have hv0 := hv
  obtain ⟨a, b, off, c, rfl, hlen, hix, hc, hb⟩ := hv.view Tryd.prog 22 3 Tryd.underlying22 intElem
  have K0 := Blk.new w 31 #[.int .i64 n, .slice a l.length c]
  cases hf : isFunB n l with
  | false =>
    have hx : incB n l = false := by unfold incB; rw [hf]; rfl
    have HX := Lib.hid hx
    have HF := Lib.hid hf
    clear hx hf
    go_enter Tryd.func50, Tryd.ntmps50
    go_wp2_with fail
    go_loopw [3] (fun i wr => i = .int .i64 0 ∧ Below w.heap.size w wr ∧ Blk wr w.heap.size 31 #[.int .i64 n, .slice a l.length c]) (fun _ _ => 0)
    case atStart => exact ⟨rfl, bl1 _ _, K0⟩
    case round =>
      obtain ⟨rfl, B, K⟩ := hrel
      have G1 := K.cell
      go_wp2_with fail
      refine (isFunS_any n l _ _ (hv0.below B (Nat.le_refl _))).mono ?_
      rintro e w1 ⟨rfl, hb1⟩
      rw [HF.out]
      have B1 := B.after hb1 B.size
      have K1 := K.keep hb1
      clear G1
      have G1 := K1.cell
      go_wp2_with fail
      refine (isFunS_any n l _ _ (hv0.below B1 (Nat.le_refl _))).mono ?_
      rintro e w2 ⟨rfl, hb2⟩
      rw [HF.out]
      go_wp2
      go_ret
      exact ⟨ret_bool HX.out.symm, B1.after hb2 B1.size⟩
  | true =>
    obtain ⟨N, rfl, hN5, hl2, hl32, hlb⟩ := fun_nat hf
    have hx : incB N l = allTo (fun s => allTo (upB l s) N) l.length := by unfold incB; rw [hf]; simp
    obtain ⟨F, hF⟩ : ∃ F : Nat → Bool, F = fun s => allTo (upB l s) N := ⟨_, rfl⟩
    rw [← hF] at hx
    have HX := Lib.hid hx
    have HF := Lib.hid hf
    have HFF := Lib.hid hF
    have HLB := Lib.hid hlb
    have HL2 := Lib.hid hl2
    have HC := Lib.hid hc
    have HIX := Lib.hid hix
    clear hx hf hF hlb hl2 hc hix
    go_enter Tryd.func50, Tryd.ntmps50
    go_wp2_with fail
    go_loopw [3] (fun i wr => ∃ s : Nat, s ≤ l.length ∧ i = .int .i64 s ∧ allTo F s = true ∧ Below w.heap.size w wr ∧ Blk wr w.heap.size 31 #[.int .i64 N, .slice a l.length c]) (fun i _ => l.length - (intOf i).toNat)
    case atStart => exact ⟨0, Nat.zero_le _, rfl, rfl, bl1 _ _, K0⟩
    case round =>
      obtain ⟨s, hs, rfl, hall, B, K⟩ := hrel
      obtain ⟨wo, rfl⟩ : ∃ wo : World, wo = wr := ⟨_, rfl⟩
      have H := Lib.hid hall
      clear hall K0
      have G1 := K.cell
      go_wp2_with fail
      refine (isFunS_any N l _ _ (hv0.below B (Nat.le_refl _))).mono ?_
      rintro e w1 ⟨rfl, hb1⟩
      rw [HF.out]
      have K := K.keep hb1
      have B1 := B.after hb1 B.size
      clear G1 hb1 B
      have G1 := K.cell
      by_cases hsl : s < l.length
      · have hFs : F s = allTo (upB l s) N := by rw [HFF.out]
        have HFS := Lib.hid hFs
        clear hFs
        go_wp2_with fail
        go_loopw [4] (fun i wr => ∃ k : Nat, k ≤ N ∧ i = .int .i64 k ∧ allTo (upB l s) k = true ∧ Below w.heap.size w wr ∧ Blk wr w.heap.size 31 #[.int .i64 N, .slice a l.length c]) (fun i _ => N - (intOf i).toNat)
        case atStart => exact ⟨0, Nat.zero_le _, rfl, rfl, B1, K⟩
        case round =>
          obtain ⟨k, hk, rfl, hall, B2, K2⟩ := hrel
          obtain ⟨wi, rfl⟩ : ∃ wo : World, wo = wr := ⟨_, rfl⟩
          have H2 := Lib.hid hall
          clear hall G1
          have G1 := K2.cell
          by_cases hkn : k < N
          · have hse : setBit s k < l.length := by rw [HL2.out] at hsl ⊢; exact setBit_lt _ _ _ hsl hkn
            have c0 := cells_below HC.out hb B2 (Nat.le_refl _) s hsl
            have c1 := cells_below HC.out hb B2 (Nat.le_refl _) _ hse
            have i0 := fun W => HIX.out W s hsl
            have i1 := fun W => HIX.out W _ hse
            have q1 := setBit_is s k (by omega) (by omega)
            have hup : upB l s k = !decide (l[setBit s k] - l[s] < 0) := by unfold upB gainL; rw [getD_at l _ hse, getD_at l _ hsl]
            obtain ⟨u1, hu1⟩ : ∃ u, u = setBit s k := ⟨_, rfl⟩
            simp only [← hu1] at c1 i1 q1 hup
            obtain ⟨x0, hx0⟩ : ∃ x, x = l[s] := ⟨_, rfl⟩
            rw [← hx0] at c0 hup
            have hse2 : u1 < l.length := hu1 ▸ hse
            obtain ⟨x1, hx1⟩ : ∃ x, x = l[u1] := ⟨_, rfl⟩
            rw [← hx1] at c1 hup
            have pk := two_pow k 6 (by omega)
            have pk1 : (2 : Int) ^ k ≤ 64 := by simpa using pk.1
            have pk2 := pk.2
            have wk : IntKind.i64.wrap ((2 : Int) ^ k) = 2 ^ k := by rw [IntKind.wrap_i64]; omega
            have hk5 : k < 5 := by omega
            have HUP := Lib.hid hup
            clear hup hx0 hx1 pk hse
            by_cases hneg : x1 < x0
            · have hu : upB l s k = false := by rw [HUP.out, decide_eq_true (by omega)]; rfl
              have hbad : incB N l = false := by rw [HX.out]; exact allTo_false hsl (by rw [HFS.out]; exact allTo_false hkn hu)
              have HBAD := Lib.hid hbad
              clear hu hbad hu1
              go_wp2_with fail
              go_quiet (fail)
              go_wp2
              go_ret
              exact ⟨ret_bool HBAD.out.symm, B2.drewN' _⟩
            · have hu : upB l s k = true := by rw [HUP.out, decide_eq_false (by omega)]; rfl
              have HU := Lib.hid hu
              clear hu hu1
              go_wp2_with fail
              go_quiet (fail)
              go_wp2
              go_roundw
              case rel => exact ⟨k + 1, by omega, by go_num, allTo_succ H2.out HU.out, B2.drewN' _, K2.drewN _⟩
              case measure => simp [intOf]; omega
          · have hkN : k = N := by omega
            subst hkN
            go_wp2
            go_roundw
            case rel => exact ⟨s + 1, by omega, by go_num, allTo_succ H.out (by rw [HFS.out]; exact H2.out), B2, K2⟩
            case measure => simp [intOf]; omega
      · have hsl' : s = l.length := by omega
        subst hsl'
        go_wp2_with fail
        refine (isFunS_any N l _ _ (hv0.below B1 (Nat.le_refl _))).mono ?_
        rintro e w2 ⟨rfl, hb2⟩
        rw [HF.out]
        go_wp2
        go_ret
        exact ⟨ret_bool (by rw [HX.out, H.out]), B1.after hb2 B1.size⟩
end Go.Proofs.YtpaoiiiceekkkaaDoor
end
section
namespace Go.Proofs.YtpaoiiiceekkkaaDoor
open Go.RowKit Go.G5

theorem ibit_zero' (c s : Nat) : (ibit (c : Int) s == 0) = !nbit c s := by
  have h := nbit_is c s
  have h2 : ibit (c : Int) s = 0 ∨ ibit (c : Int) s = 1 := by
    unfold ibit
    omega
  rcases h2 with h2 | h2
  · rw [h2] at h ⊢; rw [← h]; rfl
  · rw [h2] at h ⊢; rw [← h]; rfl

set_option maxHeartbeats 4000000 in
set_option maxRecDepth 100000 in
theorem visitPairs_any {α : Type} (n : Nat) (hn : n ≤ 5) (l : List Int) (lv : Value) (hl : l.length = 2 ^ n) (c : FuncId) (he : ∀ args w, (callFunc c args).run Tryd.prog w = .ok (.enter c args) w) (g1 g2 : Nat)
    (step : α → Tri → α × Bool) (Rel : α → World → Prop) (P : Nat → Prop) (hmono : ∀ a W W', Rel a W → Below W.heap.size W W' → Rel a W')
    (w : World) (hlv : ∃ a c, lv = .slice a l.length c) (hP : ∀ b, P b → b < w.heap.size)
    (hcl : ∀ a (s i k : Nat) W, s < 2 ^ n → i < k → k < n → nbit s i = false → nbit s k = false → Rel a W → GrownIn w W P → Calls Tryd.prog c #[.int .i64 s, .int .i64 i, .int .i64 k, .pointer (some ⟨g1, 0, none⟩), .pointer (some ⟨g2, 0, none⟩)] W fun e w' => e = .returned (.bool (step a (s, i, k)).2) ∧ Rel (step a (s, i, k)).1 w' ∧ GrownIn W w' P)
    (a0 : α) (h0 : Rel a0 w) :
    Calls Tryd.prog 125 #[.agg #[.int .i64 n, lv], .func (.func c) #[] #[.pointer (some ⟨g1, 0, none⟩), .pointer (some ⟨g2, 0, none⟩)]] w fun e w' => e = .returned (.tuple #[]) ∧ Rel (runT step (tri3 n (2 ^ n)) a0).1 w' ∧ GrownIn w w' P := by
  obtain ⟨a, cp, rfl⟩ := hlv
  have hp5 : (2 : Nat) ^ n ≤ 32 := Nat.pow_le_pow_right (n := 2) (by decide) hn
  obtain ⟨N, hN⟩ : ∃ N : Nat, N = 2 ^ n := ⟨_, rfl⟩
  rw [← hN] at hl hp5 hcl ⊢
  obtain ⟨T, hT⟩ : ∃ T, T = tri3 n N := ⟨_, rfl⟩
  rw [← hT]
  have hcell : l.length ≤ 32 := by omega
  have K0 := Blk.new w 31 #[.int .i64 n, .slice a l.length cp]
  have R0 := hmono a0 w _ h0 (bl1 w (.cells #[.int .i64 n, .slice a l.length cp] 31))
  have GR0 : GrownIn w (w.alloc (.cells #[.int .i64 n, .slice a l.length cp] 31)) P := GrownIn.of_below (bl1 _ _)
  have HT := Lib.hid hT
  have HL := Lib.hid hl
  have HCL := Lib.hid hcl
  have HM := Lib.hid hmono
  have HP := Lib.hid hP
  clear hT hl hcl hmono hP hN
  go_enter Tryd.func125, Tryd.ntmps125
  go_wp2_with fail
  go_loopw [10] (fun s wr => ∃ (k : Nat) (b : α), k ≤ l.length ∧ s = .int .i64 k ∧ runT step (tri3 n k) a0 = (b, true) ∧ Rel b wr ∧ GrownIn w wr P ∧ Blk wr w.heap.size 31 #[.int .i64 n, .slice a l.length cp]) (fun s _ => l.length - (intOf s).toNat)
  case atStart => exact ⟨0, a0, Nat.zero_le _, rfl, rfl, R0, GR0, K0⟩
  case round =>
    obtain ⟨s, b, hs, rfl, hrun, hrel1, hgr, K⟩ := hrel
    obtain ⟨wo, rfl⟩ : ∃ wo : World, wo = wr := ⟨_, rfl⟩
    have HR := Lib.hid hrun
    have HREL := Lib.hid hrel1
    have HGR := Lib.hid hgr
    clear hrun hrel1 hgr R0 GR0 K0
    by_cases hsl : s < l.length
    · have hsN : s < N := by rw [← HL.out]; exact hsl
      have HSN := Lib.hid hsN
      have G1 := K.cell
      clear hsN
      go_wp2_with fail
      go_loopw [15] (fun i wr => ∃ (k : Nat) (b : α), k ≤ n ∧ i = .int .i64 k ∧ runT step (tri3 n s ++ tri2 n s k) a0 = (b, true) ∧ Rel b wr ∧ GrownIn w wr P ∧ Blk wr w.heap.size 31 #[.int .i64 n, .slice a l.length cp]) (fun i _ => n - (intOf i).toNat)
      case atStart => exact ⟨0, b, Nat.zero_le _, rfl, by rw [show tri2 n s 0 = [] from rfl, List.append_nil]; exact HR.out, HREL.out, HGR.out, K⟩
      case round =>
        obtain ⟨i, b2, hi, rfl, hrun, hrel1, hgr, K⟩ := hrel
        obtain ⟨wi, rfl⟩ : ∃ wo : World, wo = wr := ⟨_, rfl⟩
        have HR2 := Lib.hid hrun
        have HREL2 := Lib.hid hrel1
        have HGR2 := Lib.hid hgr
        clear hrun hrel1 hgr G1
        by_cases hin : i < n
        · have hst := tri_start s i (i + 1) (Nat.le_refl _)
          have HST := Lib.hid hst
          clear hst
          go_wp2_with fail
          go_loopw [6] (fun i' wr => ∃ (k : Nat) (b : α), i < k ∧ k ≤ n ∧ i' = .int .i64 k ∧ runT step ((tri3 n s ++ tri2 n s i) ++ tri s i k) a0 = (b, true) ∧ Rel b wr ∧ GrownIn w wr P ∧ Blk wr w.heap.size 31 #[.int .i64 n, .slice a l.length cp]) (fun i' _ => n - (intOf i').toNat)
          case atStart => exact ⟨i + 1, b2, by omega, by omega, by go_num, by rw [HST.out, List.append_nil]; exact HR2.out, HREL2.out, HGR2.out, K⟩
          case round =>
            obtain ⟨k, b3, hik, hk, rfl, hrun, hrel1, hgr, K⟩ := hrel
            obtain ⟨wk, rfl⟩ : ∃ wo : World, wo = wr := ⟨_, rfl⟩
            have HR3 := Lib.hid hrun
            have HREL3 := Lib.hid hrel1
            have HGR3 := Lib.hid hgr
            have G1 := K.cell
            clear hrun hrel1 hgr
            by_cases hkn : k < n
            · have hbi := bit_is (s : Int) i (by omega) (by omega)
              have hbk := bit_is (s : Int) k (by omega) (by omega)
              have hni := ibit_zero' s i
              have hnk := ibit_zero' s k
              obtain ⟨y, hy⟩ : ∃ y, y = ibit (s : Int) i := ⟨_, rfl⟩
              obtain ⟨z, hz⟩ : ∃ y, y = ibit (s : Int) k := ⟨_, rfl⟩
              rw [← hy] at hbi hni
              rw [← hz] at hbk hnk
              have htk : tri s i (k + 1) = tri s i k ++ (if (decide (i < k) && (!nbit s i && !nbit s k)) then [(s, i, k)] else []) := rfl
              rw [decide_eq_true hik, Bool.true_and] at htk
              have HTK := Lib.hid htk
              clear hy hz htk
              cases h1 : nbit s i with
              | true =>
                have hy1 : (y == 0) = false := by rw [hni, h1]; rfl
                have H1 := Lib.hid h1
                clear h1 hni hnk
                go_wp2
                go_roundw
                case rel => exact ⟨k + 1, b3, by omega, by omega, by go_num, by rw [HTK.out, H1.out]; simpa using HR3.out, HREL3.out, HGR3.out, K⟩
                case measure => simp [intOf]; omega
              | false =>
                have hy1 : (y == 0) = true := by rw [hni, h1]; rfl
                cases h2 : nbit s k with
                | true =>
                  have hz1 : (z == 0) = false := by rw [hnk, h2]; rfl
                  have H2 := Lib.hid h2
                  clear h1 h2 hni hnk
                  go_wp2
                  go_roundw
                  case rel => exact ⟨k + 1, b3, by omega, by omega, by go_num, by rw [HTK.out, H2.out]; simpa using HR3.out, HREL3.out, HGR3.out, K⟩
                  case measure => simp [intOf]; omega
                | false =>
                  have hz1 : (z == 0) = true := by rw [hnk, h2]; rfl
                  have hc1 := HCL.out b3 s i k wk HSN.out hik hkn h1 h2 HREL3.out HGR3.out
                  have htk2 : tri s i (k + 1) = tri s i k ++ [(s, i, k)] := by rw [HTK.out, h1, h2]; rfl
                  obtain ⟨r, hr⟩ : ∃ r, r = step b3 (s, i, k) := ⟨_, rfl⟩
                  have hone : runT step [(s, i, k)] b3 = r := by rw [runT_one, hr]
                  rw [← hr] at hc1
                  have hrun2 : runT step (((tri3 n s ++ tri2 n s i) ++ tri s i k) ++ [(s, i, k)]) a0 = r := by rw [runT_go HR3.out]; exact hone
                  obtain ⟨ra, rb⟩ := r
                  have HC1 := Lib.hid hc1
                  have HT2 := Lib.hid htk2
                  have HRUN := Lib.hid hrun2
                  clear h1 h2 hni hnk hc1 htk2 hone hrun2 hr
                  cases rb with
                  | true =>
                    go_wp2_with (go_at_fn c; refine HC1.out.mono ?_; rintro e w4 ⟨rfl, hR4, hG4⟩)
                    have K4 := K.growIn hG4 (fun h => by have := HP.out _ h; omega)
                    have GG := HGR3.out.trans hG4
                    go_roundw
                    case rel => exact ⟨k + 1, ra, by omega, by omega, by go_num, by rw [HT2.out, ← List.append_assoc]; exact HRUN.out, hR4, GG, K4⟩
                    case measure => simp [intOf]; omega
                  | false =>
                    go_wp2_with (go_at_fn c; refine HC1.out.mono ?_; rintro e w4 ⟨rfl, hR4, hG4⟩)
                    refine bodyPost_ret (v := .tuple #[]) (results_none rfl _ _ _) rfl ⟨rfl, ?_, HGR3.out.trans hG4⟩
                    have hT : (runT step T a0).1 = ra := by
                      obtain ⟨r, hr⟩ := tri_front n N s i (k + 1) HSN.out hin hkn
                      rw [HT.out, hr, HT2.out, ← List.append_assoc, runT_stop HRUN.out]
                    rw [hT]; exact hR4
            · have hkn' : k = n := by omega
              subst hkn'
              go_wp2
              go_roundw
              case rel => exact ⟨i + 1, b3, by omega, by go_num, by rw [show tri2 k s (i + 1) = tri2 k s i ++ tri s i k from rfl, ← List.append_assoc]; exact HR3.out, HREL3.out, HGR3.out, K⟩
              case measure => simp [intOf]; omega
        · have hin' : i = n := by omega
          subst hin'
          have G1 := K.cell
          go_wp2
          go_roundw
          case rel => exact ⟨s + 1, b2, by omega, by go_num, HR2.out, HREL2.out, HGR2.out, K⟩
          case measure => simp [intOf]; omega
    · have hsl' : s = l.length := by omega
      subst hsl'
      go_wp2
      go_end0
      refine ⟨rfl, ?_, HGR.out⟩
      rw [HT.out, ← HL.out, HR.out]
      exact HREL.out
end Go.Proofs.YtpaoiiiceekkkaaDoor
end
section
namespace Go.Proofs.YtpaoiiiceekkkaaDoor
open Go.RowKit Go.G5

set_option maxHeartbeats 2000000 in
set_option maxRecDepth 100000 in
theorem excess_any (n : Nat) (hn : n ≤ 5) (l : List Int) (v : Value) (w : World) (hv : Ints w v l) (hl : l.length = 2 ^ n) (hlb : ∀ k, (hk : k < l.length) → -1000 ≤ l[k] ∧ l[k] ≤ 1000) (s i k : Nat) (hs : s < 2 ^ n) (hi : i < n) (hk : k < n) :
    Calls Tryd.prog 127 #[.agg #[.int .i64 n, v], .int .i64 s, .int .i64 i, .int .i64 k] w fun e w' => e = .returned (.int .i64 (exL l s i k)) ∧ Below w.heap.size w w' := by
  obtain ⟨a, b, off, c, rfl, hlen, hix, hc, hb⟩ := hv.view Tryd.prog 22 3 Tryd.underlying22 intElem
  have hc := cells_below hc hb (bl1 w (.cells #[.int .i64 n, .slice a l.length c] 31)) (Nat.le_refl _)
  have h1 := setBit_lt s i n hs hi
  have h2 := setBit_lt s k n hs hk
  have h3 := setBit_lt (setBit s i) k n h1 hk
  rw [← setBit_or] at h3
  have p5 : (2 : Nat) ^ n ≤ 32 := Nat.pow_le_pow_right (n := 2) (by decide) hn
  rw [← hl] at h1 h2 h3 hs p5
  have c0 := hc s hs
  have c1 := hc _ h1
  have c2 := hc _ h2
  have c3 := hc _ h3
  have i0 := fun W => hix W s hs
  have i1 := fun W => hix W _ h1
  have i2 := fun W => hix W _ h2
  have i3 := fun W => hix W _ h3
  have b0 := hlb s hs
  have b1 := hlb _ h1
  have b2 := hlb _ h2
  have b3 := hlb _ h3
  have hex : exL l s i k = l[setBit s i ||| setBit s k] + l[s] - l[setBit s i] - l[setBit s k] := by
    unfold exL
    rw [getD_at l _ h3, getD_at l _ hs, getD_at l _ h1, getD_at l _ h2]
  have q1 := setBit_is s i (by omega) (by omega)
  have q2 := setBit_is s k (by omega) (by omega)
  have q3 := bitsO (setBit s i) (setBit s k) (by omega) (by omega)
  have q4 := setBit_is (setBit s i) k (by omega) (by omega)
  rw [← setBit_or] at q4
  obtain ⟨u1, hu1⟩ : ∃ u, u = setBit s i := ⟨_, rfl⟩
  obtain ⟨u2, hu2⟩ : ∃ u, u = setBit s k := ⟨_, rfl⟩
  simp only [← hu1, ← hu2] at c1 c2 c3 i1 i2 i3 b1 b2 b3 hex q1 q2 q3 q4 h1 h2 h3
  obtain ⟨u3, hu3⟩ : ∃ u, u = u1 ||| u2 := ⟨_, rfl⟩
  simp only [← hu3] at c3 i3 b3 hex q3 q4 h3
  obtain ⟨x0, hx0⟩ : ∃ x, x = l[s] := ⟨_, rfl⟩
  obtain ⟨x1, hx1⟩ : ∃ x, x = l[u1] := ⟨_, rfl⟩
  obtain ⟨x2, hx2⟩ : ∃ x, x = l[u2] := ⟨_, rfl⟩
  obtain ⟨x3, hx3⟩ : ∃ x, x = l[u3] := ⟨_, rfl⟩
  rw [← hx0] at c0 b0 hex
  rw [← hx1] at c1 b1 hex
  rw [← hx2] at c2 b2 hex
  rw [← hx3] at c3 b3 hex
  have pi := two_pow i 6 (by omega)
  have pk := two_pow k 6 (by omega)
  have pi1 : (2 : Int) ^ i ≤ 64 := by simpa using pi.1
  have pk1 : (2 : Int) ^ k ≤ 64 := by simpa using pk.1
  have pi2 := pi.2
  have pk2 := pk.2
  have wi : IntKind.i64.wrap ((2 : Int) ^ i) = 2 ^ i := by rw [IntKind.wrap_i64]; omega
  have wk : IntKind.i64.wrap ((2 : Int) ^ k) = 2 ^ k := by rw [IntKind.wrap_i64]; omega
  have w1 : IntKind.i64.wrap (x3 + x0) = x3 + x0 := by rw [IntKind.wrap_i64]; omega
  have w2 : IntKind.i64.wrap (x3 + x0 - x1) = x3 + x0 - x1 := by rw [IntKind.wrap_i64]; omega
  have w3 : IntKind.i64.wrap (x3 + x0 - x1 - x2) = x3 + x0 - x1 - x2 := by rw [IntKind.wrap_i64]; omega
  have HEX := Lib.hid hex
  have z0 : (0 : Int) ≤ (s : Int) := by omega
  clear hix hb hlb hex hu1 hu2 hu3 hx0 hx1 hx2 hx3 pi pk q4 hc hl
  go_enter Tryd.func127, Tryd.ntmps127
  go_wp2_with fail
  go_quiet (fail)
  go_wp2
  go_ret
  exact ⟨ret_int HEX.out.symm, (bl1 _ _).drewN' _⟩
end Go.Proofs.YtpaoiiiceekkkaaDoor
end
