/- The greatest excess: the second program. -/
import Derived.Test.YtpaoiiiceekkkaaDoorQ35
import Derived.Lib.MinMax
section
namespace Go.Proofs.YtpaoiiiceekkkaaDoor
open Go.RowKit Go.G5


set_option maxHeartbeats 4000000 in
set_option maxRecDepth 100000 in
theorem gapS_any (w : World) (n : Int) (v : Value) (l : List Int) (hv : Ints w v l) :
    Calls Tryd.prog 43 #[.agg #[.int .i64 n, v]] w fun e w' => e = .returned (.tuple #[.int .i64 (gapN n l), .bool (isFunB n l)]) ∧ Below w.heap.size w w' := by
  have hv0 := hv
  obtain ⟨a, c, rfl⟩ := hv.shape
  have K0 := Blk.new w 31 #[.int .i64 n, .slice a l.length c]
  cases hf : isFunB n l with
  | false =>
    have hg : gapN n l = 0 := by unfold gapN; rw [hf]; rfl
    have HG := Lib.hid hg
    have HF := Lib.hid hf
    clear hg hf
    go_enter Tryd.func43, Tryd.ntmps43
    go_wp2_with (go_at_call 42; refine (isFunS_any n l _ _ (hv0.alloc _)).mono ?_; rintro e w1 ⟨rfl, hb1⟩; rw [HF.out])
    go_ret2
    exact ⟨by rw [HG.out]; rfl, (bl1 _ _).after hb1 (by simp)⟩
  | true =>
    obtain ⟨N, rfl, hN5, hl2, hl32, hlb⟩ := fun_nat hf
    have hgn : gapN (N : Int) l = most0 ((trk3 N l.length).map (exT l)) 0 := by
      unfold gapN; rw [hf, if_pos rfl, Int.toNat_natCast, gapT_most, hl2]
    have hbd : ∀ s i, s < 2 ^ N → i < N → ∀ k, k < N → -4000 ≤ exL l s i k ∧ exL l s i k ≤ 4000 := fun s i hs hi k hk => exL_bd N l hl2 hlb s i k hs hi hk
    have HG := Lib.hid hgn
    have HF := Lib.hid hf
    have HL2 := Lib.hid hl2
    have HLB := Lib.hid hlb
    have HBD := Lib.hid hbd
    clear hgn hf hl2 hlb hbd
    go_enter Tryd.func43, Tryd.ntmps43
    go_wp2_with fail
    refine (isFunS_any N l _ _ (hv0.alloc _)).mono ?_
    rintro e w1 ⟨rfl, hb1⟩
    rw [HF.out]
    have K1 := K0.keep hb1
    have B1 : Below w.heap.size w w1 := (bl1 _ _).after hb1 (by simp)
    have G1 := K1.cell
    clear K0 hb1
    have hv1 := hv0.below B1 (Nat.le_refl _)
    obtain ⟨av, b, off, cv, hve, hlen, hix, hc, hb⟩ := hv1.view Tryd.prog 22 3 Tryd.underlying22 intElem
    injection hve with e1 _ e3
    subst e1 e3
    have HC := Lib.hid hc
    have HIX := Lib.hid hix
    clear hc hix hlen hv1
    go_wp2_with fail
    go_loopw [4, 6] (fun nv sv wr => ∃ s : Nat, s ≤ l.length ∧ sv = .int .i64 s ∧ nv = .int .i64 (most0 ((trk3 N s).map (exT l)) 0) ∧ Below w1.heap.size w1 wr) (fun _ sv _ => l.length - (intOf sv).toNat)
    case atStart => exact ⟨0, Nat.zero_le _, rfl, rfl, Below.refl _ _⟩
    case round =>
      obtain ⟨s, hs, rfl, rfl, B⟩ := hrel
      obtain ⟨wo, rfl⟩ : ∃ wo : World, wo = wr := ⟨_, rfl⟩
      have K := K1.keep B
      have G := K.cell
      clear G1
      obtain ⟨M, hM⟩ : ∃ M, M = most0 ((trk3 N s).map (exT l)) 0 := ⟨_, rfl⟩
      rw [← hM]
      have HM := Lib.hid hM
      clear hM
      by_cases hsl : s < l.length
      · have hsl2 : (s : Int) < (l.length : Int) := by omega
        go_wp2_with fail
        go_loopw [4, 7] (fun nv iv wr => ∃ i : Nat, i ≤ N ∧ iv = .int .i64 i ∧ nv = .int .i64 (most0 ((trk3 N s ++ trk2 s i).map (exT l)) 0) ∧ Below w1.heap.size w1 wr) (fun _ iv _ => N - (intOf iv).toNat)
        case atStart => exact ⟨0, Nat.zero_le _, rfl, by rw [show trk2 s 0 = [] from rfl, List.append_nil, HM.out], B⟩
        case round =>
          obtain ⟨i, hi, rfl, rfl, B2⟩ := hrel
          obtain ⟨wi, rfl⟩ : ∃ wo : World, wo = wr := ⟨_, rfl⟩
          have K2 := K1.keep B2
          have G2 := K2.cell
          clear G K HM B
          obtain ⟨M2, hM⟩ : ∃ M, M = most0 ((trk3 N s ++ trk2 s i).map (exT l)) 0 := ⟨_, rfl⟩
          rw [← hM]
          have HM := Lib.hid hM
          clear hM
          by_cases hin : i < N
          · have hin2 : (i : Int) < (N : Int) := by omega
            go_wp2_with fail
            go_loopw [4, 8] (fun nv kv wr => ∃ k : Nat, k ≤ i ∧ kv = .int .i64 k ∧ nv = .int .i64 (most0 (((trk3 N s ++ trk2 s i) ++ trk s i k).map (exT l)) 0) ∧ Below w1.heap.size w1 wr) (fun _ kv _ => i - (intOf kv).toNat)
            case atStart => exact ⟨0, Nat.zero_le _, rfl, by rw [show trk s i 0 = [] from rfl, List.append_nil, HM.out], B2⟩
            case round =>
              obtain ⟨k, hk, rfl, rfl, B3⟩ := hrel
              obtain ⟨wk, rfl⟩ : ∃ wo : World, wo = wr := ⟨_, rfl⟩
              clear G2 K2 HM B2
              obtain ⟨M3, hM⟩ : ∃ M, M = most0 (((trk3 N s ++ trk2 s i) ++ trk s i k).map (exT l)) 0 := ⟨_, rfl⟩
              rw [← hM]
              have HM := Lib.hid hM
              clear hM
              by_cases hkn : k < i
              · have hkn2 : (k : Int) < (i : Int) := by omega
                have htk : trk s i (k + 1) = trk s i k ++ (if (!nbit s i && !nbit s k) then [(s, i, k)] else []) := rfl
                have HTK := Lib.hid htk
                have hbi := bit_is (s : Int) i (by omega) (by omega)
                have hbk := bit_is (s : Int) k (by omega) (by omega)
                have hni := ibit_zero'' s i
                have hnk := ibit_zero'' s k
                obtain ⟨y, hy⟩ : ∃ y, y = ibit (s : Int) i := ⟨_, rfl⟩
                obtain ⟨z, hz⟩ : ∃ y, y = ibit (s : Int) k := ⟨_, rfl⟩
                rw [← hy] at hbi hni
                rw [← hz] at hbk hnk
                clear hy hz htk
                cases h1 : nbit s i with
                | true =>
                  have hy1 : (y == 0) = false := by rw [hni, h1]; rfl
                  have H1 := Lib.hid h1
                  clear h1 hni hnk
                  go_wp2
                  go_roundw
                  case rel => exact ⟨k + 1, by omega, by go_num, by rw [HTK.out, H1.out, HM.out]; simp, B3⟩
                  case measure => simp [intOf]; omega
                | false =>
                  have hy1 : (y == 0) = true := by rw [hni, h1]; rfl
                  cases h2 : nbit s k with
                  | true =>
                    have hz1 : (z == 0) = false := by rw [hnk, h2]; rfl
                    have H2 := Lib.hid h2
                    clear h1 h2 hni hnk
                    go_wp2
                    go_roundw
                    case rel => exact ⟨k + 1, by omega, by go_num, by rw [HTK.out, H2.out, HM.out]; simp, B3⟩
                    case measure => simp [intOf]; omega
                  | false =>
                    have hz1 : (z == 0) = true := by rw [hnk, h2]; rfl
                    have hnx : most0 (((trk3 N s ++ trk2 s i) ++ trk s i (k + 1)).map (exT l)) 0 = max M3 (exL l s i k) := by
                      rw [HTK.out, h1, h2, HM.out, ← List.append_assoc, List.map_append]
                      exact most0_snoc _ _ _
                    have hl := HL2.out
                    have hlb := HLB.out
                    have hc := cells_below HC.out hb B3 (Nat.le_refl _)
                    have hix := HIX.out
                    have hn := hN5
                    have hs : s < 2 ^ N := by rw [← hl]; exact hsl
                    have hi := hin
                    have hk : k < N := by omega
                    have h1 := setBit_lt s i N hs hi
                    have h2 := setBit_lt s k N hs hk
                    have h3 := setBit_lt (setBit s i) k N h1 hk
                    rw [← setBit_or] at h3
                    have p5 : (2 : Nat) ^ N ≤ 32 := Nat.pow_le_pow_right (n := 2) (by decide) hn
                    rw [← hl] at h1 h2 h3 hs p5
                    have c0 := hc s hs
                    have c1 := hc _ h1
                    have c2 := hc _ h2
                    have c3 := hc _ h3
                    have i0 := fun W => hix W s hs
                    have i1 := fun W => hix W _ h1
                    have i2 := fun W => hix W _ h2
                    have i3 := fun W => hix W _ h3
                    have b0 := hlb s hs
                    have b1 := hlb _ h1
                    have b2 := hlb _ h2
                    have b3 := hlb _ h3
                    have hex : exL l s i k = l[setBit s i ||| setBit s k] + l[s] - l[setBit s i] - l[setBit s k] := by
                      unfold exL
                      rw [getD_at l _ h3, getD_at l _ hs, getD_at l _ h1, getD_at l _ h2]
                    have q1 := setBit_is s i (by omega) (by omega)
                    have q2 := setBit_is s k (by omega) (by omega)
                    have q3 := bitsO (setBit s i) (setBit s k) (by omega) (by omega)
                    have q4 := setBit_is (setBit s i) k (by omega) (by omega)
                    rw [← setBit_or] at q4
                    obtain ⟨u1, hu1⟩ : ∃ u, u = setBit s i := ⟨_, rfl⟩
                    obtain ⟨u2, hu2⟩ : ∃ u, u = setBit s k := ⟨_, rfl⟩
                    simp only [← hu1, ← hu2] at c1 c2 c3 i1 i2 i3 b1 b2 b3 hex q1 q2 q3 q4 h1 h2 h3
                    obtain ⟨u3, hu3⟩ : ∃ u, u = u1 ||| u2 := ⟨_, rfl⟩
                    simp only [← hu3] at c3 i3 b3 hex q3 q4 h3
                    obtain ⟨x0, hx0⟩ : ∃ x, x = l[s] := ⟨_, rfl⟩
                    obtain ⟨x1, hx1⟩ : ∃ x, x = l[u1] := ⟨_, rfl⟩
                    obtain ⟨x2, hx2⟩ : ∃ x, x = l[u2] := ⟨_, rfl⟩
                    obtain ⟨x3, hx3⟩ : ∃ x, x = l[u3] := ⟨_, rfl⟩
                    rw [← hx0] at c0 b0 hex
                    rw [← hx1] at c1 b1 hex
                    rw [← hx2] at c2 b2 hex
                    rw [← hx3] at c3 b3 hex
                    have pi := two_pow i 6 (by omega)
                    have pk := two_pow k 6 (by omega)
                    have pi1 : (2 : Int) ^ i ≤ 64 := by simpa using pi.1
                    have pk1 : (2 : Int) ^ k ≤ 64 := by simpa using pk.1
                    have pi2 := pi.2
                    have pk2 := pk.2
                    have wi : IntKind.i64.wrap ((2 : Int) ^ i) = 2 ^ i := by rw [IntKind.wrap_i64]; omega
                    have wk : IntKind.i64.wrap ((2 : Int) ^ k) = 2 ^ k := by rw [IntKind.wrap_i64]; omega
                    have w1' : IntKind.i64.wrap (x3 + x0) = x3 + x0 := by rw [IntKind.wrap_i64]; omega
                    have w2' : IntKind.i64.wrap (x3 + x0 - x1) = x3 + x0 - x1 := by rw [IntKind.wrap_i64]; omega
                    have w3' : IntKind.i64.wrap (x3 + x0 - x1 - x2) = x3 + x0 - x1 - x2 := by rw [IntKind.wrap_i64]; omega
                    have z0 : (0 : Int) ≤ (s : Int) := by omega
                    rw [hex] at hnx
                    have HNX := Lib.hid hnx
                    clear hix hlb hex hu1 hu2 hu3 hx0 hx1 hx2 hx3 pi pk q3 hc hl hnx h1 h2 hni hnk
                    go_wp2_with fail
                    go_quiet (fail)
                    go_wp2
                    go_roundw
                    case rel => exact ⟨k + 1, by omega, by go_num, by rw [HNX.out], B3.drewN' _⟩
                    case measure => simp [intOf]; omega
              · have hkn2 : ¬ (k : Int) < (i : Int) := by omega
                have hki : k = i := by omega
                subst hki
                go_wp2
                go_roundw
                case rel => exact ⟨k + 1, by omega, by go_num, by rw [show trk2 s (k + 1) = trk2 s k ++ trk s k k from rfl, ← List.append_assoc, HM.out], B3⟩
                case measure => simp [intOf]; omega
          · have hin2 : ¬ (i : Int) < (N : Int) := by omega
            have hiN : i = N := by omega
            subst hiN
            go_wp2
            go_roundw
            case rel => exact ⟨s + 1, by omega, by go_num, by rw [show trk3 i (s + 1) = trk3 i s ++ trk2 s i from rfl, HM.out], B2⟩
            case measure => simp [intOf]; omega
      · have hsl2 : ¬ (s : Int) < (l.length : Int) := by omega
        have hsN : s = l.length := by omega
        have hMg : M = gapN (N : Int) l := by rw [HG.out, HM.out, hsN]
        have HMG := Lib.hid hMg
        clear hsN hMg
        go_wp2
        go_ret2
        exact ⟨by rw [HMG.out]; rfl, B1.after B B1.size⟩
end Go.Proofs.YtpaoiiiceekkkaaDoor
end
