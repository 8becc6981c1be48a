/- Violations: the second program. Minimum cuts: the second program. -/
import Derived.Test.YtelmokapdkepbaaGreatQ12
section
namespace Go.Proofs.YtelmokapdkepbaaGreat
open Go.RowKit Go.G5


set_option maxHeartbeats 2000000 in
set_option maxRecDepth 100000 in
theorem l3Bad_any (n : Nat) (hn : n ≤ 5) (l : List Int) (v : Value) (w : World) (hv : Ints w v l) (hl : l.length = 2 ^ n) (hlb : ∀ k, (hk : k < l.length) → -1000 ≤ l[k] ∧ l[k] ≤ 1000) (s i k : Nat) (hs : s < 2 ^ n) (hi : i < n) (hk : k < n) :
    Calls Tryz.prog 18 #[v, .int .i64 s, .int .i64 i, .int .i64 k] w fun e w' => e = .returned (.bool (badB l (s, i, k))) ∧ Below w.heap.size w w' := by
  obtain ⟨a, b, off, c, rfl, hlen, hix, hc, hb⟩ := hv.view Tryz.prog 22 3 Tryz.underlying22 intElem
  have h1 := setBit_lt s i n hs hi
  have h2 := setBit_lt s k n hs hk
  have h3 := setBit_lt (setBit s i) k n h1 hk
  rw [← setBit_or] at h3
  have p5 : (2 : Nat) ^ n ≤ 32 := Nat.pow_le_pow_right (n := 2) (by decide) hn
  rw [← hl] at h1 h2 h3 hs p5
  have c0 := hc s hs
  have c1 := hc _ h1
  have c2 := hc _ h2
  have c3 := hc _ h3
  have i0 := fun W => hix W s hs
  have i1 := fun W => hix W _ h1
  have i2 := fun W => hix W _ h2
  have i3 := fun W => hix W _ h3
  have b0 := hlb s hs
  have b1 := hlb _ h1
  have b2 := hlb _ h2
  have b3 := hlb _ h3
  have hex : exL l s i k = l[setBit s i ||| setBit s k] + l[s] - l[setBit s i] - l[setBit s k] := by
    unfold exL
    rw [getD_at l _ h3, getD_at l _ hs, getD_at l _ h1, getD_at l _ h2]
  have q1 := setBit_is s i (by omega) (by omega)
  have q2 := setBit_is s k (by omega) (by omega)
  have q3 := bitsO (setBit s i) (setBit s k) (by omega) (by omega)
  have q4 := setBit_is (setBit s i) k (by omega) (by omega)
  rw [← setBit_or] at q4
  obtain ⟨u1, hu1⟩ : ∃ u, u = setBit s i := ⟨_, rfl⟩
  obtain ⟨u2, hu2⟩ : ∃ u, u = setBit s k := ⟨_, rfl⟩
  simp only [← hu1, ← hu2] at c1 c2 c3 i1 i2 i3 b1 b2 b3 hex q1 q2 q3 q4 h1 h2 h3
  obtain ⟨u3, hu3⟩ : ∃ u, u = u1 ||| u2 := ⟨_, rfl⟩
  simp only [← hu3] at c3 i3 b3 hex q3 q4 h3
  obtain ⟨x0, hx0⟩ : ∃ x, x = l[s] := ⟨_, rfl⟩
  obtain ⟨x1, hx1⟩ : ∃ x, x = l[u1] := ⟨_, rfl⟩
  obtain ⟨x2, hx2⟩ : ∃ x, x = l[u2] := ⟨_, rfl⟩
  obtain ⟨x3, hx3⟩ : ∃ x, x = l[u3] := ⟨_, rfl⟩
  rw [← hx0] at c0 b0 hex
  rw [← hx1] at c1 b1 hex
  rw [← hx2] at c2 b2 hex
  rw [← hx3] at c3 b3 hex
  have pi := two_pow i 6 (by omega)
  have pk := two_pow k 6 (by omega)
  have pi1 : (2 : Int) ^ i ≤ 64 := by simpa using pi.1
  have pk1 : (2 : Int) ^ k ≤ 64 := by simpa using pk.1
  have pi2 := pi.2
  have pk2 := pk.2
  have wi : IntKind.i64.wrap ((2 : Int) ^ i) = 2 ^ i := by rw [IntKind.wrap_i64]; omega
  have wk : IntKind.i64.wrap ((2 : Int) ^ k) = 2 ^ k := by rw [IntKind.wrap_i64]; omega
  have w1 : IntKind.i64.wrap (x3 + x0) = x3 + x0 := by rw [IntKind.wrap_i64]; omega
  have w2 : IntKind.i64.wrap (x1 + x2) = x1 + x2 := by rw [IntKind.wrap_i64]; omega
  have hbad : badB l (s, i, k) = decide (x1 + x2 < x3 + x0) := by
    unfold badB
    simp only [hex]
    by_cases h : x1 + x2 < x3 + x0
    · rw [decide_eq_true h, decide_eq_true (by omega)]
    · rw [decide_eq_false h, decide_eq_false (by omega)]
  have HB := Lib.hid hbad
  have z0 : (0 : Int) ≤ (s : Int) := by omega
  clear hix hb hlb hex hu1 hu2 hu3 hx0 hx1 hx2 hx3 pi pk q3 hc hl hbad
  go_enter Tryz.func18, Tryz.ntmps18
  go_wp2_with fail
  go_quiet (fail)
  go_wp2
  go_ret
  exact ⟨ret_bool HB.out.symm, (Below.refl _ _).drewN' _⟩
theorem ibit_zero'' (c s : Nat) : (ibit (c : Int) s == 0) = !nbit c s := by
  have h := nbit_is c s
  have h2 : ibit (c : Int) s = 0 ∨ ibit (c : Int) s = 1 := by
    unfold ibit
    omega
  rcases h2 with h2 | h2
  · rw [h2] at h ⊢; rw [← h]; rfl
  · rw [h2] at h ⊢; rw [← h]; rfl
theorem OwnI.lit3' {E : TypeId} {B : Nat} (w : World) (hB : B ≤ w.heap.size) (x y z : Int) (hx : InR x) (hy : InR y) (hz : InR z) : OwnI E B (w.alloc (.cells #[.int .i64 x, .int .i64 y, .int .i64 z] E)) (.slice (some ⟨w.heap.size, 0, none⟩) 3 3) [x, y, z] :=
  ⟨World.ownsRow_lit w #[.int .i64 x, .int .i64 y, .int .i64 z] 3 hB (by decide) rfl, by
    intro q hq
    simp only [List.mem_cons, List.not_mem_nil, or_false] at hq
    rcases hq with rfl | rfl | rfl <;> assumption⟩

set_option maxHeartbeats 4000000 in
set_option maxRecDepth 100000 in
theorem violS_c (w : World) (n : Int) (v : Value) (l : List Int) (hv : Ints w v l) (_ : l.length ≤ 1048576) :
    Calls Tryz.prog 79 #[.agg #[.int .i64 n, v]] w fun e w' => ∃ ad i cp, e = .returned (.tuple #[.slice ad i cp, .bool (violB n l)]) ∧ OwnW 3 w.heap.size w' (.slice ad i cp) (violL n l) ∧ Below w.heap.size w w' := by
  have hv0 := hv
  obtain ⟨a, c, rfl⟩ := hv.shape
  have K0 := Blk.new w 31 #[.int .i64 n, .slice a l.length c]
  cases hf : isFunB n l with
  | false =>
    have hr : violR n l = none := by unfold violR; rw [hf]; rfl
    have hB : violB n l = false := by unfold violB; rw [hr]; rfl
    have hL : violL n l = [] := by unfold violL; rw [hr]; rfl
    have H := Lib.hid (And.intro hB hL)
    have HF := Lib.hid hf
    clear hr hB hL hf
    go_enter Tryz.func79, Tryz.ntmps79
    go_wp2_with fail
    go_loopw [4] (fun i wr => i = .int .i64 0 ∧ Below w.heap.size w wr ∧ Blk wr w.heap.size 31 #[.int .i64 n, .slice a l.length c]) (fun _ _ => 0)
    case atStart => exact ⟨rfl, bl1 _ _, K0⟩
    case round =>
      obtain ⟨rfl, B, K⟩ := hrel
      have G1 := K.cell
      go_wp2_with (go_at_call 16; refine (isFunS_any n l _ _ (hv0.below B (Nat.le_refl _))).mono ?_; rintro e w1 ⟨rfl, hb1⟩; rw [HF.out])
      have B1 := B.after hb1 B.size
      go_ret2
      exact ⟨_, 0, 0, by rw [H.out.1]; rfl, by rw [H.out.2]; exact ((OwnI.lit0 w1 (Nat.le_refl _)).mono B1.size).toW, B1.alloc B1.size _⟩
  | true =>
    obtain ⟨h0, h5, hlen, hlb⟩ := funOk hf
    obtain ⟨N, rfl⟩ := Int.eq_ofNat_of_zero_le h0
    have hN5 : N ≤ 5 := by omega
    have hl2 : l.length = 2 ^ N := by
      have e2 : (N : Int).toNat = N := by omega
      rw [e2] at hlen
      exact_mod_cast hlen
    have hp5 : (2 : Nat) ^ N ≤ 32 := Nat.pow_le_pow_right (n := 2) (by decide) hN5
    have hl32 : l.length ≤ 32 := by omega
    have hr : violR N l = (runT (vstep l) (tri3 N l.length) none).1 := by unfold violR violT; rw [hf, if_pos rfl]; simp only [Int.toNat_natCast]; rw [hl2]
    have HR := Lib.hid hr
    have HF := Lib.hid hf
    have HLB := Lib.hid hlb
    have HL2 := Lib.hid hl2
    clear hr hf hlen hlb hl2 hp5
    go_enter Tryz.func79, Tryz.ntmps79
    go_wp2_with fail
    go_loopw [4] (fun i wr => ∃ s : Nat, s ≤ l.length ∧ i = .int .i64 s ∧ runT (vstep l) (tri3 N s) none = (none, true) ∧ Below w.heap.size w wr ∧ Blk wr w.heap.size 31 #[.int .i64 N, .slice a l.length c]) (fun i _ => l.length - (intOf i).toNat)
    case atStart => exact ⟨0, Nat.zero_le _, rfl, rfl, bl1 _ _, K0⟩
    case round =>
      obtain ⟨s, hs, rfl, hrun, B, K⟩ := hrel
      obtain ⟨wo, rfl⟩ : ∃ wo : World, wo = wr := ⟨_, rfl⟩
      have HR1 := Lib.hid hrun
      clear hrun K0
      have G1 := K.cell
      go_wp2_with fail
      refine (isFunS_any N l _ _ (hv0.below B (Nat.le_refl _))).mono ?_
      rintro e w1 ⟨rfl, hb1⟩
      rw [HF.out]
      have K := K.keep hb1
      have B1 := B.after hb1 B.size
      clear G1 hb1 B
      have G1 := K.cell
      by_cases hsl : s < l.length
      · go_wp2_with fail
        go_loopw [5] (fun i wr => ∃ k : Nat, k ≤ N ∧ i = .int .i64 k ∧ runT (vstep l) (tri3 N s ++ tri2 N s k) none = (none, true) ∧ Below w.heap.size w wr ∧ Blk wr w.heap.size 31 #[.int .i64 N, .slice a l.length c]) (fun i _ => N - (intOf i).toNat)
        case atStart => exact ⟨0, Nat.zero_le _, rfl, by rw [show tri2 N s 0 = [] from rfl, List.append_nil]; exact HR1.out, B1, K⟩
        case round =>
          obtain ⟨i, hi, rfl, hrun, B2, K⟩ := hrel
          obtain ⟨wi, rfl⟩ : ∃ wo : World, wo = wr := ⟨_, rfl⟩
          have HR2 := Lib.hid hrun
          clear hrun G1
          have G1 := K.cell
          by_cases hin : i < N
          · have hst := tri_start s i (i + 1) (Nat.le_refl _)
            have HST := Lib.hid hst
            clear hst
            go_wp2_with fail
            go_loopw [6] (fun i' wr => ∃ k : Nat, i < k ∧ k ≤ N ∧ i' = .int .i64 k ∧ runT (vstep l) ((tri3 N s ++ tri2 N s i) ++ tri s i k) none = (none, true) ∧ Below w.heap.size w wr ∧ Blk wr w.heap.size 31 #[.int .i64 N, .slice a l.length c]) (fun i' _ => N - (intOf i').toNat)
            case atStart => exact ⟨i + 1, by omega, by omega, by go_num, by rw [HST.out, List.append_nil]; exact HR2.out, B2, K⟩
            case round =>
              obtain ⟨k, hik, hk, rfl, hrun, B3, K⟩ := hrel
              obtain ⟨wk, rfl⟩ : ∃ wo : World, wo = wr := ⟨_, rfl⟩
              have HR3 := Lib.hid hrun
              clear hrun G1
              have G1 := K.cell
              by_cases hkn : k < N
              · have hbi := bit_is (s : Int) i (by omega) (by omega)
                have hbk := bit_is (s : Int) k (by omega) (by omega)
                have hni := ibit_zero'' s i
                have hnk := ibit_zero'' s k
                obtain ⟨y, hy⟩ : ∃ y, y = ibit (s : Int) i := ⟨_, rfl⟩
                obtain ⟨z, hz⟩ : ∃ y, y = ibit (s : Int) k := ⟨_, rfl⟩
                rw [← hy] at hbi hni
                rw [← hz] at hbk hnk
                have htk : tri s i (k + 1) = tri s i k ++ (if (decide (i < k) && (!nbit s i && !nbit s k)) then [(s, i, k)] else []) := rfl
                rw [decide_eq_true hik, Bool.true_and] at htk
                have HTK := Lib.hid htk
                clear hy hz htk
                cases h1 : nbit s i with
                | true =>
                  have hy1 : (y == 0) = false := by rw [hni, h1]; rfl
                  have H1 := Lib.hid h1
                  clear h1 hni hnk
                  go_wp2
                  go_roundw
                  case rel => exact ⟨k + 1, by omega, by omega, by go_num, by rw [HTK.out, H1.out]; simpa using HR3.out, B3, K⟩
                  case measure => simp [intOf]; omega
                | false =>
                  have hy1 : (y == 0) = true := by rw [hni, h1]; rfl
                  cases h2 : nbit s k with
                  | true =>
                    have hz1 : (z == 0) = false := by rw [hnk, h2]; rfl
                    have H2 := Lib.hid h2
                    clear h1 h2 hni hnk
                    go_wp2
                    go_roundw
                    case rel => exact ⟨k + 1, by omega, by omega, by go_num, by rw [HTK.out, H2.out]; simpa using HR3.out, B3, K⟩
                    case measure => simp [intOf]; omega
                  | false =>
                    have hz1 : (z == 0) = true := by rw [hnk, h2]; rfl
                    have htk2 : tri s i (k + 1) = tri s i k ++ [(s, i, k)] := by rw [HTK.out, h1, h2]; rfl
                    have hbadc := l3Bad_any N hN5 l _ wk (hv0.below B3 (Nat.le_refl _)) HL2.out HLB.out s i k (by rw [← HL2.out]; exact hsl) (by omega) hkn
                    have hone : runT (vstep l) (((tri3 N s ++ tri2 N s i) ++ tri s i k) ++ [(s, i, k)]) none = vstep l none (s, i, k) := by rw [runT_go HR3.out, runT_one]
                    have HBC := Lib.hid hbadc
                    have HONE := Lib.hid hone
                    have HT2 := Lib.hid htk2
                    clear h1 h2 hni hnk hbadc hone htk2
                    cases hb : badB l (s, i, k) with
                    | false =>
                      have hst : vstep l none (s, i, k) = (none, true) := by unfold vstep; rw [hb]; rfl
                      have HSTP := Lib.hid hst
                      have HB := Lib.hid hb
                      clear hst hb
                      go_wp2_with (go_at_call 18; refine HBC.out.mono ?_; rintro e w4 ⟨rfl, hb4⟩; rw [HB.out])
                      go_roundw
                      case rel => exact ⟨k + 1, by omega, by omega, by go_num, by rw [HT2.out, ← List.append_assoc, HONE.out, HSTP.out], B3.after hb4 B3.size, K.keep hb4⟩
                      case measure => simp [intOf]; omega
                    | true =>
                      have hst : vstep l none (s, i, k) = (some (s, i, k), false) := by unfold vstep; rw [hb]; rfl
                      have hv2 : violR N l = some (s, i, k) := by
                        obtain ⟨r, hr⟩ := tri_front N l.length s i (k + 1) hsl hin hkn
                        rw [HR.out, hr, HT2.out, ← List.append_assoc, runT_stop (HONE.out.trans hst)]
                      have hB : violB N l = true := by unfold violB; rw [hv2]; rfl
                      have hL : violL N l = [(s : Int), (i : Int), (k : Int)] := by unfold violL; rw [hv2]; rfl
                      have H := Lib.hid (And.intro hB hL)
                      have HB := Lib.hid hb
                      clear hst hb hv2 hB hL
                      go_wp2_with (go_at_call 18; refine HBC.out.mono ?_; rintro e w4 ⟨rfl, hb4⟩; rw [HB.out])
                      have B4 := B3.after hb4 B3.size
                      go_ret2
                      exact ⟨_, 3, 3, by rw [H.out.1]; rfl, by rw [H.out.2]; exact (OwnI.lit3' w4 B4.size s i k ⟨by omega, by omega⟩ ⟨by omega, by omega⟩ ⟨by omega, by omega⟩).toW, B4.alloc B4.size _⟩
              · have hkn' : k = N := by omega
                subst hkn'
                go_wp2
                go_roundw
                case rel => exact ⟨i + 1, by omega, by go_num, by rw [show tri2 k s (i + 1) = tri2 k s i ++ tri s i k from rfl, ← List.append_assoc]; exact HR3.out, B3, K⟩
                case measure => simp [intOf]; omega
          · have hin' : i = N := by omega
            subst hin'
            go_wp2
            go_roundw
            case rel => exact ⟨s + 1, by omega, by go_num, HR2.out, B2, K⟩
            case measure => simp [intOf]; omega
      · have hsl' : s = l.length := by omega
        subst hsl'
        have hv2 : violR N l = none := by rw [HR.out, HR1.out]
        have hB : violB N l = false := by unfold violB; rw [hv2]; rfl
        have hL : violL N l = [] := by unfold violL; rw [hv2]; rfl
        have H := Lib.hid (And.intro hB hL)
        clear hv2 hB hL
        go_wp2
        go_ret2
        exact ⟨_, 0, 0, by rw [H.out.1]; rfl, by rw [H.out.2]; exact ((OwnI.lit0 w1 (Nat.le_refl _)).mono B1.size).toW, B1.alloc B1.size _⟩

set_option maxHeartbeats 1000000 in
theorem isSubS_any (n : Int) (l : List Int) (v : Value) (w : World) (hv : Ints w v l) (hl : l.length ≤ 1048576) :
    Calls Tryz.prog 47 #[.agg #[.int .i64 n, v]] w fun e w' => e = .returned (.bool (subB n l)) ∧ Below w.heap.size w w' := by
  have hv0 := hv
  obtain ⟨a, c, rfl⟩ := hv.shape
  have K0 := Blk.new w 31 #[.int .i64 n, .slice a l.length c]
  go_enter Tryz.func47, Tryz.ntmps47
  go_wp2_with fail
  refine (violS_c _ n _ l (hv0.alloc _) hl).mono ?_
  rintro e w1 ⟨p1, i1, q1, rfl, o1, hb1⟩
  have K1 := K0.keep hb1
  have B1 : Below w.heap.size w w1 := (bl1 _ _).after hb1 (by simp)
  have G1 := K1.cell
  go_wp2_with fail
  refine (isFunS_any n l _ _ (hv0.below B1 (Nat.le_refl _))).mono ?_
  rintro e w2 ⟨rfl, hb2⟩
  have B2 := B1.after hb2 B1.size
  cases hf : isFunB n l with
  | false =>
    have hx : subB n l = false := by unfold subB; rw [hf]; rfl
    have HX := Lib.hid hx
    clear hx hf
    go_wp2
    go_ret
    exact ⟨by rw [HX.out]; rfl, B2⟩
  | true =>
    have hx : subB n l = !violB n l := by unfold subB; rw [hf]; rfl
    have HX := Lib.hid hx
    clear hx hf
    go_wp2
    go_ret
    exact ⟨by rw [HX.out]; rfl, B2⟩
end Go.Proofs.YtelmokapdkepbaaGreat
end
section
namespace Go.Proofs.YtelmokapdkepbaaGreat
open Go.RowKit Go.G5

set_option maxHeartbeats 2000000 in
set_option maxRecDepth 100000 in
theorem oppS_c (w : World) (n : Int) (v : Value) (l : List Int) (hv : Ints w v l) (_ : l.length ≤ 1048576) :
    Calls Tryz.prog 105 #[.agg #[.int .i64 n, v]] w fun e w' => ∃ ad i cp, e = .returned (.tuple #[.agg #[.int .i64 (opN n l), .slice ad i cp], .bool (isFunB n l)]) ∧ OwnI 3 w.heap.size w' (.slice ad i cp) (opL n l) ∧ Below w.heap.size w w' := by
  obtain ⟨a, b, off, c, rfl, hlen, hix, hc, hb⟩ := hv.view Tryz.prog 22 3 Tryz.underlying22 intElem
  go_enter Tryz.func105, Tryz.ntmps105
  go_wp2_with fail
  refine calls_named ?_
  intro V hV
  have B : Below w.heap.size w V := by rw [hV]; exact bl2 _ _ _
  have K1 : Blk V w.heap.size 31 #[.int .i64 n, .slice a l.length c] := by rw [hV]; exact (Blk.new _ _ _).alloc _
  have K2 : Blk V (w.heap.size + 1) 31 #[.int .i64 0, .slice none 0 0] := by rw [hV]; have := Blk.new (w.alloc (.cells #[.int .i64 n, .slice a l.length c] 31)) 31 #[.int .i64 0, .slice none 0 0]; simpa using this
  clear hV
  refine (isFunS_any n l _ _ (hv.below B (Nat.le_refl _))).mono ?_
  rintro e w1 ⟨rfl, hb1⟩
  have K1 := K1.keep hb1
  have K2 := K2.keep hb1
  have B1 := B.after hb1 B.size
  have hv1 := hv.below B1 (Nat.le_refl _)
  clear B hb1
  have G1 := K1.cell
  have z1 := K1.lt
  have z2 := K2.lt
  cases hf : isFunB n l with
  | false =>
    have hN : opN n l = 0 := by unfold opN; rw [hf]; rfl
    have hL : opL n l = [] := by unfold opL; rw [hf]; rfl
    have HN := Lib.hid hN
    have HL := Lib.hid hL
    have HF := Lib.hid hf
    have G2 := K2.cell
    have F2 := K2.frozen
    clear hN hL
    go_wp2
    refine post_named ?_
    intro Wf hWf
    have K2f : Blk Wf (w.heap.size + 1) 31 #[.int .i64 0, .slice none 0 0] := by
      rw [hWf]
      have := (K2.set 0 (.int .i64 0)).set 1 (.slice none 0 0)
      simpa using this
    have Bf : Below w.heap.size w Wf := by rw [hWf]; exact Below.setCell (Below.setCell B1 (by first | omega | (simp; done) | (simp; omega)) _) (by first | omega | (simp; done) | (simp; omega)) _
    have Gf := K2f.cell
    clear hWf G1 G2 F2
    exact bodyPost_ret (v := .tuple #[.agg #[.int .i64 0, .slice none 0 0], .bool false]) (by simp [results, Tryz.results105, go_sem, Gf]) rfl ⟨none, 0, 0, by rw [HN.out, HF.out], by rw [HL.out]; exact OwnI.nil _ _ _, Bf⟩
  | true =>
    obtain ⟨h0, h5, hlen2, hlb⟩ := funOk hf
    have hl32 : l.length ≤ 32 := by
      have hp := (pow_le32 h0 h5).1
      omega
    have hN : opN n l = n := by unfold opN; rw [hf]; rfl
    have hL : opL n l = madeL (oppF l) l.length := by unfold opL; rw [hf]; rfl
    have HN := Lib.hid hN
    have HL := Lib.hid hL
    have HF := Lib.hid hf
    have HLB := Lib.hid hlb
    have o0 := OwnI.lit0 (E := 3) (B := w1.heap.size) w1 (Nat.le_refl _)
    clear hN hL hf hlen2 hlb
    go_wp2_with fail
    go_loopw [4, 5] (fun out i wr => ∃ (k : Nat) (ad : Option Addr) (nn cp : Nat), k ≤ l.length ∧ out = .slice ad nn cp ∧ i = .int .i64 k ∧ OwnI 3 w1.heap.size wr (.slice ad nn cp) (madeL (oppF l) k) ∧ Below w1.heap.size w1 wr)
      (fun _ i _ => l.length - (intOf i).toNat)
    case atStart => exact ⟨0, _, _, _, Nat.zero_le _, rfl, rfl, o0, bl1 _ _⟩
    case round =>
      obtain ⟨k, ad, nn, cp, hk, rfl, rfl, ho, B⟩ := hrel
      have HO := Lib.hid ho
      have Kr := K1.keep B
      clear ho o0 G1
      have G1 := Kr.cell
      have yB := B.size
      by_cases hlt : k < l.length
      · have hms := madeL_succ (oppF l) k
        have hof := oppF_at l k hlt
        have ck := cells_below hc hb (B1.after B B1.size) (Nat.le_refl _) (l.length - 1 - k) (by omega)
        have ik := fun W => hix W (l.length - 1 - k) (by omega)
        have hbd := HLB.out (l.length - 1 - k) (by omega)
        have hw1 : IntKind.i64.wrap ((l.length : Int) - 1) = (l.length : Int) - 1 := by rw [IntKind.wrap_i64]; omega
        have hw2 : IntKind.i64.wrap ((l.length : Int) - 1 - k) = ((l.length - 1 - k : Nat) : Int) := by rw [IntKind.wrap_i64]; omega
        rw [← hof] at ck hbd
        obtain ⟨x, hx⟩ : ∃ x, x = oppF l k := ⟨_, rfl⟩
        rw [← hx] at ck hbd hms
        have hml : (madeL (oppF l) k).length ≤ 32 := by unfold madeL; simp; omega
        have HMS := Lib.hid hms
        have hx0 := hbd.1
        have hx1 := hbd.2
        clear hms hof hx hbd
        go_wp2_with (at_builtin; refine wpList_appendN1 rfl _ _ _ rfl 3 Tryz.underlying22 intElem w1.heap.size _ _ x wr.heap.size rfl rfl (cell_new wr #[.int .i64 x] 3 0 _ rfl) (HO.out.alloc _) ⟨by omega, by omega⟩ (by omega) (by simp; omega) ?_; intro v' w6 hown hgr hnb; obtain ⟨av, nv, cv, rfl⟩ := hown.shape3)
        have B6 : Below w1.heap.size w1 w6 := (B.alloc B.size (.cells #[.int .i64 x] 3)).grown hgr (by simp; omega) (fun q hq => (HO.out.lt q hq).1)
        go_roundw
        case rel => exact ⟨k + 1, av, nv, cv, by omega, rfl, by go_num, by rw [HMS.out]; exact hown, B6⟩
        case measure => simp [intOf]; omega
      · have hkl : k = l.length := by omega
        subst hkl
        have K2 := K2.keep B
        have B7 := B1.after B B1.size
        have G2 := K2.cell
        have F2 := K2.frozen
        have z2f := K2.lt
        go_wp2
        refine post_named ?_
        intro Wf hWf
        have K2f : Blk Wf (w.heap.size + 1) 31 #[.int .i64 n, .slice ad nn cp] := by
          rw [hWf]
          have := (K2.set 0 (.int .i64 n)).set 1 (.slice ad nn cp)
          simpa using this
        have Bf : Below w.heap.size w Wf := by rw [hWf]; exact Below.setCell (Below.setCell B7 (by first | omega | (simp; done) | (simp; omega)) _) (by first | omega | (simp; done) | (simp; omega)) _
        have of : OwnI 3 w.heap.size Wf (.slice ad nn cp) (madeL (oppF l) l.length) := by rw [hWf]; exact ((HO.out.setBelow (by first | omega | (simp; done) | (simp; omega)) _).setBelow (by first | omega | (simp; done) | (simp; omega)) _).mono (by first | omega | (simp; done) | (simp; omega))
        have Gf := K2f.cell
        clear hWf G1 G2 F2
        exact bodyPost_ret (v := .tuple #[.agg #[.int .i64 n, .slice ad nn cp], .bool true]) (by simp [results, Tryz.results105, go_sem, Gf]) rfl ⟨ad, nn, cp, by rw [HN.out, HF.out], by rw [HL.out]; exact of, Bf⟩

set_option maxHeartbeats 1000000 in
set_option maxRecDepth 100000 in
theorem symS_any (n : Int) (l : List Int) (v : Value) (w : World) (hv : Ints w v l) (hl : l.length ≤ 1048576) :
    Calls Tryz.prog 84 #[.agg #[.int .i64 n, v]] w fun e w' => e = .returned (.bool (symB n l)) ∧ Below w.heap.size w w' := by
  obtain ⟨a, c, rfl⟩ := hv.shape
  have K0 := Blk.new w 31 #[.int .i64 n, .slice a l.length c]
  go_enter Tryz.func84, Tryz.ntmps84
  go_wp2_with fail
  refine (oppS_c _ n _ l (hv.alloc _) hl).mono ?_
  rintro e w1 ⟨p1, i1, q1, rfl, o1, hb1⟩
  have K1 := K0.keep hb1
  have B1 : Below w.heap.size w w1 := (bl1 _ _).after hb1 (by simp)
  have y1 := B1.size
  have z1 := K1.lt
  cases hf : isFunB n l with
  | false =>
    have hx : symB n l = false := by unfold symB; rw [hf]; rfl
    have HX := Lib.hid hx
    clear hx hf
    go_wp2
    go_ret
    exact ⟨by rw [HX.out]; rfl, (by repeat (first | exact Below.refl _ _ | (with_reducible refine Below.setCell ?_ (by first | omega | (simp; done) | (simp; omega)) _) | (with_reducible refine Below.alloc ?_ (by first | omega | (simp; done) | (simp; omega)) _) | (with_reducible refine Below.drewN' ?_ _) | (with_reducible refine Below.drew ?_) | (with_reducible assumption) | refine Below.trans ?_ (Below.mono (by assumption) (by first | omega | (simp; done) | (simp; omega)))))⟩
  | true =>
    have hx : symB n l = decide (l = oppL l) := by unfold symB; rw [hf]; rfl
    have hL : opL n l = oppL l := by unfold opL; rw [hf]; rfl
    rw [hL] at o1
    have heq := fun W (h1 : Ints W (.slice a l.length c) l) (h2 : Ints W (.slice p1 i1 q1) (oppL l)) => l2Same_any _ _ l (oppL l) W h1 h2
    simp only [← hx] at heq
    have HEQ := Lib.hid heq
    obtain ⟨N, hN⟩ : ∃ N, N = opN n l := ⟨_, rfl⟩
    rw [← hN]
    have hv1 := hv.below B1 (Nat.le_refl _)
    clear hx hN hL heq hf
    have G1 := K1.cell
    go_wp2_with (go_at_call 106; refine (HEQ.out _ (hv1.alloc _) (o1.alloc _).ints).mono ?_; rintro e w2 ⟨rfl, nn, rfl⟩)
    go_ret
    exact ⟨rfl, (B1.alloc B1.size _).drewN' _⟩

set_option maxHeartbeats 1000000 in
theorem l14Fit_any (n : Int) (l : List Int) (v : Value) (w : World) (hv : Ints w v l) (hl : l.length ≤ 1048576) :
    Calls Tryz.prog 54 #[.agg #[.int .i64 n, v]] w fun e w' => e = .returned (.bool (fitB n l)) ∧ Below w.heap.size w w' := by
  obtain ⟨a, c, rfl⟩ := hv.shape
  have K0 := Blk.new w 31 #[.int .i64 n, .slice a l.length c]
  have G0 := K0.cell
  by_cases hn : 2 ≤ n
  · go_enter Tryz.func54, Tryz.ntmps54
    go_wp2_with fail
    refine (isSubS_any n l _ _ (hv.alloc _) hl).mono ?_
    rintro e w1 ⟨rfl, hb1⟩
    have K1 := K0.keep hb1
    have B1 : Below w.heap.size w w1 := (bl1 _ _).after hb1 (by simp)
    clear hb1 K0 G0
    cases hs : subB n l with
    | false =>
      have hx : fitB n l = false := by unfold fitB; rw [hs]; rfl
      have HX := Lib.hid hx
      clear hx hs
      go_wp2
      go_ret
      exact ⟨by rw [HX.out]; rfl, B1⟩
    | true =>
      have hx : fitB n l = symB n l := by unfold fitB; rw [hs, decide_eq_true hn]; simp
      have HX := Lib.hid hx
      clear hs hx
      have G1 := K1.cell
      go_wp2_with fail
      refine (symS_any n l _ _ (hv.below B1 (Nat.le_refl _)) hl).mono ?_
      rintro e w2 ⟨rfl, hb2⟩
      have B2 := B1.after hb2 B1.size
      go_wp2
      go_ret
      exact ⟨by rw [HX.out]; rfl, B2⟩
  · have hx : fitB n l = false := by unfold fitB; rw [decide_eq_false hn]; simp
    have HX := Lib.hid hx
    clear hx
    go_enter Tryz.func54, Tryz.ntmps54
    go_wp2
    go_ret
    exact ⟨by rw [HX.out]; rfl, bl1 _ _⟩

set_option maxHeartbeats 2000000 in
set_option maxRecDepth 100000 in
theorem minCutS_c (w : World) (n : Int) (v : Value) (l : List Int) (hv : Ints w v l) (hl : l.length ≤ 1048576) :
    Calls Tryz.prog 26 #[.agg #[.int .i64 n, v]] w fun e w' => e = .returned (.tuple #[.int .i64 (cutN n l), .int .i64 (cutS n l), .bool (fitB n l)]) ∧ Below w.heap.size w w' := by
  have hv0 := hv
  obtain ⟨a, b, off, c, rfl, hlen, hix, hc, hb⟩ := hv.view Tryz.prog 22 3 Tryz.underlying22 intElem
  have K0 := Blk.new w 31 #[.int .i64 n, .slice a l.length c]
  cases hf : fitB n l with
  | false =>
    have hN : cutN n l = 0 := by unfold cutN; rw [hf]; rfl
    have hS : cutS n l = 0 := by unfold cutS; rw [hf]; rfl
    have H := Lib.hid (And.intro hN hS)
    have HF := Lib.hid hf
    clear hN hS hf hc
    go_enter Tryz.func26, Tryz.ntmps26
    go_wp2_with (go_at_call 54; refine (l14Fit_any n l _ _ (hv0.alloc _) hl).mono ?_; rintro e w1 ⟨rfl, hb1⟩; rw [HF.out])
    go_ret3
    exact ⟨by rw [H.out.1, H.out.2]; rfl, (bl1 _ _).after hb1 (by simp)⟩
  | true =>
    obtain ⟨h4, h32, hpow, hn5, hlb⟩ := fit_size hf
    have hn0 : 0 ≤ n := by have := (fit_fun hf).2; omega
    have hN : cutN n l = l.getD (bestTo l (l.length - 1)) 0 := by unfold cutN; rw [hf]; rfl
    have hS : cutS n l = (bestTo l (l.length - 1) : Int) := by unfold cutS; rw [hf]; rfl
    have H := Lib.hid (And.intro hN hS)
    have HF := Lib.hid hf
    have HLB := Lib.hid hlb
    have HC := Lib.hid hc
    have HIX := Lib.hid hix
    have HPW := Lib.hid hpow
    clear hN hS hf hlb hc hix hpow
    go_enter Tryz.func26, Tryz.ntmps26
    go_wp2_with fail
    refine (l14Fit_any n l _ _ (hv0.alloc _) hl).mono ?_
    rintro e w1 ⟨rfl, hb1⟩
    rw [HF.out]
    have K1 := K0.keep hb1
    have B1 : Below w.heap.size w w1 := (bl1 _ _).after hb1 (by simp)
    clear K0 hb1
    go_wp2_with fail
    go_loopw [5, 6] (fun bst i wr => ∃ k : Nat, 2 ≤ k ∧ k ≤ l.length - 1 ∧ i = .int .i64 k ∧ bst = .int .i64 (bestTo l k : Int) ∧ Below w.heap.size w wr ∧ Blk wr w.heap.size 31 #[.int .i64 n, .slice a l.length c]) (fun _ i _ => l.length - (intOf i).toNat)
    case atStart => exact ⟨2, by omega, by omega, rfl, rfl, B1, K1⟩
    case round =>
      obtain ⟨k, hk2, hk, rfl, rfl, B, K⟩ := hrel
      have G1 := K.cell
      have hbk := bestTo_lt l k hk2
      obtain ⟨p, hp⟩ : ∃ p, p = bestTo l k := ⟨_, rfl⟩
      rw [← hp] at hbk ⊢
      have cp := HC.out p (by omega)
      have cp2 := cells_below HC.out hb B (Nat.le_refl _) p (by omega)
      have ip := fun W => HIX.out W p (by omega)
      by_cases hlt : k < l.length - 1
      · have hst := bestTo_succ l k hk2
        rw [← hp, getD_at l k (by omega), getD_at l p (by omega)] at hst
        have ck := cells_below HC.out hb B (Nat.le_refl _) k (by omega)
        have ik := fun W => HIX.out W k (by omega)
        obtain ⟨x, hx⟩ : ∃ x, x = l[k] := ⟨_, rfl⟩
        obtain ⟨y, hy⟩ : ∃ x, x = l[p] := ⟨_, rfl⟩
        rw [← hx] at ck hst
        rw [← hy] at cp2 hst
        have hlt2 : (k : Int) < 2 ^ n.toNat - 1 := by rw [← HPW.out]; omega
        have HST := Lib.hid hst
        clear hst hp hx hy cp
        have hwr : IntKind.i64.wrap ((l.length : Int) - 1) = (l.length : Int) - 1 := by rw [IntKind.wrap_i64]; omega
        have hlt3 : (k : Int) < (l.length : Int) - 1 := by omega
        have B3 := B
        have K3 := K
        by_cases hxy : x < y
        · have HS2 := Lib.hid (HST.out.trans (if_pos hxy))
          go_wp2_with fail
          go_quiet (fail)
          go_wp2
          go_roundw
          case rel => exact ⟨k + 1, by omega, by omega, by go_num, by rw [HS2.out], B3.drewN' _, K3.drewN _⟩
          case measure => simp [intOf]; omega
        · have HS2 := Lib.hid (HST.out.trans (if_neg hxy))
          go_wp2_with fail
          go_quiet (fail)
          go_wp2
          go_roundw
          case rel => exact ⟨k + 1, by omega, by omega, by go_num, by rw [HS2.out], B3.drewN' _, K3.drewN _⟩
          case measure => simp [intOf]; omega
      · have hkl : k = l.length - 1 := by omega
        have hlt2 : ¬ (k : Int) < 2 ^ n.toNat - 1 := by rw [← HPW.out]; omega
        have hg : l.getD p 0 = l[p] := getD_at l p (by omega)
        obtain ⟨y, hy⟩ : ∃ x, x = l[p] := ⟨_, rfl⟩
        rw [← hy] at cp2 hg
        have HP := Lib.hid hp
        have HG := Lib.hid hg
        have HKL := Lib.hid hkl
        clear hp hg hkl hy cp
        have hwr : IntKind.i64.wrap ((l.length : Int) - 1) = (l.length : Int) - 1 := by rw [IntKind.wrap_i64]; omega
        have hlt3 : ¬ (k : Int) < (l.length : Int) - 1 := by omega
        have B3 := B
        go_wp2
        go_ret3
        exact ⟨by rw [H.out.1, H.out.2, ← HKL.out, ← HP.out, HG.out]; rfl, B3⟩
end Go.Proofs.YtelmokapdkepbaaGreat
end
