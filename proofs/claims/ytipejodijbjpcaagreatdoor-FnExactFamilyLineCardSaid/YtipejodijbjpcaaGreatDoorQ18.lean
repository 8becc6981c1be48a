/- Violations: the second program. Polymatroids and ranks of matroids, both programs. -/
import Derived.Test.YtipejodijbjpcaaGreatDoorQ17
section
namespace Go.Proofs.YtipejodijbjpcaaGreatDoor
open Go.RowKit Go.G5


set_option maxHeartbeats 2000000 in
set_option maxRecDepth 100000 in
theorem l3Bad_any (n : Nat) (hn : n ≤ 5) (l : List Int) (v : Value) (w : World) (hv : Ints w v l) (hl : l.length = 2 ^ n) (hlb : ∀ k, (hk : k < l.length) → -1000 ≤ l[k] ∧ l[k] ≤ 1000) (s i k : Nat) (hs : s < 2 ^ n) (hi : i < n) (hk : k < n) :
    Calls Tryz.prog 189 #[v, .int .i64 s, .int .i64 i, .int .i64 k] w fun e w' => e = .returned (.bool (badB l (s, i, k))) ∧ Below w.heap.size w w' := by
  obtain ⟨a, b, off, c, rfl, hlen, hix, hc, hb⟩ := hv.view Tryz.prog 22 3 Tryz.underlying22 intElem
  have h1 := setBit_lt s i n hs hi
  have h2 := setBit_lt s k n hs hk
  have h3 := setBit_lt (setBit s i) k n h1 hk
  rw [← setBit_or] at h3
  have p5 : (2 : Nat) ^ n ≤ 32 := Nat.pow_le_pow_right (n := 2) (by decide) hn
  rw [← hl] at h1 h2 h3 hs p5
  have c0 := hc s hs
  have c1 := hc _ h1
  have c2 := hc _ h2
  have c3 := hc _ h3
  have i0 := fun W => hix W s hs
  have i1 := fun W => hix W _ h1
  have i2 := fun W => hix W _ h2
  have i3 := fun W => hix W _ h3
  have b0 := hlb s hs
  have b1 := hlb _ h1
  have b2 := hlb _ h2
  have b3 := hlb _ h3
  have hex : exL l s i k = l[setBit s i ||| setBit s k] + l[s] - l[setBit s i] - l[setBit s k] := by
    unfold exL
    rw [getD_at l _ h3, getD_at l _ hs, getD_at l _ h1, getD_at l _ h2]
  have q1 := setBit_is s i (by omega) (by omega)
  have q2 := setBit_is s k (by omega) (by omega)
  have q3 := bitsO (setBit s i) (setBit s k) (by omega) (by omega)
  have q4 := setBit_is (setBit s i) k (by omega) (by omega)
  rw [← setBit_or] at q4
  obtain ⟨u1, hu1⟩ : ∃ u, u = setBit s i := ⟨_, rfl⟩
  obtain ⟨u2, hu2⟩ : ∃ u, u = setBit s k := ⟨_, rfl⟩
  simp only [← hu1, ← hu2] at c1 c2 c3 i1 i2 i3 b1 b2 b3 hex q1 q2 q3 q4 h1 h2 h3
  obtain ⟨u3, hu3⟩ : ∃ u, u = u1 ||| u2 := ⟨_, rfl⟩
  simp only [← hu3] at c3 i3 b3 hex q3 q4 h3
  obtain ⟨x0, hx0⟩ : ∃ x, x = l[s] := ⟨_, rfl⟩
  obtain ⟨x1, hx1⟩ : ∃ x, x = l[u1] := ⟨_, rfl⟩
  obtain ⟨x2, hx2⟩ : ∃ x, x = l[u2] := ⟨_, rfl⟩
  obtain ⟨x3, hx3⟩ : ∃ x, x = l[u3] := ⟨_, rfl⟩
  rw [← hx0] at c0 b0 hex
  rw [← hx1] at c1 b1 hex
  rw [← hx2] at c2 b2 hex
  rw [← hx3] at c3 b3 hex
  have pi := two_pow i 6 (by omega)
  have pk := two_pow k 6 (by omega)
  have pi1 : (2 : Int) ^ i ≤ 64 := by simpa using pi.1
  have pk1 : (2 : Int) ^ k ≤ 64 := by simpa using pk.1
  have pi2 := pi.2
  have pk2 := pk.2
  have wi : IntKind.i64.wrap ((2 : Int) ^ i) = 2 ^ i := by rw [IntKind.wrap_i64]; omega
  have wk : IntKind.i64.wrap ((2 : Int) ^ k) = 2 ^ k := by rw [IntKind.wrap_i64]; omega
  have w1 : IntKind.i64.wrap (x3 + x0) = x3 + x0 := by rw [IntKind.wrap_i64]; omega
  have w2 : IntKind.i64.wrap (x1 + x2) = x1 + x2 := by rw [IntKind.wrap_i64]; omega
  have hbad : badB l (s, i, k) = decide (x1 + x2 < x3 + x0) := by
    unfold badB
    simp only [hex]
    by_cases h : x1 + x2 < x3 + x0
    · rw [decide_eq_true h, decide_eq_true (by omega)]
    · rw [decide_eq_false h, decide_eq_false (by omega)]
  have HB := Lib.hid hbad
  have z0 : (0 : Int) ≤ (s : Int) := by omega
  clear hix hb hlb hex hu1 hu2 hu3 hx0 hx1 hx2 hx3 pi pk q3 hc hl hbad
  go_enter Tryz.func189, Tryz.ntmps189
  go_wp2_with fail
  go_quiet (fail)
  go_wp2
  go_ret
  exact ⟨ret_bool HB.out.symm, (Below.refl _ _).drewN' _⟩
theorem ibit_zero'' (c s : Nat) : (ibit (c : Int) s == 0) = !nbit c s := by
  have h := nbit_is c s
  have h2 : ibit (c : Int) s = 0 ∨ ibit (c : Int) s = 1 := by
    unfold ibit
    omega
  rcases h2 with h2 | h2
  · rw [h2] at h ⊢; rw [← h]; rfl
  · rw [h2] at h ⊢; rw [← h]; rfl
theorem OwnI.lit3' {E : TypeId} {B : Nat} (w : World) (hB : B ≤ w.heap.size) (x y z : Int) (hx : InR x) (hy : InR y) (hz : InR z) : OwnI E B (w.alloc (.cells #[.int .i64 x, .int .i64 y, .int .i64 z] E)) (.slice (some ⟨w.heap.size, 0, none⟩) 3 3) [x, y, z] :=
  ⟨World.ownsRow_lit w #[.int .i64 x, .int .i64 y, .int .i64 z] 3 hB (by decide) rfl, by
    intro q hq
    simp only [List.mem_cons, List.not_mem_nil, or_false] at hq
    rcases hq with rfl | rfl | rfl <;> assumption⟩

set_option maxHeartbeats 4000000 in
set_option maxRecDepth 100000 in
theorem violS_c (w : World) (n : Int) (v : Value) (l : List Int) (hv : Ints w v l) (_ : l.length ≤ 1048576) :
    Calls Tryz.prog 157 #[.agg #[.int .i64 n, v]] w fun e w' => ∃ ad i cp, e = .returned (.tuple #[.slice ad i cp, .bool (violB n l)]) ∧ OwnW 3 w.heap.size w' (.slice ad i cp) (violL n l) ∧ Below w.heap.size w w' := by
  have hv0 := hv
  obtain ⟨a, c, rfl⟩ := hv.shape
  have K0 := Blk.new w 32 #[.int .i64 n, .slice a l.length c]
  cases hf : isFunB n l with
  | false =>
    have hr : violR n l = none := by unfold violR; rw [hf]; rfl
    have hB : violB n l = false := by unfold violB; rw [hr]; rfl
    have hL : violL n l = [] := by unfold violL; rw [hr]; rfl
    have H := Lib.hid (And.intro hB hL)
    have HF := Lib.hid hf
    clear hr hB hL hf
    go_enter Tryz.func157, Tryz.ntmps157
    go_wp2_with fail
    go_loopw [4] (fun i wr => i = .int .i64 0 ∧ Below w.heap.size w wr ∧ Blk wr w.heap.size 32 #[.int .i64 n, .slice a l.length c]) (fun _ _ => 0)
    case atStart => exact ⟨rfl, bl1 _ _, K0⟩
    case round =>
      obtain ⟨rfl, B, K⟩ := hrel
      have G1 := K.cell
      go_wp2_with (go_at_call 129; refine (isFunS_any n l _ _ (hv0.below B (Nat.le_refl _))).mono ?_; rintro e w1 ⟨rfl, hb1⟩; rw [HF.out])
      have B1 := B.after hb1 B.size
      go_ret2
      exact ⟨_, 0, 0, by rw [H.out.1]; rfl, by rw [H.out.2]; exact ((OwnI.lit0 w1 (Nat.le_refl _)).mono B1.size).toW, B1.alloc B1.size _⟩
  | true =>
    obtain ⟨h0, h5, hlen, hlb⟩ := funOk hf
    obtain ⟨N, rfl⟩ := Int.eq_ofNat_of_zero_le h0
    have hN5 : N ≤ 5 := by omega
    have hl2 : l.length = 2 ^ N := by
      have e2 : (N : Int).toNat = N := by omega
      rw [e2] at hlen
      exact_mod_cast hlen
    have hp5 : (2 : Nat) ^ N ≤ 32 := Nat.pow_le_pow_right (n := 2) (by decide) hN5
    have hl32 : l.length ≤ 32 := by omega
    have hr : violR N l = (runT (vstep l) (tri3 N l.length) none).1 := by unfold violR violT; rw [hf, if_pos rfl]; simp only [Int.toNat_natCast]; rw [hl2]
    have HR := Lib.hid hr
    have HF := Lib.hid hf
    have HLB := Lib.hid hlb
    have HL2 := Lib.hid hl2
    clear hr hf hlen hlb hl2 hp5
    go_enter Tryz.func157, Tryz.ntmps157
    go_wp2_with fail
    go_loopw [4] (fun i wr => ∃ s : Nat, s ≤ l.length ∧ i = .int .i64 s ∧ runT (vstep l) (tri3 N s) none = (none, true) ∧ Below w.heap.size w wr ∧ Blk wr w.heap.size 32 #[.int .i64 N, .slice a l.length c]) (fun i _ => l.length - (intOf i).toNat)
    case atStart => exact ⟨0, Nat.zero_le _, rfl, rfl, bl1 _ _, K0⟩
    case round =>
      obtain ⟨s, hs, rfl, hrun, B, K⟩ := hrel
      obtain ⟨wo, rfl⟩ : ∃ wo : World, wo = wr := ⟨_, rfl⟩
      have HR1 := Lib.hid hrun
      clear hrun K0
      have G1 := K.cell
      go_wp2_with fail
      refine (isFunS_any N l _ _ (hv0.below B (Nat.le_refl _))).mono ?_
      rintro e w1 ⟨rfl, hb1⟩
      rw [HF.out]
      have K := K.keep hb1
      have B1 := B.after hb1 B.size
      clear G1 hb1 B
      have G1 := K.cell
      by_cases hsl : s < l.length
      · go_wp2_with fail
        go_loopw [5] (fun i wr => ∃ k : Nat, k ≤ N ∧ i = .int .i64 k ∧ runT (vstep l) (tri3 N s ++ tri2 N s k) none = (none, true) ∧ Below w.heap.size w wr ∧ Blk wr w.heap.size 32 #[.int .i64 N, .slice a l.length c]) (fun i _ => N - (intOf i).toNat)
        case atStart => exact ⟨0, Nat.zero_le _, rfl, by rw [show tri2 N s 0 = [] from rfl, List.append_nil]; exact HR1.out, B1, K⟩
        case round =>
          obtain ⟨i, hi, rfl, hrun, B2, K⟩ := hrel
          obtain ⟨wi, rfl⟩ : ∃ wo : World, wo = wr := ⟨_, rfl⟩
          have HR2 := Lib.hid hrun
          clear hrun G1
          have G1 := K.cell
          by_cases hin : i < N
          · have hst := tri_start s i (i + 1) (Nat.le_refl _)
            have HST := Lib.hid hst
            clear hst
            go_wp2_with fail
            go_loopw [6] (fun i' wr => ∃ k : Nat, i < k ∧ k ≤ N ∧ i' = .int .i64 k ∧ runT (vstep l) ((tri3 N s ++ tri2 N s i) ++ tri s i k) none = (none, true) ∧ Below w.heap.size w wr ∧ Blk wr w.heap.size 32 #[.int .i64 N, .slice a l.length c]) (fun i' _ => N - (intOf i').toNat)
            case atStart => exact ⟨i + 1, by omega, by omega, by go_num, by rw [HST.out, List.append_nil]; exact HR2.out, B2, K⟩
            case round =>
              obtain ⟨k, hik, hk, rfl, hrun, B3, K⟩ := hrel
              obtain ⟨wk, rfl⟩ : ∃ wo : World, wo = wr := ⟨_, rfl⟩
              have HR3 := Lib.hid hrun
              clear hrun G1
              have G1 := K.cell
              by_cases hkn : k < N
              · have hbi := bit_is (s : Int) i (by omega) (by omega)
                have hbk := bit_is (s : Int) k (by omega) (by omega)
                have hni := ibit_zero'' s i
                have hnk := ibit_zero'' s k
                obtain ⟨y, hy⟩ : ∃ y, y = ibit (s : Int) i := ⟨_, rfl⟩
                obtain ⟨z, hz⟩ : ∃ y, y = ibit (s : Int) k := ⟨_, rfl⟩
                rw [← hy] at hbi hni
                rw [← hz] at hbk hnk
                have htk : tri s i (k + 1) = tri s i k ++ (if (decide (i < k) && (!nbit s i && !nbit s k)) then [(s, i, k)] else []) := rfl
                rw [decide_eq_true hik, Bool.true_and] at htk
                have HTK := Lib.hid htk
                clear hy hz htk
                cases h1 : nbit s i with
                | true =>
                  have hy1 : (y == 0) = false := by rw [hni, h1]; rfl
                  have H1 := Lib.hid h1
                  clear h1 hni hnk
                  go_wp2
                  go_roundw
                  case rel => exact ⟨k + 1, by omega, by omega, by go_num, by rw [HTK.out, H1.out]; simpa using HR3.out, B3, K⟩
                  case measure => simp [intOf]; omega
                | false =>
                  have hy1 : (y == 0) = true := by rw [hni, h1]; rfl
                  cases h2 : nbit s k with
                  | true =>
                    have hz1 : (z == 0) = false := by rw [hnk, h2]; rfl
                    have H2 := Lib.hid h2
                    clear h1 h2 hni hnk
                    go_wp2
                    go_roundw
                    case rel => exact ⟨k + 1, by omega, by omega, by go_num, by rw [HTK.out, H2.out]; simpa using HR3.out, B3, K⟩
                    case measure => simp [intOf]; omega
                  | false =>
                    have hz1 : (z == 0) = true := by rw [hnk, h2]; rfl
                    have htk2 : tri s i (k + 1) = tri s i k ++ [(s, i, k)] := by rw [HTK.out, h1, h2]; rfl
                    have hbadc := l3Bad_any N hN5 l _ wk (hv0.below B3 (Nat.le_refl _)) HL2.out HLB.out s i k (by rw [← HL2.out]; exact hsl) (by omega) hkn
                    have hone : runT (vstep l) (((tri3 N s ++ tri2 N s i) ++ tri s i k) ++ [(s, i, k)]) none = vstep l none (s, i, k) := by rw [runT_go HR3.out, runT_one]
                    have HBC := Lib.hid hbadc
                    have HONE := Lib.hid hone
                    have HT2 := Lib.hid htk2
                    clear h1 h2 hni hnk hbadc hone htk2
                    cases hb : badB l (s, i, k) with
                    | false =>
                      have hst : vstep l none (s, i, k) = (none, true) := by unfold vstep; rw [hb]; rfl
                      have HSTP := Lib.hid hst
                      have HB := Lib.hid hb
                      clear hst hb
                      go_wp2_with (go_at_call 189; refine HBC.out.mono ?_; rintro e w4 ⟨rfl, hb4⟩; rw [HB.out])
                      go_roundw
                      case rel => exact ⟨k + 1, by omega, by omega, by go_num, by rw [HT2.out, ← List.append_assoc, HONE.out, HSTP.out], B3.after hb4 B3.size, K.keep hb4⟩
                      case measure => simp [intOf]; omega
                    | true =>
                      have hst : vstep l none (s, i, k) = (some (s, i, k), false) := by unfold vstep; rw [hb]; rfl
                      have hv2 : violR N l = some (s, i, k) := by
                        obtain ⟨r, hr⟩ := tri_front N l.length s i (k + 1) hsl hin hkn
                        rw [HR.out, hr, HT2.out, ← List.append_assoc, runT_stop (HONE.out.trans hst)]
                      have hB : violB N l = true := by unfold violB; rw [hv2]; rfl
                      have hL : violL N l = [(s : Int), (i : Int), (k : Int)] := by unfold violL; rw [hv2]; rfl
                      have H := Lib.hid (And.intro hB hL)
                      have HB := Lib.hid hb
                      clear hst hb hv2 hB hL
                      go_wp2_with (go_at_call 189; refine HBC.out.mono ?_; rintro e w4 ⟨rfl, hb4⟩; rw [HB.out])
                      have B4 := B3.after hb4 B3.size
                      go_ret2
                      exact ⟨_, 3, 3, by rw [H.out.1]; rfl, by rw [H.out.2]; exact (OwnI.lit3' w4 B4.size s i k ⟨by omega, by omega⟩ ⟨by omega, by omega⟩ ⟨by omega, by omega⟩).toW, B4.alloc B4.size _⟩
              · have hkn' : k = N := by omega
                subst hkn'
                go_wp2
                go_roundw
                case rel => exact ⟨i + 1, by omega, by go_num, by rw [show tri2 k s (i + 1) = tri2 k s i ++ tri s i k from rfl, ← List.append_assoc]; exact HR3.out, B3, K⟩
                case measure => simp [intOf]; omega
          · have hin' : i = N := by omega
            subst hin'
            go_wp2
            go_roundw
            case rel => exact ⟨s + 1, by omega, by go_num, HR2.out, B2, K⟩
            case measure => simp [intOf]; omega
      · have hsl' : s = l.length := by omega
        subst hsl'
        have hv2 : violR N l = none := by rw [HR.out, HR1.out]
        have hB : violB N l = false := by unfold violB; rw [hv2]; rfl
        have hL : violL N l = [] := by unfold violL; rw [hv2]; rfl
        have H := Lib.hid (And.intro hB hL)
        clear hv2 hB hL
        go_wp2
        go_ret2
        exact ⟨_, 0, 0, by rw [H.out.1]; rfl, by rw [H.out.2]; exact ((OwnI.lit0 w1 (Nat.le_refl _)).mono B1.size).toW, B1.alloc B1.size _⟩

set_option maxHeartbeats 1000000 in
theorem isSubS_any (n : Int) (l : List Int) (v : Value) (w : World) (hv : Ints w v l) (hl : l.length ≤ 1048576) :
    Calls Tryz.prog 57 #[.agg #[.int .i64 n, v]] w fun e w' => e = .returned (.bool (subB n l)) ∧ Below w.heap.size w w' := by
  have hv0 := hv
  obtain ⟨a, c, rfl⟩ := hv.shape
  have K0 := Blk.new w 32 #[.int .i64 n, .slice a l.length c]
  go_enter Tryz.func57, Tryz.ntmps57
  go_wp2_with fail
  refine (violS_c _ n _ l (hv0.alloc _) hl).mono ?_
  rintro e w1 ⟨p1, i1, q1, rfl, o1, hb1⟩
  have K1 := K0.keep hb1
  have B1 : Below w.heap.size w w1 := (bl1 _ _).after hb1 (by simp)
  have G1 := K1.cell
  go_wp2_with fail
  refine (isFunS_any n l _ _ (hv0.below B1 (Nat.le_refl _))).mono ?_
  rintro e w2 ⟨rfl, hb2⟩
  have B2 := B1.after hb2 B1.size
  cases hf : isFunB n l with
  | false =>
    have hx : subB n l = false := by unfold subB; rw [hf]; rfl
    have HX := Lib.hid hx
    clear hx hf
    go_wp2
    go_ret
    exact ⟨by rw [HX.out]; rfl, B2⟩
  | true =>
    have hx : subB n l = !violB n l := by unfold subB; rw [hf]; rfl
    have HX := Lib.hid hx
    clear hx hf
    go_wp2
    go_ret
    exact ⟨by rw [HX.out]; rfl, B2⟩
end Go.Proofs.YtipejodijbjpcaaGreatDoor
end
section
namespace Go.Proofs.YtipejodijbjpcaaGreatDoor
open Go.RowKit Go.G5

def polyB (n : Int) (l : List Int) : Bool := (isGrB n l && incB n l) && subB n l
def oneB (l : List Int) (e : Nat) : Bool := !decide ((1 : Int) < l.getD (2 ^ e) 0)
def rankB (n : Int) (l : List Int) : Bool := polyB n l && allTo (oneB l) n.toNat
theorem poly_fun {n : Int} {l : List Int} (h : polyB n l = true) : isFunB n l = true := by
  unfold polyB isGrB at h
  simp only [Bool.and_eq_true] at h
  exact h.1.1.1
set_option maxHeartbeats 1000000 in
theorem polyI_any (n : Int) (l : List Int) (v : Value) (w : World) (hv : Ints w v l) (hl : l.length ≤ 1048576) :
    Calls Tryz.prog 355 #[.agg #[.int .i64 n, v]] w fun e w' => e = .returned (.bool (polyB n l)) ∧ Below w.heap.size w w' := by
  obtain ⟨a, c, rfl⟩ := hv.shape
  have K0 := Blk.new w 32 #[.int .i64 n, .slice a l.length c]
  go_enter Tryz.func355, Tryz.ntmps355
  go_wp2_with fail
  refine (isGrI_any n l _ _ (hv.alloc _)).mono ?_
  rintro e w1 ⟨rfl, hb1⟩
  have K1 := K0.keep hb1
  have B1 : Below w.heap.size w w1 := (bl1 _ _).after hb1 (by simp)
  clear hb1 K0
  cases hs : isGrB n l with
  | false =>
    have hx : polyB n l = false := by unfold polyB; rw [hs]; rfl
    have HX := Lib.hid hx
    clear hx hs
    go_wp2
    go_ret
    exact ⟨by rw [HX.out]; rfl, B1⟩
  | true =>
    have HS := Lib.hid hs
    clear hs
    have G1 := K1.cell
    go_wp2_with fail
    refine (incI_any n l _ _ (hv.below B1 (Nat.le_refl _))).mono ?_
    rintro e w2 ⟨rfl, hb2⟩
    have K2 := K1.keep hb2
    have B2 := B1.after hb2 B1.size
    clear hb2 G1
    cases hy : incB n l with
    | false =>
      have hx : polyB n l = false := by unfold polyB; rw [HS.out, hy]; rfl
      have HX := Lib.hid hx
      clear hx hy
      go_wp2
      go_ret
      exact ⟨by rw [HX.out]; rfl, B2⟩
    | true =>
      have hx : polyB n l = subB n l := by unfold polyB; rw [HS.out, hy]; rfl
      have HX := Lib.hid hx
      clear hx hy
      have G2 := K2.cell
      go_wp2_with fail
      refine (isSubI_any n l _ _ (hv.below B2 (Nat.le_refl _)) hl).mono ?_
      rintro e w3 ⟨rfl, hb3⟩
      go_wp2
      go_ret
      exact ⟨by rw [HX.out]; rfl, B2.after hb3 B2.size⟩
set_option maxHeartbeats 1000000 in
theorem polyS_any (n : Int) (l : List Int) (v : Value) (w : World) (hv : Ints w v l) (hl : l.length ≤ 1048576) :
    Calls Tryz.prog 344 #[.agg #[.int .i64 n, v]] w fun e w' => e = .returned (.bool (polyB n l)) ∧ Below w.heap.size w w' := by
  obtain ⟨a, c, rfl⟩ := hv.shape
  have K0 := Blk.new w 32 #[.int .i64 n, .slice a l.length c]
  go_enter Tryz.func344, Tryz.ntmps344
  go_wp2_with fail
  refine (isGrS_any n l _ _ (hv.alloc _)).mono ?_
  rintro e w1 ⟨rfl, hb1⟩
  have K1 := K0.keep hb1
  have B1 : Below w.heap.size w w1 := (bl1 _ _).after hb1 (by simp)
  clear hb1 K0
  cases hs : isGrB n l with
  | false =>
    have hx : polyB n l = false := by unfold polyB; rw [hs]; rfl
    have HX := Lib.hid hx
    clear hx hs
    go_wp2
    go_ret
    exact ⟨by rw [HX.out]; rfl, B1⟩
  | true =>
    have HS := Lib.hid hs
    clear hs
    have G1 := K1.cell
    go_wp2_with fail
    refine (incS_any n l _ _ (hv.below B1 (Nat.le_refl _))).mono ?_
    rintro e w2 ⟨rfl, hb2⟩
    have K2 := K1.keep hb2
    have B2 := B1.after hb2 B1.size
    clear hb2 G1
    cases hy : incB n l with
    | false =>
      have hx : polyB n l = false := by unfold polyB; rw [HS.out, hy]; rfl
      have HX := Lib.hid hx
      clear hx hy
      go_wp2
      go_ret
      exact ⟨by rw [HX.out]; rfl, B2⟩
    | true =>
      have hx : polyB n l = subB n l := by unfold polyB; rw [HS.out, hy]; rfl
      have HX := Lib.hid hx
      clear hx hy
      have G2 := K2.cell
      go_wp2_with fail
      refine (isSubS_any n l _ _ (hv.below B2 (Nat.le_refl _)) hl).mono ?_
      rintro e w3 ⟨rfl, hb3⟩
      go_wp2
      go_ret
      exact ⟨by rw [HX.out]; rfl, B2.after hb3 B2.size⟩
set_option maxHeartbeats 2000000 in
set_option maxRecDepth 100000 in
theorem rankI_any (n : Int) (l : List Int) (v : Value) (w : World) (hv : Ints w v l) (hl : l.length ≤ 1048576) :
    Calls Tryz.prog 320 #[.agg #[.int .i64 n, v]] w fun e w' => e = .returned (.bool (rankB n l)) ∧ Below w.heap.size w w' := by
  have hv0 := hv
  obtain ⟨a, b, off, c, rfl, hlen, hix, hc, hb⟩ := hv.view Tryz.prog 22 3 Tryz.underlying22 intElem
  have K0 := Blk.new w 32 #[.int .i64 n, .slice a l.length c]
  cases hf : polyB n l with
  | false =>
    have hx : rankB n l = false := by unfold rankB; rw [hf]; rfl
    have HX := Lib.hid hx
    have HF := Lib.hid hf
    clear hx hf hc
    go_enter Tryz.func320, Tryz.ntmps320
    go_wp2_with (go_at_call 355; refine (polyI_any n l _ _ (hv0.alloc _) hl).mono ?_; rintro e w1 ⟨rfl, hb1⟩; rw [HF.out])
    go_ret
    exact ⟨ret_bool HX.out.symm, (bl1 _ _).after hb1 (by simp)⟩
  | true =>
    obtain ⟨N, rfl, hN5, hl2, hl32, hlb⟩ := fun_nat (poly_fun hf)
    have hx : rankB N l = allTo (oneB l) N := by unfold rankB; rw [hf]; simp
    have HX := Lib.hid hx
    have HF := Lib.hid hf
    have HL2 := Lib.hid hl2
    have HC := Lib.hid hc
    have HIX := Lib.hid hix
    clear hx hf hl2 hc hix hlb
    go_enter Tryz.func320, Tryz.ntmps320
    go_wp2_with fail
    refine (polyI_any N l _ _ (hv0.alloc _) hl).mono ?_
    rintro e w1 ⟨rfl, hb1⟩
    rw [HF.out]
    have K1 := K0.keep hb1
    have B1 : Below w.heap.size w w1 := (bl1 _ _).after hb1 (by simp)
    have G1 := K1.cell
    have hc1 := cells_below HC.out hb B1 (Nat.le_refl _)
    have HC1 := Lib.hid hc1
    clear K0 hb1 hc1
    go_wp2_with fail
    go_loop [9] (fun i => ∃ k : Nat, k ≤ N ∧ i = .int .i64 k ∧ allTo (oneB l) k = true) (fun i => N - (intOf i).toNat)
    case atStart => exact ⟨0, Nat.zero_le _, rfl, rfl⟩
    case round =>
      obtain ⟨k, hk, rfl, hall⟩ := hrel
      have H := Lib.hid hall
      clear hall
      by_cases hkn : k < N
      · have hp : 2 ^ k < l.length := by rw [HL2.out]; exact Nat.pow_lt_pow_right (by decide) hkn
        have c0 := HC1.out (2 ^ k) hp
        have i0 := fun W => HIX.out W (2 ^ k) hp
        have hcast : ((2 ^ k : Nat) : Int) = (2 : Int) ^ k := by simp
        simp only [hcast] at i0
        have hone : oneB l k = !decide ((1 : Int) < l[2 ^ k]) := by unfold oneB; rw [getD_at l _ hp]
        obtain ⟨x, hx⟩ : ∃ x, x = l[2 ^ k] := ⟨_, rfl⟩
        rw [← hx] at c0 hone
        have HO := Lib.hid hone
        have pk1 : (2 : Int) ^ k ≤ 32 := by rw [← hcast]; omega
        have pk2 := (two_pow k k (Nat.le_refl _)).2
        have wk : IntKind.i64.wrap ((2 : Int) ^ k) = 2 ^ k := by rw [IntKind.wrap_i64]; omega
        clear hone hx hcast hp
        by_cases hgt : (1 : Int) < x
        · have hbad : rankB N l = false := by rw [HX.out]; exact allTo_false hkn (by rw [HO.out, decide_eq_true hgt]; rfl)
          have HBAD := Lib.hid hbad
          clear hbad
          go_wp2
          go_ret
          exact ⟨ret_bool HBAD.out.symm, B1⟩
        · have hu : oneB l k = true := by rw [HO.out, decide_eq_false hgt]; rfl
          have HU := Lib.hid hu
          clear hu
          go_wp2
          go_round
          case rel => exact ⟨k + 1, by omega, by go_num, allTo_succ H.out HU.out⟩
          case measure => simp [intOf]; omega
      · have hkN : k = N := by omega
        subst hkN
        go_wp2
        go_ret
        exact ⟨ret_bool (by rw [HX.out, H.out]), B1⟩

set_option maxHeartbeats 2000000 in
set_option maxRecDepth 100000 in
theorem rankS_any (n : Int) (l : List Int) (v : Value) (w : World) (hv : Ints w v l) (hl : l.length ≤ 1048576) :
    Calls Tryz.prog 297 #[.agg #[.int .i64 n, v]] w fun e w' => e = .returned (.bool (rankB n l)) ∧ Below w.heap.size w w' := by
  have hv0 := hv
  obtain ⟨a, b, off, c, rfl, hlen, hix, hc, hb⟩ := hv.view Tryz.prog 22 3 Tryz.underlying22 intElem
  have K0 := Blk.new w 32 #[.int .i64 n, .slice a l.length c]
  cases hf : polyB n l with
  | false =>
    have hx : rankB n l = false := by unfold rankB; rw [hf]; rfl
    have HX := Lib.hid hx
    have HF := Lib.hid hf
    clear hx hf hc
    go_enter Tryz.func297, Tryz.ntmps297
    go_wp2_with fail
    go_loopw [3] (fun i wr => i = .int .i64 0 ∧ Below w.heap.size w wr ∧ Blk wr w.heap.size 32 #[.int .i64 n, .slice a l.length c]) (fun _ _ => 0)
    case atStart => exact ⟨rfl, bl1 _ _, K0⟩
    case round =>
      obtain ⟨rfl, B, K⟩ := hrel
      have G1 := K.cell
      go_wp2_with fail
      refine (polyS_any n l _ _ (hv0.below B (Nat.le_refl _)) hl).mono ?_
      rintro e w1 ⟨rfl, hb1⟩
      rw [HF.out]
      have B1 := B.after hb1 B.size
      have K1 := K.keep hb1
      clear G1
      have G1 := K1.cell
      go_wp2_with fail
      refine (polyS_any n l _ _ (hv0.below B1 (Nat.le_refl _)) hl).mono ?_
      rintro e w2 ⟨rfl, hb2⟩
      rw [HF.out]
      go_wp2
      go_ret
      exact ⟨ret_bool HX.out.symm, B1.after hb2 B1.size⟩
  | true =>
    obtain ⟨N, rfl, hN5, hl2, hl32, hlb⟩ := fun_nat (poly_fun hf)
    have hx : rankB N l = allTo (oneB l) N := by unfold rankB; rw [hf]; simp
    have HX := Lib.hid hx
    have HF := Lib.hid hf
    have HL2 := Lib.hid hl2
    have HC := Lib.hid hc
    have HIX := Lib.hid hix
    clear hx hf hl2 hc hix hlb
    go_enter Tryz.func297, Tryz.ntmps297
    go_wp2_with fail
    go_loopw [3] (fun i wr => ∃ k : Nat, k ≤ N ∧ i = .int .i64 k ∧ allTo (oneB l) k = true ∧ Below w.heap.size w wr ∧ Blk wr w.heap.size 32 #[.int .i64 N, .slice a l.length c]) (fun i _ => N - (intOf i).toNat)
    case atStart => exact ⟨0, Nat.zero_le _, rfl, rfl, bl1 _ _, K0⟩
    case round =>
      obtain ⟨k, hk, rfl, hall, B, K⟩ := hrel
      obtain ⟨wo, rfl⟩ : ∃ wo : World, wo = wr := ⟨_, rfl⟩
      have H := Lib.hid hall
      clear hall K0
      have G1 := K.cell
      go_wp2_with fail
      refine (polyS_any N l _ _ (hv0.below B (Nat.le_refl _)) hl).mono ?_
      rintro e w1 ⟨rfl, hb1⟩
      rw [HF.out]
      have K := K.keep hb1
      have B1 := B.after hb1 B.size
      clear G1 hb1 B
      have G1 := K.cell
      by_cases hkn : k < N
      · have hp : 2 ^ k < l.length := by rw [HL2.out]; exact Nat.pow_lt_pow_right (by decide) hkn
        have c0 := cells_below HC.out hb B1 (Nat.le_refl _) (2 ^ k) hp
        have i0 := fun W => HIX.out W (2 ^ k) hp
        have hcast : ((2 ^ k : Nat) : Int) = (2 : Int) ^ k := by simp
        simp only [hcast] at i0
        have hone : oneB l k = !decide ((1 : Int) < l[2 ^ k]) := by unfold oneB; rw [getD_at l _ hp]
        obtain ⟨x, hx⟩ : ∃ x, x = l[2 ^ k] := ⟨_, rfl⟩
        rw [← hx] at c0 hone
        have HO := Lib.hid hone
        have pk1 : (2 : Int) ^ k ≤ 32 := by rw [← hcast]; omega
        have pk2 := (two_pow k k (Nat.le_refl _)).2
        have wk : IntKind.i64.wrap ((2 : Int) ^ k) = 2 ^ k := by rw [IntKind.wrap_i64]; omega
        clear hone hx hcast hp
        by_cases hgt : (1 : Int) < x
        · have hbad : rankB N l = false := by rw [HX.out]; exact allTo_false hkn (by rw [HO.out, decide_eq_true hgt]; rfl)
          have HBAD := Lib.hid hbad
          clear hbad
          go_wp2_with fail
          go_quiet (fail)
          go_wp2
          go_ret
          exact ⟨ret_bool HBAD.out.symm, B1.drewN' _⟩
        · have hu : oneB l k = true := by rw [HO.out, decide_eq_false hgt]; rfl
          have HU := Lib.hid hu
          clear hu
          go_wp2_with fail
          go_quiet (fail)
          go_wp2
          go_roundw
          case rel => exact ⟨k + 1, by omega, by go_num, allTo_succ H.out HU.out, B1.drewN' _, K.drewN _⟩
          case measure => simp [intOf]; omega
      · have hkN : k = N := by omega
        subst hkN
        go_wp2_with fail
        refine (polyS_any k l _ _ (hv0.below B1 (Nat.le_refl _)) hl).mono ?_
        rintro e w2 ⟨rfl, hb2⟩
        rw [HF.out]
        go_wp2
        go_ret
        exact ⟨ret_bool (by rw [HX.out, H.out]), B1.after hb2 B1.size⟩
end Go.Proofs.YtipejodijbjpcaaGreatDoor
end
