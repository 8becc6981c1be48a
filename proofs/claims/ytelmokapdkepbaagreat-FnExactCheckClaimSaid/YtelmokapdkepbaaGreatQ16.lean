/- Increasing functions: the second program. Polymatroids and ranks of matroids, both programs. -/
import Derived.Test.YtelmokapdkepbaaGreatQ15
section
namespace Go.Proofs.YtelmokapdkepbaaGreat
open Go.RowKit Go.G5

set_option maxHeartbeats 4000000 in
set_option maxRecDepth 100000 in
theorem incS_any (n : Int) (l : List Int) (v : Value) (w : World) (hv : Ints w v l) :
    Calls Tryz.prog 104 #[.agg #[.int .i64 n, v]] w fun e w' => e = .returned (.bool (incB n l)) ∧ Below w.heap.size w w' := by
  have hv0 := hv
  obtain ⟨a, b, off, c, rfl, hlen, hix, hc, hb⟩ := hv.view Tryz.prog 22 3 Tryz.underlying22 intElem
  have K0 := Blk.new w 31 #[.int .i64 n, .slice a l.length c]
  cases hf : isFunB n l with
  | false =>
    have hx : incB n l = false := by unfold incB; rw [hf]; rfl
    have HX := Lib.hid hx
    have HF := Lib.hid hf
    clear hx hf
    go_enter Tryz.func104, Tryz.ntmps104
    go_wp2_with fail
    go_loopw [3] (fun i wr => i = .int .i64 0 ∧ Below w.heap.size w wr ∧ Blk wr w.heap.size 31 #[.int .i64 n, .slice a l.length c]) (fun _ _ => 0)
    case atStart => exact ⟨rfl, bl1 _ _, K0⟩
    case round =>
      obtain ⟨rfl, B, K⟩ := hrel
      have G1 := K.cell
      go_wp2_with fail
      refine (isFunS_any n l _ _ (hv0.below B (Nat.le_refl _))).mono ?_
      rintro e w1 ⟨rfl, hb1⟩
      rw [HF.out]
      have B1 := B.after hb1 B.size
      have K1 := K.keep hb1
      clear G1
      have G1 := K1.cell
      go_wp2_with fail
      refine (isFunS_any n l _ _ (hv0.below B1 (Nat.le_refl _))).mono ?_
      rintro e w2 ⟨rfl, hb2⟩
      rw [HF.out]
      go_wp2
      go_ret
      exact ⟨ret_bool HX.out.symm, B1.after hb2 B1.size⟩
  | true =>
    obtain ⟨N, rfl, hN5, hl2, hl32, hlb⟩ := fun_nat hf
    have hx : incB N l = allTo (fun s => allTo (upB l s) N) l.length := by unfold incB; rw [hf]; simp
    obtain ⟨F, hF⟩ : ∃ F : Nat → Bool, F = fun s => allTo (upB l s) N := ⟨_, rfl⟩
    rw [← hF] at hx
    have HX := Lib.hid hx
    have HF := Lib.hid hf
    have HFF := Lib.hid hF
    have HLB := Lib.hid hlb
    have HL2 := Lib.hid hl2
    have HC := Lib.hid hc
    have HIX := Lib.hid hix
    clear hx hf hF hlb hl2 hc hix
    go_enter Tryz.func104, Tryz.ntmps104
    go_wp2_with fail
    go_loopw [3] (fun i wr => ∃ s : Nat, s ≤ l.length ∧ i = .int .i64 s ∧ allTo F s = true ∧ Below w.heap.size w wr ∧ Blk wr w.heap.size 31 #[.int .i64 N, .slice a l.length c]) (fun i _ => l.length - (intOf i).toNat)
    case atStart => exact ⟨0, Nat.zero_le _, rfl, rfl, bl1 _ _, K0⟩
    case round =>
      obtain ⟨s, hs, rfl, hall, B, K⟩ := hrel
      obtain ⟨wo, rfl⟩ : ∃ wo : World, wo = wr := ⟨_, rfl⟩
      have H := Lib.hid hall
      clear hall K0
      have G1 := K.cell
      go_wp2_with fail
      refine (isFunS_any N l _ _ (hv0.below B (Nat.le_refl _))).mono ?_
      rintro e w1 ⟨rfl, hb1⟩
      rw [HF.out]
      have K := K.keep hb1
      have B1 := B.after hb1 B.size
      clear G1 hb1 B
      have G1 := K.cell
      by_cases hsl : s < l.length
      · have hFs : F s = allTo (upB l s) N := by rw [HFF.out]
        have HFS := Lib.hid hFs
        clear hFs
        go_wp2_with fail
        go_loopw [4] (fun i wr => ∃ k : Nat, k ≤ N ∧ i = .int .i64 k ∧ allTo (upB l s) k = true ∧ Below w.heap.size w wr ∧ Blk wr w.heap.size 31 #[.int .i64 N, .slice a l.length c]) (fun i _ => N - (intOf i).toNat)
        case atStart => exact ⟨0, Nat.zero_le _, rfl, rfl, B1, K⟩
        case round =>
          obtain ⟨k, hk, rfl, hall, B2, K2⟩ := hrel
          obtain ⟨wi, rfl⟩ : ∃ wo : World, wo = wr := ⟨_, rfl⟩
          have H2 := Lib.hid hall
          clear hall G1
          have G1 := K2.cell
          by_cases hkn : k < N
          · have hse : setBit s k < l.length := by rw [HL2.out] at hsl ⊢; exact setBit_lt _ _ _ hsl hkn
            have c0 := cells_below HC.out hb B2 (Nat.le_refl _) s hsl
            have c1 := cells_below HC.out hb B2 (Nat.le_refl _) _ hse
            have i0 := fun W => HIX.out W s hsl
            have i1 := fun W => HIX.out W _ hse
            have q1 := setBit_is s k (by omega) (by omega)
            have hup : upB l s k = !decide (l[setBit s k] - l[s] < 0) := by unfold upB gainL; rw [getD_at l _ hse, getD_at l _ hsl]
            obtain ⟨u1, hu1⟩ : ∃ u, u = setBit s k := ⟨_, rfl⟩
            simp only [← hu1] at c1 i1 q1 hup
            obtain ⟨x0, hx0⟩ : ∃ x, x = l[s] := ⟨_, rfl⟩
            rw [← hx0] at c0 hup
            have hse2 : u1 < l.length := hu1 ▸ hse
            obtain ⟨x1, hx1⟩ : ∃ x, x = l[u1] := ⟨_, rfl⟩
            rw [← hx1] at c1 hup
            have pk := two_pow k 6 (by omega)
            have pk1 : (2 : Int) ^ k ≤ 64 := by simpa using pk.1
            have pk2 := pk.2
            have wk : IntKind.i64.wrap ((2 : Int) ^ k) = 2 ^ k := by rw [IntKind.wrap_i64]; omega
            have hk5 : k < 5 := by omega
            have HUP := Lib.hid hup
            clear hup hx0 hx1 pk hse
            by_cases hneg : x1 < x0
            · have hu : upB l s k = false := by rw [HUP.out, decide_eq_true (by omega)]; rfl
              have hbad : incB N l = false := by rw [HX.out]; exact allTo_false hsl (by rw [HFS.out]; exact allTo_false hkn hu)
              have HBAD := Lib.hid hbad
              clear hu hbad hu1
              go_wp2_with fail
              go_quiet (fail)
              go_wp2
              go_ret
              exact ⟨ret_bool HBAD.out.symm, B2.drewN' _⟩
            · have hu : upB l s k = true := by rw [HUP.out, decide_eq_false (by omega)]; rfl
              have HU := Lib.hid hu
              clear hu hu1
              go_wp2_with fail
              go_quiet (fail)
              go_wp2
              go_roundw
              case rel => exact ⟨k + 1, by omega, by go_num, allTo_succ H2.out HU.out, B2.drewN' _, K2.drewN _⟩
              case measure => simp [intOf]; omega
          · have hkN : k = N := by omega
            subst hkN
            go_wp2
            go_roundw
            case rel => exact ⟨s + 1, by omega, by go_num, allTo_succ H.out (by rw [HFS.out]; exact H2.out), B2, K2⟩
            case measure => simp [intOf]; omega
      · have hsl' : s = l.length := by omega
        subst hsl'
        go_wp2_with fail
        refine (isFunS_any N l _ _ (hv0.below B1 (Nat.le_refl _))).mono ?_
        rintro e w2 ⟨rfl, hb2⟩
        rw [HF.out]
        go_wp2
        go_ret
        exact ⟨ret_bool (by rw [HX.out, H.out]), B1.after hb2 B1.size⟩
end Go.Proofs.YtelmokapdkepbaaGreat
end
section
namespace Go.Proofs.YtelmokapdkepbaaGreat
open Go.RowKit Go.G5

def polyB (n : Int) (l : List Int) : Bool := (isGrB n l && incB n l) && subB n l
def oneB (l : List Int) (e : Nat) : Bool := !decide ((1 : Int) < l.getD (2 ^ e) 0)
def rankB (n : Int) (l : List Int) : Bool := polyB n l && allTo (oneB l) n.toNat
theorem poly_fun {n : Int} {l : List Int} (h : polyB n l = true) : isFunB n l = true := by
  unfold polyB isGrB at h
  simp only [Bool.and_eq_true] at h
  exact h.1.1.1
set_option maxHeartbeats 1000000 in
theorem polyI_any (n : Int) (l : List Int) (v : Value) (w : World) (hv : Ints w v l) (hl : l.length ≤ 1048576) :
    Calls Tryz.prog 113 #[.agg #[.int .i64 n, v]] w fun e w' => e = .returned (.bool (polyB n l)) ∧ Below w.heap.size w w' := by
  obtain ⟨a, c, rfl⟩ := hv.shape
  have K0 := Blk.new w 31 #[.int .i64 n, .slice a l.length c]
  go_enter Tryz.func113, Tryz.ntmps113
  go_wp2_with fail
  refine (isGrI_any n l _ _ (hv.alloc _)).mono ?_
  rintro e w1 ⟨rfl, hb1⟩
  have K1 := K0.keep hb1
  have B1 : Below w.heap.size w w1 := (bl1 _ _).after hb1 (by simp)
  clear hb1 K0
  cases hs : isGrB n l with
  | false =>
    have hx : polyB n l = false := by unfold polyB; rw [hs]; rfl
    have HX := Lib.hid hx
    clear hx hs
    go_wp2
    go_ret
    exact ⟨by rw [HX.out]; rfl, B1⟩
  | true =>
    have HS := Lib.hid hs
    clear hs
    have G1 := K1.cell
    go_wp2_with fail
    refine (incI_any n l _ _ (hv.below B1 (Nat.le_refl _))).mono ?_
    rintro e w2 ⟨rfl, hb2⟩
    have K2 := K1.keep hb2
    have B2 := B1.after hb2 B1.size
    clear hb2 G1
    cases hy : incB n l with
    | false =>
      have hx : polyB n l = false := by unfold polyB; rw [HS.out, hy]; rfl
      have HX := Lib.hid hx
      clear hx hy
      go_wp2
      go_ret
      exact ⟨by rw [HX.out]; rfl, B2⟩
    | true =>
      have hx : polyB n l = subB n l := by unfold polyB; rw [HS.out, hy]; rfl
      have HX := Lib.hid hx
      clear hx hy
      have G2 := K2.cell
      go_wp2_with fail
      refine (isSubI_any n l _ _ (hv.below B2 (Nat.le_refl _)) hl).mono ?_
      rintro e w3 ⟨rfl, hb3⟩
      go_wp2
      go_ret
      exact ⟨by rw [HX.out]; rfl, B2.after hb3 B2.size⟩
set_option maxHeartbeats 1000000 in
theorem polyS_any (n : Int) (l : List Int) (v : Value) (w : World) (hv : Ints w v l) (hl : l.length ≤ 1048576) :
    Calls Tryz.prog 83 #[.agg #[.int .i64 n, v]] w fun e w' => e = .returned (.bool (polyB n l)) ∧ Below w.heap.size w w' := by
  obtain ⟨a, c, rfl⟩ := hv.shape
  have K0 := Blk.new w 31 #[.int .i64 n, .slice a l.length c]
  go_enter Tryz.func83, Tryz.ntmps83
  go_wp2_with fail
  refine (isGrS_any n l _ _ (hv.alloc _)).mono ?_
  rintro e w1 ⟨rfl, hb1⟩
  have K1 := K0.keep hb1
  have B1 : Below w.heap.size w w1 := (bl1 _ _).after hb1 (by simp)
  clear hb1 K0
  cases hs : isGrB n l with
  | false =>
    have hx : polyB n l = false := by unfold polyB; rw [hs]; rfl
    have HX := Lib.hid hx
    clear hx hs
    go_wp2
    go_ret
    exact ⟨by rw [HX.out]; rfl, B1⟩
  | true =>
    have HS := Lib.hid hs
    clear hs
    have G1 := K1.cell
    go_wp2_with fail
    refine (incS_any n l _ _ (hv.below B1 (Nat.le_refl _))).mono ?_
    rintro e w2 ⟨rfl, hb2⟩
    have K2 := K1.keep hb2
    have B2 := B1.after hb2 B1.size
    clear hb2 G1
    cases hy : incB n l with
    | false =>
      have hx : polyB n l = false := by unfold polyB; rw [HS.out, hy]; rfl
      have HX := Lib.hid hx
      clear hx hy
      go_wp2
      go_ret
      exact ⟨by rw [HX.out]; rfl, B2⟩
    | true =>
      have hx : polyB n l = subB n l := by unfold polyB; rw [HS.out, hy]; rfl
      have HX := Lib.hid hx
      clear hx hy
      have G2 := K2.cell
      go_wp2_with fail
      refine (isSubS_any n l _ _ (hv.below B2 (Nat.le_refl _)) hl).mono ?_
      rintro e w3 ⟨rfl, hb3⟩
      go_wp2
      go_ret
      exact ⟨by rw [HX.out]; rfl, B2.after hb3 B2.size⟩
set_option maxHeartbeats 2000000 in
set_option maxRecDepth 100000 in
theorem rankI_any (n : Int) (l : List Int) (v : Value) (w : World) (hv : Ints w v l) (hl : l.length ≤ 1048576) :
    Calls Tryz.prog 95 #[.agg #[.int .i64 n, v]] w fun e w' => e = .returned (.bool (rankB n l)) ∧ Below w.heap.size w w' := by
  have hv0 := hv
  obtain ⟨a, b, off, c, rfl, hlen, hix, hc, hb⟩ := hv.view Tryz.prog 22 3 Tryz.underlying22 intElem
  have K0 := Blk.new w 31 #[.int .i64 n, .slice a l.length c]
  cases hf : polyB n l with
  | false =>
    have hx : rankB n l = false := by unfold rankB; rw [hf]; rfl
    have HX := Lib.hid hx
    have HF := Lib.hid hf
    clear hx hf hc
    go_enter Tryz.func95, Tryz.ntmps95
    go_wp2_with (go_at_call 113; refine (polyI_any n l _ _ (hv0.alloc _) hl).mono ?_; rintro e w1 ⟨rfl, hb1⟩; rw [HF.out])
    go_ret
    exact ⟨ret_bool HX.out.symm, (bl1 _ _).after hb1 (by simp)⟩
  | true =>
    obtain ⟨N, rfl, hN5, hl2, hl32, hlb⟩ := fun_nat (poly_fun hf)
    have hx : rankB N l = allTo (oneB l) N := by unfold rankB; rw [hf]; simp
    have HX := Lib.hid hx
    have HF := Lib.hid hf
    have HL2 := Lib.hid hl2
    have HC := Lib.hid hc
    have HIX := Lib.hid hix
    clear hx hf hl2 hc hix hlb
    go_enter Tryz.func95, Tryz.ntmps95
    go_wp2_with fail
    refine (polyI_any N l _ _ (hv0.alloc _) hl).mono ?_
    rintro e w1 ⟨rfl, hb1⟩
    rw [HF.out]
    have K1 := K0.keep hb1
    have B1 : Below w.heap.size w w1 := (bl1 _ _).after hb1 (by simp)
    have G1 := K1.cell
    have hc1 := cells_below HC.out hb B1 (Nat.le_refl _)
    have HC1 := Lib.hid hc1
    clear K0 hb1 hc1
    go_wp2_with fail
    go_loop [9] (fun i => ∃ k : Nat, k ≤ N ∧ i = .int .i64 k ∧ allTo (oneB l) k = true) (fun i => N - (intOf i).toNat)
    case atStart => exact ⟨0, Nat.zero_le _, rfl, rfl⟩
    case round =>
      obtain ⟨k, hk, rfl, hall⟩ := hrel
      have H := Lib.hid hall
      clear hall
      by_cases hkn : k < N
      · have hp : 2 ^ k < l.length := by rw [HL2.out]; exact Nat.pow_lt_pow_right (by decide) hkn
        have c0 := HC1.out (2 ^ k) hp
        have i0 := fun W => HIX.out W (2 ^ k) hp
        have hcast : ((2 ^ k : Nat) : Int) = (2 : Int) ^ k := by simp
        simp only [hcast] at i0
        have hone : oneB l k = !decide ((1 : Int) < l[2 ^ k]) := by unfold oneB; rw [getD_at l _ hp]
        obtain ⟨x, hx⟩ : ∃ x, x = l[2 ^ k] := ⟨_, rfl⟩
        rw [← hx] at c0 hone
        have HO := Lib.hid hone
        have pk1 : (2 : Int) ^ k ≤ 32 := by rw [← hcast]; omega
        have pk2 := (two_pow k k (Nat.le_refl _)).2
        have wk : IntKind.i64.wrap ((2 : Int) ^ k) = 2 ^ k := by rw [IntKind.wrap_i64]; omega
        clear hone hx hcast hp
        by_cases hgt : (1 : Int) < x
        · have hbad : rankB N l = false := by rw [HX.out]; exact allTo_false hkn (by rw [HO.out, decide_eq_true hgt]; rfl)
          have HBAD := Lib.hid hbad
          clear hbad
          go_wp2
          go_ret
          exact ⟨ret_bool HBAD.out.symm, B1⟩
        · have hu : oneB l k = true := by rw [HO.out, decide_eq_false hgt]; rfl
          have HU := Lib.hid hu
          clear hu
          go_wp2
          go_round
          case rel => exact ⟨k + 1, by omega, by go_num, allTo_succ H.out HU.out⟩
          case measure => simp [intOf]; omega
      · have hkN : k = N := by omega
        subst hkN
        go_wp2
        go_ret
        exact ⟨ret_bool (by rw [HX.out, H.out]), B1⟩

set_option maxHeartbeats 2000000 in
set_option maxRecDepth 100000 in
theorem rankS_any (n : Int) (l : List Int) (v : Value) (w : World) (hv : Ints w v l) (hl : l.length ≤ 1048576) :
    Calls Tryz.prog 52 #[.agg #[.int .i64 n, v]] w fun e w' => e = .returned (.bool (rankB n l)) ∧ Below w.heap.size w w' := by
  have hv0 := hv
  obtain ⟨a, b, off, c, rfl, hlen, hix, hc, hb⟩ := hv.view Tryz.prog 22 3 Tryz.underlying22 intElem
  have K0 := Blk.new w 31 #[.int .i64 n, .slice a l.length c]
  cases hf : polyB n l with
  | false =>
    have hx : rankB n l = false := by unfold rankB; rw [hf]; rfl
    have HX := Lib.hid hx
    have HF := Lib.hid hf
    clear hx hf hc
    go_enter Tryz.func52, Tryz.ntmps52
    go_wp2_with fail
    go_loopw [3] (fun i wr => i = .int .i64 0 ∧ Below w.heap.size w wr ∧ Blk wr w.heap.size 31 #[.int .i64 n, .slice a l.length c]) (fun _ _ => 0)
    case atStart => exact ⟨rfl, bl1 _ _, K0⟩
    case round =>
      obtain ⟨rfl, B, K⟩ := hrel
      have G1 := K.cell
      go_wp2_with fail
      refine (polyS_any n l _ _ (hv0.below B (Nat.le_refl _)) hl).mono ?_
      rintro e w1 ⟨rfl, hb1⟩
      rw [HF.out]
      have B1 := B.after hb1 B.size
      have K1 := K.keep hb1
      clear G1
      have G1 := K1.cell
      go_wp2_with fail
      refine (polyS_any n l _ _ (hv0.below B1 (Nat.le_refl _)) hl).mono ?_
      rintro e w2 ⟨rfl, hb2⟩
      rw [HF.out]
      go_wp2
      go_ret
      exact ⟨ret_bool HX.out.symm, B1.after hb2 B1.size⟩
  | true =>
    obtain ⟨N, rfl, hN5, hl2, hl32, hlb⟩ := fun_nat (poly_fun hf)
    have hx : rankB N l = allTo (oneB l) N := by unfold rankB; rw [hf]; simp
    have HX := Lib.hid hx
    have HF := Lib.hid hf
    have HL2 := Lib.hid hl2
    have HC := Lib.hid hc
    have HIX := Lib.hid hix
    clear hx hf hl2 hc hix hlb
    go_enter Tryz.func52, Tryz.ntmps52
    go_wp2_with fail
    go_loopw [3] (fun i wr => ∃ k : Nat, k ≤ N ∧ i = .int .i64 k ∧ allTo (oneB l) k = true ∧ Below w.heap.size w wr ∧ Blk wr w.heap.size 31 #[.int .i64 N, .slice a l.length c]) (fun i _ => N - (intOf i).toNat)
    case atStart => exact ⟨0, Nat.zero_le _, rfl, rfl, bl1 _ _, K0⟩
    case round =>
      obtain ⟨k, hk, rfl, hall, B, K⟩ := hrel
      obtain ⟨wo, rfl⟩ : ∃ wo : World, wo = wr := ⟨_, rfl⟩
      have H := Lib.hid hall
      clear hall K0
      have G1 := K.cell
      go_wp2_with fail
      refine (polyS_any N l _ _ (hv0.below B (Nat.le_refl _)) hl).mono ?_
      rintro e w1 ⟨rfl, hb1⟩
      rw [HF.out]
      have K := K.keep hb1
      have B1 := B.after hb1 B.size
      clear G1 hb1 B
      have G1 := K.cell
      by_cases hkn : k < N
      · have hp : 2 ^ k < l.length := by rw [HL2.out]; exact Nat.pow_lt_pow_right (by decide) hkn
        have c0 := cells_below HC.out hb B1 (Nat.le_refl _) (2 ^ k) hp
        have i0 := fun W => HIX.out W (2 ^ k) hp
        have hcast : ((2 ^ k : Nat) : Int) = (2 : Int) ^ k := by simp
        simp only [hcast] at i0
        have hone : oneB l k = !decide ((1 : Int) < l[2 ^ k]) := by unfold oneB; rw [getD_at l _ hp]
        obtain ⟨x, hx⟩ : ∃ x, x = l[2 ^ k] := ⟨_, rfl⟩
        rw [← hx] at c0 hone
        have HO := Lib.hid hone
        have pk1 : (2 : Int) ^ k ≤ 32 := by rw [← hcast]; omega
        have pk2 := (two_pow k k (Nat.le_refl _)).2
        have wk : IntKind.i64.wrap ((2 : Int) ^ k) = 2 ^ k := by rw [IntKind.wrap_i64]; omega
        clear hone hx hcast hp
        by_cases hgt : (1 : Int) < x
        · have hbad : rankB N l = false := by rw [HX.out]; exact allTo_false hkn (by rw [HO.out, decide_eq_true hgt]; rfl)
          have HBAD := Lib.hid hbad
          clear hbad
          go_wp2_with fail
          go_quiet (fail)
          go_wp2
          go_ret
          exact ⟨ret_bool HBAD.out.symm, B1.drewN' _⟩
        · have hu : oneB l k = true := by rw [HO.out, decide_eq_false hgt]; rfl
          have HU := Lib.hid hu
          clear hu
          go_wp2_with fail
          go_quiet (fail)
          go_wp2
          go_roundw
          case rel => exact ⟨k + 1, by omega, by go_num, allTo_succ H.out HU.out, B1.drewN' _, K.drewN _⟩
          case measure => simp [intOf]; omega
      · have hkN : k = N := by omega
        subst hkN
        go_wp2_with fail
        refine (polyS_any k l _ _ (hv0.below B1 (Nat.le_refl _)) hl).mono ?_
        rintro e w2 ⟨rfl, hb2⟩
        rw [HF.out]
        go_wp2
        go_ret
        exact ⟨ret_bool (by rw [HX.out, H.out]), B1.after hb2 B1.size⟩
end Go.Proofs.YtelmokapdkepbaaGreat
end
