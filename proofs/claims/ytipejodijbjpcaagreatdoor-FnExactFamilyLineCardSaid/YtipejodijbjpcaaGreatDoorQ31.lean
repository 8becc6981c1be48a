/- The sum of LYM: both programs. Colourings of families: the first program. Cross-free families: both programs. -/
import Derived.Test.YtipejodijbjpcaaGreatDoorQ30
import Derived.Lib.MinMax
section
namespace Go.Proofs.YtipejodijbjpcaaGreatDoor
open Go.RowKit Go.G5

theorem binI_b1 : ∀ n : Nat, n < 7 → ∀ i : Nat, i < 7 → binI n i ≤ 20 := by decide +kernel
theorem binI_b2 : ∀ n : Nat, n < 7 → ∀ i : Nat, i < 7 → binI n i * (n - i) ≤ 120 := by decide +kernel
theorem binS_mul : ∀ n : Nat, n < 7 → ∀ k : Nat, k < 7 → k ≤ n → ∀ i : Nat, i < 7 → i ≤ k → binS n k i * (n - k + (i + 1)) ≤ 140 := by decide +kernel
set_option maxHeartbeats 400000 in
theorem binomialI_any (n k : Nat) (w : World) (hn : n ≤ 6) (hk : k ≤ n) :
    Calls Tryz.prog 228 #[.int .i64 (n : Int), .int .i64 (k : Int)] w fun e w' => e = .returned (.int .i64 (binI n k : Int)) ∧ w = w' := by
  have h1 : ¬ (n : Int) < (k : Int) := by omega
  have hb : ∀ i : Nat, i < 7 → i ≤ k → binI n i ≤ 20 ∧ binI n i * (n - i) ≤ 120 := fun i h _ => ⟨binI_b1 n (by omega) i h, binI_b2 n (by omega) i h⟩
  have HB := Lib.hid hb
  clear hb
  go_enter Tryz.func228, Tryz.ntmps228
  go_wp2
  go_loop [5, 15] (fun rv iv => ∃ i : Nat, i ≤ k ∧ iv = .int .i64 i ∧ rv = .int .i64 (binI n i : Int)) (fun _ iv => k - (intOf iv).toNat)
  case atStart => exact ⟨0, Nat.zero_le _, rfl, rfl⟩
  case round =>
    obtain ⟨i, hi, rfl, rfl⟩ := hrel
    have hb := HB.out i (by omega) hi
    by_cases hlt : i < k
    · have hlt2 : (i : Int) < (k : Int) := by omega
      have hs : binI n (i + 1) = binI n i * (n - i) / (i + 1) := rfl
      have hmc : (binI n i : Int) * ((n : Int) - (i : Int)) = ((binI n i * (n - i) : Nat) : Int) := by rw [Int.natCast_mul, Int.ofNat_sub (by omega)]
      obtain ⟨R, hR⟩ : ∃ R, R = binI n i := ⟨_, rfl⟩
      rw [← hR] at hb hs hmc ⊢
      obtain ⟨P, hP⟩ : ∃ P, P = R * (n - i) := ⟨_, rfl⟩
      rw [← hP] at hb hs hmc
      have hw1 : IntKind.i64.wrap ((n : Int) - (i : Int)) = (n : Int) - (i : Int) := by rw [IntKind.wrap_i64]; omega
      have hw2 : IntKind.i64.wrap ((R : Int) * ((n : Int) - (i : Int))) = (P : Int) := by rw [hmc, IntKind.wrap_i64]; omega
      have hw3 : IntKind.i64.wrap ((i : Int) + 1) = (i : Int) + 1 := by rw [IntKind.wrap_i64]; omega
      have hq : (P : Int).tdiv ((i : Int) + 1) = (binI n (i + 1) : Int) := by
        rw [hs, show (i : Int) + 1 = ((i + 1 : Nat) : Int) by simp]; rfl
      have HQ := Lib.hid hq
      have hne : ¬ (i : Int) + 1 = 0 := by omega
      have hP2 := hb.2
      have hdv : P / (i + 1) ≤ P := Nat.div_le_self _ _
      have hS : (binI n (i + 1)) ≤ 120 := by rw [hs]; omega
      obtain ⟨D, hD⟩ : ∃ D, D = binI n (i + 1) := ⟨_, rfl⟩
      rw [← hD] at hq hS
      have hwd : IntKind.i64.wrap (D : Int) = (D : Int) := by rw [IntKind.wrap_i64]; omega
      have HD := Lib.hid hD
      clear hmc hs hR hP hdv hD
      go_wp2
      go_round
      case rel => exact ⟨i + 1, by omega, by go_num, by rw [← HD.out]⟩
      case measure => simp [intOf]; omega
    · have hlt2 : ¬ (i : Int) < (k : Int) := by omega
      have hie : i = k := by omega
      have HI := Lib.hid hie
      clear hie
      go_wp2
      go_ret
      exact ⟨by rw [← HI.out]; rfl, rfl⟩
set_option maxHeartbeats 400000 in
theorem chooseS_any (n k : Nat) (w : World) (hn : n ≤ 6) (hk : k ≤ n) :
    Calls Tryz.prog 218 #[.int .i64 (n : Int), .int .i64 (k : Int)] w fun e w' => e = .returned (.int .i64 (binI n k : Int)) ∧ w = w' := by
  have hb : ∀ i : Nat, i < 7 → i ≤ k → binS n k i ≤ 20 ∧ binS n k i * (n - k + (i + 1)) ≤ 140 := fun i h h' => ⟨binS_bd n (by omega) k (by omega) hk i h h', binS_mul n (by omega) k (by omega) hk i h h'⟩
  have hsame := bin_same n (by omega) k (by omega) hk
  have hi1 : inB (n : Int) 0 20 = true := inB_true.2 ⟨by omega, by omega⟩
  have hi2 : inB (k : Int) 0 (n : Int) = true := inB_true.2 ⟨by omega, by omega⟩
  have hl1 := fun W => l1In_any (n : Int) 0 20 W
  have hl2 := fun W => l1In_any (k : Int) 0 (n : Int) W
  simp only [hi1] at hl1
  simp only [hi2] at hl2
  have HL1 := Lib.hid hl1
  have HL2 := Lib.hid hl2
  have HB := Lib.hid hb
  have HSM := Lib.hid hsame
  have hwk : IntKind.i64.wrap ((n : Int) - (k : Int)) = (n : Int) - (k : Int) := by rw [IntKind.wrap_i64]; omega
  clear hb hsame hi1 hi2 hl1 hl2
  go_enter Tryz.func218, Tryz.ntmps218
  go_wp2_with (go_at_call 188; first | (with_reducible refine (HL1.out _).mono ?_; rintro e w' ⟨rfl, rfl⟩) | (with_reducible refine (HL2.out _).mono ?_; rintro e w' ⟨rfl, rfl⟩))
  go_loop [5, 6] (fun rv iv => ∃ i : Nat, i ≤ k ∧ iv = .int .i64 ((i : Int) + 1) ∧ rv = .int .i64 (binS n k i : Int)) (fun _ iv => k + 1 - (intOf iv).toNat)
  case atStart => exact ⟨0, Nat.zero_le _, rfl, rfl⟩
  case round =>
    obtain ⟨i, hi, rfl, rfl⟩ := hrel
    have hb := HB.out i (by omega) hi
    by_cases hlt : i < k
    · have hlt2 : (i : Int) + 1 ≤ (k : Int) := by omega
      have hs : binS n k (i + 1) = binS n k i * (n - k + (i + 1)) / (i + 1) := rfl
      have hmc : (binS n k i : Int) * ((n : Int) - (k : Int) + ((i : Int) + 1)) = ((binS n k i * (n - k + (i + 1)) : Nat) : Int) := by rw [Int.natCast_mul, Int.natCast_add, Int.ofNat_sub hk]; simp
      obtain ⟨R, hR⟩ : ∃ R, R = binS n k i := ⟨_, rfl⟩
      rw [← hR] at hb hs hmc ⊢
      obtain ⟨P, hP⟩ : ∃ P, P = R * (n - k + (i + 1)) := ⟨_, rfl⟩
      rw [← hP] at hb hs hmc
      have hw1 : IntKind.i64.wrap ((n : Int) - (k : Int) + ((i : Int) + 1)) = (n : Int) - (k : Int) + ((i : Int) + 1) := by rw [IntKind.wrap_i64]; omega
      have hw2 : IntKind.i64.wrap ((R : Int) * ((n : Int) - (k : Int) + ((i : Int) + 1))) = (P : Int) := by rw [hmc, IntKind.wrap_i64]; omega
      have hw3 : IntKind.i64.wrap ((i : Int) + 1 + 1) = (i : Int) + 1 + 1 := by rw [IntKind.wrap_i64]; omega
      have hq : (P : Int).tdiv ((i : Int) + 1) = (binS n k (i + 1) : Int) := by
        rw [hs, show (i : Int) + 1 = ((i + 1 : Nat) : Int) by simp]; rfl
      have hne : ¬ (i : Int) + 1 = 0 := by omega
      have hdv : P / (i + 1) ≤ P := Nat.div_le_self _ _
      have hS : (binS n k (i + 1)) ≤ 140 := by rw [hs]; omega
      obtain ⟨D, hD⟩ : ∃ D, D = binS n k (i + 1) := ⟨_, rfl⟩
      rw [← hD] at hq hS
      have hwd : IntKind.i64.wrap (D : Int) = (D : Int) := by rw [IntKind.wrap_i64]; omega
      have HD := Lib.hid hD
      clear hmc hs hR hP hdv hD
      go_wp2
      go_round
      case rel => exact ⟨i + 1, by omega, by go_num, by rw [← HD.out]⟩
      case measure => simp [intOf]; omega
    · have hlt2 : ¬ (i : Int) + 1 ≤ (k : Int) := by omega
      have hie : i = k := by omega
      have HI := Lib.hid hie
      clear hie
      go_wp2
      go_ret
      exact ⟨by rw [← HSM.out, ← HI.out]; rfl, rfl⟩

set_option maxHeartbeats 1000000 in
set_option maxRecDepth 100000 in
theorem lymI_any (g : Int) (l : List Int) (v : Value) (w : World) (hv : Ints w v l) (hf : isFamB g l = true) :
    Calls Tryz.prog 97 #[.agg #[.int .i64 g, v]] w fun e w' => e = .returned (.int .i64 (lymN g l)) ∧ Below w.heap.size w w' := by
  have hv0 := hv
  obtain ⟨a, b, off, c, rfl, hlen, hix, hc, hb⟩ := hv.view Tryz.prog 22 3 Tryz.underlying22 intElem
  obtain ⟨h0, h6, hq1, hq2⟩ := famOk hf
  obtain ⟨N, rfl⟩ := Int.eq_ofNat_of_zero_le h0
  have hN : N ≤ 6 := by omega
  have hll := fam_len hf
  have hx : lymN (N : Int) l = lyTo N l l.length := by unfold lymN; rw [hf, Int.toNat_natCast]; rfl
  have hm : ∀ s ∈ l, ∃ n : Nat, s = (n : Int) ∧ n < 64 ∧ pop n ≤ N := fun s hs => by
    have h := hq1 s hs
    obtain ⟨n, rfl⟩ := Int.eq_ofNat_of_zero_le h.1
    rw [Int.toNat_natCast] at h
    have e : ((2 : Int) ^ N) = ((2 ^ N : Nat) : Int) := by simp
    have h64 : (2 : Nat) ^ N ≤ 2 ^ 6 := Nat.pow_le_pow_right (by decide) hN
    exact ⟨n, rfl, by omega, pop_g6 N (by omega) n (by omega)⟩
  have K0 := Blk.new w 27 #[.int .i64 (N : Int), .slice a l.length c]
  have hbd := lyTo_bd N l
  have HX := Lib.hid hx
  have HC := Lib.hid hc
  have HIX := Lib.hid hix
  have HM := Lib.hid hm
  have HBD := Lib.hid hbd
  have hfm := isFamI_any (N : Int) l _ _ (hv0.alloc (.cells #[.int .i64 (N : Int), .slice a l.length c] 27))
  rw [hf] at hfm
  have HFM := Lib.hid hfm
  clear hx hc hix hm hbd hfm hf hq1 hq2
  go_enter Tryz.func97, Tryz.ntmps97
  go_wp2_with fail
  refine HFM.out.mono ?_
  rintro e w1 ⟨rfl, b1⟩
  have B1 : Below w.heap.size w w1 := (bl1 _ _).after b1 (by simp)
  have K1 := K0.keep b1
  have G1 := K1.cell
  clear K0 b1
  go_wp2_with fail
  clear G1
  go_loopw [3,12] (fun sv iv wr => ∃ (j m : Nat), j ≤ l.length ∧ iv = .int .i64 j ∧ sv = .int .i64 (lyTo N l j) ∧ wr = w1.drewN m) (fun _ iv _ => l.length - (intOf iv).toNat)
  case atStart => exact ⟨0, 0, Nat.zero_le _, rfl, rfl, rfl⟩
  case round =>
    obtain ⟨j, m, hj, rfl, rfl, rfl⟩ := hrel
    have hb1 := HBD.out j
    have G := K1.cell
    have B := B1
    by_cases hlt : j < l.length
    · skip
      have hlt2 : (j : Int) < (l.length : Int) := by omega
      have ck := cells_below HC.out hb B (Nat.le_refl _) j hlt
      have ik := fun W => HIX.out W j hlt
      obtain ⟨n, hn, hn64, hpn⟩ := HM.out _ (List.getElem_mem hlt)
      have hs : lyTo N l (j + 1) = lyTo N l j + ((60 / binI N (pop n) : Nat) : Int) := by rw [lyTo, getD_at l j hlt, hn, Int.toNat_natCast]
      rw [hn] at ck
      have hbp := bin_pos N (by omega) (pop n) (by omega) hpn
      obtain ⟨p, hp⟩ : ∃ p, p = pop n := ⟨_, rfl⟩
      obtain ⟨D, hD⟩ : ∃ D, D = binI N (pop n) := ⟨_, rfl⟩
      rw [← hD] at hs hbp
      have hq : (60 : Int).tdiv (D : Int) = ((60 / D : Nat) : Int) := rfl
      have hq60 : 60 / D ≤ 60 := Nat.div_le_self _ _
      obtain ⟨Q, hQ⟩ : ∃ Q, Q = 60 / D := ⟨_, rfl⟩
      rw [← hQ] at hs hq hq60
      obtain ⟨S, hS⟩ : ∃ S, S = lyTo N l j := ⟨_, rfl⟩
      rw [← hS] at hs hb1 ⊢
      have hne : ¬ (D : Int) = 0 := by omega
      have hw1 : IntKind.i64.wrap (Q : Int) = (Q : Int) := by rw [IntKind.wrap_i64]; omega
      have hw2 : IntKind.i64.wrap (S + (Q : Int)) = S + (Q : Int) := by rw [IntKind.wrap_i64]; omega
      have HS := Lib.hid hs
      have HD := Lib.hid hD
      have HPN := Lib.hid hpn
      have HSZ := Lib.hid (fun W => sizeOf_any n W (by omega))
      simp only [← hp] at HSZ
      have HBN := Lib.hid (fun W => binomialI_any N p W hN (by have := HPN.out; omega))
      have hbe : binI N p = D := by rw [HD.out, hp]
      simp only [hbe] at HBN
      clear hn hs hD hQ hS hp hpn hbe
      go_wp2_with fail
      go_quiet ((first | (go_at_call 170; first | exact q_same2 (HSZ.out _) | exact q_same (HSZ.out _)) | (go_at_call 228; first | exact q_same2 (HBN.out _) | exact q_same (HBN.out _))))
      go_wp2
      go_roundw
      case rel => exact ⟨j + 1, m + nq, by omega, by go_num, by rw [HS.out], by simp⟩
      case measure => simp [intOf]; omega
    · have hlt2 : ¬ (j : Int) < (l.length : Int) := by omega
      have hje : j = l.length := by omega
      have HJ := Lib.hid hje
      clear hje
      go_wp2
      go_ret
      exact ⟨ret_int (by rw [HX.out, ← HJ.out]), B1.drewN' _⟩
set_option maxHeartbeats 1000000 in
set_option maxRecDepth 100000 in
theorem lymS_any (g : Int) (l : List Int) (v : Value) (w : World) (hv : Ints w v l) (hf : isFamB g l = true) :
    Calls Tryz.prog 79 #[.agg #[.int .i64 g, v]] w fun e w' => e = .returned (.int .i64 (lymN g l)) ∧ Below w.heap.size w w' := by
  have hv0 := hv
  obtain ⟨a, b, off, c, rfl, hlen, hix, hc, hb⟩ := hv.view Tryz.prog 22 3 Tryz.underlying22 intElem
  obtain ⟨h0, h6, hq1, hq2⟩ := famOk hf
  obtain ⟨N, rfl⟩ := Int.eq_ofNat_of_zero_le h0
  have hN : N ≤ 6 := by omega
  have hll := fam_len hf
  have hx : lymN (N : Int) l = lyTo N l l.length := by unfold lymN; rw [hf, Int.toNat_natCast]; rfl
  have hm : ∀ s ∈ l, ∃ n : Nat, s = (n : Int) ∧ n < 64 ∧ pop n ≤ N := fun s hs => by
    have h := hq1 s hs
    obtain ⟨n, rfl⟩ := Int.eq_ofNat_of_zero_le h.1
    rw [Int.toNat_natCast] at h
    have e : ((2 : Int) ^ N) = ((2 ^ N : Nat) : Int) := by simp
    have h64 : (2 : Nat) ^ N ≤ 2 ^ 6 := Nat.pow_le_pow_right (by decide) hN
    exact ⟨n, rfl, by omega, pop_g6 N (by omega) n (by omega)⟩
  have K0 := Blk.new w 27 #[.int .i64 (N : Int), .slice a l.length c]
  have hbd := lyTo_bd N l
  have HX := Lib.hid hx
  have HC := Lib.hid hc
  have HIX := Lib.hid hix
  have HM := Lib.hid hm
  have HBD := Lib.hid hbd
  have hfm := isFamS_any (N : Int) l _ _ (hv0.alloc (.cells #[.int .i64 (N : Int), .slice a l.length c] 27))
  rw [hf] at hfm
  have HFM := Lib.hid hfm
  clear hx hc hix hm hbd hfm hf hq1 hq2
  go_enter Tryz.func79, Tryz.ntmps79
  go_wp2_with fail
  refine HFM.out.mono ?_
  rintro e w1 ⟨rfl, b1⟩
  have B1 : Below w.heap.size w w1 := (bl1 _ _).after b1 (by simp)
  have K1 := K0.keep b1
  have G1 := K1.cell
  clear K0 b1
  go_wp2_with fail
  clear G1
  go_loopw [3,4] (fun sv iv wr => ∃ (j m : Nat), j ≤ l.length ∧ iv = .int .i64 j ∧ sv = .int .i64 (lyTo N l j) ∧ wr = w1.drewN m) (fun _ iv _ => l.length - (intOf iv).toNat)
  case atStart => exact ⟨0, 0, Nat.zero_le _, rfl, rfl, rfl⟩
  case round =>
    obtain ⟨j, m, hj, rfl, rfl, rfl⟩ := hrel
    have hb1 := HBD.out j
    have G := K1.cell
    have B := B1
    by_cases hlt : j < l.length
    · skip
      have hlt2 : (j : Int) < (l.length : Int) := by omega
      have ck := cells_below HC.out hb B (Nat.le_refl _) j hlt
      have ik := fun W => HIX.out W j hlt
      obtain ⟨n, hn, hn64, hpn⟩ := HM.out _ (List.getElem_mem hlt)
      have hs : lyTo N l (j + 1) = lyTo N l j + ((60 / binI N (pop n) : Nat) : Int) := by rw [lyTo, getD_at l j hlt, hn, Int.toNat_natCast]
      rw [hn] at ck
      have hbp := bin_pos N (by omega) (pop n) (by omega) hpn
      obtain ⟨p, hp⟩ : ∃ p, p = pop n := ⟨_, rfl⟩
      obtain ⟨D, hD⟩ : ∃ D, D = binI N (pop n) := ⟨_, rfl⟩
      rw [← hD] at hs hbp
      have hq : (60 : Int).tdiv (D : Int) = ((60 / D : Nat) : Int) := rfl
      have hq60 : 60 / D ≤ 60 := Nat.div_le_self _ _
      obtain ⟨Q, hQ⟩ : ∃ Q, Q = 60 / D := ⟨_, rfl⟩
      rw [← hQ] at hs hq hq60
      obtain ⟨S, hS⟩ : ∃ S, S = lyTo N l j := ⟨_, rfl⟩
      rw [← hS] at hs hb1 ⊢
      have hne : ¬ (D : Int) = 0 := by omega
      have hw1 : IntKind.i64.wrap (Q : Int) = (Q : Int) := by rw [IntKind.wrap_i64]; omega
      have hw2 : IntKind.i64.wrap (S + (Q : Int)) = S + (Q : Int) := by rw [IntKind.wrap_i64]; omega
      have HS := Lib.hid hs
      have HD := Lib.hid hD
      have HPN := Lib.hid hpn
      have HSZ := Lib.hid (fun W => l2Size_any n W (by omega))
      simp only [← hp] at HSZ
      have HBN := Lib.hid (fun W => chooseS_any N p W hN (by have := HPN.out; omega))
      have hbe : binI N p = D := by rw [HD.out, hp]
      simp only [hbe] at HBN
      clear hn hs hD hQ hS hp hpn hbe
      go_wp2_with fail
      go_quiet ((first | (go_at_call 173; first | exact q_same2 (HSZ.out _) | exact q_same (HSZ.out _)) | (go_at_call 218; first | exact q_same2 (HBN.out _) | exact q_same (HBN.out _))))
      go_wp2
      go_roundw
      case rel => exact ⟨j + 1, m + nq, by omega, by go_num, by rw [HS.out], by simp⟩
      case measure => simp [intOf]; omega
    · have hlt2 : ¬ (j : Int) < (l.length : Int) := by omega
      have hje : j = l.length := by omega
      have HJ := Lib.hid hje
      clear hje
      go_wp2
      go_ret
      exact ⟨ret_int (by rw [HX.out, ← HJ.out]), B1.drewN' _⟩
end Go.Proofs.YtipejodijbjpcaaGreatDoor
end
section
namespace Go.Proofs.YtipejodijbjpcaaGreatDoor
open Go.RowKit Go.G5

set_option maxHeartbeats 400000 in
theorem imbI_any (s r : Int) (w : World) (hs : 0 ≤ s ∧ s < 64) (hr : 0 ≤ r ∧ r < 64) :
    Calls Tryz.prog 307 #[.int .i64 s, .int .i64 r] w fun e w' => e = .returned (.int .i64 (imbN s r)) ∧ w = w' := by
  have hA := iand_is hs.1 (show s < 4611686018427387904 by omega) hr.1 (show r < 4611686018427387904 by omega)
  have hB := idif_is hs.1 hs.2 hr.1 hr.2
  have hA2 := iand_bd s r 64 hs.1 hs.2
  have hB2 := idif_bd s r 64 hs.1 hs.2
  have hbd := imb_bd hs hr
  have hx : imbN s r = max (ipop (iand s r) - ipop (idif s r)) (-(ipop (iand s r) - ipop (idif s r))) := rfl
  obtain ⟨A, hAe⟩ : ∃ A, A = iand s r := ⟨_, rfl⟩
  obtain ⟨B, hBe⟩ : ∃ A, A = idif s r := ⟨_, rfl⟩
  rw [← hAe] at hA hA2 hbd hx
  rw [← hBe] at hB hB2 hbd hx
  have HS1 := Lib.hid (fun W => sizeOf_i A W hA2.1 (by omega))
  have HS2 := Lib.hid (fun W => sizeOf_i B W hB2.1 (by omega))
  obtain ⟨p, hp⟩ : ∃ p, p = ipop A := ⟨_, rfl⟩
  obtain ⟨q, hq⟩ : ∃ p, p = ipop B := ⟨_, rfl⟩
  simp only [← hp] at HS1 hbd hx
  simp only [← hq] at HS2 hbd hx
  have hw1 : IntKind.i64.wrap (p - q) = p - q := by rw [IntKind.wrap_i64]; omega
  have hw2 : IntKind.i64.wrap (-(p - q)) = -(p - q) := by rw [IntKind.wrap_i64]; omega
  have HX := Lib.hid hx
  clear hx hAe hBe hp hq hA2 hB2
  go_enter Tryz.func307, Tryz.ntmps307
  go_wp2_with (go_at_call 170; first | (with_reducible refine (HS1.out _).mono ?_; rintro e w' ⟨rfl, rfl⟩) | (with_reducible refine (HS2.out _).mono ?_; rintro e w' ⟨rfl, rfl⟩))
  go_ret
  exact ⟨ret_int (by rw [HX.out]; try omega), rfl⟩
set_option maxHeartbeats 1000000 in
theorem worstI_any (l : List Int) (v : Value) (r : Int) (w : World) (hv : Ints w v l) (hm : ∀ s ∈ l, 0 ≤ s ∧ s < 64) (hr : 0 ≤ r ∧ r < 64) :
    Calls Tryz.prog 225 #[v, .int .i64 r] w fun e w' => e = .returned (.int .i64 (woN l r)) ∧ w = w' := by
  obtain ⟨a, b, off, c, rfl, hlen, hix, hc, hb⟩ := hv.view Tryz.prog 22 3 Tryz.underlying22 intElem
  have hbd := woTo_bd l r hm hr
  have HC := Lib.hid hc
  have HIX := Lib.hid hix
  have HM := Lib.hid hm
  have HBD := Lib.hid hbd
  clear hc hix hm hbd
  go_enter Tryz.func225, Tryz.ntmps225
  go_wp2
  go_loop [5, 10] (fun mv iv => ∃ j : Nat, j ≤ l.length ∧ iv = .int .i64 j ∧ mv = .int .i64 (woTo l r j)) (fun _ iv => l.length - (intOf iv).toNat)
  case atStart => exact ⟨0, Nat.zero_le _, rfl, rfl⟩
  case round =>
    obtain ⟨j, hj, rfl, rfl⟩ := hrel
    have hb1 := HBD.out j
    by_cases hlt : j < l.length
    · have hlt2 : (j : Int) < (l.length : Int) := by omega
      have ck := HC.out j hlt
      have ik := fun W => HIX.out W j hlt
      have him := fun W => imbI_any l[j] r W (HM.out _ (List.getElem_mem hlt)) hr
      have hs : woTo l r (j + 1) = max (woTo l r j) (imbN l[j] r) := by rw [woTo, getD_at l j hlt]
      obtain ⟨y, hy⟩ : ∃ y, y = l[j] := ⟨_, rfl⟩
      rw [← hy] at ck hs
      simp only [← hy] at him
      obtain ⟨z, hz⟩ : ∃ z, z = imbN y r := ⟨_, rfl⟩
      rw [← hz] at hs
      simp only [← hz] at him
      obtain ⟨M, hM⟩ : ∃ y, y = woTo l r j := ⟨_, rfl⟩
      rw [← hM] at hs hb1 ⊢
      have HS := Lib.hid hs
      have HIM := Lib.hid him
      clear hy hz hM hs him
      go_wp2_with (go_at_call 307; refine (HIM.out _).mono ?_; rintro e w' ⟨rfl, rfl⟩)
      go_round
      case rel => exact ⟨j + 1, by omega, by go_num, by rw [HS.out]; try omega⟩
      case measure => simp [intOf]; omega
    · have hlt2 : ¬ (j : Int) < (l.length : Int) := by omega
      have hje : j = l.length := by omega
      have HJ := Lib.hid hje
      clear hje
      go_wp2
      go_ret
      exact ⟨ret_int (by unfold woN; rw [← HJ.out]), rfl⟩
theorem clTo_succ (l : List Int) (r : Nat) : clTo l (r + 1) = if woN l ((r + 1 : Nat) : Int) < (clTo l r).2 then (((r + 1 : Nat) : Int), woN l ((r + 1 : Nat) : Int)) else clTo l r := rfl
set_option maxHeartbeats 1000000 in
set_option maxRecDepth 100000 in
theorem coloringI_any (g : Int) (l : List Int) (v : Value) (w : World) (hv : Ints w v l) (hf : isFamB g l = true) :
    Calls Tryz.prog 91 #[.agg #[.int .i64 g, v]] w fun e w' => e = .returned (.tuple #[.int .i64 (clR g l), .int .i64 (clN g l)]) ∧ Below w.heap.size w w' := by
  obtain ⟨a, c, rfl⟩ := hv.shape
  have hm := fam_mem hf
  obtain ⟨h0, h6, _, _⟩ := famOk hf
  obtain ⟨N, rfl⟩ := Int.eq_ofNat_of_zero_le h0
  have hN : N ≤ 6 := by omega
  have hr1 : clR (N : Int) l = (clTo l (2 ^ N - 1)).1 := by unfold clR; rw [hf, Int.toNat_natCast]; rfl
  have hr2 : clN (N : Int) l = (clTo l (2 ^ N - 1)).2 := by unfold clN; rw [hf, Int.toNat_natCast]; rfl
  have hbd := clTo_bd l hm
  have hwo := fun (W : World) (r : Int) (h : Ints W (.slice a l.length c) l) (hr : 0 ≤ r ∧ r < 64) => worstI_any l _ r W h hm hr
  have hgo := fun (W : World) (h : Ints W (.slice a l.length c) l) => groundOf_any (N : Int) _ l W h h0 (by omega)
  simp only [Int.toNat_natCast] at hgo
  have h64 : (2 : Nat) ^ N ≤ 2 ^ 6 := Nat.pow_le_pow_right (by decide) hN
  have hpn := Nat.two_pow_pos N
  have hcast : ((2 : Int) ^ N) = ((2 ^ N : Nat) : Int) := by simp
  have hstart : clTo l 0 = (0, woN l 0) := rfl
  obtain ⟨M, hM⟩ : ∃ M, M = 2 ^ N - 1 := ⟨_, rfl⟩
  have hMi : ((2 : Int) ^ N) - 1 = (M : Int) := by rw [hcast, hM]; omega
  have hM64 : M < 64 := by omega
  rw [← hM] at hr1 hr2
  simp only [hMi] at hgo
  have K0 := Blk.new w 27 #[.int .i64 (N : Int), .slice a l.length c]
  have HR := Lib.hid (And.intro hr1 hr2)
  have HBD := Lib.hid hbd
  have HWO := Lib.hid hwo
  have HGO := Lib.hid hgo
  have hv1 := hv.alloc (.cells #[.int .i64 (N : Int), .slice a l.length c] 27)
  have hw0 := hwo _ 0 hv1 (by omega)
  obtain ⟨W0, hW0⟩ : ∃ z, z = woN l 0 := ⟨_, rfl⟩
  rw [← hW0] at hw0 hstart
  have HW := Lib.hid hw0
  have HS := Lib.hid hstart
  clear hr1 hr2 hbd hwo hgo h64 hpn hcast hM hMi hm hf hw0 hstart hW0 hv1
  go_enter Tryz.func91, Tryz.ntmps91
  go_wp2_with (go_at_call 225; refine HW.out.mono ?_; rintro e w' ⟨rfl, rfl⟩)
  go_loopw [4, 5, 6] (fun bv mv iv wr => ∃ (r : Nat), r ≤ M ∧ iv = .int .i64 ((r : Int) + 1) ∧ bv = .int .i64 (clTo l r).1 ∧ mv = .int .i64 (clTo l r).2 ∧ Blk wr w.heap.size 27 #[.int .i64 (N : Int), .slice a l.length c] ∧ Below w.heap.size w wr) (fun _ _ iv _ => M + 1 - (intOf iv).toNat)
  case atStart => exact ⟨0, Nat.zero_le _, rfl, by rw [HS.out], by rw [HS.out], K0, bl1 _ _⟩
  case round =>
    obtain ⟨r, hr, rfl, rfl, rfl, K, B⟩ := hrel
    clear K0
    have hb1 := HBD.out r (by omega)
    have hsu := clTo_succ l r
    have hcs : ((r + 1 : Nat) : Int) = (r : Int) + 1 := by omega
    rw [hcs] at hsu
    have hwn := HWO.out
    obtain ⟨C, hC⟩ : ∃ C, C = clTo l r := ⟨_, rfl⟩
    rw [← hC] at hb1 hsu ⊢
    have HC := Lib.hid hC
    have G := K.cell
    clear hC hcs hwn
    go_wp2_with fail
    refine (HGO.out wr (hv.below B (Nat.le_refl _))).mono ?_
    rintro e w2 ⟨rfl, b2⟩
    have B2 := B.after b2 B.size
    have K2 := K.keep b2
    clear G
    have G := K2.cell
    by_cases hlt : r < M
    · have hlt2 : (r : Int) + 1 ≤ (M : Int) := by omega
      have hwo := HWO.out w2 ((r : Int) + 1) (hv.below B2 (Nat.le_refl _)) (by omega)
      obtain ⟨D, hD⟩ : ∃ D, D = woN l ((r : Int) + 1) := ⟨_, rfl⟩
      rw [← hD] at hwo hsu
      have HWW := Lib.hid hwo
      have hwi : IntKind.i64.wrap ((r : Int) + 1 + 1) = (r : Int) + 1 + 1 := by rw [IntKind.wrap_i64]; omega
      by_cases hd : D < C.2
      · rw [if_pos hd] at hsu
        have HSU := Lib.hid hsu
        clear hsu hwo hD
        go_wp2_with (go_at_call 225; refine HWW.out.mono ?_; rintro e w' ⟨rfl, rfl⟩)
        go_roundw
        case rel => exact ⟨r + 1, by omega, by go_num, by rw [HSU.out], by rw [HSU.out], K2, B2⟩
        case measure => simp [intOf]; omega
      · rw [if_neg hd] at hsu
        have HSU := Lib.hid hsu
        clear hsu hwo hD
        go_wp2_with (go_at_call 225; refine HWW.out.mono ?_; rintro e w' ⟨rfl, rfl⟩)
        go_roundw
        case rel => exact ⟨r + 1, by omega, by go_num, by rw [HSU.out], by rw [HSU.out], K2, B2⟩
        case measure => simp [intOf]; omega
    · have hlt2 : ¬ (r : Int) + 1 ≤ (M : Int) := by omega
      have hre : r = M := by omega
      have HRE := Lib.hid hre
      clear hre hsu
      go_wp2
      go_ret2
      exact ⟨by rw [HR.out.1, HR.out.2, ← HRE.out, HC.out]; rfl, B2⟩
end Go.Proofs.YtipejodijbjpcaaGreatDoor
end
section
namespace Go.Proofs.YtipejodijbjpcaaGreatDoor
open Go.RowKit Go.G5

theorem pair_sets {N : Nat} {a b : Int} (hN : N ≤ 6) (ha : 0 ≤ a ∧ a < 2 ^ N) (hb : 0 ≤ b ∧ b < 2 ^ N) : areSetsB (N : Int) [a, b] = true := by
  unfold areSetsB
  rw [Bool.and_eq_true, List.all_eq_true]
  refine ⟨inB_true.2 ⟨by omega, by omega⟩, fun s hs => ?_⟩
  rw [Int.toNat_natCast]
  rcases List.mem_cons.1 hs with e | hs
  · rw [e]; exact isSet_true.2 ha
  · rw [List.mem_singleton] at hs
    rw [hs]; exact isSet_true.2 hb
theorem Ints.pairB {w : World} {b : Nat} {x y : Int} (h0 : w.cell? ⟨b, 0, none⟩ = some (.int .i64 x)) (h1 : w.cell? ⟨b, 1, none⟩ = some (.int .i64 y)) (hx : InR x) (hy : InR y) : Ints w (.slice (some ⟨b, 0, none⟩) 2 2) [x, y] :=
  ⟨some ⟨b, 0, none⟩, 2, rfl, Nat.le_refl _, by decide, by
    intro q hq
    rcases List.mem_cons.1 hq with e | hq
    · rw [e]; exact hx
    · rw [List.mem_singleton] at hq; rw [hq]; exact hy, .inr ⟨b, 0, rfl, World.block_lt_of_cell? w _ h0, fun k hk => by
      match k, hk with
      | 0, _ => exact h0
      | 1, _ => exact h1⟩⟩
set_option maxHeartbeats 1000000 in
set_option maxRecDepth 100000 in
theorem crossI_any (N : Nat) (a b : Int) (w : World) (hN : N ≤ 6) (ha : 0 ≤ a ∧ a < 2 ^ N) (hb : 0 ≤ b ∧ b < 2 ^ N) :
    Calls Tryz.prog 231 #[.int .i64 (N : Int), .int .i64 a, .int .i64 b] w fun e w' => e = .returned (.bool (crI N a b)) ∧ Below w.heap.size w w' := by
  have hp := two_pow N 6 hN
  have hp1 := hp.1
  have hp2 := hp.2
  simp at hp1
  have hst := areSets_any (N : Int) [a, b] (.slice (some ⟨w.heap.size, 0, none⟩) 2 2) (w.alloc (.cells #[.int .i64 a, .int .i64 b] 3)) (Ints.pairB (cell_new _ _ _ _ _ rfl) (cell_new _ _ _ _ _ rfl) ⟨by omega, by omega⟩ ⟨by omega, by omega⟩)
  rw [pair_sets hN ha hb] at hst
  have hcl := fun W => clash_any a b W ⟨ha.1, by omega⟩ ⟨hb.1, by omega⟩
  have hor := ior_is ha.1 (show a < 4611686018427387904 by omega) hb.1 (show b < 4611686018427387904 by omega)
  have hx : crI N a b = (clashI a b && ior a b != 2 ^ N - 1) := rfl
  have hwp : IntKind.i64.wrap ((2 : Int) ^ N) = 2 ^ N := by rw [IntKind.wrap_i64]; omega
  have hwq : IntKind.i64.wrap ((2 : Int) ^ N - 1) = 2 ^ N - 1 := by rw [IntKind.wrap_i64]; omega
  obtain ⟨y, hy⟩ : ∃ y, y = ior a b := ⟨_, rfl⟩
  rw [← hy] at hor hx
  obtain ⟨cb, hcb⟩ : ∃ y, y = clashI a b := ⟨_, rfl⟩
  simp only [← hcb] at hcl
  rw [← hcb] at hx
  have HST := Lib.hid hst
  have HCL := Lib.hid hcl
  have HX := Lib.hid hx
  clear hst hcl hx hy hcb hp
  go_enter Tryz.func231, Tryz.ntmps231
  cases cb with
  | false =>
    go_wp2_with (first | (go_at_call 224; refine HST.out.mono ?_; rintro e w' ⟨rfl, rfl⟩) | (go_at_call 308; refine (HCL.out _).mono ?_; rintro e w' ⟨rfl, rfl⟩))
    go_ret
    exact ⟨ret_bool HX.out.symm, bl1 _ _⟩
  | true =>
    go_wp2_with (first | (go_at_call 224; refine HST.out.mono ?_; rintro e w' ⟨rfl, rfl⟩) | (go_at_call 308; refine (HCL.out _).mono ?_; rintro e w' ⟨rfl, rfl⟩))
    go_ret
    exact ⟨ret_bool HX.out.symm, bl1 _ _⟩
set_option maxHeartbeats 1000000 in
set_option maxRecDepth 100000 in
theorem crossS_any (N : Nat) (a b : Int) (w : World) (hN : N ≤ 6) (ha : 0 ≤ a ∧ a < 2 ^ N) (hb : 0 ≤ b ∧ b < 2 ^ N) :
    Calls Tryz.prog 221 #[.int .i64 (N : Int), .int .i64 a, .int .i64 b] w fun e w' => e = .returned (.bool (crI N a b)) ∧ w = w' := by
  have hp := two_pow N 6 hN
  have hp1 := hp.1
  have hp2 := hp.2
  simp at hp1
  have hi0 : inB (N : Int) 0 6 = true := inB_true.2 ⟨by omega, by omega⟩
  have hi1 : inB a 0 (2 ^ N - 1) = true := inB_true.2 ⟨ha.1, by omega⟩
  have hi2 : inB b 0 (2 ^ N - 1) = true := inB_true.2 ⟨hb.1, by omega⟩
  have hl0 := fun W => l1In_any (N : Int) 0 6 W
  have hl1 := fun W => l1In_any a 0 (2 ^ N - 1) W
  have hl2 := fun W => l1In_any b 0 (2 ^ N - 1) W
  simp only [hi0] at hl0
  simp only [hi1] at hl1
  simp only [hi2] at hl2
  have HFU := Lib.hid (fun W => l2Full_any N W (by omega))
  have hor := ior_is ha.1 (show a < 4611686018427387904 by omega) hb.1 (show b < 4611686018427387904 by omega)
  have han := iand_is ha.1 (show a < 4611686018427387904 by omega) hb.1 (show b < 4611686018427387904 by omega)
  have hx : crI N a b = (((iand a b != 0 && iand a b != a) && iand a b != b) && ior a b != 2 ^ N - 1) := by unfold crI; rw [clash_same ha.1 hb.1]; rfl
  obtain ⟨y, hy⟩ : ∃ y, y = ior a b := ⟨_, rfl⟩
  obtain ⟨z, hz⟩ : ∃ y, y = iand a b := ⟨_, rfl⟩
  rw [← hy] at hor hx
  rw [← hz] at han hx
  have HL0 := Lib.hid hl0
  have HL1 := Lib.hid hl1
  have HL2 := Lib.hid hl2
  have HX := Lib.hid hx
  clear hl0 hl1 hl2 hi0 hi1 hi2 hx hy hz hp
  go_enter Tryz.func221, Tryz.ntmps221
  cases t1 : z != 0 with
  | false =>
    rw [t1] at HX
    go_wp2_with (first | (go_at_call 187; refine (HFU.out _).mono ?_; rintro e w' ⟨rfl, rfl⟩) | (go_at_call 188; first | (with_reducible refine (HL0.out _).mono ?_; rintro e w' ⟨rfl, rfl⟩) | (with_reducible refine (HL1.out _).mono ?_; rintro e w' ⟨rfl, rfl⟩) | (with_reducible refine (HL2.out _).mono ?_; rintro e w' ⟨rfl, rfl⟩)))
    go_ret
    exact ⟨ret_bool HX.out.symm, rfl⟩
  | true =>
    cases t2 : z != a with
    | false =>
      rw [t1, t2] at HX
      go_wp2_with (first | (go_at_call 187; refine (HFU.out _).mono ?_; rintro e w' ⟨rfl, rfl⟩) | (go_at_call 188; first | (with_reducible refine (HL0.out _).mono ?_; rintro e w' ⟨rfl, rfl⟩) | (with_reducible refine (HL1.out _).mono ?_; rintro e w' ⟨rfl, rfl⟩) | (with_reducible refine (HL2.out _).mono ?_; rintro e w' ⟨rfl, rfl⟩)))
      go_ret
      exact ⟨ret_bool HX.out.symm, rfl⟩
    | true =>
      cases t3 : z != b with
      | false =>
        rw [t1, t2, t3] at HX
        go_wp2_with (first | (go_at_call 187; refine (HFU.out _).mono ?_; rintro e w' ⟨rfl, rfl⟩) | (go_at_call 188; first | (with_reducible refine (HL0.out _).mono ?_; rintro e w' ⟨rfl, rfl⟩) | (with_reducible refine (HL1.out _).mono ?_; rintro e w' ⟨rfl, rfl⟩) | (with_reducible refine (HL2.out _).mono ?_; rintro e w' ⟨rfl, rfl⟩)))
        go_ret
        exact ⟨ret_bool HX.out.symm, rfl⟩
      | true =>
        rw [t1, t2, t3] at HX
        go_wp2_with (first | (go_at_call 187; refine (HFU.out _).mono ?_; rintro e w' ⟨rfl, rfl⟩) | (go_at_call 188; first | (with_reducible refine (HL0.out _).mono ?_; rintro e w' ⟨rfl, rfl⟩) | (with_reducible refine (HL1.out _).mono ?_; rintro e w' ⟨rfl, rfl⟩) | (with_reducible refine (HL2.out _).mono ?_; rintro e w' ⟨rfl, rfl⟩)))
        go_ret
        exact ⟨ret_bool HX.out.symm, rfl⟩
end Go.Proofs.YtipejodijbjpcaaGreatDoor
end
