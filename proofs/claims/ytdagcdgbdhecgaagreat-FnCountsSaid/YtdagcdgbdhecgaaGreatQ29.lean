/- Counts of families. -/
import Derived.Test.YtdagcdgbdhecgaaGreatQ28
section
namespace Go.Proofs.YtdagcdgbdhecgaaGreat
open Go.RowKit Go.G5

def qAntiI (n : Int) (code : Nat) : Bool := antiB n (famOf code (2 ^ n.toNat))
def qAntiS (n : Int) (code : Nat) : Bool := freeS (famOf code (2 ^ n.toNat))
theorem anti_enters : ∀ args w, (callFunc 31 args).run Tryz.prog w = .ok (.enter 31 args) w := enters_of Tryz.func31 (by kernel_rfl) rfl
theorem qAnti_same (n : Int) : cntOf qAntiI n = cntOf qAntiS n := by
  unfold cntOf
  cases h : inB n 0 3 with
  | false => rfl
  | true =>
    rcases in03 h with rfl | rfl | rfl | rfl
    · decide +kernel
    · decide +kernel
    · decide +kernel
    · decide +kernel

set_option maxHeartbeats 1000000 in
theorem CountAntichainsI_c (w : World) (n : Int) (_ : InR n) :
    Calls Tryz.prog 13 #[.int .i64 n] w fun e w' => e = .returned (.int .i64 (cntOf qAntiI n)) ∧ Below w.heap.size w w' := by
  cases h : inB n 0 3 with
  | false =>
    have hx : cntOf qAntiI n = -1 := by unfold cntOf; rw [h]; rfl
    have HX := Lib.hid hx
    clear hx
    go_enter Tryz.func13, Tryz.ntmps13
    go_wp2_with fail
    refine (countFam_out w n h _).mono ?_
    rintro e w1 ⟨rfl, hb⟩
    go_wp2
    go_ret
    exact ⟨ret_int HX.out.symm, hb⟩
  | true =>
    have fin : ∀ K : Int, n = K → Calls Tryz.prog 30 #[.int .i64 n, .func (.func 31) #[] #[]] w fun e w' => e = .returned (.int .i64 (cntOf qAntiI n)) ∧ Below w.heap.size w w' := by
      intro K hK
      have hx : cntOf qAntiI n = (cntTo (qAntiI n) (2 ^ 2 ^ n.toNat) : Int) := by unfold cntOf; rw [h]; rfl
      rw [hx]
      rcases in03 h with rfl | rfl | rfl | rfl
      · exact countFam_0 w _ anti_enters _ (fun code W v _ hv => isAnti_any _ _ v W hv)
      · exact countFam_1 w _ anti_enters _ (fun code W v _ hv => isAnti_any _ _ v W hv)
      · exact countFam_2 w _ anti_enters _ (fun code W v _ hv => isAnti_any _ _ v W hv)
      · exact countFam_3 w _ anti_enters _ (fun code W v _ hv => isAnti_any _ _ v W hv)
    have hcl := fin n rfl
    clear fin
    go_enter Tryz.func13, Tryz.ntmps13
    go_wp2_with fail
    refine hcl.mono ?_
    rintro e w1 ⟨rfl, hb⟩
    go_wp2
    go_ret
    exact ⟨rfl, hb⟩

set_option maxHeartbeats 1000000 in
set_option maxRecDepth 100000 in
theorem CountAntichainsS_0 (w : World) :
    Calls Tryz.prog 18 #[.int .i64 0] w fun e w' => e = .returned (.int .i64 (cntTo (qAntiS 0) 2 : Int)) ∧ Below w.heap.size w w' := by
  have hwi := l1In_any 0 0 3 w
  rw [show inB 0 0 3 = true by decide] at hwi
  go_enter Tryz.func18, Tryz.ntmps18
  go_wp2_with (go_at_call 25; refine hwi.mono ?_; rintro e w' ⟨rfl, rfl⟩)
  go_loopw [3, 4] (fun m i wr => ∃ k : Nat, k ≤ 2 ∧ i = .int .i64 k ∧ m = .int .i64 (cntTo (qAntiS 0) k : Int) ∧ Below w.heap.size w wr)
    (fun _ i _ => 2 - (intOf i).toNat)
  case atStart => exact ⟨0, Nat.zero_le _, rfl, rfl, Below.refl _ _⟩
  case round =>
    obtain ⟨k, hk, rfl, rfl, B⟩ := hrel
    have hle := cntTo_le (qAntiS 0) k
    by_cases hlt : k < 2
    · go_wp2_with fail
      refine (l31Family_any wr k (by omega)).mono ?_
      rintro e w2 ⟨ad, i, cp, rfl, ho, hb2⟩
      have B2 : Below w.heap.size w w2 := B.after hb2 B.size
      rw [famOf32 k 1 hlt (by decide)] at ho
      have hcl := l25Free_any (famOf k 1) _ w2 ho.ints (fun x hx => by have := famOf_bd k 1 x hx; omega) (by have := chosen_len (nbit k) 1; unfold famOf; omega)
      have hs : cntTo (qAntiS 0) (k + 1) = if qAntiS 0 k then cntTo (qAntiS 0) k + 1 else cntTo (qAntiS 0) k := rfl
      rw [show (freeS (famOf k 1)) = qAntiS 0 k from rfl] at hcl
      cases hQ : qAntiS 0 k with
      | false =>
        rw [hQ] at hcl hs
        have HS := Lib.hid hs
        clear hs
        go_wp2_with (go_at_call 35; refine hcl.mono ?_; rintro e w3 ⟨rfl, hb3⟩)
        have B3 := B2.after hb3 B2.size
        go_roundw
        case rel => exact ⟨k + 1, by omega, by go_num, by rw [HS.out]; rfl, B3⟩
        case measure => simp [intOf]; omega
      | true =>
        rw [hQ] at hcl hs
        have HS := Lib.hid hs
        clear hs
        go_wp2_with (go_at_call 35; refine hcl.mono ?_; rintro e w3 ⟨rfl, hb3⟩)
        have B3 := B2.after hb3 B2.size
        go_roundw
        case rel => exact ⟨k + 1, by omega, by go_num, by rw [HS.out]; go_num, B3⟩
        case measure => simp [intOf]; omega
    · go_wp2
      go_ret
      exact ⟨ret_int (by rw [show k = 2 by omega]), B⟩
set_option maxHeartbeats 1000000 in
set_option maxRecDepth 100000 in
theorem CountAntichainsS_1 (w : World) :
    Calls Tryz.prog 18 #[.int .i64 1] w fun e w' => e = .returned (.int .i64 (cntTo (qAntiS 1) 4 : Int)) ∧ Below w.heap.size w w' := by
  have hwi := l1In_any 1 0 3 w
  rw [show inB 1 0 3 = true by decide] at hwi
  go_enter Tryz.func18, Tryz.ntmps18
  go_wp2_with (go_at_call 25; refine hwi.mono ?_; rintro e w' ⟨rfl, rfl⟩)
  go_loopw [3, 4] (fun m i wr => ∃ k : Nat, k ≤ 4 ∧ i = .int .i64 k ∧ m = .int .i64 (cntTo (qAntiS 1) k : Int) ∧ Below w.heap.size w wr)
    (fun _ i _ => 4 - (intOf i).toNat)
  case atStart => exact ⟨0, Nat.zero_le _, rfl, rfl, Below.refl _ _⟩
  case round =>
    obtain ⟨k, hk, rfl, rfl, B⟩ := hrel
    have hle := cntTo_le (qAntiS 1) k
    by_cases hlt : k < 4
    · go_wp2_with fail
      refine (l31Family_any wr k (by omega)).mono ?_
      rintro e w2 ⟨ad, i, cp, rfl, ho, hb2⟩
      have B2 : Below w.heap.size w w2 := B.after hb2 B.size
      rw [famOf32 k 2 hlt (by decide)] at ho
      have hcl := l25Free_any (famOf k 2) _ w2 ho.ints (fun x hx => by have := famOf_bd k 2 x hx; omega) (by have := chosen_len (nbit k) 2; unfold famOf; omega)
      have hs : cntTo (qAntiS 1) (k + 1) = if qAntiS 1 k then cntTo (qAntiS 1) k + 1 else cntTo (qAntiS 1) k := rfl
      rw [show (freeS (famOf k 2)) = qAntiS 1 k from rfl] at hcl
      cases hQ : qAntiS 1 k with
      | false =>
        rw [hQ] at hcl hs
        have HS := Lib.hid hs
        clear hs
        go_wp2_with (go_at_call 35; refine hcl.mono ?_; rintro e w3 ⟨rfl, hb3⟩)
        have B3 := B2.after hb3 B2.size
        go_roundw
        case rel => exact ⟨k + 1, by omega, by go_num, by rw [HS.out]; rfl, B3⟩
        case measure => simp [intOf]; omega
      | true =>
        rw [hQ] at hcl hs
        have HS := Lib.hid hs
        clear hs
        go_wp2_with (go_at_call 35; refine hcl.mono ?_; rintro e w3 ⟨rfl, hb3⟩)
        have B3 := B2.after hb3 B2.size
        go_roundw
        case rel => exact ⟨k + 1, by omega, by go_num, by rw [HS.out]; go_num, B3⟩
        case measure => simp [intOf]; omega
    · go_wp2
      go_ret
      exact ⟨ret_int (by rw [show k = 4 by omega]), B⟩
set_option maxHeartbeats 1000000 in
set_option maxRecDepth 100000 in
theorem CountAntichainsS_2 (w : World) :
    Calls Tryz.prog 18 #[.int .i64 2] w fun e w' => e = .returned (.int .i64 (cntTo (qAntiS 2) 16 : Int)) ∧ Below w.heap.size w w' := by
  have hwi := l1In_any 2 0 3 w
  rw [show inB 2 0 3 = true by decide] at hwi
  go_enter Tryz.func18, Tryz.ntmps18
  go_wp2_with (go_at_call 25; refine hwi.mono ?_; rintro e w' ⟨rfl, rfl⟩)
  go_loopw [3, 4] (fun m i wr => ∃ k : Nat, k ≤ 16 ∧ i = .int .i64 k ∧ m = .int .i64 (cntTo (qAntiS 2) k : Int) ∧ Below w.heap.size w wr)
    (fun _ i _ => 16 - (intOf i).toNat)
  case atStart => exact ⟨0, Nat.zero_le _, rfl, rfl, Below.refl _ _⟩
  case round =>
    obtain ⟨k, hk, rfl, rfl, B⟩ := hrel
    have hle := cntTo_le (qAntiS 2) k
    by_cases hlt : k < 16
    · go_wp2_with fail
      refine (l31Family_any wr k (by omega)).mono ?_
      rintro e w2 ⟨ad, i, cp, rfl, ho, hb2⟩
      have B2 : Below w.heap.size w w2 := B.after hb2 B.size
      rw [famOf32 k 4 hlt (by decide)] at ho
      have hcl := l25Free_any (famOf k 4) _ w2 ho.ints (fun x hx => by have := famOf_bd k 4 x hx; omega) (by have := chosen_len (nbit k) 4; unfold famOf; omega)
      have hs : cntTo (qAntiS 2) (k + 1) = if qAntiS 2 k then cntTo (qAntiS 2) k + 1 else cntTo (qAntiS 2) k := rfl
      rw [show (freeS (famOf k 4)) = qAntiS 2 k from rfl] at hcl
      cases hQ : qAntiS 2 k with
      | false =>
        rw [hQ] at hcl hs
        have HS := Lib.hid hs
        clear hs
        go_wp2_with (go_at_call 35; refine hcl.mono ?_; rintro e w3 ⟨rfl, hb3⟩)
        have B3 := B2.after hb3 B2.size
        go_roundw
        case rel => exact ⟨k + 1, by omega, by go_num, by rw [HS.out]; rfl, B3⟩
        case measure => simp [intOf]; omega
      | true =>
        rw [hQ] at hcl hs
        have HS := Lib.hid hs
        clear hs
        go_wp2_with (go_at_call 35; refine hcl.mono ?_; rintro e w3 ⟨rfl, hb3⟩)
        have B3 := B2.after hb3 B2.size
        go_roundw
        case rel => exact ⟨k + 1, by omega, by go_num, by rw [HS.out]; go_num, B3⟩
        case measure => simp [intOf]; omega
    · go_wp2
      go_ret
      exact ⟨ret_int (by rw [show k = 16 by omega]), B⟩
set_option maxHeartbeats 1000000 in
set_option maxRecDepth 100000 in
theorem CountAntichainsS_3 (w : World) :
    Calls Tryz.prog 18 #[.int .i64 3] w fun e w' => e = .returned (.int .i64 (cntTo (qAntiS 3) 256 : Int)) ∧ Below w.heap.size w w' := by
  have hwi := l1In_any 3 0 3 w
  rw [show inB 3 0 3 = true by decide] at hwi
  go_enter Tryz.func18, Tryz.ntmps18
  go_wp2_with (go_at_call 25; refine hwi.mono ?_; rintro e w' ⟨rfl, rfl⟩)
  go_loopw [3, 4] (fun m i wr => ∃ k : Nat, k ≤ 256 ∧ i = .int .i64 k ∧ m = .int .i64 (cntTo (qAntiS 3) k : Int) ∧ Below w.heap.size w wr)
    (fun _ i _ => 256 - (intOf i).toNat)
  case atStart => exact ⟨0, Nat.zero_le _, rfl, rfl, Below.refl _ _⟩
  case round =>
    obtain ⟨k, hk, rfl, rfl, B⟩ := hrel
    have hle := cntTo_le (qAntiS 3) k
    by_cases hlt : k < 256
    · go_wp2_with fail
      refine (l31Family_any wr k (by omega)).mono ?_
      rintro e w2 ⟨ad, i, cp, rfl, ho, hb2⟩
      have B2 : Below w.heap.size w w2 := B.after hb2 B.size
      rw [famOf32 k 8 hlt (by decide)] at ho
      have hcl := l25Free_any (famOf k 8) _ w2 ho.ints (fun x hx => by have := famOf_bd k 8 x hx; omega) (by have := chosen_len (nbit k) 8; unfold famOf; omega)
      have hs : cntTo (qAntiS 3) (k + 1) = if qAntiS 3 k then cntTo (qAntiS 3) k + 1 else cntTo (qAntiS 3) k := rfl
      rw [show (freeS (famOf k 8)) = qAntiS 3 k from rfl] at hcl
      cases hQ : qAntiS 3 k with
      | false =>
        rw [hQ] at hcl hs
        have HS := Lib.hid hs
        clear hs
        go_wp2_with (go_at_call 35; refine hcl.mono ?_; rintro e w3 ⟨rfl, hb3⟩)
        have B3 := B2.after hb3 B2.size
        go_roundw
        case rel => exact ⟨k + 1, by omega, by go_num, by rw [HS.out]; rfl, B3⟩
        case measure => simp [intOf]; omega
      | true =>
        rw [hQ] at hcl hs
        have HS := Lib.hid hs
        clear hs
        go_wp2_with (go_at_call 35; refine hcl.mono ?_; rintro e w3 ⟨rfl, hb3⟩)
        have B3 := B2.after hb3 B2.size
        go_roundw
        case rel => exact ⟨k + 1, by omega, by go_num, by rw [HS.out]; go_num, B3⟩
        case measure => simp [intOf]; omega
    · go_wp2
      go_ret
      exact ⟨ret_int (by rw [show k = 256 by omega]), B⟩

set_option maxHeartbeats 400000 in
theorem CountAntichainsS_c (w : World) (n : Int) (_ : InR n) :
    Calls Tryz.prog 18 #[.int .i64 n] w fun e w' => e = .returned (.int .i64 (cntOf qAntiS n)) ∧ Below w.heap.size w w' := by
  cases h : inB n 0 3 with
  | false =>
    have hx : cntOf qAntiS n = -1 := by unfold cntOf; rw [h]; rfl
    have hwi := l1In_any n 0 3 w
    rw [h] at hwi
    have HX := Lib.hid hx
    clear hx
    go_enter Tryz.func18, Tryz.ntmps18
    go_wp2_with (go_at_call 25; refine hwi.mono ?_; rintro e w' ⟨rfl, rfl⟩)
    go_ret
    exact ⟨ret_int HX.out.symm, Below.refl _ _⟩
  | true =>
    have hx : cntOf qAntiS n = (cntTo (qAntiS n) (2 ^ 2 ^ n.toNat) : Int) := by unfold cntOf; rw [h]; rfl
    rw [hx]
    rcases in03 h with rfl | rfl | rfl | rfl
    · exact CountAntichainsS_0 w
    · exact CountAntichainsS_1 w
    · exact CountAntichainsS_2 w
    · exact CountAntichainsS_3 w

theorem cntAntiS_c (w : World) (n : Int) (hn : InR n) :
    Calls Tryz.prog 18 #[.int .i64 n] w fun e w' => e = .returned (.int .i64 (cntOf qAntiI n)) ∧ Below w.heap.size w w' := by
  rw [qAnti_same]; exact CountAntichainsS_c w n hn
end Go.Proofs.YtdagcdgbdhecgaaGreat
end
