/- Counts of families that are closed downward. -/
import Derived.Test.YtdagcdgbdhecgaaGreatQ35
section
namespace Go.Proofs.YtdagcdgbdhecgaaGreat
open Go.RowKit Go.G5

def qDown (n : Int) (code : Nat) : Bool := downB n (famOf code (2 ^ n.toNat))
theorem down_enters : ∀ args w, (callFunc 34 args).run Tryz.prog w = .ok (.enter 34 args) w := enters_of Tryz.func34 (by kernel_rfl) rfl
theorem famOf_len (code k : Nat) (h : k ≤ 64) : (famOf code k).length ≤ 1048576 := Nat.le_trans (chosen_len _ k) (by omega)

set_option maxHeartbeats 1000000 in
theorem CountDownClosedI_c (w : World) (n : Int) (_ : InR n) :
    Calls Tryz.prog 16 #[.int .i64 n] w fun e w' => e = .returned (.int .i64 (cntOf qDown n)) ∧ Below w.heap.size w w' := by
  cases h : inB n 0 3 with
  | false =>
    have hx : cntOf qDown n = -1 := by unfold cntOf; rw [h]; rfl
    have HX := Lib.hid hx
    clear hx
    go_enter Tryz.func16, Tryz.ntmps16
    go_wp2_with fail
    refine (countFam_out w n h _).mono ?_
    rintro e w1 ⟨rfl, hb⟩
    go_wp2
    go_ret
    exact ⟨ret_int HX.out.symm, hb⟩
  | true =>
    have fin : ∀ K : Int, n = K → Calls Tryz.prog 30 #[.int .i64 n, .func (.func 34) #[] #[]] w fun e w' => e = .returned (.int .i64 (cntOf qDown n)) ∧ Below w.heap.size w w' := by
      intro K hK
      have hx : cntOf qDown n = (cntTo (qDown n) (2 ^ 2 ^ n.toNat) : Int) := by unfold cntOf; rw [h]; rfl
      rw [hx]
      rcases in03 h with rfl | rfl | rfl | rfl
      · exact countFam_0 w _ down_enters _ (fun code W v _ hv => isDownI_any _ _ v W hv (famOf_len _ _ (by decide)))
      · exact countFam_1 w _ down_enters _ (fun code W v _ hv => isDownI_any _ _ v W hv (famOf_len _ _ (by decide)))
      · exact countFam_2 w _ down_enters _ (fun code W v _ hv => isDownI_any _ _ v W hv (famOf_len _ _ (by decide)))
      · exact countFam_3 w _ down_enters _ (fun code W v _ hv => isDownI_any _ _ v W hv (famOf_len _ _ (by decide)))
    have hcl := fin n rfl
    clear fin
    go_enter Tryz.func16, Tryz.ntmps16
    go_wp2_with fail
    refine hcl.mono ?_
    rintro e w1 ⟨rfl, hb⟩
    go_wp2
    go_ret
    exact ⟨rfl, hb⟩

set_option maxHeartbeats 1000000 in
set_option maxRecDepth 100000 in
theorem CountDownClosedS_0 (w : World) :
    Calls Tryz.prog 21 #[.int .i64 0] w fun e w' => e = .returned (.int .i64 (cntTo (qDown 0) 2 : Int)) ∧ Below w.heap.size w w' := by
  have hwi := l1In_any 0 0 3 w
  rw [show inB 0 0 3 = true by decide] at hwi
  go_enter Tryz.func21, Tryz.ntmps21
  go_wp2_with (go_at_call 25; refine hwi.mono ?_; rintro e w' ⟨rfl, rfl⟩)
  go_loopw [3, 4] (fun m i wr => ∃ k : Nat, k ≤ 2 ∧ i = .int .i64 k ∧ m = .int .i64 (cntTo (qDown 0) k : Int) ∧ Below w.heap.size w wr)
    (fun _ i _ => 2 - (intOf i).toNat)
  case atStart => exact ⟨0, Nat.zero_le _, rfl, rfl, Below.refl _ _⟩
  case round =>
    obtain ⟨k, hk, rfl, rfl, B⟩ := hrel
    have hle := cntTo_le (qDown 0) k
    by_cases hlt : k < 2
    · go_wp2_with fail
      refine (l31Family_any wr k (by omega)).mono ?_
      rintro e w2 ⟨ad, i, cp, rfl, ho, hb2⟩
      have B2 : Below w.heap.size w w2 := B.after hb2 B.size
      rw [famOf32 k 1 hlt (by decide)] at ho
      have hcl := isDownS_any 0 (famOf k 1) _ w2 ho.ints (famOf_len _ _ (by decide))
      have hs : cntTo (qDown 0) (k + 1) = if qDown 0 k then cntTo (qDown 0) k + 1 else cntTo (qDown 0) k := rfl
      rw [show (downB 0 (famOf k 1)) = qDown 0 k from rfl] at hcl
      cases hQ : qDown 0 k with
      | false =>
        rw [hQ] at hcl hs
        have HS := Lib.hid hs
        clear hs
        go_wp2_with (go_at_call 39; refine hcl.mono ?_; rintro e w3 ⟨rfl, hb3⟩)
        have B3 := B2.after hb3 B2.size
        go_roundw
        case rel => exact ⟨k + 1, by omega, by go_num, by rw [HS.out]; rfl, B3⟩
        case measure => simp [intOf]; omega
      | true =>
        rw [hQ] at hcl hs
        have HS := Lib.hid hs
        clear hs
        go_wp2_with (go_at_call 39; refine hcl.mono ?_; rintro e w3 ⟨rfl, hb3⟩)
        have B3 := B2.after hb3 B2.size
        go_roundw
        case rel => exact ⟨k + 1, by omega, by go_num, by rw [HS.out]; go_num, B3⟩
        case measure => simp [intOf]; omega
    · go_wp2
      go_ret
      exact ⟨ret_int (by rw [show k = 2 by omega]), B⟩
set_option maxHeartbeats 1000000 in
set_option maxRecDepth 100000 in
theorem CountDownClosedS_1 (w : World) :
    Calls Tryz.prog 21 #[.int .i64 1] w fun e w' => e = .returned (.int .i64 (cntTo (qDown 1) 4 : Int)) ∧ Below w.heap.size w w' := by
  have hwi := l1In_any 1 0 3 w
  rw [show inB 1 0 3 = true by decide] at hwi
  go_enter Tryz.func21, Tryz.ntmps21
  go_wp2_with (go_at_call 25; refine hwi.mono ?_; rintro e w' ⟨rfl, rfl⟩)
  go_loopw [3, 4] (fun m i wr => ∃ k : Nat, k ≤ 4 ∧ i = .int .i64 k ∧ m = .int .i64 (cntTo (qDown 1) k : Int) ∧ Below w.heap.size w wr)
    (fun _ i _ => 4 - (intOf i).toNat)
  case atStart => exact ⟨0, Nat.zero_le _, rfl, rfl, Below.refl _ _⟩
  case round =>
    obtain ⟨k, hk, rfl, rfl, B⟩ := hrel
    have hle := cntTo_le (qDown 1) k
    by_cases hlt : k < 4
    · go_wp2_with fail
      refine (l31Family_any wr k (by omega)).mono ?_
      rintro e w2 ⟨ad, i, cp, rfl, ho, hb2⟩
      have B2 : Below w.heap.size w w2 := B.after hb2 B.size
      rw [famOf32 k 2 hlt (by decide)] at ho
      have hcl := isDownS_any 1 (famOf k 2) _ w2 ho.ints (famOf_len _ _ (by decide))
      have hs : cntTo (qDown 1) (k + 1) = if qDown 1 k then cntTo (qDown 1) k + 1 else cntTo (qDown 1) k := rfl
      rw [show (downB 1 (famOf k 2)) = qDown 1 k from rfl] at hcl
      cases hQ : qDown 1 k with
      | false =>
        rw [hQ] at hcl hs
        have HS := Lib.hid hs
        clear hs
        go_wp2_with (go_at_call 39; refine hcl.mono ?_; rintro e w3 ⟨rfl, hb3⟩)
        have B3 := B2.after hb3 B2.size
        go_roundw
        case rel => exact ⟨k + 1, by omega, by go_num, by rw [HS.out]; rfl, B3⟩
        case measure => simp [intOf]; omega
      | true =>
        rw [hQ] at hcl hs
        have HS := Lib.hid hs
        clear hs
        go_wp2_with (go_at_call 39; refine hcl.mono ?_; rintro e w3 ⟨rfl, hb3⟩)
        have B3 := B2.after hb3 B2.size
        go_roundw
        case rel => exact ⟨k + 1, by omega, by go_num, by rw [HS.out]; go_num, B3⟩
        case measure => simp [intOf]; omega
    · go_wp2
      go_ret
      exact ⟨ret_int (by rw [show k = 4 by omega]), B⟩
set_option maxHeartbeats 1000000 in
set_option maxRecDepth 100000 in
theorem CountDownClosedS_2 (w : World) :
    Calls Tryz.prog 21 #[.int .i64 2] w fun e w' => e = .returned (.int .i64 (cntTo (qDown 2) 16 : Int)) ∧ Below w.heap.size w w' := by
  have hwi := l1In_any 2 0 3 w
  rw [show inB 2 0 3 = true by decide] at hwi
  go_enter Tryz.func21, Tryz.ntmps21
  go_wp2_with (go_at_call 25; refine hwi.mono ?_; rintro e w' ⟨rfl, rfl⟩)
  go_loopw [3, 4] (fun m i wr => ∃ k : Nat, k ≤ 16 ∧ i = .int .i64 k ∧ m = .int .i64 (cntTo (qDown 2) k : Int) ∧ Below w.heap.size w wr)
    (fun _ i _ => 16 - (intOf i).toNat)
  case atStart => exact ⟨0, Nat.zero_le _, rfl, rfl, Below.refl _ _⟩
  case round =>
    obtain ⟨k, hk, rfl, rfl, B⟩ := hrel
    have hle := cntTo_le (qDown 2) k
    by_cases hlt : k < 16
    · go_wp2_with fail
      refine (l31Family_any wr k (by omega)).mono ?_
      rintro e w2 ⟨ad, i, cp, rfl, ho, hb2⟩
      have B2 : Below w.heap.size w w2 := B.after hb2 B.size
      rw [famOf32 k 4 hlt (by decide)] at ho
      have hcl := isDownS_any 2 (famOf k 4) _ w2 ho.ints (famOf_len _ _ (by decide))
      have hs : cntTo (qDown 2) (k + 1) = if qDown 2 k then cntTo (qDown 2) k + 1 else cntTo (qDown 2) k := rfl
      rw [show (downB 2 (famOf k 4)) = qDown 2 k from rfl] at hcl
      cases hQ : qDown 2 k with
      | false =>
        rw [hQ] at hcl hs
        have HS := Lib.hid hs
        clear hs
        go_wp2_with (go_at_call 39; refine hcl.mono ?_; rintro e w3 ⟨rfl, hb3⟩)
        have B3 := B2.after hb3 B2.size
        go_roundw
        case rel => exact ⟨k + 1, by omega, by go_num, by rw [HS.out]; rfl, B3⟩
        case measure => simp [intOf]; omega
      | true =>
        rw [hQ] at hcl hs
        have HS := Lib.hid hs
        clear hs
        go_wp2_with (go_at_call 39; refine hcl.mono ?_; rintro e w3 ⟨rfl, hb3⟩)
        have B3 := B2.after hb3 B2.size
        go_roundw
        case rel => exact ⟨k + 1, by omega, by go_num, by rw [HS.out]; go_num, B3⟩
        case measure => simp [intOf]; omega
    · go_wp2
      go_ret
      exact ⟨ret_int (by rw [show k = 16 by omega]), B⟩
set_option maxHeartbeats 1000000 in
set_option maxRecDepth 100000 in
theorem CountDownClosedS_3 (w : World) :
    Calls Tryz.prog 21 #[.int .i64 3] w fun e w' => e = .returned (.int .i64 (cntTo (qDown 3) 256 : Int)) ∧ Below w.heap.size w w' := by
  have hwi := l1In_any 3 0 3 w
  rw [show inB 3 0 3 = true by decide] at hwi
  go_enter Tryz.func21, Tryz.ntmps21
  go_wp2_with (go_at_call 25; refine hwi.mono ?_; rintro e w' ⟨rfl, rfl⟩)
  go_loopw [3, 4] (fun m i wr => ∃ k : Nat, k ≤ 256 ∧ i = .int .i64 k ∧ m = .int .i64 (cntTo (qDown 3) k : Int) ∧ Below w.heap.size w wr)
    (fun _ i _ => 256 - (intOf i).toNat)
  case atStart => exact ⟨0, Nat.zero_le _, rfl, rfl, Below.refl _ _⟩
  case round =>
    obtain ⟨k, hk, rfl, rfl, B⟩ := hrel
    have hle := cntTo_le (qDown 3) k
    by_cases hlt : k < 256
    · go_wp2_with fail
      refine (l31Family_any wr k (by omega)).mono ?_
      rintro e w2 ⟨ad, i, cp, rfl, ho, hb2⟩
      have B2 : Below w.heap.size w w2 := B.after hb2 B.size
      rw [famOf32 k 8 hlt (by decide)] at ho
      have hcl := isDownS_any 3 (famOf k 8) _ w2 ho.ints (famOf_len _ _ (by decide))
      have hs : cntTo (qDown 3) (k + 1) = if qDown 3 k then cntTo (qDown 3) k + 1 else cntTo (qDown 3) k := rfl
      rw [show (downB 3 (famOf k 8)) = qDown 3 k from rfl] at hcl
      cases hQ : qDown 3 k with
      | false =>
        rw [hQ] at hcl hs
        have HS := Lib.hid hs
        clear hs
        go_wp2_with (go_at_call 39; refine hcl.mono ?_; rintro e w3 ⟨rfl, hb3⟩)
        have B3 := B2.after hb3 B2.size
        go_roundw
        case rel => exact ⟨k + 1, by omega, by go_num, by rw [HS.out]; rfl, B3⟩
        case measure => simp [intOf]; omega
      | true =>
        rw [hQ] at hcl hs
        have HS := Lib.hid hs
        clear hs
        go_wp2_with (go_at_call 39; refine hcl.mono ?_; rintro e w3 ⟨rfl, hb3⟩)
        have B3 := B2.after hb3 B2.size
        go_roundw
        case rel => exact ⟨k + 1, by omega, by go_num, by rw [HS.out]; go_num, B3⟩
        case measure => simp [intOf]; omega
    · go_wp2
      go_ret
      exact ⟨ret_int (by rw [show k = 256 by omega]), B⟩

set_option maxHeartbeats 400000 in
theorem CountDownClosedS_c (w : World) (n : Int) (_ : InR n) :
    Calls Tryz.prog 21 #[.int .i64 n] w fun e w' => e = .returned (.int .i64 (cntOf qDown n)) ∧ Below w.heap.size w w' := by
  cases h : inB n 0 3 with
  | false =>
    have hx : cntOf qDown n = -1 := by unfold cntOf; rw [h]; rfl
    have hwi := l1In_any n 0 3 w
    rw [h] at hwi
    have HX := Lib.hid hx
    clear hx
    go_enter Tryz.func21, Tryz.ntmps21
    go_wp2_with (go_at_call 25; refine hwi.mono ?_; rintro e w' ⟨rfl, rfl⟩)
    go_ret
    exact ⟨ret_int HX.out.symm, Below.refl _ _⟩
  | true =>
    have hx : cntOf qDown n = (cntTo (qDown n) (2 ^ 2 ^ n.toNat) : Int) := by unfold cntOf; rw [h]; rfl
    rw [hx]
    rcases in03 h with rfl | rfl | rfl | rfl
    · exact CountDownClosedS_0 w
    · exact CountDownClosedS_1 w
    · exact CountDownClosedS_2 w
    · exact CountDownClosedS_3 w
end Go.Proofs.YtdagcdgbdhecgaaGreat
end
