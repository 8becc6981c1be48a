/- Counts of families. -/
import Derived.Test.YtdagcdgbdhecgaaGreatQ36
section
namespace Go.Proofs.YtdagcdgbdhecgaaGreat
open Go.RowKit Go.G5

def qInterI (n : Int) (code : Nat) : Bool := interB n (famOf code (2 ^ n.toNat))
def qInterS (n : Int) (code : Nat) : Bool := meetS (famOf code (2 ^ n.toNat))
theorem inter_enters : ∀ args w, (callFunc 33 args).run Tryz.prog w = .ok (.enter 33 args) w := enters_of Tryz.func33 (by kernel_rfl) rfl
theorem qInter_same (n : Int) : cntOf qInterI n = cntOf qInterS n := by
  unfold cntOf
  cases h : inB n 0 3 with
  | false => rfl
  | true =>
    rcases in03 h with rfl | rfl | rfl | rfl
    · decide +kernel
    · decide +kernel
    · decide +kernel
    · decide +kernel

set_option maxHeartbeats 1000000 in
theorem CountIntersectingI_c (w : World) (n : Int) (_ : InR n) :
    Calls Tryz.prog 15 #[.int .i64 n] w fun e w' => e = .returned (.int .i64 (cntOf qInterI n)) ∧ Below w.heap.size w w' := by
  cases h : inB n 0 3 with
  | false =>
    have hx : cntOf qInterI n = -1 := by unfold cntOf; rw [h]; rfl
    have HX := Lib.hid hx
    clear hx
    go_enter Tryz.func15, Tryz.ntmps15
    go_wp2_with fail
    refine (countFam_out w n h _).mono ?_
    rintro e w1 ⟨rfl, hb⟩
    go_wp2
    go_ret
    exact ⟨ret_int HX.out.symm, hb⟩
  | true =>
    have fin : ∀ K : Int, n = K → Calls Tryz.prog 30 #[.int .i64 n, .func (.func 33) #[] #[]] w fun e w' => e = .returned (.int .i64 (cntOf qInterI n)) ∧ Below w.heap.size w w' := by
      intro K hK
      have hx : cntOf qInterI n = (cntTo (qInterI n) (2 ^ 2 ^ n.toNat) : Int) := by unfold cntOf; rw [h]; rfl
      rw [hx]
      rcases in03 h with rfl | rfl | rfl | rfl
      · exact countFam_0 w _ inter_enters _ (fun code W v _ hv => isInter_any _ _ v W hv)
      · exact countFam_1 w _ inter_enters _ (fun code W v _ hv => isInter_any _ _ v W hv)
      · exact countFam_2 w _ inter_enters _ (fun code W v _ hv => isInter_any _ _ v W hv)
      · exact countFam_3 w _ inter_enters _ (fun code W v _ hv => isInter_any _ _ v W hv)
    have hcl := fin n rfl
    clear fin
    go_enter Tryz.func15, Tryz.ntmps15
    go_wp2_with fail
    refine hcl.mono ?_
    rintro e w1 ⟨rfl, hb⟩
    go_wp2
    go_ret
    exact ⟨rfl, hb⟩

set_option maxHeartbeats 1000000 in
set_option maxRecDepth 100000 in
theorem CountIntersectingS_0 (w : World) :
    Calls Tryz.prog 20 #[.int .i64 0] w fun e w' => e = .returned (.int .i64 (cntTo (qInterS 0) 2 : Int)) ∧ Below w.heap.size w w' := by
  have hwi := l1In_any 0 0 3 w
  rw [show inB 0 0 3 = true by decide] at hwi
  go_enter Tryz.func20, Tryz.ntmps20
  go_wp2_with (go_at_call 25; refine hwi.mono ?_; rintro e w' ⟨rfl, rfl⟩)
  go_loopw [3, 4] (fun m i wr => ∃ k : Nat, k ≤ 2 ∧ i = .int .i64 k ∧ m = .int .i64 (cntTo (qInterS 0) k : Int) ∧ Below w.heap.size w wr)
    (fun _ i _ => 2 - (intOf i).toNat)
  case atStart => exact ⟨0, Nat.zero_le _, rfl, rfl, Below.refl _ _⟩
  case round =>
    obtain ⟨k, hk, rfl, rfl, B⟩ := hrel
    have hle := cntTo_le (qInterS 0) k
    by_cases hlt : k < 2
    · go_wp2_with fail
      refine (l31Family_any wr k (by omega)).mono ?_
      rintro e w2 ⟨ad, i, cp, rfl, ho, hb2⟩
      have B2 : Below w.heap.size w w2 := B.after hb2 B.size
      rw [famOf32 k 1 hlt (by decide)] at ho
      have hcl := l23Meets_any (famOf k 1) _ w2 ho.ints (fun x hx => by have := famOf_bd k 1 x hx; omega)
      have hs : cntTo (qInterS 0) (k + 1) = if qInterS 0 k then cntTo (qInterS 0) k + 1 else cntTo (qInterS 0) k := rfl
      rw [show (meetS (famOf k 1)) = qInterS 0 k from rfl] at hcl
      cases hQ : qInterS 0 k with
      | false =>
        rw [hQ] at hcl hs
        have HS := Lib.hid hs
        clear hs
        go_wp2_with (go_at_call 38; refine hcl.mono ?_; rintro e w3 ⟨rfl, hb3⟩)
        have B3 := B2.after hb3 B2.size
        go_roundw
        case rel => exact ⟨k + 1, by omega, by go_num, by rw [HS.out]; rfl, B3⟩
        case measure => simp [intOf]; omega
      | true =>
        rw [hQ] at hcl hs
        have HS := Lib.hid hs
        clear hs
        go_wp2_with (go_at_call 38; refine hcl.mono ?_; rintro e w3 ⟨rfl, hb3⟩)
        have B3 := B2.after hb3 B2.size
        go_roundw
        case rel => exact ⟨k + 1, by omega, by go_num, by rw [HS.out]; go_num, B3⟩
        case measure => simp [intOf]; omega
    · go_wp2
      go_ret
      exact ⟨ret_int (by rw [show k = 2 by omega]), B⟩
set_option maxHeartbeats 1000000 in
set_option maxRecDepth 100000 in
theorem CountIntersectingS_1 (w : World) :
    Calls Tryz.prog 20 #[.int .i64 1] w fun e w' => e = .returned (.int .i64 (cntTo (qInterS 1) 4 : Int)) ∧ Below w.heap.size w w' := by
  have hwi := l1In_any 1 0 3 w
  rw [show inB 1 0 3 = true by decide] at hwi
  go_enter Tryz.func20, Tryz.ntmps20
  go_wp2_with (go_at_call 25; refine hwi.mono ?_; rintro e w' ⟨rfl, rfl⟩)
  go_loopw [3, 4] (fun m i wr => ∃ k : Nat, k ≤ 4 ∧ i = .int .i64 k ∧ m = .int .i64 (cntTo (qInterS 1) k : Int) ∧ Below w.heap.size w wr)
    (fun _ i _ => 4 - (intOf i).toNat)
  case atStart => exact ⟨0, Nat.zero_le _, rfl, rfl, Below.refl _ _⟩
  case round =>
    obtain ⟨k, hk, rfl, rfl, B⟩ := hrel
    have hle := cntTo_le (qInterS 1) k
    by_cases hlt : k < 4
    · go_wp2_with fail
      refine (l31Family_any wr k (by omega)).mono ?_
      rintro e w2 ⟨ad, i, cp, rfl, ho, hb2⟩
      have B2 : Below w.heap.size w w2 := B.after hb2 B.size
      rw [famOf32 k 2 hlt (by decide)] at ho
      have hcl := l23Meets_any (famOf k 2) _ w2 ho.ints (fun x hx => by have := famOf_bd k 2 x hx; omega)
      have hs : cntTo (qInterS 1) (k + 1) = if qInterS 1 k then cntTo (qInterS 1) k + 1 else cntTo (qInterS 1) k := rfl
      rw [show (meetS (famOf k 2)) = qInterS 1 k from rfl] at hcl
      cases hQ : qInterS 1 k with
      | false =>
        rw [hQ] at hcl hs
        have HS := Lib.hid hs
        clear hs
        go_wp2_with (go_at_call 38; refine hcl.mono ?_; rintro e w3 ⟨rfl, hb3⟩)
        have B3 := B2.after hb3 B2.size
        go_roundw
        case rel => exact ⟨k + 1, by omega, by go_num, by rw [HS.out]; rfl, B3⟩
        case measure => simp [intOf]; omega
      | true =>
        rw [hQ] at hcl hs
        have HS := Lib.hid hs
        clear hs
        go_wp2_with (go_at_call 38; refine hcl.mono ?_; rintro e w3 ⟨rfl, hb3⟩)
        have B3 := B2.after hb3 B2.size
        go_roundw
        case rel => exact ⟨k + 1, by omega, by go_num, by rw [HS.out]; go_num, B3⟩
        case measure => simp [intOf]; omega
    · go_wp2
      go_ret
      exact ⟨ret_int (by rw [show k = 4 by omega]), B⟩
set_option maxHeartbeats 1000000 in
set_option maxRecDepth 100000 in
theorem CountIntersectingS_2 (w : World) :
    Calls Tryz.prog 20 #[.int .i64 2] w fun e w' => e = .returned (.int .i64 (cntTo (qInterS 2) 16 : Int)) ∧ Below w.heap.size w w' := by
  have hwi := l1In_any 2 0 3 w
  rw [show inB 2 0 3 = true by decide] at hwi
  go_enter Tryz.func20, Tryz.ntmps20
  go_wp2_with (go_at_call 25; refine hwi.mono ?_; rintro e w' ⟨rfl, rfl⟩)
  go_loopw [3, 4] (fun m i wr => ∃ k : Nat, k ≤ 16 ∧ i = .int .i64 k ∧ m = .int .i64 (cntTo (qInterS 2) k : Int) ∧ Below w.heap.size w wr)
    (fun _ i _ => 16 - (intOf i).toNat)
  case atStart => exact ⟨0, Nat.zero_le _, rfl, rfl, Below.refl _ _⟩
  case round =>
    obtain ⟨k, hk, rfl, rfl, B⟩ := hrel
    have hle := cntTo_le (qInterS 2) k
    by_cases hlt : k < 16
    · go_wp2_with fail
      refine (l31Family_any wr k (by omega)).mono ?_
      rintro e w2 ⟨ad, i, cp, rfl, ho, hb2⟩
      have B2 : Below w.heap.size w w2 := B.after hb2 B.size
      rw [famOf32 k 4 hlt (by decide)] at ho
      have hcl := l23Meets_any (famOf k 4) _ w2 ho.ints (fun x hx => by have := famOf_bd k 4 x hx; omega)
      have hs : cntTo (qInterS 2) (k + 1) = if qInterS 2 k then cntTo (qInterS 2) k + 1 else cntTo (qInterS 2) k := rfl
      rw [show (meetS (famOf k 4)) = qInterS 2 k from rfl] at hcl
      cases hQ : qInterS 2 k with
      | false =>
        rw [hQ] at hcl hs
        have HS := Lib.hid hs
        clear hs
        go_wp2_with (go_at_call 38; refine hcl.mono ?_; rintro e w3 ⟨rfl, hb3⟩)
        have B3 := B2.after hb3 B2.size
        go_roundw
        case rel => exact ⟨k + 1, by omega, by go_num, by rw [HS.out]; rfl, B3⟩
        case measure => simp [intOf]; omega
      | true =>
        rw [hQ] at hcl hs
        have HS := Lib.hid hs
        clear hs
        go_wp2_with (go_at_call 38; refine hcl.mono ?_; rintro e w3 ⟨rfl, hb3⟩)
        have B3 := B2.after hb3 B2.size
        go_roundw
        case rel => exact ⟨k + 1, by omega, by go_num, by rw [HS.out]; go_num, B3⟩
        case measure => simp [intOf]; omega
    · go_wp2
      go_ret
      exact ⟨ret_int (by rw [show k = 16 by omega]), B⟩
set_option maxHeartbeats 1000000 in
set_option maxRecDepth 100000 in
theorem CountIntersectingS_3 (w : World) :
    Calls Tryz.prog 20 #[.int .i64 3] w fun e w' => e = .returned (.int .i64 (cntTo (qInterS 3) 256 : Int)) ∧ Below w.heap.size w w' := by
  have hwi := l1In_any 3 0 3 w
  rw [show inB 3 0 3 = true by decide] at hwi
  go_enter Tryz.func20, Tryz.ntmps20
  go_wp2_with (go_at_call 25; refine hwi.mono ?_; rintro e w' ⟨rfl, rfl⟩)
  go_loopw [3, 4] (fun m i wr => ∃ k : Nat, k ≤ 256 ∧ i = .int .i64 k ∧ m = .int .i64 (cntTo (qInterS 3) k : Int) ∧ Below w.heap.size w wr)
    (fun _ i _ => 256 - (intOf i).toNat)
  case atStart => exact ⟨0, Nat.zero_le _, rfl, rfl, Below.refl _ _⟩
  case round =>
    obtain ⟨k, hk, rfl, rfl, B⟩ := hrel
    have hle := cntTo_le (qInterS 3) k
    by_cases hlt : k < 256
    · go_wp2_with fail
      refine (l31Family_any wr k (by omega)).mono ?_
      rintro e w2 ⟨ad, i, cp, rfl, ho, hb2⟩
      have B2 : Below w.heap.size w w2 := B.after hb2 B.size
      rw [famOf32 k 8 hlt (by decide)] at ho
      have hcl := l23Meets_any (famOf k 8) _ w2 ho.ints (fun x hx => by have := famOf_bd k 8 x hx; omega)
      have hs : cntTo (qInterS 3) (k + 1) = if qInterS 3 k then cntTo (qInterS 3) k + 1 else cntTo (qInterS 3) k := rfl
      rw [show (meetS (famOf k 8)) = qInterS 3 k from rfl] at hcl
      cases hQ : qInterS 3 k with
      | false =>
        rw [hQ] at hcl hs
        have HS := Lib.hid hs
        clear hs
        go_wp2_with (go_at_call 38; refine hcl.mono ?_; rintro e w3 ⟨rfl, hb3⟩)
        have B3 := B2.after hb3 B2.size
        go_roundw
        case rel => exact ⟨k + 1, by omega, by go_num, by rw [HS.out]; rfl, B3⟩
        case measure => simp [intOf]; omega
      | true =>
        rw [hQ] at hcl hs
        have HS := Lib.hid hs
        clear hs
        go_wp2_with (go_at_call 38; refine hcl.mono ?_; rintro e w3 ⟨rfl, hb3⟩)
        have B3 := B2.after hb3 B2.size
        go_roundw
        case rel => exact ⟨k + 1, by omega, by go_num, by rw [HS.out]; go_num, B3⟩
        case measure => simp [intOf]; omega
    · go_wp2
      go_ret
      exact ⟨ret_int (by rw [show k = 256 by omega]), B⟩

set_option maxHeartbeats 400000 in
theorem CountIntersectingS_c (w : World) (n : Int) (_ : InR n) :
    Calls Tryz.prog 20 #[.int .i64 n] w fun e w' => e = .returned (.int .i64 (cntOf qInterS n)) ∧ Below w.heap.size w w' := by
  cases h : inB n 0 3 with
  | false =>
    have hx : cntOf qInterS n = -1 := by unfold cntOf; rw [h]; rfl
    have hwi := l1In_any n 0 3 w
    rw [h] at hwi
    have HX := Lib.hid hx
    clear hx
    go_enter Tryz.func20, Tryz.ntmps20
    go_wp2_with (go_at_call 25; refine hwi.mono ?_; rintro e w' ⟨rfl, rfl⟩)
    go_ret
    exact ⟨ret_int HX.out.symm, Below.refl _ _⟩
  | true =>
    have hx : cntOf qInterS n = (cntTo (qInterS n) (2 ^ 2 ^ n.toNat) : Int) := by unfold cntOf; rw [h]; rfl
    rw [hx]
    rcases in03 h with rfl | rfl | rfl | rfl
    · exact CountIntersectingS_0 w
    · exact CountIntersectingS_1 w
    · exact CountIntersectingS_2 w
    · exact CountIntersectingS_3 w

theorem cntInterS_c (w : World) (n : Int) (hn : InR n) :
    Calls Tryz.prog 20 #[.int .i64 n] w fun e w' => e = .returned (.int .i64 (cntOf qInterI n)) ∧ Below w.heap.size w w' := by
  rw [qInter_same]; exact CountIntersectingS_c w n hn
end Go.Proofs.YtdagcdgbdhecgaaGreat
end
