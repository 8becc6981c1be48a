/- Counts of families. Ranks of matroids, counted: the second program. Ranks of matroids, counted: the first program. -/
import Derived.Test.YtdagcdgbdhecgaaGreatQ37
section
namespace Go.Proofs.YtdagcdgbdhecgaaGreat
open Go.RowKit Go.G5

def qLamI (n : Int) (code : Nat) : Bool := lamB n (famOf code (2 ^ n.toNat))
def qLamS (n : Int) (code : Nat) : Bool := lamS (famOf code (2 ^ n.toNat))
theorem lam_enters : ∀ args w, (callFunc 32 args).run Tryz.prog w = .ok (.enter 32 args) w := enters_of Tryz.func32 (by kernel_rfl) rfl
theorem qLam_same (n : Int) : cntOf qLamI n = cntOf qLamS n := by
  unfold cntOf
  cases h : inB n 0 3 with
  | false => rfl
  | true =>
    rcases in03 h with rfl | rfl | rfl | rfl
    · decide +kernel
    · decide +kernel
    · decide +kernel
    · decide +kernel

set_option maxHeartbeats 1000000 in
theorem CountLaminarI_c (w : World) (n : Int) (_ : InR n) :
    Calls Tryz.prog 14 #[.int .i64 n] w fun e w' => e = .returned (.int .i64 (cntOf qLamI n)) ∧ Below w.heap.size w w' := by
  cases h : inB n 0 3 with
  | false =>
    have hx : cntOf qLamI n = -1 := by unfold cntOf; rw [h]; rfl
    have HX := Lib.hid hx
    clear hx
    go_enter Tryz.func14, Tryz.ntmps14
    go_wp2_with fail
    refine (countFam_out w n h _).mono ?_
    rintro e w1 ⟨rfl, hb⟩
    go_wp2
    go_ret
    exact ⟨ret_int HX.out.symm, hb⟩
  | true =>
    have fin : ∀ K : Int, n = K → Calls Tryz.prog 30 #[.int .i64 n, .func (.func 32) #[] #[]] w fun e w' => e = .returned (.int .i64 (cntOf qLamI n)) ∧ Below w.heap.size w w' := by
      intro K hK
      have hx : cntOf qLamI n = (cntTo (qLamI n) (2 ^ 2 ^ n.toNat) : Int) := by unfold cntOf; rw [h]; rfl
      rw [hx]
      rcases in03 h with rfl | rfl | rfl | rfl
      · exact countFam_0 w _ lam_enters _ (fun code W v _ hv => isLaminar_any _ _ v W hv)
      · exact countFam_1 w _ lam_enters _ (fun code W v _ hv => isLaminar_any _ _ v W hv)
      · exact countFam_2 w _ lam_enters _ (fun code W v _ hv => isLaminar_any _ _ v W hv)
      · exact countFam_3 w _ lam_enters _ (fun code W v _ hv => isLaminar_any _ _ v W hv)
    have hcl := fin n rfl
    clear fin
    go_enter Tryz.func14, Tryz.ntmps14
    go_wp2_with fail
    refine hcl.mono ?_
    rintro e w1 ⟨rfl, hb⟩
    go_wp2
    go_ret
    exact ⟨rfl, hb⟩

set_option maxHeartbeats 1000000 in
set_option maxRecDepth 100000 in
theorem CountLaminarS_0 (w : World) :
    Calls Tryz.prog 19 #[.int .i64 0] w fun e w' => e = .returned (.int .i64 (cntTo (qLamS 0) 2 : Int)) ∧ Below w.heap.size w w' := by
  have hwi := l1In_any 0 0 3 w
  rw [show inB 0 0 3 = true by decide] at hwi
  go_enter Tryz.func19, Tryz.ntmps19
  go_wp2_with (go_at_call 25; refine hwi.mono ?_; rintro e w' ⟨rfl, rfl⟩)
  go_loopw [3, 4] (fun m i wr => ∃ k : Nat, k ≤ 2 ∧ i = .int .i64 k ∧ m = .int .i64 (cntTo (qLamS 0) k : Int) ∧ Below w.heap.size w wr)
    (fun _ i _ => 2 - (intOf i).toNat)
  case atStart => exact ⟨0, Nat.zero_le _, rfl, rfl, Below.refl _ _⟩
  case round =>
    obtain ⟨k, hk, rfl, rfl, B⟩ := hrel
    have hle := cntTo_le (qLamS 0) k
    by_cases hlt : k < 2
    · go_wp2_with fail
      refine (l31Family_any wr k (by omega)).mono ?_
      rintro e w2 ⟨ad, i, cp, rfl, ho, hb2⟩
      have B2 : Below w.heap.size w w2 := B.after hb2 B.size
      rw [famOf32 k 1 hlt (by decide)] at ho
      have hcl := l16Laminar_any (famOf k 1) _ w2 ho.ints (fun x hx => by have := famOf_bd k 1 x hx; omega)
      have hs : cntTo (qLamS 0) (k + 1) = if qLamS 0 k then cntTo (qLamS 0) k + 1 else cntTo (qLamS 0) k := rfl
      rw [show (lamS (famOf k 1)) = qLamS 0 k from rfl] at hcl
      cases hQ : qLamS 0 k with
      | false =>
        rw [hQ] at hcl hs
        have HS := Lib.hid hs
        clear hs
        go_wp2_with (go_at_call 37; refine hcl.mono ?_; rintro e w3 ⟨rfl, hb3⟩)
        have B3 := B2.after hb3 B2.size
        go_roundw
        case rel => exact ⟨k + 1, by omega, by go_num, by rw [HS.out]; rfl, B3⟩
        case measure => simp [intOf]; omega
      | true =>
        rw [hQ] at hcl hs
        have HS := Lib.hid hs
        clear hs
        go_wp2_with (go_at_call 37; refine hcl.mono ?_; rintro e w3 ⟨rfl, hb3⟩)
        have B3 := B2.after hb3 B2.size
        go_roundw
        case rel => exact ⟨k + 1, by omega, by go_num, by rw [HS.out]; go_num, B3⟩
        case measure => simp [intOf]; omega
    · go_wp2
      go_ret
      exact ⟨ret_int (by rw [show k = 2 by omega]), B⟩
set_option maxHeartbeats 1000000 in
set_option maxRecDepth 100000 in
theorem CountLaminarS_1 (w : World) :
    Calls Tryz.prog 19 #[.int .i64 1] w fun e w' => e = .returned (.int .i64 (cntTo (qLamS 1) 4 : Int)) ∧ Below w.heap.size w w' := by
  have hwi := l1In_any 1 0 3 w
  rw [show inB 1 0 3 = true by decide] at hwi
  go_enter Tryz.func19, Tryz.ntmps19
  go_wp2_with (go_at_call 25; refine hwi.mono ?_; rintro e w' ⟨rfl, rfl⟩)
  go_loopw [3, 4] (fun m i wr => ∃ k : Nat, k ≤ 4 ∧ i = .int .i64 k ∧ m = .int .i64 (cntTo (qLamS 1) k : Int) ∧ Below w.heap.size w wr)
    (fun _ i _ => 4 - (intOf i).toNat)
  case atStart => exact ⟨0, Nat.zero_le _, rfl, rfl, Below.refl _ _⟩
  case round =>
    obtain ⟨k, hk, rfl, rfl, B⟩ := hrel
    have hle := cntTo_le (qLamS 1) k
    by_cases hlt : k < 4
    · go_wp2_with fail
      refine (l31Family_any wr k (by omega)).mono ?_
      rintro e w2 ⟨ad, i, cp, rfl, ho, hb2⟩
      have B2 : Below w.heap.size w w2 := B.after hb2 B.size
      rw [famOf32 k 2 hlt (by decide)] at ho
      have hcl := l16Laminar_any (famOf k 2) _ w2 ho.ints (fun x hx => by have := famOf_bd k 2 x hx; omega)
      have hs : cntTo (qLamS 1) (k + 1) = if qLamS 1 k then cntTo (qLamS 1) k + 1 else cntTo (qLamS 1) k := rfl
      rw [show (lamS (famOf k 2)) = qLamS 1 k from rfl] at hcl
      cases hQ : qLamS 1 k with
      | false =>
        rw [hQ] at hcl hs
        have HS := Lib.hid hs
        clear hs
        go_wp2_with (go_at_call 37; refine hcl.mono ?_; rintro e w3 ⟨rfl, hb3⟩)
        have B3 := B2.after hb3 B2.size
        go_roundw
        case rel => exact ⟨k + 1, by omega, by go_num, by rw [HS.out]; rfl, B3⟩
        case measure => simp [intOf]; omega
      | true =>
        rw [hQ] at hcl hs
        have HS := Lib.hid hs
        clear hs
        go_wp2_with (go_at_call 37; refine hcl.mono ?_; rintro e w3 ⟨rfl, hb3⟩)
        have B3 := B2.after hb3 B2.size
        go_roundw
        case rel => exact ⟨k + 1, by omega, by go_num, by rw [HS.out]; go_num, B3⟩
        case measure => simp [intOf]; omega
    · go_wp2
      go_ret
      exact ⟨ret_int (by rw [show k = 4 by omega]), B⟩
set_option maxHeartbeats 1000000 in
set_option maxRecDepth 100000 in
theorem CountLaminarS_2 (w : World) :
    Calls Tryz.prog 19 #[.int .i64 2] w fun e w' => e = .returned (.int .i64 (cntTo (qLamS 2) 16 : Int)) ∧ Below w.heap.size w w' := by
  have hwi := l1In_any 2 0 3 w
  rw [show inB 2 0 3 = true by decide] at hwi
  go_enter Tryz.func19, Tryz.ntmps19
  go_wp2_with (go_at_call 25; refine hwi.mono ?_; rintro e w' ⟨rfl, rfl⟩)
  go_loopw [3, 4] (fun m i wr => ∃ k : Nat, k ≤ 16 ∧ i = .int .i64 k ∧ m = .int .i64 (cntTo (qLamS 2) k : Int) ∧ Below w.heap.size w wr)
    (fun _ i _ => 16 - (intOf i).toNat)
  case atStart => exact ⟨0, Nat.zero_le _, rfl, rfl, Below.refl _ _⟩
  case round =>
    obtain ⟨k, hk, rfl, rfl, B⟩ := hrel
    have hle := cntTo_le (qLamS 2) k
    by_cases hlt : k < 16
    · go_wp2_with fail
      refine (l31Family_any wr k (by omega)).mono ?_
      rintro e w2 ⟨ad, i, cp, rfl, ho, hb2⟩
      have B2 : Below w.heap.size w w2 := B.after hb2 B.size
      rw [famOf32 k 4 hlt (by decide)] at ho
      have hcl := l16Laminar_any (famOf k 4) _ w2 ho.ints (fun x hx => by have := famOf_bd k 4 x hx; omega)
      have hs : cntTo (qLamS 2) (k + 1) = if qLamS 2 k then cntTo (qLamS 2) k + 1 else cntTo (qLamS 2) k := rfl
      rw [show (lamS (famOf k 4)) = qLamS 2 k from rfl] at hcl
      cases hQ : qLamS 2 k with
      | false =>
        rw [hQ] at hcl hs
        have HS := Lib.hid hs
        clear hs
        go_wp2_with (go_at_call 37; refine hcl.mono ?_; rintro e w3 ⟨rfl, hb3⟩)
        have B3 := B2.after hb3 B2.size
        go_roundw
        case rel => exact ⟨k + 1, by omega, by go_num, by rw [HS.out]; rfl, B3⟩
        case measure => simp [intOf]; omega
      | true =>
        rw [hQ] at hcl hs
        have HS := Lib.hid hs
        clear hs
        go_wp2_with (go_at_call 37; refine hcl.mono ?_; rintro e w3 ⟨rfl, hb3⟩)
        have B3 := B2.after hb3 B2.size
        go_roundw
        case rel => exact ⟨k + 1, by omega, by go_num, by rw [HS.out]; go_num, B3⟩
        case measure => simp [intOf]; omega
    · go_wp2
      go_ret
      exact ⟨ret_int (by rw [show k = 16 by omega]), B⟩
set_option maxHeartbeats 1000000 in
set_option maxRecDepth 100000 in
theorem CountLaminarS_3 (w : World) :
    Calls Tryz.prog 19 #[.int .i64 3] w fun e w' => e = .returned (.int .i64 (cntTo (qLamS 3) 256 : Int)) ∧ Below w.heap.size w w' := by
  have hwi := l1In_any 3 0 3 w
  rw [show inB 3 0 3 = true by decide] at hwi
  go_enter Tryz.func19, Tryz.ntmps19
  go_wp2_with (go_at_call 25; refine hwi.mono ?_; rintro e w' ⟨rfl, rfl⟩)
  go_loopw [3, 4] (fun m i wr => ∃ k : Nat, k ≤ 256 ∧ i = .int .i64 k ∧ m = .int .i64 (cntTo (qLamS 3) k : Int) ∧ Below w.heap.size w wr)
    (fun _ i _ => 256 - (intOf i).toNat)
  case atStart => exact ⟨0, Nat.zero_le _, rfl, rfl, Below.refl _ _⟩
  case round =>
    obtain ⟨k, hk, rfl, rfl, B⟩ := hrel
    have hle := cntTo_le (qLamS 3) k
    by_cases hlt : k < 256
    · go_wp2_with fail
      refine (l31Family_any wr k (by omega)).mono ?_
      rintro e w2 ⟨ad, i, cp, rfl, ho, hb2⟩
      have B2 : Below w.heap.size w w2 := B.after hb2 B.size
      rw [famOf32 k 8 hlt (by decide)] at ho
      have hcl := l16Laminar_any (famOf k 8) _ w2 ho.ints (fun x hx => by have := famOf_bd k 8 x hx; omega)
      have hs : cntTo (qLamS 3) (k + 1) = if qLamS 3 k then cntTo (qLamS 3) k + 1 else cntTo (qLamS 3) k := rfl
      rw [show (lamS (famOf k 8)) = qLamS 3 k from rfl] at hcl
      cases hQ : qLamS 3 k with
      | false =>
        rw [hQ] at hcl hs
        have HS := Lib.hid hs
        clear hs
        go_wp2_with (go_at_call 37; refine hcl.mono ?_; rintro e w3 ⟨rfl, hb3⟩)
        have B3 := B2.after hb3 B2.size
        go_roundw
        case rel => exact ⟨k + 1, by omega, by go_num, by rw [HS.out]; rfl, B3⟩
        case measure => simp [intOf]; omega
      | true =>
        rw [hQ] at hcl hs
        have HS := Lib.hid hs
        clear hs
        go_wp2_with (go_at_call 37; refine hcl.mono ?_; rintro e w3 ⟨rfl, hb3⟩)
        have B3 := B2.after hb3 B2.size
        go_roundw
        case rel => exact ⟨k + 1, by omega, by go_num, by rw [HS.out]; go_num, B3⟩
        case measure => simp [intOf]; omega
    · go_wp2
      go_ret
      exact ⟨ret_int (by rw [show k = 256 by omega]), B⟩

set_option maxHeartbeats 400000 in
theorem CountLaminarS_c (w : World) (n : Int) (_ : InR n) :
    Calls Tryz.prog 19 #[.int .i64 n] w fun e w' => e = .returned (.int .i64 (cntOf qLamS n)) ∧ Below w.heap.size w w' := by
  cases h : inB n 0 3 with
  | false =>
    have hx : cntOf qLamS n = -1 := by unfold cntOf; rw [h]; rfl
    have hwi := l1In_any n 0 3 w
    rw [h] at hwi
    have HX := Lib.hid hx
    clear hx
    go_enter Tryz.func19, Tryz.ntmps19
    go_wp2_with (go_at_call 25; refine hwi.mono ?_; rintro e w' ⟨rfl, rfl⟩)
    go_ret
    exact ⟨ret_int HX.out.symm, Below.refl _ _⟩
  | true =>
    have hx : cntOf qLamS n = (cntTo (qLamS n) (2 ^ 2 ^ n.toNat) : Int) := by unfold cntOf; rw [h]; rfl
    rw [hx]
    rcases in03 h with rfl | rfl | rfl | rfl
    · exact CountLaminarS_0 w
    · exact CountLaminarS_1 w
    · exact CountLaminarS_2 w
    · exact CountLaminarS_3 w

theorem cntLamS_c (w : World) (n : Int) (hn : InR n) :
    Calls Tryz.prog 19 #[.int .i64 n] w fun e w' => e = .returned (.int .i64 (cntOf qLamI n)) ∧ Below w.heap.size w w' := by
  rw [qLam_same]; exact CountLaminarS_c w n hn
end Go.Proofs.YtdagcdgbdhecgaaGreat
end
section
namespace Go.Proofs.YtdagcdgbdhecgaaGreat
open Go.RowKit Go.G5

def cntM (n : Int) : Int := if inB n 0 3 then ((matL n).length : Int) else -1
set_option maxHeartbeats 1000000 in
set_option maxRecDepth 100000 in
theorem matS_any (w : World) (n : Int) :
    Calls Tryz.prog 7 #[.int .i64 n] w fun e w' => ∃ a i c, e = .returned (.tuple #[.slice a i c, .bool (inB n 0 3)]) ∧ OwnR 32 w.heap.size w' (.slice a i c) (matL n).length ∧ Below w.heap.size w w' := by
  have hwi := fun W => l1In_any n 0 3 W
  have o0 := OwnR.lit0 (E := 32) (B := w.heap.size) w (Nat.le_refl _)
  cases h : inB n 0 3 with
  | false =>
    have hm : (matL n).length = 0 := by unfold matL; rw [h]; rfl
    rw [h] at hwi
    have HM := Lib.hid hm
    have HWI := Lib.hid hwi
    clear hm h hwi
    go_enter Tryz.func7, Tryz.ntmps7
    go_wp2_with (go_at_call 25; refine (HWI.out _).mono ?_; rintro e w' ⟨rfl, rfl⟩)
    go_ret2
    exact ⟨_, _, _, rfl, by rw [HM.out]; exact o0, bl1 _ _⟩
  | true =>
    obtain ⟨N, rfl⟩ : ∃ N : Nat, n = N := ⟨n.toNat, by have := inB_true.1 h; omega⟩
    have hN : N ≤ 3 := by have := inB_true.1 h; omega
    have hm : (matL (N : Int)).length = (growL N (2 ^ N - 1) [0]).length := by
      unfold matL
      rw [h, if_pos rfl, Int.toNat_natCast]
      have hp : 2 ^ N = (2 ^ N - 1) + 1 := by have := Nat.two_pow_pos N; omega
      rw [hp, growL_first]
      simp
    have hg : ∀ (v : Value) (W : World), Ints W v [0] → _ := fun v W => growS_any N hN (2 ^ N - 1) [0] v W (by have := Nat.two_pow_pos N; simp; omega)
    rw [h] at hwi
    have HM := Lib.hid hm
    have HWI := Lib.hid hwi
    have HG := Lib.hid hg
    have o1 : OwnI 3 w.heap.size (w.alloc (.cells #[.int .i64 0] 3)) (.slice (some ⟨w.heap.size, 0, none⟩) 1 1) [0] := ⟨World.ownsRow_lit w #[.int .i64 0] 1 (Nat.le_refl _) (by decide) rfl, by simp [InR]⟩
    have HO := Lib.hid o1
    clear hm h hwi hg o0 o1
    go_enter Tryz.func7, Tryz.ntmps7
    go_wp2_with (first
      | (go_at_call 25; refine (HWI.out _).mono ?_; rintro e w' ⟨rfl, rfl⟩)
      | (go_at_call 26; refine (HG.out _ _ HO.out.ints).mono ?_; rintro e7 w7 ⟨p7, q7, c7, rfl, o7, b7⟩))
    go_ret2
    exact ⟨_, _, _, rfl, by rw [HM.out]; exact o7.mono (by simp), (bl1 _ _).after b7 (by simp)⟩
set_option maxHeartbeats 1000000 in
set_option maxRecDepth 100000 in
theorem cntMS_c (w : World) (n : Int) (_ : InR n) :
    Calls Tryz.prog 17 #[.int .i64 n] w fun e w' => e = .returned (.int .i64 (cntM n)) ∧ Below w.heap.size w w' := by
  have HM := Lib.hid (matS_any w n)
  cases h : inB n 0 3 with
  | false =>
    have hx : cntM n = -1 := by unfold cntM; rw [h]; rfl
    rw [h] at HM
    have HX := Lib.hid hx
    clear hx h
    go_enter Tryz.func17, Tryz.ntmps17
    go_wp2_with (go_at_call 7; refine HM.out.mono ?_; rintro e w1 ⟨a, i, c, rfl, o, hb⟩)
    go_ret
    exact ⟨ret_int HX.out.symm, hb⟩
  | true =>
    have hx : cntM n = ((matL n).length : Int) := by unfold cntM; rw [h]; rfl
    rw [h] at HM
    have HX := Lib.hid hx
    clear hx h
    go_enter Tryz.func17, Tryz.ntmps17
    go_wp2_with (go_at_call 7; refine HM.out.mono ?_; rintro e w1 ⟨a, i, c, rfl, o, hb⟩; obtain ⟨a, c, hs⟩ := o.shape; cases hs)
    go_ret
    exact ⟨ret_int HX.out.symm, hb⟩
end Go.Proofs.YtdagcdgbdhecgaaGreat
end
section
namespace Go.Proofs.YtdagcdgbdhecgaaGreat
open Go.RowKit Go.G5

set_option maxHeartbeats 1000000 in
set_option maxRecDepth 100000 in
theorem matI_any (w : World) (n : Int) :
    Calls Tryz.prog 6 #[.int .i64 n] w fun e w' => ∃ a i c, e = .returned (.tuple #[.slice a i c, .bool (inB n 0 3)]) ∧ OwnR 32 0 w' (.slice a i c) (matL n).length ∧ Below w.heap.size w w' := by
  have hwi := fun W => within_any n 0 3 W
  have o0 := OwnR.nil 32 0 w
  cases h : inB n 0 3 with
  | false =>
    have hm : (matL n).length = 0 := by unfold matL; rw [h]; rfl
    rw [h] at hwi
    have HM := Lib.hid hm
    have HWI := Lib.hid hwi
    clear hm h hwi
    go_enter Tryz.func6, Tryz.ntmps6
    go_wp2_with (go_at_call 23; refine (HWI.out _).mono ?_; rintro e w' ⟨rfl, rfl⟩)
    go_ret2
    exact ⟨_, _, _, rfl, by rw [HM.out]; exact o0, Below.refl _ _⟩
  | true =>
    obtain ⟨N, rfl⟩ : ∃ N : Nat, n = N := ⟨n.toNat, by have := inB_true.1 h; omega⟩
    have hN : N ≤ 3 := by have := inB_true.1 h; omega
    have hm : (matL (N : Int)).length = (growL N (2 ^ N) []).length := by
      unfold matL
      rw [h, if_pos rfl, Int.toNat_natCast]
    have h4 : (4 : Nat) ^ 2 ^ N ≤ 4 ^ 8 := Nat.pow_le_pow_right (by decide) (by have : (2 : Nat) ^ N ≤ 2 ^ 3 := Nat.pow_le_pow_right (by decide) hN; omega)
    have K : Blk (w.alloc (.cells #[.slice none 0 0] 25)) w.heap.size 25 #[.slice none 0 0] := Blk.new _ _ _
    have hg := addRanks_any N hN (2 ^ N) [] (.slice none 0 0) (w.alloc (.cells #[.slice none 0 0] 25)) (by simp) (OwnW.nil _ _ _) w.heap.size none 0 0 K (OwnR.nil _ _ _) (by omega) (by simp [Value.ownBlock]) (fun q hq => by simp [Value.ownBlock] at hq)
    rw [h] at hwi
    have HM := Lib.hid hm
    have HWI := Lib.hid hwi
    have HG := Lib.hid hg
    clear hm h hwi hg o0 K h4
    go_enter Tryz.func6, Tryz.ntmps6
    go_wp2_with (first
      | (go_at_call 23; refine (HWI.out _).mono ?_; rintro e w' ⟨rfl, rfl⟩)
      | (go_at_call 24; refine HG.out.mono ?_; rintro e7 w7 ⟨rfl, R7⟩; obtain ⟨a7, c7, K7, o7, g7, n7⟩ := R7; rw [Nat.zero_add] at K7 o7; have G7 := K7.cell 0; have F7 := K7.frozen 0))
    go_ret2
    exact ⟨a7, _, c7, rfl, by rw [HM.out]; exact o7, Go.G5.Below.growIn (bl1 _ _) g7 (by simp) (fun b hb => by rcases hb with rfl | hb <;> simp [Value.ownBlock] at *)⟩
set_option maxHeartbeats 1000000 in
set_option maxRecDepth 100000 in
theorem cntMI_c (w : World) (n : Int) (_ : InR n) :
    Calls Tryz.prog 12 #[.int .i64 n] w fun e w' => e = .returned (.int .i64 (cntM n)) ∧ Below w.heap.size w w' := by
  have HM := Lib.hid (matI_any w n)
  cases h : inB n 0 3 with
  | false =>
    have hx : cntM n = -1 := by unfold cntM; rw [h]; rfl
    rw [h] at HM
    have HX := Lib.hid hx
    clear hx h
    go_enter Tryz.func12, Tryz.ntmps12
    go_wp2_with (go_at_call 6; refine HM.out.mono ?_; rintro e w1 ⟨a, i, c, rfl, o, hb⟩)
    go_ret
    exact ⟨ret_int HX.out.symm, hb⟩
  | true =>
    have hx : cntM n = ((matL n).length : Int) := by unfold cntM; rw [h]; rfl
    rw [h] at HM
    have HX := Lib.hid hx
    clear hx h
    go_enter Tryz.func12, Tryz.ntmps12
    go_wp2_with (go_at_call 6; refine HM.out.mono ?_; rintro e w1 ⟨a, i, c, rfl, o, hb⟩; obtain ⟨a, c, hs⟩ := o.shape; cases hs)
    go_ret
    exact ⟨ret_int HX.out.symm, hb⟩
end Go.Proofs.YtdagcdgbdhecgaaGreat
end
