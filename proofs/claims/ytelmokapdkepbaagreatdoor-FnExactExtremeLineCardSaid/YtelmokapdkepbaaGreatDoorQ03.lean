/- Functions of sets: what is one. -/
import Derived.Test.YtelmokapdkepbaaGreatDoorQ02
section
namespace Go.Proofs.YtelmokapdkepbaaGreatDoor
open Go.RowKit Go.G5

def allIn (l : List Int) (lo hi : Int) : Bool := l.all fun x => inB x lo hi

set_option maxHeartbeats 400000 in
theorem areWithin_any (l : List Int) (v : Value) (lo hi : Int) (w : World) (hv : Ints w v l) :
    Calls Tryz.prog 77 #[v, .int .i64 lo, .int .i64 hi] w fun e w' => e = .returned (.bool (allIn l lo hi)) ∧ w = w' := by
  obtain ⟨a, b, off, c, rfl, hlen, hix, hc, hb⟩ := hv.view Tryz.prog 22 3 Tryz.underlying22 intElem
  go_enter Tryz.func77, Tryz.ntmps77
  go_wp2
  go_loop [11] (fun i => ∃ k : Nat, k ≤ l.length ∧ i = .int .i64 k ∧ (l.take k).all (fun x => inB x lo hi) = true) (fun i => l.length - (intOf i).toNat)
  case atStart => exact ⟨0, Nat.zero_le _, rfl, by simp⟩
  case round =>
    obtain ⟨k, hk, rfl, hall⟩ := hrel
    have H := Lib.hid hall
    clear hall
    by_cases hlt : k < l.length
    · cases hs : inB l[k] lo hi with
      | true =>
        go_wp2_with (go_at_call 76; refine (within_any _ _ _ _).mono ?_; rintro e w' ⟨rfl, rfl⟩)
        go_round
        case rel => exact ⟨k + 1, by omega, by go_num, by rw [all_take_succ _ _ _ hlt, H.out, hs]; rfl⟩
        case measure => simp [intOf]; omega
      | false =>
        go_wp2_with (go_at_call 76; refine (within_any _ _ _ _).mono ?_; rintro e w' ⟨rfl, rfl⟩)
        go_ret
        exact ⟨ret_bool (by unfold allIn; rw [all_false_at _ _ _ hlt hs]), rfl⟩
    · go_wp2
      go_ret
      exact ⟨ret_bool (by unfold allIn; rw [← all_of_take (fun x => inB x lo hi) l k (by omega), H.out]), rfl⟩

def isFunB (n : Int) (l : List Int) : Bool := inB n 0 5 && decide ((l.length : Int) = 2 ^ n.toNat) && allIn l (-1000) 1000
theorem pow_le32 {g : Int} (h0 : 0 ≤ g) (h6 : g ≤ 5) : (2 : Int) ^ g.toNat ≤ 32 ∧ 0 < (2 : Int) ^ g.toNat := by
  have := two_pow g.toNat 5 (by omega)
  simpa using this
theorem funOk {n : Int} {l : List Int} (h : isFunB n l = true) : 0 ≤ n ∧ n ≤ 5 ∧ (l.length : Int) = 2 ^ n.toNat ∧ (∀ k, (hk : k < l.length) → -1000 ≤ l[k] ∧ l[k] ≤ 1000) := by
  unfold isFunB allIn at h
  simp only [Bool.and_eq_true, List.all_eq_true, decide_eq_true_eq] at h
  obtain ⟨⟨h1, h2⟩, h3⟩ := h
  have := inB_true.1 h1
  exact ⟨this.1, this.2, h2, fun k hk => inB_true.1 (h3 _ (List.getElem_mem hk))⟩

set_option maxHeartbeats 400000 in
theorem isFunI_any (n : Int) (l : List Int) (v : Value) (w : World) (hv : Ints w v l) :
    Calls Tryz.prog 28 #[.agg #[.int .i64 n, v]] w fun e w' => e = .returned (.bool (isFunB n l)) ∧ Below w.heap.size w w' := by
  obtain ⟨a, b, off, c, rfl, hlen, hix, hc, hb⟩ := hv.view Tryz.prog 22 3 Tryz.underlying22 intElem
  cases hin : inB n 0 5 with
  | false =>
    have hx : isFunB n l = false := by unfold isFunB; rw [hin]; rfl
    have HX := Lib.hid hx
    clear hx hc
    go_enter Tryz.func28, Tryz.ntmps28
    go_wp2_with (go_at_call 76; refine (within_any _ _ _ _).mono ?_; rintro e w' ⟨rfl, rfl⟩)
    go_ret
    exact ⟨by rw [HX.out]; rfl, bl1 _ _⟩
  | true =>
    have hg := inB_true.1 hin
    have h0 : 0 ≤ n := hg.1
    have h5 : n ≤ 5 := hg.2
    have hp := (pow_le32 h0 h5).1
    have hp0 := (pow_le32 h0 h5).2
    by_cases hl : (l.length : Int) = 2 ^ n.toNat
    · have hx : isFunB n l = allIn l (-1000) 1000 := by unfold isFunB; rw [hin, decide_eq_true hl]; rfl
      have hne : ((l.length : Int) != 2 ^ n.toNat) = false := by simp [hl]
      have HX := Lib.hid hx
      have HL := Lib.hid hl
      clear hx hc hg hl
      go_enter Tryz.func28, Tryz.ntmps28
      go_wp2_with (first
        | (go_at_call 76; refine (within_any _ _ _ _).mono ?_; rintro e w' ⟨rfl, rfl⟩)
        | (go_at_call 77; refine (areWithin_any l _ _ _ _ (hv.alloc _)).mono ?_; rintro e w' ⟨rfl, rfl⟩))
      go_ret
      exact ⟨by rw [HX.out]; rfl, bl1 _ _⟩
    · have hx : isFunB n l = false := by unfold isFunB; rw [hin, decide_eq_false hl]; rfl
      have hne : ((l.length : Int) != 2 ^ n.toNat) = true := by simp [hl]
      have HX := Lib.hid hx
      clear hx hc hg hl
      go_enter Tryz.func28, Tryz.ntmps28
      go_wp2_with (go_at_call 76; refine (within_any _ _ _ _).mono ?_; rintro e w' ⟨rfl, rfl⟩)
      go_ret
      exact ⟨by rw [HX.out]; rfl, bl1 _ _⟩

set_option maxHeartbeats 400000 in
theorem isFunS_any (n : Int) (l : List Int) (v : Value) (w : World) (hv : Ints w v l) :
    Calls Tryz.prog 16 #[.agg #[.int .i64 n, v]] w fun e w' => e = .returned (.bool (isFunB n l)) ∧ Below w.heap.size w w' := by
  obtain ⟨a, b, off, c, rfl, hlen, hix, hc, hb⟩ := hv.view Tryz.prog 22 3 Tryz.underlying22 intElem
  have hc1 := cells_below hc hb (bl1 w (.cells #[.int .i64 n, .slice a l.length c] 27)) (Nat.le_refl _)
  clear hc
  cases hin : inB n 0 5 with
  | false =>
    have hx : isFunB n l = false := by unfold isFunB; rw [hin]; rfl
    have HX := Lib.hid hx
    have HI := Lib.hid hin
    clear hx hc1 hin
    go_enter Tryz.func16, Tryz.ntmps16
    go_wp2
    go_quiet ((go_at_call 69; first | exact q_bool2 (l1In_any _ _ _ _) HI.out | exact q_bool (l1In_any _ _ _ _) HI.out))
    go_wp2
    go_ret
    exact ⟨by rw [HX.out]; rfl, (bl1 _ _).drewN' _⟩
  | true =>
    have hg := inB_true.1 hin
    have h0 : 0 ≤ n := hg.1
    have h5 : n ≤ 5 := hg.2
    have hp := (pow_le32 h0 h5).1
    have hp0 := (pow_le32 h0 h5).2
    have HI := Lib.hid hin
    clear hin
    by_cases hl : (l.length : Int) = 2 ^ n.toNat
    · have hx : isFunB n l = allIn l (-1000) 1000 := by unfold isFunB; rw [HI.out, decide_eq_true hl]; rfl
      have hne : ((l.length : Int) != 2 ^ n.toNat) = false := by simp [hl]
      have HX := Lib.hid hx
      have HL := Lib.hid hl
      clear hx hg hl
      go_enter Tryz.func16, Tryz.ntmps16
      go_wp2
      go_quiet ((go_at_call 69; first | exact q_bool2 (l1In_any _ _ _ _) HI.out | exact q_bool (l1In_any _ _ _ _) HI.out))
      go_wp2
      go_loop [3] (fun i => ∃ k : Nat, k ≤ l.length ∧ i = .int .i64 k ∧ (l.take k).all (fun x => inB x (-1000) 1000) = true) (fun i => l.length - (intOf i).toNat)
      case atStart => exact ⟨0, Nat.zero_le _, rfl, by simp⟩
      case round =>
        obtain ⟨k, hk, rfl, hall⟩ := hrel
        have H := Lib.hid hall
        clear hall
        by_cases hlt : k < l.length
        · cases hs : inB l[k] (-1000) 1000 with
          | true =>
            go_wp2_with (go_at_call 69; refine (l1In_any _ _ _ _).mono ?_; rintro e w' ⟨rfl, rfl⟩)
            go_round
            case rel => exact ⟨k + 1, by omega, by go_num, by rw [all_take_succ _ _ _ hlt, H.out, hs]; rfl⟩
            case measure => simp [intOf]; omega
          | false =>
            go_wp2_with (go_at_call 69; refine (l1In_any _ _ _ _).mono ?_; rintro e w' ⟨rfl, rfl⟩)
            go_ret
            exact ⟨ret_bool (by rw [HX.out]; unfold allIn; rw [all_false_at _ _ _ hlt hs]), (bl1 _ _).drewN' _⟩
        · go_wp2
          go_ret
          exact ⟨ret_bool (by rw [HX.out]; unfold allIn; rw [← all_of_take (fun x => inB x (-1000) 1000) l k (by omega), H.out]), (bl1 _ _).drewN' _⟩
    · have hx : isFunB n l = false := by unfold isFunB; rw [HI.out, decide_eq_false hl]; rfl
      have hne : ((l.length : Int) != 2 ^ n.toNat) = true := by simp [hl]
      have HX := Lib.hid hx
      clear hx hg hl hc1
      go_enter Tryz.func16, Tryz.ntmps16
      go_wp2
      go_quiet ((go_at_call 69; first | exact q_bool2 (l1In_any _ _ _ _) HI.out | exact q_bool (l1In_any _ _ _ _) HI.out))
      go_wp2
      go_ret
      exact ⟨by rw [HX.out]; rfl, (bl1 _ _).drewN' _⟩

def isGrB (n : Int) (l : List Int) : Bool := isFunB n l && decide (l.getD 0 0 = 0)

set_option maxHeartbeats 400000 in
theorem isGrI_any (n : Int) (l : List Int) (v : Value) (w : World) (hv : Ints w v l) :
    Calls Tryz.prog 87 #[.agg #[.int .i64 n, v]] w fun e w' => e = .returned (.bool (isGrB n l)) ∧ Below w.heap.size w w' := by
  obtain ⟨a, b, off, c, rfl, hlen, hix, hc, hb⟩ := hv.view Tryz.prog 22 3 Tryz.underlying22 intElem
  go_enter Tryz.func87, Tryz.ntmps87
  go_wp2_with fail
  refine (isFunI_any n l _ _ (hv.alloc _)).mono ?_
  rintro e w1 ⟨rfl, hb1⟩
  have d1 := keep hb1 (cell_new w #[.int .i64 n, .slice a l.length c] 27 1 _ rfl)
  have B1 : Below w.heap.size w w1 := (bl1 _ _).after hb1 (by first | omega | (simp; done) | (simp; omega))
  have hc1 := cells_below hc hb B1 (Nat.le_refl _)
  clear hc hb hb1
  cases hf : isFunB n l with
  | false =>
    have hx : isGrB n l = false := by unfold isGrB; rw [hf]; rfl
    have HX := Lib.hid hx
    clear hx
    go_wp2
    go_ret
    exact ⟨by rw [HX.out]; rfl, B1⟩
  | true =>
    obtain ⟨h0, h5, hl, _⟩ := funOk hf
    have hp := (pow_le32 h0 h5).2
    have hpos : 0 < l.length := by omega
    have hx : isGrB n l = (l[0] == 0) := by
      unfold isGrB; rw [hf, List.getD_eq_getElem?_getD, List.getElem?_eq_getElem hpos]
      simp only [Option.getD_some, Bool.true_and]
      rfl
    have HX := Lib.hid hx
    have hix0 : ∀ w', (Instr.indexAt 22 (.slice a l.length c) (.int .i64 0)).run Tryz.prog w' = .ok (.pointer (some ⟨b, off, none⟩)) w' := fun w' => by simpa using hix w' 0 hpos
    have hc0 : w1.cell? ⟨b, off, none⟩ = some (.int .i64 l[0]) := hc1 0 hpos
    clear hx hl
    go_wp2
    go_ret
    exact ⟨by rw [HX.out]; rfl, B1⟩
set_option maxHeartbeats 400000 in
theorem isGrS_any (n : Int) (l : List Int) (v : Value) (w : World) (hv : Ints w v l) :
    Calls Tryz.prog 72 #[.agg #[.int .i64 n, v]] w fun e w' => e = .returned (.bool (isGrB n l)) ∧ Below w.heap.size w w' := by
  obtain ⟨a, b, off, c, rfl, hlen, hix, hc, hb⟩ := hv.view Tryz.prog 22 3 Tryz.underlying22 intElem
  go_enter Tryz.func72, Tryz.ntmps72
  go_wp2_with fail
  refine (isFunS_any n l _ _ (hv.alloc _)).mono ?_
  rintro e w1 ⟨rfl, hb1⟩
  have d1 := keep hb1 (cell_new w #[.int .i64 n, .slice a l.length c] 27 1 _ rfl)
  have B1 : Below w.heap.size w w1 := (bl1 _ _).after hb1 (by first | omega | (simp; done) | (simp; omega))
  have hc1 := cells_below hc hb B1 (Nat.le_refl _)
  clear hc hb hb1
  cases hf : isFunB n l with
  | false =>
    have hx : isGrB n l = false := by unfold isGrB; rw [hf]; rfl
    have HX := Lib.hid hx
    clear hx
    go_wp2
    go_ret
    exact ⟨by rw [HX.out]; rfl, B1⟩
  | true =>
    obtain ⟨h0, h5, hl, _⟩ := funOk hf
    have hp := (pow_le32 h0 h5).2
    have hpos : 0 < l.length := by omega
    have hx : isGrB n l = (l[0] == 0) := by
      unfold isGrB; rw [hf, List.getD_eq_getElem?_getD, List.getElem?_eq_getElem hpos]
      simp only [Option.getD_some, Bool.true_and]
      rfl
    have HX := Lib.hid hx
    have hix0 : ∀ w', (Instr.indexAt 22 (.slice a l.length c) (.int .i64 0)).run Tryz.prog w' = .ok (.pointer (some ⟨b, off, none⟩)) w' := fun w' => by simpa using hix w' 0 hpos
    have hc0 : w1.cell? ⟨b, off, none⟩ = some (.int .i64 l[0]) := hc1 0 hpos
    clear hx hl
    go_wp2
    go_ret
    exact ⟨by rw [HX.out]; rfl, B1⟩

/-! bits and weights -/
def ibit (s : Int) (e : Nat) : Int := s / 2 ^ e % 2
theorem bit_is (s : Int) (k : Nat) (h0 : 0 ≤ s) (h1 : s < 4611686018427387904) : bits BinOp.and IntKind.i64 (s / 2 ^ k) 1 = ibit s k := by
  have hq : 0 ≤ s / 2 ^ k := Int.ediv_nonneg h0 (by have := (two_pow k k (Nat.le_refl _)).2; omega)
  have hq2 : s / 2 ^ k ≤ s := Int.ediv_le_self _ h0
  have := bitsA1 (s / 2 ^ k).toNat (by omega)
  rw [show (((s / 2 ^ k).toNat : Nat) : Int) = s / 2 ^ k by omega] at this
  rw [this]
  unfold ibit; omega
/-- the sum of the numbers of a set's elements below k -/
def wtTo (x : List Int) (s : Int) : Nat → Int
  | 0 => 0
  | k + 1 => if ibit s k = 1 then wtTo x s k + x.getD k 0 else wtTo x s k
def wt (x : List Int) (s : Int) : Int := wtTo x s x.length
theorem wtTo_bd (x : List Int) (s : Int) (h : ∀ k, (hk : k < x.length) → -1000000 ≤ x[k] ∧ x[k] ≤ 1000000) (k : Nat) (hk : k ≤ x.length) : -1000000 * (k : Int) ≤ wtTo x s k ∧ wtTo x s k ≤ 1000000 * (k : Int) := by
  induction k with
  | zero => simp [wtTo]
  | succ k ih =>
    have h1 := ih (by omega)
    have h2 := h k (by omega)
    rw [wtTo, List.getD_eq_getElem?_getD, List.getElem?_eq_getElem (show k < x.length by omega), Option.getD_some]
    split <;> omega

set_option maxHeartbeats 400000 in
theorem weightOf_any (x : List Int) (v : Value) (s : Int) (w : World) (hv : Ints w v x) (h0 : 0 ≤ s) (h1 : s < 1073741824) (hx : ∀ k, (hk : k < x.length) → -1000000 ≤ x[k] ∧ x[k] ≤ 1000000) (hl : x.length ≤ 60) :
    Calls Tryz.prog 178 #[v, .int .i64 s] w fun e w' => e = .returned (.int .i64 (wt x s)) ∧ w = w' := by
  obtain ⟨a, b, off, c, rfl, hlen, hix, hc, hb⟩ := hv.view Tryz.prog 22 3 Tryz.underlying22 intElem
  go_enter Tryz.func178, Tryz.ntmps178
  go_wp2
  go_loop [5, 10] (fun m i => ∃ k : Nat, k ≤ x.length ∧ i = .int .i64 k ∧ m = .int .i64 (wtTo x s k)) (fun _ i => x.length - (intOf i).toNat)
  case atStart => exact ⟨0, Nat.zero_le _, rfl, rfl⟩
  case round =>
    obtain ⟨k, hk, rfl, rfl⟩ := hrel
    have hbd := wtTo_bd x s hx k hk
    obtain ⟨m, hm⟩ : ∃ m, m = wtTo x s k := ⟨_, rfl⟩
    rw [← hm] at hbd ⊢
    have HM := Lib.hid hm
    clear hm
    by_cases hlt : k < x.length
    · have hxk := hx k hlt
      have hbit := bit_is s k h0 (by omega)
      have hnext : wtTo x s (k + 1) = if ibit s k = 1 then m + x[k] else m := by
        rw [wtTo, ← HM.out, List.getD_eq_getElem?_getD, List.getElem?_eq_getElem hlt, Option.getD_some]
      have HN := Lib.hid hnext
      clear hnext
      by_cases hone : ibit s k = 1
      · have ht : (ibit s k == 1) = true := by simp [hone]
        have HO := Lib.hid hone
        clear hone
        go_wp2
        go_round
        case rel => exact ⟨k + 1, by omega, by go_num, by rw [HN.out, if_pos HO.out]⟩
        case measure => simp [intOf]; omega
      · have ht : (ibit s k == 1) = false := by simp [hone]
        go_wp2
        go_round
        case rel => exact ⟨k + 1, by omega, by go_num, by rw [HN.out, if_neg hone]⟩
        case measure => simp [intOf]; omega
    · go_wp2
      go_ret
      exact ⟨ret_int (by rw [HM.out, show k = x.length from by omega]; rfl), rfl⟩

set_option maxHeartbeats 400000 in
theorem l3Weigh_any (x : List Int) (v : Value) (s : Int) (w : World) (hv : Ints w v x) (h0 : 0 ≤ s) (h1 : s < 1073741824) (hx : ∀ k, (hk : k < x.length) → -1000000 ≤ x[k] ∧ x[k] ≤ 1000000) (hl : x.length ≤ 60) :
    Calls Tryz.prog 151 #[v, .int .i64 s] w fun e w' => e = .returned (.int .i64 (wt x s)) ∧ w = w' := by
  obtain ⟨a, b, off, c, rfl, hlen, hix, hc, hb⟩ := hv.view Tryz.prog 22 3 Tryz.underlying22 intElem
  go_enter Tryz.func151, Tryz.ntmps151
  go_wp2
  go_loop [5, 6] (fun m i => ∃ k : Nat, k ≤ x.length ∧ i = .int .i64 k ∧ m = .int .i64 (wtTo x s k)) (fun _ i => x.length - (intOf i).toNat)
  case atStart => exact ⟨0, Nat.zero_le _, rfl, rfl⟩
  case round =>
    obtain ⟨k, hk, rfl, rfl⟩ := hrel
    have hbd := wtTo_bd x s hx k hk
    obtain ⟨m, hm⟩ : ∃ m, m = wtTo x s k := ⟨_, rfl⟩
    rw [← hm] at hbd ⊢
    have HM := Lib.hid hm
    clear hm
    by_cases hlt : k < x.length
    · have hxk := hx k hlt
      have hbit := bit_is s k h0 (by omega)
      have hnext : wtTo x s (k + 1) = if ibit s k = 1 then m + x[k] else m := by
        rw [wtTo, ← HM.out, List.getD_eq_getElem?_getD, List.getElem?_eq_getElem hlt, Option.getD_some]
      have HN := Lib.hid hnext
      clear hnext
      by_cases hone : ibit s k = 1
      · have ht : (ibit s k == 1) = true := by simp [hone]
        have HO := Lib.hid hone
        clear hone
        go_wp2
        go_round
        case rel => exact ⟨k + 1, by omega, by go_num, by rw [HN.out, if_pos HO.out]⟩
        case measure => simp [intOf]; omega
      · have ht : (ibit s k == 1) = false := by simp [hone]
        go_wp2
        go_round
        case rel => exact ⟨k + 1, by omega, by go_num, by rw [HN.out, if_neg hone]⟩
        case measure => simp [intOf]; omega
    · go_wp2
      go_ret
      exact ⟨ret_int (by rw [HM.out, show k = x.length from by omega]; rfl), rfl⟩

end Go.Proofs.YtelmokapdkepbaaGreatDoor
end
