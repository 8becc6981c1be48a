/- Functions of sets: what is one. Games. Blocks that are known whole. Vectors below a function. -/
import Derived.Test.YtipejodijbjpcaaGreatDoorQ02
import Derived.Deep.RegionHeld3
section
namespace Go.Proofs.YtipejodijbjpcaaGreatDoor
open Go.RowKit Go.G5

def allIn (l : List Int) (lo hi : Int) : Bool := l.all fun x => inB x lo hi

set_option maxHeartbeats 400000 in
theorem areWithin_any (l : List Int) (v : Value) (lo hi : Int) (w : World) (hv : Ints w v l) :
    Calls Tryz.prog 131 #[v, .int .i64 lo, .int .i64 hi] w fun e w' => e = .returned (.bool (allIn l lo hi)) ∧ w = w' := by
  obtain ⟨a, b, off, c, rfl, hlen, hix, hc, hb⟩ := hv.view Tryz.prog 22 3 Tryz.underlying22 intElem
  go_enter Tryz.func131, Tryz.ntmps131
  go_wp2
  go_loop [11] (fun i => ∃ k : Nat, k ≤ l.length ∧ i = .int .i64 k ∧ (l.take k).all (fun x => inB x lo hi) = true) (fun i => l.length - (intOf i).toNat)
  case atStart => exact ⟨0, Nat.zero_le _, rfl, by simp⟩
  case round =>
    obtain ⟨k, hk, rfl, hall⟩ := hrel
    have H := Lib.hid hall
    clear hall
    by_cases hlt : k < l.length
    · cases hs : inB l[k] lo hi with
      | true =>
        go_wp2_with (go_at_call 143; refine (within_any _ _ _ _).mono ?_; rintro e w' ⟨rfl, rfl⟩)
        go_round
        case rel => exact ⟨k + 1, by omega, by go_num, by rw [all_take_succ _ _ _ hlt, H.out, hs]; rfl⟩
        case measure => simp [intOf]; omega
      | false =>
        go_wp2_with (go_at_call 143; refine (within_any _ _ _ _).mono ?_; rintro e w' ⟨rfl, rfl⟩)
        go_ret
        exact ⟨ret_bool (by unfold allIn; rw [all_false_at _ _ _ hlt hs]), rfl⟩
    · go_wp2
      go_ret
      exact ⟨ret_bool (by unfold allIn; rw [← all_of_take (fun x => inB x lo hi) l k (by omega), H.out]), rfl⟩

def isFunB (n : Int) (l : List Int) : Bool := inB n 0 5 && decide ((l.length : Int) = 2 ^ n.toNat) && allIn l (-1000) 1000
theorem pow_le32 {g : Int} (h0 : 0 ≤ g) (h6 : g ≤ 5) : (2 : Int) ^ g.toNat ≤ 32 ∧ 0 < (2 : Int) ^ g.toNat := by
  have := two_pow g.toNat 5 (by omega)
  simpa using this
theorem funOk {n : Int} {l : List Int} (h : isFunB n l = true) : 0 ≤ n ∧ n ≤ 5 ∧ (l.length : Int) = 2 ^ n.toNat ∧ (∀ k, (hk : k < l.length) → -1000 ≤ l[k] ∧ l[k] ≤ 1000) := by
  unfold isFunB allIn at h
  simp only [Bool.and_eq_true, List.all_eq_true, decide_eq_true_eq] at h
  obtain ⟨⟨h1, h2⟩, h3⟩ := h
  have := inB_true.1 h1
  exact ⟨this.1, this.2, h2, fun k hk => inB_true.1 (h3 _ (List.getElem_mem hk))⟩

set_option maxHeartbeats 400000 in
theorem isFunI_any (n : Int) (l : List Int) (v : Value) (w : World) (hv : Ints w v l) :
    Calls Tryz.prog 111 #[.agg #[.int .i64 n, v]] w fun e w' => e = .returned (.bool (isFunB n l)) ∧ Below w.heap.size w w' := by
  obtain ⟨a, b, off, c, rfl, hlen, hix, hc, hb⟩ := hv.view Tryz.prog 22 3 Tryz.underlying22 intElem
  cases hin : inB n 0 5 with
  | false =>
    have hx : isFunB n l = false := by unfold isFunB; rw [hin]; rfl
    have HX := Lib.hid hx
    clear hx hc
    go_enter Tryz.func111, Tryz.ntmps111
    go_wp2_with (go_at_call 143; refine (within_any _ _ _ _).mono ?_; rintro e w' ⟨rfl, rfl⟩)
    go_ret
    exact ⟨by rw [HX.out]; rfl, bl1 _ _⟩
  | true =>
    have hg := inB_true.1 hin
    have h0 : 0 ≤ n := hg.1
    have h5 : n ≤ 5 := hg.2
    have hp := (pow_le32 h0 h5).1
    have hp0 := (pow_le32 h0 h5).2
    by_cases hl : (l.length : Int) = 2 ^ n.toNat
    · have hx : isFunB n l = allIn l (-1000) 1000 := by unfold isFunB; rw [hin, decide_eq_true hl]; rfl
      have hne : ((l.length : Int) != 2 ^ n.toNat) = false := by simp [hl]
      have HX := Lib.hid hx
      have HL := Lib.hid hl
      clear hx hc hg hl
      go_enter Tryz.func111, Tryz.ntmps111
      go_wp2_with (first
        | (go_at_call 143; refine (within_any _ _ _ _).mono ?_; rintro e w' ⟨rfl, rfl⟩)
        | (go_at_call 131; refine (areWithin_any l _ _ _ _ (hv.alloc _)).mono ?_; rintro e w' ⟨rfl, rfl⟩))
      go_ret
      exact ⟨by rw [HX.out]; rfl, bl1 _ _⟩
    · have hx : isFunB n l = false := by unfold isFunB; rw [hin, decide_eq_false hl]; rfl
      have hne : ((l.length : Int) != 2 ^ n.toNat) = true := by simp [hl]
      have HX := Lib.hid hx
      clear hx hc hg hl
      go_enter Tryz.func111, Tryz.ntmps111
      go_wp2_with (go_at_call 143; refine (within_any _ _ _ _).mono ?_; rintro e w' ⟨rfl, rfl⟩)
      go_ret
      exact ⟨by rw [HX.out]; rfl, bl1 _ _⟩

set_option maxHeartbeats 400000 in
theorem isFunS_any (n : Int) (l : List Int) (v : Value) (w : World) (hv : Ints w v l) :
    Calls Tryz.prog 129 #[.agg #[.int .i64 n, v]] w fun e w' => e = .returned (.bool (isFunB n l)) ∧ Below w.heap.size w w' := by
  obtain ⟨a, b, off, c, rfl, hlen, hix, hc, hb⟩ := hv.view Tryz.prog 22 3 Tryz.underlying22 intElem
  have hc1 := cells_below hc hb (bl1 w (.cells #[.int .i64 n, .slice a l.length c] 32)) (Nat.le_refl _)
  clear hc
  cases hin : inB n 0 5 with
  | false =>
    have hx : isFunB n l = false := by unfold isFunB; rw [hin]; rfl
    have HX := Lib.hid hx
    have HI := Lib.hid hin
    clear hx hc1 hin
    go_enter Tryz.func129, Tryz.ntmps129
    go_wp2
    go_quiet ((go_at_call 188; first | exact q_bool2 (l1In_any _ _ _ _) HI.out | exact q_bool (l1In_any _ _ _ _) HI.out))
    go_wp2
    go_ret
    exact ⟨by rw [HX.out]; rfl, (bl1 _ _).drewN' _⟩
  | true =>
    have hg := inB_true.1 hin
    have h0 : 0 ≤ n := hg.1
    have h5 : n ≤ 5 := hg.2
    have hp := (pow_le32 h0 h5).1
    have hp0 := (pow_le32 h0 h5).2
    have HI := Lib.hid hin
    clear hin
    by_cases hl : (l.length : Int) = 2 ^ n.toNat
    · have hx : isFunB n l = allIn l (-1000) 1000 := by unfold isFunB; rw [HI.out, decide_eq_true hl]; rfl
      have hne : ((l.length : Int) != 2 ^ n.toNat) = false := by simp [hl]
      have HX := Lib.hid hx
      have HL := Lib.hid hl
      clear hx hg hl
      go_enter Tryz.func129, Tryz.ntmps129
      go_wp2
      go_quiet ((go_at_call 188; first | exact q_bool2 (l1In_any _ _ _ _) HI.out | exact q_bool (l1In_any _ _ _ _) HI.out))
      go_wp2
      go_loop [3] (fun i => ∃ k : Nat, k ≤ l.length ∧ i = .int .i64 k ∧ (l.take k).all (fun x => inB x (-1000) 1000) = true) (fun i => l.length - (intOf i).toNat)
      case atStart => exact ⟨0, Nat.zero_le _, rfl, by simp⟩
      case round =>
        obtain ⟨k, hk, rfl, hall⟩ := hrel
        have H := Lib.hid hall
        clear hall
        by_cases hlt : k < l.length
        · cases hs : inB l[k] (-1000) 1000 with
          | true =>
            go_wp2_with (go_at_call 188; refine (l1In_any _ _ _ _).mono ?_; rintro e w' ⟨rfl, rfl⟩)
            go_round
            case rel => exact ⟨k + 1, by omega, by go_num, by rw [all_take_succ _ _ _ hlt, H.out, hs]; rfl⟩
            case measure => simp [intOf]; omega
          | false =>
            go_wp2_with (go_at_call 188; refine (l1In_any _ _ _ _).mono ?_; rintro e w' ⟨rfl, rfl⟩)
            go_ret
            exact ⟨ret_bool (by rw [HX.out]; unfold allIn; rw [all_false_at _ _ _ hlt hs]), (bl1 _ _).drewN' _⟩
        · go_wp2
          go_ret
          exact ⟨ret_bool (by rw [HX.out]; unfold allIn; rw [← all_of_take (fun x => inB x (-1000) 1000) l k (by omega), H.out]), (bl1 _ _).drewN' _⟩
    · have hx : isFunB n l = false := by unfold isFunB; rw [HI.out, decide_eq_false hl]; rfl
      have hne : ((l.length : Int) != 2 ^ n.toNat) = true := by simp [hl]
      have HX := Lib.hid hx
      clear hx hg hl hc1
      go_enter Tryz.func129, Tryz.ntmps129
      go_wp2
      go_quiet ((go_at_call 188; first | exact q_bool2 (l1In_any _ _ _ _) HI.out | exact q_bool (l1In_any _ _ _ _) HI.out))
      go_wp2
      go_ret
      exact ⟨by rw [HX.out]; rfl, (bl1 _ _).drewN' _⟩

def isGrB (n : Int) (l : List Int) : Bool := isFunB n l && decide (l.getD 0 0 = 0)

set_option maxHeartbeats 400000 in
theorem isGrI_any (n : Int) (l : List Int) (v : Value) (w : World) (hv : Ints w v l) :
    Calls Tryz.prog 119 #[.agg #[.int .i64 n, v]] w fun e w' => e = .returned (.bool (isGrB n l)) ∧ Below w.heap.size w w' := by
  obtain ⟨a, b, off, c, rfl, hlen, hix, hc, hb⟩ := hv.view Tryz.prog 22 3 Tryz.underlying22 intElem
  go_enter Tryz.func119, Tryz.ntmps119
  go_wp2_with fail
  refine (isFunI_any n l _ _ (hv.alloc _)).mono ?_
  rintro e w1 ⟨rfl, hb1⟩
  have d1 := keep hb1 (cell_new w #[.int .i64 n, .slice a l.length c] 32 1 _ rfl)
  have B1 : Below w.heap.size w w1 := (bl1 _ _).after hb1 (by first | omega | (simp; done) | (simp; omega))
  have hc1 := cells_below hc hb B1 (Nat.le_refl _)
  clear hc hb hb1
  cases hf : isFunB n l with
  | false =>
    have hx : isGrB n l = false := by unfold isGrB; rw [hf]; rfl
    have HX := Lib.hid hx
    clear hx
    go_wp2
    go_ret
    exact ⟨by rw [HX.out]; rfl, B1⟩
  | true =>
    obtain ⟨h0, h5, hl, _⟩ := funOk hf
    have hp := (pow_le32 h0 h5).2
    have hpos : 0 < l.length := by omega
    have hx : isGrB n l = (l[0] == 0) := by
      unfold isGrB; rw [hf, List.getD_eq_getElem?_getD, List.getElem?_eq_getElem hpos]
      simp only [Option.getD_some, Bool.true_and]
      rfl
    have HX := Lib.hid hx
    have hix0 : ∀ w', (Instr.indexAt 22 (.slice a l.length c) (.int .i64 0)).run Tryz.prog w' = .ok (.pointer (some ⟨b, off, none⟩)) w' := fun w' => by simpa using hix w' 0 hpos
    have hc0 : w1.cell? ⟨b, off, none⟩ = some (.int .i64 l[0]) := hc1 0 hpos
    clear hx hl
    go_wp2
    go_ret
    exact ⟨by rw [HX.out]; rfl, B1⟩
set_option maxHeartbeats 400000 in
theorem isGrS_any (n : Int) (l : List Int) (v : Value) (w : World) (hv : Ints w v l) :
    Calls Tryz.prog 20 #[.agg #[.int .i64 n, v]] w fun e w' => e = .returned (.bool (isGrB n l)) ∧ Below w.heap.size w w' := by
  obtain ⟨a, b, off, c, rfl, hlen, hix, hc, hb⟩ := hv.view Tryz.prog 22 3 Tryz.underlying22 intElem
  go_enter Tryz.func20, Tryz.ntmps20
  go_wp2_with fail
  refine (isFunS_any n l _ _ (hv.alloc _)).mono ?_
  rintro e w1 ⟨rfl, hb1⟩
  have d1 := keep hb1 (cell_new w #[.int .i64 n, .slice a l.length c] 32 1 _ rfl)
  have B1 : Below w.heap.size w w1 := (bl1 _ _).after hb1 (by first | omega | (simp; done) | (simp; omega))
  have hc1 := cells_below hc hb B1 (Nat.le_refl _)
  clear hc hb hb1
  cases hf : isFunB n l with
  | false =>
    have hx : isGrB n l = false := by unfold isGrB; rw [hf]; rfl
    have HX := Lib.hid hx
    clear hx
    go_wp2
    go_ret
    exact ⟨by rw [HX.out]; rfl, B1⟩
  | true =>
    obtain ⟨h0, h5, hl, _⟩ := funOk hf
    have hp := (pow_le32 h0 h5).2
    have hpos : 0 < l.length := by omega
    have hx : isGrB n l = (l[0] == 0) := by
      unfold isGrB; rw [hf, List.getD_eq_getElem?_getD, List.getElem?_eq_getElem hpos]
      simp only [Option.getD_some, Bool.true_and]
      rfl
    have HX := Lib.hid hx
    have hix0 : ∀ w', (Instr.indexAt 22 (.slice a l.length c) (.int .i64 0)).run Tryz.prog w' = .ok (.pointer (some ⟨b, off, none⟩)) w' := fun w' => by simpa using hix w' 0 hpos
    have hc0 : w1.cell? ⟨b, off, none⟩ = some (.int .i64 l[0]) := hc1 0 hpos
    clear hx hl
    go_wp2
    go_ret
    exact ⟨by rw [HX.out]; rfl, B1⟩

/-! bits and weights -/
def ibit (s : Int) (e : Nat) : Int := s / 2 ^ e % 2
theorem bit_is (s : Int) (k : Nat) (h0 : 0 ≤ s) (h1 : s < 4611686018427387904) : bits BinOp.and IntKind.i64 (s / 2 ^ k) 1 = ibit s k := by
  have hq : 0 ≤ s / 2 ^ k := Int.ediv_nonneg h0 (by have := (two_pow k k (Nat.le_refl _)).2; omega)
  have hq2 : s / 2 ^ k ≤ s := Int.ediv_le_self _ h0
  have := bitsA1 (s / 2 ^ k).toNat (by omega)
  rw [show (((s / 2 ^ k).toNat : Nat) : Int) = s / 2 ^ k by omega] at this
  rw [this]
  unfold ibit; omega
/-- the sum of the numbers of a set's elements below k -/
def wtTo (x : List Int) (s : Int) : Nat → Int
  | 0 => 0
  | k + 1 => if ibit s k = 1 then wtTo x s k + x.getD k 0 else wtTo x s k
def wt (x : List Int) (s : Int) : Int := wtTo x s x.length
theorem wtTo_bd (x : List Int) (s : Int) (h : ∀ k, (hk : k < x.length) → -1000000 ≤ x[k] ∧ x[k] ≤ 1000000) (k : Nat) (hk : k ≤ x.length) : -1000000 * (k : Int) ≤ wtTo x s k ∧ wtTo x s k ≤ 1000000 * (k : Int) := by
  induction k with
  | zero => simp [wtTo]
  | succ k ih =>
    have h1 := ih (by omega)
    have h2 := h k (by omega)
    rw [wtTo, List.getD_eq_getElem?_getD, List.getElem?_eq_getElem (show k < x.length by omega), Option.getD_some]
    split <;> omega

set_option maxHeartbeats 400000 in
theorem weightOf_any (x : List Int) (v : Value) (s : Int) (w : World) (hv : Ints w v x) (h0 : 0 ≤ s) (h1 : s < 1073741824) (hx : ∀ k, (hk : k < x.length) → -1000000 ≤ x[k] ∧ x[k] ≤ 1000000) (hl : x.length ≤ 60) :
    Calls Tryz.prog 132 #[v, .int .i64 s] w fun e w' => e = .returned (.int .i64 (wt x s)) ∧ w = w' := by
  obtain ⟨a, b, off, c, rfl, hlen, hix, hc, hb⟩ := hv.view Tryz.prog 22 3 Tryz.underlying22 intElem
  go_enter Tryz.func132, Tryz.ntmps132
  go_wp2
  go_loop [5, 10] (fun m i => ∃ k : Nat, k ≤ x.length ∧ i = .int .i64 k ∧ m = .int .i64 (wtTo x s k)) (fun _ i => x.length - (intOf i).toNat)
  case atStart => exact ⟨0, Nat.zero_le _, rfl, rfl⟩
  case round =>
    obtain ⟨k, hk, rfl, rfl⟩ := hrel
    have hbd := wtTo_bd x s hx k hk
    obtain ⟨m, hm⟩ : ∃ m, m = wtTo x s k := ⟨_, rfl⟩
    rw [← hm] at hbd ⊢
    have HM := Lib.hid hm
    clear hm
    by_cases hlt : k < x.length
    · have hxk := hx k hlt
      have hbit := bit_is s k h0 (by omega)
      have hnext : wtTo x s (k + 1) = if ibit s k = 1 then m + x[k] else m := by
        rw [wtTo, ← HM.out, List.getD_eq_getElem?_getD, List.getElem?_eq_getElem hlt, Option.getD_some]
      have HN := Lib.hid hnext
      clear hnext
      by_cases hone : ibit s k = 1
      · have ht : (ibit s k == 1) = true := by simp [hone]
        have HO := Lib.hid hone
        clear hone
        go_wp2
        go_round
        case rel => exact ⟨k + 1, by omega, by go_num, by rw [HN.out, if_pos HO.out]⟩
        case measure => simp [intOf]; omega
      · have ht : (ibit s k == 1) = false := by simp [hone]
        go_wp2
        go_round
        case rel => exact ⟨k + 1, by omega, by go_num, by rw [HN.out, if_neg hone]⟩
        case measure => simp [intOf]; omega
    · go_wp2
      go_ret
      exact ⟨ret_int (by rw [HM.out, show k = x.length from by omega]; rfl), rfl⟩

end Go.Proofs.YtipejodijbjpcaaGreatDoor
end
section
namespace Go.Proofs.YtipejodijbjpcaaGreatDoor
open Go.RowKit Go.G5

def isLongB (n : Int) (x : List Int) : Bool := decide ((x.length : Int) = n) && allIn x (-5000) 5000

theorem isLong_any (n : Int) (l : List Int) (v : Value) (x : List Int) (u : Value) (w : World) (hv : Ints w v l) (hu : Ints w u x) :
    Calls Tryz.prog 245 #[.agg #[.int .i64 n, v], u] w fun e w' => e = .returned (.bool (isLongB n x)) ∧ Below w.heap.size w w' := by
  obtain ⟨av, cv, rfl⟩ := hv.shape
  obtain ⟨au, cu, rfl⟩ := hu.shape
  by_cases hl : (x.length : Int) = n
  · have hx : isLongB n x = allIn x (-5000) 5000 := by unfold isLongB; rw [decide_eq_true hl]; rfl
    have ht : ((x.length : Int) == n) = true := by simp [hl]
    have HX := Lib.hid hx
    clear hx hl
    go_enter Tryz.func245, Tryz.ntmps245
    go_wp2_with (go_at_call 131; refine (areWithin_any x _ _ _ _ (hu.alloc _)).mono ?_; rintro e w' ⟨rfl, rfl⟩)
    go_ret
    exact ⟨by rw [HX.out]; rfl, bl1 _ _⟩
  · have hx : isLongB n x = false := by unfold isLongB; rw [decide_eq_false hl]; rfl
    have ht : ((x.length : Int) == n) = false := by simp [hl]
    have HX := Lib.hid hx
    clear hx hl
    go_enter Tryz.func245, Tryz.ntmps245
    go_wp2
    go_ret
    exact ⟨by rw [HX.out]; rfl, bl1 _ _⟩

theorem allOf_any (n : Int) (v : Value) (l : List Int) (w : World) (hv : Ints w v l) (h0 : 0 ≤ n) (h1 : n ≤ 40) :
    Calls Tryz.prog 127 #[.agg #[.int .i64 n, v]] w fun e w' => e = .returned (.int .i64 (2 ^ n.toNat - 1)) ∧ Below w.heap.size w w' := by
  obtain ⟨av, cv, rfl⟩ := hv.shape
  have h2 := two_pow n.toNat 40 (by omega)
  have h3 := h2.1
  have h4 := h2.2
  simp at h3
  clear h2
  go_enter Tryz.func127, Tryz.ntmps127
  go_wp2
  go_ret
  exact ⟨rfl, bl1 _ _⟩

/-- what a set's value has over its weight -/
def slackOf (l x : List Int) (s : Int) : Int := l.getD s.toNat 0 - wt x s

set_option maxHeartbeats 400000 in
theorem slack_any (n : Int) (l : List Int) (v : Value) (x : List Int) (u : Value) (s : Int) (w : World) (hv : Ints w v l) (hu : Ints w u x) (h0 : 0 ≤ s) (hs : s < l.length) (hll : l.length ≤ 64)
    (hlb : ∀ k, (hk : k < l.length) → -1000 ≤ l[k] ∧ l[k] ≤ 1000) (hx : ∀ k, (hk : k < x.length) → -5000 ≤ x[k] ∧ x[k] ≤ 5000) (hxl : x.length ≤ 6) :
    Calls Tryz.prog 126 #[.agg #[.int .i64 n, v], u, .int .i64 s] w fun e w' => e = .returned (.int .i64 (slackOf l x s)) ∧ Below w.heap.size w w' := by
  obtain ⟨a, b, off, c, rfl, hlen, hix, hc, hb⟩ := hv.view Tryz.prog 22 3 Tryz.underlying22 intElem
  obtain ⟨au, cu, rfl⟩ := hu.shape
  obtain ⟨k, rfl⟩ := Int.eq_ofNat_of_zero_le h0
  have hk : k < l.length := by omega
  have hck := cells_below hc hb (bl1 w (.cells #[.int .i64 n, .slice a l.length c] 32)) (Nat.le_refl _) k hk
  have hxk := hlb k hk
  have hw := wtTo_bd x k (fun j hj => by have := hx j hj; omega) x.length (Nat.le_refl _)
  have hw' : -6000000 ≤ wt x k ∧ wt x k ≤ 6000000 := by unfold wt; omega
  have hg : l.getD (k : Int).toNat 0 = l[k] := by simp [hk]
  have HG := Lib.hid hg
  clear hc hlb hw hg
  go_enter Tryz.func126, Tryz.ntmps126
  go_wp2
  go_quiet ((go_at_call 132; first | exact q_same2 (weightOf_any x _ _ _ ((hu.alloc _).drewN _) (by omega) (by omega) (fun j hj => by have := hx j hj; omega) (by omega)) | exact q_same (weightOf_any x _ _ _ ((hu.alloc _).drewN _) (by omega) (by omega) (fun j hj => by have := hx j hj; omega) (by omega))))
  go_wp2
  go_ret
  exact ⟨ret_int (by unfold slackOf; rw [HG.out]), (bl1 _ _).drewN' _⟩
/-! the core -/
def coreOkTo (l x : List Int) : Nat → Bool
  | 0 => true
  | k + 1 => coreOkTo l x k && decide (slackOf l x k ≤ 0)
def inCoreB (n : Int) (l x : List Int) : Bool :=
  isGrB n l && isLongB n x && coreOkTo l x l.length && (slackOf l x (2 ^ n.toNat - 1) == 0)
theorem longOk {n : Int} {x : List Int} (h : isLongB n x = true) : (x.length : Int) = n ∧ ∀ k, (hk : k < x.length) → -5000 ≤ x[k] ∧ x[k] ≤ 5000 := by
  unfold isLongB allIn at h
  simp only [Bool.and_eq_true, List.all_eq_true, decide_eq_true_eq] at h
  exact ⟨h.1, fun k hk => inB_true.1 (h.2 _ (List.getElem_mem hk))⟩
theorem grOk {n : Int} {l : List Int} (h : isGrB n l = true) : isFunB n l = true := by
  unfold isGrB at h
  simp only [Bool.and_eq_true] at h
  exact h.1
end Go.Proofs.YtipejodijbjpcaaGreatDoor
end
section
namespace Go.G5
open Go Go.RowKit
/-- block g is just the cells cs -/
def Blk (w : World) (g : Nat) (t : TypeId) (cs : Array Value) : Prop := w.heap[g]? = some (.cells cs t (0, 0))
section
variable {w w' : World} {g : Nat} {t : TypeId} {cs : Array Value}
theorem Blk.lt (h : Blk w g t cs) : g < w.heap.size := (Array.getElem?_eq_some_iff.1 h).1
theorem Blk.cell (h : Blk w g t cs) : ∀ i, w.cell? ⟨g, i, none⟩ = cs[i]? := fun i => cell_of_row w g i cs t (0, 0) h
theorem Blk.frozen (h : Blk w g t cs) : ∀ i, w.frozen? ⟨g, i, none⟩ = false := fun i => by
  unfold Blk at h
  simp [World.frozen?, h]
theorem Blk.new (w : World) (t : TypeId) (cs : Array Value) : Blk (w.alloc (.cells cs t)) w.heap.size t cs := heap_alloc_new w _
theorem Blk.keep (h : Blk w g t cs) (hb : Below w.heap.size w w') : Blk w' g t cs := (hb.block g h.lt).trans h
theorem Blk.alloc (h : Blk w g t cs) (o : Obj) : Blk (w.alloc o) g t cs := h.keep (bl1 w o)
theorem Blk.drewN (h : Blk w g t cs) (n : Nat) : Blk (w.drewN n) g t cs := h
theorem Blk.set (h : Blk w g t cs) (i : Nat) (u : Value) : Blk (w.setCell ⟨g, i, none⟩ u) g t (cs.setIfInBounds i u) := by
  unfold Blk at h ⊢
  simp [World.setCell, Array.getElem?_modify, h]
theorem Blk.far (h : Blk w g t cs) {p : Addr} (hp : g ≠ p.block) (u : Value) : Blk (w.setCell p u) g t cs := (Below.heap_setCell w p u g hp).trans h
theorem Blk.grow {row : Option Nat} (h : Blk w g t cs) (hb : w.grownBy w' row) (hg : row ≠ some g) : Blk w' g t cs := (hb.block g h.lt (fun e => hg e.symm)).trans h
end
theorem post_named {P : Program} {f : Func} {Q : Ending → World → Prop} {e : Exit} {a : Act} {W : World} (h : ∀ W', W' = W → bodyPost P f Q e a W') : bodyPost P f Q e a W := h W rfl
end Go.G5
end
section
namespace Go.Proofs.YtipejodijbjpcaaGreatDoor
open Go.RowKit Go.G5

def belOkTo (l x : List Int) : Nat → Bool
  | 0 => true
  | k + 1 => belOkTo l x k && decide (0 ≤ slackOf l x k)
def belB (n : Int) (l x : List Int) : Bool := isGrB n l && isLongB n x && belOkTo l x l.length
theorem belOk_false (l x : List Int) (k : Nat) (h : slackOf l x k < 0) : ∀ m, k < m → belOkTo l x m = false := by
  intro m
  induction m with
  | zero => intro h; omega
  | succ m ih =>
    intro hm
    rw [belOkTo]
    by_cases hkm : k < m
    · rw [ih hkm]; rfl
    · have : m = k := by omega
      subst this
      rw [decide_eq_false (by omega)]; simp
theorem belOk_true (l x : List Int) : ∀ m, belOkTo l x m = true → ∀ k : Nat, k < m → 0 ≤ slackOf l x k := by
  intro m
  induction m with
  | zero => intro _ k hk; omega
  | succ m ih =>
    intro h k hk
    rw [belOkTo] at h
    obtain ⟨h1, h2⟩ := Bool.and_eq_true_iff.1 h
    by_cases hkm : k < m
    · exact ih h1 k hkm
    · have : k = m := by omega
      subst this
      exact of_decide_eq_true h2

set_option maxHeartbeats 1000000 in
theorem isBelowI_any (w : World) (n : Int) (v : Value) (l : List Int) (hv : Ints w v l) (u : Value) (x : List Int) (hu : Ints w u x) :
    Calls Tryz.prog 125 #[.agg #[.int .i64 n, v], u] w fun e w' => e = .returned (.bool (belB n l x)) ∧ Below w.heap.size w w' := by
  obtain ⟨av, cv, rfl⟩ := hv.shape
  obtain ⟨au, cu, rfl⟩ := hu.shape
  go_enter Tryz.func125, Tryz.ntmps125
  go_wp2_with fail
  refine (isGrI_any n l _ _ (hv.alloc _)).mono ?_
  rintro e w1 ⟨rfl, hb1⟩
  have X1 := (Box2.new w n (.slice av l.length cv) 32).after hb1
  clear hb1
  cases hg : isGrB n l with
  | false =>
    have hx : belB n l x = false := by unfold belB; rw [hg]; rfl
    have HX := Lib.hid hx
    obtain ⟨d0, d1, B1, z1⟩ := X1
    clear hx
    go_wp2
    go_ret
    exact ⟨by rw [HX.out]; rfl, B1⟩
  | true =>
    obtain ⟨h0, h5, hl, hlb⟩ := funOk (grOk hg)
    have hp := pow_le32 h0 h5
    have hl32 : l.length ≤ 64 := by omega
    have HLB := Lib.hid hlb
    clear hl hlb hp
    obtain ⟨d0, d1, B1, z1⟩ := X1
    go_wp2_with fail
    refine (isLong_any n l _ x _ _ (hv.below B1 (Nat.le_refl _)) (hu.below B1 (Nat.le_refl _))).mono ?_
    rintro e w2 ⟨rfl, hb2⟩
    have X2 := (Box2.mk d0 d1 B1 z1).after hb2
    clear hb2 d0 d1 B1 z1
    cases hlo : isLongB n x with
    | false =>
      have hx : belB n l x = false := by unfold belB; rw [hg, hlo]; rfl
      have HX := Lib.hid hx
      obtain ⟨d0, d1, B1, z1⟩ := X2
      clear hx
      go_wp2
      go_ret
      exact ⟨by rw [HX.out]; rfl, B1⟩
    | true =>
      obtain ⟨hxl, hxb⟩ := longOk hlo
      have hxl6 : x.length ≤ 6 := by omega
      have hx : belB n l x = belOkTo l x l.length := by unfold belB; rw [hg, hlo]; rfl
      have HX := Lib.hid hx
      have HXB := Lib.hid hxb
      clear hx hxb hxl
      obtain ⟨d0, d1, B1, z1⟩ := X2
      go_wp2_with fail
      go_loopw [18] (fun i wr => ∃ k : Nat, k ≤ l.length ∧ i = .int .i64 k ∧ belOkTo l x k = true ∧ Box2 w wr n (.slice av l.length cv)) (fun i _ => l.length - (intOf i).toNat)
      case atStart => exact ⟨0, Nat.zero_le _, rfl, rfl, ⟨d0, d1, B1, z1⟩⟩
      case round =>
        obtain ⟨k, hk, rfl, hok, X⟩ := hrel
        have HO := Lib.hid hok
        clear hok d0 d1 B1 z1
        obtain ⟨d0, d1, B1, z1⟩ := X
        by_cases hlt : k < l.length
        · have hlt2 : (k : Int) < (l.length : Int) := by omega
          go_wp2_with fail
          refine (slack_any n l _ x _ k _ (hv.below B1 (Nat.le_refl _)) (hu.below B1 (Nat.le_refl _)) (by omega) (by omega) hl32 HLB.out HXB.out hxl6).mono ?_
          rintro e w3 ⟨rfl, hb3⟩
          have X3 := (Box2.mk d0 d1 B1 z1).after hb3
          clear hb3 d0 d1 B1 z1
          by_cases hle : slackOf l x k < 0
          · go_wp2
            go_ret
            refine ⟨ret_bool ?_, X3.B⟩
            rw [HX.out, belOk_false l x k hle _ hlt]
          · go_wp2
            go_roundw
            case rel => exact ⟨k + 1, by omega, by go_num, by rw [belOkTo, HO.out, decide_eq_true (by omega)]; rfl, X3⟩
            case measure => simp [intOf]; omega
        · have hlt2 : ¬ (k : Int) < (l.length : Int) := by omega
          have hkl : k = l.length := by omega
          have HK := Lib.hid hkl
          clear hkl
          go_wp2
          go_ret
          exact ⟨ret_bool (by rw [HX.out, ← HK.out, HO.out]), B1⟩

end Go.Proofs.YtipejodijbjpcaaGreatDoor
end
