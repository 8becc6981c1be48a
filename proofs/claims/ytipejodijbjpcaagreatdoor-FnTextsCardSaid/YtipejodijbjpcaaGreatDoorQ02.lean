/- The program's table rows that the walks use. Small functions of numbers. Sets as numbers: sizes and bits. Families: what is one. -/
import Derived.Test.YtipejodijbjpcaaGreatDoorQ01
import Derived.Test.YtipejodijbjpcaaGreatDoorChecked
import Derived.Deep.Light
import Derived.Laws.BitsAllLaws
section
namespace Go.Proofs.YtipejodijbjpcaaGreatDoor
open Go.RowKit Go.G5
theorem intElem : IntElem Tryz.prog 3 := ⟨by kernel_rfl⟩
end Go.Proofs.YtipejodijbjpcaaGreatDoor
end
section
namespace Go.Proofs.YtipejodijbjpcaaGreatDoor
open Go.RowKit Go.G5

def inB (n lo hi : Int) : Bool := decide (lo ≤ n) && decide (n ≤ hi)
theorem inB_true {n lo hi : Int} : inB n lo hi = true ↔ lo ≤ n ∧ n ≤ hi := by simp [inB]
theorem within_any (n lo hi : Int) (w : World) :
    Calls Tryz.prog 143 #[.int .i64 n, .int .i64 lo, .int .i64 hi] w fun e w' => e = .returned (.bool (inB n lo hi)) ∧ w = w' := by
  unfold inB
  by_cases h1 : lo ≤ n
  · go_enter Tryz.func143, Tryz.ntmps143
    go_wp2
    go_ret
    exact ⟨by simp [h1], rfl⟩
  · have h2 : decide (lo ≤ n) = false := by simpa using h1
    go_enter Tryz.func143, Tryz.ntmps143
    go_wp2
    go_ret
    exact ⟨ret_bool (by simp), rfl⟩

theorem l1In_any (n lo hi : Int) (w : World) :
    Calls Tryz.prog 188 #[.int .i64 n, .int .i64 lo, .int .i64 hi] w fun e w' => e = .returned (.bool (inB n lo hi)) ∧ w = w' := by
  unfold inB
  by_cases h1 : lo ≤ n
  · go_enter Tryz.func188, Tryz.ntmps188
    go_wp2
    go_ret
    exact ⟨by simp [h1], rfl⟩
  · have h2 : decide (lo ≤ n) = false := by simpa using h1
    go_enter Tryz.func188, Tryz.ntmps188
    go_wp2
    go_ret
    exact ⟨ret_bool (by simp), rfl⟩

def harm (n : Nat) : Int := match n with
  | 0 => 0
  | n + 1 => harm n + 60 / ((n : Int) + 1)
end Go.Proofs.YtipejodijbjpcaaGreatDoor
end
section
namespace Go.Proofs.YtipejodijbjpcaaGreatDoor
open Go.RowKit Go.G5

theorem wraps_i64 (n : Int) (h₀ : 0 ≤ n) (h₁ : n < 2 ^ 62) : IntKind.i64.wrap n = n := by rw [IntKind.wrap_i64]; omega
theorem bitsA (a b : Nat) (ha : a < 2 ^ 62) (hb : b < 2 ^ 62) : bits .and .i64 (a : Int) (b : Int) = ((a &&& b : Nat) : Int) := (bits_nat .i64 62 (by decide) wraps_i64 a b ha hb).1
theorem bitsO (a b : Nat) (ha : a < 2 ^ 62) (hb : b < 2 ^ 62) : bits .or .i64 (a : Int) (b : Int) = ((a ||| b : Nat) : Int) := (bits_nat .i64 62 (by decide) wraps_i64 a b ha hb).2
theorem bitsA1 (a : Nat) (ha : a < 2 ^ 62) : bits .and .i64 (a : Int) 1 = ((a % 2 : Nat) : Int) := by
  have := bitsA a 1 ha (by decide)
  rw [Nat.and_one_is_mod] at this
  exact this
/-- what is in a and not in b -/
def ndiff (a b : Nat) : Nat := a - (a &&& b)
theorem bitsN (a b : Nat) (ha : a < 64) (hb : b < 64) : bits .andNot .i64 (a : Int) (b : Int) = ((ndiff a b : Nat) : Int) := by
  have h : ∀ a, a < 64 → ∀ b, b < 64 → bits .andNot .i64 ((a : Nat) : Int) ((b : Nat) : Int) = ((ndiff a b : Nat) : Int) := by decide +kernel
  exact h a ha b hb
theorem or_lt64 (a b : Nat) (ha : a < 64) (hb : b < 64) : a ||| b < 64 := Nat.or_lt_two_pow (n := 6) ha hb
theorem ndiff_lt (a b n : Nat) (ha : a < n) : ndiff a b < n := by unfold ndiff; omega
theorem two_pow (n m : Nat) (h : n ≤ m) : (2 : Int) ^ n ≤ 2 ^ m ∧ 0 < (2 : Int) ^ n := by
  constructor
  · have := Nat.pow_le_pow_right (show 0 < 2 by decide) h
    exact_mod_cast this
  · have := Nat.two_pow_pos n
    exact_mod_cast this

/-- the number of elements of a set -/
def pop (n : Nat) : Nat := (List.range 64).foldl (fun a i => a + (n >>> i) % 2) 0

theorem ones64_any (n : Nat) (w : World) (h : n < 256) :
    Calls Tryz.prog 338 #[.int .u64 n] w fun e w' => e = .returned (.int .i64 (pop n)) ∧ w = w' := by
  go_enter Tryz.func338, Tryz.ntmps338
  go_wp2
  go_ret
  refine ⟨ret_int ?_, rfl⟩
  clear w
  revert n
  decide +kernel

theorem ones_any (n : Nat) (w : World) (h : n < 256) :
    Calls Tryz.prog 284 #[.int .u64 n] w fun e w' => e = .returned (.int .i64 (pop n)) ∧ w = w' := by
  go_enter Tryz.func284, Tryz.ntmps284
  go_wp2_with (go_at_call 338; refine (ones64_any n _ h).mono ?_; rintro e w' ⟨rfl, rfl⟩)
  go_ret
  exact ⟨rfl, rfl⟩

theorem sizeOf_any (n : Nat) (w : World) (h : n < 256) :
    Calls Tryz.prog 170 #[.int .i64 n] w fun e w' => e = .returned (.int .i64 (pop n)) ∧ w = w' := by
  go_enter Tryz.func170, Tryz.ntmps170
  go_wp2_with (go_at_call 284; refine (ones_any n _ h).mono ?_; rintro e w' ⟨rfl, rfl⟩)
  go_ret
  exact ⟨rfl, rfl⟩

theorem pop_step (n : Nat) (h : n < 256) : pop n = n % 2 + pop (n / 2) := by
  revert n; decide +kernel
theorem pop_zero : pop 0 = 0 := by decide +kernel
theorem pop_le (n : Nat) (h : n < 256) : pop n ≤ 8 := by
  revert n; decide +kernel

theorem l2Full_any (n : Nat) (w : World) (h : n ≤ 40) :
    Calls Tryz.prog 187 #[.int .i64 n] w fun e w' => e = .returned (.int .i64 (2 ^ n - 1)) ∧ w = w' := by
  have h2 := two_pow n 40 h
  have h3 := h2.1
  have h4 := h2.2
  simp at h3
  clear h2
  go_enter Tryz.func187, Tryz.ntmps187
  go_wp2
  go_ret
  exact ⟨rfl, rfl⟩
end Go.Proofs.YtipejodijbjpcaaGreatDoor
end
section
namespace Go.Proofs.YtipejodijbjpcaaGreatDoor
open Go.RowKit Go.G5

def isSet (n : Nat) (s : Int) : Bool := decide (0 ≤ s) && decide (s < 2 ^ n)
theorem isSet_true {n : Nat} {s : Int} : isSet n s = true ↔ 0 ≤ s ∧ s < 2 ^ n := by simp [isSet]
theorem isSet_inB (n : Nat) (s : Int) : inB s 0 (2 ^ n - 1) = isSet n s := by
  unfold inB isSet
  by_cases h : s < 2 ^ n
  · rw [decide_eq_true h, decide_eq_true (show s ≤ 2 ^ n - 1 by omega)]
  · rw [decide_eq_false h, decide_eq_false (show ¬ s ≤ 2 ^ n - 1 by omega)]

theorem isSetOf_any (n : Nat) (s : Int) (w : World) (hn : n ≤ 40) :
    Calls Tryz.prog 229 #[.int .i64 n, .int .i64 s] w fun e w' => e = .returned (.bool (isSet n s)) ∧ w = w' := by
  have h2 := two_pow n 40 hn
  have h3 := h2.1
  have h4 := h2.2
  simp at h3
  clear h2
  by_cases h0 : 0 ≤ s
  · have hx : isSet n s = decide (s < 2 ^ n) := by unfold isSet; rw [decide_eq_true h0]; rfl
    have HX := Lib.hid hx
    clear hx
    go_enter Tryz.func229, Tryz.ntmps229
    go_wp2
    go_ret
    exact ⟨by rw [HX.out]; rfl, rfl⟩
  · have hx : isSet n s = false := by unfold isSet; rw [decide_eq_false h0]; rfl
    have HX := Lib.hid hx
    clear hx
    go_enter Tryz.func229, Tryz.ntmps229
    go_wp2
    go_ret
    exact ⟨by rw [HX.out]; rfl, rfl⟩

def areSetsB (g : Int) (l : List Int) : Bool := inB g 0 6 && l.all (isSet g.toNat)

theorem all_take_succ {α : Type} (p : α → Bool) (l : List α) (k : Nat) (h : k < l.length) : (l.take (k + 1)).all p = ((l.take k).all p && p l[k]) := by
  rw [List.take_succ_eq_append_getElem h, List.all_append, List.all_cons, List.all_nil, Bool.and_true]
theorem all_of_take {α : Type} (p : α → Bool) (l : List α) (k : Nat) (h : l.length ≤ k) : (l.take k).all p = l.all p := by rw [List.take_of_length_le h]
theorem all_false_at {α : Type} (p : α → Bool) (l : List α) (k : Nat) (h : k < l.length) (hp : p l[k] = false) : l.all p = false := by
  rw [List.all_eq_false]
  exact ⟨l[k], List.getElem_mem h, by simp [hp]⟩

set_option maxHeartbeats 400000 in
theorem areSets_any (g : Int) (l : List Int) (v : Value) (w : World) (hv : Ints w v l) :
    Calls Tryz.prog 224 #[.int .i64 g, v] w fun e w' => e = .returned (.bool (areSetsB g l)) ∧ w = w' := by
  obtain ⟨a, b, off, c, rfl, hlen, hix, hc, hb⟩ := hv.view Tryz.prog 22 3 Tryz.underlying22 intElem
  cases hin : inB g 0 6 with
  | false =>
    have hx : areSetsB g l = false := by unfold areSetsB; rw [hin]; rfl
    have HX := Lib.hid hx
    clear hx
    go_enter Tryz.func224, Tryz.ntmps224
    go_wp2_with (go_at_call 143; refine (within_any _ _ _ _).mono ?_; rintro e w' ⟨rfl, rfl⟩)
    go_ret
    exact ⟨by rw [HX.out]; rfl, rfl⟩
  | true =>
    have hg := inB_true.1 hin
    obtain ⟨G, rfl⟩ := Int.eq_ofNat_of_zero_le hg.1
    have hG : G ≤ 6 := by omega
    have hx : areSetsB G l = l.all (isSet G) := by unfold areSetsB; rw [hin]; simp
    have HX := Lib.hid hx
    clear hx hg
    go_enter Tryz.func224, Tryz.ntmps224
    go_wp2_with (go_at_call 143; refine (within_any _ _ _ _).mono ?_; rintro e w' ⟨rfl, rfl⟩)
    go_loop [12] (fun i => ∃ k : Nat, k ≤ l.length ∧ i = .int .i64 k ∧ (l.take k).all (isSet G) = true) (fun i => l.length - (intOf i).toNat)
    case atStart => exact ⟨0, Nat.zero_le _, rfl, by simp⟩
    case round =>
      obtain ⟨k, hk, rfl, hall⟩ := hrel
      have H := Lib.hid hall
      clear hall
      by_cases hlt : k < l.length
      · cases hs : isSet G l[k] with
        | true =>
          go_wp2_with (go_at_call 229; refine (isSetOf_any G _ _ (by omega)).mono ?_; rintro e w' ⟨rfl, rfl⟩)
          go_round
          case rel => exact ⟨k + 1, by omega, by go_num, by rw [all_take_succ _ _ _ hlt, H.out, hs]; rfl⟩
          case measure => simp [intOf]; omega
        | false =>
          go_wp2_with (go_at_call 229; refine (isSetOf_any G _ _ (by omega)).mono ?_; rintro e w' ⟨rfl, rfl⟩)
          go_ret
          exact ⟨ret_bool (by rw [HX.out, all_false_at _ _ _ hlt hs]), rfl⟩
      · go_wp2
        go_ret
        exact ⟨ret_bool (by rw [HX.out, ← all_of_take (isSet G) l k (by omega), H.out]), rfl⟩

/-- strictly ascending -/
def ascB (l : List Int) : Bool := decide (l.Pairwise (· < ·))
theorem asc_of_adj (l : List Int) (h : ∀ i, (h : i + 1 < l.length) → l[i] < l[i + 1]) : ascB l = true := by
  unfold ascB
  rw [decide_eq_true_eq, List.pairwise_iff_getElem]
  intro i j hi hj hij
  obtain ⟨d, rfl⟩ : ∃ d, j = i + 1 + d := ⟨j - i - 1, by omega⟩
  induction d with
  | zero => exact h i hj
  | succ d ih => exact Int.lt_trans (ih (by omega) (by omega)) (h (i + 1 + d) hj)
theorem not_asc_at (l : List Int) (i : Nat) (h : i + 1 < l.length) (hle : l[i + 1] ≤ l[i]) : ascB l = false := by
  unfold ascB
  rw [decide_eq_false_iff_not, List.pairwise_iff_getElem]
  intro hp
  have := hp i (i + 1) (by omega) h (by omega)
  omega
def isFamB (g : Int) (l : List Int) : Bool := areSetsB g l && ascB l

set_option maxHeartbeats 400000 in
theorem isFamI_any (g : Int) (l : List Int) (v : Value) (w : World) (hv : Ints w v l) :
    Calls Tryz.prog 90 #[.agg #[.int .i64 g, v]] w fun e w' => e = .returned (.bool (isFamB g l)) ∧ Below w.heap.size w w' := by
  obtain ⟨a, b, off, c, rfl, hlen, hix, hc, hb⟩ := hv.view Tryz.prog 22 3 Tryz.underlying22 intElem
  have hc1 := cells_below hc hb (bl1 w (.cells #[.int .i64 g, .slice a l.length c] 27)) (Nat.le_refl _)
  cases hin : areSetsB g l with
  | false =>
    have hx : isFamB g l = false := by unfold isFamB; rw [hin]; rfl
    have HX := Lib.hid hx
    clear hx hc hc1
    go_enter Tryz.func90, Tryz.ntmps90
    go_wp2_with (go_at_call 224; refine (areSets_any _ l _ _ (hv.alloc _)).mono ?_; rintro e w' ⟨rfl, rfl⟩)
    go_ret
    exact ⟨by rw [HX.out]; rfl, bl1 _ _⟩
  | true =>
    have hx : isFamB g l = ascB l := by unfold isFamB; rw [hin]; simp
    have HX := Lib.hid hx
    clear hx hc
    go_enter Tryz.func90, Tryz.ntmps90
    go_wp2_with (go_at_call 224; refine (areSets_any _ l _ _ (hv.alloc _)).mono ?_; rintro e w' ⟨rfl, rfl⟩)
    go_loopw [3] (fun i wr => ∃ k m : Nat, 1 ≤ k ∧ k ≤ max l.length 1 ∧ i = .int .i64 k ∧ wr = (w.alloc (.cells #[.int .i64 g, .slice a l.length c] 27)).drewN m ∧ (∀ j, (h : j + 1 < l.length) → j + 1 < k → l[j] < l[j + 1])) (fun i _ => l.length - (intOf i).toNat)
    case atStart => exact ⟨1, 0, by omega, by omega, rfl, rfl, by intros; omega⟩
    case round =>
      obtain ⟨k, m, hk1, hk, rfl, rfl, hall⟩ := hrel
      have H := Lib.hid hall
      clear hall
      by_cases hlt : k < l.length
      · have hix1 : (Instr.indexAt 22 (.slice a l.length c) (.int .i64 ((k : Int) - 1))).run Tryz.prog = (Instr.indexAt 22 (.slice a l.length c) (.int .i64 ((k - 1 : Nat) : Int))).run Tryz.prog := by
          rw [show ((k : Int) - 1) = ((k - 1 : Nat) : Int) by omega]
        have hk2 : k - 1 < l.length := by omega
        have hck := hc1 (k - 1) hk2
        by_cases hle : l[k] ≤ l[k - 1]
        · go_wp2
          go_quiet (fail)
          go_wp2
          go_ret
          refine ⟨ret_bool ?_, ((bl1 _ _).drewN' _).drewN' _⟩
          rw [HX.out]
          have := not_asc_at l (k - 1) (by omega) (by simpa [show k - 1 + 1 = k from by omega] using hle)
          rw [this]
        · go_wp2
          go_quiet (fail)
          go_wp2
          go_roundw
          case rel =>
            refine ⟨k + 1, m + nq, by omega, by omega, by go_num, by simp, fun j h hj => ?_⟩
            by_cases hjk : j + 1 < k
            · exact H.out j h hjk
            · have : j = k - 1 := by omega
              subst this
              have e : k - 1 + 1 = k := by omega
              simp only [e]
              omega
          case measure => simp [intOf]; omega
      · go_wp2
        go_ret
        refine ⟨ret_bool ?_, (bl1 _ _).drewN' _⟩
        rw [HX.out, asc_of_adj l fun j h => H.out j h (by omega)]

set_option maxHeartbeats 1000000 in
theorem isFamS_any (g : Int) (l : List Int) (v : Value) (w : World) (hv : Ints w v l) :
    Calls Tryz.prog 72 #[.agg #[.int .i64 g, v]] w fun e w' => e = .returned (.bool (isFamB g l)) ∧ Below w.heap.size w w' := by
  obtain ⟨a, b, off, c, rfl, hlen, hix, hc, hb⟩ := hv.view Tryz.prog 22 3 Tryz.underlying22 intElem
  have hc1 := cells_below hc hb (bl1 w (.cells #[.int .i64 g, .slice a l.length c] 27)) (Nat.le_refl _)
  cases hin : inB g 0 6 with
  | false =>
    have hx : isFamB g l = false := by unfold isFamB areSetsB; rw [hin]; rfl
    have HX := Lib.hid hx
    clear hx hc hc1
    go_enter Tryz.func72, Tryz.ntmps72
    go_wp2_with (go_at_call 188; refine (l1In_any _ _ _ _).mono ?_; rintro e w' ⟨rfl, rfl⟩)
    go_ret
    exact ⟨by rw [HX.out]; rfl, bl1 _ _⟩
  | true =>
    have hg := inB_true.1 hin
    obtain ⟨G, rfl⟩ := Int.eq_ofNat_of_zero_le hg.1
    have hG : G ≤ 6 := by omega
    have hx : isFamB G l = (l.all (isSet G) && ascB l) := by unfold isFamB areSetsB; rw [hin]; simp
    have HX := Lib.hid hx
    clear hx hc hg
    go_enter Tryz.func72, Tryz.ntmps72
    go_wp2_with (go_at_call 188; refine (l1In_any _ _ _ _).mono ?_; rintro e w' ⟨rfl, rfl⟩)
    go_loopw [3] (fun i wr => ∃ k m : Nat, k ≤ l.length ∧ i = .int .i64 k ∧ wr = (w.alloc (.cells #[.int .i64 G, .slice a l.length c] 27)).drewN m ∧ (l.take k).all (isSet G) = true ∧ (∀ j, (h : j + 1 < l.length) → j + 1 < k → l[j] < l[j + 1])) (fun i _ => l.length - (intOf i).toNat)
    case atStart => exact ⟨0, 0, by omega, rfl, rfl, by simp, by intros; omega⟩
    case round =>
      obtain ⟨k, m, hk, rfl, rfl, hset, hall⟩ := hrel
      have H := Lib.hid hall
      have HS := Lib.hid hset
      clear hall hset
      by_cases hlt : k < l.length
      · cases hs : isSet G l[k] with
        | false =>
          have hsi : inB l[k] 0 (2 ^ G - 1) = false := by rw [isSet_inB]; exact hs
          have HI := Lib.hid hsi
          clear hsi
          go_wp2
          go_quiet ((first | (go_at_call 187; first | exact q_same2 (l2Full_any G _ (by omega)) | exact q_same (l2Full_any G _ (by omega))) | (go_at_call 188; first | exact q_bool2 (l1In_any _ _ _ _) HI.out | exact q_bool (l1In_any _ _ _ _) HI.out)))
          go_wp2
          go_ret
          refine ⟨ret_bool ?_, ((bl1 _ _).drewN' _).drewN' _⟩
          rw [HX.out, all_false_at _ _ _ hlt hs]; rfl
        | true =>
          have hsi : inB l[k] 0 (2 ^ G - 1) = true := by rw [isSet_inB]; exact hs
          have HI := Lib.hid hsi
          clear hsi
          by_cases hk0 : 0 < k
          · have hix1 : (Instr.indexAt 22 (.slice a l.length c) (.int .i64 ((k : Int) - 1))).run Tryz.prog = (Instr.indexAt 22 (.slice a l.length c) (.int .i64 ((k - 1 : Nat) : Int))).run Tryz.prog := by
              rw [show ((k : Int) - 1) = ((k - 1 : Nat) : Int) by omega]
            have hk2 : k - 1 < l.length := by omega
            have hck := hc1 (k - 1) hk2
            by_cases hle : l[k] ≤ l[k - 1]
            · go_wp2
              go_quiet ((first | (go_at_call 187; first | exact q_same2 (l2Full_any G _ (by omega)) | exact q_same (l2Full_any G _ (by omega))) | (go_at_call 188; first | exact q_bool2 (l1In_any _ _ _ _) HI.out | exact q_bool (l1In_any _ _ _ _) HI.out)))
              go_wp2
              go_ret
              refine ⟨ret_bool ?_, ((bl1 _ _).drewN' _).drewN' _⟩
              have := not_asc_at l (k - 1) (by omega) (by simpa [show k - 1 + 1 = k from by omega] using hle)
              rw [HX.out, this]; simp
            · go_wp2
              go_quiet ((first | (go_at_call 187; first | exact q_same2 (l2Full_any G _ (by omega)) | exact q_same (l2Full_any G _ (by omega))) | (go_at_call 188; first | exact q_bool2 (l1In_any _ _ _ _) HI.out | exact q_bool (l1In_any _ _ _ _) HI.out)))
              go_wp2
              go_roundw
              case rel =>
                refine ⟨k + 1, m + nq, by omega, by go_num, by simp, by rw [all_take_succ _ _ _ hlt, HS.out, hs]; rfl, fun j h hj => ?_⟩
                by_cases hjk : j + 1 < k
                · exact H.out j h hjk
                · have : j = k - 1 := by omega
                  subst this
                  have e : k - 1 + 1 = k := by omega
                  simp only [e]
                  omega
              case measure => simp [intOf]; omega
          · have hd : decide (0 < (k : Int)) = false := decide_eq_false (by omega)
            go_wp2
            go_quiet ((first | (go_at_call 187; first | exact q_same2 (l2Full_any G _ (by omega)) | exact q_same (l2Full_any G _ (by omega))) | (go_at_call 188; first | exact q_bool2 (l1In_any _ _ _ _) HI.out | exact q_bool (l1In_any _ _ _ _) HI.out)))
            go_wp2
            go_roundw
            case rel => exact ⟨k + 1, m + nq, by omega, by go_num, by simp, by rw [all_take_succ _ _ _ hlt, HS.out, hs]; rfl, by intros; omega⟩
            case measure => simp [intOf]; omega
      · go_wp2
        go_ret
        refine ⟨ret_bool ?_, (bl1 _ _).drewN' _⟩
        rw [HX.out, asc_of_adj l fun j h => H.out j h (by omega), ← all_of_take (isSet G) l k (by omega), HS.out]; rfl

/-! sets as whole numbers -/
def iand (a b : Int) : Int := ((a.toNat &&& b.toNat : Nat) : Int)
def ior (a b : Int) : Int := ((a.toNat ||| b.toNat : Nat) : Int)
def idif (a b : Int) : Int := ((ndiff a.toNat b.toNat : Nat) : Int)
def ipop (a : Int) : Int := (pop a.toNat : Int)
theorem iand_is {a b : Int} (ha : 0 ≤ a) (ha' : a < 4611686018427387904) (hb : 0 ≤ b) (hb' : b < 4611686018427387904) : bits .and .i64 a b = iand a b := by
  have := bitsA a.toNat b.toNat (by omega) (by omega)
  rw [show ((a.toNat : Nat) : Int) = a by omega, show ((b.toNat : Nat) : Int) = b by omega] at this
  exact this
theorem ior_is {a b : Int} (ha : 0 ≤ a) (ha' : a < 4611686018427387904) (hb : 0 ≤ b) (hb' : b < 4611686018427387904) : bits .or .i64 a b = ior a b := by
  have := bitsO a.toNat b.toNat (by omega) (by omega)
  rw [show ((a.toNat : Nat) : Int) = a by omega, show ((b.toNat : Nat) : Int) = b by omega] at this
  exact this
theorem idif_is {a b : Int} (ha : 0 ≤ a) (ha' : a < 64) (hb : 0 ≤ b) (hb' : b < 64) : bits .andNot .i64 a b = idif a b := by
  have := bitsN a.toNat b.toNat (by omega) (by omega)
  rw [show ((a.toNat : Nat) : Int) = a by omega, show ((b.toNat : Nat) : Int) = b by omega] at this
  exact this
theorem iand_bd (a b n : Int) (ha : 0 ≤ a) (h : a < n) : 0 ≤ iand a b ∧ iand a b < n := by
  have := @Nat.and_le_left a.toNat b.toNat
  unfold iand; omega
theorem ior_bd (a b : Int) (g : Nat) (ha : 0 ≤ a) (hb : 0 ≤ b) (h : a < 2 ^ g) (h' : b < 2 ^ g) : 0 ≤ ior a b ∧ ior a b < 2 ^ g := by
  have h1 : a.toNat < 2 ^ g := by
    have : ((a.toNat : Nat) : Int) < ((2 ^ g : Nat) : Int) := by push_cast; omega
    exact_mod_cast this
  have h2 : b.toNat < 2 ^ g := by
    have : ((b.toNat : Nat) : Int) < ((2 ^ g : Nat) : Int) := by push_cast; omega
    exact_mod_cast this
  have h3 := Nat.or_lt_two_pow h1 h2
  refine ⟨by unfold ior; omega, ?_⟩
  unfold ior
  exact_mod_cast h3
theorem idif_bd (a b n : Int) (ha : 0 ≤ a) (h : a < n) : 0 ≤ idif a b ∧ idif a b < n := by unfold idif ndiff; omega
theorem ipop_bd (a : Int) (h : a < 256) : 0 ≤ ipop a ∧ ipop a ≤ 8 := by
  have := pop_le a.toNat (by omega)
  unfold ipop; omega

theorem sizeOf_i (s : Int) (w : World) (h0 : 0 ≤ s) (h1 : s < 256) :
    Calls Tryz.prog 170 #[.int .i64 s] w fun e w' => e = .returned (.int .i64 (ipop s)) ∧ w = w' := by
  obtain ⟨n, rfl⟩ := Int.eq_ofNat_of_zero_le h0
  exact sizeOf_any n w (by omega)
theorem l2Full_i (g : Int) (w : World) (h0 : 0 ≤ g) (h1 : g ≤ 40) :
    Calls Tryz.prog 187 #[.int .i64 g] w fun e w' => e = .returned (.int .i64 (2 ^ g.toNat - 1)) ∧ w = w' := by
  obtain ⟨n, rfl⟩ := Int.eq_ofNat_of_zero_le h0
  exact l2Full_any n w (by omega)
theorem isSetOf_i (g s : Int) (w : World) (h0 : 0 ≤ g) (h1 : g ≤ 40) :
    Calls Tryz.prog 229 #[.int .i64 g, .int .i64 s] w fun e w' => e = .returned (.bool (isSet g.toNat s)) ∧ w = w' := by
  obtain ⟨n, rfl⟩ := Int.eq_ofNat_of_zero_le h0
  exact isSetOf_any n s w (by omega)

/-- what a valid family gives -/
theorem famOk {g : Int} {l : List Int} (h : isFamB g l = true) : 0 ≤ g ∧ g ≤ 6 ∧ (∀ s ∈ l, 0 ≤ s ∧ s < 2 ^ g.toNat) ∧ l.Pairwise (· < ·) := by
  unfold isFamB areSetsB at h
  simp only [Bool.and_eq_true, List.all_eq_true] at h
  obtain ⟨⟨h1, h2⟩, h3⟩ := h
  have := inB_true.1 h1
  exact ⟨this.1, this.2, fun s hs => isSet_true.1 (h2 s hs), by simpa [ascB] using h3⟩
theorem pow_le64 {g : Int} (h0 : 0 ≤ g) (h6 : g ≤ 6) : (2 : Int) ^ g.toNat ≤ 64 := by
  have := (two_pow g.toNat 6 (by omega)).1
  simpa using this
/-! the size of a largest set -/
def bigF (m s : Int) : Int := max m (ipop s)
def largestOf (g : Int) (l : List Int) : Int := if isFamB g l then l.foldl bigF 0 else -1
end Go.Proofs.YtipejodijbjpcaaGreatDoor
end
