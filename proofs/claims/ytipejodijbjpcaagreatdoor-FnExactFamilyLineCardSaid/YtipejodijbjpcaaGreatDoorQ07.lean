/- Families: what is one. Functions of sets: what is one. -/
import Derived.Test.YtipejodijbjpcaaGreatDoorQ06
import Derived.Deep.Light
section
namespace Go.Proofs.YtipejodijbjpcaaGreatDoor
open Go.RowKit Go.G5

def isSet (n : Nat) (s : Int) : Bool := decide (0 ≤ s) && decide (s < 2 ^ n)
theorem isSet_true {n : Nat} {s : Int} : isSet n s = true ↔ 0 ≤ s ∧ s < 2 ^ n := by simp [isSet]
theorem isSet_inB (n : Nat) (s : Int) : inB s 0 (2 ^ n - 1) = isSet n s := by
  unfold inB isSet
  by_cases h : s < 2 ^ n
  · rw [decide_eq_true h, decide_eq_true (show s ≤ 2 ^ n - 1 by omega)]
  · rw [decide_eq_false h, decide_eq_false (show ¬ s ≤ 2 ^ n - 1 by omega)]

theorem isSetOf_any (n : Nat) (s : Int) (w : World) (hn : n ≤ 40) :
    Calls Tryz.prog 229 #[.int .i64 n, .int .i64 s] w fun e w' => e = .returned (.bool (isSet n s)) ∧ w = w' := by
  have h2 := two_pow n 40 hn
  have h3 := h2.1
  have h4 := h2.2
  simp at h3
  clear h2
  by_cases h0 : 0 ≤ s
  · have hx : isSet n s = decide (s < 2 ^ n) := by unfold isSet; rw [decide_eq_true h0]; rfl
    have HX := Lib.hid hx
    clear hx
    go_enter Tryz.func229, Tryz.ntmps229
    go_wp2
    go_ret
    exact ⟨by rw [HX.out]; rfl, rfl⟩
  · have hx : isSet n s = false := by unfold isSet; rw [decide_eq_false h0]; rfl
    have HX := Lib.hid hx
    clear hx
    go_enter Tryz.func229, Tryz.ntmps229
    go_wp2
    go_ret
    exact ⟨by rw [HX.out]; rfl, rfl⟩

def areSetsB (g : Int) (l : List Int) : Bool := inB g 0 6 && l.all (isSet g.toNat)

theorem all_take_succ {α : Type} (p : α → Bool) (l : List α) (k : Nat) (h : k < l.length) : (l.take (k + 1)).all p = ((l.take k).all p && p l[k]) := by
  rw [List.take_succ_eq_append_getElem h, List.all_append, List.all_cons, List.all_nil, Bool.and_true]
theorem all_of_take {α : Type} (p : α → Bool) (l : List α) (k : Nat) (h : l.length ≤ k) : (l.take k).all p = l.all p := by rw [List.take_of_length_le h]
theorem all_false_at {α : Type} (p : α → Bool) (l : List α) (k : Nat) (h : k < l.length) (hp : p l[k] = false) : l.all p = false := by
  rw [List.all_eq_false]
  exact ⟨l[k], List.getElem_mem h, by simp [hp]⟩

set_option maxHeartbeats 400000 in
theorem areSets_any (g : Int) (l : List Int) (v : Value) (w : World) (hv : Ints w v l) :
    Calls Tryz.prog 224 #[.int .i64 g, v] w fun e w' => e = .returned (.bool (areSetsB g l)) ∧ w = w' := by
  obtain ⟨a, b, off, c, rfl, hlen, hix, hc, hb⟩ := hv.view Tryz.prog 22 3 Tryz.underlying22 intElem
  cases hin : inB g 0 6 with
  | false =>
    have hx : areSetsB g l = false := by unfold areSetsB; rw [hin]; rfl
    have HX := Lib.hid hx
    clear hx
    go_enter Tryz.func224, Tryz.ntmps224
    go_wp2_with (go_at_call 143; refine (within_any _ _ _ _).mono ?_; rintro e w' ⟨rfl, rfl⟩)
    go_ret
    exact ⟨by rw [HX.out]; rfl, rfl⟩
  | true =>
    have hg := inB_true.1 hin
    obtain ⟨G, rfl⟩ := Int.eq_ofNat_of_zero_le hg.1
    have hG : G ≤ 6 := by omega
    have hx : areSetsB G l = l.all (isSet G) := by unfold areSetsB; rw [hin]; simp
    have HX := Lib.hid hx
    clear hx hg
    go_enter Tryz.func224, Tryz.ntmps224
    go_wp2_with (go_at_call 143; refine (within_any _ _ _ _).mono ?_; rintro e w' ⟨rfl, rfl⟩)
    go_loop [12] (fun i => ∃ k : Nat, k ≤ l.length ∧ i = .int .i64 k ∧ (l.take k).all (isSet G) = true) (fun i => l.length - (intOf i).toNat)
    case atStart => exact ⟨0, Nat.zero_le _, rfl, by simp⟩
    case round =>
      obtain ⟨k, hk, rfl, hall⟩ := hrel
      have H := Lib.hid hall
      clear hall
      by_cases hlt : k < l.length
      · cases hs : isSet G l[k] with
        | true =>
          go_wp2_with (go_at_call 229; refine (isSetOf_any G _ _ (by omega)).mono ?_; rintro e w' ⟨rfl, rfl⟩)
          go_round
          case rel => exact ⟨k + 1, by omega, by go_num, by rw [all_take_succ _ _ _ hlt, H.out, hs]; rfl⟩
          case measure => simp [intOf]; omega
        | false =>
          go_wp2_with (go_at_call 229; refine (isSetOf_any G _ _ (by omega)).mono ?_; rintro e w' ⟨rfl, rfl⟩)
          go_ret
          exact ⟨ret_bool (by rw [HX.out, all_false_at _ _ _ hlt hs]), rfl⟩
      · go_wp2
        go_ret
        exact ⟨ret_bool (by rw [HX.out, ← all_of_take (isSet G) l k (by omega), H.out]), rfl⟩

/-- strictly ascending -/
def ascB (l : List Int) : Bool := decide (l.Pairwise (· < ·))
theorem asc_of_adj (l : List Int) (h : ∀ i, (h : i + 1 < l.length) → l[i] < l[i + 1]) : ascB l = true := by
  unfold ascB
  rw [decide_eq_true_eq, List.pairwise_iff_getElem]
  intro i j hi hj hij
  obtain ⟨d, rfl⟩ : ∃ d, j = i + 1 + d := ⟨j - i - 1, by omega⟩
  induction d with
  | zero => exact h i hj
  | succ d ih => exact Int.lt_trans (ih (by omega) (by omega)) (h (i + 1 + d) hj)
theorem not_asc_at (l : List Int) (i : Nat) (h : i + 1 < l.length) (hle : l[i + 1] ≤ l[i]) : ascB l = false := by
  unfold ascB
  rw [decide_eq_false_iff_not, List.pairwise_iff_getElem]
  intro hp
  have := hp i (i + 1) (by omega) h (by omega)
  omega
def isFamB (g : Int) (l : List Int) : Bool := areSetsB g l && ascB l

set_option maxHeartbeats 400000 in
theorem isFamI_any (g : Int) (l : List Int) (v : Value) (w : World) (hv : Ints w v l) :
    Calls Tryz.prog 90 #[.agg #[.int .i64 g, v]] w fun e w' => e = .returned (.bool (isFamB g l)) ∧ Below w.heap.size w w' := by
  obtain ⟨a, b, off, c, rfl, hlen, hix, hc, hb⟩ := hv.view Tryz.prog 22 3 Tryz.underlying22 intElem
  have hc1 := cells_below hc hb (bl1 w (.cells #[.int .i64 g, .slice a l.length c] 27)) (Nat.le_refl _)
  cases hin : areSetsB g l with
  | false =>
    have hx : isFamB g l = false := by unfold isFamB; rw [hin]; rfl
    have HX := Lib.hid hx
    clear hx hc hc1
    go_enter Tryz.func90, Tryz.ntmps90
    go_wp2_with (go_at_call 224; refine (areSets_any _ l _ _ (hv.alloc _)).mono ?_; rintro e w' ⟨rfl, rfl⟩)
    go_ret
    exact ⟨by rw [HX.out]; rfl, bl1 _ _⟩
  | true =>
    have hx : isFamB g l = ascB l := by unfold isFamB; rw [hin]; simp
    have HX := Lib.hid hx
    clear hx hc
    go_enter Tryz.func90, Tryz.ntmps90
    go_wp2_with (go_at_call 224; refine (areSets_any _ l _ _ (hv.alloc _)).mono ?_; rintro e w' ⟨rfl, rfl⟩)
    go_loopw [3] (fun i wr => ∃ k m : Nat, 1 ≤ k ∧ k ≤ max l.length 1 ∧ i = .int .i64 k ∧ wr = (w.alloc (.cells #[.int .i64 g, .slice a l.length c] 27)).drewN m ∧ (∀ j, (h : j + 1 < l.length) → j + 1 < k → l[j] < l[j + 1])) (fun i _ => l.length - (intOf i).toNat)
    case atStart => exact ⟨1, 0, by omega, by omega, rfl, rfl, by intros; omega⟩
    case round =>
      obtain ⟨k, m, hk1, hk, rfl, rfl, hall⟩ := hrel
      have H := Lib.hid hall
      clear hall
      by_cases hlt : k < l.length
      · have hix1 : (Instr.indexAt 22 (.slice a l.length c) (.int .i64 ((k : Int) - 1))).run Tryz.prog = (Instr.indexAt 22 (.slice a l.length c) (.int .i64 ((k - 1 : Nat) : Int))).run Tryz.prog := by
          rw [show ((k : Int) - 1) = ((k - 1 : Nat) : Int) by omega]
        have hk2 : k - 1 < l.length := by omega
        have hck := hc1 (k - 1) hk2
        by_cases hle : l[k] ≤ l[k - 1]
        · go_wp2
          go_quiet (fail)
          go_wp2
          go_ret
          refine ⟨ret_bool ?_, ((bl1 _ _).drewN' _).drewN' _⟩
          rw [HX.out]
          have := not_asc_at l (k - 1) (by omega) (by simpa [show k - 1 + 1 = k from by omega] using hle)
          rw [this]
        · go_wp2
          go_quiet (fail)
          go_wp2
          go_roundw
          case rel =>
            refine ⟨k + 1, m + nq, by omega, by omega, by go_num, by simp, fun j h hj => ?_⟩
            by_cases hjk : j + 1 < k
            · exact H.out j h hjk
            · have : j = k - 1 := by omega
              subst this
              have e : k - 1 + 1 = k := by omega
              simp only [e]
              omega
          case measure => simp [intOf]; omega
      · go_wp2
        go_ret
        refine ⟨ret_bool ?_, (bl1 _ _).drewN' _⟩
        rw [HX.out, asc_of_adj l fun j h => H.out j h (by omega)]

set_option maxHeartbeats 1000000 in
theorem isFamS_any (g : Int) (l : List Int) (v : Value) (w : World) (hv : Ints w v l) :
    Calls Tryz.prog 72 #[.agg #[.int .i64 g, v]] w fun e w' => e = .returned (.bool (isFamB g l)) ∧ Below w.heap.size w w' := by
  obtain ⟨a, b, off, c, rfl, hlen, hix, hc, hb⟩ := hv.view Tryz.prog 22 3 Tryz.underlying22 intElem
  have hc1 := cells_below hc hb (bl1 w (.cells #[.int .i64 g, .slice a l.length c] 27)) (Nat.le_refl _)
  cases hin : inB g 0 6 with
  | false =>
    have hx : isFamB g l = false := by unfold isFamB areSetsB; rw [hin]; rfl
    have HX := Lib.hid hx
    clear hx hc hc1
    go_enter Tryz.func72, Tryz.ntmps72
    go_wp2_with (go_at_call 188; refine (l1In_any _ _ _ _).mono ?_; rintro e w' ⟨rfl, rfl⟩)
    go_ret
    exact ⟨by rw [HX.out]; rfl, bl1 _ _⟩
  | true =>
    have hg := inB_true.1 hin
    obtain ⟨G, rfl⟩ := Int.eq_ofNat_of_zero_le hg.1
    have hG : G ≤ 6 := by omega
    have hx : isFamB G l = (l.all (isSet G) && ascB l) := by unfold isFamB areSetsB; rw [hin]; simp
    have HX := Lib.hid hx
    clear hx hc hg
    go_enter Tryz.func72, Tryz.ntmps72
    go_wp2_with (go_at_call 188; refine (l1In_any _ _ _ _).mono ?_; rintro e w' ⟨rfl, rfl⟩)
    go_loopw [3] (fun i wr => ∃ k m : Nat, k ≤ l.length ∧ i = .int .i64 k ∧ wr = (w.alloc (.cells #[.int .i64 G, .slice a l.length c] 27)).drewN m ∧ (l.take k).all (isSet G) = true ∧ (∀ j, (h : j + 1 < l.length) → j + 1 < k → l[j] < l[j + 1])) (fun i _ => l.length - (intOf i).toNat)
    case atStart => exact ⟨0, 0, by omega, rfl, rfl, by simp, by intros; omega⟩
    case round =>
      obtain ⟨k, m, hk, rfl, rfl, hset, hall⟩ := hrel
      have H := Lib.hid hall
      have HS := Lib.hid hset
      clear hall hset
      by_cases hlt : k < l.length
      · cases hs : isSet G l[k] with
        | false =>
          have hsi : inB l[k] 0 (2 ^ G - 1) = false := by rw [isSet_inB]; exact hs
          have HI := Lib.hid hsi
          clear hsi
          go_wp2
          go_quiet ((first | (go_at_call 187; first | exact q_same2 (l2Full_any G _ (by omega)) | exact q_same (l2Full_any G _ (by omega))) | (go_at_call 188; first | exact q_bool2 (l1In_any _ _ _ _) HI.out | exact q_bool (l1In_any _ _ _ _) HI.out)))
          go_wp2
          go_ret
          refine ⟨ret_bool ?_, ((bl1 _ _).drewN' _).drewN' _⟩
          rw [HX.out, all_false_at _ _ _ hlt hs]; rfl
        | true =>
          have hsi : inB l[k] 0 (2 ^ G - 1) = true := by rw [isSet_inB]; exact hs
          have HI := Lib.hid hsi
          clear hsi
          by_cases hk0 : 0 < k
          · have hix1 : (Instr.indexAt 22 (.slice a l.length c) (.int .i64 ((k : Int) - 1))).run Tryz.prog = (Instr.indexAt 22 (.slice a l.length c) (.int .i64 ((k - 1 : Nat) : Int))).run Tryz.prog := by
              rw [show ((k : Int) - 1) = ((k - 1 : Nat) : Int) by omega]
            have hk2 : k - 1 < l.length := by omega
            have hck := hc1 (k - 1) hk2
            by_cases hle : l[k] ≤ l[k - 1]
            · go_wp2
              go_quiet ((first | (go_at_call 187; first | exact q_same2 (l2Full_any G _ (by omega)) | exact q_same (l2Full_any G _ (by omega))) | (go_at_call 188; first | exact q_bool2 (l1In_any _ _ _ _) HI.out | exact q_bool (l1In_any _ _ _ _) HI.out)))
              go_wp2
              go_ret
              refine ⟨ret_bool ?_, ((bl1 _ _).drewN' _).drewN' _⟩
              have := not_asc_at l (k - 1) (by omega) (by simpa [show k - 1 + 1 = k from by omega] using hle)
              rw [HX.out, this]; simp
            · go_wp2
              go_quiet ((first | (go_at_call 187; first | exact q_same2 (l2Full_any G _ (by omega)) | exact q_same (l2Full_any G _ (by omega))) | (go_at_call 188; first | exact q_bool2 (l1In_any _ _ _ _) HI.out | exact q_bool (l1In_any _ _ _ _) HI.out)))
              go_wp2
              go_roundw
              case rel =>
                refine ⟨k + 1, m + nq, by omega, by go_num, by simp, by rw [all_take_succ _ _ _ hlt, HS.out, hs]; rfl, fun j h hj => ?_⟩
                by_cases hjk : j + 1 < k
                · exact H.out j h hjk
                · have : j = k - 1 := by omega
                  subst this
                  have e : k - 1 + 1 = k := by omega
                  simp only [e]
                  omega
              case measure => simp [intOf]; omega
          · have hd : decide (0 < (k : Int)) = false := decide_eq_false (by omega)
            go_wp2
            go_quiet ((first | (go_at_call 187; first | exact q_same2 (l2Full_any G _ (by omega)) | exact q_same (l2Full_any G _ (by omega))) | (go_at_call 188; first | exact q_bool2 (l1In_any _ _ _ _) HI.out | exact q_bool (l1In_any _ _ _ _) HI.out)))
            go_wp2
            go_roundw
            case rel => exact ⟨k + 1, m + nq, by omega, by go_num, by simp, by rw [all_take_succ _ _ _ hlt, HS.out, hs]; rfl, by intros; omega⟩
            case measure => simp [intOf]; omega
      · go_wp2
        go_ret
        refine ⟨ret_bool ?_, (bl1 _ _).drewN' _⟩
        rw [HX.out, asc_of_adj l fun j h => H.out j h (by omega), ← all_of_take (isSet G) l k (by omega), HS.out]; rfl

/-! sets as whole numbers -/
def iand (a b : Int) : Int := ((a.toNat &&& b.toNat : Nat) : Int)
def ior (a b : Int) : Int := ((a.toNat ||| b.toNat : Nat) : Int)
def idif (a b : Int) : Int := ((ndiff a.toNat b.toNat : Nat) : Int)
def ipop (a : Int) : Int := (pop a.toNat : Int)
theorem iand_is {a b : Int} (ha : 0 ≤ a) (ha' : a < 4611686018427387904) (hb : 0 ≤ b) (hb' : b < 4611686018427387904) : bits .and .i64 a b = iand a b := by
  have := bitsA a.toNat b.toNat (by omega) (by omega)
  rw [show ((a.toNat : Nat) : Int) = a by omega, show ((b.toNat : Nat) : Int) = b by omega] at this
  exact this
theorem ior_is {a b : Int} (ha : 0 ≤ a) (ha' : a < 4611686018427387904) (hb : 0 ≤ b) (hb' : b < 4611686018427387904) : bits .or .i64 a b = ior a b := by
  have := bitsO a.toNat b.toNat (by omega) (by omega)
  rw [show ((a.toNat : Nat) : Int) = a by omega, show ((b.toNat : Nat) : Int) = b by omega] at this
  exact this
theorem idif_is {a b : Int} (ha : 0 ≤ a) (ha' : a < 64) (hb : 0 ≤ b) (hb' : b < 64) : bits .andNot .i64 a b = idif a b := by
  have := bitsN a.toNat b.toNat (by omega) (by omega)
  rw [show ((a.toNat : Nat) : Int) = a by omega, show ((b.toNat : Nat) : Int) = b by omega] at this
  exact this
theorem iand_bd (a b n : Int) (ha : 0 ≤ a) (h : a < n) : 0 ≤ iand a b ∧ iand a b < n := by
  have := @Nat.and_le_left a.toNat b.toNat
  unfold iand; omega
theorem ior_bd (a b : Int) (g : Nat) (ha : 0 ≤ a) (hb : 0 ≤ b) (h : a < 2 ^ g) (h' : b < 2 ^ g) : 0 ≤ ior a b ∧ ior a b < 2 ^ g := by
  have h1 : a.toNat < 2 ^ g := by
    have : ((a.toNat : Nat) : Int) < ((2 ^ g : Nat) : Int) := by push_cast; omega
    exact_mod_cast this
  have h2 : b.toNat < 2 ^ g := by
    have : ((b.toNat : Nat) : Int) < ((2 ^ g : Nat) : Int) := by push_cast; omega
    exact_mod_cast this
  have h3 := Nat.or_lt_two_pow h1 h2
  refine ⟨by unfold ior; omega, ?_⟩
  unfold ior
  exact_mod_cast h3
theorem idif_bd (a b n : Int) (ha : 0 ≤ a) (h : a < n) : 0 ≤ idif a b ∧ idif a b < n := by unfold idif ndiff; omega
theorem ipop_bd (a : Int) (h : a < 256) : 0 ≤ ipop a ∧ ipop a ≤ 8 := by
  have := pop_le a.toNat (by omega)
  unfold ipop; omega

theorem sizeOf_i (s : Int) (w : World) (h0 : 0 ≤ s) (h1 : s < 256) :
    Calls Tryz.prog 170 #[.int .i64 s] w fun e w' => e = .returned (.int .i64 (ipop s)) ∧ w = w' := by
  obtain ⟨n, rfl⟩ := Int.eq_ofNat_of_zero_le h0
  exact sizeOf_any n w (by omega)
theorem l2Size_i (s : Int) (w : World) (h0 : 0 ≤ s) (h1 : s < 256) :
    Calls Tryz.prog 173 #[.int .i64 s] w fun e w' => e = .returned (.int .i64 (ipop s)) ∧ w = w' := by
  obtain ⟨n, rfl⟩ := Int.eq_ofNat_of_zero_le h0
  exact l2Size_any n w (by omega)
theorem l2Full_i (g : Int) (w : World) (h0 : 0 ≤ g) (h1 : g ≤ 40) :
    Calls Tryz.prog 187 #[.int .i64 g] w fun e w' => e = .returned (.int .i64 (2 ^ g.toNat - 1)) ∧ w = w' := by
  obtain ⟨n, rfl⟩ := Int.eq_ofNat_of_zero_le h0
  exact l2Full_any n w (by omega)
theorem isSetOf_i (g s : Int) (w : World) (h0 : 0 ≤ g) (h1 : g ≤ 40) :
    Calls Tryz.prog 229 #[.int .i64 g, .int .i64 s] w fun e w' => e = .returned (.bool (isSet g.toNat s)) ∧ w = w' := by
  obtain ⟨n, rfl⟩ := Int.eq_ofNat_of_zero_le h0
  exact isSetOf_any n s w (by omega)

/-- what a valid family gives -/
theorem famOk {g : Int} {l : List Int} (h : isFamB g l = true) : 0 ≤ g ∧ g ≤ 6 ∧ (∀ s ∈ l, 0 ≤ s ∧ s < 2 ^ g.toNat) ∧ l.Pairwise (· < ·) := by
  unfold isFamB areSetsB at h
  simp only [Bool.and_eq_true, List.all_eq_true] at h
  obtain ⟨⟨h1, h2⟩, h3⟩ := h
  have := inB_true.1 h1
  exact ⟨this.1, this.2, fun s hs => isSet_true.1 (h2 s hs), by simpa [ascB] using h3⟩
theorem pow_le64 {g : Int} (h0 : 0 ≤ g) (h6 : g ≤ 6) : (2 : Int) ^ g.toNat ≤ 64 := by
  have := (two_pow g.toNat 6 (by omega)).1
  simpa using this
theorem famOk64 {g : Int} {l : List Int} (h : isFamB g l = true) : 0 ≤ g ∧ g ≤ 6 ∧ (∀ k, (hk : k < l.length) → 0 ≤ l[k] ∧ l[k] < 64) := by
  obtain ⟨h0, h6, hs, _⟩ := famOk h
  refine ⟨h0, h6, fun k hk => ?_⟩
  have := hs _ (List.getElem_mem hk)
  have := pow_le64 h0 h6
  omega
theorem fold_take {α β : Type} (f : β → α → β) (z : β) (l : List α) (k : Nat) (h : k < l.length) : (l.take (k + 1)).foldl f z = f ((l.take k).foldl f z) l[k] := by
  rw [List.take_succ_eq_append_getElem h, List.foldl_append]; rfl
theorem fold_all {α β : Type} (f : β → α → β) (z : β) (l : List α) (k : Nat) (h : l.length ≤ k) : (l.take k).foldl f z = l.foldl f z := by rw [List.take_of_length_le h]

/-! the size of a largest set -/
def bigF (m s : Int) : Int := max m (ipop s)
def largestOf (g : Int) (l : List Int) : Int := if isFamB g l then l.foldl bigF 0 else -1
theorem bigF_bd (l : List Int) (h : ∀ s ∈ l, s < 256) : ∀ z, 0 ≤ z → z ≤ 8 → 0 ≤ l.foldl bigF z ∧ l.foldl bigF z ≤ 8 := by
  induction l with
  | nil => intro z h0 h8; exact ⟨h0, h8⟩
  | cons a l ih =>
    intro z h0 h8
    have := ipop_bd a (h a (by simp))
    exact ih (fun s hs => h s (by simp [hs])) _ (by unfold bigF; omega) (by unfold bigF; omega)
end Go.Proofs.YtipejodijbjpcaaGreatDoor
end
section
namespace Go.Proofs.YtipejodijbjpcaaGreatDoor
open Go.RowKit Go.G5

def allIn (l : List Int) (lo hi : Int) : Bool := l.all fun x => inB x lo hi

set_option maxHeartbeats 400000 in
theorem areWithin_any (l : List Int) (v : Value) (lo hi : Int) (w : World) (hv : Ints w v l) :
    Calls Tryz.prog 131 #[v, .int .i64 lo, .int .i64 hi] w fun e w' => e = .returned (.bool (allIn l lo hi)) ∧ w = w' := by
  obtain ⟨a, b, off, c, rfl, hlen, hix, hc, hb⟩ := hv.view Tryz.prog 22 3 Tryz.underlying22 intElem
  go_enter Tryz.func131, Tryz.ntmps131
  go_wp2
  go_loop [11] (fun i => ∃ k : Nat, k ≤ l.length ∧ i = .int .i64 k ∧ (l.take k).all (fun x => inB x lo hi) = true) (fun i => l.length - (intOf i).toNat)
  case atStart => exact ⟨0, Nat.zero_le _, rfl, by simp⟩
  case round =>
    obtain ⟨k, hk, rfl, hall⟩ := hrel
    have H := Lib.hid hall
    clear hall
    by_cases hlt : k < l.length
    · cases hs : inB l[k] lo hi with
      | true =>
        go_wp2_with (go_at_call 143; refine (within_any _ _ _ _).mono ?_; rintro e w' ⟨rfl, rfl⟩)
        go_round
        case rel => exact ⟨k + 1, by omega, by go_num, by rw [all_take_succ _ _ _ hlt, H.out, hs]; rfl⟩
        case measure => simp [intOf]; omega
      | false =>
        go_wp2_with (go_at_call 143; refine (within_any _ _ _ _).mono ?_; rintro e w' ⟨rfl, rfl⟩)
        go_ret
        exact ⟨ret_bool (by unfold allIn; rw [all_false_at _ _ _ hlt hs]), rfl⟩
    · go_wp2
      go_ret
      exact ⟨ret_bool (by unfold allIn; rw [← all_of_take (fun x => inB x lo hi) l k (by omega), H.out]), rfl⟩

def isFunB (n : Int) (l : List Int) : Bool := inB n 0 5 && decide ((l.length : Int) = 2 ^ n.toNat) && allIn l (-1000) 1000
theorem pow_le32 {g : Int} (h0 : 0 ≤ g) (h6 : g ≤ 5) : (2 : Int) ^ g.toNat ≤ 32 ∧ 0 < (2 : Int) ^ g.toNat := by
  have := two_pow g.toNat 5 (by omega)
  simpa using this
theorem funOk {n : Int} {l : List Int} (h : isFunB n l = true) : 0 ≤ n ∧ n ≤ 5 ∧ (l.length : Int) = 2 ^ n.toNat ∧ (∀ k, (hk : k < l.length) → -1000 ≤ l[k] ∧ l[k] ≤ 1000) := by
  unfold isFunB allIn at h
  simp only [Bool.and_eq_true, List.all_eq_true, decide_eq_true_eq] at h
  obtain ⟨⟨h1, h2⟩, h3⟩ := h
  have := inB_true.1 h1
  exact ⟨this.1, this.2, h2, fun k hk => inB_true.1 (h3 _ (List.getElem_mem hk))⟩

set_option maxHeartbeats 400000 in
theorem isFunI_any (n : Int) (l : List Int) (v : Value) (w : World) (hv : Ints w v l) :
    Calls Tryz.prog 111 #[.agg #[.int .i64 n, v]] w fun e w' => e = .returned (.bool (isFunB n l)) ∧ Below w.heap.size w w' := by
  obtain ⟨a, b, off, c, rfl, hlen, hix, hc, hb⟩ := hv.view Tryz.prog 22 3 Tryz.underlying22 intElem
  cases hin : inB n 0 5 with
  | false =>
    have hx : isFunB n l = false := by unfold isFunB; rw [hin]; rfl
    have HX := Lib.hid hx
    clear hx hc
    go_enter Tryz.func111, Tryz.ntmps111
    go_wp2_with (go_at_call 143; refine (within_any _ _ _ _).mono ?_; rintro e w' ⟨rfl, rfl⟩)
    go_ret
    exact ⟨by rw [HX.out]; rfl, bl1 _ _⟩
  | true =>
    have hg := inB_true.1 hin
    have h0 : 0 ≤ n := hg.1
    have h5 : n ≤ 5 := hg.2
    have hp := (pow_le32 h0 h5).1
    have hp0 := (pow_le32 h0 h5).2
    by_cases hl : (l.length : Int) = 2 ^ n.toNat
    · have hx : isFunB n l = allIn l (-1000) 1000 := by unfold isFunB; rw [hin, decide_eq_true hl]; rfl
      have hne : ((l.length : Int) != 2 ^ n.toNat) = false := by simp [hl]
      have HX := Lib.hid hx
      have HL := Lib.hid hl
      clear hx hc hg hl
      go_enter Tryz.func111, Tryz.ntmps111
      go_wp2_with (first
        | (go_at_call 143; refine (within_any _ _ _ _).mono ?_; rintro e w' ⟨rfl, rfl⟩)
        | (go_at_call 131; refine (areWithin_any l _ _ _ _ (hv.alloc _)).mono ?_; rintro e w' ⟨rfl, rfl⟩))
      go_ret
      exact ⟨by rw [HX.out]; rfl, bl1 _ _⟩
    · have hx : isFunB n l = false := by unfold isFunB; rw [hin, decide_eq_false hl]; rfl
      have hne : ((l.length : Int) != 2 ^ n.toNat) = true := by simp [hl]
      have HX := Lib.hid hx
      clear hx hc hg hl
      go_enter Tryz.func111, Tryz.ntmps111
      go_wp2_with (go_at_call 143; refine (within_any _ _ _ _).mono ?_; rintro e w' ⟨rfl, rfl⟩)
      go_ret
      exact ⟨by rw [HX.out]; rfl, bl1 _ _⟩

set_option maxHeartbeats 400000 in
theorem isFunS_any (n : Int) (l : List Int) (v : Value) (w : World) (hv : Ints w v l) :
    Calls Tryz.prog 129 #[.agg #[.int .i64 n, v]] w fun e w' => e = .returned (.bool (isFunB n l)) ∧ Below w.heap.size w w' := by
  obtain ⟨a, b, off, c, rfl, hlen, hix, hc, hb⟩ := hv.view Tryz.prog 22 3 Tryz.underlying22 intElem
  have hc1 := cells_below hc hb (bl1 w (.cells #[.int .i64 n, .slice a l.length c] 32)) (Nat.le_refl _)
  clear hc
  cases hin : inB n 0 5 with
  | false =>
    have hx : isFunB n l = false := by unfold isFunB; rw [hin]; rfl
    have HX := Lib.hid hx
    have HI := Lib.hid hin
    clear hx hc1 hin
    go_enter Tryz.func129, Tryz.ntmps129
    go_wp2
    go_quiet ((go_at_call 188; first | exact q_bool2 (l1In_any _ _ _ _) HI.out | exact q_bool (l1In_any _ _ _ _) HI.out))
    go_wp2
    go_ret
    exact ⟨by rw [HX.out]; rfl, (bl1 _ _).drewN' _⟩
  | true =>
    have hg := inB_true.1 hin
    have h0 : 0 ≤ n := hg.1
    have h5 : n ≤ 5 := hg.2
    have hp := (pow_le32 h0 h5).1
    have hp0 := (pow_le32 h0 h5).2
    have HI := Lib.hid hin
    clear hin
    by_cases hl : (l.length : Int) = 2 ^ n.toNat
    · have hx : isFunB n l = allIn l (-1000) 1000 := by unfold isFunB; rw [HI.out, decide_eq_true hl]; rfl
      have hne : ((l.length : Int) != 2 ^ n.toNat) = false := by simp [hl]
      have HX := Lib.hid hx
      have HL := Lib.hid hl
      clear hx hg hl
      go_enter Tryz.func129, Tryz.ntmps129
      go_wp2
      go_quiet ((go_at_call 188; first | exact q_bool2 (l1In_any _ _ _ _) HI.out | exact q_bool (l1In_any _ _ _ _) HI.out))
      go_wp2
      go_loop [3] (fun i => ∃ k : Nat, k ≤ l.length ∧ i = .int .i64 k ∧ (l.take k).all (fun x => inB x (-1000) 1000) = true) (fun i => l.length - (intOf i).toNat)
      case atStart => exact ⟨0, Nat.zero_le _, rfl, by simp⟩
      case round =>
        obtain ⟨k, hk, rfl, hall⟩ := hrel
        have H := Lib.hid hall
        clear hall
        by_cases hlt : k < l.length
        · cases hs : inB l[k] (-1000) 1000 with
          | true =>
            go_wp2_with (go_at_call 188; refine (l1In_any _ _ _ _).mono ?_; rintro e w' ⟨rfl, rfl⟩)
            go_round
            case rel => exact ⟨k + 1, by omega, by go_num, by rw [all_take_succ _ _ _ hlt, H.out, hs]; rfl⟩
            case measure => simp [intOf]; omega
          | false =>
            go_wp2_with (go_at_call 188; refine (l1In_any _ _ _ _).mono ?_; rintro e w' ⟨rfl, rfl⟩)
            go_ret
            exact ⟨ret_bool (by rw [HX.out]; unfold allIn; rw [all_false_at _ _ _ hlt hs]), (bl1 _ _).drewN' _⟩
        · go_wp2
          go_ret
          exact ⟨ret_bool (by rw [HX.out]; unfold allIn; rw [← all_of_take (fun x => inB x (-1000) 1000) l k (by omega), H.out]), (bl1 _ _).drewN' _⟩
    · have hx : isFunB n l = false := by unfold isFunB; rw [HI.out, decide_eq_false hl]; rfl
      have hne : ((l.length : Int) != 2 ^ n.toNat) = true := by simp [hl]
      have HX := Lib.hid hx
      clear hx hg hl hc1
      go_enter Tryz.func129, Tryz.ntmps129
      go_wp2
      go_quiet ((go_at_call 188; first | exact q_bool2 (l1In_any _ _ _ _) HI.out | exact q_bool (l1In_any _ _ _ _) HI.out))
      go_wp2
      go_ret
      exact ⟨by rw [HX.out]; rfl, (bl1 _ _).drewN' _⟩

def isGrB (n : Int) (l : List Int) : Bool := isFunB n l && decide (l.getD 0 0 = 0)

set_option maxHeartbeats 400000 in
theorem isGrI_any (n : Int) (l : List Int) (v : Value) (w : World) (hv : Ints w v l) :
    Calls Tryz.prog 119 #[.agg #[.int .i64 n, v]] w fun e w' => e = .returned (.bool (isGrB n l)) ∧ Below w.heap.size w w' := by
  obtain ⟨a, b, off, c, rfl, hlen, hix, hc, hb⟩ := hv.view Tryz.prog 22 3 Tryz.underlying22 intElem
  go_enter Tryz.func119, Tryz.ntmps119
  go_wp2_with fail
  refine (isFunI_any n l _ _ (hv.alloc _)).mono ?_
  rintro e w1 ⟨rfl, hb1⟩
  have d1 := keep hb1 (cell_new w #[.int .i64 n, .slice a l.length c] 32 1 _ rfl)
  have B1 : Below w.heap.size w w1 := (bl1 _ _).after hb1 (by first | omega | (simp; done) | (simp; omega))
  have hc1 := cells_below hc hb B1 (Nat.le_refl _)
  clear hc hb hb1
  cases hf : isFunB n l with
  | false =>
    have hx : isGrB n l = false := by unfold isGrB; rw [hf]; rfl
    have HX := Lib.hid hx
    clear hx
    go_wp2
    go_ret
    exact ⟨by rw [HX.out]; rfl, B1⟩
  | true =>
    obtain ⟨h0, h5, hl, _⟩ := funOk hf
    have hp := (pow_le32 h0 h5).2
    have hpos : 0 < l.length := by omega
    have hx : isGrB n l = (l[0] == 0) := by
      unfold isGrB; rw [hf, List.getD_eq_getElem?_getD, List.getElem?_eq_getElem hpos]
      simp only [Option.getD_some, Bool.true_and]
      rfl
    have HX := Lib.hid hx
    have hix0 : ∀ w', (Instr.indexAt 22 (.slice a l.length c) (.int .i64 0)).run Tryz.prog w' = .ok (.pointer (some ⟨b, off, none⟩)) w' := fun w' => by simpa using hix w' 0 hpos
    have hc0 : w1.cell? ⟨b, off, none⟩ = some (.int .i64 l[0]) := hc1 0 hpos
    clear hx hl
    go_wp2
    go_ret
    exact ⟨by rw [HX.out]; rfl, B1⟩
set_option maxHeartbeats 400000 in
theorem isGrS_any (n : Int) (l : List Int) (v : Value) (w : World) (hv : Ints w v l) :
    Calls Tryz.prog 20 #[.agg #[.int .i64 n, v]] w fun e w' => e = .returned (.bool (isGrB n l)) ∧ Below w.heap.size w w' := by
  obtain ⟨a, b, off, c, rfl, hlen, hix, hc, hb⟩ := hv.view Tryz.prog 22 3 Tryz.underlying22 intElem
  go_enter Tryz.func20, Tryz.ntmps20
  go_wp2_with fail
  refine (isFunS_any n l _ _ (hv.alloc _)).mono ?_
  rintro e w1 ⟨rfl, hb1⟩
  have d1 := keep hb1 (cell_new w #[.int .i64 n, .slice a l.length c] 32 1 _ rfl)
  have B1 : Below w.heap.size w w1 := (bl1 _ _).after hb1 (by first | omega | (simp; done) | (simp; omega))
  have hc1 := cells_below hc hb B1 (Nat.le_refl _)
  clear hc hb hb1
  cases hf : isFunB n l with
  | false =>
    have hx : isGrB n l = false := by unfold isGrB; rw [hf]; rfl
    have HX := Lib.hid hx
    clear hx
    go_wp2
    go_ret
    exact ⟨by rw [HX.out]; rfl, B1⟩
  | true =>
    obtain ⟨h0, h5, hl, _⟩ := funOk hf
    have hp := (pow_le32 h0 h5).2
    have hpos : 0 < l.length := by omega
    have hx : isGrB n l = (l[0] == 0) := by
      unfold isGrB; rw [hf, List.getD_eq_getElem?_getD, List.getElem?_eq_getElem hpos]
      simp only [Option.getD_some, Bool.true_and]
      rfl
    have HX := Lib.hid hx
    have hix0 : ∀ w', (Instr.indexAt 22 (.slice a l.length c) (.int .i64 0)).run Tryz.prog w' = .ok (.pointer (some ⟨b, off, none⟩)) w' := fun w' => by simpa using hix w' 0 hpos
    have hc0 : w1.cell? ⟨b, off, none⟩ = some (.int .i64 l[0]) := hc1 0 hpos
    clear hx hl
    go_wp2
    go_ret
    exact ⟨by rw [HX.out]; rfl, B1⟩

/-! bits and weights -/
def ibit (s : Int) (e : Nat) : Int := s / 2 ^ e % 2
theorem bit_is (s : Int) (k : Nat) (h0 : 0 ≤ s) (h1 : s < 4611686018427387904) : bits BinOp.and IntKind.i64 (s / 2 ^ k) 1 = ibit s k := by
  have hq : 0 ≤ s / 2 ^ k := Int.ediv_nonneg h0 (by have := (two_pow k k (Nat.le_refl _)).2; omega)
  have hq2 : s / 2 ^ k ≤ s := Int.ediv_le_self _ h0
  have := bitsA1 (s / 2 ^ k).toNat (by omega)
  rw [show (((s / 2 ^ k).toNat : Nat) : Int) = s / 2 ^ k by omega] at this
  rw [this]
  unfold ibit; omega
/-- the sum of the numbers of a set's elements below k -/
def wtTo (x : List Int) (s : Int) : Nat → Int
  | 0 => 0
  | k + 1 => if ibit s k = 1 then wtTo x s k + x.getD k 0 else wtTo x s k
def wt (x : List Int) (s : Int) : Int := wtTo x s x.length
theorem wtTo_bd (x : List Int) (s : Int) (h : ∀ k, (hk : k < x.length) → -1000000 ≤ x[k] ∧ x[k] ≤ 1000000) (k : Nat) (hk : k ≤ x.length) : -1000000 * (k : Int) ≤ wtTo x s k ∧ wtTo x s k ≤ 1000000 * (k : Int) := by
  induction k with
  | zero => simp [wtTo]
  | succ k ih =>
    have h1 := ih (by omega)
    have h2 := h k (by omega)
    rw [wtTo, List.getD_eq_getElem?_getD, List.getElem?_eq_getElem (show k < x.length by omega), Option.getD_some]
    split <;> omega

set_option maxHeartbeats 400000 in
theorem weightOf_any (x : List Int) (v : Value) (s : Int) (w : World) (hv : Ints w v x) (h0 : 0 ≤ s) (h1 : s < 1073741824) (hx : ∀ k, (hk : k < x.length) → -1000000 ≤ x[k] ∧ x[k] ≤ 1000000) (hl : x.length ≤ 60) :
    Calls Tryz.prog 132 #[v, .int .i64 s] w fun e w' => e = .returned (.int .i64 (wt x s)) ∧ w = w' := by
  obtain ⟨a, b, off, c, rfl, hlen, hix, hc, hb⟩ := hv.view Tryz.prog 22 3 Tryz.underlying22 intElem
  go_enter Tryz.func132, Tryz.ntmps132
  go_wp2
  go_loop [5, 10] (fun m i => ∃ k : Nat, k ≤ x.length ∧ i = .int .i64 k ∧ m = .int .i64 (wtTo x s k)) (fun _ i => x.length - (intOf i).toNat)
  case atStart => exact ⟨0, Nat.zero_le _, rfl, rfl⟩
  case round =>
    obtain ⟨k, hk, rfl, rfl⟩ := hrel
    have hbd := wtTo_bd x s hx k hk
    obtain ⟨m, hm⟩ : ∃ m, m = wtTo x s k := ⟨_, rfl⟩
    rw [← hm] at hbd ⊢
    have HM := Lib.hid hm
    clear hm
    by_cases hlt : k < x.length
    · have hxk := hx k hlt
      have hbit := bit_is s k h0 (by omega)
      have hnext : wtTo x s (k + 1) = if ibit s k = 1 then m + x[k] else m := by
        rw [wtTo, ← HM.out, List.getD_eq_getElem?_getD, List.getElem?_eq_getElem hlt, Option.getD_some]
      have HN := Lib.hid hnext
      clear hnext
      by_cases hone : ibit s k = 1
      · have ht : (ibit s k == 1) = true := by simp [hone]
        have HO := Lib.hid hone
        clear hone
        go_wp2
        go_round
        case rel => exact ⟨k + 1, by omega, by go_num, by rw [HN.out, if_pos HO.out]⟩
        case measure => simp [intOf]; omega
      · have ht : (ibit s k == 1) = false := by simp [hone]
        go_wp2
        go_round
        case rel => exact ⟨k + 1, by omega, by go_num, by rw [HN.out, if_neg hone]⟩
        case measure => simp [intOf]; omega
    · go_wp2
      go_ret
      exact ⟨ret_int (by rw [HM.out, show k = x.length from by omega]; rfl), rfl⟩

set_option maxHeartbeats 400000 in
theorem l3Weigh_any (x : List Int) (v : Value) (s : Int) (w : World) (hv : Ints w v x) (h0 : 0 ≤ s) (h1 : s < 1073741824) (hx : ∀ k, (hk : k < x.length) → -1000000 ≤ x[k] ∧ x[k] ≤ 1000000) (hl : x.length ≤ 60) :
    Calls Tryz.prog 186 #[v, .int .i64 s] w fun e w' => e = .returned (.int .i64 (wt x s)) ∧ w = w' := by
  obtain ⟨a, b, off, c, rfl, hlen, hix, hc, hb⟩ := hv.view Tryz.prog 22 3 Tryz.underlying22 intElem
  go_enter Tryz.func186, Tryz.ntmps186
  go_wp2
  go_loop [5, 6] (fun m i => ∃ k : Nat, k ≤ x.length ∧ i = .int .i64 k ∧ m = .int .i64 (wtTo x s k)) (fun _ i => x.length - (intOf i).toNat)
  case atStart => exact ⟨0, Nat.zero_le _, rfl, rfl⟩
  case round =>
    obtain ⟨k, hk, rfl, rfl⟩ := hrel
    have hbd := wtTo_bd x s hx k hk
    obtain ⟨m, hm⟩ : ∃ m, m = wtTo x s k := ⟨_, rfl⟩
    rw [← hm] at hbd ⊢
    have HM := Lib.hid hm
    clear hm
    by_cases hlt : k < x.length
    · have hxk := hx k hlt
      have hbit := bit_is s k h0 (by omega)
      have hnext : wtTo x s (k + 1) = if ibit s k = 1 then m + x[k] else m := by
        rw [wtTo, ← HM.out, List.getD_eq_getElem?_getD, List.getElem?_eq_getElem hlt, Option.getD_some]
      have HN := Lib.hid hnext
      clear hnext
      by_cases hone : ibit s k = 1
      · have ht : (ibit s k == 1) = true := by simp [hone]
        have HO := Lib.hid hone
        clear hone
        go_wp2
        go_round
        case rel => exact ⟨k + 1, by omega, by go_num, by rw [HN.out, if_pos HO.out]⟩
        case measure => simp [intOf]; omega
      · have ht : (ibit s k == 1) = false := by simp [hone]
        go_wp2
        go_round
        case rel => exact ⟨k + 1, by omega, by go_num, by rw [HN.out, if_neg hone]⟩
        case measure => simp [intOf]; omega
    · go_wp2
      go_ret
      exact ⟨ret_int (by rw [HM.out, show k = x.length from by omega]; rfl), rfl⟩

end Go.Proofs.YtipejodijbjpcaaGreatDoor
end
