/- Games. -/
import Derived.Test.YtmlpcohailjccaaFun
import Derived.Deep.RegionHeld3
namespace Go.Proofs.Ytmlpcohailjccaa
open Go.RowKit Go.G5

theorem l8Vector_any (x : List Int) (v : Value) (w : World) (hv : Ints w v x) :
    Calls Try.prog 162 #[v] w fun e w' => e = .returned (.bool (allIn x (-5000) 5000 && decide (x.length ≤ 5))) ∧ w = w' := by
  obtain ⟨a, b, off, c, rfl, hlen, hix, hc, hb⟩ := hv.view Try.prog 22 3 Try.underlying22 intElem
  go_enter Try.func162, Try.ntmps162
  go_wp2
  go_loop [3] (fun i => ∃ k : Nat, k ≤ x.length ∧ i = .int .i64 k ∧ (x.take k).all (fun x => inB x (-5000) 5000) = true) (fun i => x.length - (intOf i).toNat)
  case atStart => exact ⟨0, Nat.zero_le _, rfl, by simp⟩
  case round =>
    obtain ⟨k, hk, rfl, hall⟩ := hrel
    have H := Lib.hid hall
    clear hall
    by_cases hlt : k < x.length
    · cases hs : inB x[k] (-5000) 5000 with
      | true =>
        go_wp2_with (go_at_call 96; refine (l1In_any _ _ _ _).mono ?_; rintro e w' ⟨rfl, rfl⟩)
        go_round
        case rel => exact ⟨k + 1, by omega, by go_num, by rw [all_take_succ _ _ _ hlt, H.out, hs]; rfl⟩
        case measure => simp [intOf]; omega
      | false =>
        go_wp2_with (go_at_call 96; refine (l1In_any _ _ _ _).mono ?_; rintro e w' ⟨rfl, rfl⟩)
        go_ret
        exact ⟨ret_bool (by unfold allIn; rw [all_false_at _ _ _ hlt hs]; rfl), rfl⟩
    · have hx : allIn x (-5000) 5000 = true := by unfold allIn; rw [← all_of_take (fun x => inB x (-5000) 5000) x k (by omega), H.out]
      have HX := Lib.hid hx
      clear hx
      by_cases h5 : x.length ≤ 5
      · go_wp2
        go_ret
        exact ⟨ret_bool (by rw [HX.out]; simp; omega), rfl⟩
      · have h5' : decide ((x.length : Int) ≤ 5) = false := decide_eq_false (by omega)
        go_wp2
        go_ret
        exact ⟨ret_bool (by first | rfl | (rw [HX.out]; simp; omega)), rfl⟩

def isLongB (n : Int) (x : List Int) : Bool := decide ((x.length : Int) = n) && allIn x (-5000) 5000

theorem isLong_any (n : Int) (l : List Int) (v : Value) (x : List Int) (u : Value) (w : World) (hv : Ints w v l) (hu : Ints w u x) :
    Calls Try.prog 165 #[.agg #[.int .i64 n, v], u] w fun e w' => e = .returned (.bool (isLongB n x)) ∧ Below w.heap.size w w' := by
  obtain ⟨av, cv, rfl⟩ := hv.shape
  obtain ⟨au, cu, rfl⟩ := hu.shape
  by_cases hl : (x.length : Int) = n
  · have hx : isLongB n x = allIn x (-5000) 5000 := by unfold isLongB; rw [decide_eq_true hl]; rfl
    have ht : ((x.length : Int) == n) = true := by simp [hl]
    have HX := Lib.hid hx
    clear hx hl
    go_enter Try.func165, Try.ntmps165
    go_wp2_with (go_at_call 145; refine (areWithin_any x _ _ _ _ (hu.alloc _)).mono ?_; rintro e w' ⟨rfl, rfl⟩)
    go_ret
    exact ⟨by rw [HX.out]; rfl, bl1 _ _⟩
  · have hx : isLongB n x = false := by unfold isLongB; rw [decide_eq_false hl]; rfl
    have ht : ((x.length : Int) == n) = false := by simp [hl]
    have HX := Lib.hid hx
    clear hx hl
    go_enter Try.func165, Try.ntmps165
    go_wp2
    go_ret
    exact ⟨by rw [HX.out]; rfl, bl1 _ _⟩

theorem allOf_any (n : Int) (v : Value) (l : List Int) (w : World) (hv : Ints w v l) (h0 : 0 ≤ n) (h1 : n ≤ 40) :
    Calls Try.prog 125 #[.agg #[.int .i64 n, v]] w fun e w' => e = .returned (.int .i64 (2 ^ n.toNat - 1)) ∧ Below w.heap.size w w' := by
  obtain ⟨av, cv, rfl⟩ := hv.shape
  have h2 := two_pow n.toNat 40 (by omega)
  have h3 := h2.1
  have h4 := h2.2
  simp at h3
  clear h2
  go_enter Try.func125, Try.ntmps125
  go_wp2
  go_ret
  exact ⟨rfl, bl1 _ _⟩

/-- what a set's value has over its weight -/
def slackOf (l x : List Int) (s : Int) : Int := l.getD s.toNat 0 - wt x s

set_option maxHeartbeats 400000 in
theorem slack_any (n : Int) (l : List Int) (v : Value) (x : List Int) (u : Value) (s : Int) (w : World) (hv : Ints w v l) (hu : Ints w u x) (h0 : 0 ≤ s) (hs : s < l.length) (hll : l.length ≤ 64)
    (hlb : ∀ k, (hk : k < l.length) → -1000 ≤ l[k] ∧ l[k] ≤ 1000) (hx : ∀ k, (hk : k < x.length) → -5000 ≤ x[k] ∧ x[k] ≤ 5000) (hxl : x.length ≤ 6) :
    Calls Try.prog 176 #[.agg #[.int .i64 n, v], u, .int .i64 s] w fun e w' => e = .returned (.int .i64 (slackOf l x s)) ∧ Below w.heap.size w w' := by
  obtain ⟨a, b, off, c, rfl, hlen, hix, hc, hb⟩ := hv.view Try.prog 22 3 Try.underlying22 intElem
  obtain ⟨au, cu, rfl⟩ := hu.shape
  obtain ⟨k, rfl⟩ := Int.eq_ofNat_of_zero_le h0
  have hk : k < l.length := by omega
  have hck := cells_below hc hb (bl1 w (.cells #[.int .i64 n, .slice a l.length c] 26)) (Nat.le_refl _) k hk
  have hxk := hlb k hk
  have hw := wtTo_bd x k (fun j hj => by have := hx j hj; omega) x.length (Nat.le_refl _)
  have hw' : -6000000 ≤ wt x k ∧ wt x k ≤ 6000000 := by unfold wt; omega
  have hg : l.getD (k : Int).toNat 0 = l[k] := by simp [hk]
  have HG := Lib.hid hg
  clear hc hlb hw hg
  go_enter Try.func176, Try.ntmps176
  go_wp2
  go_quiet ((go_at_call 148; first | exact q_same2 (weightOf_any x _ _ _ ((hu.alloc _).drewN _) (by omega) (by omega) (fun j hj => by have := hx j hj; omega) (by omega)) | exact q_same (weightOf_any x _ _ _ ((hu.alloc _).drewN _) (by omega) (by omega) (fun j hj => by have := hx j hj; omega) (by omega))))
  go_wp2
  go_ret
  exact ⟨ret_int (by unfold slackOf; rw [HG.out]), (bl1 _ _).drewN' _⟩
/-! the core -/
def coreOkTo (l x : List Int) : Nat → Bool
  | 0 => true
  | k + 1 => coreOkTo l x k && decide (slackOf l x k ≤ 0)
def inCoreB (n : Int) (l x : List Int) : Bool :=
  isGrB n l && isLongB n x && coreOkTo l x l.length && (slackOf l x (2 ^ n.toNat - 1) == 0)
theorem coreOk_false (l x : List Int) (k : Nat) (h : 0 < slackOf l x k) : ∀ m, k < m → coreOkTo l x m = false := by
  intro m
  induction m with
  | zero => intro h; omega
  | succ m ih =>
    intro hm
    rw [coreOkTo]
    by_cases hkm : k < m
    · rw [ih hkm]; rfl
    · have : m = k := by omega
      subst this
      rw [decide_eq_false (by omega)]; simp

theorem longOk {n : Int} {x : List Int} (h : isLongB n x = true) : (x.length : Int) = n ∧ ∀ k, (hk : k < x.length) → -5000 ≤ x[k] ∧ x[k] ≤ 5000 := by
  unfold isLongB allIn at h
  simp only [Bool.and_eq_true, List.all_eq_true, decide_eq_true_eq] at h
  exact ⟨h.1, fun k hk => inB_true.1 (h.2 _ (List.getElem_mem hk))⟩
theorem grOk {n : Int} {l : List Int} (h : isGrB n l = true) : isFunB n l = true := by
  unfold isGrB at h
  simp only [Bool.and_eq_true] at h
  exact h.1
theorem wt_bd (x : List Int) (s : Int) (hx : ∀ k, (hk : k < x.length) → -5000 ≤ x[k] ∧ x[k] ≤ 5000) (hl : x.length ≤ 6) : -6000000 ≤ wt x s ∧ wt x s ≤ 6000000 := by
  have := wtTo_bd x s (fun k hk => by have := hx k hk; omega) x.length (Nat.le_refl _)
  unfold wt; omega

end Go.Proofs.Ytmlpcohailjccaa
