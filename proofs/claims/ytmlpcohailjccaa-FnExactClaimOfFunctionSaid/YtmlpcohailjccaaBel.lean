/- Vectors below a function. -/
import Derived.Test.YtmlpcohailjccaaGame
import Derived.Test.YtmlpcohailjccaaBlk
namespace Go.Proofs.Ytmlpcohailjccaa
open Go.RowKit Go.G5

def belOkTo (l x : List Int) : Nat → Bool
  | 0 => true
  | k + 1 => belOkTo l x k && decide (0 ≤ slackOf l x k)
def belB (n : Int) (l x : List Int) : Bool := isGrB n l && isLongB n x && belOkTo l x l.length
theorem belOk_false (l x : List Int) (k : Nat) (h : slackOf l x k < 0) : ∀ m, k < m → belOkTo l x m = false := by
  intro m
  induction m with
  | zero => intro h; omega
  | succ m ih =>
    intro hm
    rw [belOkTo]
    by_cases hkm : k < m
    · rw [ih hkm]; rfl
    · have : m = k := by omega
      subst this
      rw [decide_eq_false (by omega)]; simp
theorem belOk_true (l x : List Int) : ∀ m, belOkTo l x m = true → ∀ k : Nat, k < m → 0 ≤ slackOf l x k := by
  intro m
  induction m with
  | zero => intro _ k hk; omega
  | succ m ih =>
    intro h k hk
    rw [belOkTo] at h
    obtain ⟨h1, h2⟩ := Bool.and_eq_true_iff.1 h
    by_cases hkm : k < m
    · exact ih h1 k hkm
    · have : k = m := by omega
      subst this
      exact of_decide_eq_true h2

set_option maxHeartbeats 1000000 in
theorem isBelowI_any (w : World) (n : Int) (v : Value) (l : List Int) (hv : Ints w v l) (u : Value) (x : List Int) (hu : Ints w u x) :
    Calls Try.prog 164 #[.agg #[.int .i64 n, v], u] w fun e w' => e = .returned (.bool (belB n l x)) ∧ Below w.heap.size w w' := by
  obtain ⟨av, cv, rfl⟩ := hv.shape
  obtain ⟨au, cu, rfl⟩ := hu.shape
  go_enter Try.func164, Try.ntmps164
  go_wp2_with fail
  refine (isGrI_any n l _ _ (hv.alloc _)).mono ?_
  rintro e w1 ⟨rfl, hb1⟩
  have X1 := (Box2.new w n (.slice av l.length cv) 26).after hb1
  clear hb1
  cases hg : isGrB n l with
  | false =>
    have hx : belB n l x = false := by unfold belB; rw [hg]; rfl
    have HX := Lib.hid hx
    obtain ⟨d0, d1, B1, z1⟩ := X1
    clear hx
    go_wp2
    go_ret
    exact ⟨by rw [HX.out]; rfl, B1⟩
  | true =>
    obtain ⟨h0, h5, hl, hlb⟩ := funOk (grOk hg)
    have hp := pow_le32 h0 h5
    have hl32 : l.length ≤ 64 := by omega
    have HLB := Lib.hid hlb
    clear hl hlb hp
    obtain ⟨d0, d1, B1, z1⟩ := X1
    go_wp2_with fail
    refine (isLong_any n l _ x _ _ (hv.below B1 (Nat.le_refl _)) (hu.below B1 (Nat.le_refl _))).mono ?_
    rintro e w2 ⟨rfl, hb2⟩
    have X2 := (Box2.mk d0 d1 B1 z1).after hb2
    clear hb2 d0 d1 B1 z1
    cases hlo : isLongB n x with
    | false =>
      have hx : belB n l x = false := by unfold belB; rw [hg, hlo]; rfl
      have HX := Lib.hid hx
      obtain ⟨d0, d1, B1, z1⟩ := X2
      clear hx
      go_wp2
      go_ret
      exact ⟨by rw [HX.out]; rfl, B1⟩
    | true =>
      obtain ⟨hxl, hxb⟩ := longOk hlo
      have hxl6 : x.length ≤ 6 := by omega
      have hx : belB n l x = belOkTo l x l.length := by unfold belB; rw [hg, hlo]; rfl
      have HX := Lib.hid hx
      have HXB := Lib.hid hxb
      clear hx hxb hxl
      obtain ⟨d0, d1, B1, z1⟩ := X2
      go_wp2_with fail
      go_loopw [18] (fun i wr => ∃ k : Nat, k ≤ l.length ∧ i = .int .i64 k ∧ belOkTo l x k = true ∧ Box2 w wr n (.slice av l.length cv)) (fun i _ => l.length - (intOf i).toNat)
      case atStart => exact ⟨0, Nat.zero_le _, rfl, rfl, ⟨d0, d1, B1, z1⟩⟩
      case round =>
        obtain ⟨k, hk, rfl, hok, X⟩ := hrel
        have HO := Lib.hid hok
        clear hok d0 d1 B1 z1
        obtain ⟨d0, d1, B1, z1⟩ := X
        by_cases hlt : k < l.length
        · have hlt2 : (k : Int) < (l.length : Int) := by omega
          go_wp2_with fail
          refine (slack_any n l _ x _ k _ (hv.below B1 (Nat.le_refl _)) (hu.below B1 (Nat.le_refl _)) (by omega) (by omega) hl32 HLB.out HXB.out hxl6).mono ?_
          rintro e w3 ⟨rfl, hb3⟩
          have X3 := (Box2.mk d0 d1 B1 z1).after hb3
          clear hb3 d0 d1 B1 z1
          by_cases hle : slackOf l x k < 0
          · go_wp2
            go_ret
            refine ⟨ret_bool ?_, X3.B⟩
            rw [HX.out, belOk_false l x k hle _ hlt]
          · go_wp2
            go_roundw
            case rel => exact ⟨k + 1, by omega, by go_num, by rw [belOkTo, HO.out, decide_eq_true (by omega)]; rfl, X3⟩
            case measure => simp [intOf]; omega
        · have hlt2 : ¬ (k : Int) < (l.length : Int) := by omega
          have hkl : k = l.length := by omega
          have HK := Lib.hid hkl
          clear hkl
          go_wp2
          go_ret
          exact ⟨ret_bool (by rw [HX.out, ← HK.out, HO.out]), B1⟩

set_option maxHeartbeats 1000000 in
theorem isBelowS_any (w : World) (n : Int) (v : Value) (l : List Int) (hv : Ints w v l) (u : Value) (x : List Int) (hu : Ints w u x) :
    Calls Try.prog 161 #[.agg #[.int .i64 n, v], u] w fun e w' => e = .returned (.bool (belB n l x)) ∧ Below w.heap.size w w' := by
  obtain ⟨a, b, off, c, rfl, hlen, hix, hc, hb⟩ := hv.view Try.prog 22 3 Try.underlying22 intElem
  obtain ⟨au, cu, rfl⟩ := hu.shape
  go_enter Try.func161, Try.ntmps161
  go_wp2_with fail
  refine (isGrS_any n l _ _ (hv.alloc _)).mono ?_
  rintro e w1 ⟨rfl, hb1⟩
  have X1 := (Box2.new w n (.slice a l.length c) 26).after hb1
  clear hb1
  have hc1 := cells_below hc hb X1.B (Nat.le_refl _)
  have hu1 := hu.below X1.B (Nat.le_refl _)
  clear hc
  cases hg : isGrB n l with
  | false =>
    have hx : belB n l x = false := by unfold belB; rw [hg]; rfl
    have HX := Lib.hid hx
    obtain ⟨d0, d1, B1, z1⟩ := X1
    clear hx
    go_wp2
    go_ret
    exact ⟨by rw [HX.out]; rfl, B1⟩
  | true =>
    obtain ⟨h0, h5, hl, hlb⟩ := funOk (grOk hg)
    have hp := pow_le32 h0 h5
    have hl32 : l.length ≤ 64 := by omega
    have HLB := Lib.hid hlb
    clear hl hlb
    obtain ⟨d0, d1, B1, z1⟩ := X1
    by_cases hxl : (x.length : Int) = n
    · have hne : ((x.length : Int) != n) = false := by simp [hxl]
      have hx5 : x.length ≤ 5 := by omega
      have HXL := Lib.hid hxl
      cases hal : allIn x (-5000) 5000 with
      | false =>
        have hx : belB n l x = false := by unfold belB isLongB; rw [hg, hal]; simp
        have HX := Lib.hid hx
        clear hx hxl
        go_wp2_with (go_at_call 162; refine (l8Vector_any x _ _ hu1).mono ?_; rintro e w' ⟨rfl, rfl⟩; rw [hal])
        go_ret
        exact ⟨by rw [HX.out]; rfl, B1⟩
      | true =>
        have hlo : isLongB n x = true := by unfold isLongB; rw [hal, decide_eq_true hxl]; rfl
        obtain ⟨_, hxb⟩ := longOk hlo
        have hx : belB n l x = belOkTo l x l.length := by unfold belB; rw [hg, hlo]; rfl
        have HX := Lib.hid hx
        have HXB := Lib.hid hxb
        have hd5 : decide (x.length ≤ 5) = true := decide_eq_true hx5
        clear hx hxb hxl hlo
        go_wp2_with (go_at_call 162; refine (l8Vector_any x _ _ hu1).mono ?_; rintro e w' ⟨rfl, rfl⟩; rw [hal, hd5])
        go_loopw [5] (fun i wr => ∃ k m : Nat, k ≤ l.length ∧ i = .int .i64 k ∧ belOkTo l x k = true ∧ wr = w1.drewN m) (fun i _ => l.length - (intOf i).toNat)
        case atStart => exact ⟨0, 0, Nat.zero_le _, rfl, rfl, rfl⟩
        case round =>
          obtain ⟨k, m, hk, rfl, hok, rfl⟩ := hrel
          have HO := Lib.hid hok
          clear hok
          by_cases hlt : k < l.length
          · have hlt2 : (k : Int) < (l.length : Int) := by omega
            have hsl : slackOf l x k = l[k] - wt x k := by unfold slackOf; simp [hlt]
            have HS := Lib.hid hsl
            clear hsl
            by_cases hle : wt x k > l[k]
            · go_wp2
              go_quiet ((go_at_call 143; first | exact q_same2 (l3Weigh_any x _ _ _ (hu1.drewN _) (by omega) (by omega) (fun j hj => by have := HXB.out j hj; omega) (by omega)) | exact q_same (l3Weigh_any x _ _ _ (hu1.drewN _) (by omega) (by omega) (fun j hj => by have := HXB.out j hj; omega) (by omega))))
              go_wp2
              go_ret
              refine ⟨ret_bool ?_, (B1.drewN' _).drewN' _⟩
              rw [HX.out, belOk_false l x k (by rw [HS.out]; omega) _ hlt]
            · go_wp2
              go_quiet ((go_at_call 143; first | exact q_same2 (l3Weigh_any x _ _ _ (hu1.drewN _) (by omega) (by omega) (fun j hj => by have := HXB.out j hj; omega) (by omega)) | exact q_same (l3Weigh_any x _ _ _ (hu1.drewN _) (by omega) (by omega) (fun j hj => by have := HXB.out j hj; omega) (by omega))))
              go_wp2
              go_roundw
              case rel => exact ⟨k + 1, m + nq, by omega, by go_num, by rw [belOkTo, HO.out, decide_eq_true (by rw [HS.out]; omega)]; rfl, by simp⟩
              case measure => simp [intOf]; omega
          · have hlt2 : ¬ (k : Int) < (l.length : Int) := by omega
            have hkl : k = l.length := by omega
            have HK := Lib.hid hkl
            clear hkl
            go_wp2
            go_ret
            exact ⟨ret_bool (by rw [HX.out, ← HK.out, HO.out]), B1.drewN' _⟩
    · have hne : ((x.length : Int) != n) = true := by simp [hxl]
      have hx : belB n l x = false := by unfold belB isLongB; rw [hg, decide_eq_false hxl]; rfl
      have HX := Lib.hid hx
      clear hx hxl
      go_wp2
      go_ret
      exact ⟨by rw [HX.out]; rfl, B1⟩
end Go.Proofs.Ytmlpcohailjccaa
