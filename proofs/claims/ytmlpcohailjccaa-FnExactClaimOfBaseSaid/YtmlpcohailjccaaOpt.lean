/- Vectors. -/
import Derived.Test.YtmlpcohailjccaaFun
import Derived.Test.YtmlpcohailjccaaRank
import Derived.Test.YtmlpcohailjccaaComF
namespace Go.Proofs.Ytmlpcohailjccaa
open Go.RowKit Go.G5

def vecB (x : List Int) : Bool := decide (x.length ≤ 5) && allIn x (-1000) 1000
set_option maxHeartbeats 400000 in
theorem isVector_any (x : List Int) (v : Value) (w : World) (hv : Ints w v x) :
    Calls Try.prog 180 #[v] w fun e w' => e = .returned (.bool (vecB x)) ∧ w = w' := by
  have hv0 := hv
  obtain ⟨a, c, rfl⟩ := hv.shape
  by_cases h5 : x.length ≤ 5
  · have h5i : (x.length : Int) ≤ 5 := by omega
    have hx : vecB x = allIn x (-1000) 1000 := by unfold vecB; rw [decide_eq_true h5, Bool.true_and]
    have HX := Lib.hid hx
    have HAW := Lib.hid (areWithin_any x _ (-1000) 1000 w hv0)
    clear hx
    go_enter Try.func180, Try.ntmps180
    go_wp2_with fail
    refine HAW.out.mono ?_
    rintro e w1 ⟨rfl, rfl⟩
    go_wp2
    go_ret
    exact ⟨ret_bool HX.out.symm, rfl⟩
  · have h5i : ¬ (x.length : Int) ≤ 5 := by omega
    have hx : vecB x = false := by unfold vecB; rw [decide_eq_false h5]; rfl
    have HX := Lib.hid hx
    clear hx
    go_enter Try.func180, Try.ntmps180
    go_wp2
    go_ret
    exact ⟨ret_bool HX.out.symm, rfl⟩
set_option maxHeartbeats 400000 in
theorem l7Vector_any (x : List Int) (v : Value) (w : World) (hv : Ints w v x) :
    Calls Try.prog 179 #[v] w fun e w' => e = .returned (.bool (vecB x)) ∧ w = w' := by
  obtain ⟨a, b, off, c, rfl, hlen, hix, hc, hb⟩ := hv.view Try.prog 22 3 Try.underlying22 intElem
  go_enter Try.func179, Try.ntmps179
  go_wp2_with fail
  go_loop [3] (fun i => ∃ k : Nat, k ≤ x.length ∧ i = .int .i64 k ∧ (x.take k).all (fun y => inB y (-1000) 1000) = true) (fun i => x.length - (intOf i).toNat)
  case atStart => exact ⟨0, Nat.zero_le _, rfl, by simp⟩
  case round =>
    obtain ⟨k, hk, rfl, hall⟩ := hrel
    have H := Lib.hid hall
    clear hall
    by_cases hlt : k < x.length
    · cases hs : inB x[k] (-1000) 1000 with
      | true =>
        go_wp2_with (go_at_call 96; refine (l1In_any _ _ _ _).mono ?_; rintro e w' ⟨rfl, rfl⟩)
        go_round
        case rel => exact ⟨k + 1, by omega, by go_num, by rw [all_take_succ _ _ _ hlt, H.out, hs]; rfl⟩
        case measure => simp [intOf]; omega
      | false =>
        have hx : vecB x = false := by unfold vecB allIn; rw [all_false_at (fun y => inB y (-1000) 1000) _ _ hlt hs]; simp
        have HX := Lib.hid hx
        clear hx
        go_wp2_with (go_at_call 96; refine (l1In_any _ _ _ _).mono ?_; rintro e w' ⟨rfl, rfl⟩)
        go_ret
        exact ⟨ret_bool HX.out.symm, rfl⟩
    · have hal : allIn x (-1000) 1000 = true := by unfold allIn; rw [← all_of_take (fun y => inB y (-1000) 1000) x k (by omega), H.out]
      have hx : vecB x = decide (x.length ≤ 5) := by unfold vecB; rw [hal, Bool.and_true]
      have HX := Lib.hid hx
      clear hx hal
      by_cases h5 : x.length ≤ 5
      · have h5i : (x.length : Int) ≤ 5 := by omega
        have hd := decide_eq_true h5
        have HD := Lib.hid hd
        clear hd
        go_wp2
        go_ret
        exact ⟨ret_bool (by rw [HX.out, HD.out]), rfl⟩
      · have h5i : ¬ (x.length : Int) ≤ 5 := by omega
        have hd := decide_eq_false h5
        have HD := Lib.hid hd
        clear hd
        go_wp2
        go_ret
        exact ⟨ret_bool (by rw [HX.out, HD.out]), rfl⟩

def optB (n : Int) (l x : List Int) : Bool := (isGrB n l && subB n l) && (vecB x && decide ((x.length : Int) = n))
set_option maxHeartbeats 400000 in
theorem isVectorFor_any (n : Int) (v : Value) (l : List Int) (w : World) (hv : Ints w v l) (u : Value) (x : List Int) (hu : Ints w u x) :
    Calls Try.prog 169 #[.agg #[.int .i64 n, v], u] w fun e w' => e = .returned (.bool (vecB x && decide ((x.length : Int) = n))) ∧ Below w.heap.size w w' := by
  obtain ⟨a, c, rfl⟩ := hv.shape
  obtain ⟨V, hV⟩ : ∃ V, V = w.alloc (.cells #[.int .i64 n, .slice a l.length c] 26) := ⟨_, rfl⟩
  have B : Below w.heap.size w V := by rw [hV]; exact bl1 _ _
  have K : Blk V w.heap.size 26 #[.int .i64 n, .slice a l.length c] := by rw [hV]; exact Blk.new _ _ _
  have HV := Lib.hid (isVector_any x u V (hu.below B (Nat.le_refl _)))
  obtain ⟨b, d, rfl⟩ := hu.shape
  have G := K.cell
  cases h : vecB x with
  | false =>
    rw [h] at HV
    go_enter Try.func169, Try.ntmps169
    go_wp2_with fail
    rw [← hV]
    clear hV
    refine HV.out.mono ?_
    rintro e w1 ⟨rfl, rfl⟩
    go_wp2
    go_ret
    exact ⟨ret_bool (by simp), B⟩
  | true =>
    rw [h] at HV
    go_enter Try.func169, Try.ntmps169
    go_wp2_with fail
    rw [← hV]
    clear hV
    refine HV.out.mono ?_
    rintro e w1 ⟨rfl, rfl⟩
    go_wp2
    go_ret
    exact ⟨ret_bool (by rw [Bool.true_and]; exact beq_dec _ _), B⟩

set_option maxHeartbeats 1000000 in
theorem canOptI_any (w : World) (n : Int) (v : Value) (l : List Int) (hv : Ints w v l) (hl : l.length ≤ 1048576) (u : Value) (x : List Int) (hu : Ints w u x) :
    Calls Try.prog 149 #[.agg #[.int .i64 n, v], u] w fun e w' => e = .returned (.bool (optB n l x)) ∧ Below w.heap.size w w' := by
  obtain ⟨a, c, rfl⟩ := hv.shape
  obtain ⟨b, d, rfl⟩ := hu.shape
  obtain ⟨V, hV⟩ : ∃ V, V = w.alloc (.cells #[.int .i64 n, .slice a l.length c] 26) := ⟨_, rfl⟩
  have B : Below w.heap.size w V := by rw [hV]; exact bl1 _ _
  have K : Blk V w.heap.size 26 #[.int .i64 n, .slice a l.length c] := by rw [hV]; exact Blk.new _ _ _
  go_enter Try.func149, Try.ntmps149
  go_wp2_with fail
  rw [← hV]
  clear hV
  refine (isGrI_any n l _ V (hv.below B (Nat.le_refl _))).mono ?_
  rintro e w1 ⟨rfl, b1⟩
  have K := K.keep b1
  have B := B.after b1 B.size
  have G := K.cell
  have z := K.lt
  cases hg : isGrB n l with
  | false =>
    have hx : optB n l x = false := by unfold optB; rw [hg]; rfl
    have HX := Lib.hid hx
    clear hx hg
    go_wp2
    go_ret
    exact ⟨ret_bool HX.out.symm, B⟩
  | true =>
  have HG := Lib.hid hg
  clear hg
  go_wp2_with fail
  clear G z
  refine (isSubI_any n l _ w1 (hv.below B (Nat.le_refl _)) hl).mono ?_
  rintro e w2 ⟨rfl, b2⟩
  have K := K.keep b2
  have B := B.after b2 B.size
  have G := K.cell
  have z := K.lt
  cases hs : subB n l with
  | false =>
    have hx : optB n l x = false := by unfold optB; rw [hs]; simp
    have HX := Lib.hid hx
    clear hx hs
    go_wp2
    go_ret
    exact ⟨ret_bool HX.out.symm, B⟩
  | true =>
  have hx : optB n l x = (vecB x && decide ((x.length : Int) = n)) := by unfold optB; rw [HG.out, hs]; rfl
  have HX := Lib.hid hx
  clear hx hs
  go_wp2_with fail
  clear z
  refine (isVectorFor_any n _ l w2 (hv.below B (Nat.le_refl _)) _ x (hu.below B (Nat.le_refl _))).mono ?_
  rintro e w3 ⟨rfl, b3⟩
  go_wp2
  go_ret
  exact ⟨ret_bool HX.out.symm, B.after b3 B.size⟩
set_option maxHeartbeats 1000000 in
theorem l9Fit_any (w : World) (n : Int) (v : Value) (l : List Int) (hv : Ints w v l) (hl : l.length ≤ 1048576) (u : Value) (x : List Int) (hu : Ints w u x) :
    Calls Try.prog 167 #[.agg #[.int .i64 n, v], u] w fun e w' => e = .returned (.bool (optB n l x)) ∧ Below w.heap.size w w' := by
  obtain ⟨a, c, rfl⟩ := hv.shape
  obtain ⟨b, d, rfl⟩ := hu.shape
  obtain ⟨V, hV⟩ : ∃ V, V = w.alloc (.cells #[.int .i64 n, .slice a l.length c] 26) := ⟨_, rfl⟩
  have B : Below w.heap.size w V := by rw [hV]; exact bl1 _ _
  have K : Blk V w.heap.size 26 #[.int .i64 n, .slice a l.length c] := by rw [hV]; exact Blk.new _ _ _
  go_enter Try.func167, Try.ntmps167
  go_wp2_with fail
  rw [← hV]
  clear hV
  refine (isGrS_any n l _ V (hv.below B (Nat.le_refl _))).mono ?_
  rintro e w1 ⟨rfl, b1⟩
  have K := K.keep b1
  have B := B.after b1 B.size
  have G := K.cell
  have z := K.lt
  cases hg : isGrB n l with
  | false =>
    have hx : optB n l x = false := by unfold optB; rw [hg]; rfl
    have HX := Lib.hid hx
    clear hx hg
    go_wp2
    go_ret
    exact ⟨ret_bool HX.out.symm, B⟩
  | true =>
  have HG := Lib.hid hg
  clear hg
  go_wp2_with fail
  clear G z
  refine (isSubS_any n l _ w1 (hv.below B (Nat.le_refl _)) hl).mono ?_
  rintro e w2 ⟨rfl, b2⟩
  have K := K.keep b2
  have B := B.after b2 B.size
  have G := K.cell
  have z := K.lt
  cases hs : subB n l with
  | false =>
    have hx : optB n l x = false := by unfold optB; rw [hs]; simp
    have HX := Lib.hid hx
    clear hx hs
    go_wp2
    go_ret
    exact ⟨ret_bool HX.out.symm, B⟩
  | true =>
  have hx : optB n l x = (vecB x && decide ((x.length : Int) = n)) := by unfold optB; rw [HG.out, hs]; rfl
  have HX := Lib.hid hx
  clear hx hs
  go_wp2_with fail
  clear z
  refine (l7Vector_any x _ w2 (hu.below B (Nat.le_refl _))).mono ?_
  rintro e w3 ⟨rfl, rfl⟩
  cases hvx : vecB x with
  | false =>
    have HV := Lib.hid hvx
    clear hvx
    go_wp2
    go_ret
    exact ⟨ret_bool (by rw [HX.out, HV.out]; rfl), B⟩
  | true =>
    have HV := Lib.hid hvx
    clear hvx
    go_wp2
    go_ret
    exact ⟨ret_bool (by rw [HX.out, HV.out, Bool.true_and]; exact beq_dec _ _), B⟩
end Go.Proofs.Ytmlpcohailjccaa
