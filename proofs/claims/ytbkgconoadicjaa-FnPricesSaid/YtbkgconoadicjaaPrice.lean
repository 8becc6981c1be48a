/- Covers, prices and sizes of families. -/
import Derived.Test.YtbkgconoadicjaaFam
namespace Go.Proofs.Ytbkgconoadicjaa
open Go.RowKit Go.G5

theorem max_if (m x : Int) : (if m < x then x else m) = max m x := by
  by_cases h : m < x
  · rw [if_pos h]; omega
  · rw [if_neg h]; omega

set_option maxHeartbeats 400000 in
theorem largestI_c (w : World) (g : Int) (v : Value) (l : List Int) (hv : Ints w v l) (_ : l.length ≤ 1048576) :
    Calls Try.prog 61 #[.agg #[.int .i64 g, v]] w fun e w' => e = .returned (.int .i64 (largestOf g l)) ∧ Below w.heap.size w w' := by
  obtain ⟨a, b, off, c, rfl, hlen, hix, hc, hb⟩ := hv.view Try.prog 22 3 Try.underlying22 intElem
  go_enter Try.func61, Try.ntmps61
  go_wp2_with fail
  refine (isFamI_any g l _ _ (hv.alloc _)).mono ?_
  rintro e w1 ⟨rfl, hb1⟩
  have d0 := keep hb1 (cell_new w #[.int .i64 g, .slice a l.length c] 29 0 _ rfl)
  have d1 := keep hb1 (cell_new w #[.int .i64 g, .slice a l.length c] 29 1 _ rfl)
  have B1 : Below w.heap.size w w1 := (bl1 _ _).after hb1 (by first | omega | (simp; done) | (simp; omega))
  have hc1 := cells_below hc hb B1 (Nat.le_refl _)
  clear hc hb hb1
  cases hf : isFamB g l with
  | false =>
    have hx : largestOf g l = -1 := by unfold largestOf; rw [hf]; rfl
    have HX := Lib.hid hx
    clear hx
    go_wp2
    go_ret
    exact ⟨ret_int HX.out.symm, B1⟩
  | true =>
    obtain ⟨hg0, hg6, hbd⟩ := famOk64 hf
    have hx : largestOf g l = l.foldl bigF 0 := by unfold largestOf; rw [hf]; rfl
    have HX := Lib.hid hx
    have HB := Lib.hid hbd
    clear hx hbd
    go_wp2_with fail
    go_loopw [3, 12] (fun m i wr => ∃ k : Nat, k ≤ l.length ∧ i = .int .i64 k ∧ m = .int .i64 ((l.take k).foldl bigF 0) ∧ wr = w1) (fun _ i _ => l.length - (intOf i).toNat)
    case atStart => exact ⟨0, Nat.zero_le _, rfl, rfl, rfl⟩
    case round =>
      obtain ⟨k, hk, rfl, rfl, rfl⟩ := hrel
      have hm := bigF_bd (l.take k) (fun s hs => by
        obtain ⟨j, hj, rfl⟩ := List.getElem_of_mem hs
        have := HB.out j (by simp at hj; omega)
        simp only [List.getElem_take]; omega) 0 (by omega) (by omega)
      obtain ⟨m, hme⟩ : ∃ m, m = (l.take k).foldl bigF 0 := ⟨_, rfl⟩
      rw [← hme] at hm ⊢
      have HM := Lib.hid hme
      clear hme
      by_cases hlt : k < l.length
      · have hlb := HB.out k hlt
        have hp := ipop_bd l[k] (by omega)
        go_wp2_with (go_at_call 86; refine (sizeOf_i _ _ (by omega) (by omega)).mono ?_; rintro e w' ⟨rfl, rfl⟩)
        go_roundw
        case rel => exact ⟨k + 1, by omega, by go_num, by rw [fold_take _ _ _ _ hlt, ← HM.out, max_if m (ipop l[k])]; rfl, trivial⟩
        case measure => simp [intOf]; omega
      · go_wp2
        go_ret
        exact ⟨ret_int (by rw [HX.out, HM.out, fold_all _ _ _ _ (by omega)]), B1⟩
set_option maxHeartbeats 400000 in
theorem largestS_c (w : World) (g : Int) (v : Value) (l : List Int) (hv : Ints w v l) (_ : l.length ≤ 1048576) :
    Calls Try.prog 63 #[.agg #[.int .i64 g, v]] w fun e w' => e = .returned (.int .i64 (largestOf g l)) ∧ Below w.heap.size w w' := by
  obtain ⟨a, b, off, c, rfl, hlen, hix, hc, hb⟩ := hv.view Try.prog 22 3 Try.underlying22 intElem
  go_enter Try.func63, Try.ntmps63
  go_wp2_with fail
  refine (isFamS_any g l _ _ (hv.alloc _)).mono ?_
  rintro e w1 ⟨rfl, hb1⟩
  have d0 := keep hb1 (cell_new w #[.int .i64 g, .slice a l.length c] 29 0 _ rfl)
  have d1 := keep hb1 (cell_new w #[.int .i64 g, .slice a l.length c] 29 1 _ rfl)
  have B1 : Below w.heap.size w w1 := (bl1 _ _).after hb1 (by first | omega | (simp; done) | (simp; omega))
  have hc1 := cells_below hc hb B1 (Nat.le_refl _)
  clear hc hb hb1
  cases hf : isFamB g l with
  | false =>
    have hx : largestOf g l = -1 := by unfold largestOf; rw [hf]; rfl
    have HX := Lib.hid hx
    clear hx
    go_wp2
    go_ret
    exact ⟨ret_int HX.out.symm, B1⟩
  | true =>
    obtain ⟨hg0, hg6, hbd⟩ := famOk64 hf
    have hx : largestOf g l = l.foldl bigF 0 := by unfold largestOf; rw [hf]; rfl
    have HX := Lib.hid hx
    have HB := Lib.hid hbd
    clear hx hbd
    go_wp2_with fail
    go_loopw [3, 4] (fun m i wr => ∃ k : Nat, k ≤ l.length ∧ i = .int .i64 k ∧ m = .int .i64 ((l.take k).foldl bigF 0) ∧ wr = w1) (fun _ i _ => l.length - (intOf i).toNat)
    case atStart => exact ⟨0, Nat.zero_le _, rfl, rfl, rfl⟩
    case round =>
      obtain ⟨k, hk, rfl, rfl, rfl⟩ := hrel
      have hm := bigF_bd (l.take k) (fun s hs => by
        obtain ⟨j, hj, rfl⟩ := List.getElem_of_mem hs
        have := HB.out j (by simp at hj; omega)
        simp only [List.getElem_take]; omega) 0 (by omega) (by omega)
      obtain ⟨m, hme⟩ : ∃ m, m = (l.take k).foldl bigF 0 := ⟨_, rfl⟩
      rw [← hme] at hm ⊢
      have HM := Lib.hid hme
      clear hme
      by_cases hlt : k < l.length
      · have hlb := HB.out k hlt
        have hp := ipop_bd l[k] (by omega)
        go_wp2_with (go_at_call 116; refine (l2Size_i _ _ (by omega) (by omega)).mono ?_; rintro e w' ⟨rfl, rfl⟩)
        go_roundw
        case rel => exact ⟨k + 1, by omega, by go_num, by rw [fold_take _ _ _ _ hlt, ← HM.out, max_if m (ipop l[k])]; rfl, trivial⟩
        case measure => simp [intOf]; omega
      · go_wp2
        go_ret
        exact ⟨ret_int (by rw [HX.out, HM.out, fold_all _ _ _ _ (by omega)]), B1⟩
end Go.Proofs.Ytbkgconoadicjaa
