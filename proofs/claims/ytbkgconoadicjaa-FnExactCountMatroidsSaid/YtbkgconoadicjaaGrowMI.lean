/- Ranks of matroids, counted: the first program. -/
import Derived.Test.YtbkgconoadicjaaGrowJ
import Derived.Test.YtbkgconoadicjaaGrowMS
namespace Go.Proofs.Ytbkgconoadicjaa
open Go.RowKit Go.G5

set_option maxHeartbeats 1000000 in
set_option maxRecDepth 100000 in
theorem matI_any (w : World) (n : Int) :
    Calls Try.prog 32 #[.int .i64 n] w fun e w' => ∃ a i c, e = .returned (.tuple #[.slice a i c, .bool (inB n 0 3)]) ∧ OwnR 54 0 w' (.slice a i c) (matL n).length ∧ Below w.heap.size w w' := by
  have hwi := fun W => within_any n 0 3 W
  have o0 := OwnR.nil 54 0 w
  cases h : inB n 0 3 with
  | false =>
    have hm : (matL n).length = 0 := by unfold matL; rw [h]; rfl
    rw [h] at hwi
    have HM := Lib.hid hm
    have HWI := Lib.hid hwi
    clear hm h hwi
    go_enter Try.func32, Try.ntmps32
    go_wp2_with (go_at_call 89; refine (HWI.out _).mono ?_; rintro e w' ⟨rfl, rfl⟩)
    go_ret2
    exact ⟨_, _, _, rfl, by rw [HM.out]; exact o0, Below.refl _ _⟩
  | true =>
    obtain ⟨N, rfl⟩ : ∃ N : Nat, n = N := ⟨n.toNat, by have := inB_true.1 h; omega⟩
    have hN : N ≤ 3 := by have := inB_true.1 h; omega
    have hm : (matL (N : Int)).length = (growL N (2 ^ N) []).length := by
      unfold matL
      rw [h, if_pos rfl, Int.toNat_natCast]
    have h4 : (4 : Nat) ^ 2 ^ N ≤ 4 ^ 8 := Nat.pow_le_pow_right (by decide) (by have : (2 : Nat) ^ N ≤ 2 ^ 3 := Nat.pow_le_pow_right (by decide) hN; omega)
    have K : Blk (w.alloc (.cells #[.slice none 0 0] 46)) w.heap.size 46 #[.slice none 0 0] := Blk.new _ _ _
    have hg := addRanks_any N hN (2 ^ N) [] (.slice none 0 0) (w.alloc (.cells #[.slice none 0 0] 46)) (by simp) (OwnW.nil _ _ _) w.heap.size none 0 0 K (OwnR.nil _ _ _) (by omega) (by simp [Value.ownBlock]) (fun q hq => by simp [Value.ownBlock] at hq)
    rw [h] at hwi
    have HM := Lib.hid hm
    have HWI := Lib.hid hwi
    have HG := Lib.hid hg
    clear hm h hwi hg o0 K h4
    go_enter Try.func32, Try.ntmps32
    go_wp2_with (first
      | (go_at_call 89; refine (HWI.out _).mono ?_; rintro e w' ⟨rfl, rfl⟩)
      | (go_at_call 90; refine HG.out.mono ?_; rintro e7 w7 ⟨rfl, R7⟩; obtain ⟨a7, c7, K7, o7, g7, n7⟩ := R7; rw [Nat.zero_add] at K7 o7; have G7 := K7.cell 0; have F7 := K7.frozen 0))
    go_ret2
    exact ⟨a7, _, c7, rfl, by rw [HM.out]; exact o7, Go.G5.Below.growIn (bl1 _ _) g7 (by simp) (fun b hb => by rcases hb with rfl | hb <;> simp [Value.ownBlock] at *)⟩
set_option maxHeartbeats 1000000 in
set_option maxRecDepth 100000 in
theorem cntMI_c (w : World) (n : Int) (_ : InR n) :
    Calls Try.prog 21 #[.int .i64 n] w fun e w' => e = .returned (.int .i64 (cntM n)) ∧ Below w.heap.size w w' := by
  have HM := Lib.hid (matI_any w n)
  cases h : inB n 0 3 with
  | false =>
    have hx : cntM n = -1 := by unfold cntM; rw [h]; rfl
    rw [h] at HM
    have HX := Lib.hid hx
    clear hx h
    go_enter Try.func21, Try.ntmps21
    go_wp2_with (go_at_call 32; refine HM.out.mono ?_; rintro e w1 ⟨a, i, c, rfl, o, hb⟩)
    go_ret
    exact ⟨ret_int HX.out.symm, hb⟩
  | true =>
    have hx : cntM n = ((matL n).length : Int) := by unfold cntM; rw [h]; rfl
    rw [h] at HM
    have HX := Lib.hid hx
    clear hx h
    go_enter Try.func21, Try.ntmps21
    go_wp2_with (go_at_call 32; refine HM.out.mono ?_; rintro e w1 ⟨a, i, c, rfl, o, hb⟩; obtain ⟨a, c, hs⟩ := o.shape; cases hs)
    go_ret
    exact ⟨ret_int HX.out.symm, hb⟩
end Go.Proofs.Ytbkgconoadicjaa
