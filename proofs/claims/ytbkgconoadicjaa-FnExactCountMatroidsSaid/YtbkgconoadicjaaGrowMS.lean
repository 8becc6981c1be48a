/- Ranks of matroids, counted: the second program. -/
import Derived.Test.YtbkgconoadicjaaGrowS
namespace Go.Proofs.Ytbkgconoadicjaa
open Go.RowKit Go.G5

def cntM (n : Int) : Int := if inB n 0 3 then ((matL n).length : Int) else -1
set_option maxHeartbeats 1000000 in
set_option maxRecDepth 100000 in
theorem matS_any (w : World) (n : Int) :
    Calls Try.prog 31 #[.int .i64 n] w fun e w' => ∃ a i c, e = .returned (.tuple #[.slice a i c, .bool (inB n 0 3)]) ∧ OwnR 54 w.heap.size w' (.slice a i c) (matL n).length ∧ Below w.heap.size w w' := by
  have hwi := fun W => l1In_any n 0 3 W
  have o0 := OwnR.lit0 (E := 54) (B := w.heap.size) w (Nat.le_refl _)
  cases h : inB n 0 3 with
  | false =>
    have hm : (matL n).length = 0 := by unfold matL; rw [h]; rfl
    rw [h] at hwi
    have HM := Lib.hid hm
    have HWI := Lib.hid hwi
    clear hm h hwi
    go_enter Try.func31, Try.ntmps31
    go_wp2_with (go_at_call 87; refine (HWI.out _).mono ?_; rintro e w' ⟨rfl, rfl⟩)
    go_ret2
    exact ⟨_, _, _, rfl, by rw [HM.out]; exact o0, bl1 _ _⟩
  | true =>
    obtain ⟨N, rfl⟩ : ∃ N : Nat, n = N := ⟨n.toNat, by have := inB_true.1 h; omega⟩
    have hN : N ≤ 3 := by have := inB_true.1 h; omega
    have hm : (matL (N : Int)).length = (growL N (2 ^ N - 1) [0]).length := by
      unfold matL
      rw [h, if_pos rfl, Int.toNat_natCast]
      have hp : 2 ^ N = (2 ^ N - 1) + 1 := by have := Nat.two_pow_pos N; omega
      rw [hp, growL_first]
      simp
    have hg : ∀ (v : Value) (W : World), Ints W v [0] → _ := fun v W => growS_any N hN (2 ^ N - 1) [0] v W (by have := Nat.two_pow_pos N; simp; omega)
    rw [h] at hwi
    have HM := Lib.hid hm
    have HWI := Lib.hid hwi
    have HG := Lib.hid hg
    have o1 : OwnI 3 w.heap.size (w.alloc (.cells #[.int .i64 0] 3)) (.slice (some ⟨w.heap.size, 0, none⟩) 1 1) [0] := ⟨World.ownsRow_lit w #[.int .i64 0] 1 (Nat.le_refl _) (by decide) rfl, by simp [InR]⟩
    have HO := Lib.hid o1
    clear hm h hwi hg o0 o1
    go_enter Try.func31, Try.ntmps31
    go_wp2_with (first
      | (go_at_call 87; refine (HWI.out _).mono ?_; rintro e w' ⟨rfl, rfl⟩)
      | (go_at_call 88; refine (HG.out _ _ HO.out.ints).mono ?_; rintro e7 w7 ⟨p7, q7, c7, rfl, o7, b7⟩))
    go_ret2
    exact ⟨_, _, _, rfl, by rw [HM.out]; exact o7.mono (by simp), (bl1 _ _).after b7 (by simp)⟩
set_option maxHeartbeats 1000000 in
set_option maxRecDepth 100000 in
theorem cntMS_c (w : World) (n : Int) (_ : InR n) :
    Calls Try.prog 20 #[.int .i64 n] w fun e w' => e = .returned (.int .i64 (cntM n)) ∧ Below w.heap.size w w' := by
  have HM := Lib.hid (matS_any w n)
  cases h : inB n 0 3 with
  | false =>
    have hx : cntM n = -1 := by unfold cntM; rw [h]; rfl
    rw [h] at HM
    have HX := Lib.hid hx
    clear hx h
    go_enter Try.func20, Try.ntmps20
    go_wp2_with (go_at_call 31; refine HM.out.mono ?_; rintro e w1 ⟨a, i, c, rfl, o, hb⟩)
    go_ret
    exact ⟨ret_int HX.out.symm, hb⟩
  | true =>
    have hx : cntM n = ((matL n).length : Int) := by unfold cntM; rw [h]; rfl
    rw [h] at HM
    have HX := Lib.hid hx
    clear hx h
    go_enter Try.func20, Try.ntmps20
    go_wp2_with (go_at_call 31; refine HM.out.mono ?_; rintro e w1 ⟨a, i, c, rfl, o, hb⟩; obtain ⟨a, c, hs⟩ := o.shape; cases hs)
    go_ret
    exact ⟨ret_int HX.out.symm, hb⟩
end Go.Proofs.Ytbkgconoadicjaa
