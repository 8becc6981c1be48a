/- New kept blockers. -/
import Derived.Test.YthbkghpgnnpmbaaBlocker
import Derived.Test.YthbkghpgnnpmbaaGather
namespace Go.Proofs.Ythbkghpgnnpmbaa
open Go.RowKit Go.G5

def nkL (g : Int) (l : List Int) : List Int := if isFamB g l then l else []
theorem nkL_len (g : Int) (l : List Int) (h : l.length ≤ 1048576) : (nkL g l).length ≤ 1048576 := by
  unfold nkL; split
  · exact h
  · simp

set_option maxHeartbeats 2000000 in
set_option maxRecDepth 100000 in
theorem newKeptI_c (w : World) (g : Int) (v : Value) (l : List Int) (hv : Ints w v l) (hl : l.length ≤ 1048576) :
    Calls Try.prog 11 #[.agg #[.int .i64 g, v]] w fun e w' => ∃ ad i cp ad' i' cp', e = .returned (.tuple #[.agg #[.int .i64 (blkN g l), .slice ad i cp, .slice ad' i' cp'], .bool (isFamB g l)]) ∧
      OwnW 3 w.heap.size w' (.slice ad i cp) (nkL g l) ∧ OwnW 3 w.heap.size w' (.slice ad' i' cp') (blkL g l) ∧ Apart (.slice ad i cp) (.slice ad' i' cp') ∧ Below w.heap.size w w' := by
  obtain ⟨a, c, rfl⟩ := hv.shape
  go_enter Try.func11, Try.ntmps11
  go_wp2_with fail
  refine calls_named ?_
  intro V hV
  have B : Below w.heap.size w V := by rw [hV]; exact bl2 _ _ _
  have K1 : Blk V w.heap.size 26 #[.int .i64 g, .slice a l.length c] := by rw [hV]; exact (Blk.new _ _ _).alloc _
  have K2 : Blk V (w.heap.size + 1) 28 #[.int .i64 0, .slice none 0 0, .slice none 0 0] := by rw [hV]; have := Blk.new (w.alloc (.cells #[.int .i64 g, .slice a l.length c] 26)) 28 #[.int .i64 0, .slice none 0 0, .slice none 0 0]; simpa using this
  clear hV
  have zV := K2.lt
  refine (blockerI_c _ g _ l (hv.below B (Nat.le_refl _)) hl).mono ?_
  rintro e w1 ⟨p1, i1, q1, rfl, o1, hb1⟩
  have K1 := K1.keep hb1
  have K2 := K2.keep hb1
  have B1 := B.after hb1 B.size
  have hv1 := hv.below B1 (Nat.le_refl _)
  have y0 := B.size
  clear hb1
  cases hf : isFamB g l with
  | false =>
    have hN : blkN g l = 0 := by unfold blkN; rw [hf]; rfl
    have hL : blkL g l = [] := by unfold blkL; rw [hf]; rfl
    have hK : nkL g l = [] := by unfold nkL; rw [hf]; rfl
    have HN := Lib.hid hN
    have HL := Lib.hid hL
    have HK := Lib.hid hK
    have HF := Lib.hid hf
    clear hN hL hK hf o1
    have G2 := K2.cell
    have F2 := K2.frozen
    have z2 := K2.lt
    go_wp2
    refine post_named ?_
    intro Wf hWf
    have K2f : Blk Wf (w.heap.size + 1) 28 #[.int .i64 0, .slice none 0 0, .slice none 0 0] := by
      rw [hWf]
      first
        | (have := (((K2.alloc (.cells #[.int .i64 (blkN g l), .slice p1 i1 q1] 26)).set 0 (.int .i64 0)).set 1 (.slice none 0 0)).set 2 (.slice none 0 0); simpa using this)
        | (have := (((K2.set 0 (.int .i64 0)).set 1 (.slice none 0 0)).set 2 (.slice none 0 0)).alloc (.cells #[.int .i64 (blkN g l), .slice p1 i1 q1] 26); simpa using this)
    have Bf : Below w.heap.size w Wf := by
      rw [hWf]
      first
        | exact Below.setCell (Below.setCell (Below.setCell (B1.alloc B1.size _) (by first | omega | (simp; done) | (simp; omega)) _) (by first | omega | (simp; done) | (simp; omega)) _) (by first | omega | (simp; done) | (simp; omega)) _
        | exact (Below.setCell (Below.setCell (Below.setCell B1 (by first | omega | (simp; done) | (simp; omega)) _) (by first | omega | (simp; done) | (simp; omega)) _) (by first | omega | (simp; done) | (simp; omega)) _).alloc (by have := B1.size; simpa using this) _
    have Gf := K2f.cell
    clear hWf G2 F2
    exact bodyPost_ret (v := .tuple #[.agg #[.int .i64 0, .slice none 0 0, .slice none 0 0], .bool false]) (by simp [results, Try.results11, go_sem, Gf]) rfl ⟨none, 0, 0, none, 0, 0, by rw [HN.out, HF.out], by rw [HK.out]; exact OwnW.nil _ _ _, by rw [HL.out]; exact OwnW.nil _ _ _, by intro k hk; simp [Value.ownBlock] at hk, Bf⟩
  | true =>
    have hasc := (famOk hf).2.2.2
    have hK : nkL g l = gatherL l := by unfold nkL; rw [hf, gatherL_id l hasc]; rfl
    have HK := Lib.hid hK
    have HF := Lib.hid hf
    have zz := K2.lt
    have hne1 : ¬ w.heap.size + 1 = w1.heap.size := by omega
    have hne2 : ¬ w1.heap.size = w.heap.size + 1 := by omega
    have K4 := Blk.new w1 26 #[.int .i64 (blkN g l), .slice p1 i1 q1]
    have K1 := K1.alloc (.cells #[.int .i64 (blkN g l), .slice p1 i1 q1] 26)
    have K2 := K2.alloc (.cells #[.int .i64 (blkN g l), .slice p1 i1 q1] 26)
    have o1 := o1.alloc (.cells #[.int .i64 (blkN g l), .slice p1 i1 q1] 26)
    have B4 := B1.alloc B1.size (.cells #[.int .i64 (blkN g l), .slice p1 i1 q1] 26)
    obtain ⟨W4, hW4⟩ : ∃ W, W = w1.alloc (.cells #[.int .i64 (blkN g l), .slice p1 i1 q1] 26) := ⟨_, rfl⟩
    rw [← hW4] at K4 K1 K2 o1 B4
    have hv4 := hv.below B4 (Nat.le_refl _)
    obtain ⟨N, hN⟩ : ∃ N, N = blkN g l := ⟨_, rfl⟩
    rw [← hN] at K4 hW4
    have HNN := Lib.hid hN
    have z1 := K1.lt
    have z2 := K2.lt
    have z4 := K4.lt
    have y1 := B1.size
    clear hasc hK hf B1 hN
    rw [← HNN.out]
    go_wp2_with fail
    rw [← hW4]
    clear hW4
    have G1 := K1.cell
    have G2 := K2.cell
    have F2 := K2.frozen
    have G4 := K4.cell
    go_region_held3 (fun w' => (∀ i, w'.cell? ⟨w.heap.size, i, none⟩ = (#[.int .i64 g, .slice a l.length c] : Array Value)[i]?) ∧ (∀ i, w'.cell? ⟨w1.heap.size, i, none⟩ = (#[.int .i64 N, .slice p1 i1 q1] : Array Value)[i]?)) (go_keep)
      (first
        | (go_at_call 59; refine (gather_any g _ l _ (hv4.below (B := W4.heap.size) (by repeat (first | exact Below.refl _ _ | (with_reducible refine Below.setCell ?_ (by first | omega | (simp; done) | (simp; omega)) _) | (with_reducible refine Below.alloc ?_ (by first | omega | (simp; done) | (simp; omega)) _) | (with_reducible refine Below.drewN' ?_ _) | (with_reducible refine Below.drew ?_) | (with_reducible assumption) | refine Below.trans ?_ (Below.mono (by assumption) (by first | omega | (simp; done) | (simp; omega))))) (Nat.le_refl _)) hl).mono ?_; rintro e w5 ⟨p5, i5, q5, rfl, o5, hb5⟩; obtain ⟨hc5, hf5⟩ := bcellN hb5 W4.heap.size (by first | omega | (simp; done) | (simp; omega)); have z5 := hb5.size; (try simp at z5)))
    go_wp2
    refine post_named ?_
    intro Wf hWf
    have K2f : Blk Wf (w.heap.size + 1) 28 #[.int .i64 g, .slice p5 i5 q5, .slice p1 i1 q1] := by
      rw [hWf]
      have := ((((K2.drewN 1).keep hb5).set 0 (.int .i64 g)).set 1 (.slice p5 i5 q5)).set 2 (.slice p1 i1 q1)
      simpa using this
    have y4 := B4.size
    have y5 := hb5.size
    have B5 : Below w.heap.size w w5 := (B4.drewN' 1).after hb5 (by simp; omega)
    have y6 := B5.size
    have Bf : Below w.heap.size w Wf := by rw [hWf]; exact Below.setCell (Below.setCell (Below.setCell B5 (by first | omega | (simp; done) | (simp; omega)) _) (by first | omega | (simp; done) | (simp; omega)) _) (by first | omega | (simp; done) | (simp; omega)) _
    have o1w := (o1.toW.drewN 1).keep hb5
    have ap : Apart (.slice p5 i5 q5) (.slice p1 i1 q1) := (Apart.of_lt (o1.toW.drewN 1) o5 (by simp)).symm
    have f5 : OwnW 3 w.heap.size Wf (.slice p5 i5 q5) (gatherL l) := by rw [hWf]; exact (((o5.setBelow (by simp; omega) _).setBelow (by simp; omega) _).setBelow (by simp; omega) _).mono (by simp; omega)
    have f1 : OwnW 3 w.heap.size Wf (.slice p1 i1 q1) (blkL g l) := by rw [hWf]; exact (((o1w.setBelow (by first | omega | (simp; done) | (simp; omega)) _).setBelow (by first | omega | (simp; done) | (simp; omega)) _).setBelow (by first | omega | (simp; done) | (simp; omega)) _).mono (by first | omega | (simp; done) | (simp; omega))
    have Gf := K2f.cell
    clear hWf G1 G2 F2 G4 hc5 hf5
    have hNg : N = g := by rw [HNN.out]; unfold blkN; rw [HF.out]; rfl
    subst hNg
    exact bodyPost_ret (v := .tuple #[.agg #[.int .i64 N, .slice p5 i5 q5, .slice p1 i1 q1], .bool true]) (by simp [results, Try.results11, go_sem, Gf]) rfl ⟨p5, i5, q5, p1, i1, q1, by rw [← HNN.out, HF.out], by rw [HK.out]; exact f5, f1, ap, Bf⟩
end Go.Proofs.Ythbkghpgnnpmbaa
