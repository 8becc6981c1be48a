/- Families of given sets. -/
import Derived.Test.YthbkghpgnnpmbaaSort
namespace Go.Proofs.Ythbkghpgnnpmbaa
open Go.RowKit Go.G5

set_option maxHeartbeats 1000000 in
set_option maxRecDepth 100000 in
theorem gather_any (n : Int) (v : Value) (l : List Int) (w : World) (hv : Ints w v l) (hl : l.length ≤ 1048576) :
    Calls Try.prog 59 #[.int .i64 n, v] w fun e w' => ∃ ad i c, e = .returned (.agg #[.int .i64 n, .slice ad i c]) ∧ OwnW 3 w.heap.size w' (.slice ad i c) (gatherL l) ∧ Below w.heap.size w w' := by
  obtain ⟨a, c, rfl⟩ := hv.shape
  have hml : (l.mergeSort fun x y => decide (x ≤ y)).length ≤ 1048576 := by rw [List.length_mergeSort]; exact hl
  have hgl := gatherL_len l
  go_enter Try.func59, Try.ntmps59
  go_wp2_with fail
  refine (clone_any _ l _ (hv.alloc _) hl).mono ?_
  rintro e w1 ⟨p1, i1, q1, rfl, o1, hb1⟩
  have K0 := Blk.new w 26 #[.int .i64 0, .slice none 0 0]
  have K1 := K0.keep hb1
  have B1 : Below w.heap.size w w1 := (bl1 _ _).after hb1 (by simp)
  have o1' := o1.mono (B' := w.heap.size + 1) (by simp)
  have r1 := o1'.lt
  clear K0 o1 hb1
  go_wp2_with fail
  refine (sort_any _ _ l _ o1' hl).mono ?_
  rintro e w2 ⟨rfl, o2, hg2⟩
  have K2 := K1.grow hg2 (by intro hk; have := (r1 _ hk).1; omega)
  have B2 := B1.grown hg2 B1.size (fun k hk => by have := (r1 k hk).1; omega)
  clear hg2 K1 o1'
  go_wp2_with fail
  refine (compact_any _ _ _ _ o2 hml).mono ?_
  rintro e w3 ⟨p3, i3, q3, rfl, o3, hg3⟩
  have K3 := K2.grow hg3 (by intro hk; have := (r1 _ hk).1; omega)
  have B3 := B2.grown hg3 B2.size (fun k hk => by have := (r1 k hk).1; omega)
  clear hg3 K2 o2
  go_wp2_with fail
  refine (clip_any _ _ _ _ o3 (by have e : Lib.compact (l.mergeSort fun x y => decide (x ≤ y)) = gatherL l := rfl; rw [e]; omega)).mono ?_
  rintro e w4 ⟨p4, i4, q4, rfl, o4, rfl⟩
  have G3 := K3.cell
  have F3 := K3.frozen
  have z3 := K3.lt
  go_wp2
  refine post_named ?_
  intro Wf hWf
  have Kf : Blk Wf w.heap.size 26 #[.int .i64 n, .slice p4 i4 q4] := by
    rw [hWf]
    have := (K3.set 0 (.int .i64 n)).set 1 (.slice p4 i4 q4)
    simpa using this
  have Bf : Below w.heap.size w Wf := by rw [hWf]; exact Below.setCell (Below.setCell B3 (by first | omega | (simp; done) | (simp; omega)) _) (by first | omega | (simp; done) | (simp; omega)) _
  have of : OwnW 3 w.heap.size Wf (.slice p4 i4 q4) (gatherL l) := by rw [hWf]; exact ((o4.setBelow (by first | omega | (simp; done) | (simp; omega)) _).setBelow (by first | omega | (simp; done) | (simp; omega)) _).mono (by first | omega | (simp; done) | (simp; omega))
  have Gf := Kf.cell
  clear hWf G3 F3
  exact bodyPost_ret (v := .agg #[.int .i64 n, .slice p4 i4 q4]) (by simp [results, Try.results59, go_sem, Gf]) rfl ⟨_, _, _, rfl, of, Bf⟩
end Go.Proofs.Ythbkghpgnnpmbaa
