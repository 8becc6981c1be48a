/- Claims of cuts. -/
import Derived.Test.YtmfenalnmpndmaaCutS
import Derived.Test.YtmfenalnmpndmaaApp
import Derived.Test.YtmfenalnmpndmaaOwnW
import Derived.Test.YtmfenalnmpndmaaMarkK
import Derived.Test.YtmfenalnmpndmaaCutM
namespace Go.Proofs.Ytmfenalnmpndmaa
open Go.RowKit Go.G5

def ccK (n : Int) (l : List Int) : Int := if fitB n l then 5 else 0
def ccN (n : Int) (l : List Int) : Int := if fitB n l then n else 0
def ccL (n : Int) (l : List Int) : List Int := if fitB n l then l else []
theorem ccL_len (n : Int) (l : List Int) (h : l.length ≤ 1048576) : (ccL n l).length ≤ 1048576 := by unfold ccL; split <;> simp_all

set_option maxHeartbeats 1000000 in
set_option maxRecDepth 100000 in
theorem copyFun_any (w : World) (n : Int) (v : Value) (l : List Int) (hv : Ints w v l) (hl : l.length ≤ 1048576) :
    Calls Try.prog 120 #[.agg #[.int .i64 n, v]] w fun e w' => ∃ ad i cp, e = .returned (.agg #[.int .i64 n, .slice ad i cp]) ∧ OwnI 3 w.heap.size w' (.slice ad i cp) l ∧ Below w.heap.size w w' := by
  obtain ⟨a, c, rfl⟩ := hv.shape
  have hll : ([] : List Int).length + l.length ≤ 17592186044416 := by simp; omega
  have HLL := Lib.hid hll
  clear hll
  go_enter Try.func120, Try.ntmps120
  go_wp2_with fail
  obtain ⟨V, hV⟩ : ∃ V, V = (w.alloc (.cells #[.int .i64 n, .slice a l.length c] 26)).alloc (.cells #[.int .i64 0, .slice none 0 0] 26) := ⟨_, rfl⟩
  rw [← hV]
  have B : Below w.heap.size w V := by rw [hV]; exact bl2 _ _ _
  have K1 : Blk V w.heap.size 26 #[.int .i64 n, .slice a l.length c] := by rw [hV]; exact (Blk.new _ _ _).alloc _
  have K2 : Blk V (w.heap.size + 1) 26 #[.int .i64 0, .slice none 0 0] := by rw [hV]; have := Blk.new (w.alloc (.cells #[.int .i64 n, .slice a l.length c] 26)) 26 #[.int .i64 0, .slice none 0 0]; simpa using this
  clear hV
  have hv1 := hv.below B (Nat.le_refl _)
  have e1 : V.cell? ⟨w.heap.size, 0, none⟩ = some (.int .i64 n) := K1.cell 0
  have e2 : V.cell? ⟨w.heap.size, 1, none⟩ = some (.slice a l.length c) := K1.cell 1
  have z2 := K2.lt
  have z1 := K1.lt
  go_region_held3 (fun w' => w'.cell? ⟨w.heap.size, 0, none⟩ = some (.int .i64 n) ∧ w'.cell? ⟨w.heap.size, 1, none⟩ = some (.slice a l.length c)) (go_keep)
    (first
      | (go_at_call 111; refine (clone_any _ l _ ?_ hl).mono ?_; (with_reducible exact hv1.drew'); rintro e1' w7 ⟨p7, i7, q7, rfl, o7', b7⟩; have o7 : OwnI 3 V.heap.size w7 (.slice p7 i7 q7) l := o7'; have K7 := (K2.drewN 1).keep b7; have G2 := K7.cell; have F2 := K7.frozen; have z7 := K7.lt; obtain ⟨hc1, hf1⟩ := bcellN b7 V.heap.size (Nat.le_refl _)))
  go_wp2
  refine post_named ?_
  intro Wf hWf
  have K2f : Blk Wf (w.heap.size + 1) 26 #[.int .i64 n, .slice p7 i7 q7] := by
    rw [hWf]
    have := (K7.set 0 (.int .i64 n)).set 1 (.slice p7 i7 q7)
    simpa using this
  have hg : w7.grownBy Wf (some (w.heap.size + 1)) := by rw [hWf]; exact grow_set (grow_set (World.grownBy.refl _ _) 0 _) 1 _
  have B7 : Below w.heap.size w w7 := by first | exact B.after b7 B.size | exact (B.drewN' 1).after b7 B.size
  have y7 := B7.size
  have yB := B.size
  have Bf : Below w.heap.size w Wf := B7.grown hg B7.size (fun q hq => by have := Option.some.inj hq; omega)
  have of := (o7.grow hg (fun q hq hq2 => by have := Option.some.inj hq; have := (o7.lt q hq2).1; omega)).mono (B' := w.heap.size) (by omega)
  have Gf := K2f.cell
  clear hWf
  exact bodyPost_ret (v := .agg #[.int .i64 n, .slice p7 i7 q7]) (by simp [results, Try.results120, go_sem, Gf]) rfl ⟨p7, i7, q7, rfl, of, Bf⟩
end Go.Proofs.Ytmfenalnmpndmaa
