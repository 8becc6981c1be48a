/- Kept blockers: which are right. -/
import Derived.Test.YthbkghpgnnpmbaaBlocker
namespace Go.Proofs.Ythbkghpgnnpmbaa
open Go.RowKit Go.G5

def keptB (g : Int) (l m : List Int) : Bool := isFamB g l && decide (blkL g l = m)

set_option maxHeartbeats 1000000 in
set_option maxRecDepth 100000 in
theorem isKeptI_c (w : World) (g : Int) (v : Value) (l : List Int) (hv : Ints w v l) (hl : l.length ≤ 1048576) (u : Value) (m : List Int) (hu : Ints w u m) (_ : m.length ≤ 1048576) :
    Calls Try.prog 13 #[.agg #[.int .i64 g, v, u]] w fun e w' => e = .returned (.bool (keptB g l m)) ∧ Below w.heap.size w w' := by
  obtain ⟨a, c, rfl⟩ := hv.shape
  obtain ⟨a', c', rfl⟩ := hu.shape
  go_enter Try.func13, Try.ntmps13
  go_wp2_with fail
  refine calls_named ?_
  intro V hV
  have B : Below w.heap.size w V := by rw [hV]; exact bl1 _ _
  have K : Blk V w.heap.size 28 #[.int .i64 g, .slice a l.length c, .slice a' m.length c'] := by rw [hV]; exact Blk.new _ _ _
  clear hV
  refine (blockerI_c _ g _ l (hv.below B (Nat.le_refl _)) hl).mono ?_
  rintro e w1 ⟨p, i, q, rfl, o, hb⟩
  have B1 := B.after hb B.size
  have K1 := K.keep hb
  have G1 := K1.cell
  have z1 := K1.lt
  have hu1 := hu.below B1 (Nat.le_refl _)
  clear B K hb
  cases hf : isFamB g l with
  | false =>
    have hx : keptB g l m = false := by unfold keptB; rw [hf]; rfl
    have HX := Lib.hid hx
    clear hx hf
    go_wp2
    go_ret
    exact ⟨by rw [HX.out]; rfl, (by repeat (first | exact Below.refl _ _ | (with_reducible refine Below.setCell ?_ (by first | omega | (simp; done) | (simp; omega)) _) | (with_reducible refine Below.alloc ?_ (by first | omega | (simp; done) | (simp; omega)) _) | (with_reducible refine Below.drewN' ?_ _) | (with_reducible refine Below.drew ?_) | (with_reducible assumption) | refine Below.trans ?_ (Below.mono (by assumption) (by first | omega | (simp; done) | (simp; omega)))))⟩
  | true =>
    have hx : keptB g l m = decide (blkL g l = m) := by unfold keptB; rw [hf]; rfl
    have HX := Lib.hid hx
    clear hx hf
    go_wp2_with (go_at_call 72; refine (slicesEqual_any _ _ (blkL g l) m _ ((o.alloc _).ints) (hu1.alloc _)).mono ?_; rintro e w2 ⟨rfl, nn, rfl⟩)
    go_ret
    exact ⟨by rw [HX.out]; rfl, (by repeat (first | exact Below.refl _ _ | (with_reducible refine Below.setCell ?_ (by first | omega | (simp; done) | (simp; omega)) _) | (with_reducible refine Below.alloc ?_ (by first | omega | (simp; done) | (simp; omega)) _) | (with_reducible refine Below.drewN' ?_ _) | (with_reducible refine Below.drew ?_) | (with_reducible assumption) | refine Below.trans ?_ (Below.mono (by assumption) (by first | omega | (simp; done) | (simp; omega)))))⟩
set_option maxHeartbeats 1000000 in
set_option maxRecDepth 100000 in
theorem isKeptS_c (w : World) (g : Int) (v : Value) (l : List Int) (hv : Ints w v l) (hl : l.length ≤ 1048576) (u : Value) (m : List Int) (hu : Ints w u m) (_ : m.length ≤ 1048576) :
    Calls Try.prog 20 #[.agg #[.int .i64 g, v, u]] w fun e w' => e = .returned (.bool (keptB g l m)) ∧ Below w.heap.size w w' := by
  obtain ⟨a, c, rfl⟩ := hv.shape
  obtain ⟨a', c', rfl⟩ := hu.shape
  go_enter Try.func20, Try.ntmps20
  go_wp2_with fail
  refine calls_named ?_
  intro V hV
  have B : Below w.heap.size w V := by rw [hV]; exact bl1 _ _
  have K : Blk V w.heap.size 28 #[.int .i64 g, .slice a l.length c, .slice a' m.length c'] := by rw [hV]; exact Blk.new _ _ _
  clear hV
  refine (blockerS_c _ g _ l (hv.below B (Nat.le_refl _)) hl).mono ?_
  rintro e w1 ⟨p, i, q, rfl, o, hb⟩
  have B1 := B.after hb B.size
  have K1 := K.keep hb
  have G1 := K1.cell
  have z1 := K1.lt
  have hu1 := hu.below B1 (Nat.le_refl _)
  clear B K hb
  cases hf : isFamB g l with
  | false =>
    have hx : keptB g l m = false := by unfold keptB; rw [hf]; rfl
    have HX := Lib.hid hx
    clear hx hf
    go_wp2
    go_ret
    exact ⟨by rw [HX.out]; rfl, (by repeat (first | exact Below.refl _ _ | (with_reducible refine Below.setCell ?_ (by first | omega | (simp; done) | (simp; omega)) _) | (with_reducible refine Below.alloc ?_ (by first | omega | (simp; done) | (simp; omega)) _) | (with_reducible refine Below.drewN' ?_ _) | (with_reducible refine Below.drew ?_) | (with_reducible assumption) | refine Below.trans ?_ (Below.mono (by assumption) (by first | omega | (simp; done) | (simp; omega)))))⟩
  | true =>
    have hx : keptB g l m = decide (blkL g l = m) := by unfold keptB; rw [hf]; rfl
    have HX := Lib.hid hx
    clear hx hf
    go_wp2_with (go_at_call 68; refine (l2Same_any _ _ (blkL g l) m _ ((o.alloc _).ints) (hu1.alloc _)).mono ?_; rintro e w2 ⟨rfl, nn, rfl⟩)
    go_ret
    exact ⟨by rw [HX.out]; rfl, (by repeat (first | exact Below.refl _ _ | (with_reducible refine Below.setCell ?_ (by first | omega | (simp; done) | (simp; omega)) _) | (with_reducible refine Below.alloc ?_ (by first | omega | (simp; done) | (simp; omega)) _) | (with_reducible refine Below.drewN' ?_ _) | (with_reducible refine Below.drew ?_) | (with_reducible assumption) | refine Below.trans ?_ (Below.mono (by assumption) (by first | omega | (simp; done) | (simp; omega)))))⟩
end Go.Proofs.Ythbkghpgnnpmbaa
