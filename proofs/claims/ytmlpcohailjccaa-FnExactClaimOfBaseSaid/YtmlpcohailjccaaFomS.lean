/- Functions of masses: the reference's. -/
import Derived.Test.YtmlpcohailjccaaFomI
import Derived.Test.YtmlpcohailjccaaMass
namespace Go.Proofs.Ytmlpcohailjccaa
open Go.RowKit Go.G5

theorem sumTo_bd2 (m : List Int) (s k : Nat) (hk : k ≤ m.length) (h : ∀ j, (hj : j < m.length) → j < k → -100000 ≤ m[j] ∧ m[j] ≤ 100000) : -100000 * (k : Int) ≤ sumTo m s k ∧ sumTo m s k ≤ 100000 * (k : Int) := by
  induction k with
  | zero => simp [sumTo]
  | succ k ih =>
    have h1 := ih (by omega) (fun j hj hjk => h j hj (by omega))
    have h2 := h k (by omega) (by omega)
    rw [sumTo, List.getD_eq_getElem?_getD, List.getElem?_eq_getElem (show k < m.length by omega), Option.getD_some]
    split <;> omega

theorem l2Made_yes (w : World) (n : Int) (ad : Option Addr) (i cp : Nat) (l : List Int) (hv : Ints w (.slice ad i cp) l) (hf : isFunB n l = true) :
    Calls Try.prog 144 #[.int .i64 n, .slice ad i cp] w fun e w' => e = .returned (.tuple #[.agg #[.int .i64 n, .slice ad i cp], .bool true]) ∧ Below w.heap.size w w' := by
  go_enter Try.func144, Try.ntmps144
  go_wp2_with fail
  refine (isFunS_any n l _ _ (hv.below (by repeat (first | exact Below.refl _ _ | (with_reducible refine Below.setCell ?_ (by first | omega | (simp; done) | (simp; omega)) _) | (with_reducible refine Below.alloc ?_ (by first | omega | (simp; done) | (simp; omega)) _) | (with_reducible refine Below.drewN' ?_ _) | (with_reducible refine Below.drew ?_) | (with_reducible assumption) | refine Below.trans ?_ (Below.mono (by assumption) (by first | omega | (simp; done) | (simp; omega))))) (Nat.le_refl _))).mono ?_
  rintro e w1 ⟨rfl, hb⟩
  rw [hf]
  obtain ⟨hc, hff⟩ := bcellN hb (w.heap.size + 1 + 1) (by first | omega | (simp; done) | (simp; omega))
  have z := hb.size
  simp at z
  go_wp2
  exact bodyPost_ret (v := .tuple #[.agg #[.int .i64 n, .slice ad i cp], .bool true]) (by simp [results, Try.results144, go_sem, hc]) rfl ⟨rfl, (by repeat (first | exact Below.refl _ _ | (with_reducible refine Below.setCell ?_ (by first | omega | (simp; done) | (simp; omega)) _) | (with_reducible refine Below.alloc ?_ (by first | omega | (simp; done) | (simp; omega)) _) | (with_reducible refine Below.drewN' ?_ _) | (with_reducible refine Below.drew ?_) | (with_reducible assumption) | refine Below.trans ?_ (Below.mono (by assumption) (by first | omega | (simp; done) | (simp; omega)))))⟩
theorem l2Made_no (w : World) (n : Int) (ad : Option Addr) (i cp : Nat) (l : List Int) (hv : Ints w (.slice ad i cp) l) (hf : isFunB n l = false) :
    Calls Try.prog 144 #[.int .i64 n, .slice ad i cp] w fun e w' => e = .returned (.tuple #[.agg #[.int .i64 0, .slice none 0 0], .bool false]) ∧ Below w.heap.size w w' := by
  go_enter Try.func144, Try.ntmps144
  go_wp2_with fail
  refine (isFunS_any n l _ _ (hv.below (by repeat (first | exact Below.refl _ _ | (with_reducible refine Below.setCell ?_ (by first | omega | (simp; done) | (simp; omega)) _) | (with_reducible refine Below.alloc ?_ (by first | omega | (simp; done) | (simp; omega)) _) | (with_reducible refine Below.drewN' ?_ _) | (with_reducible refine Below.drew ?_) | (with_reducible assumption) | refine Below.trans ?_ (Below.mono (by assumption) (by first | omega | (simp; done) | (simp; omega))))) (Nat.le_refl _))).mono ?_
  rintro e w1 ⟨rfl, hb⟩
  rw [hf]
  obtain ⟨hc, hff⟩ := bcellN hb (w.heap.size + 1 + 1) (by first | omega | (simp; done) | (simp; omega))
  have z := hb.size
  simp at z
  go_wp2
  exact bodyPost_ret (v := .tuple #[.agg #[.int .i64 0, .slice none 0 0], .bool false]) (by simp [results, Try.results144, go_sem, hc]) rfl ⟨rfl, (by repeat (first | exact Below.refl _ _ | (with_reducible refine Below.setCell ?_ (by first | omega | (simp; done) | (simp; omega)) _) | (with_reducible refine Below.alloc ?_ (by first | omega | (simp; done) | (simp; omega)) _) | (with_reducible refine Below.drewN' ?_ _) | (with_reducible refine Below.drew ?_) | (with_reducible assumption) | refine Below.trans ?_ (Below.mono (by assumption) (by first | omega | (simp; done) | (simp; omega)))))⟩

theorem l2Made_any (w : World) (n : Int) (ad : Option Addr) (i cp : Nat) (l : List Int) (hv : Ints w (.slice ad i cp) l) (hf : Bool) (h : isFunB n l = hf) :
    Calls Try.prog 144 #[.int .i64 n, .slice ad i cp] w fun e w' => ∃ ad' i' cp', e = .returned (.tuple #[.agg #[.int .i64 (if hf then n else 0), .slice ad' i' cp'], .bool hf]) ∧ (.slice ad' i' cp' : Value) = (if hf then .slice ad i cp else .slice none 0 0) ∧ Below w.heap.size w w' := by
  cases hf
  · exact (l2Made_no w n ad i cp l hv h).mono fun e w' ⟨h1, h2⟩ => ⟨_, _, _, h1, rfl, h2⟩
  · exact (l2Made_yes w n ad i cp l hv h).mono fun e w' ⟨h1, h2⟩ => ⟨_, _, _, h1, rfl, h2⟩

end Go.Proofs.Ytmlpcohailjccaa
