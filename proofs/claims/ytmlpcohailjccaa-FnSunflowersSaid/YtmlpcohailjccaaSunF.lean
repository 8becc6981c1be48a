/- Petals are disjoint. -/
import Derived.Test.YtmlpcohailjccaaSunE
namespace Go.Proofs.Ytmlpcohailjccaa
open Go.RowKit Go.G5

theorem nd_and : ∀ a : Nat, a < 64 → ∀ b : Nat, b < 64 → ndiff a b &&& b = 0 := by decide +kernel
theorem nd_or : ∀ a : Nat, a < 64 → ∀ b : Nat, b < 64 → (a &&& b = b → ndiff a b ||| b = a) := by decide +kernel
theorem nd_pair : ∀ a : Nat, a < 64 → ∀ b : Nat, b < 64 → ndiff a (a &&& b) &&& ndiff b (a &&& b) = 0 := by decide +kernel
theorem petTo_at (l : List Int) (q : Int) (j : Nat) : ∀ k, j < k → (petTo l q k).getD j 0 = idif (l.getD j 0) q := by
  intro k
  induction k with
  | zero => intro h; omega
  | succ k ih =>
    intro h
    have hl := petTo_len l q k
    rw [petTo]
    by_cases hjk : j < k
    · rw [getD_app _ _ j (by omega)]; exact ih hjk
    · have : j = k := by omega
      subst this
      have := getD_last (petTo l q j) (idif (l.getD j 0) q)
      rw [hl] at this
      exact this
theorem pet_facts {M : List Int} (h : kerB M = true) : (petL M).length = M.length ∧ (∀ j (h1 : j < (petL M).length) (h2 : j < M.length), 0 ≤ (petL M)[j] ∧ (petL M)[j] < 64 ∧ 0 ≤ kerN M ∧ kerN M < 64 ∧ iand (petL M)[j] (kerN M) = 0 ∧ ior (petL M)[j] (kerN M) = M[j]) ∧
    ∀ j m (h1 : j < (petL M).length) (h2 : m < (petL M).length), m < j → 0 ≤ (petL M)[m] ∧ (petL M)[m] < 64 ∧ iand (petL M)[j] (petL M)[m] = 0 := by
  have hp : petL M = petTo M (kerN M) M.length := by unfold petL; rw [h]; rfl
  have hlen : (petL M).length = M.length := by rw [hp, petTo_len]
  have hk := kerN_bd h
  have hker : kerN M = iand (M.getD 0 0) (M.getD 1 0) := by unfold kerN; rw [h]; rfl
  have hsun : isSunB M = true := by unfold kerB at h; exact (Bool.and_eq_true_iff.1 h).1
  have hb := (sun_bd hsun).2
  have hss := (sunS_iff M).1 (by unfold isSunB at hsun; exact (Bool.and_eq_true_iff.1 hsun).2)
  have at' : ∀ j (h1 : j < (petL M).length) (h2 : j < M.length), (petL M)[j] = idif M[j] (kerN M) := fun j h1 h2 => by
    rw [← getD_at (petL M) j h1, hp, petTo_at M (kerN M) j M.length h2, getD_at M j h2]
  refine ⟨hlen, fun j h1 h2 => ?_, fun j m h1 h2 hmj => ?_⟩
  · have hm := hb _ (List.getElem_mem h2)
    have hs := ker_sub h j h2
    rw [at' j h1 h2]
    have hd := idif_bd M[j] (kerN M) 64 hm.1 hm.2
    refine ⟨hd.1, hd.2, hk.1, hk.2, ?_, ?_⟩
    · unfold iand idif
      simp only [Int.toNat_natCast]
      rw [nd_and _ (by omega) _ (by omega)]; rfl
    · unfold iand at hs
      unfold ior idif
      simp only [Int.toNat_natCast]
      rw [nd_or M[j].toNat (by omega) (kerN M).toNat (by omega) (by omega)]
      omega
  · have h1' : j < M.length := by omega
    have h2' : m < M.length := by omega
    have hm1 := hb _ (List.getElem_mem h1')
    have hm2 := hb _ (List.getElem_mem h2')
    have hs := hss j h1' m hmj
    rw [getD_at M j h1', getD_at M m h2', ← hker] at hs
    rw [at' j h1 h1', at' m h2 h2']
    have hd := idif_bd M[m] (kerN M) 64 hm2.1 hm2.2
    refine ⟨hd.1, hd.2, ?_⟩
    rw [← hs]
    unfold iand idif
    simp only [Int.toNat_natCast]
    rw [nd_pair _ (by omega) _ (by omega)]; rfl
end Go.Proofs.Ytmlpcohailjccaa
