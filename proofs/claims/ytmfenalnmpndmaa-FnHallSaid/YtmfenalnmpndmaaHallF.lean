/- Hall's condition: the facts that the law asks for. -/
import Derived.Test.YtmfenalnmpndmaaDrawW
import Derived.Test.YtmfenalnmpndmaaMostJ
import Derived.Test.YtmfenalnmpndmaaMostS
namespace Go.Proofs.Ytmfenalnmpndmaa
open Go.RowKit Go.G5

theorem orTo_bd (l w : List Int) (hl : ∀ x ∈ l, 0 ≤ x ∧ x < 64) (hw : ∀ i ∈ w, 0 ≤ i ∧ i < (l.length : Int)) : ∀ k, k ≤ w.length → 0 ≤ orTo l w k ∧ orTo l w k < 64 := by
  intro k
  induction k with
  | zero => intro _; unfold orTo; simp
  | succ k ih =>
    intro hk
    have h1 := ih (by omega)
    have h2 := hw _ (List.getElem_mem (show k < w.length by omega))
    have hlt : w[k].toNat < l.length := by omega
    have h3 := hl _ (List.getElem_mem hlt)
    rw [orTo_succ l w k (by omega), getD_at l _ hlt]
    exact ior_bd _ _ 6 h1.1 h3.1 h1.2 h3.2
structure VioFacts (g : Int) (l w : List Int) : Prop where
  G : ∃ G : Nat, g = (G : Int) ∧ G ≤ 6 ∧ 0 ≤ orTo l w w.length ∧ orTo l w w.length < 2 ^ G
  sets : ∀ x ∈ l, 0 ≤ x ∧ x < 64
  idx : ∀ i ∈ w, 0 ≤ i ∧ i < (l.length : Int)
  bd : ∀ k, k ≤ w.length → 0 ≤ orTo l w k ∧ orTo l w k < 64
  few : ((elL (orTo l w w.length)).length : Int) < (w.length : Int)
theorem vio_facts (g : Int) (l : List Int) (h : vioB g l = true) : VioFacts g l (vioL g l) := by
  obtain ⟨hf, h1, h2, h3⟩ := vio_found g l h
  obtain ⟨h6, h0, hg6, hm, hm64⟩ := few_ok hf
  obtain ⟨G, rfl⟩ := Int.eq_ofNat_of_zero_le h0
  rw [Int.toNat_natCast] at h3
  have h4 := isSet_true.1 h3
  have hb := orTo_bd l _ hm64 h1
  have hl := (hb _ (Nat.le_refl _)).2
  refine ⟨⟨G, rfl, by omega, h4⟩, hm64, h1, hb, ?_⟩
  rw [elL_pop _ hl]
  exact h2
theorem defN_bd (g : Int) (l : List Int) : -1 ≤ defN g l ∧ defN g l ≤ 8 := by
  unfold defN
  split
  · rename_i h
    obtain ⟨h6, _, _, _, hm⟩ := few_ok h
    have := defTo_bd l hm (2 ^ l.length) (Nat.pow_le_pow_right (n := 2) (by decide) h6)
    omega
  · omega
end Go.Proofs.Ytmfenalnmpndmaa
