/- Sets that are added to and removed from a kept blocker: what is kept is right. -/
import Derived.Test.YthbkghpgnnpmbaaEditP
import Derived.Test.YthbkghpgnnpmbaaAddP
namespace Go.Proofs.Ythbkghpgnnpmbaa
open Go.RowKit Go.G5

theorem isSet_iff (g : Nat) (s : Int) : isSet g s = true ↔ 0 ≤ s ∧ s < 2 ^ g := by unfold isSet; simp
theorem fam_put {g s : Int} {l : List Int} (hl : isFamB g l = true) (hs : isSet g.toNat s = true) : isFamB g (gatherL (l ++ [s])) = true := by
  unfold isFamB areSetsB ascB at hl ⊢
  simp only [Bool.and_eq_true, List.all_eq_true, decide_eq_true_eq] at hl ⊢
  refine ⟨⟨hl.1.1, fun x hx => ?_⟩, gatherL_asc _⟩
  rw [gatherL_mem, List.mem_append, List.mem_singleton] at hx
  rcases hx with hx | rfl
  · exact hl.1.2 x hx
  · exact hs
theorem add_right {g s : Int} {l m : List Int} (h : addOk g l m s = true) : isFamB g (addK g l m s) = true ∧ addL g l m s = blkL g (addK g l m s) ∧ addN g l m s = g ∧ keepL (remP s) (addK g l m s) = l := by
  have hK : addK g l m s = gatherL (l ++ [s]) := by unfold addK; rw [h]; rfl
  have hL : addL g l m s = minL (gatherL (addList m s)) := by unfold addL; rw [h]; rfl
  have hN : addN g l m s = g := by unfold addN; rw [h]; rfl
  unfold addOk keptB at h
  simp only [Bool.and_eq_true, Bool.not_eq_true', decide_eq_true_eq] at h
  obtain ⟨⟨⟨hf, hm⟩, hs⟩, hn⟩ := h
  have hns : s ∉ l := fun e => by rw [has_true.2 e] at hn; cases hn
  obtain ⟨h0, h6, hb, hasc⟩ := famOk hf
  have hs2 := (isSet_iff _ _).1 hs
  have hf2 := fam_put hf hs
  have hp : ((2 ^ g.toNat : Nat) : Int) = (2 : Int) ^ g.toNat := by push_cast; rfl
  have hsn : s.toNat < 2 ^ g.toNat := by omega
  rw [hK, hL, hN]
  refine ⟨hf2, ?_, rfl, ?_⟩
  · have hblk : blkL g (gatherL (l ++ [s])) = minL (blkAll g.toNat (gatherL (l ++ [s]))) := by unfold blkL; rw [hf2]; rfl
    have hmm : m = minL (blkAll g.toNat l) := by rw [← hm]; unfold blkL; rw [hf]; rfl
    rw [hblk]
    have hT : ∀ t, t ∈ blkAll g.toNat (gatherL (l ++ [s])) ↔ t ∈ blkAll g.toNat l ∧ ∃ j, s.toNat.testBit j = true ∧ t.toNat.testBit j = true := by
      intro t
      rw [blkAll_iff, blkAll_iff]
      constructor
      · rintro ⟨h1, h2, h3⟩
        exact ⟨⟨h1, h2, fun u hu => h3 u (by rw [gatherL_mem, List.mem_append]; exact .inl hu)⟩, h3 s (by rw [gatherL_mem, List.mem_append]; exact .inr (by simp))⟩
      · rintro ⟨⟨h1, h2, h3⟩, h4⟩
        refine ⟨h1, h2, fun u hu => ?_⟩
        rw [gatherL_mem, List.mem_append, List.mem_singleton] at hu
        rcases hu with hu | rfl
        · exact h3 u hu
        · exact h4
    have hA : ∀ a, a ∈ gatherL (addList m s) ↔ ∃ t ∈ m, a ∈ addOne s t := by
      intro a
      rw [gatherL_mem]
      unfold addList
      rw [List.mem_flatMap]
    have hA1 : ∀ a ∈ gatherL (addList m s), a ∈ blkAll g.toNat (gatherL (l ++ [s])) := by
      intro a ha
      obtain ⟨t, ht, ha⟩ := (hA a).1 ha
      have ht2 : t ∈ blkAll g.toNat l := minL_mem (by rw [← hmm]; exact ht)
      have ht3 := (blkAll_iff _ _ _).1 ht2
      rw [hT]
      unfold addOne at ha
      by_cases hc : (iand s t != 0) = true
      · rw [if_pos hc, List.mem_singleton] at ha
        subst ha
        exact ⟨ht2, (iand_meet s a).1 hc⟩
      · rw [if_neg hc] at ha
        obtain ⟨x, hx, rfl⟩ := List.mem_map.1 ha
        obtain ⟨e, he, hbit, rfl⟩ := (elL_iff s x).1 hx
        have hor : (addEl t (e : Int)).toNat = t.toNat ||| 2 ^ e := by unfold addEl; simp only [Int.toNat_natCast]; exact or_pow t e
        have heg := test_lt hsn hbit
        have hlt : (addEl t (e : Int)).toNat < 2 ^ g.toNat := by rw [hor]; exact Nat.or_lt_two_pow (by omega) (Nat.pow_lt_pow_right (by decide) heg)
        have hnn : 0 ≤ addEl t (e : Int) := by unfold addEl ior; exact Int.natCast_nonneg _
        refine ⟨(blkAll_iff _ _ _).2 ⟨hnn, by omega, fun u hu => ?_⟩, e, hbit, ?_⟩
        · obtain ⟨j, h1, h2⟩ := ht3.2.2 u hu
          exact ⟨j, h1, by rw [hor, Nat.testBit_or, h2]; rfl⟩
        · rw [hor, Nat.testBit_or, Nat.testBit_two_pow_self, Bool.or_true]
    have hA2 : ∀ t ∈ blkAll g.toNat (gatherL (l ++ [s])), ∃ a ∈ gatherL (addList m s), subN a.toNat t.toNat := by
      intro t ht
      obtain ⟨ht2, j, hj1, hj2⟩ := (hT t).1 ht
      obtain ⟨b, hbm, hbs⟩ := min_below (blkAll g.toNat l) (fun x hx => ((blkAll_iff _ _ _).1 hx).1) t.toNat t (Nat.le_refl _) ht2
      rw [← hmm] at hbm
      by_cases hc : (iand s b != 0) = true
      · exact ⟨b, (hA b).2 ⟨b, hbm, by unfold addOne; rw [if_pos hc]; simp⟩, hbs⟩
      · have hjg := test_lt hsn hj1
        have hj6 : j < 6 := by omega
        refine ⟨addEl b (j : Int), (hA _).2 ⟨b, hbm, by unfold addOne; rw [if_neg hc]; exact List.mem_map.2 ⟨_, (elL_iff s _).2 ⟨j, hj6, hj1, rfl⟩, rfl⟩⟩, ?_⟩
        have hor : (addEl b (j : Int)).toNat = b.toNat ||| 2 ^ j := by unfold addEl; simp only [Int.toNat_natCast]; exact or_pow b j
        intro i hi
        rw [hor, Nat.testBit_or, Bool.or_eq_true] at hi
        rcases hi with hi | hi
        · exact hbs i hi
        · rw [Nat.testBit_two_pow] at hi
          have := of_decide_eq_true hi
          subst this
          exact hj2
    have hAn : ∀ a ∈ gatherL (addList m s), 0 ≤ a := fun a ha => ((blkAll_iff _ _ _).1 (hA1 a ha)).1
    refine asc_ext _ _ ((gatherL_asc _).filter _) ((chosen_asc _ _).filter _) fun x => ?_
    rw [minL_iff, minL_iff]
    constructor
    · rintro ⟨h1, h2⟩
      refine ⟨hA1 x h1, fun y hy hne hsub => ?_⟩
      obtain ⟨a, ha, hay⟩ := hA2 y hy
      have hy0 := ((blkAll_iff _ _ _).1 hy).1
      have hx0 := hAn x h1
      have ha0 := hAn a ha
      refine h2 a ha (fun e => hne ?_) (subN_trans hay hsub)
      subst e
      have := subN_anti hay hsub
      omega
    · rintro ⟨h1, h2⟩
      obtain ⟨a, ha, hax⟩ := hA2 x h1
      have haT := hA1 a ha
      have hxe : a = x := Classical.byContradiction fun hne => h2 a haT hne hax
      subst hxe
      exact ⟨ha, fun y hy hne => h2 y (hA1 y hy) hne⟩
  · refine asc_ext _ _ ((gatherL_asc _).filter _) hasc fun x => ?_
    unfold keepL remP
    rw [List.mem_filter, gatherL_mem, List.mem_append, List.mem_singleton]
    constructor
    · rintro ⟨h1 | h1, h2⟩
      · exact h1
      · subst h1; simp at h2
    · intro hx
      have hne : x ≠ s := fun e => hns (e ▸ hx)
      exact ⟨.inl hx, by simp [hne]⟩
end Go.Proofs.Ythbkghpgnnpmbaa
