/- Sunflowers: what is found is one, and large families have one. -/
import Derived.Test.YtmlpcohailjccaaSunX
import Derived.Test.YtmlpcohailjccaaSun
import Derived.Test.YtmlpcohailjccaaSortP
namespace Go.Proofs.Ytmlpcohailjccaa
open Go.RowKit Go.G5

def sunT (l : List Int) (s : Int) : Bool := sunS (l ++ [s])
theorem find_sub : ∀ (sets l : List Int) (k : Int) (x : List Int), findG sunT sets l k = some x → sunS l = true → sunS x = true ∧ x.Sublist (l ++ sets) := by
  intro sets
  induction sets with
  | nil =>
    intro l k x h hl
    by_cases hk : (l.length : Int) = k
    · rw [findG_done _ _ _ _ hk] at h; cases h; exact ⟨hl, by simp⟩
    · rw [findG_nil _ _ _ hk] at h; cases h
  | cons s rest ih =>
    intro l k x h hl
    by_cases hk : (l.length : Int) = k
    · rw [findG_done _ _ _ _ hk] at h; cases h; exact ⟨hl, List.sublist_append_left _ _⟩
    · rw [findG_cons _ _ _ _ _ hk] at h
      have skip : ∀ y, findG sunT rest l k = some y → sunS y = true ∧ y.Sublist (l ++ s :: rest) := fun y hy => by
        obtain ⟨h1, h2⟩ := ih l k y hy hl
        exact ⟨h1, h2.trans ((List.Sublist.refl l).append (List.sublist_cons_self s rest))⟩
      by_cases ht : sunT l s = true
      · rw [if_pos ht] at h
        cases hq : findG sunT rest (l ++ [s]) k with
        | some y =>
          rw [hq] at h
          cases h
          obtain ⟨h1, h2⟩ := ih (l ++ [s]) k x hq ht
          exact ⟨h1, by simpa using h2⟩
        | none =>
          rw [hq] at h
          exact skip x h
      · rw [if_neg ht] at h
        exact skip x h
theorem sun_prefix (a b : List Int) (h : sunS (a ++ b) = true) : sunS a = true := by
  rw [sunS_iff] at h ⊢
  intro i hi k hk
  have e : ∀ j, j < a.length → (a ++ b).getD j 0 = a.getD j 0 := fun j hj => by
    rw [List.getD_eq_getElem?_getD, List.getD_eq_getElem?_getD, List.getElem?_append_left hj]
  have := h i (by simp; omega) k hk
  rw [e i hi, e k (by omega), e 0 (by omega), e 1 (by omega)] at this
  exact this
theorem find_all : ∀ (sets l : List Int) (k : Int), (∃ x, x.Sublist sets ∧ sunS (l ++ x) = true ∧ ((l ++ x).length : Int) = k) → (findG sunT sets l k).isSome = true := by
  intro sets
  induction sets with
  | nil =>
    rintro l k ⟨x, hx, _, hk⟩
    have : x = [] := List.eq_nil_of_sublist_nil hx
    subst this
    rw [findG_done _ _ _ _ (by simpa using hk)]; rfl
  | cons s rest ih =>
    rintro l k ⟨x, hx, hs, hk⟩
    by_cases hlk : (l.length : Int) = k
    · rw [findG_done _ _ _ _ hlk]; rfl
    · rw [findG_cons _ _ _ _ _ hlk]
      cases hx with
      | cons _ hx =>
        have h1 := ih l k ⟨x, hx, hs, hk⟩
        by_cases ht : sunT l s = true
        · rw [if_pos ht]
          cases findG sunT rest (l ++ [s]) k with
          | some y => rfl
          | none => exact h1
        · rw [if_neg ht]; exact h1
      | cons_cons _ hx =>
        rename_i x'
        have ht : sunT l s = true := sun_prefix (l ++ [s]) x' (by simpa using hs)
        have h1 := ih (l ++ [s]) k ⟨x', hx, by simpa using hs, by simpa using hk⟩
        rw [if_pos ht]
        cases hq : findG sunT rest (l ++ [s]) k with
        | some y => rfl
        | none => rw [hq] at h1; cases h1
theorem sun_found {g : Int} {l : List Int} {k : Int} (h : sunB g l k = true) : isSunB (sunL g l k) = true ∧ ((sunL g l k).length : Int) = k ∧ isFamB g l = true ∧ 1 ≤ k ∧ k ≤ 5 := by
  have hok : sunOk g l k = true := by
    cases hq : sunOk g l k with
    | true => rfl
    | false =>
      unfold sunB sunR at h
      rw [hq] at h
      cases h
  have hsp := sunR_spec g l k hok
  obtain ⟨x, hx⟩ : ∃ x, sunR g l k = some x := by
    unfold sunB at h
    exact Option.isSome_iff_exists.1 h
  have hL : sunL g l k = x := by unfold sunL; rw [hx]; rfl
  rw [hx] at hsp
  obtain ⟨h1, h2⟩ := find_sub l [] k x hsp.symm (by decide)
  have h3 := findG_len _ _ _ _ _ hsp.symm
  unfold sunOk at hok
  obtain ⟨hf, hi⟩ := Bool.and_eq_true_iff.1 hok
  have hi := inB_true.1 hi
  obtain ⟨h0, h6, hb, hasc⟩ := famOk hf
  rw [List.nil_append] at h2
  have hp6 : (2 : Int) ^ g.toNat ≤ 64 := by have := (two_pow g.toNat 6 (by omega)).1; simpa using this
  have hxasc : x.Pairwise (· < ·) := hasc.sublist h2
  have hxb : ∀ y ∈ x, 0 ≤ y ∧ y < 64 := fun y hy => by have := hb y (h2.subset hy); omega
  rw [hL]
  refine ⟨?_, h3, hf, hi.1, hi.2⟩
  unfold isSunB
  rw [h1, Bool.and_true]
  unfold valS
  rw [Bool.and_eq_true]
  refine ⟨decide_eq_true (by omega), allTo_iff.2 fun i hi2 => ?_⟩
  unfold vAt
  rw [Bool.and_eq_true]
  refine ⟨?_, allTo_iff.2 fun j hj => ?_⟩
  · rw [getD_at x i hi2]
    exact (isSet6 _).2 (hxb _ (List.getElem_mem hi2))
  · unfold dAt
    rw [getD_at x i hi2, getD_at x j (by omega)]
    have := (List.pairwise_iff_getElem.1 hxasc) j i (by omega) hi2 hj
    have hne : ¬ x[j]'(by omega) = x[i] := by omega
    simp [hne]
end Go.Proofs.Ytmlpcohailjccaa
