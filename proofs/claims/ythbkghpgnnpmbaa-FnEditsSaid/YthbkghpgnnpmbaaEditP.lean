/- Sets that are added to and removed from a kept blocker: the laws of the plain lists. -/
import Derived.Test.YthbkghpgnnpmbaaKept
import Derived.Test.YthbkghpgnnpmbaaElems
namespace Go.Proofs.Ythbkghpgnnpmbaa
open Go.RowKit Go.G5

def subN (a b : Nat) : Prop := ∀ j, a.testBit j = true → b.testBit j = true
theorem subN_and (a b : Nat) : subN a b ↔ a &&& b = a := by
  constructor
  · intro h
    apply Nat.eq_of_testBit_eq
    intro j
    rw [Nat.testBit_and]
    cases ha : a.testBit j with
    | false => rfl
    | true => rw [h j ha]; rfl
  · intro h j ha
    rw [← h, Nat.testBit_and, Bool.and_eq_true] at ha
    exact ha.2
theorem subN_le {a b : Nat} (h : subN a b) : a ≤ b := by rw [← (subN_and a b).1 h]; exact Nat.and_le_right
theorem subN_trans {a b c : Nat} (h : subN a b) (k : subN b c) : subN a c := fun j hj => k j (h j hj)
theorem subN_anti {a b : Nat} (h : subN a b) (k : subN b a) : a = b := Nat.le_antisymm (subN_le h) (subN_le k)
theorem idif_sub (a b : Int) : (idif a b == 0) = true ↔ subN a.toNat b.toNat := by
  rw [subN_and]
  unfold idif ndiff
  have := @Nat.and_le_left a.toNat b.toNat
  constructor
  · intro h
    have h := eq_of_beq h
    omega
  · intro h
    rw [h]
    simp
theorem iand_meet (a b : Int) : (iand a b != 0) = true ↔ ∃ j, a.toNat.testBit j = true ∧ b.toNat.testBit j = true := by
  unfold iand
  constructor
  · intro h
    have h0 : a.toNat &&& b.toNat ≠ 0 := by
      intro e
      rw [e] at h
      simp at h
    obtain ⟨j, hj⟩ := Nat.exists_testBit_of_ne_zero h0
    rw [Nat.testBit_and, Bool.and_eq_true] at hj
    exact ⟨j, hj.1, hj.2⟩
  · rintro ⟨j, h1, h2⟩
    have h0 : a.toNat &&& b.toNat ≠ 0 := by
      intro e
      have : (a.toNat &&& b.toNat).testBit j = true := by rw [Nat.testBit_and, h1, h2]; rfl
      rw [e] at this
      simp at this
    simp only [bne_iff_ne, ne_eq]
    omega
theorem subsB_iff (s t : Int) : subsB s t = true ↔ t ≠ s ∧ subN t.toNat s.toNat := by
  unfold subsB
  rw [Bool.and_eq_true, idif_sub]
  simp
theorem minL_iff (l : List Int) (x : Int) : x ∈ minL l ↔ x ∈ l ∧ ∀ y ∈ l, y ≠ x → ¬ subN y.toNat x.toNat := by
  unfold minL
  rw [List.mem_filter]
  constructor
  · rintro ⟨h1, h2⟩
    refine ⟨h1, fun y hy hne hs => ?_⟩
    have : l.any (subsB x) = true := List.any_eq_true.2 ⟨y, hy, (subsB_iff x y).2 ⟨hne, hs⟩⟩
    rw [this] at h2
    cases h2
  · rintro ⟨h1, h2⟩
    refine ⟨h1, ?_⟩
    cases h : l.any (subsB x) with
    | false => rfl
    | true =>
      obtain ⟨y, hy, hs⟩ := List.any_eq_true.1 h
      obtain ⟨hne, hs⟩ := (subsB_iff x y).1 hs
      exact absurd hs (h2 y hy hne)
theorem min_below (l : List Int) (hl : ∀ x ∈ l, 0 ≤ x) : ∀ (m : Nat) (t : Int), t.toNat ≤ m → t ∈ l → ∃ b ∈ minL l, subN b.toNat t.toNat := by
  intro m
  induction m with
  | zero =>
    intro t hm ht
    refine ⟨t, (minL_iff l t).2 ⟨ht, fun y hy hne hs => ?_⟩, fun _ h => h⟩
    have := subN_le hs
    have := hl y hy
    have := hl t ht
    omega
  | succ m ih =>
    intro t hm ht
    by_cases hmin : t ∈ minL l
    · exact ⟨t, hmin, fun _ h => h⟩
    · have : ∃ y ∈ l, y ≠ t ∧ subN y.toNat t.toNat := Classical.byContradiction fun hno => hmin ((minL_iff l t).2 ⟨ht, fun y hy hne hs => hno ⟨y, hy, hne, hs⟩⟩)
      obtain ⟨y, hy, hne, hs⟩ := this
      have h1 := subN_le hs
      have h2 := hl y hy
      have h3 := hl t ht
      obtain ⟨b, hb, hbs⟩ := ih y (by omega) hy
      exact ⟨b, hb, subN_trans hbs hs⟩
theorem meetB_iff (l : List Int) (t : Int) : meetB l t = true ↔ ∀ s ∈ l, ∃ j, s.toNat.testBit j = true ∧ t.toNat.testBit j = true := by
  unfold meetB
  rw [List.all_eq_true]
  exact ⟨fun h s hs => (iand_meet s t).1 (h s hs), fun h s hs => (iand_meet s t).2 (h s hs)⟩
theorem blkAll_iff (g : Nat) (l : List Int) (t : Int) : t ∈ blkAll g l ↔ 0 ≤ t ∧ t < 2 ^ g ∧ ∀ s ∈ l, ∃ j, s.toNat.testBit j = true ∧ t.toNat.testBit j = true := by
  have hp : ((2 ^ g : Nat) : Int) = (2 : Int) ^ g := by push_cast; rfl
  unfold blkAll chosen
  simp only [List.mem_map, List.mem_filter, List.mem_range]
  constructor
  · rintro ⟨e, ⟨he, hm⟩, rfl⟩
    exact ⟨Int.natCast_nonneg _, by show ((e : Nat) : Int) < _; omega, (meetB_iff l _).1 hm⟩
  · rintro ⟨h0, h1, h2⟩
    refine ⟨t.toNat, ⟨by omega, ?_⟩, by show ((t.toNat : Nat) : Int) = t; omega⟩
    rw [show ((t.toNat : Nat) : Int) = t by omega]
    exact (meetB_iff l t).2 h2
theorem nbit_test (c j : Nat) : nbit c j = c.testBit j := by
  unfold nbit
  rw [Nat.testBit_eq_decide_div_mod_eq]
  cases h : decide (c / 2 ^ j % 2 = 1) with
  | true => simpa using of_decide_eq_true h
  | false => simpa using of_decide_eq_false h
theorem elL_iff (s x : Int) : x ∈ elL s ↔ ∃ e : Nat, e < 6 ∧ s.toNat.testBit e = true ∧ x = (e : Int) := by
  unfold elL famOf chosen
  simp only [List.mem_map, List.mem_filter, List.mem_range]
  constructor
  · rintro ⟨e, ⟨he, hb⟩, rfl⟩
    exact ⟨e, he, by rw [← nbit_test]; exact hb, rfl⟩
  · rintro ⟨e, he, hb, rfl⟩
    exact ⟨e, ⟨he, by rw [nbit_test]; exact hb⟩, rfl⟩
theorem or_pow (t : Int) (e : Nat) : (ior t ((2 : Int) ^ e)).toNat = t.toNat ||| 2 ^ e := by
  have h : ((2 : Int) ^ e) = ((2 ^ e : Nat) : Int) := by push_cast; rfl
  unfold ior
  rw [h]
  simp only [Int.toNat_natCast]
theorem test_lt {s : Nat} {g e : Nat} (h : s < 2 ^ g) (hb : s.testBit e = true) : e < g := by
  apply Classical.byContradiction
  intro hn
  have : s < 2 ^ e := Nat.lt_of_lt_of_le h (Nat.pow_le_pow_right (by decide) (by omega))
  rw [Nat.testBit_lt_two_pow this] at hb
  cases hb
end Go.Proofs.Ythbkghpgnnpmbaa
