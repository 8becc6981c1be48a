/- Sunflowers: what is computed. Sunflowers: the tests of both programs, and the search of the first. Sunflowers: the test of the second program. Which lists are sunflowers: both programs. Which lists are sunflowers: the second program; kernels. Kernels and petals; uniform families. Sets of six elements: what is decided. -/
import Derived.Test.YtipejodijbjpcaaGreatDoorQ27
import Derived.Deep.RegionHeld3
section
namespace Go.Proofs.YtipejodijbjpcaaGreatDoor
open Go.RowKit Go.G5

/-- the test of one set of the list in the first program -/
def petal (l : List Int) (s : Int) (i : Nat) : Bool := !(l.getD i 0 == s) && (iand s (l.getD i 0) == iand s (l.getD 0 0)) && (i == 0 || iand s (l.getD i 0) == iand (l.getD 0 0) (l.getD 1 0))
def inFI (l : List Int) (s : Int) : Bool := allTo (petal l s) l.length
def pairS (l : List Int) (i k : Nat) : Bool := iand (l.getD i 0) (l.getD k 0) == iand (l.getD 0 0) (l.getD 1 0)
def sunS (l : List Int) : Bool := allTo (fun i => allTo (pairS l i) i) l.length
theorem iand_comm' (a b : Int) : iand a b = iand b a := by unfold iand; rw [Nat.and_comm]
theorem sunS_iff (l : List Int) : sunS l = true ↔ ∀ i, i < l.length → ∀ k, k < i → iand (l.getD i 0) (l.getD k 0) = iand (l.getD 0 0) (l.getD 1 0) := by
  unfold sunS
  rw [allTo_iff]
  constructor
  · intro h i hi k hk
    have := allTo_iff.1 (h i hi) k hk
    unfold pairS at this
    simpa using this
  · intro h i hi
    rw [allTo_iff]
    intro k hk
    unfold pairS
    simpa using h i hi k hk
theorem getD_app (l : List Int) (s : Int) (i : Nat) (h : i < l.length) : (l ++ [s]).getD i 0 = l.getD i 0 := by
  rw [List.getD_eq_getElem?_getD, List.getD_eq_getElem?_getD, List.getElem?_append_left h]
theorem getD_last (l : List Int) (s : Int) : (l ++ [s]).getD l.length 0 = s := by
  rw [List.getD_eq_getElem?_getD, List.getElem?_append_right (Nat.le_refl _)]
  simp
/-- where the list is a sunflower that lacks s, both tests agree -/
theorem flower_test (l : List Int) (s : Int) (hl : sunS l = true) (hs : s ∉ l) : inFI l s = sunS (l ++ [s]) := by
  have hsun := (sunS_iff l).1 hl
  have hne : ∀ i, i < l.length → l.getD i 0 ≠ s := fun i hi e => hs (by rw [← e, getD_at l i hi]; exact List.getElem_mem hi)
  rw [Bool.eq_iff_iff, sunS_iff]
  unfold inFI
  rw [allTo_iff]
  rcases Nat.lt_or_ge l.length 2 with h2 | h2
  · -- at most one set
    constructor
    · intro _ i hi k hk
      rw [List.length_append, List.length_singleton] at hi
      have hi1 : i = 1 ∧ k = 0 ∧ l.length = 1 := by omega
      obtain ⟨rfl, rfl, _⟩ := hi1
      exact iand_comm' _ _
    · intro _ i hi
      have : i = 0 := by omega
      subst this
      unfold petal
      have h0 : (l.getD 0 0 == s) = false := beq_eq_false_iff_ne.2 (hne 0 hi)
      rw [h0]
      simp
  · have e0 : (l ++ [s]).getD 0 0 = l.getD 0 0 := getD_app l s 0 (by omega)
    have e1 : (l ++ [s]).getD 1 0 = l.getD 1 0 := getD_app l s 1 (by omega)
    rw [e0, e1]
    constructor
    · intro h i hi k hk
      rw [List.length_append, List.length_singleton] at hi
      by_cases hil : i < l.length
      · rw [getD_app l s i hil, getD_app l s k (by omega)]
        exact hsun i hil k hk
      · have : i = l.length := by omega
        subst this
        rw [getD_last, getD_app l s k hk]
        have h1 := h 1 (by omega)
        have hk' := h k hk
        unfold petal at h1 hk'
        simp only [Bool.and_eq_true, Bool.or_eq_true, beq_iff_eq, Bool.not_eq_true', beq_eq_false_iff_ne, ne_eq] at h1 hk'
        have a1 := h1.2.resolve_left (by omega)
        rcases hk'.2 with h0 | h0
        · subst h0
          rw [← h1.1.2]; exact a1
        · exact h0
    · intro h i hi
      have hi' := h l.length (by rw [List.length_append, List.length_singleton]; omega) i hi
      have h0' := h l.length (by rw [List.length_append, List.length_singleton]; omega) 0 (by omega)
      rw [getD_last, getD_app l s i hi] at hi'
      rw [getD_last, e0] at h0'
      unfold petal
      simp only [Bool.and_eq_true, Bool.or_eq_true, beq_iff_eq, Bool.not_eq_true', beq_eq_false_iff_ne, ne_eq]
      exact ⟨⟨hne i hi, by rw [hi', h0']⟩, .inr hi'⟩
end Go.Proofs.YtipejodijbjpcaaGreatDoor
end
section
namespace Go.Proofs.YtipejodijbjpcaaGreatDoor
open Go.RowKit Go.G5

set_option maxHeartbeats 2000000 in
theorem inFlower_any (l : List Int) (v : Value) (s : Int) (w : World) (hv : Ints w v l) (hm : ∀ x ∈ l, 0 ≤ x ∧ x < 64) (hs : 0 ≤ s ∧ s < 64) :
    Calls Tryz.prog 321 #[v, .int .i64 s] w fun e w' => e = .returned (.bool (inFI l s)) ∧ Below w.heap.size w w' := by
  obtain ⟨a, b, off, c, rfl, hlen, hix, hc, hb⟩ := hv.view Tryz.prog 22 3 Tryz.underlying22 intElem
  have hs0 := hs.1
  have hs1 := hs.2
  go_enter Tryz.func321, Tryz.ntmps321
  go_wp2
  go_loopw [9] (fun i wr => ∃ k n : Nat, k ≤ l.length ∧ i = .int .i64 k ∧ allTo (petal l s) k = true ∧ wr = w.drewN n) (fun i _ => l.length - (intOf i).toNat)
  case atStart => exact ⟨0, 0, Nat.zero_le _, rfl, rfl, rfl⟩
  case round =>
    obtain ⟨k, n, hk, rfl, hall, rfl⟩ := hrel
    have H := Lib.hid hall
    clear hall
    by_cases hlt : k < l.length
    · have hck := hc k hlt
      have hc0 := hc 0 (by omega)
      have hix0 : ∀ w', (Instr.indexAt 22 (.slice a l.length c) (.int .i64 0)).run Tryz.prog w' = .ok (.pointer (some ⟨b, off, none⟩)) w' := fun w' => by have := hix w' 0 (by omega); simpa using this
      have hmk := hm _ (List.getElem_mem hlt)
      have hm0 := hm _ (List.getElem_mem (show 0 < l.length by omega))
      have gk := getD_at l k hlt
      have g0 := getD_at l 0 (by omega)
      have hpet : petal l s k = (!(l[k] == s) && (iand s l[k] == iand s l[0]) && (k == 0 || iand s l[k] == iand l[0] (l.getD 1 0))) := by unfold petal; rw [gk, g0]
      have hixk := fun W => hix W k hlt
      obtain ⟨t, ht⟩ : ∃ t, t = l[k] := ⟨_, rfl⟩
      obtain ⟨t0, ht0⟩ : ∃ t, t = l[0] := ⟨_, rfl⟩
      rw [← ht] at hck hmk hpet
      rw [← ht0] at hc0 hm0 hpet
      rw [Nat.add_zero] at hc0
      have h1 := iand_is hs0 (show s < 4611686018427387904 by omega) hmk.1 (show t < 4611686018427387904 by omega)
      have h2 := iand_is hs0 (show s < 4611686018427387904 by omega) hm0.1 (show t0 < 4611686018427387904 by omega)
      have HT0 := Lib.hid ht0
      have HT := Lib.hid ht
      clear ht ht0 gk g0
      have bad : petal l s k = false → inFI l s = false := fun h => allTo_false hlt h
      cases c1 : (t == s) with
      | true =>
        have hbad := bad (by rw [hpet, c1]; rfl)
        have HBAD := Lib.hid hbad
        clear hbad bad hpet hc hm h1 h2
        go_wp2_with fail
        go_quiet (fail)
        go_wp2
        go_ret
        exact ⟨ret_bool HBAD.out.symm, ((Below.refl _ _).drewN' _).drewN' _⟩
      | false =>
        cases c2 : (iand s t != iand s t0) with
        | true =>
          have hbad := bad (by rw [hpet]; have : (iand s t == iand s t0) = false := by simpa using c2
                               rw [this]; simp)
          have HBAD := Lib.hid hbad
          obtain ⟨q, hq⟩ : ∃ q, q = iand s t := ⟨_, rfl⟩
          obtain ⟨q0, hq0⟩ : ∃ q, q = iand s t0 := ⟨_, rfl⟩
          rw [← hq] at h1 c2
          rw [← hq0] at h2 c2
          clear hbad bad hpet hc hm hq hq0
          go_wp2_with fail
          go_quiet (fail)
          go_wp2
          go_ret
          exact ⟨ret_bool HBAD.out.symm, ((Below.refl _ _).drewN' _).drewN' _⟩
        | false =>
          have c2' : (iand s t == iand s t0) = true := by simpa using c2
          by_cases hk0 : k = 0
          · have hgood : petal l s k = true := by rw [hpet, c1, c2', hk0]; rfl
            have HG := Lib.hid hgood
            subst hk0
            have ett : t = t0 := HT.out.trans HT0.out.symm
            subst ett
            obtain ⟨q, hq⟩ : ∃ q, q = iand s t := ⟨_, rfl⟩
            rw [← hq] at h1
            clear hgood bad hpet hc hm hq c2' hck h2 c2
            go_wp2_with fail
            go_quiet (fail)
            go_wp2
            go_roundw
            case rel => exact ⟨0 + 1, n + nq, by omega, by go_num, allTo_succ H.out HG.out, by simp⟩
            case measure => simp [intOf]; omega
          · have h1l : 1 < l.length := by omega
            have hc1 := hc 1 h1l
            have hix1 : ∀ w', (Instr.indexAt 22 (.slice a l.length c) (.int .i64 1)).run Tryz.prog w' = .ok (.pointer (some ⟨b, off + 1, none⟩)) w' := fun w' => by have := hix w' 1 h1l; simpa using this
            have hm1 := hm _ (List.getElem_mem h1l)
            have g1 := getD_at l 1 h1l
            rw [g1] at hpet
            obtain ⟨t1, ht1⟩ : ∃ t, t = l[1] := ⟨_, rfl⟩
            rw [← ht1] at hc1 hm1 hpet
            have h3 := iand_is hm0.1 (show t0 < 4611686018427387904 by omega) hm1.1 (show t1 < 4611686018427387904 by omega)
            have hkg : (0 : Int) < k := by omega
            have hkn : 0 < k := by omega
            have hkb : (k == 0) = false := by simpa using hk0
            cases c4 : (iand s t != iand t0 t1) with
            | true =>
              have hbad := bad (by rw [hpet]; have : (iand s t == iand t0 t1) = false := by simpa using c4
                                   rw [this, hkb]; simp)
              have HBAD := Lib.hid hbad
              obtain ⟨q, hq⟩ : ∃ q, q = iand s t := ⟨_, rfl⟩
              obtain ⟨q0, hq0⟩ : ∃ q, q = iand s t0 := ⟨_, rfl⟩
              obtain ⟨q1, hq1⟩ : ∃ q, q = iand t0 t1 := ⟨_, rfl⟩
              rw [← hq] at h1 c2 c4
              rw [← hq0] at h2 c2
              rw [← hq1] at h3 c4
              clear hbad bad hpet hc hm hq hq0 hq1 c2' g1 ht1
              go_wp2_with fail
              go_quiet (fail)
              go_wp2
              go_ret
              exact ⟨ret_bool HBAD.out.symm, ((Below.refl _ _).drewN' _).drewN' _⟩
            | false =>
              have c4' : (iand s t == iand t0 t1) = true := by simpa using c4
              have hgood : petal l s k = true := by rw [hpet, c1, c2', c4']; simp
              have HG := Lib.hid hgood
              obtain ⟨q, hq⟩ : ∃ q, q = iand s t := ⟨_, rfl⟩
              obtain ⟨q0, hq0⟩ : ∃ q, q = iand s t0 := ⟨_, rfl⟩
              obtain ⟨q1, hq1⟩ : ∃ q, q = iand t0 t1 := ⟨_, rfl⟩
              rw [← hq] at h1 c2 c4
              rw [← hq0] at h2 c2
              rw [← hq1] at h3 c4
              clear hgood bad hpet hc hm hq hq0 hq1 c2' c4' g1 ht1
              go_wp2_with fail
              go_quiet (fail)
              go_wp2
              go_roundw
              case rel => exact ⟨k + 1, n + nq, by omega, by go_num, allTo_succ H.out HG.out, by simp⟩
              case measure => simp [intOf]; omega
    · have hkl : k = l.length := by omega
      subst hkl
      go_wp2
      go_ret
      exact ⟨ret_bool H.out.symm, (Below.refl _ _).drewN' _⟩
end Go.Proofs.YtipejodijbjpcaaGreatDoor
end
section
namespace Go.Proofs.YtipejodijbjpcaaGreatDoor
open Go.RowKit Go.G5

end Go.Proofs.YtipejodijbjpcaaGreatDoor
end
section
namespace Go.Proofs.YtipejodijbjpcaaGreatDoor
open Go.RowKit Go.G5

def dAt (l : List Int) (i k : Nat) : Bool := !(l.getD k 0 == l.getD i 0)
def vAt (l : List Int) (i : Nat) : Bool := isSet 6 (l.getD i 0) && allTo (dAt l i) i
def valS (l : List Int) : Bool := decide (l.length ≤ 64) && allTo (vAt l) l.length
def isSunB (l : List Int) : Bool := valS l && sunS l
def flAt (l : List Int) (i : Nat) : Bool := inFI (l.take i) (l.getD i 0)
theorem isSet6 (s : Int) : isSet 6 s = true ↔ 0 ≤ s ∧ s < 64 := by unfold isSet; simp
theorem valS_mem {l : List Int} (h : valS l = true) : l.length ≤ 64 ∧ (∀ x ∈ l, 0 ≤ x ∧ x < 64) ∧ ∀ i, i < l.length → ∀ k, k < i → l.getD k 0 ≠ l.getD i 0 := by
  unfold valS at h
  obtain ⟨h1, h2⟩ := Bool.and_eq_true_iff.1 h
  have h2 := allTo_iff.1 h2
  refine ⟨of_decide_eq_true h1, fun x hx => ?_, fun i hi k hk => ?_⟩
  · obtain ⟨i, hi, rfl⟩ := List.getElem_of_mem hx
    have := h2 i hi
    unfold vAt at this
    obtain ⟨h3, _⟩ := Bool.and_eq_true_iff.1 this
    rw [getD_at l i hi] at h3
    exact (isSet6 _).1 h3
  · have := h2 i hi
    unfold vAt at this
    obtain ⟨_, h3⟩ := Bool.and_eq_true_iff.1 this
    have h4 := allTo_iff.1 h3 k hk
    unfold dAt at h4
    simpa using h4
theorem inFI_mem (l : List Int) (s : Int) (h : s ∈ l) : inFI l s = false := by
  obtain ⟨i, hi, rfl⟩ := List.getElem_of_mem h
  unfold inFI
  refine allTo_false hi ?_
  unfold petal
  rw [getD_at l i hi]
  simp
theorem fl_same (l : List Int) : ∀ n, n ≤ l.length → (allTo (flAt l) n = true ↔ (∀ i, i < n → ∀ k, k < i → l.getD k 0 ≠ l.getD i 0) ∧ sunS (l.take n) = true) := by
  intro n
  induction n with
  | zero => intro _; simp [allTo, sunS]
  | succ n ih =>
    intro hn
    have hln : n < l.length := by omega
    have htk : l.take (n + 1) = l.take n ++ [l.getD n 0] := by rw [List.take_succ_eq_append_getElem hln, getD_at l n hln]
    have hmem : l.getD n 0 ∈ l.take n ↔ ∃ k, k < n ∧ l.getD k 0 = l.getD n 0 := by
      constructor
      · intro h
        obtain ⟨k, hk, he⟩ := List.getElem_of_mem h
        have hk2 : k < n := by simp at hk; omega
        refine ⟨k, hk2, ?_⟩
        rw [getD_at l k (by omega), ← he]
        simp
      · rintro ⟨k, hk, he⟩
        rw [← he, getD_at l k (by omega)]
        exact List.mem_take_iff_getElem.2 ⟨k, by omega, rfl⟩
    rw [allTo, Bool.and_eq_true, ih (by omega), htk]
    constructor
    · rintro ⟨⟨h1, h2⟩, h3⟩
      have hnm : l.getD n 0 ∉ l.take n := fun hm => by unfold flAt at h3; rw [inFI_mem _ _ hm] at h3; cases h3
      refine ⟨fun i hi k hk => ?_, ?_⟩
      · by_cases hin : i < n
        · exact h1 i hin k hk
        · have : i = n := by omega
          subst this
          exact fun e => hnm (hmem.2 ⟨k, hk, e⟩)
      · unfold flAt at h3
        rw [flower_test _ _ h2 hnm] at h3
        exact h3
    · rintro ⟨h1, h2⟩
      have hnm : l.getD n 0 ∉ l.take n := fun hm => by
        obtain ⟨k, hk, e⟩ := hmem.1 hm
        exact h1 n (by omega) k hk e
      have hst : sunS (l.take n) = true := by
        rw [sunS_iff] at h2 ⊢
        intro i hi k hk
        have hlen : (l.take n).length = n := by simp; omega
        have := h2 i (by simp; omega) k hk
        rw [getD_app _ _ i hi, getD_app _ _ k (by omega)] at this
        by_cases h1n : 1 < n
        · rw [getD_app _ _ 0 (by omega), getD_app _ _ 1 (by omega)] at this
          exact this
        · omega
      refine ⟨⟨fun i hi k hk => h1 i (by omega) k hk, hst⟩, ?_⟩
      unfold flAt
      rw [flower_test _ _ hst hnm]
      exact h2
theorem isSun_impl (l : List Int) (h64 : l.length ≤ 64) (ha : areSetsB 6 l = true) : isSunB l = allTo (flAt l) l.length := by
  have hs : ∀ i, i < l.length → isSet 6 (l.getD i 0) = true := by
    intro i hi
    unfold areSetsB at ha
    simp only [Bool.and_eq_true, List.all_eq_true] at ha
    rw [getD_at l i hi]
    exact ha.2 _ (List.getElem_mem hi)
  have h := fl_same l l.length (Nat.le_refl _)
  rw [List.take_of_length_le (Nat.le_refl _)] at h
  have e : isSunB l = true ↔ allTo (flAt l) l.length = true := by
    rw [h]
    unfold isSunB
    rw [Bool.and_eq_true]
    constructor
    · rintro ⟨h1, h2⟩
      exact ⟨(valS_mem h1).2.2, h2⟩
    · rintro ⟨h1, h2⟩
      refine ⟨?_, h2⟩
      unfold valS
      rw [decide_eq_true h64, Bool.true_and]
      refine allTo_iff.2 fun i hi => ?_
      unfold vAt
      rw [hs i hi, Bool.true_and]
      exact allTo_iff.2 fun k hk => by unfold dAt; simpa using h1 i hi k hk
  cases h1 : isSunB l with
  | true => rw [e.1 h1]
  | false =>
    cases h2 : allTo (flAt l) l.length with
    | false => rfl
    | true => rw [e.2 h2] at h1; cases h1
theorem isSun_no {l : List Int} (h : ¬ l.length ≤ 64 ∨ areSetsB 6 l = false) : isSunB l = false := by
  cases hb : isSunB l with
  | false => rfl
  | true =>
    unfold isSunB at hb
    obtain ⟨h1, h2, _⟩ := valS_mem (Bool.and_eq_true_iff.1 hb).1
    rcases h with h | h
    · exact absurd h1 h
    · unfold areSetsB at h
      have : l.all (isSet (6 : Int).toNat) = true := List.all_eq_true.2 fun x hx => (isSet6 x).2 (h2 x hx)
      rw [this] at h
      cases h

set_option maxHeartbeats 1000000 in
set_option maxRecDepth 100000 in
theorem isSunI_any (l : List Int) (v : Value) (w : World) (hv : Ints w v l) :
    Calls Tryz.prog 255 #[v] w fun e w' => e = .returned (.bool (isSunB l)) ∧ Below w.heap.size w w' := by
  have hv0 := hv
  obtain ⟨a, b, off, c, rfl, hlen, hix, hc, hb⟩ := hv.view Tryz.prog 22 3 Tryz.underlying22 intElem
  by_cases h64 : l.length ≤ 64
  · have h64i : ¬ (64 : Int) < (l.length : Int) := by omega
    cases ha : areSetsB 6 l with
    | false =>
      have hx : isSunB l = false := isSun_no (.inr ha)
      have HX := Lib.hid hx
      have HA := Lib.hid (areSets_any 6 l _ w hv0)
      rw [ha] at HA
      clear hx ha
      go_enter Tryz.func255, Tryz.ntmps255
      go_wp2_with (go_at_call 224; refine HA.out.mono ?_; rintro e w' ⟨rfl, rfl⟩)
      go_ret
      exact ⟨ret_bool HX.out.symm, Below.refl _ _⟩
    | true =>
      have hx := isSun_impl l h64 ha
      have hm : ∀ x ∈ l, 0 ≤ x ∧ x < 64 := by
        intro x hx
        unfold areSetsB at ha
        simp only [Bool.and_eq_true, List.all_eq_true] at ha
        exact (isSet6 x).1 (ha.2 x hx)
      have HX := Lib.hid hx
      have HM := Lib.hid hm
      have HA := Lib.hid (areSets_any 6 l _ w hv0)
      rw [ha] at HA
      clear hx ha hm
      go_enter Tryz.func255, Tryz.ntmps255
      go_wp2_with (go_at_call 224; refine HA.out.mono ?_; rintro e w' ⟨rfl, rfl⟩)
      go_loopw [15] (fun i wr => ∃ k : Nat, k ≤ l.length ∧ i = .int .i64 k ∧ allTo (flAt l) k = true ∧ Below w.heap.size w wr) (fun i _ => l.length - (intOf i).toNat)
      case atStart => exact ⟨0, Nat.zero_le _, rfl, rfl, Below.refl _ _⟩
      case round =>
        obtain ⟨k, hk, rfl, hall, B⟩ := hrel
        have H := Lib.hid hall
        clear hall
        by_cases hlt : k < l.length
        · have hlt2 : (k : Int) < (l.length : Int) := by omega
          have hv1 := hv0.below B (Nat.le_refl _)
          obtain ⟨u1, u2⟩ := hv1.upto 22 3 Tryz.underlying22 intElem k hk
          have ck := cells_below hc hb B (Nat.le_refl _) k hlt
          have ik := fun W => hix W k hlt
          have hfl : flAt l k = inFI (l.take k) l[k] := by unfold flAt; rw [getD_at l k hlt]
          have hsk := HM.out _ (List.getElem_mem hlt)
          have hmk : ∀ x ∈ l.take k, 0 ≤ x ∧ x < 64 := fun x hx => HM.out x (List.mem_of_mem_take hx)
          have HF := Lib.hid (inFlower_any (l.take k) _ l[k] wr u2 hmk hsk)
          rw [← hfl] at HF
          obtain ⟨y, hy⟩ : ∃ y, y = l[k] := ⟨_, rfl⟩
          rw [← hy] at HF ck
          clear hfl hmk hy hsk hc hix
          cases hfk : flAt l k with
          | true =>
            rw [hfk] at HF
            have HFK := Lib.hid hfk
            clear hfk
            go_wp2_with (go_at_call 321; refine HF.out.mono ?_; rintro e w3 ⟨rfl, b3⟩)
            go_roundw
            case rel => exact ⟨k + 1, by omega, by go_num, allTo_succ H.out HFK.out, B.after b3 B.size⟩
            case measure => simp [intOf]; omega
          | false =>
            rw [hfk] at HF
            have hno : isSunB l = false := by rw [HX.out]; exact allTo_false hlt hfk
            have HNO := Lib.hid hno
            clear hfk hno
            go_wp2_with (go_at_call 321; refine HF.out.mono ?_; rintro e w3 ⟨rfl, b3⟩)
            go_ret
            exact ⟨ret_bool HNO.out.symm, B.after b3 B.size⟩
        · have hlt2 : ¬ (k : Int) < (l.length : Int) := by omega
          have hkl : k = l.length := by omega
          have hyes : isSunB l = true := by rw [HX.out, ← hkl]; exact H.out
          have HY := Lib.hid hyes
          clear hkl hyes
          go_wp2
          go_ret
          exact ⟨ret_bool HY.out.symm, B⟩
  · have h64i : (64 : Int) < (l.length : Int) := by omega
    have hx : isSunB l = false := isSun_no (.inl h64)
    have HX := Lib.hid hx
    clear hx
    go_enter Tryz.func255, Tryz.ntmps255
    go_wp2
    go_ret
    exact ⟨ret_bool HX.out.symm, Below.refl _ _⟩
end Go.Proofs.YtipejodijbjpcaaGreatDoor
end
section
namespace Go.Proofs.YtipejodijbjpcaaGreatDoor
open Go.RowKit Go.G5

end Go.Proofs.YtipejodijbjpcaaGreatDoor
end
section
namespace Go.Proofs.YtipejodijbjpcaaGreatDoor
open Go.RowKit Go.G5

end Go.Proofs.YtipejodijbjpcaaGreatDoor
end
section
namespace Go.Proofs.YtipejodijbjpcaaGreatDoor
open Go.RowKit Go.G5

theorem hm_tb (y e : Nat) : nbit y e = y.testBit e := by
  unfold nbit
  rw [Nat.testBit_eq_decide_div_mod_eq]
  rcases Nat.mod_two_eq_zero_or_one (y / 2 ^ e) with h | h <;> simp [h]
theorem hm_or (x y e : Nat) : nbit (x ||| y) e = (nbit x e || nbit y e) := by simp only [hm_tb, Nat.testBit_or]
theorem hm_lt (G x e : Nat) (hx : x < 2 ^ G) (h : nbit x e = true) : e < G := by
  rcases Nat.lt_or_ge e G with h1 | h1
  · exact h1
  · rw [hm_tb, Nat.testBit_lt_two_pow (Nat.lt_of_lt_of_le hx (Nat.pow_le_pow_right (by decide) h1))] at h
    cases h
theorem hm_mod : ∀ a, a < 64 → ∀ b, b < 64 → pop (a ||| b) + pop (a &&& b) = pop a + pop b := by decide +kernel
theorem hm_mono : ∀ a, a < 64 → ∀ b, b < 64 → pop a ≤ pop (a ||| b) := by decide +kernel
theorem hm_off : ∀ y, y < 64 → ∀ e, e < 6 → (pop (ndiff y (2 ^ e)) + (if nbit y e then 1 else 0) = pop y ∧ ndiff y (2 ^ e) < 64) := by decide +kernel
theorem hm_nd : ∀ x, x < 64 → ∀ u, u < 64 → ∀ e, e < 6 → ndiff x (u ||| 2 ^ e) = ndiff (ndiff x u) (2 ^ e) := by decide +kernel
theorem hm_ndor : ∀ a, a < 64 → ∀ b, b < 64 → ∀ e, e < 6 → ndiff (a ||| b) (2 ^ e) = ndiff a (2 ^ e) ||| ndiff b (2 ^ e) := by decide +kernel
theorem hm_bit : ∀ x, x < 64 → ∀ u, u < 64 → ∀ e, e < 6 → nbit (ndiff x u) e = (nbit x e && !nbit u e) := by decide +kernel
theorem hm_sub : ∀ a, a < 64 → ∀ b, b < 64 → (∀ e, e < 6 → nbit a e = true → nbit b e = true) → b ||| a = b := by decide +kernel
theorem hm_nd0 (x : Nat) : ndiff x 0 = x := by unfold ndiff; simp

end Go.Proofs.YtipejodijbjpcaaGreatDoor
end
