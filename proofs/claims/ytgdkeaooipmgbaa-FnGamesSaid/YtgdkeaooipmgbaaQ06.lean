/- Draws: numbers below a bound, picks, a new cursor. Sorted lists without repetition: the plain law. Numbers that are put into an ascending list. The walk of l15Put. -/
import Derived.Test.YtgdkeaooipmgbaaQ05
import Derived.Lib.SlicesCompact
import Derived.Deep.RegionHeld3
import Derived.Deep.AppendLies
section
namespace Go.Proofs.Ytgdkeaooipmgbaa
open Go.RowKit Go.G5

set_option maxHeartbeats 1000000 in
set_option maxRecDepth 100000 in
theorem l1Below_any (w : World) (g : Nat) (D : Dr w g) (n : Int) :
    Calls Try.prog 66 #[.pointer (some ⟨g, 0, none⟩), .int .i64 n] w fun e w' => ∃ x : Int, e = .returned (.int .i64 x) ∧ InR x ∧ (0 < n → 0 ≤ x ∧ x < n) ∧ (n ≤ 0 → x = 0) ∧ Dr w' g ∧ w.grownBy w' (some g) := by
  by_cases h0 : n ≤ 0
  · go_enter Try.func66, Try.ntmps66
    go_wp2
    go_ret
    exact ⟨0, rfl, ⟨by omega, by omega⟩, fun h => by omega, fun _ => rfl, D, World.grownBy.refl _ _⟩
  · by_cases h1 : n ≤ 256
    · go_enter Try.func66, Try.ntmps66
      go_wp2_with fail
      refine (l1Byte_any w g D).mono ?_
      rintro e w1 ⟨x, hx, rfl, D1, g1⟩
      have hne : n ≠ 0 := by omega
      have hm1 : Int.tmod (x : Int) n = (x : Int) % n := Int.tmod_eq_emod_of_nonneg (by omega)
      have hm2 := Int.emod_nonneg (x : Int) hne
      have hm3 := Int.emod_lt_of_pos (x : Int) (show 0 < n by omega)
      go_wp2
      go_ret
      exact ⟨(x : Int) % n, rfl, ⟨by omega, by omega⟩, fun _ => ⟨by omega, by omega⟩, fun h => by omega, D1, g1⟩
    · go_enter Try.func66, Try.ntmps66
      go_wp2_with fail
      refine (l1Byte_any w g D).mono ?_
      rintro e w1 ⟨x, hx, rfl, D1, g1⟩
      go_wp2_with fail
      refine (l1Byte_any w1 g D1).mono ?_
      rintro e w2 ⟨y, hy, rfl, D2, g2⟩
      go_wp2_with fail
      refine (l1Byte_any w2 g D2).mono ?_
      rintro e w3 ⟨z, hz, rfl, D3, g3⟩
      go_wp2_with fail
      refine (l1Byte_any w3 g D3).mono ?_
      rintro e w4 ⟨q, hq, rfl, D4, g4⟩
      have hne : n ≠ 0 := by omega
      obtain ⟨t, ht⟩ : ∃ t : Int, t = (x : Int) * 16777216 + (y : Int) * 65536 + (z : Int) * 256 + (q : Int) := ⟨_, rfl⟩
      have hm1 : Int.tmod t n = t % n := Int.tmod_eq_emod_of_nonneg (by omega)
      have hm2 := Int.emod_nonneg t hne
      have hm3 := Int.emod_lt_of_pos t (show 0 < n by omega)
      have hm5 := Int.mul_ediv_add_emod t n
      have hm6 := Int.ediv_nonneg (a := t) (b := n) (by omega) (by omega)
      have hm7 : 0 ≤ n * (t / n) := Int.mul_nonneg (by omega) hm6
      have hm4 : t % n ≤ t := by omega
      clear hm5 hm6 hm7
      have g14 := gr_trans (gr_trans (gr_trans g1 g2) g3) g4
      go_wp2
      rw [← ht]
      go_ret
      exact ⟨t % n, rfl, ⟨by omega, by omega⟩, fun _ => ⟨by omega, by omega⟩, fun h => by omega, D4, g14⟩
set_option maxHeartbeats 1000000 in
theorem l1Once_any (w : World) (g : Nat) (D : Dr w g) (n : Int) :
    Calls Try.prog 64 #[.pointer (some ⟨g, 0, none⟩), .int .i64 n] w fun e w' => ∃ b : Bool, e = .returned (.bool b) ∧ Dr w' g ∧ w.grownBy w' (some g) := by
  go_enter Try.func64, Try.ntmps64
  go_wp2_with fail
  refine (l1Below_any w g D n).mono ?_
  rintro e w1 ⟨x, rfl, hx, _, _, D1, g1⟩
  go_wp2
  go_ret
  exact ⟨_, rfl, D1, g1⟩
set_option maxHeartbeats 1000000 in
set_option maxRecDepth 100000 in
theorem l1PickInt_any (w : World) (g : Nat) (D : Dr w g) (B : Nat) (hB : g < B) (v : Value) (l : List Int) (ho : OwnI 3 B w v l) (h0 : 0 < l.length) :
    Calls Try.prog 65 #[.pointer (some ⟨g, 0, none⟩), v] w fun e w' => ∃ x : Int, e = .returned (.int .i64 x) ∧ x ∈ l ∧ Dr w' g ∧ w.grownBy w' (some g) := by
  obtain ⟨a, c, rfl⟩ := ho.shape
  go_enter Try.func65, Try.ntmps65
  go_wp2_with fail
  refine (l1Below_any w g D (l.length : Int)).mono ?_
  rintro e w1 ⟨x, rfl, _, hx, _, D1, g1⟩
  have hx := hx (by omega)
  obtain ⟨k, rfl⟩ := Int.eq_ofNat_of_zero_le hx.1
  have hk : k < l.length := by omega
  have o1 := ho.grow g1 (fun q hq e => by have := Option.some.inj hq; have := (ho.lt _ e).1; omega)
  obtain ⟨a', b, off, c', he, hlen, hix, hc, hb⟩ := o1.ints.view Try.prog 24 3 Try.underlying24 intElem
  simp only [Value.slice.injEq] at he
  obtain ⟨rfl, _, rfl⟩ := he
  have ck := hc k hk
  have ik := fun W => hix W k hk
  have hmem := List.getElem_mem hk
  obtain ⟨y, hy⟩ : ∃ y, y = l[k] := ⟨_, rfl⟩
  rw [← hy] at ck hmem
  have HM := Lib.hid hmem
  clear hc hix hy hmem
  go_wp2
  go_ret
  exact ⟨y, rfl, HM.out, D1, g1⟩
set_option maxHeartbeats 1000000 in
set_option maxRecDepth 100000 in
theorem l1New_any (w : World) (v : Value) (l : List Nat) (hv : Byts w v l) :
    Calls Try.prog 34 #[v] w fun e w' => e = .returned (.pointer (some ⟨w.heap.size, 0, none⟩)) ∧ Dr w' w.heap.size ∧ Below w.heap.size w w' := by
  have hv0 := hv
  obtain ⟨a, b, off, c, rfl, hlen, hix, hc, hb, h256⟩ := hv.view Try.prog 22 5 Try.underlying22 byteElem
  have hD : ∀ h : Int, Dr (w.alloc (.cells #[.slice a l.length c, .int .i64 0, .int .i64 h] 68)) w.heap.size := fun h =>
    ⟨_, l, 0, h, Blk.new _ _ _, hv0.below (bl1 _ _) (Nat.le_refl _), fun h0 b' off' n' c' e => by
      obtain ⟨a2, c2, e2, _, _, _, h4⟩ := hv0
      simp only [Value.slice.injEq] at e e2
      obtain ⟨rfl, _⟩ := e
      obtain ⟨rfl, _⟩ := e2
      rcases h4 with rfl | ⟨b3, off3, e3, hlt, _⟩
      · exact absurd rfl h0
      · simp only [Option.some.injEq, Addr.mk.injEq] at e3
        omega⟩
  go_enter Try.func34, Try.ntmps34
  go_wp2_with fail
  go_loop [3, 4] (fun h i => ∃ (hh : Int) (k : Nat), h = .int .i64 hh ∧ k ≤ l.length ∧ i = .int .i64 k) (fun _ i => l.length - (intOf i).toNat)
  case atStart => exact ⟨_, 0, rfl, Nat.zero_le _, rfl⟩
  case round =>
    obtain ⟨hh, k, rfl, hk, rfl⟩ := hrel
    by_cases hlt : k < l.length
    · have hlt2 : (k : Int) < (l.length : Int) := by omega
      have ck := hc k hlt
      have ik := fun W => hix W k hlt
      have hx := h256 l[k] (List.getElem_mem _)
      obtain ⟨y, hy⟩ : ∃ y, y = l[k] := ⟨_, rfl⟩
      rw [← hy] at ck hx
      by_cases h4 : (k : Int) < 4000
      · go_wp2
        go_round
        case rel => exact ⟨_, k + 1, rfl, by omega, by go_num⟩
        case measure => simp [intOf]; omega
      · go_wp2
        go_ret
        exact ⟨rfl, hD _, bl1 _ _⟩
    · have hlt2 : ¬ (k : Int) < (l.length : Int) := by omega
      go_wp2
      go_ret
      exact ⟨rfl, hD _, bl1 _ _⟩
end Go.Proofs.Ytgdkeaooipmgbaa
end
section
namespace Go.Proofs.Ytgdkeaooipmgbaa
open Go.RowKit Go.G5

/-! the plain law of sort and compact -/
def gatherL (l : List Int) : List Int := Lib.compact (l.mergeSort fun x y => decide (x ≤ y))
theorem compact_asc (d : Array Int) (mono : ∀ i j, i ≤ j → j < d.size → d[i]! ≤ d[j]!) : ∀ m, m ≤ d.size →
    (Lib.compactUpTo d m).Pairwise (· < ·) ∧ (∀ x ∈ Lib.compactUpTo d m, ∃ j, j < m ∧ x = d[j]!) ∧ (∀ j, j < m → d[j]! ∈ Lib.compactUpTo d m) := by
  intro m
  induction m with
  | zero => intro _; simp [Lib.compactUpTo]
  | succ m ih =>
    intro hm
    obtain ⟨h1, h2, h3⟩ := ih (by omega)
    rw [Lib.compactUpTo_succ]
    by_cases hk : Lib.keeps d m = true
    · rw [if_pos hk]
      have hlt : ∀ x ∈ Lib.compactUpTo d m, x < d[m]! := by
        intro x hx
        obtain ⟨j, hj, rfl⟩ := h2 x hx
        have e1 := mono j (m - 1) (by omega) (by omega)
        have e2 := mono (m - 1) m (by omega) (by omega)
        unfold Lib.keeps at hk
        have hk' := of_decide_eq_true hk
        rcases hk' with h0 | hne
        · omega
        · omega
      refine ⟨?_, ?_, ?_⟩
      · rw [List.pairwise_append]
        exact ⟨h1, by simp, fun a ha b hb => by simp only [List.mem_singleton] at hb; rw [hb]; exact hlt a ha⟩
      · intro x hx
        rcases List.mem_append.1 hx with hx | hx
        · obtain ⟨j, hj, e⟩ := h2 x hx
          exact ⟨j, by omega, e⟩
        · simp only [List.mem_singleton] at hx
          exact ⟨m, by omega, hx⟩
      · intro j hj
        by_cases hjm : j < m
        · exact List.mem_append.2 (.inl (h3 j hjm))
        · have : j = m := by omega
          subst this
          exact List.mem_append.2 (.inr (by simp))
    · rw [if_neg hk, List.append_nil]
      refine ⟨h1, fun x hx => ?_, fun j hj => ?_⟩
      · obtain ⟨j, hj, e⟩ := h2 x hx
        exact ⟨j, by omega, e⟩
      · by_cases hjm : j < m
        · exact h3 j hjm
        · have : j = m := by omega
          subst this
          unfold Lib.keeps at hk
          have hk' : ¬ (j = 0 ∨ d[j]! ≠ d[j - 1]!) := fun h => hk (decide_eq_true h)
          have h0 : j ≠ 0 := fun h => hk' (.inl h)
          have he : d[j]! = d[j - 1]! := Classical.byContradiction fun h => hk' (.inr h)
          rw [he]
          exact h3 (j - 1) (by omega)
theorem sort_mono (l : List Int) : ∀ i j, i ≤ j → j < (l.mergeSort fun x y => decide (x ≤ y)).toArray.size → (l.mergeSort fun x y => decide (x ≤ y)).toArray[i]! ≤ (l.mergeSort fun x y => decide (x ≤ y)).toArray[j]! := by
  have hp : (l.mergeSort fun x y => decide (x ≤ y)).Pairwise (fun a b => decide (a ≤ b) = true) :=
    List.pairwise_mergeSort (le := fun x y : Int => decide (x ≤ y)) (fun a b c h1 h2 => decide_eq_true (Int.le_trans (of_decide_eq_true h1) (of_decide_eq_true h2))) (fun a b => by
      rcases Int.le_total a b with h | h
      · show (decide (a ≤ b) || decide (b ≤ a)) = true
        rw [decide_eq_true h]; rfl
      · show (decide (a ≤ b) || decide (b ≤ a)) = true
        rw [decide_eq_true h]; simp) l
  generalize l.mergeSort (fun x y => decide (x ≤ y)) = s at *
  intro i j hij hj
  rw [getElem!_pos s.toArray i (by omega), getElem!_pos s.toArray j hj]
  simp only [List.getElem_toArray]
  rcases Nat.lt_or_ge i j with h | h
  · exact of_decide_eq_true (List.pairwise_iff_getElem.1 hp i j (by simpa using (show i < s.toArray.size by omega)) (by simpa using hj) h)
  · have : i = j := by omega
    subst this
    exact Int.le_refl _
theorem gatherL_asc (l : List Int) : (gatherL l).Pairwise (· < ·) := by
  have := (compact_asc _ (sort_mono l) _ (Nat.le_refl _)).1
  simpa [gatherL, Lib.compact] using this
theorem gatherL_mem (l : List Int) (x : Int) : x ∈ gatherL l ↔ x ∈ l := by
  have h := compact_asc _ (sort_mono l) _ (Nat.le_refl _)
  have hm : ∀ y, y ∈ (l.mergeSort fun x y => decide (x ≤ y)) ↔ y ∈ l := fun y => List.mem_mergeSort
  have e : gatherL l = Lib.compactUpTo (l.mergeSort fun x y => decide (x ≤ y)).toArray (l.mergeSort fun x y => decide (x ≤ y)).toArray.size := by simp [gatherL, Lib.compact]
  rw [e, ← hm]
  generalize l.mergeSort (fun x y => decide (x ≤ y)) = s at *
  constructor
  · intro hx
    obtain ⟨j, hj, rfl⟩ := h.2.1 x hx
    rw [getElem!_pos s.toArray j hj]
    simp
  · intro hx
    obtain ⟨j, hj, rfl⟩ := List.getElem_of_mem hx
    have := h.2.2 j (by simpa using hj)
    rw [getElem!_pos s.toArray j (by simpa using hj)] at this
    simpa using this
/-- strictly ascending lists of the same numbers are the same -/
theorem asc_ext : ∀ (a b : List Int), a.Pairwise (· < ·) → b.Pairwise (· < ·) → (∀ x, x ∈ a ↔ x ∈ b) → a = b := by
  intro a
  induction a with
  | nil =>
    intro b _ _ h
    cases b with
    | nil => rfl
    | cons y b => have := (h y).2 (by simp); simp at this
  | cons x a ih =>
    intro b ha hb h
    cases b with
    | nil => have := (h x).1 (by simp); simp at this
    | cons y b =>
      obtain ⟨ha1, ha2⟩ := List.pairwise_cons.1 ha
      obtain ⟨hb1, hb2⟩ := List.pairwise_cons.1 hb
      have hxy : x = y := by
        have h1 := (h x).1 (by simp)
        have h2 := (h y).2 (by simp)
        rcases List.mem_cons.1 h1 with h1 | h1
        · exact h1
        · rcases List.mem_cons.1 h2 with h2 | h2
          · exact h2.symm
          · have := hb1 x h1; have := ha1 y h2; omega
      subst hxy
      rw [ih b ha2 hb2 fun z => ?_]
      constructor
      · intro hz
        rcases List.mem_cons.1 ((h z).1 (List.mem_cons.2 (.inr hz))) with e | e
        · subst e; have := ha1 z hz; omega
        · exact e
      · intro hz
        rcases List.mem_cons.1 ((h z).2 (List.mem_cons.2 (.inr hz))) with e | e
        · subst e; have := hb1 z hz; omega
        · exact e
theorem gatherL_id (l : List Int) (h : l.Pairwise (· < ·)) : gatherL l = l := asc_ext _ _ (gatherL_asc l) h (gatherL_mem l)
theorem compact_len (d : Array Int) (m : Nat) : (Lib.compactUpTo d m).length ≤ m := by
  unfold Lib.compactUpTo
  rw [List.length_map]
  have := List.length_filter_le (Lib.keeps d) (List.range m)
  simpa using this
theorem gatherL_len (l : List Int) : (gatherL l).length ≤ l.length := by
  have := compact_len (l.mergeSort fun x y => decide (x ≤ y)).toArray (l.mergeSort fun x y => decide (x ≤ y)).length
  unfold gatherL Lib.compact
  simpa using this

/-! the library's functions in these words -/
end Go.Proofs.Ytgdkeaooipmgbaa
end
section
namespace Go.Proofs.Ytgdkeaooipmgbaa
open Go.RowKit Go.G5

def putL (l : List Int) (x : Int) : List Int := gatherL (l ++ [x])
theorem putL_mem (l : List Int) (x y : Int) : y ∈ putL l x ↔ y ∈ l ∨ y = x := by
  unfold putL; rw [gatherL_mem]; simp
theorem putL_asc (l : List Int) (x : Int) : (putL l x).Pairwise (· < ·) := gatherL_asc _
theorem putL_len (l : List Int) (x : Int) : (putL l x).length ≤ l.length + 1 := by
  have := gatherL_len (l ++ [x])
  simpa [putL] using this
theorem putL_gather (A : List Int) (x : Int) : putL (gatherL A) x = gatherL (A ++ [x]) := by
  refine asc_ext _ _ (putL_asc _ _) (gatherL_asc _) ?_
  intro y
  rw [putL_mem, gatherL_mem, gatherL_mem]
  simp
theorem put_have (l : List Int) (x : Int) (h : l.Pairwise (· < ·)) (hx : x ∈ l) : putL l x = l := by
  refine asc_ext _ _ (putL_asc _ _) h ?_
  intro y
  rw [putL_mem]
  constructor
  · rintro (h | h)
    · exact h
    · rw [h]; exact hx
  · exact .inl
theorem put_new (l : List Int) (x : Int) (i : Nat) (h : l.Pairwise (· < ·)) (h1 : ∀ y ∈ l.drop i, x < y) (h2 : ∀ y ∈ l.take i, y < x) : putL l x = (l.take i ++ [x]) ++ l.drop i := by
  refine asc_ext _ _ (putL_asc _ _) ?_ ?_
  · rw [← List.take_append_drop i l, List.pairwise_append] at h
    rw [List.pairwise_append, List.pairwise_append]
    refine ⟨⟨h.1, by simp, ?_⟩, h.2.1, ?_⟩
    · intro a ha b hb
      rw [List.mem_singleton] at hb
      rw [hb]; exact h2 a ha
    · intro a ha b hb
      rw [List.mem_append, List.mem_singleton] at ha
      rcases ha with ha | ha
      · exact h.2.2 a ha b hb
      · rw [ha]; exact h1 b hb
  · intro y
    rw [putL_mem]
    conv => lhs; rw [← List.take_append_drop i l]
    simp only [List.mem_append, List.mem_singleton]
    constructor
    · rintro ((h | h) | h)
      · exact .inl (.inl h)
      · exact .inr h
      · exact .inl (.inr h)
    · rintro ((h | h) | h)
      · exact .inl (.inl h)
      · exact .inr h
      · exact .inl (.inr h)
theorem take_below (l : List Int) (x : Int) (i : Nat) (h : l.Pairwise (· < ·)) (hi : i < l.length) (hx : l[i] < x) : ∀ y ∈ l.take (i + 1), y < x := by
  intro y hy
  rw [List.take_succ_eq_append_getElem hi, List.mem_append, List.mem_singleton] at hy
  rcases hy with hy | hy
  · obtain ⟨j, hj, rfl⟩ := List.getElem_of_mem hy
    rw [List.length_take] at hj
    have := List.pairwise_iff_getElem.1 h j i (by omega) hi (by omega)
    rw [List.getElem_take]
    omega
  · rw [hy]; exact hx
theorem drop_above (l : List Int) (x : Int) (i : Nat) (hi : i < l.length) (h : ∀ y ∈ l.drop (i + 1), x < y) (hx : x < l[i]) : ∀ y ∈ l.drop i, x < y := by
  intro y hy
  rw [List.drop_eq_getElem_cons hi, List.mem_cons] at hy
  rcases hy with hy | hy
  · rw [hy]; exact hx
  · exact h y hy
end Go.Proofs.Ytgdkeaooipmgbaa
end
section
namespace Go.Proofs.Ytgdkeaooipmgbaa
open Go.RowKit Go.G5

end Go.Proofs.Ytgdkeaooipmgbaa
end
