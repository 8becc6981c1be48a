/- Games: what the law asks, in plain lists. Games: supermodular functions, their corners and the core, in plain lists. -/
import Derived.Test.YtelmokapdkepbaaGreatDoorQ35
section
namespace Go.Proofs.YtelmokapdkepbaaGreatDoor
open Go.RowKit Go.G5

/-! sums of values with factors -/
def dot (l : List Int) : List (Int × Nat) → Int
  | [] => 0
  | t :: r => t.1 * l.getD t.2 0 + dot l r
def cof (i : Nat) : List (Int × Nat) → Int
  | [] => 0
  | t :: r => t.1 * one t.2 i + cof i r
theorem dot_app (l : List Int) (a b : List (Int × Nat)) : dot l (a ++ b) = dot l a + dot l b := by
  induction a with
  | nil => simp [dot]
  | cons t a ih => rw [List.cons_append, dot, dot, ih]; omega
def negT (a : List (Int × Nat)) : List (Int × Nat) := a.map fun t => (-t.1, t.2)
theorem dot_neg (l : List Int) (a : List (Int × Nat)) : dot l (negT a) = - dot l a := by
  induction a with
  | nil => simp [negT, dot]
  | cons t a ih =>
    have : negT (t :: a) = (-t.1, t.2) :: negT a := rfl
    rw [this, dot, dot, ih]
    dsimp only
    rw [Int.neg_mul]; omega
theorem dot_cof (l : List Int) (n : Nat) (ts : List (Int × Nat)) (h : ∀ t ∈ ts, t.2 < n) : dot l ts = sumN (fun i => cof i ts * l.getD i 0) n := by
  induction ts with
  | nil => simp only [dot, cof, Int.zero_mul, sumN_zero]
  | cons t ts ih =>
    have ht := h t (by simp)
    rw [dot, ih (fun x hx => h x (by simp [hx]))]
    have e : (fun i => cof i (t :: ts) * l.getD i 0) = fun i => t.1 * one t.2 i * l.getD i 0 + cof i ts * l.getD i 0 := by
      funext i
      rw [cof, Int.add_mul]
    rw [e, sumN_add, sumN_one, if_pos ht]
theorem sumN_nonneg (f : Nat → Int) (n : Nat) (h : ∀ i, i < n → 0 ≤ f i) : 0 ≤ sumN f n := by
  induction n with
  | zero => simp [sumN]
  | succ n ih =>
    have h1 := ih (fun i hi => h i (by omega))
    have h2 := h n (by omega)
    rw [sumN]; omega

/-! masses give the values back -/
def partT (s : Nat) : Nat → List (Int × Nat)
  | 0 => []
  | k + 1 => if ndiff k s = 0 then (if pop (ndiff s k) % 2 = 1 then (-1, k) :: partT s k else (1, k) :: partT s k) else partT s k
def wholeT (s : Nat) : Nat → List (Int × Nat)
  | 0 => []
  | k + 1 => if ndiff k s = 0 then (1, k) :: wholeT s k else wholeT s k
def backT (s : Nat) : Nat → List (Int × Nat)
  | 0 => []
  | k + 1 => if ndiff k s = 0 then partT k (k + 1) ++ backT s k else backT s k
theorem massTo_dot (l : List Int) (s k : Nat) : massTo l s k = dot l (partT s k) := by
  induction k with
  | zero => rfl
  | succ k ih =>
    rw [massTo, partT]
    split
    · split
      · rw [dot, ih]; dsimp only; omega
      · rw [dot, ih]; dsimp only; omega
    · exact ih
theorem sumTo_dot (m : List Int) (s k : Nat) : sumTo m s k = dot m (wholeT s k) := by
  induction k with
  | zero => rfl
  | succ k ih =>
    rw [sumTo, wholeT]
    split
    · rw [dot, ih]; dsimp only; omega
    · exact ih
theorem sumTo_back (l : List Int) (s k : Nat) (hk : k ≤ l.length) : sumTo (masses l) s k = dot l (backT s k) := by
  induction k with
  | zero => rfl
  | succ k ih =>
    rw [sumTo, backT]
    split
    · rw [dot_app, ih (by omega), ← massTo_dot, getD_at (masses l) k (by rw [masses_len]; omega), masses_get]; omega
    · exact ih (by omega)
def backOk : Bool := (List.range 32).all fun s => (backT s (s + 1)).all (fun t => decide (t.2 < s + 1)) && (List.range 32).all fun i => cof i (backT s (s + 1)) == one s i
theorem back_ok : backOk = true := by decide +kernel
theorem mass_back (l : List Int) (hl : l.length ≤ 32) (s : Nat) (hs : s < l.length) : sumTo (masses l) s (s + 1) = l.getD s 0 := by
  have h := back_ok
  unfold backOk at h
  rw [List.all_eq_true] at h
  have h := h s (List.mem_range.2 (by omega))
  rw [Bool.and_eq_true, List.all_eq_true, List.all_eq_true] at h
  rw [sumTo_back l s (s + 1) (by omega), dot_cof l (s + 1) _ (fun t ht => of_decide_eq_true (h.1 t ht))]
  have : sumN (fun i => cof i (backT s (s + 1)) * l.getD i 0) (s + 1) = sumN (fun i => 1 * one s i * l.getD i 0) (s + 1) := sumN_congr fun i hi => by
    have := h.2 i (List.mem_range.2 (by omega))
    rw [beq_iff_eq] at this
    rw [this, Int.one_mul]
  rw [this, sumN_one, if_pos (by omega), Int.one_mul]
theorem masses_bd (l : List Int) (hl : l.length ≤ 32) (hb : ∀ k, (hk : k < l.length) → -1000 ≤ l[k] ∧ l[k] ≤ 1000) : ∀ k, (hk : k < (masses l).length) → -32000 ≤ (masses l)[k] ∧ (masses l)[k] ≤ 32000 := by
  intro k hk
  rw [masses_get]
  rw [masses_len] at hk
  have := massTo_bd l k hb (k + 1) (by omega)
  omega
theorem fom_back (n : Int) (l : List Int) (hf : isFunB n l = true) : fomB n (masses l) = true ∧ fomL n (masses l) = l := by
  obtain ⟨N, rfl, hN5, hl2, hl32, hlb⟩ := fun_nat hf
  have hok : fomOk (N : Int) (masses l) = true := by
    unfold fomOk
    rw [inB_true.2 ⟨by omega, by omega⟩, masses_len, Int.toNat_natCast, hl2]
    simp only [beq_self_eq_true, Bool.true_and]
    unfold allIn
    rw [List.all_eq_true]
    intro x hx
    obtain ⟨k, hk, rfl⟩ := List.getElem_of_mem hx
    have := masses_bd l hl32 hlb k hk
    exact inB_true.2 ⟨by omega, by omega⟩
  have hv : fomV (N : Int) (masses l) = l := by
    unfold fomV madeL
    rw [Int.toNat_natCast, ← hl2]
    apply List.ext_getElem
    · simp
    · intro s h1 h2
      rw [List.getElem_map, List.getElem_range]
      unfold fomF
      rw [mass_back l hl32 s h2, getD_at l s h2]
  have hB : fomB (N : Int) (masses l) = true := by unfold fomB; rw [hok, hv, hf]; rfl
  exact ⟨hB, by unfold fomL; rw [hB, if_pos rfl]; exact hv⟩

/-! powers add up -/
def allT (n : Nat) : Nat → List (Int × Nat × Nat)
  | 0 => []
  | e + 1 => tS n e (2 ^ n) ++ allT n e
theorem lin_app (l : List Int) (a b : List (Int × Nat × Nat)) : lin l (a ++ b) = lin l a + lin l b := by
  induction a with
  | nil => simp [lin]
  | cons t a ih => rw [List.cons_append, lin, lin, ih]; omega
theorem sumI_app (a : List Int) (x : Int) : sumI (a ++ [x]) = sumI a + x := by unfold sumI; rw [List.foldl_append]; rfl
theorem shap_lin (n : Nat) (l : List Int) : ∀ k, k ≤ n → sumI ((List.range k).map fun e => shTo l n e (2 ^ n)) = lin l (allT n k) := by
  intro k
  induction k with
  | zero => intro _; rfl
  | succ k ih =>
    intro hk
    rw [List.range_succ, List.map_append, List.map_cons, List.map_nil, sumI_app, ih (by omega), allT, lin_app, shTo_lin]; omega
theorem shap_ok : ∀ n, n ≤ 5 → sameCoef (allT n n) [((fact n : Nat), 2 ^ n - 1, 0)] (2 ^ n) = true ∨ n = 0 := by decide +kernel
theorem shap_total (n : Nat) (hn : n ≤ 5) (h0 : 0 < n) (l : List Int) : sumI (shapL n l) = (fact n : Int) * (l.getD (2 ^ n - 1) 0 - l.getD 0 0) := by
  unfold shapL
  rw [shap_lin n l n (Nat.le_refl _)]
  rcases shap_ok n hn with h | h
  · rw [lin_same l _ _ _ h, lin, lin]; simp
  · omega
end Go.Proofs.YtelmokapdkepbaaGreatDoor
end
section
namespace Go.Proofs.YtelmokapdkepbaaGreatDoor
open Go.RowKit Go.G5

/-! violations -/
theorem run_none (l : List Int) : ∀ T : List Tri, (∀ t ∈ T, badB l t = false) → (runT (vstep l) T none) = (none, true) := by
  intro T
  induction T with
  | nil => intro _; rfl
  | cons t T ih =>
    intro h
    have e : vstep l none t = (none, true) := by unfold vstep; rw [h t (by simp)]; rfl
    rw [runT, e, if_pos rfl]
    exact ih (fun u hu => h u (by simp [hu]))
theorem run_all (l : List Int) : ∀ T : List Tri, (runT (vstep l) T none).1 = none → ∀ t ∈ T, badB l t = false := by
  intro T
  induction T with
  | nil => intro _ t ht; cases ht
  | cons u T ih =>
    intro h t ht
    by_cases hb : badB l u = true
    · have e : vstep l none u = (some u, false) := by unfold vstep; rw [if_pos hb]
      rw [runT, e] at h
      simp at h
    · have e : vstep l none u = (none, true) := by unfold vstep; rw [if_neg hb]; rfl
      rw [runT, e, if_pos rfl] at h
      rcases List.mem_cons.1 ht with rfl | ht
      · simpa using hb
      · exact ih h t ht
theorem tri_all (n N s i k : Nat) (hs : s < N) (hik : i < k) (hk : k < n) (h1 : nbit s i = false) (h2 : nbit s k = false) : (s, i, k) ∈ tri3 n N := by
  obtain ⟨r, hr⟩ := tri_front n N s i (k + 1) hs (by omega) (by omega)
  rw [hr]
  refine List.mem_append_left _ (List.mem_append_right _ ?_)
  rw [tri, h1, h2, decide_eq_true hik]
  simp
theorem tri_bits (s i k : Nat) : ∀ t ∈ tri s i k, nbit t.1 t.2.1 = false ∧ nbit t.1 t.2.2 = false := by
  induction k with
  | zero => intro t h; cases h
  | succ k ih =>
    intro t h
    rw [tri, List.mem_append] at h
    rcases h with h | h
    · exact ih t h
    · split at h
      · rename_i hc
        rw [List.mem_singleton] at h
        simp only [Bool.and_eq_true, Bool.not_eq_true'] at hc
        subst h
        exact ⟨hc.2.1, hc.2.2⟩
      · cases h
theorem tri2_bits (n s i : Nat) : ∀ t ∈ tri2 n s i, nbit t.1 t.2.1 = false ∧ nbit t.1 t.2.2 = false := by
  induction i with
  | zero => intro t h; cases h
  | succ i ih =>
    intro t h
    rw [tri2, List.mem_append] at h
    rcases h with h | h
    · exact ih t h
    · exact tri_bits s i n t h
theorem tri3_bits (n s : Nat) : ∀ t ∈ tri3 n s, nbit t.1 t.2.1 = false ∧ nbit t.1 t.2.2 = false := by
  induction s with
  | zero => intro t h; cases h
  | succ s ih =>
    intro t h
    rw [tri3, List.mem_append] at h
    rcases h with h | h
    · exact ih t h
    · exact tri2_bits n s n t h
/-- submodular in plain words -/
theorem sub_iff (N : Nat) (l : List Int) (hf : isFunB N l = true) : subB N l = true ↔ ∀ s i k : Nat, s < 2 ^ N → i < k → k < N → nbit s i = false → nbit s k = false → exL l s i k ≤ 0 := by
  have hv : violR (N : Int) l = violT N l := by unfold violR; rw [hf, if_pos rfl, Int.toNat_natCast]
  constructor
  · intro h s i k hs hik hk h1 h2
    have hn : violT N l = none := by
      unfold subB violB at h
      rw [hf, hv, Bool.true_and, Bool.not_eq_true'] at h
      cases hq : violT N l with
      | none => rfl
      | some t => rw [hq] at h; cases h
    have := run_all l _ hn (s, i, k) (tri_all N (2 ^ N) s i k hs hik hk h1 h2)
    unfold badB at this
    have := of_decide_eq_false this
    dsimp only at this
    omega
  · intro h
    have hn : violT N l = none := by
      unfold violT
      rw [run_none l _ (fun t ht => by
        obtain ⟨h1, h2, h3⟩ := tri3_mem N (2 ^ N) t ht
        have hb := tri3_bits N (2 ^ N) t ht
        unfold badB
        exact decide_eq_false (by have := h t.1 t.2.1 t.2.2 h1 h2 h3 hb.1 hb.2; omega))]
    unfold subB violB
    rw [hf, hv, hn]; rfl

theorem negL_getD (l : List Int) (s : Nat) : (negL l).getD s 0 = -(l.getD s 0) := by
  by_cases h : s < l.length
  · rw [getD_at (negL l) s (by rw [negL_len]; exact h), negL_at l s h, getD_at l s h]
  · rw [List.getD_eq_getElem?_getD, List.getElem?_eq_none (by rw [negL_len]; omega), List.getD_eq_getElem?_getD, List.getElem?_eq_none (by omega)]; rfl
theorem exL_neg (l : List Int) (s i k : Nat) : exL (negL l) s i k = - exL l s i k := by
  unfold exL
  simp only [negL_getD]; omega
theorem sup_iff (N : Nat) (l : List Int) (hf : isFunB N l = true) : supB N l = true ↔ ∀ s i k : Nat, s < 2 ^ N → i < k → k < N → nbit s i = false → nbit s k = false → 0 ≤ exL l s i k := by
  unfold supB
  rw [hf, Bool.true_and, sub_iff N (negL l) (neg_fun _ _ hf)]
  constructor
  · intro h s i k h1 h2 h3 h4 h5
    have := h s i k h1 h2 h3 h4 h5
    rw [exL_neg] at this; omega
  · intro h s i k h1 h2 h3 h4 h5
    have := h s i k h1 h2 h3 h4 h5
    rw [exL_neg]; omega
/-! gains grow -/
theorem tb_setBit (s e j : Nat) : (setBit s e).testBit j = (s.testBit j || decide (e = j)) := by
  unfold setBit
  rw [Nat.testBit_or, Nat.testBit_two_pow]
theorem ex_gain (l : List Int) (s i k : Nat) : exL l s i k = gainL l (setBit s i) k - gainL l s k := by
  unfold exL gainL
  rw [setBit_or]; omega
theorem exL_comm (l : List Int) (s i k : Nat) : exL l s i k = exL l s k i := by
  unfold exL
  rw [Nat.or_comm (setBit s i)]; omega
theorem gain_mono (N : Nat) (l : List Int) (h : ∀ s i k : Nat, s < 2 ^ N → i < k → k < N → nbit s i = false → nbit s k = false → 0 ≤ exL l s i k)
    (A B e : Nat) (hB : B < 2 ^ N) (he : e < N) (hAB : ∀ j, A.testBit j = true → B.testBit j = true) (hBe : B.testBit e = false) : gainL l A e ≤ gainL l B e := by
  have h' : ∀ s i k : Nat, s < 2 ^ N → i ≠ k → i < N → k < N → s.testBit i = false → s.testBit k = false → 0 ≤ exL l s i k := by
    intro s i k h1 h2 h3 h4 h5 h6
    rw [← nbit_tb] at h5 h6
    rcases Nat.lt_or_gt_of_ne h2 with h7 | h7
    · exact h s i k h1 h7 h4 h5 h6
    · rw [exL_comm]; exact h s k i h1 h7 h3 h6 h5
  have step : ∀ j, gainL l A e ≤ gainL l (A ||| B % 2 ^ j) e := by
    intro j
    induction j with
    | zero => simp [Nat.mod_one]
    | succ j ih =>
      by_cases hb : B.testBit j = true ∧ A.testBit j = false
      · have hset : A ||| B % 2 ^ (j + 1) = setBit (A ||| B % 2 ^ j) j := by
          apply Nat.eq_of_testBit_eq
          intro i
          rw [tb_setBit, Nat.testBit_or, Nat.testBit_or, Nat.testBit_mod_two_pow, Nat.testBit_mod_two_pow]
          by_cases hij : j = i
          · subst hij; simp [hb.1]
          · rw [decide_eq_false hij, Bool.or_false]
            congr 2
            exact decide_eq_decide.2 ⟨fun q => by omega, fun q => by omega⟩
        have hjN : j < N := by
          rcases Nat.lt_or_ge j N with q | q
          · exact q
          · have := Nat.testBit_lt_two_pow (x := B) (i := j) (Nat.lt_of_lt_of_le hB (Nat.pow_le_pow_right (by decide) q))
            rw [this] at hb; cases hb.1
        have hlt : A ||| B % 2 ^ j < 2 ^ N := by
          apply Nat.lt_pow_two_of_testBit
          intro i hi
          have hBi := Nat.testBit_lt_two_pow (x := B) (i := i) (Nat.lt_of_lt_of_le hB (Nat.pow_le_pow_right (by decide) hi))
          rw [Nat.testBit_or, Nat.testBit_mod_two_pow, hBi]
          cases hA : A.testBit i with
          | false => simp
          | true => rw [hAB i hA] at hBi; cases hBi
        have hje : j ≠ e := by intro q; rw [q, hBe] at hb; cases hb.1
        have h1 : (A ||| B % 2 ^ j).testBit j = false := by rw [Nat.testBit_or, Nat.testBit_mod_two_pow, hb.2]; simp
        have h2 : (A ||| B % 2 ^ j).testBit e = false := by
          rw [Nat.testBit_or, Nat.testBit_mod_two_pow, hBe]
          cases hA : A.testBit e with
          | false => simp
          | true => rw [hAB e hA] at hBe; cases hBe
        have := h' _ j e hlt hje hjN he h1 h2
        rw [ex_gain] at this
        rw [hset]; omega
      · have hset : A ||| B % 2 ^ (j + 1) = A ||| B % 2 ^ j := by
          apply Nat.eq_of_testBit_eq
          intro i
          rw [Nat.testBit_or, Nat.testBit_or, Nat.testBit_mod_two_pow, Nat.testBit_mod_two_pow]
          by_cases hij : j = i
          · subst hij
            cases hA : A.testBit j with
            | true => simp
            | false =>
              cases hBj : B.testBit j with
              | false => simp
              | true => exact absurd ⟨hBj, hA⟩ hb
          · congr 2
            exact decide_eq_decide.2 ⟨fun q => by omega, fun q => by omega⟩
        rw [hset]; exact ih
  have hend : A ||| B % 2 ^ N = B := by
    rw [Nat.mod_eq_of_lt hB]
    apply Nat.eq_of_testBit_eq
    intro i
    rw [Nat.testBit_or]
    cases hA : A.testBit i with
    | false => simp
    | true => rw [hAB i hA]; rfl
  have := step N
  rw [hend] at this
  exact this

theorem pop_set : ∀ s : Nat, s < 32 → ∀ e : Nat, e < 5 → s.testBit e = false → pop (setBit s e) = pop s + 1 := by decide +kernel
theorem full_of_pop : ∀ N : Nat, N < 6 → ∀ s : Nat, s < 2 ^ N → pop s = N → s = 2 ^ N - 1 := by decide +kernel
/-! weights of corners -/
theorem wtTo_set (x : List Int) (s : Int) (e : Nat) (y : Int) (he : e < x.length) : ∀ k, k ≤ x.length → wtTo (x.set e y) s k = wtTo x s k + (if e < k ∧ ibit s e = 1 then y - x.getD e 0 else 0) := by
  intro k
  induction k with
  | zero => intro _; simp [wtTo]
  | succ k ih =>
    intro hk
    have h1 := ih (by omega)
    rw [wtTo, wtTo, h1]
    by_cases hek : e = k
    · subst hek
      rw [if_neg (show ¬ (e < e ∧ ibit s e = 1) by omega)]
      have hg : (x.set e y).getD e 0 = y := by rw [getD_at _ e (by rw [List.length_set]; exact he), List.getElem_set_self]
      rw [hg]
      by_cases hb : ibit s e = 1
      · rw [if_pos hb, if_pos hb, if_pos ⟨by omega, hb⟩]; omega
      · rw [if_neg hb, if_neg hb, if_neg (fun q => hb q.2)]
    · have hg : (x.set e y).getD k 0 = x.getD k 0 := by rw [getD_at _ k (by rw [List.length_set]; omega), getD_at _ k (by omega), List.getElem_set_ne hek]
      rw [hg]
      have hc : (e < k + 1 ∧ ibit s e = 1) ↔ (e < k ∧ ibit s e = 1) := ⟨fun q => ⟨by omega, q.2⟩, fun q => ⟨by omega, q.2⟩⟩
      by_cases hc2 : e < k ∧ ibit s e = 1
      · rw [if_pos hc2, if_pos (hc.2 hc2)]; split <;> omega
      · rw [if_neg hc2, if_neg (fun q => hc2 (hc.1 q))]; split <;> omega
theorem ibit_nbit (s e : Nat) : ibit (s : Int) e = 1 ↔ s.testBit e = true := by
  rw [← nbit_tb, ← nbit_is, beq_iff_eq]
theorem pref_bit (o : List Int) (h : ∀ x ∈ o, 0 ≤ x) (e : Nat) : ∀ k, k ≤ o.length → (prefS o k).testBit e = decide ((e : Int) ∈ o.take k) := by
  intro k
  induction k with
  | zero => intro _; simp [prefS]
  | succ k ih =>
    intro hk
    have hkl : k < o.length := by omega
    have hx := h _ (List.getElem_mem hkl)
    rw [prefS, tb_setBit, ih (by omega), getD_at o k hkl, List.take_succ_eq_append_getElem hkl]
    simp only [List.mem_append, List.mem_singleton, Bool.decide_or]
    congr 1
    exact decide_eq_decide.2 ⟨fun q => by omega, fun q => by omega⟩
theorem corner_zero (l o : List Int) (e : Nat) (h : ∀ x ∈ o, 0 ≤ x) : ∀ k, k ≤ o.length → (e : Int) ∉ o.take k → (cornerTo l o k).getD e 0 = 0 := by
  intro k
  induction k with
  | zero =>
    intro _ _
    rw [cornerTo, List.getD_eq_getElem?_getD]
    by_cases he : e < o.length
    · rw [List.getElem?_eq_getElem (by simpa using he)]; simp
    · rw [List.getElem?_eq_none (by simp; omega)]; rfl
  | succ k ih =>
    intro hk hn
    have hkl : k < o.length := by omega
    have hx := h _ (List.getElem_mem hkl)
    rw [List.take_succ_eq_append_getElem hkl] at hn
    simp only [List.mem_append, List.mem_singleton, not_or] at hn
    have h1 := ih (by omega) hn.1
    rw [cornerTo, getD_at o k hkl]
    have hne : o[k].toNat ≠ e := by intro q; apply hn.2; omega
    rw [List.getD_eq_getElem?_getD, List.getElem?_set_ne hne, ← List.getD_eq_getElem?_getD]
    exact h1
/-- the order is one of all elements below N -/
structure Perm (N : Nat) (o : List Int) : Prop where
  len : o.length = N
  d : Dist N o
theorem Perm.nn {N : Nat} {o : List Int} (h : Perm N o) : ∀ x ∈ o, 0 ≤ x := fun x hx => (h.d.bd x hx).1
theorem Perm.fresh {N : Nat} {o : List Int} (h : Perm N o) (k : Nat) (hk : k < o.length) : o[k] ∉ o.take k := by
  intro hm
  have := h.d.nd
  have e : o = o.take k ++ (o[k] :: o.drop (k + 1)) := by rw [← List.drop_eq_getElem_cons hk, List.take_append_drop]
  rw [e] at this
  have h2 := (List.nodup_append.1 this).2.2
  exact h2 _ hm _ List.mem_cons_self rfl
theorem corner_step {N : Nat} {o : List Int} (h : Perm N o) (l : List Int) (s k : Nat) (hk : k < N) :
    ∃ e : Nat, e < N ∧ (prefS o k).testBit e = false ∧ prefS o (k + 1) = setBit (prefS o k) e ∧ wt (cornerTo l o (k + 1)) s = wt (cornerTo l o k) s + (if s.testBit e = true then gainL l (prefS o k) e else 0) := by
  have hkl : k < o.length := by rw [h.len]; exact hk
  have hb := h.d.bd _ (List.getElem_mem hkl)
  have hf := h.fresh k hkl
  have he : ((o[k].toNat : Nat) : Int) = o[k] := by omega
  have hz := corner_zero l o o[k].toNat h.nn k (by omega) (by rw [he]; exact hf)
  refine ⟨o[k].toNat, by omega, ?_, ?_, ?_⟩
  · rw [pref_bit o h.nn _ k (by omega), he]; exact decide_eq_false hf
  · rw [prefS, getD_at o k hkl]
  · unfold wt
    rw [cornerTo, getD_at o k hkl, List.length_set, wtTo_set _ _ _ _ (by rw [cornerTo_len, h.len]; omega) _ (Nat.le_refl _), hz, cornerTo_len, h.len]
    congr 1
    by_cases hs : s.testBit o[k].toNat = true
    · rw [if_pos hs, if_pos ⟨by omega, (ibit_nbit _ _).2 hs⟩]; omega
    · rw [if_neg hs, if_neg (fun q => hs ((ibit_nbit _ _).1 q.2))]
theorem corner_start (l : List Int) (o : List Int) (s : Int) : wt (cornerTo l o 0) s = 0 := by
  unfold wt
  rw [cornerTo]
  have : ∀ n k, k ≤ n → wtTo (List.replicate n (0 : Int)) s k = 0 := by
    intro n k
    induction k with
    | zero => intro _; rfl
    | succ k ih =>
      intro hk
      rw [wtTo, ih (by omega), getD_at _ k (by simp; omega)]
      simp
  exact this _ _ (by simp)
theorem pref_lt {N : Nat} {o : List Int} (h : Perm N o) (k : Nat) (hk : k ≤ N) : prefS o k < 2 ^ N := prefS_lt o N k h.d.bd (by rw [h.len]; exact hk)
theorem and_setBit (s P e : Nat) : s &&& setBit P e = if s.testBit e = true then setBit (s &&& P) e else s &&& P := by
  apply Nat.eq_of_testBit_eq
  intro j
  split
  · rename_i h
    rw [Nat.testBit_and, tb_setBit, tb_setBit, Nat.testBit_and]
    by_cases hj : e = j
    · subst hj; simp [h]
    · rw [decide_eq_false hj]; simp
  · rename_i h
    rw [Nat.testBit_and, tb_setBit, Nat.testBit_and]
    by_cases hj : e = j
    · subst hj; simp [h]
    · rw [decide_eq_false hj]; simp
theorem corner_ge {N : Nat} {o : List Int} (h : Perm N o) (l : List Int) (hs : ∀ s i k : Nat, s < 2 ^ N → i < k → k < N → nbit s i = false → nbit s k = false → 0 ≤ exL l s i k) (s : Nat) :
    ∀ k, k ≤ N → l.getD (s &&& prefS o k) 0 - l.getD 0 0 ≤ wt (cornerTo l o k) s := by
  intro k
  induction k with
  | zero => intro _; rw [corner_start]; simp [prefS]
  | succ k ih =>
    intro hk
    have h1 := ih (by omega)
    obtain ⟨e, he, hp, hps, hw⟩ := corner_step h l s k (by omega)
    rw [hw, hps, and_setBit]
    by_cases hb : s.testBit e = true
    · rw [if_pos hb, if_pos hb]
      have := gain_mono N l hs (s &&& prefS o k) (prefS o k) e (pref_lt h k (by omega)) he (fun j hj => by rw [Nat.testBit_and, Bool.and_eq_true] at hj; exact hj.2) hp
      have hg : l.getD (setBit (s &&& prefS o k) e) 0 = gainL l (s &&& prefS o k) e + l.getD (s &&& prefS o k) 0 := by unfold gainL; omega
      rw [hg]; omega
    · rw [if_neg hb, if_neg hb]; omega
theorem corner_eq {N : Nat} {o : List Int} (h : Perm N o) (l : List Int) : ∀ k, k ≤ N → wt (cornerTo l o k) ((2 ^ N - 1 : Nat) : Int) = l.getD (prefS o k) 0 - l.getD 0 0 := by
  intro k
  induction k with
  | zero => intro _; rw [corner_start]; simp [prefS]
  | succ k ih =>
    intro hk
    have h1 := ih (by omega)
    obtain ⟨e, he, hp, hps, hw⟩ := corner_step h l (2 ^ N - 1) k (by omega)
    have hb : (2 ^ N - 1).testBit e = true := by rw [Nat.testBit_two_pow_sub_one]; exact decide_eq_true he
    rw [hw, h1, if_pos hb, hps]
    unfold gainL; omega
theorem pref_full {N : Nat} {o : List Int} (h : Perm N o) (hN : N ≤ 5) : prefS o N = 2 ^ N - 1 := by
  have hpop : ∀ k, k ≤ N → pop (prefS o k) = k := by
    intro k
    induction k with
    | zero => intro _; exact pop_zero
    | succ k ih =>
      intro hk
      obtain ⟨e, he, hp, hps, _⟩ := corner_step h [] 0 k (by omega)
      rw [hps]
      have hl := pref_lt h k (by omega)
      have h32 : (2 : Nat) ^ N ≤ 32 := Nat.pow_le_pow_right (n := 2) (by decide) hN
      have := pop_set (prefS o k) (by omega) e (by omega) hp
      rw [this, ih (by omega)]
  have h1 := hpop N (Nat.le_refl _)
  have hl := pref_lt h N (Nat.le_refl _)
  exact full_of_pop N (by omega) _ hl h1
end Go.Proofs.YtelmokapdkepbaaGreatDoor
end
