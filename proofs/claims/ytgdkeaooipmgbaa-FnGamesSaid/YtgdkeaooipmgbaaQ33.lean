/- Games: what the law asks, in plain lists. -/
import Derived.Test.YtgdkeaooipmgbaaQ32
section
namespace Go.Proofs.Ytgdkeaooipmgbaa
open Go.RowKit Go.G5

/-! sums of values with factors -/
def dot (l : List Int) : List (Int × Nat) → Int
  | [] => 0
  | t :: r => t.1 * l.getD t.2 0 + dot l r
def cof (i : Nat) : List (Int × Nat) → Int
  | [] => 0
  | t :: r => t.1 * one t.2 i + cof i r
theorem dot_app (l : List Int) (a b : List (Int × Nat)) : dot l (a ++ b) = dot l a + dot l b := by
  induction a with
  | nil => simp [dot]
  | cons t a ih => rw [List.cons_append, dot, dot, ih]; omega
def negT (a : List (Int × Nat)) : List (Int × Nat) := a.map fun t => (-t.1, t.2)
theorem dot_neg (l : List Int) (a : List (Int × Nat)) : dot l (negT a) = - dot l a := by
  induction a with
  | nil => simp [negT, dot]
  | cons t a ih =>
    have : negT (t :: a) = (-t.1, t.2) :: negT a := rfl
    rw [this, dot, dot, ih]
    dsimp only
    rw [Int.neg_mul]; omega
theorem dot_cof (l : List Int) (n : Nat) (ts : List (Int × Nat)) (h : ∀ t ∈ ts, t.2 < n) : dot l ts = sumN (fun i => cof i ts * l.getD i 0) n := by
  induction ts with
  | nil => simp only [dot, cof, Int.zero_mul, sumN_zero]
  | cons t ts ih =>
    have ht := h t (by simp)
    rw [dot, ih (fun x hx => h x (by simp [hx]))]
    have e : (fun i => cof i (t :: ts) * l.getD i 0) = fun i => t.1 * one t.2 i * l.getD i 0 + cof i ts * l.getD i 0 := by
      funext i
      rw [cof, Int.add_mul]
    rw [e, sumN_add, sumN_one, if_pos ht]
theorem sumN_nonneg (f : Nat → Int) (n : Nat) (h : ∀ i, i < n → 0 ≤ f i) : 0 ≤ sumN f n := by
  induction n with
  | zero => simp [sumN]
  | succ n ih =>
    have h1 := ih (fun i hi => h i (by omega))
    have h2 := h n (by omega)
    rw [sumN]; omega

/-! masses give the values back -/
def partT (s : Nat) : Nat → List (Int × Nat)
  | 0 => []
  | k + 1 => if ndiff k s = 0 then (if pop (ndiff s k) % 2 = 1 then (-1, k) :: partT s k else (1, k) :: partT s k) else partT s k
def wholeT (s : Nat) : Nat → List (Int × Nat)
  | 0 => []
  | k + 1 => if ndiff k s = 0 then (1, k) :: wholeT s k else wholeT s k
def backT (s : Nat) : Nat → List (Int × Nat)
  | 0 => []
  | k + 1 => if ndiff k s = 0 then partT k (k + 1) ++ backT s k else backT s k
theorem massTo_dot (l : List Int) (s k : Nat) : massTo l s k = dot l (partT s k) := by
  induction k with
  | zero => rfl
  | succ k ih =>
    rw [massTo, partT]
    split
    · split
      · rw [dot, ih]; dsimp only; omega
      · rw [dot, ih]; dsimp only; omega
    · exact ih
theorem sumTo_dot (m : List Int) (s k : Nat) : sumTo m s k = dot m (wholeT s k) := by
  induction k with
  | zero => rfl
  | succ k ih =>
    rw [sumTo, wholeT]
    split
    · rw [dot, ih]; dsimp only; omega
    · exact ih
theorem sumTo_back (l : List Int) (s k : Nat) (hk : k ≤ l.length) : sumTo (masses l) s k = dot l (backT s k) := by
  induction k with
  | zero => rfl
  | succ k ih =>
    rw [sumTo, backT]
    split
    · rw [dot_app, ih (by omega), ← massTo_dot, getD_at (masses l) k (by rw [masses_len]; omega), masses_get]; omega
    · exact ih (by omega)
def backOk : Bool := (List.range 32).all fun s => (backT s (s + 1)).all (fun t => decide (t.2 < s + 1)) && (List.range 32).all fun i => cof i (backT s (s + 1)) == one s i
theorem back_ok : backOk = true := by decide +kernel
theorem mass_back (l : List Int) (hl : l.length ≤ 32) (s : Nat) (hs : s < l.length) : sumTo (masses l) s (s + 1) = l.getD s 0 := by
  have h := back_ok
  unfold backOk at h
  rw [List.all_eq_true] at h
  have h := h s (List.mem_range.2 (by omega))
  rw [Bool.and_eq_true, List.all_eq_true, List.all_eq_true] at h
  rw [sumTo_back l s (s + 1) (by omega), dot_cof l (s + 1) _ (fun t ht => of_decide_eq_true (h.1 t ht))]
  have : sumN (fun i => cof i (backT s (s + 1)) * l.getD i 0) (s + 1) = sumN (fun i => 1 * one s i * l.getD i 0) (s + 1) := sumN_congr fun i hi => by
    have := h.2 i (List.mem_range.2 (by omega))
    rw [beq_iff_eq] at this
    rw [this, Int.one_mul]
  rw [this, sumN_one, if_pos (by omega), Int.one_mul]
theorem masses_bd (l : List Int) (hl : l.length ≤ 32) (hb : ∀ k, (hk : k < l.length) → -1000 ≤ l[k] ∧ l[k] ≤ 1000) : ∀ k, (hk : k < (masses l).length) → -32000 ≤ (masses l)[k] ∧ (masses l)[k] ≤ 32000 := by
  intro k hk
  rw [masses_get]
  rw [masses_len] at hk
  have := massTo_bd l k hb (k + 1) (by omega)
  omega
theorem fom_back (n : Int) (l : List Int) (hf : isFunB n l = true) : fomB n (masses l) = true ∧ fomL n (masses l) = l := by
  obtain ⟨N, rfl, hN5, hl2, hl32, hlb⟩ := fun_nat hf
  have hok : fomOk (N : Int) (masses l) = true := by
    unfold fomOk
    rw [inB_true.2 ⟨by omega, by omega⟩, masses_len, Int.toNat_natCast, hl2]
    simp only [beq_self_eq_true, Bool.true_and]
    unfold allIn
    rw [List.all_eq_true]
    intro x hx
    obtain ⟨k, hk, rfl⟩ := List.getElem_of_mem hx
    have := masses_bd l hl32 hlb k hk
    exact inB_true.2 ⟨by omega, by omega⟩
  have hv : fomV (N : Int) (masses l) = l := by
    unfold fomV madeL
    rw [Int.toNat_natCast, ← hl2]
    apply List.ext_getElem
    · simp
    · intro s h1 h2
      rw [List.getElem_map, List.getElem_range]
      unfold fomF
      rw [mass_back l hl32 s h2, getD_at l s h2]
  have hB : fomB (N : Int) (masses l) = true := by unfold fomB; rw [hok, hv, hf]; rfl
  exact ⟨hB, by unfold fomL; rw [hB, if_pos rfl]; exact hv⟩

/-! powers add up -/
def allT (n : Nat) : Nat → List (Int × Nat × Nat)
  | 0 => []
  | e + 1 => tS n e (2 ^ n) ++ allT n e
theorem lin_app (l : List Int) (a b : List (Int × Nat × Nat)) : lin l (a ++ b) = lin l a + lin l b := by
  induction a with
  | nil => simp [lin]
  | cons t a ih => rw [List.cons_append, lin, lin, ih]; omega
theorem sumI_app (a : List Int) (x : Int) : sumI (a ++ [x]) = sumI a + x := by unfold sumI; rw [List.foldl_append]; rfl
theorem shap_lin (n : Nat) (l : List Int) : ∀ k, k ≤ n → sumI ((List.range k).map fun e => shTo l n e (2 ^ n)) = lin l (allT n k) := by
  intro k
  induction k with
  | zero => intro _; rfl
  | succ k ih =>
    intro hk
    rw [List.range_succ, List.map_append, List.map_cons, List.map_nil, sumI_app, ih (by omega), allT, lin_app, shTo_lin]; omega
theorem shap_ok : ∀ n, n ≤ 5 → sameCoef (allT n n) [((fact n : Nat), 2 ^ n - 1, 0)] (2 ^ n) = true ∨ n = 0 := by decide +kernel
theorem shap_total (n : Nat) (hn : n ≤ 5) (h0 : 0 < n) (l : List Int) : sumI (shapL n l) = (fact n : Int) * (l.getD (2 ^ n - 1) 0 - l.getD 0 0) := by
  unfold shapL
  rw [shap_lin n l n (Nat.le_refl _)]
  rcases shap_ok n hn with h | h
  · rw [lin_same l _ _ _ h, lin, lin]; simp
  · omega
end Go.Proofs.Ytgdkeaooipmgbaa
end
