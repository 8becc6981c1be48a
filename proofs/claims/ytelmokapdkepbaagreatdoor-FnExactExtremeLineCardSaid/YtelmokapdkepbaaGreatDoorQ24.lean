/- The greatest excess: what is computed. All orders of some elements. Powers of elements, in plain words. Masses of functions. Minimum cuts: what is computed. -/
import Derived.Test.YtelmokapdkepbaaGreatDoorQ23
import Derived.StillTailTactics
section
namespace Go.Proofs.YtelmokapdkepbaaGreatDoor
open Go.RowKit Go.G5

def gstep (l : List Int) (a : Int) (t : Tri) : Int × Bool := (max a (exL l t.1 t.2.1 t.2.2), true)
def gapT (n : Nat) (l : List Int) : Int := (runT (gstep l) (tri3 n (2 ^ n)) 0).1
def gapN (n : Int) (l : List Int) : Int := if isFunB n l then gapT n.toNat l else 0
/-- the greatest of 0 and the numbers of a list -/
def most0 (X : List Int) (a : Int) : Int := X.foldl max a
theorem most0_ge : ∀ (X : List Int) (a : Int), a ≤ most0 X a ∧ ∀ x ∈ X, x ≤ most0 X a
  | [], a => ⟨Int.le_refl _, by simp⟩
  | y :: X, a => by
    have ⟨h1, h2⟩ := most0_ge X (max a y)
    refine ⟨by unfold most0 at h1 ⊢; rw [List.foldl_cons]; omega, fun x hx => ?_⟩
    rcases List.mem_cons.1 hx with rfl | hx
    · unfold most0 at h1 ⊢; rw [List.foldl_cons]; omega
    · exact h2 x hx
theorem most0_is : ∀ (X : List Int) (a : Int), most0 X a = a ∨ most0 X a ∈ X
  | [], a => .inl rfl
  | y :: X, a => by
    have h := most0_is X (max a y)
    have e : most0 (y :: X) a = most0 X (max a y) := rfl
    rw [e]
    rcases h with h | h
    · rw [h]
      rcases Int.le_total a y with h1 | h1
      · right; rw [Int.max_eq_right h1]; simp
      · left; exact Int.max_eq_left h1
    · exact .inr (List.mem_cons_of_mem _ h)
theorem most0_eq (X Y : List Int) (a : Int) (h1 : ∀ x ∈ X, x ∈ Y) (h2 : ∀ y ∈ Y, y ∈ X) : most0 X a = most0 Y a := by
  have ax := most0_ge X a
  have ay := most0_ge Y a
  have ix := most0_is X a
  have iy := most0_is Y a
  have e1 : most0 X a ≤ most0 Y a := by
    rcases ix with h | h
    · rw [h]; exact ay.1
    · exact ay.2 _ (h1 _ h)
  have e2 : most0 Y a ≤ most0 X a := by
    rcases iy with h | h
    · rw [h]; exact ax.1
    · exact ax.2 _ (h2 _ h)
  omega
theorem most0_snoc (X : List Int) (a y : Int) : most0 (X ++ [y]) a = max (most0 X a) y := by simp [most0]
def exT (l : List Int) (t : Tri) : Int := exL l t.1 t.2.1 t.2.2
theorem gap_run (l : List Int) : ∀ (T : List Tri) (a : Int), runT (gstep l) T a = (most0 (T.map (exT l)) a, true)
  | [], _ => rfl
  | t :: T, a => by
    rw [runT]
    show (if true = true then _ else _) = _
    rw [if_pos rfl, gap_run l T]
    rfl
/-! in the other order -/
def trk (s i : Nat) : Nat → List Tri
  | 0 => []
  | k + 1 => trk s i k ++ (if (!nbit s i && !nbit s k) then [(s, i, k)] else [])
def trk2 (s : Nat) : Nat → List Tri
  | 0 => []
  | i + 1 => trk2 s i ++ trk s i i
def trk3 (n : Nat) : Nat → List Tri
  | 0 => []
  | s + 1 => trk3 n s ++ trk2 s n
theorem trk_iff (s i k : Nat) (t : Tri) : t ∈ trk s i k ↔ t.1 = s ∧ t.2.1 = i ∧ t.2.2 < k ∧ nbit s i = false ∧ nbit s t.2.2 = false := by
  induction k with
  | zero => simp [trk]
  | succ k ih =>
    rw [trk, List.mem_append, ih]
    obtain ⟨a, b, c⟩ := t
    constructor
    · rintro (h | h)
      · exact ⟨h.1, h.2.1, by have := h.2.2.1; omega, h.2.2.2⟩
      · split at h
        · rename_i hc
          rw [List.mem_singleton] at h
          simp only [Prod.mk.injEq] at h
          obtain ⟨rfl, rfl, rfl⟩ := h
          simp only [Bool.and_eq_true, Bool.not_eq_true'] at hc
          exact ⟨rfl, rfl, by simp, hc.1, hc.2⟩
        · cases h
    · rintro ⟨h1, h2, h3, h4, h5⟩
      simp only at h1 h2 h3 h5
      by_cases hk : c = k
      · right
        subst hk h1 h2
        rw [if_pos (by rw [h4, h5]; rfl)]; simp
      · left; exact ⟨h1, h2, by simp only; omega, h4, h5⟩
theorem trk2_iff (s i : Nat) (t : Tri) : t ∈ trk2 s i ↔ t.1 = s ∧ t.2.1 < i ∧ t.2.2 < t.2.1 ∧ nbit s t.2.1 = false ∧ nbit s t.2.2 = false := by
  induction i with
  | zero => simp [trk2]
  | succ i ih =>
    rw [trk2, List.mem_append, ih, trk_iff]
    constructor
    · rintro (h | h)
      · exact ⟨h.1, by omega, h.2.2⟩
      · have e := h.2.1
        exact ⟨h.1, by omega, by omega, by rw [e]; exact h.2.2.2.1, h.2.2.2.2⟩
    · rintro ⟨h1, h2, h3, h4, h5⟩
      by_cases hk : t.2.1 = i
      · right; exact ⟨h1, hk, by omega, by rw [← hk]; exact h4, h5⟩
      · left; exact ⟨h1, by omega, h3, h4, h5⟩
theorem trk3_iff (n s : Nat) (t : Tri) : t ∈ trk3 n s ↔ t.1 < s ∧ t.2.1 < n ∧ t.2.2 < t.2.1 ∧ nbit t.1 t.2.1 = false ∧ nbit t.1 t.2.2 = false := by
  induction s with
  | zero => simp [trk3]
  | succ s ih =>
    rw [trk3, List.mem_append, ih, trk2_iff]
    constructor
    · rintro (h | h)
      · exact ⟨by omega, h.2⟩
      · have e := h.1
        rw [e]
        exact ⟨by omega, h.2⟩
    · rintro ⟨h1, h2⟩
      by_cases hk : t.1 = s
      · right; rw [hk] at h2; exact ⟨hk, h2⟩
      · left; exact ⟨by omega, h2⟩
theorem tri_iff (s i k : Nat) (t : Tri) : t ∈ tri s i k ↔ t.1 = s ∧ t.2.1 = i ∧ i < t.2.2 ∧ t.2.2 < k ∧ nbit s i = false ∧ nbit s t.2.2 = false := by
  induction k with
  | zero => simp [tri]
  | succ k ih =>
    rw [tri, List.mem_append, ih]
    obtain ⟨a, b, c⟩ := t
    constructor
    · rintro (h | h)
      · exact ⟨h.1, h.2.1, h.2.2.1, by have := h.2.2.2.1; omega, h.2.2.2.2⟩
      · split at h
        · rename_i hc
          rw [List.mem_singleton] at h
          simp only [Prod.mk.injEq] at h
          obtain ⟨rfl, rfl, rfl⟩ := h
          simp only [Bool.and_eq_true, Bool.not_eq_true', decide_eq_true_eq] at hc
          exact ⟨rfl, rfl, hc.1, by simp, hc.2.1, hc.2.2⟩
        · cases h
    · rintro ⟨h1, h2, h3, h4, h5, h6⟩
      simp only at h1 h2 h3 h4 h6
      by_cases hk : c = k
      · right
        subst hk h1 h2
        rw [if_pos (by rw [h5, h6, decide_eq_true h3]; rfl)]; simp
      · left; exact ⟨h1, h2, h3, by simp only; omega, h5, h6⟩
theorem tri2_iff (n s i : Nat) (t : Tri) : t ∈ tri2 n s i ↔ t.1 = s ∧ t.2.1 < i ∧ t.2.1 < t.2.2 ∧ t.2.2 < n ∧ nbit s t.2.1 = false ∧ nbit s t.2.2 = false := by
  induction i with
  | zero => simp [tri2]
  | succ i ih =>
    rw [tri2, List.mem_append, ih, tri_iff]
    constructor
    · rintro (h | h)
      · exact ⟨h.1, by omega, h.2.2⟩
      · have e := h.2.1
        exact ⟨h.1, by omega, by omega, h.2.2.2.1, by rw [e]; exact h.2.2.2.2.1, h.2.2.2.2.2⟩
    · rintro ⟨h1, h2, h3, h4, h5, h6⟩
      by_cases hk : t.2.1 = i
      · right; exact ⟨h1, hk, by omega, h4, by rw [← hk]; exact h5, h6⟩
      · left; exact ⟨h1, by omega, h3, h4, h5, h6⟩
theorem tri3_iff (n s : Nat) (t : Tri) : t ∈ tri3 n s ↔ t.1 < s ∧ t.2.1 < t.2.2 ∧ t.2.2 < n ∧ nbit t.1 t.2.1 = false ∧ nbit t.1 t.2.2 = false := by
  induction s with
  | zero => simp [tri3]
  | succ s ih =>
    rw [tri3, List.mem_append, ih, tri2_iff]
    constructor
    · rintro (h | h)
      · exact ⟨by omega, h.2⟩
      · have e := h.1
        rw [e]
        exact ⟨by omega, h.2.2⟩
    · rintro ⟨h1, h2, h3, h4, h5⟩
      by_cases hk : t.1 = s
      · right; rw [hk] at h4 h5; exact ⟨hk, by omega, h2, h3, h4, h5⟩
      · left; exact ⟨by omega, h2, h3, h4, h5⟩
theorem exL_swap (l : List Int) (s i k : Nat) : exL l s i k = exL l s k i := by
  unfold exL
  rw [Nat.or_comm (setBit s i) (setBit s k)]
  omega
theorem gap_other (n : Nat) (l : List Int) (N : Nat) : most0 ((trk3 n N).map (exT l)) 0 = most0 ((tri3 n N).map (exT l)) 0 := by
  refine most0_eq _ _ _ (fun x hx => ?_) (fun x hx => ?_)
  · obtain ⟨⟨s, i, k⟩, h1, rfl⟩ := List.mem_map.1 hx
    have h2 := (trk3_iff _ _ _).1 h1
    simp only at h2
    exact List.mem_map.2 ⟨(s, k, i), (tri3_iff _ _ _).2 (by simp only; exact ⟨h2.1, h2.2.2.1, h2.2.1, h2.2.2.2.2, h2.2.2.2.1⟩), exL_swap l s k i⟩
  · obtain ⟨⟨s, i, k⟩, h1, rfl⟩ := List.mem_map.1 hx
    have h2 := (tri3_iff _ _ _).1 h1
    simp only at h2
    exact List.mem_map.2 ⟨(s, k, i), (trk3_iff _ _ _).2 (by simp only; exact ⟨h2.1, h2.2.2.1, h2.2.1, h2.2.2.2.2, h2.2.2.2.1⟩), exL_swap l s k i⟩
theorem gapT_most (n : Nat) (l : List Int) : gapT n l = most0 ((trk3 n (2 ^ n)).map (exT l)) 0 := by
  unfold gapT
  rw [gap_run, gap_other]
theorem most0_bd (X : List Int) (h : ∀ x ∈ X, x ≤ 4000) : 0 ≤ most0 X 0 ∧ most0 X 0 ≤ 4000 := by
  have h1 := (most0_ge X 0).1
  rcases most0_is X 0 with h2 | h2
  · omega
  · exact ⟨h1, h _ h2⟩
theorem gapN_bd (n : Int) (l : List Int) : 0 ≤ gapN n l ∧ gapN n l ≤ 4000 := by
  unfold gapN
  split
  · rename_i hf
    obtain ⟨h0, h5, hlen, hlb⟩ := funOk hf
    have hl2 : l.length = 2 ^ n.toNat := by exact_mod_cast hlen
    unfold gapT
    rw [gap_run]
    refine most0_bd _ (fun x hx => ?_)
    obtain ⟨t, h1, rfl⟩ := List.mem_map.1 hx
    have h2 := tri3_mem _ _ t h1
    exact (exL_bd n.toNat l hl2 hlb t.1 t.2.1 t.2.2 h2.1 (by omega) (by omega)).2
  · omega
end Go.Proofs.YtelmokapdkepbaaGreatDoor
end
section
namespace Go.Proofs.YtelmokapdkepbaaGreatDoor
open Go.RowKit Go.G5

def extTo (l : List Int) : Nat → List (List Int)
  | 0 => []
  | e + 1 => if has l (e : Int) then extTo l e else extTo l e ++ [l ++ [(e : Int)]]
def nextTo (n : Nat) (ls : List (List Int)) : Nat → List (List Int)
  | 0 => []
  | k + 1 => nextTo n ls k ++ extTo (ls.getD k []) n
def ordersN (n : Nat) : Nat → List (List Int)
  | 0 => [[]]
  | r + 1 => nextTo n (ordersN n r) (ordersN n r).length
theorem extTo_len (l : List Int) (e : Nat) : (extTo l e).length ≤ e := by
  induction e with
  | zero => exact Nat.le_refl _
  | succ e ih =>
    rw [extTo]
    split
    · omega
    · rw [List.length_append]; simp only [List.length_cons, List.length_nil]; omega
theorem nextTo_len (n : Nat) (ls : List (List Int)) (k : Nat) : (nextTo n ls k).length ≤ k * n := by
  induction k with
  | zero => simp [nextTo]
  | succ k ih =>
    have := extTo_len (ls.getD k []) n
    rw [nextTo, List.length_append, Nat.succ_mul]; omega
theorem ordersN_len (n : Nat) (hn : n ≤ 5) (r : Nat) : (ordersN n r).length ≤ 5 ^ r := by
  induction r with
  | zero => simp [ordersN]
  | succ r ih =>
    have h1 := nextTo_len n (ordersN n r) (ordersN n r).length
    have h2 : (ordersN n r).length * n ≤ 5 ^ r * 5 := Nat.mul_le_mul ih hn
    rw [ordersN, Nat.pow_succ]; omega
theorem extTo_mem (l : List Int) (n e : Nat) (he : e ≤ n) : ∀ x ∈ extTo l e, ∃ j : Nat, j < n ∧ x = l ++ [(j : Int)] := by
  induction e with
  | zero => simp [extTo]
  | succ e ih =>
    intro x hx
    rw [extTo] at hx
    split at hx
    · exact ih (by omega) x hx
    · rcases List.mem_append.1 hx with hx | hx
      · exact ih (by omega) x hx
      · simp only [List.mem_singleton] at hx
        exact ⟨e, by omega, hx⟩
theorem nextTo_mem (n : Nat) (ls : List (List Int)) (k : Nat) (hk : k ≤ ls.length) : ∀ x ∈ nextTo n ls k, ∃ l ∈ ls, ∃ j : Nat, j < n ∧ x = l ++ [(j : Int)] := by
  induction k with
  | zero => simp [nextTo]
  | succ k ih =>
    intro x hx
    rw [nextTo] at hx
    rcases List.mem_append.1 hx with hx | hx
    · exact ih (by omega) x hx
    · obtain ⟨j, hj, e⟩ := extTo_mem _ n n (Nat.le_refl _) x hx
      rw [List.getD_eq_getElem?_getD, List.getElem?_eq_getElem (show k < ls.length by omega), Option.getD_some] at e
      exact ⟨_, List.getElem_mem (show k < ls.length by omega), j, hj, e⟩
theorem ordersN_mem (n r : Nat) : ∀ l ∈ ordersN n r, l.length = r ∧ ∀ x ∈ l, 0 ≤ x ∧ x < n := by
  induction r with
  | zero => intro l hl; simp only [ordersN, List.mem_singleton] at hl; subst hl; simp
  | succ r ih =>
    intro l hl
    obtain ⟨l', hl', j, hj, rfl⟩ := nextTo_mem n _ _ (Nat.le_refl _) l hl
    obtain ⟨h1, h2⟩ := ih l' hl'
    refine ⟨by simp [h1], fun x hx => ?_⟩
    rcases List.mem_append.1 hx with hx | hx
    · exact h2 x hx
    · simp only [List.mem_singleton] at hx; omega

end Go.Proofs.YtelmokapdkepbaaGreatDoor
end
section
namespace Go.Proofs.YtelmokapdkepbaaGreatDoor
open Go.RowKit Go.G5

/-! by orders -/
def tot (l : List Int) (os : List (List Int)) (e : Nat) : Nat → Int
  | 0 => 0
  | j + 1 => tot l os e j + (cornerL l (os.getD j [])).getD e 0
def rowT (l : List Int) (os : List (List Int)) (n j : Nat) : List Int := (List.range n).map fun e => tot l os e j
theorem rowT_len (l : List Int) (os : List (List Int)) (n j : Nat) : (rowT l os n j).length = n := by simp [rowT]
theorem rowT_get (l : List Int) (os : List (List Int)) (n j e : Nat) (h : e < (rowT l os n j).length) : (rowT l os n j)[e] = tot l os e j := by simp [rowT]
theorem rowT_zero (l : List Int) (os : List (List Int)) (n : Nat) : rowT l os n 0 = List.replicate n 0 := by
  apply List.ext_getElem
  · simp [rowT]
  · intro i h1 h2
    simp [rowT, tot]
theorem mix_step (A B : List Int) (e : Nat) (hA : e < A.length) (hB : A.length = B.length) : (A.take e ++ B.drop e).set e A[e] = A.take (e + 1) ++ B.drop (e + 1) := by
  apply List.ext_getElem
  · simp; omega
  · intro i h1 h2
    simp only [List.length_set, List.length_append, List.length_take, List.length_drop] at h1 h2
    rw [List.getElem_set]
    by_cases hi : e = i
    · subst hi
      rw [if_pos rfl, List.getElem_append_left (by simp; omega)]; simp
    · rw [if_neg hi]
      by_cases hie : i < e
      · rw [List.getElem_append_left (by simp; omega), List.getElem_append_left (by simp; omega)]; simp
      · rw [List.getElem_append_right (by simp; omega), List.getElem_append_right (by simp; omega)]
        simp only [List.length_take, List.getElem_drop]
        congr 1; omega
theorem mix_len (A B : List Int) (e : Nat) (hA : e ≤ A.length) (hB : A.length = B.length) : (A.take e ++ B.drop e).length = A.length := by simp; omega
theorem mix_get (A B : List Int) (e : Nat) (hA : e < A.length) (hB : A.length = B.length) (h : e < (A.take e ++ B.drop e).length) : (A.take e ++ B.drop e)[e] = B[e] := by
  rw [List.getElem_append_right (by simp; omega)]
  simp only [List.length_take, List.getElem_drop]
  congr 1; omega

/-! by sets -/
def shTo (l : List Int) (n e : Nat) : Nat → Int
  | 0 => 0
  | s + 1 => if ibit (s : Int) e = 1 then shTo l n e s else shTo l n e s + (fact (pop s) : Int) * (fact (n - 1 - pop s) : Int) * (l.getD (setBit s e) 0 - l.getD s 0)
def shapL (n : Nat) (l : List Int) : List Int := (List.range n).map fun e => shTo l n e (2 ^ n)
def shapOf (n : Int) (l : List Int) : List Int := if isFunB n l then shapL n.toNat l else []

theorem shapOf_len (n : Int) (l : List Int) : (shapOf n l).length ≤ 1048576 := by
  unfold shapOf
  split
  · rename_i hf
    obtain ⟨h0, h5, _⟩ := funOk hf
    simp [shapL]; omega
  · simp

/-! sums of differences -/
def lin (l : List Int) : List (Int × Nat × Nat) → Int
  | [] => 0
  | t :: ts => lin l ts + t.1 * (l.getD t.2.1 0 - l.getD t.2.2 0)
def one (a i : Nat) : Int := if a = i then 1 else 0
def coef (i : Nat) : List (Int × Nat × Nat) → Int
  | [] => 0
  | t :: ts => coef i ts + t.1 * (one t.2.1 i - one t.2.2 i)
def sumN (f : Nat → Int) : Nat → Int
  | 0 => 0
  | n + 1 => sumN f n + f n
theorem sumN_congr {f g : Nat → Int} {n : Nat} (h : ∀ i, i < n → f i = g i) : sumN f n = sumN g n := by
  induction n with
  | zero => rfl
  | succ n ih => rw [sumN, sumN, ih (fun i hi => h i (by omega)), h n (by omega)]
theorem sumN_add (f g : Nat → Int) (n : Nat) : sumN (fun i => f i + g i) n = sumN f n + sumN g n := by
  induction n with
  | zero => rfl
  | succ n ih => rw [sumN, sumN, sumN, ih]; omega
theorem sumN_zero (n : Nat) : sumN (fun _ => 0) n = 0 := by
  induction n with
  | zero => rfl
  | succ n ih => rw [sumN, ih]; rfl
theorem sumN_one (l : List Int) (a n : Nat) (c : Int) : sumN (fun i => c * one a i * l.getD i 0) n = if a < n then c * l.getD a 0 else 0 := by
  induction n with
  | zero => simp [sumN]
  | succ n ih =>
    rw [sumN, ih]
    unfold one
    by_cases h1 : a < n
    · rw [if_pos h1, if_neg (show ¬ a = n by omega), if_pos (show a < n + 1 by omega)]; simp
    · by_cases h2 : a = n
      · subst h2; simp
      · rw [if_neg h1, if_neg h2, if_neg (show ¬ a < n + 1 by omega)]; simp
theorem lin_coef (l : List Int) (n : Nat) (ts : List (Int × Nat × Nat)) (h : ∀ t ∈ ts, t.2.1 < n ∧ t.2.2 < n) : lin l ts = sumN (fun i => coef i ts * l.getD i 0) n := by
  induction ts with
  | nil => simp only [lin, coef, Int.zero_mul, sumN_zero]
  | cons t ts ih =>
    have ht := h t (by simp)
    rw [lin, ih (fun x hx => h x (by simp [hx]))]
    have e : (fun i => coef i (t :: ts) * l.getD i 0) = fun i => coef i ts * l.getD i 0 + (t.1 * one t.2.1 i * l.getD i 0 + (-t.1) * one t.2.2 i * l.getD i 0) := by
      funext i
      rw [coef, Int.add_mul, Int.mul_sub, Int.sub_mul, Int.neg_mul, Int.neg_mul]; omega
    rw [e, sumN_add, sumN_add, sumN_one, sumN_one, if_pos ht.1, if_pos ht.2, Int.mul_sub, Int.neg_mul]; omega

def cornerP (o : List Int) : Nat → List (Nat × Nat)
  | 0 => List.replicate o.length (0, 0)
  | k + 1 => (cornerP o k).set (o.getD k 0).toNat (setBit (prefS o k) (o.getD k 0).toNat, prefS o k)
theorem cornerP_map (l o : List Int) (k : Nat) : cornerTo l o k = (cornerP o k).map fun p => l.getD p.1 0 - l.getD p.2 0 := by
  induction k with
  | zero => simp [cornerTo, cornerP]
  | succ k ih => rw [cornerTo, cornerP, List.map_set, ih]; rfl
def tI (os : List (List Int)) (e : Nat) : Nat → List (Int × Nat × Nat)
  | 0 => []
  | j + 1 => (1, (cornerP (os.getD j []) (os.getD j []).length).getD e (0, 0)) :: tI os e j
def tS (n e : Nat) : Nat → List (Int × Nat × Nat)
  | 0 => []
  | s + 1 => if ibit (s : Int) e = 1 then tS n e s else ((fact (pop s) : Int) * (fact (n - 1 - pop s) : Int), setBit s e, s) :: tS n e s
theorem tot_lin (l : List Int) (os : List (List Int)) (e j : Nat) : tot l os e j = lin l (tI os e j) := by
  induction j with
  | zero => rfl
  | succ j ih =>
    rw [tot, tI, lin, ih]
    unfold cornerL
    rw [cornerP_map]
    generalize cornerP (os.getD j []) (os.getD j []).length = P
    have : (P.map fun p => l.getD p.1 0 - l.getD p.2 0).getD e 0 = l.getD (P.getD e (0, 0)).1 0 - l.getD (P.getD e (0, 0)).2 0 := by
      rw [List.getD_eq_getElem?_getD, List.getElem?_map, List.getD_eq_getElem?_getD]
      cases hP : P[e]? with
      | none => simp [hP]
      | some p => simp [hP]
    rw [this, Int.one_mul]
theorem shTo_lin (l : List Int) (n e s : Nat) : shTo l n e s = lin l (tS n e s) := by
  induction s with
  | zero => rfl
  | succ s ih =>
    rw [shTo, tS]
    by_cases h : ibit (s : Int) e = 1
    · rw [if_pos h, if_pos h, ih]
    · rw [if_neg h, if_neg h, lin, ih]
def sameCoef (ts us : List (Int × Nat × Nat)) (n : Nat) : Bool :=
  ts.all (fun t => decide (t.2.1 < n) && decide (t.2.2 < n)) && us.all (fun t => decide (t.2.1 < n) && decide (t.2.2 < n)) && (List.range n).all fun i => coef i ts == coef i us
theorem lin_same (l : List Int) (ts us : List (Int × Nat × Nat)) (n : Nat) (h : sameCoef ts us n = true) : lin l ts = lin l us := by
  unfold sameCoef at h
  simp only [Bool.and_eq_true, List.all_eq_true, decide_eq_true_eq, List.mem_range, beq_iff_eq] at h
  rw [lin_coef l n ts h.1.1, lin_coef l n us h.1.2]
  exact sumN_congr fun i hi => by rw [h.2 i hi]
theorem shap_check : ∀ n, n ≤ 5 → ∀ e, e < n → sameCoef (tI (ordersN n n) e (ordersN n n).length) (tS n e (2 ^ n)) (2 ^ n) = true := by decide +kernel
theorem shap_same (n : Nat) (hn : n ≤ 5) (l : List Int) : rowT l (ordersN n n) n (ordersN n n).length = shapL n l := by
  unfold rowT shapL
  apply List.map_congr_left
  intro e he
  rw [tot_lin, shTo_lin]
  exact lin_same l _ _ _ (shap_check n hn e (by simpa using he))
end Go.Proofs.YtelmokapdkepbaaGreatDoor
end
section
namespace Go.Proofs.YtelmokapdkepbaaGreatDoor
open Go.RowKit Go.G5

/-- the sum of the signed values of the parts of s below k -/
def massTo (l : List Int) (s : Nat) : Nat → Int
  | 0 => 0
  | k + 1 => if ndiff k s = 0 then (if pop (ndiff s k) % 2 = 1 then massTo l s k - l.getD k 0 else massTo l s k + l.getD k 0) else massTo l s k
def masses (l : List Int) : List Int := (List.range l.length).map fun s => massTo l s (s + 1)
def massesOf (n : Int) (l : List Int) : List Int := if isFunB n l then masses l else []
theorem massTo_bd (l : List Int) (s : Nat) (h : ∀ k, (hk : k < l.length) → -1000 ≤ l[k] ∧ l[k] ≤ 1000) (k : Nat) (hk : k ≤ l.length) : -1000 * (k : Int) ≤ massTo l s k ∧ massTo l s k ≤ 1000 * (k : Int) := by
  induction k with
  | zero => simp [massTo]
  | succ k ih =>
    have h1 := ih (by omega)
    have h2 := h k (by omega)
    rw [massTo, List.getD_eq_getElem?_getD, List.getElem?_eq_getElem (show k < l.length by omega), Option.getD_some]
    split
    · split <;> omega
    · omega
theorem masses_len (l : List Int) : (masses l).length = l.length := by simp [masses]
theorem masses_get (l : List Int) (s : Nat) (h : s < (masses l).length) : (masses l)[s] = massTo l s (s + 1) := by simp [masses]
theorem set_zero (l : List Int) (s n : Nat) (h : s < n) (hl : s ≤ l.length) : (l.take s ++ List.replicate (n - s) (0 : Int)).set s 0 = l.take s ++ List.replicate (n - s) 0 := by
  rw [show n - s = (n - s - 1) + 1 by omega, List.replicate_succ]
  have e : (l.take s).length = s := by simp; omega
  rw [List.set_append_right _ _ (by omega), e]
  simp
theorem mass_fill (l : List Int) (s : Nat) (h : s < l.length) : ((masses l).take s ++ List.replicate (l.length - s) (0 : Int)).set s (massTo l s (s + 1)) = (masses l).take (s + 1) ++ List.replicate (l.length - (s + 1)) 0 := by
  have := fill_step (masses l) s (by rw [masses_len]; exact h)
  simp only [masses_get, masses_len] at this
  exact this

theorem massesOf_len (n : Int) (l : List Int) (h : l.length ≤ 1048576) : (massesOf n l).length ≤ 1048576 := by
  unfold massesOf; split
  · rw [masses_len]; exact h
  · simp

theorem ndiff_zero (a b : Nat) : ndiff a b = 0 ↔ a &&& b = a := by
  have := @Nat.and_le_left a b
  unfold ndiff; omega
theorem ndiff_sub (a b : Nat) (h : b &&& a = b) : ndiff a b = a - b := by unfold ndiff; rw [Nat.and_comm, h]
theorem masses_take (l : List Int) (s : Nat) (h : s < l.length) : (masses l).take (s + 1) = (masses l).take s ++ [massTo l s (s + 1)] := by
  rw [List.take_succ_eq_append_getElem (by rw [masses_len]; exact h), masses_get]

/-! only positive masses -/
def onlyPosB (n : Int) (l : List Int) : Bool := isFunB n l && allIn ((masses l).drop 1) 0 1099511627776

theorem allIn_drop_false (m : List Int) (k : Nat) (h1 : 1 ≤ k) (h : k < m.length) (hneg : m[k] < 0) (hi : Int) : allIn (m.drop 1) 0 hi = false := by
  unfold allIn
  refine all_false_at _ _ (k - 1) (by simp; omega) ?_
  simp only [List.getElem_drop]
  have e : 1 + (k - 1) = k := by omega
  simp only [e]
  exact inB_false.2 (.inl hneg)
theorem allIn_drop_true (m : List Int) (h : ∀ k, (hk : k < m.length) → 1 ≤ k → 0 ≤ m[k] ∧ m[k] ≤ 1099511627776) : allIn (m.drop 1) 0 1099511627776 = true := by
  unfold allIn
  rw [List.all_eq_true]
  intro x hx
  obtain ⟨j, hj, rfl⟩ := List.getElem_of_mem hx
  simp only [List.getElem_drop]
  simp at hj
  exact inB_true.2 (h (1 + j) (by omega) (by omega))

end Go.Proofs.YtelmokapdkepbaaGreatDoor
end
section
namespace Go.Proofs.YtelmokapdkepbaaGreatDoor
open Go.RowKit Go.G5

def oppF (l : List Int) (s : Nat) : Int := l.getD (l.length - 1 - s) 0
def oppL (l : List Int) : List Int := madeL (oppF l) l.length
def opN (n : Int) (l : List Int) : Int := if isFunB n l then n else 0
def opL (n : Int) (l : List Int) : List Int := if isFunB n l then oppL l else []
def symB (n : Int) (l : List Int) : Bool := isFunB n l && decide (l = oppL l)
def fitB (n : Int) (l : List Int) : Bool := (subB n l && symB n l) && decide (2 ≤ n)
/-- the first least set from 1 on below k -/
def bestTo (l : List Int) : Nat → Nat
  | 0 => 1
  | k + 1 => if k < 2 then 1 else if l.getD k 0 < l.getD (bestTo l k) 0 then k else bestTo l k
def cutS (n : Int) (l : List Int) : Int := if fitB n l then (bestTo l (l.length - 1) : Int) else 0
def cutN (n : Int) (l : List Int) : Int := if fitB n l then l.getD (bestTo l (l.length - 1)) 0 else 0
theorem bestTo_two (l : List Int) : bestTo l 2 = 1 := rfl
theorem bestTo_succ (l : List Int) (k : Nat) (h : 2 ≤ k) : bestTo l (k + 1) = if l.getD k 0 < l.getD (bestTo l k) 0 then k else bestTo l k := by rw [bestTo, if_neg (by omega)]
theorem bestTo_lt (l : List Int) : ∀ k, 2 ≤ k → 1 ≤ bestTo l k ∧ bestTo l k < k := by
  intro k
  induction k with
  | zero => intro h; omega
  | succ k ih =>
    intro h
    by_cases hk : 2 ≤ k
    · have := ih hk
      rw [bestTo_succ l k hk]
      split <;> omega
    · have : k = 1 := by omega
      subst this
      rw [bestTo_two]; omega
theorem oppL_len (l : List Int) : (oppL l).length = l.length := by unfold oppL madeL; simp
theorem opL_len (n : Int) (l : List Int) (h : l.length ≤ 1048576) : (opL n l).length ≤ 1048576 := by
  unfold opL
  split
  · rw [oppL_len]; exact h
  · simp
theorem oppF_at (l : List Int) (s : Nat) (h : s < l.length) : oppF l s = l[l.length - 1 - s] := by unfold oppF; exact getD_at l _ (by omega)
theorem opp_fun (n : Int) (l : List Int) (h : isFunB n l = true) : isFunB n (oppL l) = true := by
  obtain ⟨h0, h5, hlen, hlb⟩ := funOk h
  unfold isFunB allIn
  rw [oppL_len, inB_true.2 ⟨h0, h5⟩, decide_eq_true hlen]
  simp only [Bool.true_and, List.all_eq_true]
  intro x hx
  unfold oppL madeL at hx
  obtain ⟨s, hs, rfl⟩ := List.mem_map.1 hx
  rw [List.mem_range] at hs
  rw [oppF_at l s hs]
  exact inB_true.2 (hlb _ (by omega))
theorem ndiff_full : ∀ n : Nat, n ≤ 5 → ∀ s : Nat, s < 2 ^ n → ndiff (2 ^ n - 1) s = 2 ^ n - 1 - s := by decide +kernel
end Go.Proofs.YtelmokapdkepbaaGreatDoor
end
