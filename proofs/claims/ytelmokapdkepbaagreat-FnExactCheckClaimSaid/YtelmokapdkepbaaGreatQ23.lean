/- Hall's theorem with its deficiency: plain. -/
import Derived.Test.YtelmokapdkepbaaGreatQ22
section
namespace Go.Proofs.YtelmokapdkepbaaGreat
open Go.RowKit Go.G5

/-- the elements of the chosen sets that are not used -/
def uniU (used : Nat) : List Nat → (Nat → Bool) → Nat
  | [], _ => 0
  | x :: t, J => (if J 0 then ndiff x used else 0) ||| uniU used t (fun i => J (i + 1))
def cj : List Nat → (Nat → Bool) → Nat
  | [], _ => 0
  | _ :: t, J => (if J 0 then 1 else 0) + cj t (fun i => J (i + 1))
def consJ (b : Bool) (J : Nat → Bool) : Nat → Bool
  | 0 => b
  | i + 1 => J i
theorem cj_cons (x : Nat) (t : List Nat) (b : Bool) (J : Nat → Bool) : cj (x :: t) (consJ b J) = (if b then 1 else 0) + cj t J := rfl
theorem uniU_cons (used x : Nat) (t : List Nat) (b : Bool) (J : Nat → Bool) : uniU used (x :: t) (consJ b J) = (if b then ndiff x used else 0) ||| uniU used t J := rfl
theorem uniU_lt (used : Nat) : ∀ (t : List Nat) (J : Nat → Bool), (∀ x ∈ t, x < 64) → uniU used t J < 64 := by
  intro t
  induction t with
  | nil => intro J _; simp [uniU]
  | cons x t ih =>
    intro J h
    rw [uniU]
    have h1 := ih (fun i => J (i + 1)) (fun y hy => h y (List.mem_cons_of_mem _ hy))
    have h2 : ndiff x used < 64 := ndiff_lt x used 64 (h x List.mem_cons_self)
    refine or_lt64 _ _ ?_ h1
    split <;> omega
theorem uniU_or (used : Nat) : ∀ (t : List Nat) (J K : Nat → Bool), uniU used t (fun i => J i || K i) = uniU used t J ||| uniU used t K := by
  intro t
  induction t with
  | nil => intro J K; simp [uniU]
  | cons x t ih =>
    intro J K
    simp only [uniU]
    rw [ih (fun i => J (i + 1)) (fun i => K (i + 1))]
    apply Nat.eq_of_testBit_eq
    intro i
    rcases Bool.eq_false_or_eq_true (J 0) with hJ | hJ <;> rcases Bool.eq_false_or_eq_true (K 0) with hK | hK <;> simp [hJ, hK] <;> cases (ndiff x used).testBit i <;> cases (uniU used t (fun i => J (i + 1))).testBit i <;> simp
theorem uniU_and (used : Nat) : ∀ (t : List Nat) (J K : Nat → Bool), (uniU used t J &&& uniU used t K) ||| uniU used t (fun i => J i && K i) = uniU used t J &&& uniU used t K := by
  intro t
  induction t with
  | nil => intro J K; simp [uniU]
  | cons x t ih =>
    intro J K
    have h := ih (fun i => J (i + 1)) (fun i => K (i + 1))
    simp only [uniU]
    apply Nat.eq_of_testBit_eq
    intro i
    have h2 := congrArg (fun y => y.testBit i) h
    simp only [Nat.testBit_or, Nat.testBit_and] at h2 ⊢
    revert h2
    rcases Bool.eq_false_or_eq_true (J 0) with hJ | hJ <;> rcases Bool.eq_false_or_eq_true (K 0) with hK | hK <;> simp [hJ, hK] <;> cases (ndiff x used).testBit i <;> cases (uniU used t (fun i => J (i + 1))).testBit i <;> cases (uniU used t (fun i => K (i + 1))).testBit i <;> simp
theorem cj_mod : ∀ (t : List Nat) (J K : Nat → Bool), cj t (fun i => J i || K i) + cj t (fun i => J i && K i) = cj t J + cj t K := by
  intro t
  induction t with
  | nil => intro J K; simp [cj]
  | cons x t ih =>
    intro J K
    have h := ih (fun i => J (i + 1)) (fun i => K (i + 1))
    simp only [cj]
    rcases Bool.eq_false_or_eq_true (J 0) with hJ | hJ <;> rcases Bool.eq_false_or_eq_true (K 0) with hK | hK <;> simp [hJ, hK] <;> omega
theorem uni_mod (used : Nat) (t : List Nat) (J K : Nat → Bool) (h : ∀ x ∈ t, x < 64) :
    pop (uniU used t (fun i => J i || K i)) + pop (uniU used t (fun i => J i && K i)) ≤ pop (uniU used t J) + pop (uniU used t K) := by
  have a := uniU_lt used t J h
  have b := uniU_lt used t K h
  have c := uniU_lt used t (fun i => J i && K i) h
  rw [uniU_or, ← hm_mod _ a _ b]
  have h2 := hm_mono _ c _ (Nat.lt_of_le_of_lt Nat.and_le_left a : uniU used t J &&& uniU used t K < 64)
  rw [Nat.or_comm, uniU_and] at h2
  omega
theorem uniU_next (used e : Nat) (hu : used < 64) (he : e < 6) : ∀ (t : List Nat) (J : Nat → Bool), (∀ x ∈ t, x < 64) → uniU (used ||| 2 ^ e) t J = ndiff (uniU used t J) (2 ^ e) := by
  intro t
  induction t with
  | nil => intro J _; simp [uniU, ndiff]
  | cons x t ih =>
    intro J h
    have hx := h x List.mem_cons_self
    have ht := fun y hy => h y (List.mem_cons_of_mem x hy)
    have h1 := ih (fun i => J (i + 1)) ht
    have h2 := uniU_lt used t (fun i => J (i + 1)) ht
    simp only [uniU]
    rw [h1, hm_nd x hx used hu e he]
    cases J 0 with
    | false => simp
    | true =>
      rw [if_pos rfl, if_pos rfl, hm_ndor _ (ndiff_lt x used 64 hx) _ h2 e he]
theorem pop_next (used e : Nat) (hu : used < 64) (he : e < 6) (t : List Nat) (J : Nat → Bool) (h : ∀ x ∈ t, x < 64) :
    pop (uniU (used ||| 2 ^ e) t J) + (if nbit (uniU used t J) e then 1 else 0) = pop (uniU used t J) := by
  rw [uniU_next used e hu he t J h]
  exact (hm_off _ (uniU_lt used t J h) e he).1

/-! the greatest of some numbers, their sum -/
def maxTo (P : Nat → Bool) (F : Nat → Nat) (z : Nat) : Nat → Nat
  | 0 => z
  | k + 1 => if P k then max (maxTo P F z k) (F k) else maxTo P F z k
def sumToH (P : Nat → Bool) (F : Nat → Nat) : Nat → Nat
  | 0 => 0
  | k + 1 => if P k then sumToH P F k + F k else sumToH P F k
theorem maxTo_ge (P : Nat → Bool) (F : Nat → Nat) (z : Nat) : ∀ n, z ≤ maxTo P F z n ∧ ∀ k, k < n → P k = true → F k ≤ maxTo P F z n := by
  intro n
  induction n with
  | zero => exact ⟨Nat.le_refl _, fun k hk => by omega⟩
  | succ n ih =>
    rw [maxTo]
    constructor
    · split
      · have := ih.1; omega
      · exact ih.1
    · intro k hk hp
      by_cases h : k = n
      · subst h; rw [if_pos hp]; omega
      · have := ih.2 k (by omega) hp
        split <;> omega
theorem maxTo_is (P : Nat → Bool) (F : Nat → Nat) (z : Nat) : ∀ n, maxTo P F z n = z ∨ ∃ k, k < n ∧ P k = true ∧ maxTo P F z n = F k := by
  intro n
  induction n with
  | zero => exact .inl rfl
  | succ n ih =>
    rw [maxTo]
    by_cases hp : P n = true
    · rw [if_pos hp]
      by_cases hm : maxTo P F z n ≤ F n
      · exact .inr ⟨n, by omega, hp, by omega⟩
      · rcases ih with h | ⟨k, hk, hpk, he⟩
        · exact .inl (by omega)
        · exact .inr ⟨k, by omega, hpk, by omega⟩
    · rw [if_neg hp]
      rcases ih with h | ⟨k, hk, hpk, he⟩
      · exact .inl h
      · exact .inr ⟨k, by omega, hpk, he⟩
theorem maxTo_eq (P : Nat → Bool) (F : Nat → Nat) (z n m : Nat) (h1 : z ≤ m) (h2 : ∀ k, k < n → P k = true → F k ≤ m) (h3 : z = m ∨ ∃ k, k < n ∧ P k = true ∧ F k = m) : maxTo P F z n = m := by
  have hg := maxTo_ge P F z n
  have hi := maxTo_is P F z n
  have hle : maxTo P F z n ≤ m := by
    rcases hi with h | ⟨k, hk, hp, he⟩
    · omega
    · have := h2 k hk hp; omega
  have hge : m ≤ maxTo P F z n := by
    rcases h3 with h | ⟨k, hk, hp, he⟩
    · have := hg.1; omega
    · have := hg.2 k hk hp; omega
  omega
theorem sumTo_pos (P : Nat → Bool) (F : Nat → Nat) : ∀ n, (0 < sumToH P F n) ↔ ∃ k, k < n ∧ P k = true ∧ 0 < F k := by
  intro n
  induction n with
  | zero => simp [sumToH]
  | succ n ih =>
    rw [sumToH]
    by_cases hp : P n = true
    · rw [if_pos hp]
      constructor
      · intro h
        by_cases hf : 0 < F n
        · exact ⟨n, by omega, hp, hf⟩
        · obtain ⟨k, hk, a, b⟩ := ih.1 (by omega)
          exact ⟨k, by omega, a, b⟩
      · rintro ⟨k, hk, a, b⟩
        by_cases he : k = n
        · subst he; omega
        · have := ih.2 ⟨k, by omega, a, b⟩; omega
    · rw [if_neg hp, ih]
      constructor
      · rintro ⟨k, hk, a, b⟩; exact ⟨k, by omega, a, b⟩
      · rintro ⟨k, hk, a, b⟩
        have : k ≠ n := by intro e; subst e; exact hp a
        exact ⟨k, by omega, a, b⟩
theorem sumTo_le (P : Nat → Bool) (F : Nat → Nat) (b : Nat) (h : ∀ k, F k ≤ b) : ∀ n, sumToH P F n ≤ n * b := by
  intro n
  induction n with
  | zero => simp [sumToH]
  | succ n ih =>
    rw [sumToH, Nat.succ_mul]
    have := h n
    split <;> omega

/-- what a set leaves -/
def frB (x used e : Nat) : Bool := nbit x e && !nbit used e
/-- the greatest number of sets that get different elements -/
def mostL (G : Nat) : List Nat → Nat → Nat
  | [], _ => 0
  | x :: t, used => maxTo (frB x used) (fun e => 1 + mostL G t (used ||| 2 ^ e)) (mostL G t used) G
/-- the number of lists of different elements -/
def cntL (G : Nat) : List Nat → Nat → Nat
  | [], _ => 1
  | x :: t, used => sumToH (frB x used) (fun e => cntL G t (used ||| 2 ^ e)) G
theorem cntL_le (G : Nat) (hG : G ≤ 6) : ∀ (t : List Nat) (used : Nat), cntL G t used ≤ 6 ^ t.length := by
  intro t
  induction t with
  | nil => intro used; simp [cntL]
  | cons x t ih =>
    intro used
    rw [cntL, List.length_cons, Nat.pow_succ]
    refine Nat.le_trans (sumTo_le _ _ _ (fun k => ih _) G) ?_
    rw [Nat.mul_comm]
    exact Nat.mul_le_mul (Nat.le_refl _) hG
theorem mostL_le (G : Nat) : ∀ (t : List Nat) (used : Nat), mostL G t used ≤ t.length := by
  intro t
  induction t with
  | nil => intro used; simp [mostL]
  | cons x t ih =>
    intro used
    rw [mostL, List.length_cons]
    rcases maxTo_is (frB x used) (fun e => 1 + mostL G t (used ||| 2 ^ e)) (mostL G t used) G with h | ⟨k, _, _, h⟩
    · rw [h]; have := ih used; omega
    · rw [h]; have := ih (used ||| 2 ^ k); omega
/-- all sets get different elements -/
def okL (G : Nat) : List Nat → Nat → Bool
  | [], _ => true
  | x :: t, used => (List.range G).any fun e => frB x used e && okL G t (used ||| 2 ^ e)
theorem okL_cons (G x : Nat) (t : List Nat) (used : Nat) : okL G (x :: t) used = true ↔ ∃ e, e < G ∧ frB x used e = true ∧ okL G t (used ||| 2 ^ e) = true := by
  rw [okL, List.any_eq_true]
  constructor
  · rintro ⟨e, he, h⟩
    rw [Bool.and_eq_true] at h
    exact ⟨e, List.mem_range.1 he, h.1, h.2⟩
  · rintro ⟨e, he, h1, h2⟩
    exact ⟨e, List.mem_range.2 he, by rw [h1, h2]; rfl⟩
theorem cnt_ok (G : Nat) : ∀ (t : List Nat) (used : Nat), (0 < cntL G t used) ↔ okL G t used = true := by
  intro t
  induction t with
  | nil => intro used; simp [cntL, okL]
  | cons x t ih =>
    intro used
    rw [cntL, sumTo_pos, okL_cons]
    constructor
    · rintro ⟨e, he, a, b⟩; exact ⟨e, he, a, (ih _).1 b⟩
    · rintro ⟨e, he, a, b⟩; exact ⟨e, he, a, (ih _).2 b⟩
theorem most_ok (G : Nat) : ∀ (t : List Nat) (used : Nat), mostL G t used = t.length ↔ okL G t used = true := by
  intro t
  induction t with
  | nil => intro used; simp [mostL, okL]
  | cons x t ih =>
    intro used
    rw [mostL, okL_cons, List.length_cons]
    constructor
    · intro h
      rcases maxTo_is (frB x used) (fun e => 1 + mostL G t (used ||| 2 ^ e)) (mostL G t used) G with h2 | ⟨k, hk, hp, h2⟩
      · have := mostL_le G t used; omega
      · exact ⟨k, hk, hp, (ih _).1 (by omega)⟩
    · rintro ⟨e, he, a, b⟩
      have h1 := (ih _).2 b
      have h2 := (maxTo_ge (frB x used) (fun e => 1 + mostL G t (used ||| 2 ^ e)) (mostL G t used) G).2 e he a
      have h3 := mostL_le G (x :: t) used
      rw [mostL, List.length_cons] at h3
      try dsimp only at h2
      omega
/-- the chosen sets -/
def pickLH : List Nat → (Nat → Bool) → List Nat
  | [], _ => []
  | x :: t, J => (if J 0 then [x] else []) ++ pickLH t (fun i => J (i + 1))
theorem pick_cons (x : Nat) (t : List Nat) (b : Bool) (J : Nat → Bool) : pickLH (x :: t) (consJ b J) = (if b then [x] else []) ++ pickLH t J := rfl
theorem pick_len : ∀ (t : List Nat) (J : Nat → Bool), (pickLH t J).length = cj t J := by
  intro t
  induction t with
  | nil => intro J; rfl
  | cons x t ih =>
    intro J
    rw [pickLH, cj, List.length_append, ih]
    split <;> simp
theorem pick_most (G : Nat) : ∀ (t : List Nat) (used : Nat), (∀ J, okL G (pickLH t J) used = true → cj t J ≤ mostL G t used) ∧ ∃ J, okL G (pickLH t J) used = true ∧ cj t J = mostL G t used := by
  intro t
  induction t with
  | nil => intro used; exact ⟨fun J _ => by simp [cj], fun _ => false, rfl, rfl⟩
  | cons x t ih =>
    intro used
    have hg := maxTo_ge (frB x used) (fun e => 1 + mostL G t (used ||| 2 ^ e)) (mostL G t used) G
    constructor
    · intro J h
      rw [mostL, cj]
      rw [pickLH] at h
      cases hJ : J 0 with
      | false =>
        rw [hJ] at h
        simp only [Bool.false_eq_true, if_false, List.nil_append] at h
        have := (ih used).1 _ h
        have := hg.1
        simp only [Bool.false_eq_true, if_false]
        omega
      | true =>
        rw [hJ, if_pos rfl, List.singleton_append, okL_cons] at h
        obtain ⟨e, he, hp, ho⟩ := h
        have h1 := (ih _).1 _ ho
        have h2 := hg.2 e he hp
        try dsimp only at h2
        rw [if_pos rfl]
        omega
    · rw [mostL]
      rcases maxTo_is (frB x used) (fun e => 1 + mostL G t (used ||| 2 ^ e)) (mostL G t used) G with h | ⟨k, hk, hp, h⟩
      · obtain ⟨J, h1, h2⟩ := (ih used).2
        refine ⟨consJ false J, ?_, ?_⟩
        · rw [pick_cons]; simpa using h1
        · rw [h, cj_cons]; simpa using h2
      · obtain ⟨J, h1, h2⟩ := (ih (used ||| 2 ^ k)).2
        refine ⟨consJ true J, ?_, ?_⟩
        · rw [pick_cons, if_pos rfl, List.singleton_append, okL_cons]; exact ⟨k, hk, hp, h1⟩
        · rw [h, cj_cons, if_pos rfl, h2]

/-- HALL with the deficiency: sets that are chosen bound the number from above, and some choice meets it. -/
theorem hall_all (G : Nat) (hG : G ≤ 6) : ∀ (t : List Nat) (used : Nat), (∀ x ∈ t, x < 2 ^ G) → used < 2 ^ G →
    (∀ J, mostL G t used + cj t J ≤ t.length + pop (uniU used t J)) ∧ ∃ J, mostL G t used + cj t J = t.length + pop (uniU used t J) := by
  intro t
  induction t with
  | nil => intro used _ _; refine ⟨fun J => by simp [mostL, cj], fun _ => false, by simp [mostL, cj, uniU, pop_zero]⟩
  | cons x t ih =>
    intro used hx hu
    have h26 : (2 : Nat) ^ G ≤ 64 := Nat.pow_le_pow_right (n := 2) (by decide) hG
    have ht2 : ∀ y ∈ t, y < 2 ^ G := fun y hy => hx y (List.mem_cons_of_mem _ hy)
    have ht : ∀ y ∈ t, y < 64 := fun y hy => Nat.lt_of_lt_of_le (ht2 y hy) h26
    have hx2 := hx x List.mem_cons_self
    have hx64 : x < 64 := by omega
    have hu64 : used < 64 := by omega
    have hA : ndiff x used < 64 := ndiff_lt x used 64 hx64
    obtain ⟨h1, J0, hJ0⟩ := ih used ht2 hu
    have hstep : ∀ e, e < G → (∀ J, mostL G t (used ||| 2 ^ e) + cj t J + (if nbit (uniU used t J) e then 1 else 0) ≤ t.length + pop (uniU used t J)) ∧ ∃ J, mostL G t (used ||| 2 ^ e) + cj t J + (if nbit (uniU used t J) e then 1 else 0) = t.length + pop (uniU used t J) := by
      intro e he
      obtain ⟨q1, K, q2⟩ := ih (used ||| 2 ^ e) ht2 (Nat.or_lt_two_pow hu (Nat.pow_lt_pow_right (by decide) he))
      constructor
      · intro J
        have := q1 J
        have := pop_next used e hu64 (by omega) t J ht
        omega
      · refine ⟨K, ?_⟩
        have := pop_next used e hu64 (by omega) t K ht
        omega
    have hg := maxTo_ge (frB x used) (fun e => 1 + mostL G t (used ||| 2 ^ e)) (mostL G t used) G
    have hi := maxTo_is (frB x used) (fun e => 1 + mostL G t (used ||| 2 ^ e)) (mostL G t used) G
    have hfr : ∀ e, e < 6 → frB x used e = nbit (ndiff x used) e := fun e he => (hm_bit x hx64 used hu64 e he).symm
    constructor
    · intro J
      rw [mostL, cj, uniU, List.length_cons]
      obtain ⟨J', hJ'⟩ : ∃ J' : Nat → Bool, J' = fun i => J (i + 1) := ⟨_, rfl⟩
      rw [← hJ']
      have hU := uniU_lt used t J' ht
      have hb := h1 J'
      cases hJ : J 0 with
      | false =>
        simp only [Bool.false_eq_true, if_false, Nat.zero_or, Nat.zero_add]
        rcases hi with h | ⟨e, he, hp, h⟩
        · omega
        · have := (hstep e he).1 J'
          omega
      | true =>
        simp only [if_true]
        have hm := hm_mono _ hU _ hA
        rw [Nat.or_comm] at hm
        rcases hi with h | ⟨e, he, hp, h⟩
        · omega
        · have hs := (hstep e he).1 J'
          rw [h]
          rw [hfr e (by omega)] at hp
          cases hb2 : nbit (uniU used t J') e with
          | true => rw [hb2, if_pos rfl] at hs; omega
          | false =>
            rw [hb2] at hs
            simp only [Bool.false_eq_true, if_false] at hs
            have hlt : pop (uniU used t J') + 1 ≤ pop (ndiff x used ||| uniU used t J') := by
              have a1 := hm_off _ (or_lt64 _ _ hA hU) e (by omega)
              have a2 := hm_off _ hU e (by omega)
              have a3 := hm_off _ hA e (by omega)
              rw [hm_or, hp, Bool.true_or, if_pos rfl, hm_ndor _ hA _ hU e (by omega)] at a1
              rw [hb2] at a2
              have a4 := hm_mono _ a2.2 _ a3.2
              rw [Nat.or_comm] at a4
              have := a1.1
              have := a2.1
              simp only [Bool.false_eq_true, if_false] at this
              omega
            omega
    · rw [mostL, List.length_cons]
      by_cases hex : ∃ e, e < G ∧ frB x used e = true ∧ mostL G t used ≤ mostL G t (used ||| 2 ^ e)
      · obtain ⟨e, he, hp, hge⟩ := hex
        have hup : ∀ e, e < G → mostL G t (used ||| 2 ^ e) ≤ mostL G t used := fun e he => by
          have := (hstep e he).1 J0
          omega
        have hval : maxTo (frB x used) (fun e => 1 + mostL G t (used ||| 2 ^ e)) (mostL G t used) G = 1 + mostL G t used := by
          refine maxTo_eq _ _ _ _ _ (by omega) (fun k hk _ => by have := hup k hk; omega) (.inr ⟨e, he, hp, ?_⟩)
          have := hup e he
          try dsimp only
          omega
        rw [hval]
        refine ⟨consJ false J0, ?_⟩
        rw [cj_cons, uniU_cons]
        simp only [Bool.false_eq_true, if_false, Nat.zero_or, Nat.zero_add]
        omega
      · have hno : ∀ e, e < G → frB x used e = true → 1 + mostL G t (used ||| 2 ^ e) ≤ mostL G t used := fun e he hp => by
          rcases Nat.lt_or_ge (mostL G t (used ||| 2 ^ e)) (mostL G t used) with h | h
          · omega
          · exact absurd ⟨e, he, hp, h⟩ hex
        have hval : maxTo (frB x used) (fun e => 1 + mostL G t (used ||| 2 ^ e)) (mostL G t used) G = mostL G t used :=
          maxTo_eq _ _ _ _ _ (Nat.le_refl _) (fun k hk hp => hno k hk hp) (.inl rfl)
        rw [hval]
        have htight : ∀ k, k ≤ G → ∃ J, mostL G t used + cj t J = t.length + pop (uniU used t J) ∧ ∀ e, e < k → frB x used e = true → nbit (uniU used t J) e = true := by
          intro k
          induction k with
          | zero => intro _; exact ⟨J0, hJ0, fun e he => by omega⟩
          | succ k ihk =>
            intro hk
            obtain ⟨J, hJ, hin⟩ := ihk (by omega)
            cases hp : frB x used k with
            | false =>
              refine ⟨J, hJ, fun e he hpe => ?_⟩
              by_cases hek : e = k
              · subst hek; rw [hp] at hpe; cases hpe
              · exact hin e (by omega) hpe
            | true =>
              obtain ⟨K, hK⟩ := (hstep k (by omega)).2
              have hn := hno k (by omega) hp
              have hKb := h1 K
              have hKin : nbit (uniU used t K) k = true := by
                cases hc : nbit (uniU used t K) k with
                | true => rfl
                | false => rw [hc] at hK; simp only [Bool.false_eq_true, if_false] at hK; omega
              rw [hKin, if_pos rfl] at hK
              have hm := uni_mod used t J K ht
              have hc := cj_mod t J K
              have b1 := h1 (fun i => J i || K i)
              have b2 := h1 (fun i => J i && K i)
              refine ⟨fun i => J i || K i, by omega, fun e he hpe => ?_⟩
              rw [uniU_or, hm_or]
              by_cases hek : e = k
              · subst hek; rw [hKin, Bool.or_true]
              · rw [hin e (by omega) hpe, Bool.true_or]
        obtain ⟨J, hJ, hin⟩ := htight G (Nat.le_refl _)
        refine ⟨consJ true J, ?_⟩
        rw [cj_cons, uniU_cons]
        simp only [if_true]
        have hsub : uniU used t J ||| ndiff x used = uniU used t J := by
          refine hm_sub _ hA _ (uniU_lt used t J ht) (fun e he hb => ?_)
          rw [← hfr e he] at hb
          refine hin e ?_ hb
          refine hm_lt G x e hx2 ?_
          unfold frB at hb
          exact (Bool.and_eq_true_iff.1 hb).1
        rw [Nat.or_comm, hsub]
        omega
end Go.Proofs.YtelmokapdkepbaaGreat
end
