/- Hall's theorem with its deficiency: plain. Hall's condition: what both programs compute, in the words of the plain law. -/
import Derived.Test.YtipejodijbjpcaaGreatDoorQ28
section
namespace Go.Proofs.YtipejodijbjpcaaGreatDoor
open Go.RowKit Go.G5

/-- the elements of the chosen sets that are not used -/
def uniU (used : Nat) : List Nat → (Nat → Bool) → Nat
  | [], _ => 0
  | x :: t, J => (if J 0 then ndiff x used else 0) ||| uniU used t (fun i => J (i + 1))
def cj : List Nat → (Nat → Bool) → Nat
  | [], _ => 0
  | _ :: t, J => (if J 0 then 1 else 0) + cj t (fun i => J (i + 1))
def consJ (b : Bool) (J : Nat → Bool) : Nat → Bool
  | 0 => b
  | i + 1 => J i
theorem cj_cons (x : Nat) (t : List Nat) (b : Bool) (J : Nat → Bool) : cj (x :: t) (consJ b J) = (if b then 1 else 0) + cj t J := rfl
theorem uniU_cons (used x : Nat) (t : List Nat) (b : Bool) (J : Nat → Bool) : uniU used (x :: t) (consJ b J) = (if b then ndiff x used else 0) ||| uniU used t J := rfl
theorem uniU_lt (used : Nat) : ∀ (t : List Nat) (J : Nat → Bool), (∀ x ∈ t, x < 64) → uniU used t J < 64 := by
  intro t
  induction t with
  | nil => intro J _; simp [uniU]
  | cons x t ih =>
    intro J h
    rw [uniU]
    have h1 := ih (fun i => J (i + 1)) (fun y hy => h y (List.mem_cons_of_mem _ hy))
    have h2 : ndiff x used < 64 := ndiff_lt x used 64 (h x List.mem_cons_self)
    refine or_lt64 _ _ ?_ h1
    split <;> omega
theorem uniU_or (used : Nat) : ∀ (t : List Nat) (J K : Nat → Bool), uniU used t (fun i => J i || K i) = uniU used t J ||| uniU used t K := by
  intro t
  induction t with
  | nil => intro J K; simp [uniU]
  | cons x t ih =>
    intro J K
    simp only [uniU]
    rw [ih (fun i => J (i + 1)) (fun i => K (i + 1))]
    apply Nat.eq_of_testBit_eq
    intro i
    rcases Bool.eq_false_or_eq_true (J 0) with hJ | hJ <;> rcases Bool.eq_false_or_eq_true (K 0) with hK | hK <;> simp [hJ, hK] <;> cases (ndiff x used).testBit i <;> cases (uniU used t (fun i => J (i + 1))).testBit i <;> simp
theorem uniU_and (used : Nat) : ∀ (t : List Nat) (J K : Nat → Bool), (uniU used t J &&& uniU used t K) ||| uniU used t (fun i => J i && K i) = uniU used t J &&& uniU used t K := by
  intro t
  induction t with
  | nil => intro J K; simp [uniU]
  | cons x t ih =>
    intro J K
    have h := ih (fun i => J (i + 1)) (fun i => K (i + 1))
    simp only [uniU]
    apply Nat.eq_of_testBit_eq
    intro i
    have h2 := congrArg (fun y => y.testBit i) h
    simp only [Nat.testBit_or, Nat.testBit_and] at h2 ⊢
    revert h2
    rcases Bool.eq_false_or_eq_true (J 0) with hJ | hJ <;> rcases Bool.eq_false_or_eq_true (K 0) with hK | hK <;> simp [hJ, hK] <;> cases (ndiff x used).testBit i <;> cases (uniU used t (fun i => J (i + 1))).testBit i <;> cases (uniU used t (fun i => K (i + 1))).testBit i <;> simp
theorem cj_mod : ∀ (t : List Nat) (J K : Nat → Bool), cj t (fun i => J i || K i) + cj t (fun i => J i && K i) = cj t J + cj t K := by
  intro t
  induction t with
  | nil => intro J K; simp [cj]
  | cons x t ih =>
    intro J K
    have h := ih (fun i => J (i + 1)) (fun i => K (i + 1))
    simp only [cj]
    rcases Bool.eq_false_or_eq_true (J 0) with hJ | hJ <;> rcases Bool.eq_false_or_eq_true (K 0) with hK | hK <;> simp [hJ, hK] <;> omega
theorem uni_mod (used : Nat) (t : List Nat) (J K : Nat → Bool) (h : ∀ x ∈ t, x < 64) :
    pop (uniU used t (fun i => J i || K i)) + pop (uniU used t (fun i => J i && K i)) ≤ pop (uniU used t J) + pop (uniU used t K) := by
  have a := uniU_lt used t J h
  have b := uniU_lt used t K h
  have c := uniU_lt used t (fun i => J i && K i) h
  rw [uniU_or, ← hm_mod _ a _ b]
  have h2 := hm_mono _ c _ (Nat.lt_of_le_of_lt Nat.and_le_left a : uniU used t J &&& uniU used t K < 64)
  rw [Nat.or_comm, uniU_and] at h2
  omega
theorem uniU_next (used e : Nat) (hu : used < 64) (he : e < 6) : ∀ (t : List Nat) (J : Nat → Bool), (∀ x ∈ t, x < 64) → uniU (used ||| 2 ^ e) t J = ndiff (uniU used t J) (2 ^ e) := by
  intro t
  induction t with
  | nil => intro J _; simp [uniU, ndiff]
  | cons x t ih =>
    intro J h
    have hx := h x List.mem_cons_self
    have ht := fun y hy => h y (List.mem_cons_of_mem x hy)
    have h1 := ih (fun i => J (i + 1)) ht
    have h2 := uniU_lt used t (fun i => J (i + 1)) ht
    simp only [uniU]
    rw [h1, hm_nd x hx used hu e he]
    cases J 0 with
    | false => simp
    | true =>
      rw [if_pos rfl, if_pos rfl, hm_ndor _ (ndiff_lt x used 64 hx) _ h2 e he]
theorem pop_next (used e : Nat) (hu : used < 64) (he : e < 6) (t : List Nat) (J : Nat → Bool) (h : ∀ x ∈ t, x < 64) :
    pop (uniU (used ||| 2 ^ e) t J) + (if nbit (uniU used t J) e then 1 else 0) = pop (uniU used t J) := by
  rw [uniU_next used e hu he t J h]
  exact (hm_off _ (uniU_lt used t J h) e he).1

/-! the greatest of some numbers, their sum -/
def maxTo (P : Nat → Bool) (F : Nat → Nat) (z : Nat) : Nat → Nat
  | 0 => z
  | k + 1 => if P k then max (maxTo P F z k) (F k) else maxTo P F z k
def sumToH (P : Nat → Bool) (F : Nat → Nat) : Nat → Nat
  | 0 => 0
  | k + 1 => if P k then sumToH P F k + F k else sumToH P F k
theorem maxTo_ge (P : Nat → Bool) (F : Nat → Nat) (z : Nat) : ∀ n, z ≤ maxTo P F z n ∧ ∀ k, k < n → P k = true → F k ≤ maxTo P F z n := by
  intro n
  induction n with
  | zero => exact ⟨Nat.le_refl _, fun k hk => by omega⟩
  | succ n ih =>
    rw [maxTo]
    constructor
    · split
      · have := ih.1; omega
      · exact ih.1
    · intro k hk hp
      by_cases h : k = n
      · subst h; rw [if_pos hp]; omega
      · have := ih.2 k (by omega) hp
        split <;> omega
theorem maxTo_is (P : Nat → Bool) (F : Nat → Nat) (z : Nat) : ∀ n, maxTo P F z n = z ∨ ∃ k, k < n ∧ P k = true ∧ maxTo P F z n = F k := by
  intro n
  induction n with
  | zero => exact .inl rfl
  | succ n ih =>
    rw [maxTo]
    by_cases hp : P n = true
    · rw [if_pos hp]
      by_cases hm : maxTo P F z n ≤ F n
      · exact .inr ⟨n, by omega, hp, by omega⟩
      · rcases ih with h | ⟨k, hk, hpk, he⟩
        · exact .inl (by omega)
        · exact .inr ⟨k, by omega, hpk, by omega⟩
    · rw [if_neg hp]
      rcases ih with h | ⟨k, hk, hpk, he⟩
      · exact .inl h
      · exact .inr ⟨k, by omega, hpk, he⟩
theorem maxTo_eq (P : Nat → Bool) (F : Nat → Nat) (z n m : Nat) (h1 : z ≤ m) (h2 : ∀ k, k < n → P k = true → F k ≤ m) (h3 : z = m ∨ ∃ k, k < n ∧ P k = true ∧ F k = m) : maxTo P F z n = m := by
  have hg := maxTo_ge P F z n
  have hi := maxTo_is P F z n
  have hle : maxTo P F z n ≤ m := by
    rcases hi with h | ⟨k, hk, hp, he⟩
    · omega
    · have := h2 k hk hp; omega
  have hge : m ≤ maxTo P F z n := by
    rcases h3 with h | ⟨k, hk, hp, he⟩
    · have := hg.1; omega
    · have := hg.2 k hk hp; omega
  omega
theorem sumTo_pos (P : Nat → Bool) (F : Nat → Nat) : ∀ n, (0 < sumToH P F n) ↔ ∃ k, k < n ∧ P k = true ∧ 0 < F k := by
  intro n
  induction n with
  | zero => simp [sumToH]
  | succ n ih =>
    rw [sumToH]
    by_cases hp : P n = true
    · rw [if_pos hp]
      constructor
      · intro h
        by_cases hf : 0 < F n
        · exact ⟨n, by omega, hp, hf⟩
        · obtain ⟨k, hk, a, b⟩ := ih.1 (by omega)
          exact ⟨k, by omega, a, b⟩
      · rintro ⟨k, hk, a, b⟩
        by_cases he : k = n
        · subst he; omega
        · have := ih.2 ⟨k, by omega, a, b⟩; omega
    · rw [if_neg hp, ih]
      constructor
      · rintro ⟨k, hk, a, b⟩; exact ⟨k, by omega, a, b⟩
      · rintro ⟨k, hk, a, b⟩
        have : k ≠ n := by intro e; subst e; exact hp a
        exact ⟨k, by omega, a, b⟩
/-- what a set leaves -/
def frB (x used e : Nat) : Bool := nbit x e && !nbit used e
/-- the greatest number of sets that get different elements -/
def mostL (G : Nat) : List Nat → Nat → Nat
  | [], _ => 0
  | x :: t, used => maxTo (frB x used) (fun e => 1 + mostL G t (used ||| 2 ^ e)) (mostL G t used) G
/-- the number of lists of different elements -/
def cntL (G : Nat) : List Nat → Nat → Nat
  | [], _ => 1
  | x :: t, used => sumToH (frB x used) (fun e => cntL G t (used ||| 2 ^ e)) G
theorem mostL_le (G : Nat) : ∀ (t : List Nat) (used : Nat), mostL G t used ≤ t.length := by
  intro t
  induction t with
  | nil => intro used; simp [mostL]
  | cons x t ih =>
    intro used
    rw [mostL, List.length_cons]
    rcases maxTo_is (frB x used) (fun e => 1 + mostL G t (used ||| 2 ^ e)) (mostL G t used) G with h | ⟨k, _, _, h⟩
    · rw [h]; have := ih used; omega
    · rw [h]; have := ih (used ||| 2 ^ k); omega
/-- all sets get different elements -/
def okL (G : Nat) : List Nat → Nat → Bool
  | [], _ => true
  | x :: t, used => (List.range G).any fun e => frB x used e && okL G t (used ||| 2 ^ e)
theorem okL_cons (G x : Nat) (t : List Nat) (used : Nat) : okL G (x :: t) used = true ↔ ∃ e, e < G ∧ frB x used e = true ∧ okL G t (used ||| 2 ^ e) = true := by
  rw [okL, List.any_eq_true]
  constructor
  · rintro ⟨e, he, h⟩
    rw [Bool.and_eq_true] at h
    exact ⟨e, List.mem_range.1 he, h.1, h.2⟩
  · rintro ⟨e, he, h1, h2⟩
    exact ⟨e, List.mem_range.2 he, by rw [h1, h2]; rfl⟩
theorem cnt_ok (G : Nat) : ∀ (t : List Nat) (used : Nat), (0 < cntL G t used) ↔ okL G t used = true := by
  intro t
  induction t with
  | nil => intro used; simp [cntL, okL]
  | cons x t ih =>
    intro used
    rw [cntL, sumTo_pos, okL_cons]
    constructor
    · rintro ⟨e, he, a, b⟩; exact ⟨e, he, a, (ih _).1 b⟩
    · rintro ⟨e, he, a, b⟩; exact ⟨e, he, a, (ih _).2 b⟩
theorem most_ok (G : Nat) : ∀ (t : List Nat) (used : Nat), mostL G t used = t.length ↔ okL G t used = true := by
  intro t
  induction t with
  | nil => intro used; simp [mostL, okL]
  | cons x t ih =>
    intro used
    rw [mostL, okL_cons, List.length_cons]
    constructor
    · intro h
      rcases maxTo_is (frB x used) (fun e => 1 + mostL G t (used ||| 2 ^ e)) (mostL G t used) G with h2 | ⟨k, hk, hp, h2⟩
      · have := mostL_le G t used; omega
      · exact ⟨k, hk, hp, (ih _).1 (by omega)⟩
    · rintro ⟨e, he, a, b⟩
      have h1 := (ih _).2 b
      have h2 := (maxTo_ge (frB x used) (fun e => 1 + mostL G t (used ||| 2 ^ e)) (mostL G t used) G).2 e he a
      have h3 := mostL_le G (x :: t) used
      rw [mostL, List.length_cons] at h3
      try dsimp only at h2
      omega
/-- the chosen sets -/
def pickLH : List Nat → (Nat → Bool) → List Nat
  | [], _ => []
  | x :: t, J => (if J 0 then [x] else []) ++ pickLH t (fun i => J (i + 1))
theorem pick_len : ∀ (t : List Nat) (J : Nat → Bool), (pickLH t J).length = cj t J := by
  intro t
  induction t with
  | nil => intro J; rfl
  | cons x t ih =>
    intro J
    rw [pickLH, cj, List.length_append, ih]
    split <;> simp
/-- HALL with the deficiency: sets that are chosen bound the number from above, and some choice meets it. -/
theorem hall_all (G : Nat) (hG : G ≤ 6) : ∀ (t : List Nat) (used : Nat), (∀ x ∈ t, x < 2 ^ G) → used < 2 ^ G →
    (∀ J, mostL G t used + cj t J ≤ t.length + pop (uniU used t J)) ∧ ∃ J, mostL G t used + cj t J = t.length + pop (uniU used t J) := by
  intro t
  induction t with
  | nil => intro used _ _; refine ⟨fun J => by simp [mostL, cj], fun _ => false, by simp [mostL, cj, uniU, pop_zero]⟩
  | cons x t ih =>
    intro used hx hu
    have h26 : (2 : Nat) ^ G ≤ 64 := Nat.pow_le_pow_right (n := 2) (by decide) hG
    have ht2 : ∀ y ∈ t, y < 2 ^ G := fun y hy => hx y (List.mem_cons_of_mem _ hy)
    have ht : ∀ y ∈ t, y < 64 := fun y hy => Nat.lt_of_lt_of_le (ht2 y hy) h26
    have hx2 := hx x List.mem_cons_self
    have hx64 : x < 64 := by omega
    have hu64 : used < 64 := by omega
    have hA : ndiff x used < 64 := ndiff_lt x used 64 hx64
    obtain ⟨h1, J0, hJ0⟩ := ih used ht2 hu
    have hstep : ∀ e, e < G → (∀ J, mostL G t (used ||| 2 ^ e) + cj t J + (if nbit (uniU used t J) e then 1 else 0) ≤ t.length + pop (uniU used t J)) ∧ ∃ J, mostL G t (used ||| 2 ^ e) + cj t J + (if nbit (uniU used t J) e then 1 else 0) = t.length + pop (uniU used t J) := by
      intro e he
      obtain ⟨q1, K, q2⟩ := ih (used ||| 2 ^ e) ht2 (Nat.or_lt_two_pow hu (Nat.pow_lt_pow_right (by decide) he))
      constructor
      · intro J
        have := q1 J
        have := pop_next used e hu64 (by omega) t J ht
        omega
      · refine ⟨K, ?_⟩
        have := pop_next used e hu64 (by omega) t K ht
        omega
    have hg := maxTo_ge (frB x used) (fun e => 1 + mostL G t (used ||| 2 ^ e)) (mostL G t used) G
    have hi := maxTo_is (frB x used) (fun e => 1 + mostL G t (used ||| 2 ^ e)) (mostL G t used) G
    have hfr : ∀ e, e < 6 → frB x used e = nbit (ndiff x used) e := fun e he => (hm_bit x hx64 used hu64 e he).symm
    constructor
    · intro J
      rw [mostL, cj, uniU, List.length_cons]
      obtain ⟨J', hJ'⟩ : ∃ J' : Nat → Bool, J' = fun i => J (i + 1) := ⟨_, rfl⟩
      rw [← hJ']
      have hU := uniU_lt used t J' ht
      have hb := h1 J'
      cases hJ : J 0 with
      | false =>
        simp only [Bool.false_eq_true, if_false, Nat.zero_or, Nat.zero_add]
        rcases hi with h | ⟨e, he, hp, h⟩
        · omega
        · have := (hstep e he).1 J'
          omega
      | true =>
        simp only [if_true]
        have hm := hm_mono _ hU _ hA
        rw [Nat.or_comm] at hm
        rcases hi with h | ⟨e, he, hp, h⟩
        · omega
        · have hs := (hstep e he).1 J'
          rw [h]
          rw [hfr e (by omega)] at hp
          cases hb2 : nbit (uniU used t J') e with
          | true => rw [hb2, if_pos rfl] at hs; omega
          | false =>
            rw [hb2] at hs
            simp only [Bool.false_eq_true, if_false] at hs
            have hlt : pop (uniU used t J') + 1 ≤ pop (ndiff x used ||| uniU used t J') := by
              have a1 := hm_off _ (or_lt64 _ _ hA hU) e (by omega)
              have a2 := hm_off _ hU e (by omega)
              have a3 := hm_off _ hA e (by omega)
              rw [hm_or, hp, Bool.true_or, if_pos rfl, hm_ndor _ hA _ hU e (by omega)] at a1
              rw [hb2] at a2
              have a4 := hm_mono _ a2.2 _ a3.2
              rw [Nat.or_comm] at a4
              have := a1.1
              have := a2.1
              simp only [Bool.false_eq_true, if_false] at this
              omega
            omega
    · rw [mostL, List.length_cons]
      by_cases hex : ∃ e, e < G ∧ frB x used e = true ∧ mostL G t used ≤ mostL G t (used ||| 2 ^ e)
      · obtain ⟨e, he, hp, hge⟩ := hex
        have hup : ∀ e, e < G → mostL G t (used ||| 2 ^ e) ≤ mostL G t used := fun e he => by
          have := (hstep e he).1 J0
          omega
        have hval : maxTo (frB x used) (fun e => 1 + mostL G t (used ||| 2 ^ e)) (mostL G t used) G = 1 + mostL G t used := by
          refine maxTo_eq _ _ _ _ _ (by omega) (fun k hk _ => by have := hup k hk; omega) (.inr ⟨e, he, hp, ?_⟩)
          have := hup e he
          try dsimp only
          omega
        rw [hval]
        refine ⟨consJ false J0, ?_⟩
        rw [cj_cons, uniU_cons]
        simp only [Bool.false_eq_true, if_false, Nat.zero_or, Nat.zero_add]
        omega
      · have hno : ∀ e, e < G → frB x used e = true → 1 + mostL G t (used ||| 2 ^ e) ≤ mostL G t used := fun e he hp => by
          rcases Nat.lt_or_ge (mostL G t (used ||| 2 ^ e)) (mostL G t used) with h | h
          · omega
          · exact absurd ⟨e, he, hp, h⟩ hex
        have hval : maxTo (frB x used) (fun e => 1 + mostL G t (used ||| 2 ^ e)) (mostL G t used) G = mostL G t used :=
          maxTo_eq _ _ _ _ _ (Nat.le_refl _) (fun k hk hp => hno k hk hp) (.inl rfl)
        rw [hval]
        have htight : ∀ k, k ≤ G → ∃ J, mostL G t used + cj t J = t.length + pop (uniU used t J) ∧ ∀ e, e < k → frB x used e = true → nbit (uniU used t J) e = true := by
          intro k
          induction k with
          | zero => intro _; exact ⟨J0, hJ0, fun e he => by omega⟩
          | succ k ihk =>
            intro hk
            obtain ⟨J, hJ, hin⟩ := ihk (by omega)
            cases hp : frB x used k with
            | false =>
              refine ⟨J, hJ, fun e he hpe => ?_⟩
              by_cases hek : e = k
              · subst hek; rw [hp] at hpe; cases hpe
              · exact hin e (by omega) hpe
            | true =>
              obtain ⟨K, hK⟩ := (hstep k (by omega)).2
              have hn := hno k (by omega) hp
              have hKb := h1 K
              have hKin : nbit (uniU used t K) k = true := by
                cases hc : nbit (uniU used t K) k with
                | true => rfl
                | false => rw [hc] at hK; simp only [Bool.false_eq_true, if_false] at hK; omega
              rw [hKin, if_pos rfl] at hK
              have hm := uni_mod used t J K ht
              have hc := cj_mod t J K
              have b1 := h1 (fun i => J i || K i)
              have b2 := h1 (fun i => J i && K i)
              refine ⟨fun i => J i || K i, by omega, fun e he hpe => ?_⟩
              rw [uniU_or, hm_or]
              by_cases hek : e = k
              · subst hek; rw [hKin, Bool.or_true]
              · rw [hin e (by omega) hpe, Bool.true_or]
        obtain ⟨J, hJ, hin⟩ := htight G (Nat.le_refl _)
        refine ⟨consJ true J, ?_⟩
        rw [cj_cons, uniU_cons]
        simp only [if_true]
        have hsub : uniU used t J ||| ndiff x used = uniU used t J := by
          refine hm_sub _ hA _ (uniU_lt used t J ht) (fun e he hb => ?_)
          rw [← hfr e he] at hb
          refine hin e ?_ hb
          refine hm_lt G x e hx2 ?_
          unfold frB at hb
          exact (Bool.and_eq_true_iff.1 hb).1
        rw [Nat.or_comm, hsub]
        omega
end Go.Proofs.YtipejodijbjpcaaGreatDoor
end
section
namespace Go.Proofs.YtipejodijbjpcaaGreatDoor
open Go.RowKit Go.G5

def natL (l : List Int) : List Nat := l.map Int.toNat
theorem chosen_memH (P : Nat → Bool) (n : Nat) (e : Int) : e ∈ chosen P n ↔ ∃ k : Nat, k < n ∧ P k = true ∧ e = (k : Int) := by
  unfold chosen
  rw [List.mem_map]
  constructor
  · rintro ⟨k, hk, rfl⟩
    rw [List.mem_filter, List.mem_range] at hk
    exact ⟨k, hk.1, hk.2, rfl⟩
  · rintro ⟨k, hk, hp, rfl⟩
    exact ⟨k, by rw [List.mem_filter, List.mem_range]; exact ⟨hk, hp⟩, rfl⟩
theorem ior_nat (u k : Nat) : ior (u : Int) (2 ^ k) = ((u ||| 2 ^ k : Nat) : Int) := by
  unfold ior
  have : ((2 : Int) ^ k).toNat = 2 ^ k := by
    have h : ((2 ^ k : Nat) : Int) = (2 : Int) ^ k := by push_cast; rfl
    rw [← h]; exact Int.toNat_natCast _
  rw [this, Int.toNat_natCast]
theorem natL_drop (l : List Int) (i : Nat) (h : i < l.length) : (natL l).drop i = (l.getD i 0).toNat :: (natL l).drop (i + 1) := by
  have h2 : i < (natL l).length := by unfold natL; rw [List.length_map]; exact h
  rw [List.drop_eq_getElem_cons h2, getD_at l i h]
  congr 1
  simp [natL]
theorem rep_ok (G : Nat) (hG : G ≤ 6) (l : List Int) (hm : ∀ x ∈ l, 0 ≤ x ∧ x < 2 ^ G) : ∀ (n : Nat) (used : Nat) (list : List Int), list.length + n = l.length → used < 64 →
    (repG l n (used : Int) list).isSome = okL G ((natL l).drop list.length) used := by
  intro n
  induction n with
  | zero =>
    intro used list hn _
    rw [repG_zero, List.drop_eq_nil_of_le (by unfold natL; rw [List.length_map]; omega)]
    rfl
  | succ n ih =>
    intro used list hn hu
    have hlt : list.length < l.length := by omega
    rw [repG_succ, natL_drop l _ hlt]
    have hx := hm _ (List.getElem_mem hlt)
    rw [← getD_at l _ hlt] at hx
    obtain ⟨x, hx2⟩ : ∃ x : Nat, l.getD list.length 0 = (x : Int) := ⟨(l.getD list.length 0).toNat, by omega⟩
    rw [hx2] at hx ⊢
    have hxG : x < 2 ^ G := by have := hx.2; exact_mod_cast this
    rw [elL_diff x used G hG hxG hu, Int.toNat_natCast]
    rw [Bool.eq_iff_iff, okL_cons, List.findSome?_isSome_iff]
    constructor
    · rintro ⟨e, he, h⟩
      obtain ⟨k, hk, hp, rfl⟩ := (chosen_memH _ _ _).1 he
      refine ⟨k, hk, hp, ?_⟩
      unfold repOne at h
      rw [Int.toNat_natCast, ior_nat, ih _ _ (by simp; omega) (or_lt64 _ _ hu (by have := Nat.pow_lt_pow_right (a := 2) (by decide) (show k < 6 by omega); omega)), List.length_append, List.length_singleton] at h
      exact h
    · rintro ⟨k, hk, hp, h⟩
      refine ⟨(k : Int), (chosen_memH _ _ _).2 ⟨k, hk, hp, rfl⟩, ?_⟩
      unfold repOne
      rw [Int.toNat_natCast, ior_nat, ih _ _ (by simp; omega) (or_lt64 _ _ hu (by have := Nat.pow_lt_pow_right (a := 2) (by decide) (show k < 6 by omega); omega)), List.length_append, List.length_singleton]
      exact h
theorem few_set {g : Int} {l : List Int} (h : fewB g l = true) : ∃ G : Nat, g = (G : Int) ∧ G ≤ 6 ∧ l.length ≤ 6 ∧ (∀ x ∈ l, 0 ≤ x ∧ x < 2 ^ G) ∧ (∀ x ∈ natL l, x < 2 ^ G) := by
  obtain ⟨h6, h0, hg6, hm, _⟩ := few_ok h
  obtain ⟨G, rfl⟩ := Int.eq_ofNat_of_zero_le h0
  refine ⟨G, rfl, by omega, h6, hm, fun x hx => ?_⟩
  unfold natL at hx
  obtain ⟨y, hy, rfl⟩ := List.mem_map.1 hx
  have := hm y hy
  have hp : ((2 ^ G : Nat) : Int) = (2 : Int) ^ G := by push_cast; rfl
  rw [Int.toNat_natCast] at this
  omega
theorem repB_ok (g : Int) (l : List Int) (h : fewB g l = true) : repB g l = okL g.toNat (natL l) 0 := by
  obtain ⟨G, rfl, hG, h6, hm, hn⟩ := few_set h
  unfold repB repR
  rw [h, if_pos rfl]
  have := rep_ok G hG l hm l.length 0 [] (by simp) (by omega)
  rw [Int.toNat_natCast]
  exact this

/-! choices as numbers -/
theorem uniU_snoc (used x : Nat) : ∀ (t : List Nat) (J : Nat → Bool), uniU used (t ++ [x]) J = uniU used t J ||| (if J t.length then ndiff x used else 0) := by
  intro t
  induction t with
  | nil => intro J; simp [uniU]
  | cons y t ih => intro J; rw [List.cons_append, uniU, ih, uniU, Nat.or_assoc]; rfl
theorem uniU_congr (used : Nat) : ∀ (t : List Nat) (J K : Nat → Bool), (∀ i, i < t.length → J i = K i) → uniU used t J = uniU used t K := by
  intro t
  induction t with
  | nil => intro J K _; rfl
  | cons y t ih => intro J K h; rw [uniU, uniU, h 0 (by simp), ih _ (fun i => K (i + 1)) (fun i hi => h (i + 1) (by simp; omega))]
theorem pick_congr : ∀ (t : List Nat) (J K : Nat → Bool), (∀ i, i < t.length → J i = K i) → pickLH t J = pickLH t K := by
  intro t
  induction t with
  | nil => intro J K _; rfl
  | cons y t ih => intro J K h; rw [pickLH, pickLH, h 0 (by simp), ih _ (fun i => K (i + 1)) (fun i hi => h (i + 1) (by simp; omega))]
theorem cj_congr (t : List Nat) (J K : Nat → Bool) (h : ∀ i, i < t.length → J i = K i) : cj t J = cj t K := by
  rw [← pick_len, ← pick_len, pick_congr t J K h]
theorem nbit_half (code i : Nat) : nbit code (i + 1) = nbit (code / 2) i := by
  unfold nbit
  rw [Nat.pow_succ, Nat.mul_comm, ← Nat.div_div_eq_div_mul]
theorem pop_cj : ∀ (t : List Nat) (code : Nat), code < 2 ^ t.length → t.length ≤ 6 → pop code = cj t (nbit code) := by
  intro t
  induction t with
  | nil => intro code h _; have : code = 0 := by simpa using h
           subst this; rfl
  | cons y t ih =>
    intro code h hl
    rw [List.length_cons, Nat.pow_succ] at h
    rw [List.length_cons] at hl
    have h2 : (2 : Nat) ^ t.length ≤ 32 := Nat.le_trans (Nat.pow_le_pow_right (by decide) (show t.length ≤ 5 by omega)) (by decide)
    rw [pop_step code (by omega), cj, ih (code / 2) (by omega) (by omega)]
    congr 1
    · unfold nbit
      rw [Nat.pow_zero, Nat.div_one]
      rcases Nat.mod_two_eq_zero_or_one code with h | h <;> rw [h] <;> rfl
    · refine cj_congr _ _ _ (fun i _ => ?_)
      rw [nbit_half]
theorem code_of : ∀ (n : Nat) (J : Nat → Bool), ∃ code, code < 2 ^ n ∧ ∀ i, i < n → nbit code i = J i := by
  intro n
  induction n with
  | zero => intro J; exact ⟨0, by decide, fun i hi => by omega⟩
  | succ n ih =>
    intro J
    obtain ⟨c, hc, h⟩ := ih (fun i => J (i + 1))
    refine ⟨2 * c + (if J 0 then 1 else 0), by rw [Nat.pow_succ]; split <;> omega, fun i hi => ?_⟩
    cases i with
    | zero =>
      unfold nbit
      rw [Nat.pow_zero, Nat.div_one]
      cases J 0 with
      | true => simp <;> omega
      | false => simp
    | succ i =>
      rw [nbit_half, ← h i (by omega)]
      congr 1
      split <;> omega
theorem natL_take (l : List Int) (k : Nat) (h : k < l.length) : natL (l.take (k + 1)) = natL (l.take k) ++ [(l.getD k 0).toNat] := by
  unfold natL
  rw [List.take_succ_eq_append_getElem h, List.map_append, getD_at l k h]; rfl
theorem natL_len (l : List Int) : (natL l).length = l.length := by unfold natL; rw [List.length_map]
theorem union_uni (l : List Int) (code : Nat) : ∀ k, k ≤ l.length → unionTo l code k = ((uniU 0 (natL (l.take k)) (nbit code) : Nat) : Int) := by
  intro k
  induction k with
  | zero => intro _; rfl
  | succ k ih =>
    intro hk
    have h1 := ih (by omega)
    rw [unionTo, natL_take l k (by omega), uniU_snoc, natL_len, List.length_take, show min k l.length = k by omega, hm_nd0, h1]
    split
    · unfold ior; rw [Int.toNat_natCast]
    · rw [Nat.or_zero]
theorem union_all (l : List Int) (code : Nat) : unionTo l code l.length = ((uniU 0 (natL l) (nbit code) : Nat) : Int) := by
  have := union_uni l code l.length (Nat.le_refl _)
  rw [List.take_length] at this
  exact this
theorem lackN_is (l : List Int) (hl : l.length ≤ 6) (code : Nat) (hc : code < 2 ^ l.length) : lackN l code = (cj (natL l) (nbit code) : Int) - (pop (uniU 0 (natL l) (nbit code)) : Int) := by
  unfold lackN
  rw [union_all, pop_cj (natL l) code (by rw [natL_len]; exact hc) (by rw [natL_len]; exact hl)]
  unfold ipop
  rw [Int.toNat_natCast]
theorem defTo_ge (l : List Int) : ∀ n, 0 ≤ defTo l n ∧ ∀ k, k < n → lackN l k ≤ defTo l n := by
  intro n
  induction n with
  | zero => exact ⟨by simp [defTo], fun k hk => by omega⟩
  | succ n ih =>
    rw [defTo]
    refine ⟨by have := ih.1; omega, fun k hk => ?_⟩
    by_cases h : k = n
    · subst h; omega
    · have := ih.2 k (by omega); omega
theorem defTo_is (l : List Int) : ∀ n, defTo l n = 0 ∨ ∃ k, k < n ∧ defTo l n = lackN l k := by
  intro n
  induction n with
  | zero => exact .inl rfl
  | succ n ih =>
    rw [defTo]
    by_cases h : lackN l n ≤ defTo l n
    · rcases ih with h2 | ⟨k, hk, h2⟩
      · exact .inl (by omega)
      · exact .inr ⟨k, by omega, by omega⟩
    · exact .inr ⟨n, by omega, by omega⟩
theorem def_most (g : Int) (l : List Int) (h : fewB g l = true) : (mostL g.toNat (natL l) 0 : Int) = (l.length : Int) - defTo l (2 ^ l.length) := by
  obtain ⟨G, rfl, hG, h6, hm, hn⟩ := few_set h
  rw [Int.toNat_natCast]
  obtain ⟨h1, J, h2⟩ := hall_all G hG (natL l) 0 hn (Nat.two_pow_pos G)
  obtain ⟨code, hc, hcode⟩ := code_of l.length J
  have hk := lackN_is l h6 code hc
  rw [cj_congr (natL l) (nbit code) J (fun i hi => hcode i (by rw [natL_len] at hi; exact hi)), uniU_congr 0 (natL l) (nbit code) J (fun i hi => hcode i (by rw [natL_len] at hi; exact hi))] at hk
  have hge := (defTo_ge l (2 ^ l.length)).2 code hc
  have hle := mostL_le G (natL l) 0
  rw [natL_len] at h2 hle
  rcases defTo_is l (2 ^ l.length) with h3 | ⟨k, hkk, h3⟩
  · omega
  · have h4 := h1 (nbit k)
    rw [natL_len] at h4
    have h5 := lackN_is l h6 k hkk
    omega
theorem first_some (P : Nat → Bool) : ∀ (n s : Nat), (firstFrom P n s).isSome = true ↔ ∃ k, s ≤ k ∧ k < s + n ∧ P k = true := by
  intro n
  induction n with
  | zero => intro s; constructor
            · intro h; cases h
            · rintro ⟨k, a, b, _⟩; omega
  | succ n ih =>
    intro s
    rw [firstFrom]
    by_cases hp : P s = true
    · rw [if_pos hp]
      exact ⟨fun _ => ⟨s, Nat.le_refl _, by omega, hp⟩, fun _ => rfl⟩
    · rw [if_neg hp, ih]
      constructor
      · rintro ⟨k, a, b, c⟩; exact ⟨k, by omega, by omega, c⟩
      · rintro ⟨k, a, b, c⟩
        have : k ≠ s := by intro e; subst e; exact hp c
        exact ⟨k, by omega, by omega, c⟩
theorem first_at (P : Nat → Bool) : ∀ (n s c : Nat), firstFrom P n s = some c → P c = true := by
  intro n
  induction n with
  | zero => intro s c h; cases h
  | succ n ih =>
    intro s c h
    rw [firstFrom] at h
    split at h
    · cases h; assumption
    · exact ih _ _ h
theorem vio_def (g : Int) (l : List Int) (h : fewB g l = true) : vioB g l = decide (0 < defTo l (2 ^ l.length)) := by
  unfold vioB vioR
  rw [h, if_pos rfl, Bool.eq_iff_iff, first_some, decide_eq_true_eq]
  constructor
  · rintro ⟨k, _, hk, hp⟩
    have h1 := (defTo_ge l (2 ^ l.length)).2 k (by omega)
    unfold lackB at hp
    have h2 := of_decide_eq_true hp
    unfold lackN at h1
    omega
  · intro hd
    rcases defTo_is l (2 ^ l.length) with h3 | ⟨k, hkk, h3⟩
    · omega
    · refine ⟨k, Nat.zero_le _, by omega, ?_⟩
      unfold lackB
      refine decide_eq_true ?_
      unfold lackN at h3
      omega

theorem elL_fam (l : List Int) (h6 : l.length ≤ 6) (code : Nat) (hc : code < 2 ^ l.length) : elL (code : Int) = famOf code l.length := by
  unfold elL
  rw [Int.toNat_natCast]
  exact famOf_same code 6 l.length (Nat.lt_of_lt_of_le hc (Nat.pow_le_pow_right (by decide) h6)) hc
/-! what is found is a list of representatives -/
theorem usedAt_app (list y : List Int) : ∀ k, k ≤ list.length → usedAt (list ++ y) k = usedAt list k := by
  intro k
  induction k with
  | zero => intro _; rfl
  | succ k ih =>
    intro hk
    rw [usedAt, usedAt, ih (by omega)]
    congr 2
    rw [List.getD_eq_getElem?_getD, List.getElem?_append_left (by omega), ← List.getD_eq_getElem?_getD]
theorem rep_found (G : Nat) (hG : G ≤ 6) (l : List Int) (hm : ∀ x ∈ l, 0 ≤ x ∧ x < 2 ^ G) : ∀ (n : Nat) (used : Nat) (list x : List Int), list.length + n = l.length → used < 64 → usedAt list list.length = used →
    repG l n (used : Int) list = some x → (∃ y, x = list ++ y) ∧ ∀ k, list.length ≤ k → k < l.length → rpAt (G : Int) l x k = true := by
  intro n
  induction n with
  | zero =>
    intro used list x hn _ _ h
    rw [repG_zero] at h
    cases h
    exact ⟨⟨[], by simp⟩, fun k h1 h2 => by omega⟩
  | succ n ih =>
    intro used list x hn hu hus h
    have hlt : list.length < l.length := by omega
    rw [repG_succ] at h
    have hx := hm _ (List.getElem_mem hlt)
    rw [← getD_at l _ hlt] at hx
    obtain ⟨s, hs⟩ : ∃ s : Nat, l.getD list.length 0 = (s : Int) := ⟨(l.getD list.length 0).toNat, by omega⟩
    rw [hs] at hx h
    have hsG : s < 2 ^ G := by have := hx.2; exact_mod_cast this
    rw [elL_diff s used G hG hsG hu] at h
    obtain ⟨e, he, h2⟩ := List.exists_of_findSome?_eq_some h
    obtain ⟨k, hk, hp, rfl⟩ := (chosen_memH _ _ _).1 he
    unfold repOne at h2
    rw [Int.toNat_natCast, ior_nat] at h2
    have hlast : (list ++ [(k : Int)]).getD list.length 0 = (k : Int) := by
      rw [List.getD_eq_getElem?_getD, List.getElem?_append_right (Nat.le_refl _)]; simp
    have hus2 : usedAt (list ++ [(k : Int)]) (list ++ [(k : Int)]).length = (used ||| 2 ^ k) := by
      rw [List.length_append, List.length_singleton, usedAt, usedAt_app _ _ _ (Nat.le_refl _), hus, hlast, Int.toNat_natCast]; rfl
    obtain ⟨⟨y, hy⟩, hr⟩ := ih _ _ x (by simp; omega) (or_lt64 _ _ hu (by have := Nat.pow_lt_pow_right (a := 2) (by decide) (show k < 6 by omega); omega)) hus2 h2
    refine ⟨⟨(k : Int) :: y, by rw [hy, List.append_assoc]; rfl⟩, fun j hj1 hj2 => ?_⟩
    by_cases hjk : j = list.length
    · subst hjk
      have hxk : x.getD list.length 0 = (k : Int) := by
        rw [hy, List.append_assoc, List.getD_eq_getElem?_getD, List.getElem?_append_right (Nat.le_refl _)]; simp
      have hux : usedAt x list.length = used := by rw [hy, List.append_assoc, usedAt_app _ _ _ (Nat.le_refl _), hus]
      unfold rpAt
      rw [hxk, hux, hs, Int.toNat_natCast, Int.toNat_natCast, hp, decide_eq_true (show (0 : Int) ≤ k by omega), decide_eq_true (show (k : Int) < G by omega)]
      rfl
    · exact hr j (by rw [List.length_append, List.length_singleton]; omega) hj2
theorem allTo_all {p : Nat → Bool} : ∀ {n : Nat}, (∀ k, k < n → p k = true) → allTo p n = true := by
  intro n
  induction n with
  | zero => intro _; rfl
  | succ n ih => intro h; exact allTo_succ (ih (fun k hk => h k (by omega))) (h n (by omega))
theorem rep_isRep (g : Int) (l : List Int) (h : repB g l = true) : isRepB g l (repL g l) = true := by
  have hf : fewB g l = true := by
    cases hf : fewB g l with
    | true => rfl
    | false => unfold repB repR at h; rw [hf] at h; cases h
  obtain ⟨G, rfl, hG, h6, hm, hn⟩ := few_set hf
  unfold repB at h
  obtain ⟨x, hx⟩ := Option.isSome_iff_exists.1 h
  have hL : repL (G : Int) l = x := by unfold repL; rw [hx]; rfl
  rw [hL]
  unfold repR at hx
  rw [hf, if_pos rfl] at hx
  have hlen := repG_len l _ _ _ _ hx
  rw [List.length_nil, Nat.zero_add] at hlen
  obtain ⟨_, hr⟩ := rep_found G hG l hm l.length 0 [] x (by simp) (by omega) rfl hx
  unfold isRepB
  rw [hf, decide_eq_true hlen, Bool.true_and, Bool.true_and]
  exact allTo_all (fun k hk => hr k (Nat.zero_le _) (by omega))

/-! the elements of a violator -/
def orTo (l w : List Int) (k : Nat) : Int := (w.take k).foldl (fun a i => ior a (l.getD i.toNat 0)) 0
theorem or_fam (l : List Int) (code : Nat) : ∀ k, (famOf code k).foldl (fun a i => ior a (l.getD i.toNat 0)) 0 = unionTo l code k := by
  intro k
  induction k with
  | zero => rfl
  | succ k ih =>
    have hcs : famOf code (k + 1) = if nbit code k then famOf code k ++ [(k : Int)] else famOf code k := chosen_succ (nbit code) k
    rw [hcs, unionTo, ← ih]
    cases nbit code k with
    | false => simp
    | true => rw [if_pos rfl, if_pos rfl, List.foldl_append]; simp
theorem vio_found (g : Int) (l : List Int) (h : vioB g l = true) : fewB g l = true ∧ (∀ i ∈ vioL g l, 0 ≤ i ∧ i < (l.length : Int)) ∧ ipop (orTo l (vioL g l) (vioL g l).length) < ((vioL g l).length : Int) ∧ isSet g.toNat (orTo l (vioL g l) (vioL g l).length) = true := by
  have hf : fewB g l = true := by
    cases hf : fewB g l with
    | true => rfl
    | false => unfold vioB vioR at h; rw [hf] at h; cases h
  obtain ⟨G, rfl, hG, h6, hm, hn⟩ := few_set hf
  unfold vioB at h
  obtain ⟨c, hc⟩ := Option.isSome_iff_exists.1 h
  have hL : vioL (G : Int) l = elL (c : Int) := by unfold vioL; rw [hc]
  rw [hL]
  unfold vioR at hc
  rw [hf, if_pos rfl] at hc
  have hlt := firstFrom_lt _ _ _ _ hc
  have hp := first_at _ _ _ _ hc
  rw [Nat.zero_add] at hlt
  have hlt6 : c < 64 := Nat.lt_of_lt_of_le hlt (Nat.le_trans (Nat.pow_le_pow_right (by decide) h6) (by decide))
  have hor : orTo l (elL (c : Int)) (elL (c : Int)).length = unionTo l c l.length := by
    unfold orTo
    rw [List.take_length, elL_fam l h6 c hlt]
    exact or_fam l c l.length
  have hub : 0 ≤ unionTo l c l.length ∧ unionTo l c l.length < 2 ^ G := by
    have : ∀ k, k ≤ l.length → 0 ≤ unionTo l c k ∧ unionTo l c k < 2 ^ G := by
      intro k
      induction k with
      | zero => intro _; simp [unionTo]; exact_mod_cast Nat.two_pow_pos G
      | succ k ih =>
        intro hk
        have h1 := ih (by omega)
        have h2 := hm _ (List.getElem_mem (show k < l.length by omega))
        rw [unionTo, getD_at l k (by omega)]
        split
        · exact ior_bd _ _ G h1.1 h2.1 h1.2 h2.2
        · exact h1
    exact this _ (Nat.le_refl _)
  refine ⟨hf, ?_, ?_, ?_⟩
  · intro i hi
    rw [elL_fam l h6 c hlt] at hi
    exact famOf_bd c l.length i hi
  · rw [hor, elL_pop (c : Int) (by omega)]
    unfold lackB at hp
    have := of_decide_eq_true hp
    unfold ipop at this ⊢
    rw [Int.toNat_natCast]
    exact this
  · rw [hor]
    exact isSet_true.2 hub
def cntR (g : Int) (l : List Int) : Int := if fewB g l then (cntL g.toNat (natL l) 0 : Int) else -1
def mstR (g : Int) (l : List Int) : Int := if fewB g l then (mostL g.toNat (natL l) 0 : Int) else 0
structure HallFacts (g : Int) (l : List Int) : Prop where
  few : fewB g l = true → vioB g l = (!repB g l) ∧ mstR g l = (l.length : Int) - defN g l ∧ (decide (0 < cntR g l) = repB g l) ∧ ((defN g l == 0) = repB g l)
  rep : repB g l = true → isRepB g l (repL g l) = true
  vio : vioB g l = true → fewB g l = true ∧ (∀ i ∈ vioL g l, 0 ≤ i ∧ i < (l.length : Int)) ∧ ipop (orTo l (vioL g l) (vioL g l).length) < ((vioL g l).length : Int) ∧ isSet g.toNat (orTo l (vioL g l) (vioL g l).length) = true
theorem hall_facts (g : Int) (l : List Int) : HallFacts g l := by
  refine ⟨fun h => ?_, rep_isRep g l, vio_found g l⟩
  have h1 := repB_ok g l h
  have h2 := def_most g l h
  have h3 := vio_def g l h
  have h4 := most_ok g.toNat (natL l) 0
  have h5 := cnt_ok g.toNat (natL l) 0
  have h6 := (defTo_ge l (2 ^ l.length)).1
  rw [natL_len] at h4
  unfold mstR cntR defN
  rw [h, if_pos rfl, if_pos rfl, if_pos rfl]
  cases hr : okL g.toNat (natL l) 0 with
  | true =>
    rw [hr] at h1 h4 h5
    have h7 := h4.2 rfl
    have h8 := h5.2 rfl
    have h9 : defTo l (2 ^ l.length) = 0 := by omega
    rw [h1, h3, h9]
    exact ⟨rfl, by omega, decide_eq_true (by omega), rfl⟩
  | false =>
    rw [hr] at h1 h4 h5
    have h7 : mostL g.toNat (natL l) 0 ≠ l.length := fun e => by cases h4.1 e
    have h8 : ¬ 0 < cntL g.toNat (natL l) 0 := fun e => by cases h5.1 e
    rw [h1, h3]
    exact ⟨decide_eq_true (by omega), by omega, decide_eq_false (by omega), by simp; omega⟩
end Go.Proofs.YtipejodijbjpcaaGreatDoor
end
