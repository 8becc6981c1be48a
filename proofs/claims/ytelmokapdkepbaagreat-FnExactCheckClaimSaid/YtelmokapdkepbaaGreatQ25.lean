/- Hall's condition: what both programs compute, in the words of the plain law. -/
import Derived.Test.YtelmokapdkepbaaGreatQ24
section
namespace Go.Proofs.YtelmokapdkepbaaGreat
open Go.RowKit Go.G5

def natL (l : List Int) : List Nat := l.map Int.toNat
theorem chosen_memH (P : Nat → Bool) (n : Nat) (e : Int) : e ∈ chosen P n ↔ ∃ k : Nat, k < n ∧ P k = true ∧ e = (k : Int) := by
  unfold chosen
  rw [List.mem_map]
  constructor
  · rintro ⟨k, hk, rfl⟩
    rw [List.mem_filter, List.mem_range] at hk
    exact ⟨k, hk.1, hk.2, rfl⟩
  · rintro ⟨k, hk, hp, rfl⟩
    exact ⟨k, by rw [List.mem_filter, List.mem_range]; exact ⟨hk, hp⟩, rfl⟩
theorem ior_nat (u k : Nat) : ior (u : Int) (2 ^ k) = ((u ||| 2 ^ k : Nat) : Int) := by
  unfold ior
  have : ((2 : Int) ^ k).toNat = 2 ^ k := by
    have h : ((2 ^ k : Nat) : Int) = (2 : Int) ^ k := by push_cast; rfl
    rw [← h]; exact Int.toNat_natCast _
  rw [this, Int.toNat_natCast]
theorem natL_drop (l : List Int) (i : Nat) (h : i < l.length) : (natL l).drop i = (l.getD i 0).toNat :: (natL l).drop (i + 1) := by
  have h2 : i < (natL l).length := by unfold natL; rw [List.length_map]; exact h
  rw [List.drop_eq_getElem_cons h2, getD_at l i h]
  congr 1
  simp [natL]
theorem rep_ok (G : Nat) (hG : G ≤ 6) (l : List Int) (hm : ∀ x ∈ l, 0 ≤ x ∧ x < 2 ^ G) : ∀ (n : Nat) (used : Nat) (list : List Int), list.length + n = l.length → used < 64 →
    (repG l n (used : Int) list).isSome = okL G ((natL l).drop list.length) used := by
  intro n
  induction n with
  | zero =>
    intro used list hn _
    rw [repG_zero, List.drop_eq_nil_of_le (by unfold natL; rw [List.length_map]; omega)]
    rfl
  | succ n ih =>
    intro used list hn hu
    have hlt : list.length < l.length := by omega
    rw [repG_succ, natL_drop l _ hlt]
    have hx := hm _ (List.getElem_mem hlt)
    rw [← getD_at l _ hlt] at hx
    obtain ⟨x, hx2⟩ : ∃ x : Nat, l.getD list.length 0 = (x : Int) := ⟨(l.getD list.length 0).toNat, by omega⟩
    rw [hx2] at hx ⊢
    have hxG : x < 2 ^ G := by have := hx.2; exact_mod_cast this
    rw [elL_diff x used G hG hxG hu, Int.toNat_natCast]
    rw [Bool.eq_iff_iff, okL_cons, List.findSome?_isSome_iff]
    constructor
    · rintro ⟨e, he, h⟩
      obtain ⟨k, hk, hp, rfl⟩ := (chosen_memH _ _ _).1 he
      refine ⟨k, hk, hp, ?_⟩
      unfold repOne at h
      rw [Int.toNat_natCast, ior_nat, ih _ _ (by simp; omega) (or_lt64 _ _ hu (by have := Nat.pow_lt_pow_right (a := 2) (by decide) (show k < 6 by omega); omega)), List.length_append, List.length_singleton] at h
      exact h
    · rintro ⟨k, hk, hp, h⟩
      refine ⟨(k : Int), (chosen_memH _ _ _).2 ⟨k, hk, hp, rfl⟩, ?_⟩
      unfold repOne
      rw [Int.toNat_natCast, ior_nat, ih _ _ (by simp; omega) (or_lt64 _ _ hu (by have := Nat.pow_lt_pow_right (a := 2) (by decide) (show k < 6 by omega); omega)), List.length_append, List.length_singleton]
      exact h
theorem few_set {g : Int} {l : List Int} (h : fewB g l = true) : ∃ G : Nat, g = (G : Int) ∧ G ≤ 6 ∧ l.length ≤ 6 ∧ (∀ x ∈ l, 0 ≤ x ∧ x < 2 ^ G) ∧ (∀ x ∈ natL l, x < 2 ^ G) := by
  obtain ⟨h6, h0, hg6, hm, _⟩ := few_ok h
  obtain ⟨G, rfl⟩ := Int.eq_ofNat_of_zero_le h0
  refine ⟨G, rfl, by omega, h6, hm, fun x hx => ?_⟩
  unfold natL at hx
  obtain ⟨y, hy, rfl⟩ := List.mem_map.1 hx
  have := hm y hy
  have hp : ((2 ^ G : Nat) : Int) = (2 : Int) ^ G := by push_cast; rfl
  rw [Int.toNat_natCast] at this
  omega
theorem repB_ok (g : Int) (l : List Int) (h : fewB g l = true) : repB g l = okL g.toNat (natL l) 0 := by
  obtain ⟨G, rfl, hG, h6, hm, hn⟩ := few_set h
  unfold repB repR
  rw [h, if_pos rfl]
  have := rep_ok G hG l hm l.length 0 [] (by simp) (by omega)
  rw [Int.toNat_natCast]
  exact this

/-! choices as numbers -/
theorem uniU_snoc (used x : Nat) : ∀ (t : List Nat) (J : Nat → Bool), uniU used (t ++ [x]) J = uniU used t J ||| (if J t.length then ndiff x used else 0) := by
  intro t
  induction t with
  | nil => intro J; simp [uniU]
  | cons y t ih => intro J; rw [List.cons_append, uniU, ih, uniU, Nat.or_assoc]; rfl
theorem pick_snoc (x : Nat) : ∀ (t : List Nat) (J : Nat → Bool), pickLH (t ++ [x]) J = pickLH t J ++ (if J t.length then [x] else []) := by
  intro t
  induction t with
  | nil => intro J; simp [pickLH]
  | cons y t ih => intro J; rw [List.cons_append, pickLH, ih, pickLH, List.append_assoc]; rfl
theorem uniU_congr (used : Nat) : ∀ (t : List Nat) (J K : Nat → Bool), (∀ i, i < t.length → J i = K i) → uniU used t J = uniU used t K := by
  intro t
  induction t with
  | nil => intro J K _; rfl
  | cons y t ih => intro J K h; rw [uniU, uniU, h 0 (by simp), ih _ (fun i => K (i + 1)) (fun i hi => h (i + 1) (by simp; omega))]
theorem pick_congr : ∀ (t : List Nat) (J K : Nat → Bool), (∀ i, i < t.length → J i = K i) → pickLH t J = pickLH t K := by
  intro t
  induction t with
  | nil => intro J K _; rfl
  | cons y t ih => intro J K h; rw [pickLH, pickLH, h 0 (by simp), ih _ (fun i => K (i + 1)) (fun i hi => h (i + 1) (by simp; omega))]
theorem cj_congr (t : List Nat) (J K : Nat → Bool) (h : ∀ i, i < t.length → J i = K i) : cj t J = cj t K := by
  rw [← pick_len, ← pick_len, pick_congr t J K h]
theorem nbit_half (code i : Nat) : nbit code (i + 1) = nbit (code / 2) i := by
  unfold nbit
  rw [Nat.pow_succ, Nat.mul_comm, ← Nat.div_div_eq_div_mul]
theorem pop_cj : ∀ (t : List Nat) (code : Nat), code < 2 ^ t.length → t.length ≤ 6 → pop code = cj t (nbit code) := by
  intro t
  induction t with
  | nil => intro code h _; have : code = 0 := by simpa using h
           subst this; rfl
  | cons y t ih =>
    intro code h hl
    rw [List.length_cons, Nat.pow_succ] at h
    rw [List.length_cons] at hl
    have h2 : (2 : Nat) ^ t.length ≤ 32 := Nat.le_trans (Nat.pow_le_pow_right (by decide) (show t.length ≤ 5 by omega)) (by decide)
    rw [pop_step code (by omega), cj, ih (code / 2) (by omega) (by omega)]
    congr 1
    · unfold nbit
      rw [Nat.pow_zero, Nat.div_one]
      rcases Nat.mod_two_eq_zero_or_one code with h | h <;> rw [h] <;> rfl
    · refine cj_congr _ _ _ (fun i _ => ?_)
      rw [nbit_half]
theorem code_of : ∀ (n : Nat) (J : Nat → Bool), ∃ code, code < 2 ^ n ∧ ∀ i, i < n → nbit code i = J i := by
  intro n
  induction n with
  | zero => intro J; exact ⟨0, by decide, fun i hi => by omega⟩
  | succ n ih =>
    intro J
    obtain ⟨c, hc, h⟩ := ih (fun i => J (i + 1))
    refine ⟨2 * c + (if J 0 then 1 else 0), by rw [Nat.pow_succ]; split <;> omega, fun i hi => ?_⟩
    cases i with
    | zero =>
      unfold nbit
      rw [Nat.pow_zero, Nat.div_one]
      cases J 0 with
      | true => simp <;> omega
      | false => simp
    | succ i =>
      rw [nbit_half, ← h i (by omega)]
      congr 1
      split <;> omega
theorem natL_take (l : List Int) (k : Nat) (h : k < l.length) : natL (l.take (k + 1)) = natL (l.take k) ++ [(l.getD k 0).toNat] := by
  unfold natL
  rw [List.take_succ_eq_append_getElem h, List.map_append, getD_at l k h]; rfl
theorem natL_len (l : List Int) : (natL l).length = l.length := by unfold natL; rw [List.length_map]
theorem union_uni (l : List Int) (code : Nat) : ∀ k, k ≤ l.length → unionTo l code k = ((uniU 0 (natL (l.take k)) (nbit code) : Nat) : Int) := by
  intro k
  induction k with
  | zero => intro _; rfl
  | succ k ih =>
    intro hk
    have h1 := ih (by omega)
    rw [unionTo, natL_take l k (by omega), uniU_snoc, natL_len, List.length_take, show min k l.length = k by omega, hm_nd0, h1]
    split
    · unfold ior; rw [Int.toNat_natCast]
    · rw [Nat.or_zero]
theorem union_all (l : List Int) (code : Nat) : unionTo l code l.length = ((uniU 0 (natL l) (nbit code) : Nat) : Int) := by
  have := union_uni l code l.length (Nat.le_refl _)
  rw [List.take_length] at this
  exact this
theorem lackN_is (l : List Int) (hl : l.length ≤ 6) (code : Nat) (hc : code < 2 ^ l.length) : lackN l code = (cj (natL l) (nbit code) : Int) - (pop (uniU 0 (natL l) (nbit code)) : Int) := by
  unfold lackN
  rw [union_all, pop_cj (natL l) code (by rw [natL_len]; exact hc) (by rw [natL_len]; exact hl)]
  unfold ipop
  rw [Int.toNat_natCast]
theorem defTo_ge (l : List Int) : ∀ n, 0 ≤ defTo l n ∧ ∀ k, k < n → lackN l k ≤ defTo l n := by
  intro n
  induction n with
  | zero => exact ⟨by simp [defTo], fun k hk => by omega⟩
  | succ n ih =>
    rw [defTo]
    refine ⟨by have := ih.1; omega, fun k hk => ?_⟩
    by_cases h : k = n
    · subst h; omega
    · have := ih.2 k (by omega); omega
theorem defTo_is (l : List Int) : ∀ n, defTo l n = 0 ∨ ∃ k, k < n ∧ defTo l n = lackN l k := by
  intro n
  induction n with
  | zero => exact .inl rfl
  | succ n ih =>
    rw [defTo]
    by_cases h : lackN l n ≤ defTo l n
    · rcases ih with h2 | ⟨k, hk, h2⟩
      · exact .inl (by omega)
      · exact .inr ⟨k, by omega, by omega⟩
    · exact .inr ⟨n, by omega, by omega⟩
theorem def_most (g : Int) (l : List Int) (h : fewB g l = true) : (mostL g.toNat (natL l) 0 : Int) = (l.length : Int) - defTo l (2 ^ l.length) := by
  obtain ⟨G, rfl, hG, h6, hm, hn⟩ := few_set h
  rw [Int.toNat_natCast]
  obtain ⟨h1, J, h2⟩ := hall_all G hG (natL l) 0 hn (Nat.two_pow_pos G)
  obtain ⟨code, hc, hcode⟩ := code_of l.length J
  have hk := lackN_is l h6 code hc
  rw [cj_congr (natL l) (nbit code) J (fun i hi => hcode i (by rw [natL_len] at hi; exact hi)), uniU_congr 0 (natL l) (nbit code) J (fun i hi => hcode i (by rw [natL_len] at hi; exact hi))] at hk
  have hge := (defTo_ge l (2 ^ l.length)).2 code hc
  have hle := mostL_le G (natL l) 0
  rw [natL_len] at h2 hle
  rcases defTo_is l (2 ^ l.length) with h3 | ⟨k, hkk, h3⟩
  · omega
  · have h4 := h1 (nbit k)
    rw [natL_len] at h4
    have h5 := lackN_is l h6 k hkk
    omega
theorem first_some (P : Nat → Bool) : ∀ (n s : Nat), (firstFrom P n s).isSome = true ↔ ∃ k, s ≤ k ∧ k < s + n ∧ P k = true := by
  intro n
  induction n with
  | zero => intro s; constructor
            · intro h; cases h
            · rintro ⟨k, a, b, _⟩; omega
  | succ n ih =>
    intro s
    rw [firstFrom]
    by_cases hp : P s = true
    · rw [if_pos hp]
      exact ⟨fun _ => ⟨s, Nat.le_refl _, by omega, hp⟩, fun _ => rfl⟩
    · rw [if_neg hp, ih]
      constructor
      · rintro ⟨k, a, b, c⟩; exact ⟨k, by omega, by omega, c⟩
      · rintro ⟨k, a, b, c⟩
        have : k ≠ s := by intro e; subst e; exact hp c
        exact ⟨k, by omega, by omega, c⟩
theorem first_at (P : Nat → Bool) : ∀ (n s c : Nat), firstFrom P n s = some c → P c = true := by
  intro n
  induction n with
  | zero => intro s c h; cases h
  | succ n ih =>
    intro s c h
    rw [firstFrom] at h
    split at h
    · cases h; assumption
    · exact ih _ _ h
theorem vio_def (g : Int) (l : List Int) (h : fewB g l = true) : vioB g l = decide (0 < defTo l (2 ^ l.length)) := by
  unfold vioB vioR
  rw [h, if_pos rfl, Bool.eq_iff_iff, first_some, decide_eq_true_eq]
  constructor
  · rintro ⟨k, _, hk, hp⟩
    have h1 := (defTo_ge l (2 ^ l.length)).2 k (by omega)
    unfold lackB at hp
    have h2 := of_decide_eq_true hp
    unfold lackN at h1
    omega
  · intro hd
    rcases defTo_is l (2 ^ l.length) with h3 | ⟨k, hkk, h3⟩
    · omega
    · refine ⟨k, Nat.zero_le _, by omega, ?_⟩
      unfold lackB
      refine decide_eq_true ?_
      unfold lackN at h3
      omega

/-! what the first program takes for the largest part -/
def pickI (l : List Int) (code : Nat) : List Int := (elL (code : Int)).map fun i => l.getD i.toNat 0
def lpN (g : Int) (l : List Int) : Nat := maxTo (fun code => repB g (pickI l code)) (fun code => (pickI l code).length) 0 (2 ^ l.length)
theorem pick_fam (l : List Int) (code : Nat) : ∀ k, k ≤ l.length → natL ((famOf code k).map fun i => l.getD i.toNat 0) = pickLH (natL (l.take k)) (nbit code) := by
  intro k
  induction k with
  | zero => intro _; rfl
  | succ k ih =>
    intro hk
    have hcs : famOf code (k + 1) = if nbit code k then famOf code k ++ [(k : Int)] else famOf code k := chosen_succ (nbit code) k
    rw [hcs, natL_take l k (by omega), pick_snoc, natL_len, List.length_take, show min k l.length = k by omega, ← ih (by omega)]
    cases nbit code k with
    | false => simp
    | true => rw [if_pos rfl, if_pos rfl, List.map_append]; unfold natL; rw [List.map_append]; simp
theorem elL_fam (l : List Int) (h6 : l.length ≤ 6) (code : Nat) (hc : code < 2 ^ l.length) : elL (code : Int) = famOf code l.length := by
  unfold elL
  rw [Int.toNat_natCast]
  exact famOf_same code 6 l.length (Nat.lt_of_lt_of_le hc (Nat.pow_le_pow_right (by decide) h6)) hc
theorem pick_is (l : List Int) (h6 : l.length ≤ 6) (code : Nat) (hc : code < 2 ^ l.length) : natL (pickI l code) = pickLH (natL l) (nbit code) := by
  have := pick_fam l code l.length (Nat.le_refl _)
  rw [List.take_length] at this
  unfold pickI
  rw [elL_fam l h6 code hc]
  exact this
theorem pick_few (g : Int) (l : List Int) (h : fewB g l = true) (code : Nat) (hc : code < 2 ^ l.length) : fewB g (pickI l code) = true := by
  obtain ⟨h6, h0, hg6, hm, _⟩ := few_ok h
  unfold fewB areSetsB
  have hg : inB g 0 6 = true := inB_true.2 ⟨h0, hg6⟩
  have hlen : (pickI l code).length ≤ 6 := by unfold pickI; rw [List.length_map]; exact elL_len6 _
  rw [hg, decide_eq_true hlen, Bool.true_and, Bool.true_and, List.all_eq_true]
  intro x hx
  unfold pickI at hx
  obtain ⟨i, hi, rfl⟩ := List.mem_map.1 hx
  rw [elL_fam l h6 code hc] at hi
  have hb := famOf_bd code l.length i hi
  have hlt : i.toNat < l.length := by omega
  rw [getD_at l _ hlt]
  exact isSet_true.2 (hm _ (List.getElem_mem hlt))
theorem lp_most (g : Int) (l : List Int) (h : fewB g l = true) : lpN g l = mostL g.toNat (natL l) 0 := by
  have h6 := (few_ok h).1
  obtain ⟨h1, J, h2, h3⟩ := pick_most g.toNat (natL l) 0
  have hrep : ∀ code, code < 2 ^ l.length → repB g (pickI l code) = okL g.toNat (pickLH (natL l) (nbit code)) 0 := fun code hc => by
    rw [repB_ok g _ (pick_few g l h code hc), pick_is l h6 code hc]
  have hlen : ∀ code, code < 2 ^ l.length → (pickI l code).length = cj (natL l) (nbit code) := fun code hc => by
    rw [← natL_len, pick_is l h6 code hc, pick_len]
  refine maxTo_eq _ _ _ _ _ (Nat.zero_le _) (fun k hk hp => ?_) (.inr ?_)
  · skip
    rw [hrep k hk] at hp
    rw [hlen k hk]
    exact h1 _ hp
  · obtain ⟨code, hc, hcode⟩ := code_of l.length J
    have hcode' : ∀ i, i < (natL l).length → nbit code i = J i := fun i hi => hcode i (by rw [natL_len] at hi; exact hi)
    refine ⟨code, hc, ?_, ?_⟩
    · skip
      rw [hrep code hc, pick_congr _ _ _ hcode']; exact h2
    · skip
      rw [hlen code hc, cj_congr _ _ _ hcode']; exact h3

/-! what is found is a list of representatives -/
theorem usedAt_app (list y : List Int) : ∀ k, k ≤ list.length → usedAt (list ++ y) k = usedAt list k := by
  intro k
  induction k with
  | zero => intro _; rfl
  | succ k ih =>
    intro hk
    rw [usedAt, usedAt, ih (by omega)]
    congr 2
    rw [List.getD_eq_getElem?_getD, List.getElem?_append_left (by omega), ← List.getD_eq_getElem?_getD]
theorem rep_found (G : Nat) (hG : G ≤ 6) (l : List Int) (hm : ∀ x ∈ l, 0 ≤ x ∧ x < 2 ^ G) : ∀ (n : Nat) (used : Nat) (list x : List Int), list.length + n = l.length → used < 64 → usedAt list list.length = used →
    repG l n (used : Int) list = some x → (∃ y, x = list ++ y) ∧ ∀ k, list.length ≤ k → k < l.length → rpAt (G : Int) l x k = true := by
  intro n
  induction n with
  | zero =>
    intro used list x hn _ _ h
    rw [repG_zero] at h
    cases h
    exact ⟨⟨[], by simp⟩, fun k h1 h2 => by omega⟩
  | succ n ih =>
    intro used list x hn hu hus h
    have hlt : list.length < l.length := by omega
    rw [repG_succ] at h
    have hx := hm _ (List.getElem_mem hlt)
    rw [← getD_at l _ hlt] at hx
    obtain ⟨s, hs⟩ : ∃ s : Nat, l.getD list.length 0 = (s : Int) := ⟨(l.getD list.length 0).toNat, by omega⟩
    rw [hs] at hx h
    have hsG : s < 2 ^ G := by have := hx.2; exact_mod_cast this
    rw [elL_diff s used G hG hsG hu] at h
    obtain ⟨e, he, h2⟩ := List.exists_of_findSome?_eq_some h
    obtain ⟨k, hk, hp, rfl⟩ := (chosen_memH _ _ _).1 he
    unfold repOne at h2
    rw [Int.toNat_natCast, ior_nat] at h2
    have hlast : (list ++ [(k : Int)]).getD list.length 0 = (k : Int) := by
      rw [List.getD_eq_getElem?_getD, List.getElem?_append_right (Nat.le_refl _)]; simp
    have hus2 : usedAt (list ++ [(k : Int)]) (list ++ [(k : Int)]).length = (used ||| 2 ^ k) := by
      rw [List.length_append, List.length_singleton, usedAt, usedAt_app _ _ _ (Nat.le_refl _), hus, hlast, Int.toNat_natCast]; rfl
    obtain ⟨⟨y, hy⟩, hr⟩ := ih _ _ x (by simp; omega) (or_lt64 _ _ hu (by have := Nat.pow_lt_pow_right (a := 2) (by decide) (show k < 6 by omega); omega)) hus2 h2
    refine ⟨⟨(k : Int) :: y, by rw [hy, List.append_assoc]; rfl⟩, fun j hj1 hj2 => ?_⟩
    by_cases hjk : j = list.length
    · subst hjk
      have hxk : x.getD list.length 0 = (k : Int) := by
        rw [hy, List.append_assoc, List.getD_eq_getElem?_getD, List.getElem?_append_right (Nat.le_refl _)]; simp
      have hux : usedAt x list.length = used := by rw [hy, List.append_assoc, usedAt_app _ _ _ (Nat.le_refl _), hus]
      unfold rpAt
      rw [hxk, hux, hs, Int.toNat_natCast, Int.toNat_natCast, hp, decide_eq_true (show (0 : Int) ≤ k by omega), decide_eq_true (show (k : Int) < G by omega)]
      rfl
    · exact hr j (by rw [List.length_append, List.length_singleton]; omega) hj2
theorem allTo_all {p : Nat → Bool} : ∀ {n : Nat}, (∀ k, k < n → p k = true) → allTo p n = true := by
  intro n
  induction n with
  | zero => intro _; rfl
  | succ n ih => intro h; exact allTo_succ (ih (fun k hk => h k (by omega))) (h n (by omega))
theorem rep_isRep (g : Int) (l : List Int) (h : repB g l = true) : isRepB g l (repL g l) = true := by
  have hf : fewB g l = true := by
    cases hf : fewB g l with
    | true => rfl
    | false => unfold repB repR at h; rw [hf] at h; cases h
  obtain ⟨G, rfl, hG, h6, hm, hn⟩ := few_set hf
  unfold repB at h
  obtain ⟨x, hx⟩ := Option.isSome_iff_exists.1 h
  have hL : repL (G : Int) l = x := by unfold repL; rw [hx]; rfl
  rw [hL]
  unfold repR at hx
  rw [hf, if_pos rfl] at hx
  have hlen := repG_len l _ _ _ _ hx
  rw [List.length_nil, Nat.zero_add] at hlen
  obtain ⟨_, hr⟩ := rep_found G hG l hm l.length 0 [] x (by simp) (by omega) rfl hx
  unfold isRepB
  rw [hf, decide_eq_true hlen, Bool.true_and, Bool.true_and]
  exact allTo_all (fun k hk => hr k (Nat.zero_le _) (by omega))

/-! the elements of a violator -/
def orTo (l w : List Int) (k : Nat) : Int := (w.take k).foldl (fun a i => ior a (l.getD i.toNat 0)) 0
theorem orTo_succ (l w : List Int) (k : Nat) (h : k < w.length) : orTo l w (k + 1) = ior (orTo l w k) (l.getD w[k].toNat 0) := fold_take _ 0 w k h
theorem or_fam (l : List Int) (code : Nat) : ∀ k, (famOf code k).foldl (fun a i => ior a (l.getD i.toNat 0)) 0 = unionTo l code k := by
  intro k
  induction k with
  | zero => rfl
  | succ k ih =>
    have hcs : famOf code (k + 1) = if nbit code k then famOf code k ++ [(k : Int)] else famOf code k := chosen_succ (nbit code) k
    rw [hcs, unionTo, ← ih]
    cases nbit code k with
    | false => simp
    | true => rw [if_pos rfl, if_pos rfl, List.foldl_append]; simp
theorem vio_found (g : Int) (l : List Int) (h : vioB g l = true) : fewB g l = true ∧ (∀ i ∈ vioL g l, 0 ≤ i ∧ i < (l.length : Int)) ∧ ipop (orTo l (vioL g l) (vioL g l).length) < ((vioL g l).length : Int) ∧ isSet g.toNat (orTo l (vioL g l) (vioL g l).length) = true := by
  have hf : fewB g l = true := by
    cases hf : fewB g l with
    | true => rfl
    | false => unfold vioB vioR at h; rw [hf] at h; cases h
  obtain ⟨G, rfl, hG, h6, hm, hn⟩ := few_set hf
  unfold vioB at h
  obtain ⟨c, hc⟩ := Option.isSome_iff_exists.1 h
  have hL : vioL (G : Int) l = elL (c : Int) := by unfold vioL; rw [hc]
  rw [hL]
  unfold vioR at hc
  rw [hf, if_pos rfl] at hc
  have hlt := firstFrom_lt _ _ _ _ hc
  have hp := first_at _ _ _ _ hc
  rw [Nat.zero_add] at hlt
  have hlt6 : c < 64 := Nat.lt_of_lt_of_le hlt (Nat.le_trans (Nat.pow_le_pow_right (by decide) h6) (by decide))
  have hor : orTo l (elL (c : Int)) (elL (c : Int)).length = unionTo l c l.length := by
    unfold orTo
    rw [List.take_length, elL_fam l h6 c hlt]
    exact or_fam l c l.length
  have hub : 0 ≤ unionTo l c l.length ∧ unionTo l c l.length < 2 ^ G := by
    have : ∀ k, k ≤ l.length → 0 ≤ unionTo l c k ∧ unionTo l c k < 2 ^ G := by
      intro k
      induction k with
      | zero => intro _; simp [unionTo]; exact_mod_cast Nat.two_pow_pos G
      | succ k ih =>
        intro hk
        have h1 := ih (by omega)
        have h2 := hm _ (List.getElem_mem (show k < l.length by omega))
        rw [unionTo, getD_at l k (by omega)]
        split
        · exact ior_bd _ _ G h1.1 h2.1 h1.2 h2.2
        · exact h1
    exact this _ (Nat.le_refl _)
  refine ⟨hf, ?_, ?_, ?_⟩
  · intro i hi
    rw [elL_fam l h6 c hlt] at hi
    exact famOf_bd c l.length i hi
  · rw [hor, elL_pop (c : Int) (by omega)]
    unfold lackB at hp
    have := of_decide_eq_true hp
    unfold ipop at this ⊢
    rw [Int.toNat_natCast]
    exact this
  · rw [hor]
    exact isSet_true.2 hub
def cntR (g : Int) (l : List Int) : Int := if fewB g l then (cntL g.toNat (natL l) 0 : Int) else -1
def mstR (g : Int) (l : List Int) : Int := if fewB g l then (mostL g.toNat (natL l) 0 : Int) else 0
structure HallFacts (g : Int) (l : List Int) : Prop where
  few : fewB g l = true → vioB g l = (!repB g l) ∧ mstR g l = (l.length : Int) - defN g l ∧ (decide (0 < cntR g l) = repB g l) ∧ ((defN g l == 0) = repB g l)
  rep : repB g l = true → isRepB g l (repL g l) = true
  vio : vioB g l = true → fewB g l = true ∧ (∀ i ∈ vioL g l, 0 ≤ i ∧ i < (l.length : Int)) ∧ ipop (orTo l (vioL g l) (vioL g l).length) < ((vioL g l).length : Int) ∧ isSet g.toNat (orTo l (vioL g l) (vioL g l).length) = true
theorem hall_facts (g : Int) (l : List Int) : HallFacts g l := by
  refine ⟨fun h => ?_, rep_isRep g l, vio_found g l⟩
  have h1 := repB_ok g l h
  have h2 := def_most g l h
  have h3 := vio_def g l h
  have h4 := most_ok g.toNat (natL l) 0
  have h5 := cnt_ok g.toNat (natL l) 0
  have h6 := (defTo_ge l (2 ^ l.length)).1
  rw [natL_len] at h4
  unfold mstR cntR defN
  rw [h, if_pos rfl, if_pos rfl, if_pos rfl]
  cases hr : okL g.toNat (natL l) 0 with
  | true =>
    rw [hr] at h1 h4 h5
    have h7 := h4.2 rfl
    have h8 := h5.2 rfl
    have h9 : defTo l (2 ^ l.length) = 0 := by omega
    rw [h1, h3, h9]
    exact ⟨rfl, by omega, decide_eq_true (by omega), rfl⟩
  | false =>
    rw [hr] at h1 h4 h5
    have h7 : mostL g.toNat (natL l) 0 ≠ l.length := fun e => by cases h4.1 e
    have h8 : ¬ 0 < cntL g.toNat (natL l) 0 := fun e => by cases h5.1 e
    rw [h1, h3]
    exact ⟨decide_eq_true (by omega), by omega, decide_eq_false (by omega), by simp; omega⟩
end Go.Proofs.YtelmokapdkepbaaGreat
end
