/- Bases, circuits and flats of matroids: what is computed. Covers and packings by bases: what is computed. The line of a matroid: what is computed. Bases and circuits: the first program. -/
import Derived.Test.YtpaoiiiceekkkaaDoorQ34
section
namespace Go.Proofs.YtpaoiiiceekkkaaDoor
open Go.RowKit Go.G5

theorem pop_none : ∀ s : Nat, s < 32 → pop s = 0 → s = 0 := by decide +kernel
theorem pop_some : ∀ s : Nat, s < 32 → 0 < pop s → ∃ e, e < 5 ∧ (s.testBit e = true ∧ ∃ t, t < 32 ∧ (s = setBit t e ∧ t.testBit e = false ∧ pop s = pop t + 1)) := by decide +kernel
theorem rank_poly {n : Int} {l : List Int} (h : rankB n l = true) : polyB n l = true := by
  unfold rankB at h
  simp only [Bool.and_eq_true] at h
  exact h.1
theorem rank_fun {n : Int} {l : List Int} (h : rankB n l = true) : isFunB n l = true := poly_fun (rank_poly h)
/-- of a matroid's rank: no set has more than its size -/
theorem rank_le {N : Nat} {l : List Int} (h : rankB N l = true) : ∀ s, s < 2 ^ N → l.getD s 0 ≤ (pop s : Int) := by
  have hp := rank_poly h
  have hf := rank_fun h
  obtain ⟨_, hN, h5, hl2, hl32, hlb⟩ := fun_nat hf
  have hN := Int.ofNat.inj hN
  subst hN
  have hs : subB N l = true := by unfold polyB at hp; simp only [Bool.and_eq_true] at hp; exact hp.2
  have h0 : l.getD 0 0 = 0 := by
    unfold polyB isGrB at hp
    simp only [Bool.and_eq_true, decide_eq_true_eq] at hp
    exact hp.1.1.2
  have h1 : ∀ e, e < N → l.getD (2 ^ e) 0 ≤ 1 := fun e he => by
    unfold rankB at h
    simp only [Bool.and_eq_true, Int.toNat_natCast] at h
    have := allTo_iff.1 h.2 e he
    unfold oneB at this
    simp only [Bool.not_eq_true', decide_eq_false_iff_not] at this
    omega
  have hex := (sub_iff N l hf).1 hs
  have hneg : ∀ s i k : Nat, s < 2 ^ N → i < k → k < N → nbit s i = false → nbit s k = false → 0 ≤ exL (negL l) s i k := fun s i k a b c d e => by
    rw [exL_neg]
    have := hex s i k a b c d e
    omega
  have hgl : ∀ s e, gainL (negL l) s e = - gainL l s e := fun s e => by
    unfold gainL
    rw [negL_getD, negL_getD]; omega
  have hstep : ∀ s e, s < 2 ^ N → e < N → s.testBit e = false → l.getD (setBit s e) 0 ≤ l.getD s 0 + 1 := fun s e a b c => by
    have g1 := gain_mono N (negL l) hneg 0 s e a b (fun j hj => by simp at hj) c
    rw [hgl, hgl] at g1
    have g2 := h1 e b
    have e0 : setBit 0 e = 2 ^ e := by unfold setBit; simp
    unfold gainL at g1
    rw [e0] at g1
    omega
  have key : ∀ m s, pop s = m → s < 2 ^ N → l.getD s 0 ≤ (m : Int) := by
    intro m
    induction m with
    | zero =>
      intro s hps hsN
      have p5 : (2 : Nat) ^ N ≤ 32 := Nat.pow_le_pow_right (n := 2) (by decide) h5
      have : s = 0 := pop_none s (by omega) hps
      subst this
      rw [h0]; simp
    | succ m ih =>
      intro s hps hsN
      have p5 : (2 : Nat) ^ N ≤ 32 := Nat.pow_le_pow_right (n := 2) (by decide) h5
      obtain ⟨e, he, hb, t, _, ht, htb, hpt⟩ := pop_some s (by omega) (by omega)
      have heN : e < N := by
        rcases Nat.lt_or_ge e N with h | h
        · exact h
        · have := Nat.testBit_lt_two_pow (Nat.lt_of_lt_of_le hsN (Nat.pow_le_pow_right (by decide) h))
          rw [this] at hb; cases hb
      have htN : t < 2 ^ N := by rw [ht] at hsN; exact Nat.lt_of_le_of_lt (by unfold setBit; exact Nat.left_le_or) hsN
      have h2 := ih t (by omega) htN
      have h3 := hstep t e htN heN htb
      rw [← ht] at h3
      omega
  exact fun s hs => key (pop s) s rfl hs

def topL (l : List Int) : Int := l.getD (l.length - 1) 0
def basP (l : List Int) (s : Nat) : Bool := freeB l s && decide (l.getD s 0 = topL l)
def cirP (l : List Int) (s : Nat) : Bool := !freeB l s
def matN (n : Int) (l : List Int) : Int := if rankB n l then n else 0
def basL (n : Int) (l : List Int) : List Int := if rankB n l then chosen (basP l) l.length else []
def cirL (n : Int) (l : List Int) : List Int := if rankB n l then minL (chosen (cirP l) l.length) else []
theorem basP_is (l : List Int) (s : Nat) : basP l s = (decide (l.getD s 0 = topL l) && decide ((pop s : Int) = topL l)) := by
  unfold basP freeB
  by_cases h1 : l.getD s 0 = topL l
  · rw [decide_eq_true h1, Bool.and_true, Bool.true_and, h1]
    by_cases h2 : topL l = (pop s : Int)
    · rw [decide_eq_true h2, decide_eq_true h2.symm]
    · rw [decide_eq_false h2, decide_eq_false (fun e => h2 e.symm)]
  · rw [decide_eq_false h1, Bool.and_false, Bool.false_and]
theorem cirP_is {N : Nat} {l : List Int} (h : rankB N l = true) (s : Nat) (hs : s < 2 ^ N) : cirP l s = decide (l.getD s 0 < (pop s : Int)) := by
  have h1 := rank_le h s hs
  unfold cirP freeB
  by_cases h2 : l.getD s 0 = (pop s : Int)
  · rw [decide_eq_true h2, decide_eq_false (by omega)]; rfl
  · rw [decide_eq_false h2, decide_eq_true (by omega)]; rfl
theorem chosen_same (P Q : Nat → Bool) : ∀ k, (∀ s, s < k → P s = Q s) → chosen P k = chosen Q k
  | 0, _ => rfl
  | k + 1, h => by rw [chosen_succ, chosen_succ, chosen_same P Q k (fun s hs => h s (by omega)), h k (by omega)]
/-- a set to which no other element can be added without adding to the value -/
def flatB (l : List Int) (n s : Nat) : Bool := allTo (fun e => nbit s e || !(gainL l s e == 0)) n
def flaL (n : Int) (l : List Int) : List Int := if polyB n l then chosen (flatB l n.toNat) l.length else []
/-- of a polymatroid: no value is negative -/
theorem poly_ge {N : Nat} {l : List Int} (hp : polyB N l = true) : ∀ s, s < 2 ^ N → 0 ≤ l.getD s 0 := by
  have hf := poly_fun hp
  obtain ⟨_, hN, h5, hl2, hl32, hlb⟩ := fun_nat hf
  have hN := Int.ofNat.inj hN
  subst hN
  have h0 : l.getD 0 0 = 0 := by
    unfold polyB isGrB at hp
    simp only [Bool.and_eq_true, decide_eq_true_eq] at hp
    exact hp.1.1.2
  have hinc : ∀ s e, s < 2 ^ N → e < N → l.getD s 0 ≤ l.getD (setBit s e) 0 := fun s e hs he => by
    unfold polyB incB at hp
    simp only [Bool.and_eq_true, Int.toNat_natCast] at hp
    have h1 := allTo_iff.1 hp.1.2.2 s (by rw [hl2]; exact hs)
    have h2 := allTo_iff.1 h1 e he
    unfold upB gainL at h2
    simp only [Bool.not_eq_true', decide_eq_false_iff_not] at h2
    omega
  have key : ∀ m s, pop s = m → s < 2 ^ N → 0 ≤ l.getD s 0 := by
    intro m
    induction m with
    | zero =>
      intro s hps hsN
      have p5 : (2 : Nat) ^ N ≤ 32 := Nat.pow_le_pow_right (n := 2) (by decide) h5
      have : s = 0 := pop_none s (by omega) hps
      subst this
      rw [h0]; simp
    | succ m ih =>
      intro s hps hsN
      have p5 : (2 : Nat) ^ N ≤ 32 := Nat.pow_le_pow_right (n := 2) (by decide) h5
      obtain ⟨e, he, hb, t, _, ht, htb, hpt⟩ := pop_some s (by omega) (by omega)
      have heN : e < N := by
        rcases Nat.lt_or_ge e N with h | h
        · exact h
        · have := Nat.testBit_lt_two_pow (Nat.lt_of_lt_of_le hsN (Nat.pow_le_pow_right (by decide) h))
          rw [this] at hb; cases hb
      have htN : t < 2 ^ N := by rw [ht] at hsN; exact Nat.lt_of_le_of_lt (by unfold setBit; exact Nat.left_le_or) hsN
      have h2 := ih t (by omega) htN
      have h3 := hinc t e htN heN
      rw [← ht] at h3
      omega
  exact fun s hs => key (pop s) s rfl hs
/-- the closure, in one pass -/
def cloTo (l : List Int) (s : Nat) : Nat → Nat
  | 0 => s
  | k + 1 => if gainL l s k = 0 then setBit (cloTo l s k) k else cloTo l s k
theorem cloTo_tb (l : List Int) (s j : Nat) : ∀ k, (cloTo l s k).testBit j = (s.testBit j || (decide (j < k) && decide (gainL l s j = 0)))
  | 0 => by simp [cloTo]
  | k + 1 => by
    rw [cloTo]
    by_cases hg : gainL l s k = 0
    · rw [if_pos hg, tb_setBit, cloTo_tb l s j k]
      by_cases hj : k = j
      · subst hj
        rw [decide_eq_true (show k < k + 1 by omega), decide_eq_true hg]; simp
      · rw [decide_eq_false hj, Bool.or_false]
        by_cases h : j < k
        · rw [decide_eq_true h, decide_eq_true (show j < k + 1 by omega)]
        · rw [decide_eq_false h, decide_eq_false (show ¬ j < k + 1 by omega)]
    · rw [if_neg hg, cloTo_tb l s j k]
      by_cases hj : k = j
      · subst hj
        rw [decide_eq_false hg]; simp
      · by_cases h : j < k
        · rw [decide_eq_true h, decide_eq_true (show j < k + 1 by omega)]
        · rw [decide_eq_false h, decide_eq_false (show ¬ j < k + 1 by omega)]
theorem cloTo_lt (l : List Int) (s N : Nat) (hs : s < 2 ^ N) : ∀ k, k ≤ N → cloTo l s k < 2 ^ N
  | 0, _ => hs
  | k + 1, h => by
    rw [cloTo]
    split
    · exact setBit_lt _ _ _ (cloTo_lt l s N hs k (by omega)) (by omega)
    · exact cloTo_lt l s N hs k (by omega)
theorem cloTo_flat (l : List Int) (s n : Nat) : decide (cloTo l s n = s) = flatB l n s := by
  cases hf : flatB l n s with
  | true =>
    refine decide_eq_true (Nat.eq_of_testBit_eq fun j => ?_)
    rw [cloTo_tb]
    by_cases hj : j < n
    · have := allTo_iff.1 hf j hj
      simp only [Bool.or_eq_true, Bool.not_eq_true', beq_eq_false_iff_ne] at this
      rcases this with h | h
      · rw [nbit_tb] at h; rw [h]; rfl
      · rw [decide_eq_false h]; simp
    · rw [decide_eq_false hj]; simp
  | false =>
    refine decide_eq_false (fun he => ?_)
    have : flatB l n s = true := allTo_iff.2 fun j hj => by
      have h1 := cloTo_tb l s j n
      rw [he, decide_eq_true hj, Bool.true_and] at h1
      by_cases hg : gainL l s j = 0
      · rw [decide_eq_true hg, Bool.or_true] at h1
        rw [nbit_tb, h1]; rfl
      · simp [hg]
    rw [this] at hf; cases hf
theorem flat_not {l : List Int} {n s e : Nat} (he : e < n) (h1 : nbit s e = false) (h2 : gainL l s e = 0) : flatB l n s = false := by
  cases hf : flatB l n s with
  | false => rfl
  | true =>
    have := allTo_iff.1 hf e he
    rw [h1, h2] at this
    simp at this
theorem setBit_gt (s e : Nat) (h : nbit s e = false) : s < setBit s e := by
  have h1 : s ≤ setBit s e := by unfold setBit; exact Nat.left_le_or
  rcases Nat.lt_or_eq_of_le h1 with h2 | h2
  · exact h2
  · have h3 := tb_setBit s e e
    rw [← h2, ← nbit_tb, h] at h3
    simp at h3
end Go.Proofs.YtpaoiiiceekkkaaDoor
end
section
namespace Go.Proofs.YtpaoiiiceekkkaaDoor
open Go.RowKit Go.G5

/-- over the sets 1 .. k -/
def cbTo (l : List Int) : Nat → Option Int
  | 0 => some 0
  | k + 1 => match cbTo l k with
    | none => none
    | some m => if l.getD (k + 1) 0 = 0 then none else some (max m (Int.tdiv ((pop (k + 1) : Int) + l.getD (k + 1) 0 - 1) (l.getD (k + 1) 0)))
def cvO (n : Int) (l : List Int) : Option Int := if rankB n l then cbTo l (l.length - 1) else none
def cvN (n : Int) (l : List Int) : Int := (cvO n l).getD 0
def cvB (n : Int) (l : List Int) : Bool := (cvO n l).isSome
theorem cbTo_none (l : List Int) (k : Nat) (h : cbTo l k = none) : ∀ m, k ≤ m → cbTo l m = none
  | 0, hm => by have : k = 0 := by omega
                subst this; exact h
  | m + 1, hm => by
    by_cases hk : k = m + 1
    · subst hk; exact h
    · rw [cbTo, cbTo_none l k h m (by omega)]
theorem quo_bd (a b : Int) (ha : 0 ≤ a) (hb : 0 < b) : 0 ≤ Int.tdiv a b ∧ Int.tdiv a b ≤ a := ⟨Int.tdiv_nonneg ha (by omega), Int.tdiv_le_self b ha⟩
/-- over the sets below k -/
def pkTo (l : List Int) (N : Nat) (m : Int) : Nat → Int
  | 0 => m
  | k + 1 => if l.getD k 0 < topL l then min (pkTo l N m k) (Int.tdiv ((N : Int) - (pop k : Int)) (topL l - l.getD k 0)) else pkTo l N m k
def pvB (n : Int) (l : List Int) : Bool := rankB n l && !(topL l == 0)
def pvN (n : Int) (l : List Int) : Int := if pvB n l then pkTo l n.toNat 100 l.length else 0
theorem pop_max : ∀ N : Nat, N < 6 → ∀ s : Nat, s < 2 ^ N → pop s ≤ N := by decide +kernel
theorem pop_comp : ∀ N : Nat, N < 6 → ∀ s : Nat, s < 2 ^ N → pop (ndiff (2 ^ N - 1) s) = N - pop s := by decide +kernel
theorem pk_start (l : List Int) (N : Nat) (hN : N ≤ 5) (h0 : l.getD 0 0 = 0) (ht : 0 < topL l) : ∀ k, pkTo l N N (k + 1) = pkTo l N 100 (k + 1)
  | 0 => by
    have p0 : pop 0 = 0 := pop_zero
    have h1 := quo_bd (N : Int) (topL l) (by omega) ht
    simp only [pkTo, h0, p0]
    rw [if_pos ht, if_pos ht]
    simp only [Int.sub_zero, Int.natCast_zero]
    omega
  | k + 1 => by
    rw [pkTo, pk_start l N hN h0 ht k]
    rfl
theorem pkTo_bd (l : List Int) (N : Nat) (hN : N ≤ 5) (m : Int) (hm : 0 ≤ m ∧ m ≤ 100) : ∀ k, k ≤ 2 ^ N → 0 ≤ pkTo l N m k ∧ pkTo l N m k ≤ 100
  | 0, _ => hm
  | k + 1, hk => by
    have h1 := pkTo_bd l N hN m hm k (by omega)
    have h2 := pop_max N (by omega) k (by omega)
    rw [pkTo]
    split
    · rename_i h
      have := quo_bd ((N : Int) - (pop k : Int)) (topL l - l.getD k 0) (by omega) (by omega)
      omega
    · exact h1
theorem pvN_bd (n : Int) (l : List Int) : 0 ≤ pvN n l ∧ pvN n l ≤ 100 := by
  unfold pvN
  split
  · rename_i h
    unfold pvB at h
    simp only [Bool.and_eq_true] at h
    obtain ⟨N, rfl, h5, hl2, _⟩ := fun_nat (rank_fun h.1)
    rw [Int.toNat_natCast]
    exact pkTo_bd l N h5 100 (by omega) _ (by omega)
  · omega
theorem cbTo_bd (l : List Int) (hl : l.length ≤ 32) (hg : ∀ s, s < l.length → 0 ≤ l.getD s 0 ∧ l.getD s 0 ≤ 1000) : ∀ k m, k < l.length → cbTo l k = some m → 0 ≤ m ∧ m ≤ 2000
  | 0, m, _, h => by cases h; omega
  | k + 1, m, hk, h => by
    rw [cbTo] at h
    cases hc : cbTo l k with
    | none => rw [hc] at h; cases h
    | some m0 =>
      rw [hc] at h
      have h1 := cbTo_bd l hl hg k m0 (by omega) hc
      simp only at h
      split at h
      · cases h
      · rename_i hz
        have h2 := hg (k + 1) hk
        have h3 := pop_le (k + 1) (by omega)
        have h4 := quo_bd ((pop (k + 1) : Int) + l.getD (k + 1) 0 - 1) (l.getD (k + 1) 0) (by omega) (by omega)
        cases h
        omega
theorem rank_top {N : Nat} {l : List Int} (h : rankB N l = true) : 0 ≤ topL l ∧ l.getD 0 0 = 0 := by
  have hp := rank_poly h
  obtain ⟨_, hN, h5, hl2, hl32, hlb⟩ := fun_nat (rank_fun h)
  have hN := Int.ofNat.inj hN
  subst hN
  have p0 := Nat.two_pow_pos N
  refine ⟨poly_ge hp _ (by omega), ?_⟩
  unfold polyB isGrB at hp
  simp only [Bool.and_eq_true, decide_eq_true_eq] at hp
  exact hp.1.1.2
theorem cvN_bd (n : Int) (l : List Int) : 0 ≤ cvN n l ∧ cvN n l ≤ 2000 := by
  unfold cvN cvO
  split
  · rename_i h
    obtain ⟨N, rfl, h5, hl2, hl32, hlb⟩ := fun_nat (rank_fun h)
    have p0 := Nat.two_pow_pos N
    cases hc : cbTo l (l.length - 1) with
    | none => simp
    | some m =>
      refine cbTo_bd l hl32 (fun s hs => ⟨poly_ge (rank_poly h) s (by omega), ?_⟩) (l.length - 1) m (by omega) hc
      rw [getD_at l s hs]; exact (hlb s hs).2
  · simp
end Go.Proofs.YtpaoiiiceekkkaaDoor
end
section
namespace Go.Proofs.YtpaoiiiceekkkaaDoor
open Go.RowKit Go.G5

def mlA (F G H : ByteArray) : List ByteArray := [(⟨#[109, 97, 116, 114, 111, 105, 100]⟩ : ByteArray), (⟨#[98, 97, 115, 101, 115]⟩ : ByteArray), F, (⟨#[99, 105, 114, 99, 117, 105, 116, 115]⟩ : ByteArray), G, (⟨#[102, 108, 97, 116, 115]⟩ : ByteArray), H]
def mlAT (F G H : ByteArray) : ByteArray := (⟨#[109, 97, 116, 114, 111, 105, 100, 32, 98, 97, 115, 101, 115, 32]⟩ : ByteArray) ++ F ++ (⟨#[32, 99, 105, 114, 99, 117, 105, 116, 115, 32]⟩ : ByteArray) ++ G ++ (⟨#[32, 102, 108, 97, 116, 115, 32]⟩ : ByteArray) ++ H
theorem mlA_is (F G H : ByteArray) : joinB space (mlA F G H) = mlAT F G H := by
  unfold mlA mlAT
  simp only [joinB_cons2, joinB_one]
  refine ba_ext ?_
  simp [space]
def mlB (b : Bool) (N : ByteArray) : List ByteArray := if b then [(⟨#[99, 111, 118, 101, 114, 115]⟩ : ByteArray), N] else []
def mlBT (b : Bool) (X N : ByteArray) : ByteArray := if b then X ++ (⟨#[32, 99, 111, 118, 101, 114, 115, 32]⟩ : ByteArray) ++ N else X
theorem mlB_is (b : Bool) (X N : ByteArray) : X ++ tailB (mlB b N) = mlBT b X N := by
  cases b with
  | false => exact ba_ext (by rw [ba_app]; show X.data.toList ++ [] = X.data.toList; simp)
  | true =>
    refine ba_ext ?_
    simp [mlB, mlBT, tailB, space]
theorem mlBT_size (b : Bool) (X N : ByteArray) (k : Nat) (hX : X.size ≤ k) (hN : N.size ≤ 21) : (mlBT b X N).size ≤ k + 40 := by
  cases b with
  | false => show X.size ≤ _; omega
  | true =>
    unfold mlBT
    rw [if_pos rfl]
    simp only [ByteArray.size_append]
    have e1 : (⟨#[32, 99, 111, 118, 101, 114, 115, 32]⟩ : ByteArray).size = 8 := rfl
    omega
def mlC (b : Bool) (N : ByteArray) : List ByteArray := if b then [(⟨#[112, 97, 99, 107, 115]⟩ : ByteArray), N] else []
def mlCT (b : Bool) (X N : ByteArray) : ByteArray := if b then X ++ (⟨#[32, 112, 97, 99, 107, 115, 32]⟩ : ByteArray) ++ N else X
theorem mlC_is (b : Bool) (X N : ByteArray) : X ++ tailB (mlC b N) = mlCT b X N := by
  cases b with
  | false => exact ba_ext (by rw [ba_app]; show X.data.toList ++ [] = X.data.toList; simp)
  | true =>
    refine ba_ext ?_
    simp [mlC, mlCT, tailB, space]
theorem mlCT_size (b : Bool) (X N : ByteArray) (k : Nat) (hX : X.size ≤ k) (hN : N.size ≤ 21) : (mlCT b X N).size ≤ k + 40 := by
  cases b with
  | false => show X.size ≤ _; omega
  | true =>
    unfold mlCT
    rw [if_pos rfl]
    simp only [ByteArray.size_append]
    have e1 : (⟨#[32, 112, 97, 99, 107, 115, 32]⟩ : ByteArray).size = 7 := rfl
    omega
def mlL (n : Int) (l : List Int) : List ByteArray := (mlA (famTx (matN n l) (basL n l)) (famTx (matN n l) (cirL n l)) (famTx n (flaL n l)) ++ mlB (cvB n l) (itoaB (cvN n l))) ++ mlC (pvB n l) (itoaB (pvN n l))
def mlT (n : Int) (l : List Int) : ByteArray := mlCT (pvB n l) (mlBT (cvB n l) (mlAT (famTx (matN n l) (basL n l)) (famTx (matN n l) (cirL n l)) (famTx n (flaL n l))) (itoaB (cvN n l))) (itoaB (pvN n l))
theorem ml_is (n : Int) (l : List Int) : joinB space (mlL n l) = mlT n l := by
  unfold mlL mlT
  rw [join_app _ _ (by simp [mlA]), join_app _ _ (by simp [mlA]), mlA_is, mlB_is, mlC_is]
def mlLn (n : Int) (l : List Int) : ByteArray := if rankB n l then mlT n l else ByteArray.empty
theorem mlLn_yes {n : Int} {l : List Int} (h : rankB n l = true) : mlLn n l = mlT n l := by unfold mlLn; rw [if_pos h]
theorem mlLn_no {n : Int} {l : List Int} (h : rankB n l = false) : mlLn n l = ByteArray.empty := by unfold mlLn; rw [h]; rfl
theorem mlAT_size (F G H : ByteArray) (hF : F.size ≤ 10000) (hG : G.size ≤ 10000) (hH : H.size ≤ 10000) : (mlAT F G H).size ≤ 30100 := by
  unfold mlAT
  simp only [ByteArray.size_append]
  have e1 : (⟨#[109, 97, 116, 114, 111, 105, 100, 32, 98, 97, 115, 101, 115, 32]⟩ : ByteArray).size = 14 := rfl
  have e2 : (⟨#[32, 99, 105, 114, 99, 117, 105, 116, 115, 32]⟩ : ByteArray).size = 10 := rfl
  have e3 : (⟨#[32, 102, 108, 97, 116, 115, 32]⟩ : ByteArray).size = 7 := rfl
  omega
theorem mlT_size (n : Int) (l : List Int) : (mlT n l).size ≤ 30180 := by
  have h1 := cvN_bd n l
  have h2 := pvN_bd n l
  exact mlCT_size _ _ _ 30140 (mlBT_size _ _ _ 30100 (mlAT_size _ _ _ (famTx_size _ _) (famTx_size _ _) (famTx_size _ _)) (itoaB_size _ ⟨by omega, by omega⟩)) (itoaB_size _ ⟨by omega, by omega⟩)
end Go.Proofs.YtpaoiiiceekkkaaDoor
end
section
namespace Go.Proofs.YtpaoiiiceekkkaaDoor
open Go.RowKit Go.G5

set_option maxHeartbeats 1000000 in
set_option maxRecDepth 100000 in
theorem basClosure (w : World) (g N s : Nat) (l : List Int) (v : Value) (hv : Ints w v l) (K : Blk w g 31 #[.int .i64 N, v]) (hs : s < l.length) (hl2 : l.length = 2 ^ N) (hN : N ≤ 5) :
    Calls Tryd.prog 150 #[.int .i64 (s : Int), .pointer (some ⟨g, 0, none⟩)] w fun e w' => e = .returned (.bool (basP l s)) ∧ Below w.heap.size w w' := by
  have hv0 := hv
  obtain ⟨a, b, off, c, rfl, hlen, hix, hc, hb⟩ := hv.view Tryd.prog 22 3 Tryd.underlying22 intElem
  have hp5 : (2 : Nat) ^ N ≤ 32 := Nat.pow_le_pow_right (n := 2) (by decide) hN
  have hp0 : 0 < (2 : Nat) ^ N := Nat.two_pow_pos N
  have htop : l.length - 1 < l.length := by omega
  have hti : ((l.length - 1 : Nat) : Int) = 2 ^ N - 1 := by
    have : ((2 ^ N : Nat) : Int) = (2 : Int) ^ N := by simp
    omega
  have ck := hc s hs
  have ck2 := hc (l.length - 1) htop
  have ik := fun W => hix W s hs
  have ik2 := fun W => hix W (l.length - 1) htop
  rw [hti] at ik2
  have hg : l.getD s 0 = l[s] := getD_at l s hs
  have hg2 : topL l = l[l.length - 1] := getD_at l _ htop
  have hba : basP l s = (freeB l s && decide (l[s] = topL l)) := by unfold basP; rw [hg]
  obtain ⟨x, hx⟩ : ∃ x, x = l[s] := ⟨_, rfl⟩
  obtain ⟨t, ht⟩ : ∃ t, t = topL l := ⟨_, rfl⟩
  rw [← hx, ← ht] at hba
  rw [← hx] at ck
  rw [← hg2, ← ht] at ck2
  have e0 : ∀ y : Ext w, y.w.cell? ⟨g, 0, none⟩ = some (.int .i64 N) := fun y => y.cell (K.cell 0)
  have e1 : ∀ y : Ext w, y.w.cell? ⟨g, 1, none⟩ = some (.slice a l.length c) := fun y => y.cell (K.cell 1)
  have e2 : ∀ y : Ext w, y.w.cell? ⟨b, off + s, none⟩ = some (.int .i64 x) := fun y => y.cell ck
  have e3 : ∀ y : Ext w, y.w.cell? ⟨b, off + (l.length - 1), none⟩ = some (.int .i64 t) := fun y => y.cell ck2
  have hfr : ∀ y : Ext w, Calls Tryd.prog 151 #[.agg #[.int .i64 (N : Int), .slice a l.length c], .int .i64 s] y.w fun e w' => e = .returned (.bool (freeB l s)) ∧ Below y.w.heap.size y.w w' := fun y => isFree_any y.w N _ l (y.ints hv0) s hs (by omega)
  have hal : ∀ y : Ext w, Calls Tryd.prog 152 #[.agg #[.int .i64 (N : Int), .slice a l.length c]] y.w fun e w' => e = .returned (.int .i64 (2 ^ N - 1)) ∧ Below y.w.heap.size y.w w' := fun y => by
    have := allOf_any (N : Int) (.slice a l.length c) l y.w (y.ints hv0) (by omega) (by omega)
    rw [Int.toNat_natCast] at this
    exact this
  have HAL := Lib.hid hal
  clear hc hix hb hg hg2 hx ht ck ck2 hal hti hlen hl2
  cases hF : freeB l s with
  | false =>
    rw [hF] at hba
    simp only [hF] at hfr
    have HBA := Lib.hid hba
    have HFR := Lib.hid hfr
    clear hba hfr hF
    go_enter Tryd.func150, Tryd.ntmps150
    go_wp2_with fail
    refine wp_region_ext _ (by kernel_rfl) (by kernel_rfl) ?_
    repeat (first | go_big_quiet_skip | (go_big_quiet_want; go_big_quiet_op; first | go_big_quiet_on | (apply Exists.intro; refine ⟨fun _ => ?_, ?_⟩; (first | (go_at_call 151; exact ext_call (HFR.out _)) | (go_at_call 152; exact ext_call (HAL.out _))); go_big_quiet_on)))
    refine wpQuiet_nil ?_
    rintro w3 ⟨⟨w3, hb3⟩, rfl⟩
    try dsimp only
    go_wp2
    go_ret
    exact ⟨ret_bool (by rw [HBA.out]; rfl), hb3⟩
  | true =>
    rw [hF] at hba
    simp only [hF] at hfr
    have HBA := Lib.hid hba
    have HFR := Lib.hid hfr
    clear hba hfr hF
    go_enter Tryd.func150, Tryd.ntmps150
    go_wp2_with fail
    refine wp_region_ext _ (by kernel_rfl) (by kernel_rfl) ?_
    repeat (first | go_big_quiet_skip | (go_big_quiet_want; go_big_quiet_op; first | go_big_quiet_on | (apply Exists.intro; refine ⟨fun _ => ?_, ?_⟩; (first | (go_at_call 151; exact ext_call (HFR.out _)) | (go_at_call 152; exact ext_call (HAL.out _))); go_big_quiet_on)))
    refine wpQuiet_nil ?_
    rintro w3 ⟨⟨w3, hb3⟩, rfl⟩
    try dsimp only
    go_wp2
    go_ret
    exact ⟨ret_bool (by rw [HBA.out, Bool.true_and]; exact beq_dec _ _), hb3⟩
theorem basClosure_enters : ∀ args w, (callFunc 150 args).run Tryd.prog w = .ok (.enter 150 args) w := enters_of Tryd.func150 (by kernel_rfl) rfl
set_option maxHeartbeats 1000000 in
set_option maxRecDepth 100000 in
theorem cirClosure (w : World) (g N s : Nat) (l : List Int) (v : Value) (hv : Ints w v l) (K : Blk w g 31 #[.int .i64 N, v]) (hs : s < l.length) (hl2 : l.length ≤ 32) :
    Calls Tryd.prog 153 #[.int .i64 (s : Int), .pointer (some ⟨g, 0, none⟩)] w fun e w' => e = .returned (.bool (cirP l s)) ∧ Below w.heap.size w w' := by
  have hv0 := hv
  obtain ⟨a, c, rfl⟩ := hv.shape
  have G := K.cell
  have z := K.lt
  go_enter Tryd.func153, Tryd.ntmps153
  go_wp2_with fail
  refine (isFree_any w N _ l hv0 s hs (by omega)).mono ?_
  rintro e w1 ⟨rfl, b1⟩
  go_wp2
  go_ret
  exact ⟨ret_bool (by unfold cirP; cases freeB l s <;> rfl), b1⟩
theorem cirClosure_enters : ∀ args w, (callFunc 153 args).run Tryd.prog w = .ok (.enter 153 args) w := enters_of Tryd.func153 (by kernel_rfl) rfl

set_option maxHeartbeats 1000000 in
set_option maxRecDepth 100000 in
theorem basI_c (w : World) (n : Int) (v : Value) (l : List Int) (hv : Ints w v l) (hl : l.length ≤ 1048576) :
    Calls Tryd.prog 91 #[.agg #[.int .i64 n, v]] w fun e w' => ∃ ad i cp, e = .returned (.tuple #[.agg #[.int .i64 (matN n l), .slice ad i cp], .bool (rankB n l)]) ∧ OwnI 3 w.heap.size w' (.slice ad i cp) (basL n l) ∧ Below w.heap.size w w' := by
  obtain ⟨a, c, rfl⟩ := hv.shape
  go_enter Tryd.func91, Tryd.ntmps91
  go_wp2_with fail
  refine calls_named ?_
  intro V hV
  have B : Below w.heap.size w V := by rw [hV]; exact bl2 _ _ _
  have K1 : Blk V w.heap.size 31 #[.int .i64 n, .slice a l.length c] := by rw [hV]; exact (Blk.new _ _ _).alloc _
  have K2 : Blk V (w.heap.size + 1) 32 #[.int .i64 0, .slice none 0 0] := by rw [hV]; have := Blk.new (w.alloc (.cells #[.int .i64 n, .slice a l.length c] 31)) 32 #[.int .i64 0, .slice none 0 0]; simpa using this
  clear hV
  refine (rankI_any n l _ _ (hv.below B (Nat.le_refl _)) hl).mono ?_
  rintro e w1 ⟨rfl, hb1⟩
  have K1' := K1.keep hb1
  have K2' := K2.keep hb1
  have B1 := B.after hb1 B.size
  have G1 := K1'.cell
  have G2 := K2'.cell
  have F2 := K2'.frozen
  have z1 := K1'.lt
  have z2 := K2'.lt
  have hv1 := hv.below B1 (Nat.le_refl _)
  clear K1 K2 B hb1
  cases hf : rankB n l with
  | false =>
    have hN : matN n l = 0 := by unfold matN; rw [hf]; rfl
    have hL : basL n l = [] := by unfold basL; rw [hf]; rfl
    have HN := Lib.hid hN
    have HL := Lib.hid hL
    have HF := Lib.hid hf
    clear hN hL
    go_wp2
    refine post_named ?_
    intro Wf hWf
    have K2f : Blk Wf (w.heap.size + 1) 32 #[.int .i64 0, .slice none 0 0] := by
      rw [hWf]
      have := (K2'.set 0 (.int .i64 0)).set 1 (.slice none 0 0)
      simpa using this
    have Bf : Below w.heap.size w Wf := by rw [hWf]; exact Below.setCell (Below.setCell B1 (by first | omega | (simp; done) | (simp; omega)) _) (by first | omega | (simp; done) | (simp; omega)) _
    have Gf := K2f.cell
    clear hWf G1 G2 F2
    exact bodyPost_ret (v := .tuple #[.agg #[.int .i64 0, .slice none 0 0], .bool false]) (by simp [results, Tryd.results91, go_sem, Gf]) rfl ⟨none, 0, 0, by rw [HN.out, HF.out], by rw [HL.out]; exact OwnI.nil _ _ _, Bf⟩
  | true =>
    obtain ⟨N, rfl, h5, hl2, hl32, _⟩ := fun_nat (rank_fun hf)
    have hN : matN N l = N := by unfold matN; rw [hf]; rfl
    have hL : basL N l = chosen (basP l) (2 ^ N) := by unfold basL; rw [hf, if_pos rfl, hl2]
    have HN := Lib.hid hN
    have HL := Lib.hid hL
    have HF := Lib.hid hf
    have hch : Calls Tryd.prog 149 #[.int .i64 (N : Int), .func (.func 150) #[] #[.pointer (some ⟨w.heap.size, 0, none⟩)]] w1 fun e w' =>
        ∃ ad i cp, e = .returned (.agg #[.int .i64 (N : Int), .slice ad i cp]) ∧ OwnI 3 w1.heap.size w' (.slice ad i cp) (chosen (basP l) (2 ^ N)) ∧ Below w1.heap.size w1 w' :=
      choose_any w1 N (by omega) 150 basClosure_enters w.heap.size (basP l) (fun s W' hs hB => basClosure W' w.heap.size N s l _ (hv1.keep hB) (K1'.keep hB) (by omega) hl2 h5)
    have HCH := Lib.hid hch
    clear hN hL hch hf hl2
    go_wp2_with fail
    refine HCH.out.mono ?_
    rintro e w3 ⟨p3, i3, q3, rfl, o3, hb3⟩
    have B3 := B1.after hb3 B1.size
    have K2 := K2'.keep hb3
    clear G1 G2 F2
    have G2 := K2.cell
    have F2 := K2.frozen
    have z5 := K2.lt
    have y1 := B1.size
    go_wp2
    refine post_named ?_
    intro Wf hWf
    have K2f : Blk Wf (w.heap.size + 1) 32 #[.int .i64 N, .slice p3 i3 q3] := by
      rw [hWf]
      have := (K2.set 0 (.int .i64 N)).set 1 (.slice p3 i3 q3)
      simpa using this
    have Bf : Below w.heap.size w Wf := by rw [hWf]; exact Below.setCell (Below.setCell B3 (by first | omega | (simp; done) | (simp; omega)) _) (by first | omega | (simp; done) | (simp; omega)) _
    have of : OwnI 3 w.heap.size Wf (.slice p3 i3 q3) (chosen (basP l) (2 ^ N)) := by
      rw [hWf]
      exact ((o3.setBelow (by first | omega | (simp; done) | (simp; omega)) _).setBelow (by first | omega | (simp; done) | (simp; omega)) _).mono (by first | omega | (simp; done) | (simp; omega))
    have Gf := K2f.cell
    clear hWf G2 F2
    exact bodyPost_ret (v := .tuple #[.agg #[.int .i64 N, .slice p3 i3 q3], .bool true]) (by simp [results, Tryd.results91, go_sem, Gf]) rfl ⟨p3, i3, q3, by rw [HN.out, HF.out], by rw [HL.out]; exact of, Bf⟩

set_option maxHeartbeats 1000000 in
set_option maxRecDepth 100000 in
theorem cirI_c (w : World) (n : Int) (v : Value) (l : List Int) (hv : Ints w v l) (hl : l.length ≤ 1048576) :
    Calls Tryd.prog 92 #[.agg #[.int .i64 n, v]] w fun e w' => ∃ ad i cp, e = .returned (.tuple #[.agg #[.int .i64 (matN n l), .slice ad i cp], .bool (rankB n l)]) ∧ OwnI 3 w.heap.size w' (.slice ad i cp) (cirL n l) ∧ Below w.heap.size w w' := by
  obtain ⟨a, c, rfl⟩ := hv.shape
  go_enter Tryd.func92, Tryd.ntmps92
  go_wp2_with fail
  refine calls_named ?_
  intro V hV
  have B : Below w.heap.size w V := by rw [hV]; exact bl2 _ _ _
  have K1 : Blk V w.heap.size 31 #[.int .i64 n, .slice a l.length c] := by rw [hV]; exact (Blk.new _ _ _).alloc _
  have K2 : Blk V (w.heap.size + 1) 32 #[.int .i64 0, .slice none 0 0] := by rw [hV]; have := Blk.new (w.alloc (.cells #[.int .i64 n, .slice a l.length c] 31)) 32 #[.int .i64 0, .slice none 0 0]; simpa using this
  clear hV
  refine (rankI_any n l _ _ (hv.below B (Nat.le_refl _)) hl).mono ?_
  rintro e w1 ⟨rfl, hb1⟩
  have K1' := K1.keep hb1
  have K2' := K2.keep hb1
  have B1 := B.after hb1 B.size
  have G1 := K1'.cell
  have G2 := K2'.cell
  have F2 := K2'.frozen
  have z1 := K1'.lt
  have z2 := K2'.lt
  have hv1 := hv.below B1 (Nat.le_refl _)
  clear K1 K2 B hb1
  cases hf : rankB n l with
  | false =>
    have hN : matN n l = 0 := by unfold matN; rw [hf]; rfl
    have hL : cirL n l = [] := by unfold cirL; rw [hf]; rfl
    have HN := Lib.hid hN
    have HL := Lib.hid hL
    have HF := Lib.hid hf
    clear hN hL
    go_wp2
    refine post_named ?_
    intro Wf hWf
    have K2f : Blk Wf (w.heap.size + 1) 32 #[.int .i64 0, .slice none 0 0] := by
      rw [hWf]
      have := (K2'.set 0 (.int .i64 0)).set 1 (.slice none 0 0)
      simpa using this
    have Bf : Below w.heap.size w Wf := by rw [hWf]; exact Below.setCell (Below.setCell B1 (by first | omega | (simp; done) | (simp; omega)) _) (by first | omega | (simp; done) | (simp; omega)) _
    have Gf := K2f.cell
    clear hWf G1 G2 F2
    exact bodyPost_ret (v := .tuple #[.agg #[.int .i64 0, .slice none 0 0], .bool false]) (by simp [results, Tryd.results92, go_sem, Gf]) rfl ⟨none, 0, 0, by rw [HN.out, HF.out], by rw [HL.out]; exact OwnI.nil _ _ _, Bf⟩
  | true =>
    obtain ⟨N, rfl, h5, hl2, hl32, _⟩ := fun_nat (rank_fun hf)
    have hN : matN N l = N := by unfold matN; rw [hf]; rfl
    have hL : cirL N l = minL (chosen (cirP l) (2 ^ N)) := by unfold cirL; rw [hf, if_pos rfl, hl2]
    have HN := Lib.hid hN
    have HL := Lib.hid hL
    have HF := Lib.hid hf
    have hch : Calls Tryd.prog 149 #[.int .i64 (N : Int), .func (.func 153) #[] #[.pointer (some ⟨w.heap.size, 0, none⟩)]] w1 fun e w' =>
        ∃ ad i cp, e = .returned (.agg #[.int .i64 (N : Int), .slice ad i cp]) ∧ OwnI 3 w1.heap.size w' (.slice ad i cp) (chosen (cirP l) (2 ^ N)) ∧ Below w1.heap.size w1 w' :=
      choose_any w1 N (by omega) 153 cirClosure_enters w.heap.size (cirP l) (fun s W' hs hB => cirClosure W' w.heap.size N s l _ (hv1.keep hB) (K1'.keep hB) (by omega) hl32)
    have hlen := chosen_len (cirP l) (2 ^ N)
    have hms : ∀ (W : World) (ad : Option Addr) (i cp : Nat), Ints W (.slice ad i cp) (chosen (cirP l) (2 ^ N)) → Calls Tryd.prog 154 #[.agg #[.int .i64 (N : Int), .slice ad i cp]] W fun e w' =>
        ∃ ad' i' cp', e = .returned (.tuple #[.agg #[.int .i64 (N : Int), .slice ad' i' cp'], .bool true]) ∧ OwnI 3 W.heap.size w' (.slice ad' i' cp') (minL (chosen (cirP l) (2 ^ N))) ∧ Below W.heap.size W w' := fun W ad i cp hW =>
      minSets_yes N _ _ W hW (by omega) (chosen_fam _ N (by omega))
    have HCH := Lib.hid hch
    have HMS := Lib.hid hms
    clear hN hL hch hms hf hl2 hlen
    go_wp2_with fail
    refine HCH.out.mono ?_
    rintro e w3 ⟨p3, i3, q3, rfl, o3, hb3⟩
    have B3 := B1.after hb3 B1.size
    have K2 := K2'.keep hb3
    clear G1 G2 F2
    go_wp2_with fail
    refine (HMS.out _ p3 i3 q3 (o3.alloc _).ints).mono ?_
    rintro e w5 ⟨p5, i5, q5, rfl, o5, hb5⟩
    have b5 : Below w3.heap.size w3 w5 := (bl1 w3 _).after hb5 (by simp)
    have B5 := B3.after b5 B3.size
    have K2 := K2.keep b5
    have G2 := K2.cell
    have F2 := K2.frozen
    have z5 := K2.lt
    have y3 := B3.size
    have y1 := B1.size
    have z6 := hb3.size
    have z7 := b5.size
    go_wp2
    refine post_named ?_
    intro Wf hWf
    have K2f : Blk Wf (w.heap.size + 1) 32 #[.int .i64 N, .slice p5 i5 q5] := by
      rw [hWf]
      have := (K2.set 0 (.int .i64 N)).set 1 (.slice p5 i5 q5)
      simpa using this
    have Bf : Below w.heap.size w Wf := by rw [hWf]; exact Below.setCell (Below.setCell B5 (by first | omega | (simp; done) | (simp; omega)) _) (by first | omega | (simp; done) | (simp; omega)) _
    have of : OwnI 3 w.heap.size Wf (.slice p5 i5 q5) (minL (chosen (cirP l) (2 ^ N))) := by
      rw [hWf]
      have o5' := o5.mono (B' := w3.heap.size) (by simp)
      exact ((o5'.setBelow (by first | omega | (simp; done) | (simp; omega)) _).setBelow (by first | omega | (simp; done) | (simp; omega)) _).mono (by first | omega | (simp; done) | (simp; omega))
    have Gf := K2f.cell
    clear hWf G2 F2
    exact bodyPost_ret (v := .tuple #[.agg #[.int .i64 N, .slice p5 i5 q5], .bool true]) (by simp [results, Tryd.results92, go_sem, Gf]) rfl ⟨p5, i5, q5, by rw [HN.out, HF.out], by rw [HL.out]; exact of, Bf⟩
end Go.Proofs.YtpaoiiiceekkkaaDoor
end
