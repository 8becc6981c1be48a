/- Bases, circuits and flats of matroids: what is computed. Maxima and the double greed: the first program. -/
import Derived.Test.YtelmokapdkepbaaGreatDoorQ36
section
namespace Go.Proofs.YtelmokapdkepbaaGreatDoor
open Go.RowKit Go.G5

theorem pop_none : ∀ s : Nat, s < 32 → pop s = 0 → s = 0 := by decide +kernel
theorem pop_some : ∀ s : Nat, s < 32 → 0 < pop s → ∃ e, e < 5 ∧ (s.testBit e = true ∧ ∃ t, t < 32 ∧ (s = setBit t e ∧ t.testBit e = false ∧ pop s = pop t + 1)) := by decide +kernel
theorem rank_poly {n : Int} {l : List Int} (h : rankB n l = true) : polyB n l = true := by
  unfold rankB at h
  simp only [Bool.and_eq_true] at h
  exact h.1
theorem rank_fun {n : Int} {l : List Int} (h : rankB n l = true) : isFunB n l = true := poly_fun (rank_poly h)
/-- of a matroid's rank: no set has more than its size -/
theorem rank_le {N : Nat} {l : List Int} (h : rankB N l = true) : ∀ s, s < 2 ^ N → l.getD s 0 ≤ (pop s : Int) := by
  have hp := rank_poly h
  have hf := rank_fun h
  obtain ⟨_, hN, h5, hl2, hl32, hlb⟩ := fun_nat hf
  have hN := Int.ofNat.inj hN
  subst hN
  have hs : subB N l = true := by unfold polyB at hp; simp only [Bool.and_eq_true] at hp; exact hp.2
  have h0 : l.getD 0 0 = 0 := by
    unfold polyB isGrB at hp
    simp only [Bool.and_eq_true, decide_eq_true_eq] at hp
    exact hp.1.1.2
  have h1 : ∀ e, e < N → l.getD (2 ^ e) 0 ≤ 1 := fun e he => by
    unfold rankB at h
    simp only [Bool.and_eq_true, Int.toNat_natCast] at h
    have := allTo_iff.1 h.2 e he
    unfold oneB at this
    simp only [Bool.not_eq_true', decide_eq_false_iff_not] at this
    omega
  have hex := (sub_iff N l hf).1 hs
  have hneg : ∀ s i k : Nat, s < 2 ^ N → i < k → k < N → nbit s i = false → nbit s k = false → 0 ≤ exL (negL l) s i k := fun s i k a b c d e => by
    rw [exL_neg]
    have := hex s i k a b c d e
    omega
  have hgl : ∀ s e, gainL (negL l) s e = - gainL l s e := fun s e => by
    unfold gainL
    rw [negL_getD, negL_getD]; omega
  have hstep : ∀ s e, s < 2 ^ N → e < N → s.testBit e = false → l.getD (setBit s e) 0 ≤ l.getD s 0 + 1 := fun s e a b c => by
    have g1 := gain_mono N (negL l) hneg 0 s e a b (fun j hj => by simp at hj) c
    rw [hgl, hgl] at g1
    have g2 := h1 e b
    have e0 : setBit 0 e = 2 ^ e := by unfold setBit; simp
    unfold gainL at g1
    rw [e0] at g1
    omega
  have key : ∀ m s, pop s = m → s < 2 ^ N → l.getD s 0 ≤ (m : Int) := by
    intro m
    induction m with
    | zero =>
      intro s hps hsN
      have p5 : (2 : Nat) ^ N ≤ 32 := Nat.pow_le_pow_right (n := 2) (by decide) h5
      have : s = 0 := pop_none s (by omega) hps
      subst this
      rw [h0]; simp
    | succ m ih =>
      intro s hps hsN
      have p5 : (2 : Nat) ^ N ≤ 32 := Nat.pow_le_pow_right (n := 2) (by decide) h5
      obtain ⟨e, he, hb, t, _, ht, htb, hpt⟩ := pop_some s (by omega) (by omega)
      have heN : e < N := by
        rcases Nat.lt_or_ge e N with h | h
        · exact h
        · have := Nat.testBit_lt_two_pow (Nat.lt_of_lt_of_le hsN (Nat.pow_le_pow_right (by decide) h))
          rw [this] at hb; cases hb
      have htN : t < 2 ^ N := by rw [ht] at hsN; exact Nat.lt_of_le_of_lt (by unfold setBit; exact Nat.left_le_or) hsN
      have h2 := ih t (by omega) htN
      have h3 := hstep t e htN heN htb
      rw [← ht] at h3
      omega
  exact fun s hs => key (pop s) s rfl hs

def topL (l : List Int) : Int := l.getD (l.length - 1) 0
def basP (l : List Int) (s : Nat) : Bool := freeB l s && decide (l.getD s 0 = topL l)
def cirP (l : List Int) (s : Nat) : Bool := !freeB l s
def matN (n : Int) (l : List Int) : Int := if rankB n l then n else 0
def basL (n : Int) (l : List Int) : List Int := if rankB n l then chosen (basP l) l.length else []
def cirL (n : Int) (l : List Int) : List Int := if rankB n l then minL (chosen (cirP l) l.length) else []
theorem basP_is (l : List Int) (s : Nat) : basP l s = (decide (l.getD s 0 = topL l) && decide ((pop s : Int) = topL l)) := by
  unfold basP freeB
  by_cases h1 : l.getD s 0 = topL l
  · rw [decide_eq_true h1, Bool.and_true, Bool.true_and, h1]
    by_cases h2 : topL l = (pop s : Int)
    · rw [decide_eq_true h2, decide_eq_true h2.symm]
    · rw [decide_eq_false h2, decide_eq_false (fun e => h2 e.symm)]
  · rw [decide_eq_false h1, Bool.and_false, Bool.false_and]
theorem cirP_is {N : Nat} {l : List Int} (h : rankB N l = true) (s : Nat) (hs : s < 2 ^ N) : cirP l s = decide (l.getD s 0 < (pop s : Int)) := by
  have h1 := rank_le h s hs
  unfold cirP freeB
  by_cases h2 : l.getD s 0 = (pop s : Int)
  · rw [decide_eq_true h2, decide_eq_false (by omega)]; rfl
  · rw [decide_eq_false h2, decide_eq_true (by omega)]; rfl
theorem chosen_same (P Q : Nat → Bool) : ∀ k, (∀ s, s < k → P s = Q s) → chosen P k = chosen Q k
  | 0, _ => rfl
  | k + 1, h => by rw [chosen_succ, chosen_succ, chosen_same P Q k (fun s hs => h s (by omega)), h k (by omega)]
/-- a set to which no other element can be added without adding to the value -/
def flatB (l : List Int) (n s : Nat) : Bool := allTo (fun e => nbit s e || !(gainL l s e == 0)) n
def flaL (n : Int) (l : List Int) : List Int := if polyB n l then chosen (flatB l n.toNat) l.length else []
/-- of a polymatroid: no value is negative -/
theorem poly_ge {N : Nat} {l : List Int} (hp : polyB N l = true) : ∀ s, s < 2 ^ N → 0 ≤ l.getD s 0 := by
  have hf := poly_fun hp
  obtain ⟨_, hN, h5, hl2, hl32, hlb⟩ := fun_nat hf
  have hN := Int.ofNat.inj hN
  subst hN
  have h0 : l.getD 0 0 = 0 := by
    unfold polyB isGrB at hp
    simp only [Bool.and_eq_true, decide_eq_true_eq] at hp
    exact hp.1.1.2
  have hinc : ∀ s e, s < 2 ^ N → e < N → l.getD s 0 ≤ l.getD (setBit s e) 0 := fun s e hs he => by
    unfold polyB incB at hp
    simp only [Bool.and_eq_true, Int.toNat_natCast] at hp
    have h1 := allTo_iff.1 hp.1.2.2 s (by rw [hl2]; exact hs)
    have h2 := allTo_iff.1 h1 e he
    unfold upB gainL at h2
    simp only [Bool.not_eq_true', decide_eq_false_iff_not] at h2
    omega
  have key : ∀ m s, pop s = m → s < 2 ^ N → 0 ≤ l.getD s 0 := by
    intro m
    induction m with
    | zero =>
      intro s hps hsN
      have p5 : (2 : Nat) ^ N ≤ 32 := Nat.pow_le_pow_right (n := 2) (by decide) h5
      have : s = 0 := pop_none s (by omega) hps
      subst this
      rw [h0]; simp
    | succ m ih =>
      intro s hps hsN
      have p5 : (2 : Nat) ^ N ≤ 32 := Nat.pow_le_pow_right (n := 2) (by decide) h5
      obtain ⟨e, he, hb, t, _, ht, htb, hpt⟩ := pop_some s (by omega) (by omega)
      have heN : e < N := by
        rcases Nat.lt_or_ge e N with h | h
        · exact h
        · have := Nat.testBit_lt_two_pow (Nat.lt_of_lt_of_le hsN (Nat.pow_le_pow_right (by decide) h))
          rw [this] at hb; cases hb
      have htN : t < 2 ^ N := by rw [ht] at hsN; exact Nat.lt_of_le_of_lt (by unfold setBit; exact Nat.left_le_or) hsN
      have h2 := ih t (by omega) htN
      have h3 := hinc t e htN heN
      rw [← ht] at h3
      omega
  exact fun s hs => key (pop s) s rfl hs
/-- the closure, in one pass -/
def cloTo (l : List Int) (s : Nat) : Nat → Nat
  | 0 => s
  | k + 1 => if gainL l s k = 0 then setBit (cloTo l s k) k else cloTo l s k
theorem cloTo_tb (l : List Int) (s j : Nat) : ∀ k, (cloTo l s k).testBit j = (s.testBit j || (decide (j < k) && decide (gainL l s j = 0)))
  | 0 => by simp [cloTo]
  | k + 1 => by
    rw [cloTo]
    by_cases hg : gainL l s k = 0
    · rw [if_pos hg, tb_setBit, cloTo_tb l s j k]
      by_cases hj : k = j
      · subst hj
        rw [decide_eq_true (show k < k + 1 by omega), decide_eq_true hg]; simp
      · rw [decide_eq_false hj, Bool.or_false]
        by_cases h : j < k
        · rw [decide_eq_true h, decide_eq_true (show j < k + 1 by omega)]
        · rw [decide_eq_false h, decide_eq_false (show ¬ j < k + 1 by omega)]
    · rw [if_neg hg, cloTo_tb l s j k]
      by_cases hj : k = j
      · subst hj
        rw [decide_eq_false hg]; simp
      · by_cases h : j < k
        · rw [decide_eq_true h, decide_eq_true (show j < k + 1 by omega)]
        · rw [decide_eq_false h, decide_eq_false (show ¬ j < k + 1 by omega)]
theorem cloTo_lt (l : List Int) (s N : Nat) (hs : s < 2 ^ N) : ∀ k, k ≤ N → cloTo l s k < 2 ^ N
  | 0, _ => hs
  | k + 1, h => by
    rw [cloTo]
    split
    · exact setBit_lt _ _ _ (cloTo_lt l s N hs k (by omega)) (by omega)
    · exact cloTo_lt l s N hs k (by omega)
theorem cloTo_flat (l : List Int) (s n : Nat) : decide (cloTo l s n = s) = flatB l n s := by
  cases hf : flatB l n s with
  | true =>
    refine decide_eq_true (Nat.eq_of_testBit_eq fun j => ?_)
    rw [cloTo_tb]
    by_cases hj : j < n
    · have := allTo_iff.1 hf j hj
      simp only [Bool.or_eq_true, Bool.not_eq_true', beq_eq_false_iff_ne] at this
      rcases this with h | h
      · rw [nbit_tb] at h; rw [h]; rfl
      · rw [decide_eq_false h]; simp
    · rw [decide_eq_false hj]; simp
  | false =>
    refine decide_eq_false (fun he => ?_)
    have : flatB l n s = true := allTo_iff.2 fun j hj => by
      have h1 := cloTo_tb l s j n
      rw [he, decide_eq_true hj, Bool.true_and] at h1
      by_cases hg : gainL l s j = 0
      · rw [decide_eq_true hg, Bool.or_true] at h1
        rw [nbit_tb, h1]; rfl
      · simp [hg]
    rw [this] at hf; cases hf
theorem flat_not {l : List Int} {n s e : Nat} (he : e < n) (h1 : nbit s e = false) (h2 : gainL l s e = 0) : flatB l n s = false := by
  cases hf : flatB l n s with
  | false => rfl
  | true =>
    have := allTo_iff.1 hf e he
    rw [h1, h2] at this
    simp at this
theorem setBit_gt (s e : Nat) (h : nbit s e = false) : s < setBit s e := by
  have h1 : s ≤ setBit s e := by unfold setBit; exact Nat.left_le_or
  rcases Nat.lt_or_eq_of_le h1 with h2 | h2
  · exact h2
  · have h3 := tb_setBit s e e
    rw [← h2, ← nbit_tb, h] at h3
    simp at h3
end Go.Proofs.YtelmokapdkepbaaGreatDoor
end
section
namespace Go.Proofs.YtelmokapdkepbaaGreatDoor
open Go.RowKit Go.G5

set_option maxHeartbeats 2000000 in
set_option maxRecDepth 100000 in
theorem bestI_yes (w : World) (N : Nat) (v : Value) (l : List Int) (hv : Ints w v l) (hf : isFunB N l = true) :
    Calls Tryz.prog 79 #[.agg #[.int .i64 (N : Int), v], .int .i64 (N : Int)] w fun e w' => e = .returned (.tuple #[.int .i64 (l.getD (mxTo l l.length) 0), .int .i64 (mxTo l l.length : Int), .bool true]) ∧ Below w.heap.size w w' := by
  have hv0 := hv
  obtain ⟨a, b, off, c, rfl, hlen, hix, hc, hb⟩ := hv.view Tryz.prog 22 3 Tryz.underlying22 intElem
  have hpop : ∀ s, s < l.length → pop s ≤ N ∧ l.length ≤ 32 ∧ 0 < l.length := by
    intro s hs
    obtain ⟨N', hN, h5, hl2, hl32, _⟩ := fun_nat hf
    have hN := Int.ofNat.inj hN
    subst hN
    exact ⟨pop_le5 N (by omega) s (by omega) (by omega), hl32, by omega⟩
  have hl32 : l.length ≤ 32 ∧ 0 < l.length := by
    obtain ⟨N', hN, h5, hl2, hl32, _⟩ := fun_nat hf
    have := Nat.two_pow_pos N'
    exact ⟨hl32, by omega⟩
  have HPO := Lib.hid hpop
  have hin : inB (N : Int) 0 (N : Int) = true := by unfold inB; simp
  have K0 := Blk.new w 27 #[.int .i64 (N : Int), .slice a l.length c]
  have HIN := Lib.hid hin
  have HC0 := Lib.hid (isFunI_any (N : Int) l _ (w.alloc (.cells #[.int .i64 (N : Int), .slice a l.length c] 27)) (hv0.alloc _))
  rw [hf] at HC0
  have HC := Lib.hid hc
  have HIX := Lib.hid hix
  clear hf hin hpop hc hix
  go_enter Tryz.func79, Tryz.ntmps79
  go_wp2_with fail
  refine HC0.out.mono ?_
  rintro e w1 ⟨rfl, hb1⟩
  have B1 : Below w.heap.size w w1 := (bl1 _ _).after hb1 (by simp)
  have K1 := K0.keep hb1
  have G := K1.cell
  have z1 := K1.lt
  have hck := cells_below HC.out hb B1 (Nat.le_refl _)
  have HCK := Lib.hid hck
  clear hck HC0
  go_wp2_with (go_at_call 76; refine (within_any _ _ _ _).mono ?_; rintro e w3 ⟨rfl, rfl⟩; rw [HIN.out])
  go_loop [7, 23] (fun bst i => ∃ t : Nat, t ≤ l.length ∧ i = .int .i64 t ∧ bst = .int .i64 (mxTo l t : Int)) (fun _ i => l.length - (intOf i).toNat)
  case atStart => exact ⟨0, Nat.zero_le _, rfl, rfl⟩
  case round =>
    obtain ⟨t, ht, rfl, rfl⟩ := hrel
    by_cases hlt : t < l.length
    · have hlt2 : (t : Int) < (l.length : Int) := by omega
      have hbl : mxTo l t < l.length := by
        rcases Nat.eq_zero_or_pos t with rfl | h
        · exact hlt
        · have := mxTo_lt l t h; omega
      have hsucc := mxTo_succ l t
      have hs1 := fun W : World => sizeOf_any t W (by omega)
      have hpo : (pop t : Int) ≤ (N : Int) := by have := (HPO.out t hlt).1; omega
      have ck1 := HCK.out t hlt
      have ik1 := fun W => HIX.out W t hlt
      have ck2 := HCK.out _ hbl
      have ik2 := fun W => HIX.out W _ hbl
      rw [getD_at l t hlt, getD_at l _ hbl] at hsucc
      obtain ⟨q, hq⟩ : ∃ q, q = mxTo l t := ⟨_, rfl⟩
      simp only [← hq] at hsucc ck2 ik2 hbl
      rw [← hq]
      obtain ⟨x, hx⟩ : ∃ x, x = l[t] := ⟨_, rfl⟩
      obtain ⟨y, hy⟩ : ∃ y, y = l[q] := ⟨_, rfl⟩
      rw [← hx, ← hy] at hsucc
      rw [← hx] at ck1
      rw [← hy] at ck2
      obtain ⟨p, hp⟩ : ∃ p : Nat, p = pop t := ⟨_, rfl⟩
      rw [← hp] at hpo
      simp only [← hp] at hs1
      have HS1 := Lib.hid hs1
      clear hs1 hq hx hy hp
      by_cases hgt : y < x
      · rw [if_pos hgt] at hsucc
        have HSU := Lib.hid hsucc
        clear hsucc
        go_wp2_with (go_at_call 111; refine (HS1.out _).mono ?_; rintro e w3 ⟨rfl, rfl⟩)
        go_round
        case rel => exact ⟨t + 1, by omega, by go_num, by rw [HSU.out]⟩
        case measure => simp [intOf]; omega
      · rw [if_neg hgt] at hsucc
        have HSU := Lib.hid hsucc
        clear hsucc
        go_wp2_with (go_at_call 111; refine (HS1.out _).mono ?_; rintro e w3 ⟨rfl, rfl⟩)
        go_round
        case rel => exact ⟨t + 1, by omega, by go_num, by rw [HSU.out]⟩
        case measure => simp [intOf]; omega
    · have hlt2 : ¬ (t : Int) < (l.length : Int) := by omega
      have htl : t = l.length := by omega
      subst htl
      have hbl := mxTo_lt l l.length (by omega)
      have ck2 := HCK.out _ hbl
      have ik2 := fun W => HIX.out W _ hbl
      have hg := getD_at l _ hbl
      obtain ⟨q, hq⟩ : ∃ q, q = mxTo l l.length := ⟨_, rfl⟩
      simp only [← hq] at ck2 ik2 hbl hg
      rw [← hq]
      rw [← hg] at ck2
      obtain ⟨y, hy⟩ : ∃ y, y = l.getD q 0 := ⟨_, rfl⟩
      rw [← hy] at ck2
      have HY := Lib.hid hy
      have HQ := Lib.hid hq
      clear hg hy hq
      go_wp2
      go_ret3
      exact ⟨by have h1 := HQ.out; have h2 := HY.out; subst h1; rw [getD_at l _ hbl] at h2; subst h2; rfl, B1⟩
set_option maxHeartbeats 400000 in
theorem mxI_c (w : World) (n : Int) (v : Value) (l : List Int) (hv : Ints w v l) :
    Calls Tryz.prog 31 #[.agg #[.int .i64 n, v]] w fun e w' => e = .returned (.tuple #[.int .i64 (mxN n l), .int .i64 (mxS n l), .bool (isFunB n l)]) ∧ Below w.heap.size w w' := by
  have hv0 := hv
  obtain ⟨a, c, rfl⟩ := hv.shape
  go_enter Tryz.func31, Tryz.ntmps31
  go_wp2_with fail
  refine calls_named ?_
  intro V hV
  have B : Below w.heap.size w V := by rw [hV]; exact bl1 _ _
  have K : Blk V w.heap.size 27 #[.int .i64 n, .slice a l.length c] := by rw [hV]; exact Blk.new _ _ _
  clear hV
  refine (isFunI_any n l _ V (hv.below B (Nat.le_refl _))).mono ?_
  rintro e w1 ⟨rfl, b1⟩
  have K := K.keep b1
  have B := B.after b1 B.size
  have G := K.cell
  have z := K.lt
  cases hf : isFunB n l with
  | false =>
    have hx : mxN n l = 0 ∧ mxS n l = 0 := by unfold mxN mxS; rw [hf]; exact ⟨rfl, rfl⟩
    have HX := Lib.hid (And.intro hx hf)
    clear hx hf
    go_wp2
    go_ret3
    exact ⟨by rw [HX.out.1.1, HX.out.1.2, HX.out.2]; rfl, B⟩
  | true =>
    have hx : mxN n l = l.getD (mxTo l l.length) 0 ∧ mxS n l = (mxTo l l.length : Int) := by unfold mxN mxS; rw [hf]; exact ⟨rfl, rfl⟩
    obtain ⟨N, rfl, -⟩ := fun_nat hf
    have HC := Lib.hid (bestI_yes w1 N _ l (hv0.below B (Nat.le_refl _)) hf)
    have HX := Lib.hid (And.intro hx hf)
    clear hx hf
    go_wp2_with fail
    refine HC.out.mono ?_
    rintro e w2 ⟨rfl, b2⟩
    go_wp2
    go_ret3
    exact ⟨by rw [HX.out.1.1, HX.out.1.2, HX.out.2]; rfl, B.after b2 B.size⟩
set_option maxHeartbeats 400000 in
theorem valueI_any (w : World) (N : Nat) (v : Value) (l : List Int) (hv : Ints w v l) (hf : isFunB N l = true) (s : Nat) (hs : s < l.length) :
    Calls Tryz.prog 37 #[.agg #[.int .i64 (N : Int), v], .int .i64 (s : Int)] w fun e w' => e = .returned (.int .i64 (l.getD s 0)) ∧ Below w.heap.size w w' := by
  have hv0 := hv
  obtain ⟨a, b, off, c, rfl, hlen, hix, hc, hb⟩ := hv.view Tryz.prog 22 3 Tryz.underlying22 intElem
  have hset : isSet N (s : Int) = true ∧ N ≤ 5 := by
    obtain ⟨N', hN, h5, hl2, hl32, _⟩ := fun_nat hf
    have hN := Int.ofNat.inj hN
    subst hN
    refine ⟨?_, h5⟩
    have : ((2 ^ N : Nat) : Int) = (2 : Int) ^ N := by simp
    unfold isSet
    simp only [Bool.and_eq_true, decide_eq_true_eq]
    omega
  have HSE := Lib.hid hset.1
  have h5 := hset.2
  have HC0 := Lib.hid (isFunI_any (N : Int) l _ (w.alloc (.cells #[.int .i64 (N : Int), .slice a l.length c] 27)) (hv0.alloc _))
  rw [hf] at HC0
  have K0 := Blk.new w 27 #[.int .i64 (N : Int), .slice a l.length c]
  have HC := Lib.hid hc
  have hck := getD_at l s hs
  have ik := fun W => hix W s hs
  obtain ⟨x, hx⟩ : ∃ x, x = l.getD s 0 := ⟨_, rfl⟩
  rw [← hx]
  clear hf hset hc hix
  go_enter Tryz.func37, Tryz.ntmps37
  go_wp2_with fail
  refine HC0.out.mono ?_
  rintro e w1 ⟨rfl, hb1⟩
  have B1 : Below w.heap.size w w1 := (bl1 _ _).after hb1 (by simp)
  have K1 := K0.keep hb1
  have G := K1.cell
  have z1 := K1.lt
  have ck := cells_below HC.out hb B1 (Nat.le_refl _) s hs
  rw [← hck, ← hx] at ck
  clear HC0 hck hx
  go_wp2_with (go_at_call 84; refine (isSetOf_any N _ _ (by omega)).mono ?_; rintro e w3 ⟨rfl, rfl⟩; rw [HSE.out])
  go_ret
  exact ⟨rfl, B1⟩
set_option maxHeartbeats 2000000 in
set_option maxRecDepth 100000 in
theorem dgI_c (w : World) (n : Int) (v : Value) (l : List Int) (hv : Ints w v l) :
    Calls Tryz.prog 32 #[.agg #[.int .i64 n, v]] w fun e w' => e = .returned (.tuple #[.int .i64 (dgS n l), .bool (isFunB n l)]) ∧ Below w.heap.size w w' := by
  have hv0 := hv
  obtain ⟨a, b, off, c, rfl, hlen, hix, hc, hb⟩ := hv.view Tryz.prog 22 3 Tryz.underlying22 intElem
  have HC := Lib.hid hc
  have HIX := Lib.hid hix
  clear hc hix
  go_enter Tryz.func32, Tryz.ntmps32
  go_wp2_with fail
  refine calls_named ?_
  intro V hV
  have B : Below w.heap.size w V := by rw [hV]; exact bl1 _ _
  have K : Blk V w.heap.size 27 #[.int .i64 n, .slice a l.length c] := by rw [hV]; exact Blk.new _ _ _
  clear hV
  refine (isFunI_any n l _ V (hv.below B (Nat.le_refl _))).mono ?_
  rintro e w1 ⟨rfl, b1⟩
  have K := K.keep b1
  have B := B.after b1 B.size
  have G := K.cell
  have z := K.lt
  cases hf : isFunB n l with
  | false =>
    have hx : dgS n l = 0 := by unfold dgS; rw [hf]; rfl
    have HX := Lib.hid (And.intro hx hf)
    clear hx hf
    go_wp2
    go_ret2
    exact ⟨by rw [HX.out.1, HX.out.2]; rfl, B⟩
  | true =>
    obtain ⟨N, rfl, h5, hl2, hl32, hlb⟩ := fun_nat hf
    have hx : dgS N l = (dgTo l N N : Int) := by unfold dgS; rw [hf, if_pos rfl, Int.toNat_natCast]
    have hal := allOf_any (N : Int) (.slice a l.length c) l w1 (hv0.below B (Nat.le_refl _)) (by omega) (by omega)
    rw [Int.toNat_natCast, show ((2 : Int) ^ N - 1) = ((dgB N 0 0 : Nat) : Int) by rw [dgB_zero]; have : ((2 ^ N : Nat) : Int) = (2 : Int) ^ N := by simp
                                                                                   have := Nat.two_pow_pos N
                                                                                   omega] at hal
    have HAL := Lib.hid hal
    have HX := Lib.hid (And.intro hx hf)
    have HL2 := Lib.hid hl2
    have HLB := Lib.hid hlb
    clear hx hf hal hl2 hlb
    go_wp2_with fail
    refine HAL.out.mono ?_
    rintro e w2 ⟨rfl, b2⟩
    have K := K.keep b2
    have B := B.after b2 B.size
    clear G z
    have G := K.cell
    have z := K.lt
    go_wp2_with fail
    go_loopw [4, 5, 15] (fun av bv i wr => ∃ e : Nat, e ≤ N ∧ i = .int .i64 e ∧ av = .int .i64 (dgTo l N e : Int) ∧ bv = .int .i64 (dgB N (dgTo l N e) e : Int) ∧ Below w2.heap.size w2 wr) (fun _ _ i _ => N - (intOf i).toNat)
    case atStart => exact ⟨0, Nat.zero_le _, rfl, rfl, rfl, Below.refl _ _⟩
    case round =>
      obtain ⟨e, he, rfl, rfl, rfl, Br⟩ := hrel
      obtain ⟨wo, rfl⟩ : ∃ z : World, z = wr := ⟨_, rfl⟩
      by_cases hlt : e < N
      · have hlt2 : (e : Int) < (N : Int) := by omega
        have Bw := B.after Br B.size
        have Kw := K.keep Br
        have hxl := dgTo_lt l N h5 e he
        have hpe : (2 : Nat) ^ e ≤ 32 := Nat.pow_le_pow_right (n := 2) (j := 5) (by decide) (by omega)
        have hpN : (2 : Nat) ^ N ≤ 32 := Nat.pow_le_pow_right (n := 2) (j := 5) (by decide) (by omega)
        have hsucc := dgTo_succ l N e
        obtain ⟨x, hx⟩ : ∃ x, x = dgTo l N e := ⟨_, rfl⟩
        rw [← hx] at hxl hsucc ⊢
        obtain ⟨⟨f1, f2⟩, ⟨f3, f4⟩, ⟨f5, f6⟩, f7, f8⟩ := dg_facts N (by omega) e hlt x (by omega) hxl
        have hor := setBit_is x e (by omega) (by omega)
        have hnd := bitN_is (dgB N x e) e (by omega) (by omega)
        rw [f2] at hnd hsucc
        rw [f1] at hor hsucc
        have hgn := fun (W : World) (h : Ints W (.slice a l.length c) l) => gain_any (N : Int) l _ x e W h (by omega) (by have := HL2.out; omega) (by omega) (by rw [f1]; have := HL2.out; omega) HLB.out
        have hb1 := bd_at HLB.out (dgB N x (e + 1))
        have hb2 := bd_at HLB.out (dgB N x e)
        have hin1 : dgB N x (e + 1) < l.length := by have := HL2.out; omega
        have hin2 : dgB N x e < l.length := by have := HL2.out; omega
        have ck1 := cells_below HC.out hb Bw (Nat.le_refl _) _ hin1
        have ck2 := cells_below HC.out hb Bw (Nat.le_refl _) _ hin2
        have ik1 := fun W => HIX.out W _ hin1
        have ik2 := fun W => HIX.out W _ hin2
        rw [← getD_at l _ hin1] at ck1
        rw [← getD_at l _ hin2] at ck2
        have H3 := Lib.hid f3
        obtain ⟨y, hy⟩ : ∃ y, y = dgB N x e := ⟨_, rfl⟩
        obtain ⟨z', hz'⟩ : ∃ z', z' = dgB N x (e + 1) := ⟨_, rfl⟩
        obtain ⟨x', hx'⟩ : ∃ x', x' = x + 2 ^ e := ⟨_, rfl⟩
        simp only [← hy, ← hz'] at hnd hb1 hb2 ck1 ck2 ik1 ik2 hsucc
        rw [← hx'] at hor hsucc
        rw [← hy]
        have HY := Lib.hid hy
        have HZ := Lib.hid hz'
        have HX' := Lib.hid hx'
        obtain ⟨p, hp⟩ : ∃ p, p = l.getD z' 0 := ⟨_, rfl⟩
        obtain ⟨q, hq⟩ : ∃ q, q = l.getD y 0 := ⟨_, rfl⟩
        obtain ⟨g, hg⟩ : ∃ g, g = gainL l x e := ⟨_, rfl⟩
        rw [← hp] at hb1 ck1 hsucc
        rw [← hq] at hb2 ck2 hsucc
        rw [← hg] at hsucc
        simp only [← hg] at hgn
        have hwr : IntKind.i64.wrap (p - q) = p - q := by rw [IntKind.wrap_i64]; omega
        have hp64 := two_pow e 6 (by omega)
        have hp1 : (2 : Int) ^ e ≤ 64 := by simpa using hp64.1
        have hp2 := hp64.2
        have he0 : (0 : Int) ≤ (e : Int) := Int.natCast_nonneg _
        have e0 : ∀ y : Ext wo, y.w.cell? ⟨w.heap.size, 0, none⟩ = some (.int .i64 (N : Int)) := fun y => y.cell (Kw.cell 0)
        have e1 : ∀ y : Ext wo, y.w.cell? ⟨w.heap.size, 1, none⟩ = some (.slice a l.length c) := fun y => y.cell (Kw.cell 1)
        have e2 : ∀ y : Ext wo, y.w.cell? ⟨b, off + z', none⟩ = some (.int .i64 p) := fun y => y.cell ck1
        have e3 : ∀ z : Ext wo, z.w.cell? ⟨b, off + y, none⟩ = some (.int .i64 q) := fun z => z.cell ck2
        have hvw := hv0.below Bw (Nat.le_refl _)
        have HG := Lib.hid (fun y : Ext wo => hgn y.w (y.ints hvw))
        clear hx f1 f2 f3 f4 f5 f6 f7 f8 hxl hpe hpN hy hz' hx' hp hq hg hgn hin1 hin2 hp64 ck1 ck2 hb1 hb2 G z
        by_cases hge : p - q ≤ g
        · rw [if_pos hge] at hsucc
          have HSU := Lib.hid hsucc
          clear hsucc
          go_wp2_with fail
          refine wp_region_ext _ (by kernel_rfl) (by kernel_rfl) ?_
          repeat (first | go_big_quiet_skip | (go_big_quiet_want; go_big_quiet_op; first | go_big_quiet_on | (apply Exists.intro; refine ⟨fun _ => ?_, ?_⟩; (go_at_call 81; exact ext_call (HG.out _)); go_big_quiet_on)))
          refine wpQuiet_nil ?_
          rintro w5 ⟨⟨w5, b5⟩, rfl⟩
          try dsimp only
          go_wp2
          go_roundw
          case rel => exact ⟨e + 1, by omega, by go_num, by rw [HSU.out], by rw [HSU.out, HX'.out, H3.out, HY.out], Br.after b5 Br.size⟩
          case measure => simp [intOf]; omega
        · rw [if_neg hge] at hsucc
          have HSU := Lib.hid hsucc
          clear hsucc
          go_wp2_with fail
          refine wp_region_ext _ (by kernel_rfl) (by kernel_rfl) ?_
          repeat (first | go_big_quiet_skip | (go_big_quiet_want; go_big_quiet_op; first | go_big_quiet_on | (apply Exists.intro; refine ⟨fun _ => ?_, ?_⟩; (go_at_call 81; exact ext_call (HG.out _)); go_big_quiet_on)))
          refine wpQuiet_nil ?_
          rintro w5 ⟨⟨w5, b5⟩, rfl⟩
          try dsimp only
          go_wp2
          go_roundw
          case rel => exact ⟨e + 1, by omega, by go_num, by rw [HSU.out], by rw [HSU.out, HZ.out], Br.after b5 Br.size⟩
          case measure => simp [intOf]; omega
      · have hlt2 : ¬ (e : Int) < (N : Int) := by omega
        have hE : e = N := by omega
        subst hE
        go_wp2
        go_ret2
        exact ⟨by rw [HX.out.1, HX.out.2]; rfl, B.after Br B.size⟩
end Go.Proofs.YtelmokapdkepbaaGreatDoor
end
