/- Prices of a greedy cover: what is said of covers. -/
import Derived.Test.YtelmokapdkepbaaGreatDoorQ34
section
namespace Go.Proofs.YtelmokapdkepbaaGreatDoor
open Go.RowKit Go.G5

theorem greedyRun_in (l : List Int) (hl : ∀ s ∈ l, 0 ≤ s ∧ s < 64) : ∀ (L : List Int) (n : Nat) (left : Int), 0 ≤ left → left < 64 → greedyRun l n left = some L → (∀ c ∈ L, c ∈ l) ∧ subI left (unionL L) ∧ L.length ≤ pop left.toNat := by
  intro L
  induction L with
  | nil =>
    intro n left h0 h1 h
    have := greedyRun_nil h
    subst this
    exact ⟨by simp, by unfold subI; simp, by simp⟩
  | cons c R ih =>
    intro n left h0 h1 h
    obtain ⟨m, rfl, hne, hc, hx, hnext⟩ := greedyRun_cons h
    have hb : 0 ≤ c ∧ c < 64 := by rw [hc]; exact best_bd l left hl
    have hd := idif_bd left c 64 h0 h1
    obtain ⟨i1, i2, i3⟩ := ih m _ hd.1 hd.2 hnext
    have hcl : c ∈ l := by
      rcases best_mem left l 0 with h2 | h2
      · exfalso
        have : c = 0 := by rw [hc]; exact h2
        apply hx
        rw [this]; unfold iand; simp
      · rw [hc]; exact h2
    have hmem : ∀ y ∈ R, 0 ≤ y ∧ y < 64 := fun y hy => hl y (i1 y hy)
    have hall : ∀ y ∈ c :: R, 0 ≤ y ∧ y < 64 := fun y hy => by
      rcases List.mem_cons.1 hy with rfl | hy
      · exact hb
      · exact hmem y hy
    have hsub := sub_union (c :: R) hall
    have hU : subI (unionL R) (unionL (c :: R)) := by
      have hfold : ∀ (T : List Int) (z u : Int), (∀ y ∈ T, subI y u) → subI z u → subI (T.foldl ior z) u := by
        intro T
        induction T with
        | nil => intro z u _ hz; exact hz
        | cons t T iht =>
          intro z u hT hz
          rw [List.foldl_cons]
          refine iht _ u (fun y hy => hT y (by simp [hy])) ?_
          have h3 := hT t (by simp)
          unfold subI ior at *
          rw [Int.toNat_natCast, Nat.or_assoc, h3, hz]
      exact hfold R 0 _ (fun y hy => (hsub y (by simp [hy])).2) (by unfold subI; simp)
    refine ⟨fun y hy => ?_, ?_, ?_⟩
    · rcases List.mem_cons.1 hy with rfl | hy
      · exact hcl
      · exact i1 y hy
    · exact subI_step ⟨h0, h1⟩ hb (subI_trans i2 hU) (hsub c (by simp)).2
    · have h5 : (idif left c).toNat = ndiff left.toNat c.toNat := by unfold idif; rw [Int.toNat_natCast]
      rw [h5] at i3
      have h6 := pop_split left.toNat left.toNat c.toNat (by omega) (by omega) (by omega)
      have h7 : left.toNat &&& ndiff left.toNat c.toNat = ndiff left.toNat c.toNat := by
        apply Nat.eq_of_testBit_eq
        intro i
        rw [Nat.testBit_and, ndiff_bit _ _ _ (by omega) (by omega)]
        cases left.toNat.testBit i <;> simp
      have h8 : left.toNat &&& (c.toNat &&& left.toNat) = c.toNat &&& left.toNat := by
        apply Nat.eq_of_testBit_eq
        intro i
        simp only [Nat.testBit_and]
        cases left.toNat.testBit i <;> simp
      rw [h7, h8, Nat.and_self] at h6
      have h9 := pop_pos (c.toNat &&& left.toNat) (and_lt _ _ _ (by omega)) (by unfold iand at hx; omega)
      rw [List.length_cons]; omega

/-! the fewest -/
theorem covI_len : ∀ (t : List Int) (k : Nat) (left : Int) (x : List Int), covI t k left = some x → x.length ≤ k ∧ ∀ y ∈ x, y ∈ t := by
  intro t
  induction t with
  | nil =>
    intro k left x h
    by_cases hz : left = 0
    · subst hz; rw [covI_done] at h; cases h; simp
    · rw [covI_nil _ _ hz] at h; cases h
  | cons s t ih =>
    intro k left x h
    by_cases hz : left = 0
    · subst hz; rw [covI_done] at h; cases h; simp
    cases k with
    | zero => rw [covI_zero _ _ hz] at h; cases h
    | succ k =>
      simp only [covI, if_neg hz] at h
      cases h2 : covI t k (idif left s) with
      | some y =>
        rw [h2] at h
        cases h
        have := ih _ _ _ h2
        refine ⟨by simp only [List.length_cons]; omega, fun z hz => ?_⟩
        rcases List.mem_cons.1 hz with rfl | hz
        · simp
        · simp [this.2 z hz]
      | none =>
        rw [h2] at h
        have := ih _ _ _ h
        exact ⟨this.1, fun z hz => by simp [this.2 z hz]⟩
/-- the found sets have what was left -/
theorem covI_has : ∀ (t : List Int) (k : Nat) (left : Int) (x : List Int) (u : Int), (∀ s ∈ t, 0 ≤ s ∧ s < 64) → 0 ≤ left → left < 64 → covI t k left = some x → (∀ y ∈ x, subI y u) → subI left u := by
  intro t
  induction t with
  | nil =>
    intro k left x u _ h0 h1 h _
    by_cases hz : left = 0
    · subst hz; unfold subI; simp
    · rw [covI_nil _ _ hz] at h; cases h
  | cons s t ih =>
    intro k left x u hm h0 h1 h hu
    by_cases hz : left = 0
    · subst hz; unfold subI; simp
    cases k with
    | zero => rw [covI_zero _ _ hz] at h; cases h
    | succ k =>
      simp only [covI, if_neg hz] at h
      cases h2 : covI t k (idif left s) with
      | some y =>
        rw [h2] at h
        cases h
        have hd := idif_bd left s 64 h0 h1
        exact subI_step ⟨h0, h1⟩ (hm s (by simp)) (ih k _ y u (fun q hq => hm q (by simp [hq])) hd.1 hd.2 h2 (fun q hq => hu q (by simp [hq]))) (hu s (by simp))
      | none =>
        rw [h2] at h
        exact ih (k + 1) left x u (fun q hq => hm q (by simp [hq])) h0 h1 h hu
/-- what a set has lies in what is left without it, or in it -/
theorem subI_off {a s u : Int} (ha : 0 ≤ a ∧ a < 64) (hs : 0 ≤ s ∧ s < 64) (_ : 0 ≤ u) (h : subI a (ior s u)) : subI (idif a s) u := by
  unfold subI at *
  have e : (idif a s).toNat = ndiff a.toNat s.toNat := by unfold idif; rw [Int.toNat_natCast]
  have e2 : (ior s u).toNat = s.toNat ||| u.toNat := by unfold ior; rw [Int.toNat_natCast]
  rw [e]
  rw [e2] at h
  apply Nat.eq_of_testBit_eq
  intro i
  have hi := congrArg (fun x : Nat => x.testBit i) h
  simp only [Nat.testBit_or] at hi
  rw [Nat.testBit_or, ndiff_bit _ _ _ (by omega) (by omega)]
  revert hi
  cases a.toNat.testBit i <;> cases s.toNat.testBit i <;> cases u.toNat.testBit i <;> simp
theorem union_ge (X : List Int) (z : Int) (hz : 0 ≤ z) : 0 ≤ X.foldl ior z := by
  induction X generalizing z with
  | nil => exact hz
  | cons a X ih => rw [List.foldl_cons]; exact ih _ (by unfold ior; omega)
/-- a union's bit is a set's bit -/
theorem union_bit (X : List Int) (i : Nat) : ∀ z : Int, (X.foldl ior z).toNat.testBit i = (z.toNat.testBit i || X.any (fun y => y.toNat.testBit i)) := by
  induction X with
  | nil => intro z; simp
  | cons a X ih =>
    intro z
    rw [List.foldl_cons, ih, List.any_cons]
    have : (ior z a).toNat = z.toNat ||| a.toNat := by unfold ior; rw [Int.toNat_natCast]
    rw [this, Nat.testBit_or, Bool.or_assoc]
theorem covI_opt : ∀ (t : List Int), t.Pairwise (· < ·) → (∀ s ∈ t, 0 ≤ s ∧ s < 64) → ∀ (X : List Int) (k : Nat) (left : Int), 0 ≤ left → left < 64 → (∀ y ∈ X, y ∈ t) → subI left (unionL X) → X.length ≤ k → (covI t k left).isSome = true := by
  intro t
  induction t with
  | nil =>
    intro _ _ X k left h0 h1 hX hs hk
    have hXn : X = [] := by
      cases X with
      | nil => rfl
      | cons a X => exact absurd (hX a (by simp)) (by simp)
    subst hXn
    have : left = 0 := by unfold subI unionL at hs; simp at hs; omega
    subst this
    rw [covI_done]; rfl
  | cons s t ih =>
    intro hp hm X k left h0 h1 hX hs hk
    by_cases hz : left = 0
    · subst hz; rw [covI_done]; rfl
    have hp2 := List.pairwise_cons.1 hp
    have hmt : ∀ y ∈ t, 0 ≤ y ∧ y < 64 := fun y hy => hm y (by simp [hy])
    by_cases hin : s ∈ X
    · have hlen : (X.filter (fun y => decide (y ≠ s))).length < X.length := by
        refine Nat.lt_of_le_of_ne (List.length_filter_le _ _) (fun he => ?_)
        have := List.length_filter_eq_length_iff.1 he s hin
        simp at this
      cases k with
      | zero => omega
      | succ k =>
        simp only [covI, if_neg hz]
        have hd := idif_bd left s 64 h0 h1
        have h2 := ih hp2.2 hmt (X.filter (fun y => decide (y ≠ s))) k (idif left s) hd.1 hd.2 (fun y hy => by
            have h3 := List.mem_filter.1 hy
            have h4 : y ≠ s := by simpa using h3.2
            rcases List.mem_cons.1 (hX y h3.1) with h5 | h5
            · exact absurd h5 h4
            · exact h5)
          (by
            refine subI_off ⟨h0, h1⟩ (hm s (by simp)) (union_ge _ 0 (by omega)) ?_
            refine subI_trans hs ?_
            unfold subI
            apply Nat.eq_of_testBit_eq
            intro i
            have e2 : (ior s (unionL (X.filter (fun y => decide (y ≠ s))))).toNat = s.toNat ||| (unionL (X.filter (fun y => decide (y ≠ s)))).toNat := by unfold ior; rw [Int.toNat_natCast]
            rw [e2, Nat.testBit_or, Nat.testBit_or]
            unfold unionL
            rw [union_bit, union_bit]
            simp only [Int.toNat_zero, Nat.zero_testBit, Bool.false_or]
            cases hsb : s.toNat.testBit i with
            | true => simp
            | false =>
              simp only [Bool.false_or]
              cases hany : X.any (fun y => y.toNat.testBit i) with
              | false => simp
              | true =>
                obtain ⟨y, hy, hyb⟩ := List.any_eq_true.1 hany
                have hne : y ≠ s := fun e => by rw [e, hsb] at hyb; cases hyb
                have : (X.filter (fun y => decide (y ≠ s))).any (fun y => y.toNat.testBit i) = true := List.any_eq_true.2 ⟨y, List.mem_filter.2 ⟨hy, by simpa using hne⟩, hyb⟩
                rw [this]; rfl)
          (by omega)
        obtain ⟨x, hx⟩ := Option.isSome_iff_exists.1 h2
        rw [hx]; rfl
    · have hXt : ∀ y ∈ X, y ∈ t := fun y hy => by
        rcases List.mem_cons.1 (hX y hy) with h5 | h5
        · exact absurd (h5 ▸ hy) hin
        · exact h5
      cases k with
      | zero =>
        have hXn : X = [] := List.eq_nil_of_length_eq_zero (by omega)
        subst hXn
        have : left = 0 := by unfold subI unionL at hs; simp at hs; omega
        exact absurd this hz
      | succ k =>
        simp only [covI, if_neg hz]
        have h2 := ih hp2.2 hmt X (k + 1) left h0 h1 hXt hs hk
        obtain ⟨x, hx⟩ := Option.isSome_iff_exists.1 h2
        cases h3 : covI t k (idif left s) with
        | some y => rfl
        | none => exact h2
theorem firstK_at (f : Nat → Option (List Int)) : ∀ (n k0 K : Nat), k0 ≤ K → K < k0 + n → (f K).isSome = true → ∃ k x, k ≤ K ∧ f k = some x ∧ firstK f k0 n = some x := by
  intro n
  induction n with
  | zero => intro k0 K h1 h2 _; omega
  | succ n ih =>
    intro k0 K h1 h2 h
    cases hk : f k0 with
    | some x => exact ⟨k0, x, h1, hk, by simp only [firstK, hk]⟩
    | none =>
      have hne : k0 ≠ K := fun e => by rw [e] at hk; rw [hk] at h; cases h
      obtain ⟨k, x, h3, h4, h5⟩ := ih (k0 + 1) K (by omega) (by omega) h
      exact ⟨k, x, h3, h4, by simp only [firstK, hk]; exact h5⟩

/-! what greed and the best have -/
theorem greedy_some (g : Nat) (_ : g ≤ 6) (l : List Int) (hl : ∀ s ∈ l, 0 ≤ s ∧ s < 64) (hu : unionL l = 2 ^ g - 1) : ∀ (n : Nat) (left : Int), 0 ≤ left → left < 2 ^ g → left ≤ n → (greedyRun l n left).isSome = true := by
  intro n
  induction n with
  | zero =>
    intro left h0 _ h1
    have : left = 0 := by omega
    subst this; rfl
  | succ n ih =>
    intro left h0 h1 h2
    simp only [greedyRun]
    by_cases hz : left = 0
    · rw [if_pos hz]; rfl
    · have hm := best_meets g l left hl (by omega) h1 hu
      rw [if_neg hz, if_neg hm]
      have hlt := idif_lt h0 hm
      have hd := idif_bd left (bestOf l left) _ h0 h1
      have := ih _ hd.1 hd.2 (by omega)
      rw [Option.isSome_map]
      exact this
theorem sub_full {g : Nat} {u : Int} (h0 : 0 ≤ u) (h1 : u < 2 ^ g) (h : subI (2 ^ g - 1) u) : u = 2 ^ g - 1 := by
  unfold subI at h
  have h5 := @Nat.left_le_or ((2 : Int) ^ g - 1).toNat u.toNat
  have : 0 < (2 : Int) ^ g := (two_pow g g (Nat.le_refl _)).2
  omega
structure PriceFacts (g : Int) (l : List Int) : Prop where
  same : smallB g l = greedyB g l
  greedy : greedyB g l = true → isCoverB g l (greedyL g l) = true
  small : greedyB g l = true → isCoverB g l (smallL g l) = true
  less : greedyB g l = true → (smallL g l).length ≤ (greedyL g l).length
theorem price_facts (g : Int) (l : List Int) : PriceFacts g l := by
  cases hf : isFamB g l with
  | false =>
    have h1 : greedyB g l = false := by unfold greedyB greedyOf; rw [hf]; rfl
    have h2 : smallB g l = false := by unfold smallB smallOf; rw [hf]; rfl
    exact ⟨by rw [h1, h2], by simp [h1], by simp [h1], by simp [h1]⟩
  | true =>
    obtain ⟨h0, h6, hs, hasc⟩ := famOk hf
    obtain ⟨G, rfl⟩ := Int.eq_ofNat_of_zero_le h0
    have hG : G ≤ 6 := by omega
    have hp := two_pow G 6 hG
    have hp1 : (2 : Int) ^ G ≤ 64 := by simpa using hp.1
    have hp2 := hp.2
    have hm := fam_mem hf
    rw [Int.toNat_natCast] at hs
    by_cases hu : unionL l = 2 ^ G - 1
    · have hsome := greedy_some G hG l hm hu 64 (2 ^ G - 1) (by omega) (by omega) (by omega)
      obtain ⟨L, hL⟩ := Option.isSome_iff_exists.1 hsome
      have hgo : greedyOf G l = some L := by unfold greedyOf; rw [if_pos hf]; exact hL
      have hgL : greedyL G l = L := by unfold greedyL; rw [hgo]; rfl
      have hgB : greedyB G l = true := by unfold greedyB; rw [hgo]; rfl
      obtain ⟨i1, i2, i3⟩ := greedyRun_in l hm L 64 (2 ^ G - 1) (by omega) (by omega) hL
      have hpg : pop ((2 : Int) ^ G - 1).toNat ≤ G := by
        rw [two_pow_nat]
        have : ∀ g, g < 7 → pop (2 ^ g - 1) ≤ g := by decide +kernel
        exact this G (by omega)
      have hLb : ∀ y ∈ L, 0 ≤ y ∧ y < (2 : Int) ^ G := fun y hy => hs y (i1 y hy)
      have hLu : unionL L = 2 ^ G - 1 := by
        have := union_bd G L hLb 0 (by omega) (by omega)
        exact sub_full this.1 this.2 i2
      have hopt := covI_opt l hasc hm L L.length (2 ^ G - 1) (by omega) (by omega) i1 i2 (Nat.le_refl _)
      obtain ⟨k, x, hk, hfx, hfirst⟩ := firstK_at (fun k => covI l k (2 ^ G - 1)) (G + 1) 0 L.length (Nat.zero_le _) (by omega) hopt
      have hso : smallOf G l = some x := by
        unfold smallOf
        rw [if_pos hf, Int.toNat_natCast, ← first_eq l _ (by omega)]
        exact hfirst
      have hsL : smallL G l = x := by unfold smallL; rw [hso]; rfl
      have hsB : smallB G l = true := by unfold smallB; rw [hso]; rfl
      have hxl := covI_len l k _ x hfx
      have hxb : ∀ y ∈ x, 0 ≤ y ∧ y < (2 : Int) ^ G := fun y hy => hs y (hxl.2 y hy)
      have hxu : unionL x = 2 ^ G - 1 := by
        have h3 := union_bd G x hxb 0 (by omega) (by omega)
        refine sub_full h3.1 h3.2 ?_
        exact covI_has l k _ x (unionL x) hm (by omega) (by omega) hfx (fun y hy => (sub_union x (fun z hz => by have := hxb z hz; omega) y hy).2)
      have hcov : ∀ X : List Int, (∀ y ∈ X, y ∈ l) → unionL X = 2 ^ G - 1 → isCoverB G l X = true := fun X h1 h2 => by
        unfold isCoverB
        rw [hf, Int.toNat_natCast, h2]
        have : X.all (has l) = true := List.all_eq_true.2 (fun y hy => has_true.2 (h1 y hy))
        rw [this]; simp
      exact ⟨by rw [hgB, hsB], fun _ => by rw [hgL]; exact hcov L i1 hLu, fun _ => by rw [hsL]; exact hcov x hxl.2 hxu, fun _ => by rw [hsL, hgL]; omega⟩
    · have h2 : smallB G l = false := by unfold smallB; rw [small_none hf (by rw [Int.toNat_natCast]; exact hu)]; rfl
      have h1 : greedyB G l = false := by
        cases hb : greedyB G l with
        | false => rfl
        | true =>
          exfalso
          apply hu
          unfold greedyB greedyOf at hb
          rw [if_pos hf] at hb
          obtain ⟨L, hL⟩ := Option.isSome_iff_exists.1 hb
          rw [Int.toNat_natCast] at hL
          obtain ⟨i1, i2, _⟩ := greedyRun_in l hm L 64 (2 ^ G - 1) (by omega) (by omega) hL
          have h3 := union_bd G l hs 0 (by omega) (by omega)
          refine sub_full h3.1 h3.2 ?_
          have h4 := greedy_in l hm 64 (2 ^ G - 1) L (by omega) (by omega) hL
          exact h4
      exact ⟨by rw [h1, h2], by simp [h1], by simp [h1], by simp [h1]⟩

/-! the sums -/
def sumI (l : List Int) : Int := l.foldl (· + ·) 0
theorem wt_sum (g : Nat) (hg : g ≤ 6) (p : List Int) (h : p.length = g) : wtE p (2 ^ g - 1) = sumI p := by
  subst h
  have hb := fun e (he : e < 6) => full_bits p.length (by omega) e he
  unfold wtE cellE
  rw [hb 0 (by decide), hb 1 (by decide), hb 2 (by decide), hb 3 (by decide), hb 4 (by decide), hb 5 (by decide)]
  match p, hg with
  | [], _ => simp [sumI]
  | [a], _ => simp [sumI]
  | [a, b], _ => simp [sumI]
  | [a, b, c], _ => simp [sumI]
  | [a, b, c, d], _ => simp [sumI]
  | [a, b, c, d, e], _ => simp [sumI]
  | [a, b, c, d, e, f], _ => simp [sumI]
  | _ :: _ :: _ :: _ :: _ :: _ :: _ :: _, h => simp at h
theorem wt_or (p : List Int) (h : ∀ e, 0 ≤ p.getD e 0) (a b : Nat) : wtE p (a ||| b) ≤ wtE p a + wtE p b := by
  have k : ∀ e, cellE p (a ||| b) e ≤ cellE p a e + cellE p b e := fun e => by
    unfold cellE
    rw [nbit_or]
    have := h e
    cases nbit a e <;> cases nbit b e <;> simp only [Bool.or_self, Bool.or_true, Bool.true_or, if_true, if_false, Bool.false_eq_true] <;> omega
  unfold wtE
  have := k 0; have := k 1; have := k 2; have := k 3; have := k 4; have := k 5
  omega
theorem wt_union (p : List Int) (h : ∀ e, 0 ≤ p.getD e 0) (H : Int) : ∀ (X : List Int) (z : Int), (∀ y ∈ X, wtE p y.toNat ≤ H) → wtE p (X.foldl ior z).toNat ≤ wtE p z.toNat + H * X.length := by
  intro X
  induction X with
  | nil => intro z _; simp
  | cons a X ih =>
    intro z hX
    rw [List.foldl_cons]
    have h1 := ih (ior z a) (fun y hy => hX y (by simp [hy]))
    have h2 : (ior z a).toNat = z.toNat ||| a.toNat := by unfold ior; rw [Int.toNat_natCast]
    have h3 := wt_or p h z.toNat a.toNat
    have h4 := hX a (by simp)
    rw [h2] at h1
    rw [List.length_cons]
    push_cast
    rw [Int.mul_add]
    omega
theorem harm_mono (a b : Nat) (h : a ≤ b) : harm a ≤ harm b := by
  induction h with
  | refl => exact Int.le_refl _
  | step h ih =>
    simp only [harm]
    have : 0 ≤ 60 / ((↑‹Nat› : Int) + 1) := Int.ediv_nonneg (by omega) (by omega)
    omega
structure PriceSums (g : Int) (l : List Int) : Prop where
  total : sumI (pricesL g l) = 60 * (greedyL g l).length
  pays : ∀ s ∈ l, wtE (pricesL g l) s.toNat ≤ harm (pop s.toNat)
  bound : 60 * ((greedyL g l).length : Int) ≤ harm (largestOf g l).toNat * (smallL g l).length
  size : 0 ≤ largestOf g l ∧ largestOf g l ≤ 6
  pos : ∀ e, 0 ≤ (pricesL g l).getD e 0
  top : ∀ e, (pricesL g l).getD e 0 ≤ 60
  len : (pricesL g l).length = g.toNat
theorem price_sums (g : Int) (l : List Int) (hgr : greedyB g l = true) : PriceSums g l := by
  have hf := greedyB_fam hgr
  have PF := price_facts g l
  obtain ⟨h0, h6, hs, hasc⟩ := famOk hf
  obtain ⟨G, rfl⟩ := Int.eq_ofNat_of_zero_le h0
  have hG : G ≤ 6 := by omega
  have hp := two_pow G 6 hG
  have hp1 : (2 : Int) ^ G ≤ 64 := by simpa using hp.1
  have hp2 := hp.2
  have hm := fam_mem hf
  rw [Int.toNat_natCast] at hs
  obtain ⟨L, hL⟩ : ∃ L, greedyRun l 64 (2 ^ G - 1) = some L := by
    have := hgr
    unfold greedyB greedyOf at this
    rw [if_pos hf, Int.toNat_natCast] at this
    exact Option.isSome_iff_exists.1 this
  have hgL : greedyL G l = L := by unfold greedyL greedyOf; rw [if_pos hf, Int.toNat_natCast, hL]; rfl
  have I := inv_all G hG l L hs hL L.length (Nat.le_refl _)
  have hpr : pricesL G l = (prTo G L L.length).1 := by unfold pricesL; rw [if_pos hgr, hgL, Int.toNat_natCast]
  have hleft : (prTo G L L.length).2 = 0 := by
    have := I.run
    rw [List.drop_length] at this
    exact greedyRun_nil this
  have hpay : ∀ s ∈ l, wtE (pricesL G l) s.toNat ≤ harm (pop s.toNat) := fun s hs => by
    have := I.pay s hs
    rw [hleft] at this
    rw [hpr]
    simp only [Int.toNat_zero, Nat.and_zero, pop_zero, harm] at this
    omega
  have hlen : (pricesL G l).length = G := by rw [hpr]; exact I.len
  have hpos : ∀ e, 0 ≤ (pricesL G l).getD e 0 := fun e => by rw [hpr]; exact I.pos e
  have htot : sumI (pricesL G l) = 60 * (greedyL G l).length := by
    rw [← wt_sum G hG _ hlen, hgL, hpr]; exact I.tot
  have hbig : ∀ (T : List Int) (z : Int), z ≤ T.foldl bigF z ∧ ∀ s ∈ T, ipop s ≤ T.foldl bigF z := by
    intro T
    induction T with
    | nil => intro z; exact ⟨Int.le_refl _, by simp⟩
    | cons a T ih =>
      intro z
      rw [List.foldl_cons]
      obtain ⟨h1, h2⟩ := ih (bigF z a)
      have h3 : z ≤ bigF z a ∧ ipop a ≤ bigF z a := by unfold bigF; omega
      refine ⟨by omega, fun s hs => ?_⟩
      rcases List.mem_cons.1 hs with rfl | hs
      · omega
      · exact h2 s hs
  have hbig6 : ∀ (T : List Int) (z : Int), z ≤ 6 → (∀ s ∈ T, ipop s ≤ 6) → T.foldl bigF z ≤ 6 := by
    intro T
    induction T with
    | nil => intro z h _; exact h
    | cons a T ih =>
      intro z h hT
      rw [List.foldl_cons]
      exact ih _ (by have := hT a (by simp); unfold bigF; omega) (fun s hs => hT s (by simp [hs]))
  have hlo : largestOf G l = l.foldl bigF 0 := by unfold largestOf; rw [if_pos hf]
  have hpop6 : ∀ s ∈ l, ipop s ≤ 6 := fun s hs => by
    have := hm s hs
    have := pop_bd6 s.toNat (by omega)
    unfold ipop; omega
  have hsz : 0 ≤ largestOf G l ∧ largestOf G l ≤ 6 := by
    rw [hlo]
    exact ⟨(hbig l 0).1, hbig6 l 0 (by omega) hpop6⟩
  have hcov := PF.small hgr
  unfold isCoverB at hcov
  simp only [Bool.and_eq_true, beq_iff_eq, List.all_eq_true, Int.toNat_natCast] at hcov
  have hH : ∀ y ∈ smallL G l, wtE (pricesL G l) y.toNat ≤ harm (largestOf G l).toNat := fun y hy => by
    have hyl := has_true.1 (hcov.1.2 y hy)
    refine Int.le_trans (hpay y hyl) (harm_mono _ _ ?_)
    have := (hbig l 0).2 y hyl
    rw [← hlo] at this
    unfold ipop at this
    omega
  have hb := wt_union (pricesL G l) hpos _ (smallL G l) 0 hH
  have hun : (smallL G l).foldl ior 0 = 2 ^ G - 1 := hcov.2
  rw [hun, two_pow_nat, wt_sum G hG _ hlen, htot] at hb
  have hw0 : wtE (pricesL G l) (0 : Int).toNat = 0 := by
    have : ∀ e, cellE (pricesL G l) (0 : Int).toNat e = 0 := fun e => by
      unfold cellE
      rw [nbit_tb, Int.toNat_zero, Nat.zero_testBit]
      rfl
    unfold wtE
    rw [this, this, this, this, this, this]; rfl
  exact ⟨htot, hpay, by omega, hsz, hpos, fun e => by rw [hpr]; exact I.top e, by rw [hlen]; rfl⟩
end Go.Proofs.YtelmokapdkepbaaGreatDoor
end
