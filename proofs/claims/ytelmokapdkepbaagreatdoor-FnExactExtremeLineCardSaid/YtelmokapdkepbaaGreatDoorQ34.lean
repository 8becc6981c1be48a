/- Prices of a greedy cover: the sums, in plain words. -/
import Derived.Test.YtelmokapdkepbaaGreatDoorQ33
section
namespace Go.Proofs.YtelmokapdkepbaaGreatDoor
open Go.RowKit Go.G5

/-! bits -/
def b2 (b : Bool) : Int := if b then 1 else 0
def bsum (f : Nat → Bool) : Int := b2 (f 0) + b2 (f 1) + b2 (f 2) + b2 (f 3) + b2 (f 4) + b2 (f 5)
theorem pop_bits : ∀ y, y < 64 → (pop y : Int) = bsum (nbit y) := by decide +kernel
theorem nbit_tb (y e : Nat) : nbit y e = y.testBit e := by
  unfold nbit Nat.testBit
  rw [Nat.shiftRight_eq_div_pow, Nat.one_and_eq_mod_two]
  rcases Nat.mod_two_eq_zero_or_one (y / 2 ^ e) with h | h <;> rw [h] <;> rfl
theorem nbit_and (x y e : Nat) : nbit (x &&& y) e = (nbit x e && nbit y e) := by simp only [nbit_tb, Nat.testBit_and]
theorem nbit_or (x y e : Nat) : nbit (x ||| y) e = (nbit x e || nbit y e) := by simp only [nbit_tb, Nat.testBit_or]
theorem nbit_ndiff (x y e : Nat) (hx : x < 64) (hy : y < 64) : nbit (ndiff x y) e = (nbit x e && !nbit y e) := by simp only [nbit_tb]; exact ndiff_bit x y e hx hy
theorem b2_bd (b : Bool) : 0 ≤ b2 b ∧ b2 b ≤ 1 := by cases b <;> simp [b2]
theorem pop_bd6 (y : Nat) (h : y < 64) : pop y ≤ 6 := by
  have h1 := pop_bits y h
  unfold bsum at h1
  have := b2_bd (nbit y 0); have := b2_bd (nbit y 1); have := b2_bd (nbit y 2); have := b2_bd (nbit y 3); have := b2_bd (nbit y 4); have := b2_bd (nbit y 5)
  omega
theorem bsum_le (f f' : Nat → Bool) (h : ∀ e, f e = true → f' e = true) : bsum f ≤ bsum f' := by
  have k : ∀ e, b2 (f e) ≤ b2 (f' e) := fun e => by
    cases h1 : f e with
    | false => have := b2_bd (f' e); simpa [b2] using this.1
    | true => rw [h e h1]; simp
  unfold bsum
  have := k 0; have := k 1; have := k 2; have := k 3; have := k 4; have := k 5
  omega
/-- what is left of a set, and what of it is taken now, make what was left of it -/
theorem pop_split (s a c : Nat) (hs : s < 64) (ha : a < 64) (hc : c < 64) : (pop (s &&& ndiff a c) : Int) + pop (s &&& (c &&& a)) = pop (s &&& a) := by
  have h1 := and_lt s (ndiff a c) 64 hs
  have h2 := and_lt s (c &&& a) 64 hs
  have h3 := and_lt s a 64 hs
  rw [pop_bits _ h1, pop_bits _ h2, pop_bits _ h3]
  have k : ∀ e, b2 (nbit (s &&& ndiff a c) e) + b2 (nbit (s &&& (c &&& a)) e) = b2 (nbit (s &&& a) e) := fun e => by
    rw [nbit_and, nbit_ndiff a c e ha hc, nbit_and, nbit_and, nbit_and]
    cases nbit s e <;> cases nbit a e <;> cases nbit c e <;> decide
  unfold bsum
  have := k 0; have := k 1; have := k 2; have := k 3; have := k 4; have := k 5
  omega

/-! what a set pays -/
def cellE (p : List Int) (s e : Nat) : Int := if nbit s e then p.getD e 0 else 0
def wtE (p : List Int) (s : Nat) : Int := cellE p s 0 + cellE p s 1 + cellE p s 2 + cellE p s 3 + cellE p s 4 + cellE p s 5
theorem prS_at (o x : List Int) (p : Int) (hx : ∀ y ∈ x, 0 ≤ y) (e : Nat) (he : e < o.length) : ∀ k, k ≤ x.length → (prS o x p k).getD e 0 = if (e : Int) ∈ x.take k then p else o.getD e 0 := by
  intro k
  induction k with
  | zero => intro _; simp [prS]
  | succ k ih =>
    intro hk
    have ih := ih (by omega)
    rw [prS, List.take_succ_eq_append_getElem (show k < x.length by omega)]
    have hg : x.getD k 0 = x[k] := getD_at x k (by omega)
    have h0 := hx x[k] (List.getElem_mem _)
    rw [hg, List.getD_eq_getElem?_getD, List.getElem?_set]
    have hl : (prS o x p k).length = o.length := prS_len o x p k
    by_cases heq : x[k].toNat = e
    · have hm : (e : Int) = x[k] := by omega
      rw [if_pos heq, if_pos (by rw [hl, heq]; exact he), if_pos (List.mem_append_right _ (by rw [hm]; exact List.mem_singleton.2 rfl))]
      rfl
    · have hm : ¬ (e : Int) = x[k] := by omega
      have hiff : ((e : Int) ∈ x.take k ++ [x[k]]) ↔ (e : Int) ∈ x.take k := by
        rw [List.mem_append, List.mem_singleton]
        exact ⟨fun h => h.resolve_right hm, Or.inl⟩
      rw [if_neg heq, ← List.getD_eq_getElem?_getD, ih]
      simp only [hiff]
theorem elL_has (x : Int) (e : Nat) (he : e < 6) : ((e : Int) ∈ elL x) ↔ nbit x.toNat e = true := by
  unfold elL famOf chosen
  rw [List.mem_map]
  constructor
  · rintro ⟨y, hy, h⟩
    have h2 : y = e := Int.ofNat.inj h
    rw [← h2]
    exact (List.mem_filter.1 hy).2
  · intro h
    exact ⟨e, List.mem_filter.2 ⟨List.mem_range.2 he, h⟩, rfl⟩
theorem cell_round (p : List Int) (x q : Int) (s e : Nat) (he : e < 6) (hl : nbit x.toNat e = true → e < p.length) (hz : nbit x.toNat e = true → p.getD e 0 = 0) :
    cellE (prS p (elL x) q (elL x).length) s e = cellE p s e + q * b2 (nbit (s &&& x.toNat) e) := by
  unfold cellE
  rw [nbit_and]
  cases hs : nbit s e with
  | false => simp [b2]
  | true =>
    simp only [if_true, Bool.true_and]
    by_cases hp : e < p.length
    · rw [prS_at p (elL x) q (fun y hy => (elL_bd6 x y hy).1) e hp _ (Nat.le_refl _), List.take_length]
      cases hx : nbit x.toNat e with
      | false =>
        rw [if_neg (fun h => by rw [elL_has x e he, hx] at h; cases h)]
        simp [b2]
      | true =>
        rw [if_pos ((elL_has x e he).2 hx), hz hx]
        simp [b2]
    · have hx : nbit x.toNat e = false := by
        cases hx : nbit x.toNat e with
        | false => rfl
        | true => exact absurd (hl hx) hp
      rw [hx]
      have h1 : (prS p (elL x) q (elL x).length).getD e 0 = 0 := by rw [List.getD_eq_getElem?_getD, List.getElem?_eq_none (by rw [prS_len]; omega)]; rfl
      have h2 : p.getD e 0 = 0 := by rw [List.getD_eq_getElem?_getD, List.getElem?_eq_none (by omega)]; rfl
      rw [h1, h2]; simp [b2]
theorem wt_round (p : List Int) (x q : Int) (s : Nat) (hs : s < 64) (hl : ∀ e, e < 6 → nbit x.toNat e = true → e < p.length) (hz : ∀ e, e < 6 → nbit x.toNat e = true → p.getD e 0 = 0) :
    wtE (prS p (elL x) q (elL x).length) s = wtE p s + q * pop (s &&& x.toNat) := by
  have k := fun e (he : e < 6) => cell_round p x q s e he (hl e he) (hz e he)
  rw [pop_bits _ (and_lt s x.toNat 64 hs)]
  unfold wtE bsum
  rw [k 0 (by decide), k 1 (by decide), k 2 (by decide), k 3 (by decide), k 4 (by decide), k 5 (by decide)]
  simp only [Int.mul_add]
  omega
theorem harm_step0 : ∀ c : Nat, c < 7 → ∀ a : Nat, a < 7 → ∀ d : Nat, d < 7 → (!(decide (a ≤ c) && decide (d ≤ a) && decide (1 ≤ c)) || decide ((60 / (c : Int)) * (d : Int) ≤ harm a - harm (a - d))) = true := by decide +kernel
theorem harm_step (c : Nat) (hc : c < 7) (a : Nat) (ha : a < 7) (d : Nat) (hd : d < 7) (h1 : a ≤ c) (h2 : d ≤ a) (h3 : 1 ≤ c) : (60 / (c : Int)) * (d : Int) ≤ harm a - harm (a - d) := by
  have := harm_step0 c hc a ha d hd
  simpa [h1, h2, h3] using this
theorem sixty : ∀ c : Nat, c < 7 → 1 ≤ c → (60 / (c : Int)) * (c : Int) = 60 ∧ 0 ≤ 60 / (c : Int) := by decide +kernel
theorem full_bits : ∀ g, g < 7 → ∀ e, e < 6 → nbit (2 ^ g - 1) e = decide (e < g) := by decide +kernel
theorem lt_bit (g : Nat) (x e : Nat) (hx : x < 2 ^ g) (h : nbit x e = true) : e < g := by
  refine Classical.byContradiction fun hn => ?_
  have : (2 : Nat) ^ g ≤ 2 ^ e := Nat.pow_le_pow_right (by decide) (by omega)
  rw [nbit_tb, Nat.testBit_lt_two_pow (by omega)] at h
  cases h

/-- how prices stand when j sets are taken -/
structure PrInv (g : Nat) (l L : List Int) (j : Nat) (p : List Int) (left : Int) : Prop where
  run : greedyRun l (64 - j) left = some (L.drop j)
  bd : 0 ≤ left ∧ left < 2 ^ g
  len : p.length = g
  zero : ∀ e, e < 6 → nbit left.toNat e = true → p.getD e 0 = 0
  pos : ∀ e, 0 ≤ p.getD e 0
  top : ∀ e, p.getD e 0 ≤ 60
  tot : wtE p (2 ^ g - 1) = 60 * j
  pay : ∀ s ∈ l, wtE p s.toNat ≤ harm (pop s.toNat) - harm (pop (s.toNat &&& left.toNat))
theorem greedyRun_cons {l : List Int} {n : Nat} {left c : Int} {R : List Int} (h : greedyRun l n left = some (c :: R)) : ∃ m, n = m + 1 ∧ left ≠ 0 ∧ c = bestOf l left ∧ iand c left ≠ 0 ∧ greedyRun l m (idif left c) = some R := by
  cases n with
  | zero => simp only [greedyRun] at h; split at h <;> cases h
  | succ m =>
    simp only [greedyRun] at h
    split at h
    · cases h
    · rename_i h0
      split at h
      · cases h
      · rename_i h1
        cases hr : greedyRun l m (idif left (bestOf l left)) with
        | none => rw [hr] at h; cases h
        | some R' =>
          rw [hr] at h
          simp only [Option.map_some, Option.some.injEq, List.cons.injEq] at h
          obtain ⟨h2, h3⟩ := h
          subst h2 h3
          exact ⟨m, rfl, h0, rfl, h1, hr⟩
theorem greedyRun_nil {l : List Int} {n : Nat} {left : Int} (h : greedyRun l n left = some []) : left = 0 := by
  cases n with
  | zero =>
    simp only [greedyRun] at h
    split at h
    · assumption
    · cases h
  | succ m =>
    simp only [greedyRun] at h
    split at h
    · assumption
    · split at h
      · cases h
      · cases hr : greedyRun l m (idif left (bestOf l left)) with
        | none => rw [hr] at h; cases h
        | some R' => rw [hr] at h; cases h
theorem inv_step (g : Nat) (hg : g ≤ 6) (l L : List Int) (hl : ∀ s ∈ l, 0 ≤ s ∧ s < 64) (j : Nat) (hj : j < L.length) (p : List Int) (left : Int) (h : PrInv g l L j p left) :
    PrInv g l L (j + 1) (prS p (elL (iand (L.getD j 0) left)) (60 / ipop (iand (L.getD j 0) left)) (elL (iand (L.getD j 0) left)).length) (idif left (L.getD j 0)) := by
  have hd : L.drop j = L[j] :: L.drop (j + 1) := List.drop_eq_getElem_cons hj
  have hrun := h.run
  rw [hd] at hrun
  obtain ⟨m, hm, hne, hc, hx, hnext⟩ := greedyRun_cons hrun
  rw [getD_at L j hj]
  obtain ⟨c, hce⟩ : ∃ c, c = L[j] := ⟨_, rfl⟩
  rw [← hce] at hc hx hnext ⊢
  have hcb : 0 ≤ c ∧ c < 64 := by rw [hc]; exact best_bd l left hl
  have hbd := h.bd
  have hp6 : (2 : Int) ^ g ≤ 64 := (two_pow g 6 hg).1
  obtain ⟨x, hxe⟩ : ∃ x, x = iand c left := ⟨_, rfl⟩
  rw [← hxe] at hx ⊢
  have hxn : x.toNat = c.toNat &&& left.toNat := by rw [hxe]; unfold iand; rw [Int.toNat_natCast]
  have hx64 : x.toNat < 64 := by rw [hxn]; exact and_lt _ _ _ (by omega)
  have hxp : 0 ≤ x := by rw [hxe]; unfold iand; omega
  have hxg : x.toNat < 2 ^ g := by
    rw [hxn, Nat.and_comm]
    refine and_lt _ _ _ ?_
    have : ((2 : Int) ^ g) = ((2 ^ g : Nat) : Int) := by push_cast; rfl
    omega
  have hxbit : ∀ e, nbit x.toNat e = true → nbit left.toNat e = true := fun e he => by
    rw [hxn, nbit_and] at he
    simp only [Bool.and_eq_true] at he
    exact he.2
  have hwt := fun (s : Nat) (hs : s < 64) => wt_round p x (60 / ipop x) s hs (fun e _ hb => by rw [h.len]; exact lt_bit g _ e hxg hb) (fun e he hb => h.zero e he (hxbit e hb))
  have hpop : 0 < pop x.toNat := pop_pos x.toNat hx64 (by omega)
  have hpop6 := pop_bd6 x.toNat hx64
  have hip : ipop x = (pop x.toNat : Int) := rfl
  have hs60 := sixty (pop x.toNat) (by omega) (by omega)
  have hmax : ∀ s ∈ l, pop (s.toNat &&& left.toNat) ≤ pop x.toNat := fun s hs => by
    have h1 := (best_max left l 0).2 s hs
    have h2 : bestOf l left = l.foldl (betterF left) 0 := rfl
    rw [← h2, ← hc, ← hxe] at h1
    unfold ipop iand at h1
    rw [Int.toNat_natCast] at h1
    omega
  have hldn : (idif left c).toNat = ndiff left.toNat c.toNat := by unfold idif; rw [Int.toNat_natCast]
  refine ⟨?_, idif_bd _ _ _ hbd.1 hbd.2, by rw [prS_len, h.len], ?_, ?_, ?_, ?_, ?_⟩
  · rw [show 64 - (j + 1) = m by omega]; exact hnext
  · intro e he hb
    rw [hldn, nbit_ndiff _ _ _ (by omega) (by omega)] at hb
    simp only [Bool.and_eq_true, Bool.not_eq_true'] at hb
    have hlt : e < p.length := by
      rw [h.len]
      refine lt_bit g left.toNat e ?_ hb.1
      have : ((2 : Int) ^ g) = ((2 ^ g : Nat) : Int) := by push_cast; rfl
      omega
    rw [prS_at p (elL x) _ (fun y hy => (elL_bd6 x y hy).1) e hlt _ (Nat.le_refl _), List.take_length, if_neg ?_]
    · exact h.zero e he hb.1
    · intro hm2
      rw [elL_has x e he, hxn, nbit_and, hb.2] at hm2
      cases hm2
  · intro e
    by_cases hlt : e < p.length
    · rw [prS_at p (elL x) _ (fun y hy => (elL_bd6 x y hy).1) e hlt _ (Nat.le_refl _), List.take_length]
      split
      · rw [hip]; exact hs60.2
      · exact h.pos e
    · rw [List.getD_eq_getElem?_getD, List.getElem?_eq_none (by rw [prS_len]; omega)]; simp
  · intro e
    by_cases hlt : e < p.length
    · rw [prS_at p (elL x) _ (fun y hy => (elL_bd6 x y hy).1) e hlt _ (Nat.le_refl _), List.take_length]
      split
      · exact Int.ediv_le_self _ (by decide)
      · exact h.top e
    · rw [List.getD_eq_getElem?_getD, List.getElem?_eq_none (by rw [prS_len]; omega)]; simp
  · have hf : 2 ^ g - 1 < 64 := by
      have : (2 : Nat) ^ g ≤ 2 ^ 6 := Nat.pow_le_pow_right (by decide) hg
      omega
    rw [hwt _ hf, h.tot, hip]
    have : (2 ^ g - 1) &&& x.toNat = x.toNat := by rw [Nat.and_comm, Nat.and_two_pow_sub_one_eq_mod, Nat.mod_eq_of_lt hxg]
    rw [this, hs60.1]
    push_cast; omega
  · intro s hs
    have hsb := hl s hs
    rw [hwt _ (by omega), hip, hldn]
    have h1 := h.pay s hs
    have hsp := pop_split s.toNat left.toNat c.toNat (by omega) (by omega) (by omega)
    rw [← hxn] at hsp
    have ha := hmax s hs
    have hst := harm_step (pop x.toNat) (by omega) (pop (s.toNat &&& left.toNat)) (by omega) (pop (s.toNat &&& x.toNat)) (by omega) ha (by omega) (by omega)
    rw [show pop (s.toNat &&& left.toNat) - pop (s.toNat &&& x.toNat) = pop (s.toNat &&& ndiff left.toNat c.toNat) by omega] at hst
    omega
theorem wt_zero (p : List Int) (s : Nat) (h : ∀ e, p.getD e 0 = 0) : wtE p s = 0 := by
  have k : ∀ e, cellE p s e = 0 := fun e => by unfold cellE; rw [h e]; simp
  unfold wtE
  rw [k, k, k, k, k, k]; rfl
theorem inv_start (g : Nat) (hg : g ≤ 6) (l L : List Int) (hl : ∀ s ∈ l, 0 ≤ s ∧ s < 2 ^ g) (hr : greedyRun l 64 (2 ^ g - 1) = some L) : PrInv g l L 0 (List.replicate g 0) (2 ^ g - 1) := by
  have hz : ∀ e, (List.replicate g (0 : Int)).getD e 0 = 0 := fun e => by
    rw [List.getD_eq_getElem?_getD, List.getElem?_replicate]
    split <;> rfl
  have hp := two_pow g 6 hg
  refine ⟨by simpa using hr, by omega, by simp, fun e _ _ => hz e, fun e => by rw [hz e]; exact Int.le_refl _, fun e => by rw [hz e]; decide, by rw [wt_zero _ _ hz]; rfl, fun s hs => ?_⟩
  have hsb := hl s hs
  have hsn : s.toNat < 2 ^ g := by
    have : ((2 : Int) ^ g) = ((2 ^ g : Nat) : Int) := by push_cast; rfl
    omega
  rw [wt_zero _ _ hz, two_pow_nat, Nat.and_two_pow_sub_one_eq_mod, Nat.mod_eq_of_lt hsn]
  omega
theorem inv_all (g : Nat) (hg : g ≤ 6) (l L : List Int) (hl : ∀ s ∈ l, 0 ≤ s ∧ s < 2 ^ g) (hr : greedyRun l 64 (2 ^ g - 1) = some L) : ∀ j, j ≤ L.length → PrInv g l L j (prTo g L j).1 (prTo g L j).2 := by
  intro j
  induction j with
  | zero => intro _; exact inv_start g hg l L hl hr
  | succ j ih =>
    intro hj
    have hp := two_pow g 6 hg
    have hp1 : (2 : Int) ^ g ≤ 64 := by simpa using hp.1
    exact inv_step g hg l L (fun s hs => by have := hl s hs; omega) j (by omega) _ _ (ih (by omega))
end Go.Proofs.YtelmokapdkepbaaGreatDoor
end
