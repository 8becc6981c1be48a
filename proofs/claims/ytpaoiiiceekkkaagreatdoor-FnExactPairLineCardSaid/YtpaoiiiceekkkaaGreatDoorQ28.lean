/- Bases, circuits and flats of matroids: what is computed. Largest unions and common bases of matroids: what is computed. Rows of texts that the call has made: append, join, contains. -/
import Derived.Test.YtpaoiiiceekkkaaGreatDoorQ27
import Derived.Laws.AppendOwn
import Derived.OwnWalk
section
namespace Go.Proofs.YtpaoiiiceekkkaaGreatDoor
open Go.RowKit Go.G5

theorem pop_none : ∀ s : Nat, s < 32 → pop s = 0 → s = 0 := by decide +kernel
theorem pop_some : ∀ s : Nat, s < 32 → 0 < pop s → ∃ e, e < 5 ∧ (s.testBit e = true ∧ ∃ t, t < 32 ∧ (s = setBit t e ∧ t.testBit e = false ∧ pop s = pop t + 1)) := by decide +kernel
theorem rank_poly {n : Int} {l : List Int} (h : rankB n l = true) : polyB n l = true := by
  unfold rankB at h
  simp only [Bool.and_eq_true] at h
  exact h.1
theorem rank_fun {n : Int} {l : List Int} (h : rankB n l = true) : isFunB n l = true := poly_fun (rank_poly h)
/-- of a matroid's rank: no set has more than its size -/
theorem rank_le {N : Nat} {l : List Int} (h : rankB N l = true) : ∀ s, s < 2 ^ N → l.getD s 0 ≤ (pop s : Int) := by
  have hp := rank_poly h
  have hf := rank_fun h
  obtain ⟨_, hN, h5, hl2, hl32, hlb⟩ := fun_nat hf
  have hN := Int.ofNat.inj hN
  subst hN
  have hs : subB N l = true := by unfold polyB at hp; simp only [Bool.and_eq_true] at hp; exact hp.2
  have h0 : l.getD 0 0 = 0 := by
    unfold polyB isGrB at hp
    simp only [Bool.and_eq_true, decide_eq_true_eq] at hp
    exact hp.1.1.2
  have h1 : ∀ e, e < N → l.getD (2 ^ e) 0 ≤ 1 := fun e he => by
    unfold rankB at h
    simp only [Bool.and_eq_true, Int.toNat_natCast] at h
    have := allTo_iff.1 h.2 e he
    unfold oneB at this
    simp only [Bool.not_eq_true', decide_eq_false_iff_not] at this
    omega
  have hex := (sub_iff N l hf).1 hs
  have hneg : ∀ s i k : Nat, s < 2 ^ N → i < k → k < N → nbit s i = false → nbit s k = false → 0 ≤ exL (negL l) s i k := fun s i k a b c d e => by
    rw [exL_neg]
    have := hex s i k a b c d e
    omega
  have hgl : ∀ s e, gainL (negL l) s e = - gainL l s e := fun s e => by
    unfold gainL
    rw [negL_getD, negL_getD]; omega
  have hstep : ∀ s e, s < 2 ^ N → e < N → s.testBit e = false → l.getD (setBit s e) 0 ≤ l.getD s 0 + 1 := fun s e a b c => by
    have g1 := gain_mono N (negL l) hneg 0 s e a b (fun j hj => by simp at hj) c
    rw [hgl, hgl] at g1
    have g2 := h1 e b
    have e0 : setBit 0 e = 2 ^ e := by unfold setBit; simp
    unfold gainL at g1
    rw [e0] at g1
    omega
  have key : ∀ m s, pop s = m → s < 2 ^ N → l.getD s 0 ≤ (m : Int) := by
    intro m
    induction m with
    | zero =>
      intro s hps hsN
      have p5 : (2 : Nat) ^ N ≤ 32 := Nat.pow_le_pow_right (n := 2) (by decide) h5
      have : s = 0 := pop_none s (by omega) hps
      subst this
      rw [h0]; simp
    | succ m ih =>
      intro s hps hsN
      have p5 : (2 : Nat) ^ N ≤ 32 := Nat.pow_le_pow_right (n := 2) (by decide) h5
      obtain ⟨e, he, hb, t, _, ht, htb, hpt⟩ := pop_some s (by omega) (by omega)
      have heN : e < N := by
        rcases Nat.lt_or_ge e N with h | h
        · exact h
        · have := Nat.testBit_lt_two_pow (Nat.lt_of_lt_of_le hsN (Nat.pow_le_pow_right (by decide) h))
          rw [this] at hb; cases hb
      have htN : t < 2 ^ N := by rw [ht] at hsN; exact Nat.lt_of_le_of_lt (by unfold setBit; exact Nat.left_le_or) hsN
      have h2 := ih t (by omega) htN
      have h3 := hstep t e htN heN htb
      rw [← ht] at h3
      omega
  exact fun s hs => key (pop s) s rfl hs

def topL (l : List Int) : Int := l.getD (l.length - 1) 0
def basP (l : List Int) (s : Nat) : Bool := freeB l s && decide (l.getD s 0 = topL l)
def cirP (l : List Int) (s : Nat) : Bool := !freeB l s
def matN (n : Int) (l : List Int) : Int := if rankB n l then n else 0
def basL (n : Int) (l : List Int) : List Int := if rankB n l then chosen (basP l) l.length else []
def cirL (n : Int) (l : List Int) : List Int := if rankB n l then minL (chosen (cirP l) l.length) else []
theorem basP_is (l : List Int) (s : Nat) : basP l s = (decide (l.getD s 0 = topL l) && decide ((pop s : Int) = topL l)) := by
  unfold basP freeB
  by_cases h1 : l.getD s 0 = topL l
  · rw [decide_eq_true h1, Bool.and_true, Bool.true_and, h1]
    by_cases h2 : topL l = (pop s : Int)
    · rw [decide_eq_true h2, decide_eq_true h2.symm]
    · rw [decide_eq_false h2, decide_eq_false (fun e => h2 e.symm)]
  · rw [decide_eq_false h1, Bool.and_false, Bool.false_and]
theorem cirP_is {N : Nat} {l : List Int} (h : rankB N l = true) (s : Nat) (hs : s < 2 ^ N) : cirP l s = decide (l.getD s 0 < (pop s : Int)) := by
  have h1 := rank_le h s hs
  unfold cirP freeB
  by_cases h2 : l.getD s 0 = (pop s : Int)
  · rw [decide_eq_true h2, decide_eq_false (by omega)]; rfl
  · rw [decide_eq_false h2, decide_eq_true (by omega)]; rfl
theorem chosen_same (P Q : Nat → Bool) : ∀ k, (∀ s, s < k → P s = Q s) → chosen P k = chosen Q k
  | 0, _ => rfl
  | k + 1, h => by rw [chosen_succ, chosen_succ, chosen_same P Q k (fun s hs => h s (by omega)), h k (by omega)]
/-- a set to which no other element can be added without adding to the value -/
def flatB (l : List Int) (n s : Nat) : Bool := allTo (fun e => nbit s e || !(gainL l s e == 0)) n
def flaL (n : Int) (l : List Int) : List Int := if polyB n l then chosen (flatB l n.toNat) l.length else []
/-- of a polymatroid: no value is negative -/
theorem poly_ge {N : Nat} {l : List Int} (hp : polyB N l = true) : ∀ s, s < 2 ^ N → 0 ≤ l.getD s 0 := by
  have hf := poly_fun hp
  obtain ⟨_, hN, h5, hl2, hl32, hlb⟩ := fun_nat hf
  have hN := Int.ofNat.inj hN
  subst hN
  have h0 : l.getD 0 0 = 0 := by
    unfold polyB isGrB at hp
    simp only [Bool.and_eq_true, decide_eq_true_eq] at hp
    exact hp.1.1.2
  have hinc : ∀ s e, s < 2 ^ N → e < N → l.getD s 0 ≤ l.getD (setBit s e) 0 := fun s e hs he => by
    unfold polyB incB at hp
    simp only [Bool.and_eq_true, Int.toNat_natCast] at hp
    have h1 := allTo_iff.1 hp.1.2.2 s (by rw [hl2]; exact hs)
    have h2 := allTo_iff.1 h1 e he
    unfold upB gainL at h2
    simp only [Bool.not_eq_true', decide_eq_false_iff_not] at h2
    omega
  have key : ∀ m s, pop s = m → s < 2 ^ N → 0 ≤ l.getD s 0 := by
    intro m
    induction m with
    | zero =>
      intro s hps hsN
      have p5 : (2 : Nat) ^ N ≤ 32 := Nat.pow_le_pow_right (n := 2) (by decide) h5
      have : s = 0 := pop_none s (by omega) hps
      subst this
      rw [h0]; simp
    | succ m ih =>
      intro s hps hsN
      have p5 : (2 : Nat) ^ N ≤ 32 := Nat.pow_le_pow_right (n := 2) (by decide) h5
      obtain ⟨e, he, hb, t, _, ht, htb, hpt⟩ := pop_some s (by omega) (by omega)
      have heN : e < N := by
        rcases Nat.lt_or_ge e N with h | h
        · exact h
        · have := Nat.testBit_lt_two_pow (Nat.lt_of_lt_of_le hsN (Nat.pow_le_pow_right (by decide) h))
          rw [this] at hb; cases hb
      have htN : t < 2 ^ N := by rw [ht] at hsN; exact Nat.lt_of_le_of_lt (by unfold setBit; exact Nat.left_le_or) hsN
      have h2 := ih t (by omega) htN
      have h3 := hinc t e htN heN
      rw [← ht] at h3
      omega
  exact fun s hs => key (pop s) s rfl hs
/-- the closure, in one pass -/
def cloTo (l : List Int) (s : Nat) : Nat → Nat
  | 0 => s
  | k + 1 => if gainL l s k = 0 then setBit (cloTo l s k) k else cloTo l s k
theorem cloTo_tb (l : List Int) (s j : Nat) : ∀ k, (cloTo l s k).testBit j = (s.testBit j || (decide (j < k) && decide (gainL l s j = 0)))
  | 0 => by simp [cloTo]
  | k + 1 => by
    rw [cloTo]
    by_cases hg : gainL l s k = 0
    · rw [if_pos hg, tb_setBit, cloTo_tb l s j k]
      by_cases hj : k = j
      · subst hj
        rw [decide_eq_true (show k < k + 1 by omega), decide_eq_true hg]; simp
      · rw [decide_eq_false hj, Bool.or_false]
        by_cases h : j < k
        · rw [decide_eq_true h, decide_eq_true (show j < k + 1 by omega)]
        · rw [decide_eq_false h, decide_eq_false (show ¬ j < k + 1 by omega)]
    · rw [if_neg hg, cloTo_tb l s j k]
      by_cases hj : k = j
      · subst hj
        rw [decide_eq_false hg]; simp
      · by_cases h : j < k
        · rw [decide_eq_true h, decide_eq_true (show j < k + 1 by omega)]
        · rw [decide_eq_false h, decide_eq_false (show ¬ j < k + 1 by omega)]
theorem cloTo_lt (l : List Int) (s N : Nat) (hs : s < 2 ^ N) : ∀ k, k ≤ N → cloTo l s k < 2 ^ N
  | 0, _ => hs
  | k + 1, h => by
    rw [cloTo]
    split
    · exact setBit_lt _ _ _ (cloTo_lt l s N hs k (by omega)) (by omega)
    · exact cloTo_lt l s N hs k (by omega)
theorem cloTo_flat (l : List Int) (s n : Nat) : decide (cloTo l s n = s) = flatB l n s := by
  cases hf : flatB l n s with
  | true =>
    refine decide_eq_true (Nat.eq_of_testBit_eq fun j => ?_)
    rw [cloTo_tb]
    by_cases hj : j < n
    · have := allTo_iff.1 hf j hj
      simp only [Bool.or_eq_true, Bool.not_eq_true', beq_eq_false_iff_ne] at this
      rcases this with h | h
      · rw [nbit_tb] at h; rw [h]; rfl
      · rw [decide_eq_false h]; simp
    · rw [decide_eq_false hj]; simp
  | false =>
    refine decide_eq_false (fun he => ?_)
    have : flatB l n s = true := allTo_iff.2 fun j hj => by
      have h1 := cloTo_tb l s j n
      rw [he, decide_eq_true hj, Bool.true_and] at h1
      by_cases hg : gainL l s j = 0
      · rw [decide_eq_true hg, Bool.or_true] at h1
        rw [nbit_tb, h1]; rfl
      · simp [hg]
    rw [this] at hf; cases hf
theorem flat_not {l : List Int} {n s e : Nat} (he : e < n) (h1 : nbit s e = false) (h2 : gainL l s e = 0) : flatB l n s = false := by
  cases hf : flatB l n s with
  | false => rfl
  | true =>
    have := allTo_iff.1 hf e he
    rw [h1, h2] at this
    simp at this
theorem setBit_gt (s e : Nat) (h : nbit s e = false) : s < setBit s e := by
  have h1 : s ≤ setBit s e := by unfold setBit; exact Nat.left_le_or
  rcases Nat.lt_or_eq_of_le h1 with h2 | h2
  · exact h2
  · have h3 := tb_setBit s e e
    rw [← h2, ← nbit_tb, h] at h3
    simp at h3
end Go.Proofs.YtpaoiiiceekkkaaGreatDoor
end
section
namespace Go.Proofs.YtpaoiiiceekkkaaGreatDoor
open Go.RowKit Go.G5

/-- t is a part of s that is free in the first, and the rest is free in the second -/
def partP (l k : List Int) (s t : Nat) : Bool := (ndiff t s == 0) && (freeB l t && freeB k (ndiff s t))
def noPart (l k : List Int) (s m : Nat) : Bool := allTo (fun t => !partP l k s t) m
def uniB (l k : List Int) (s : Nat) : Bool := !noPart l k s (s + 1)
theorem noPart_succ (l k : List Int) (s m : Nat) : noPart l k s (m + 1) = (noPart l k s m && !partP l k s m) := rfl
theorem uni_hit {l k : List Int} {s t : Nat} (h : t ≤ s) (hp : partP l k s t = true) : uniB l k s = true := by
  unfold uniB noPart
  rw [allTo_false (k := t) (by omega) (by rw [hp]; rfl)]; rfl
/-- the first of the largest sets that are wanted, below t -/
def luTo (P : Nat → Bool) : Nat → Nat
  | 0 => 0
  | t + 1 => if decide (pop (luTo P t) < pop t) && P t then t else luTo P t
theorem luTo_succ (P : Nat → Bool) (t : Nat) : luTo P (t + 1) = if decide (pop (luTo P t) < pop t) && P t then t else luTo P t := rfl
theorem luTo_lt (P : Nat → Bool) : ∀ t, 0 < t → luTo P t < t := by
  intro t
  induction t with
  | zero => intro h; omega
  | succ t ih =>
    intro _
    rw [luTo]
    split
    · omega
    · rcases Nat.eq_zero_or_pos t with rfl | h
      · simp [luTo]
      · have := ih h; omega
theorem luTo_le (P : Nat → Bool) (t : Nat) : luTo P t ≤ t := by
  rcases Nat.eq_zero_or_pos t with rfl | h
  · exact Nat.le_refl _
  · exact Nat.le_of_lt (luTo_lt P t h)
theorem luTo_one (P : Nat → Bool) : luTo P 1 = 0 := by have := luTo_lt P 1 (by omega); omega
def luS (n : Int) (l : List Int) (m : Int) (k : List Int) : Int := if comB n l m k then (luTo (uniB l k) l.length : Int) else 0
def cbaP (l k : List Int) (s : Nat) : Bool := basP l s && basP k s
def cbaN (n : Int) (l : List Int) (m : Int) (k : List Int) : Int := if comB n l m k then n else 0
def cbaL (n : Int) (l : List Int) (m : Int) (k : List Int) : List Int := if comB n l m k then chosen (cbaP l k) l.length else []
theorem part_sub : ∀ s : Nat, s < 32 → ∀ t : Nat, t < 32 → ((t &&& s == t) = (ndiff t s == 0)) := by decide +kernel
theorem sub_part : ∀ s : Nat, s < 32 → ∀ t : Nat, t < 32 → (t &&& s = t → ndiff s t = s - t ∧ t ≤ s) := by decide +kernel
theorem com_rank {n m : Int} {l k : List Int} (h : comB n l m k = true) : rankB n l = true ∧ rankB m k = true := by
  unfold comB at h
  simp only [Bool.and_eq_true] at h
  exact h.1
theorem mem_chosen (P : Nat → Bool) (k s : Nat) : (s : Int) ∈ chosen P k ↔ (s < k ∧ P s = true) := by
  unfold chosen
  constructor
  · intro h
    obtain ⟨t, ht, he⟩ := List.mem_map.1 h
    have := Int.ofNat.inj he
    subst this
    have h1 := List.mem_filter.1 ht
    exact ⟨List.mem_range.1 h1.1, h1.2⟩
  · rintro ⟨h1, h2⟩
    exact List.mem_map.2 ⟨s, List.mem_filter.2 ⟨List.mem_range.2 h1, h2⟩, rfl⟩
theorem has_chosen (P : Nat → Bool) (k s : Nat) : has (chosen P k) (s : Int) = (decide (s < k) && P s) := by
  unfold has
  by_cases h1 : s < k
  · rw [decide_eq_true h1, Bool.true_and]
    cases h2 : P s with
    | true => exact decide_eq_true ((mem_chosen P k s).2 ⟨h1, h2⟩)
    | false => exact decide_eq_false (fun h => by have := ((mem_chosen P k s).1 h).2; rw [h2] at this; cases this)
  · rw [decide_eq_false h1, Bool.false_and]
    exact decide_eq_false (fun h => h1 ((mem_chosen P k s).1 h).1)
theorem filter_chosen (P Q : Nat → Bool) (k : Nat) : (chosen P k).filter (has (chosen Q k)) = chosen (fun s => P s && Q s) k := by
  have e : chosen P k = ((List.range k).filter P).map Int.ofNat := rfl
  rw [e, List.filter_map, List.filter_filter]
  show _ = ((List.range k).filter _).map Int.ofNat
  congr 1
  refine List.filter_congr (fun s hs => ?_)
  have hs' := List.mem_range.1 hs
  have h1 := has_chosen Q k s
  rw [decide_eq_true hs', Bool.true_and] at h1
  show (has (chosen Q k) (s : Int) && P s) = (P s && Q s)
  rw [h1, Bool.and_comm]
theorem take_filter (p : Int → Bool) (L : List Int) (k : Nat) (h : k < L.length) : (L.take (k + 1)).filter p = (L.take k).filter p ++ (if p L[k] then [L[k]] else []) := by
  rw [List.take_succ_eq_append_getElem h, List.filter_append]
  congr 1
  cases hp : p L[k] <;> simp [hp]
end Go.Proofs.YtpaoiiiceekkkaaGreatDoor
end
section
namespace Go.G5
open Go Go.RowKit
structure StrElem (P : Program) (E : TypeId) : Prop where
  info : (P.info? E).map (fun i => (i.zero, i.size, i.bytes)) = some (some (.string ByteArray.empty), 1, 16)
theorem StrElem.get {P : Program} {E : TypeId} (h : StrElem P E) : ∃ i, P.info? E = some i ∧ i.zero = some (.string ByteArray.empty) ∧ i.size = 1 ∧ i.bytes = 16 := info_parts h.info
/-- the slice value v owns a row from block B on that reads as the texts xs -/
def OwnS (E : TypeId) (B : Nat) (w : World) (v : Value) (xs : List ByteArray) : Prop := w.ownsRow B E 1 v xs.length (xs.map Value.string)
theorem OwnS.nil (E : TypeId) (B : Nat) (w : World) : OwnS E B w (.slice none 0 0) [] := World.ownsRow_nil _ _ _ _
theorem OwnS.below {E : TypeId} {B B' : Nat} {w w' : World} {v : Value} {l : List ByteArray} (h : OwnS E B w v l) (hb : Below B' w w') (hB : w.heap.size ≤ B') : OwnS E B w' v l := by
  obtain ⟨h0, h1⟩ := h
  refine ⟨h0, ?_⟩
  rcases h1 with h1 | ⟨g, cap, cur, rfl, hBg, hg, r⟩
  · exact .inl h1
  · exact .inr ⟨g, cap, cur, rfl, hBg, by rw [hb.block g (by have := (Array.getElem?_eq_some_iff.1 hg).1; omega)]; exact hg, r⟩
theorem OwnS.keep {E : TypeId} {B : Nat} {W w1 : World} {v : Value} {l : List ByteArray} (h : OwnS E B W v l) (hb : Below W.heap.size W w1) : OwnS E B w1 v l := h.below hb (Nat.le_refl _)
theorem OwnS.alloc {E : TypeId} {B : Nat} {w : World} {v : Value} {l : List ByteArray} (h : OwnS E B w v l) (o : Obj) : OwnS E B (w.alloc o) v l := h.keep (bl1 w o)
theorem OwnS.drewN {E : TypeId} {B : Nat} {w : World} {v : Value} {l : List ByteArray} (h : OwnS E B w v l) (n : Nat) : OwnS E B (w.drewN n) v l := h.keep ((Below.refl w.heap.size w).drewN' n)
theorem OwnS.mono {E : TypeId} {B B' : Nat} {w : World} {v : Value} {l : List ByteArray} (h : OwnS E B w v l) (hB : B' ≤ B) : OwnS E B' w v l := by
  obtain ⟨h0, h1⟩ := h
  refine ⟨h0, ?_⟩
  rcases h1 with h1 | ⟨g, cap, cur, rfl, hBg, r⟩
  · exact .inl h1
  · exact .inr ⟨g, cap, cur, rfl, by omega, r⟩
theorem OwnS.lt {E : TypeId} {B : Nat} {w : World} {v : Value} {l : List ByteArray} (h : OwnS E B w v l) : ∀ k, v.ownBlock = some k → B ≤ k ∧ k < w.heap.size := World.ownsRow.lt h
theorem OwnS.grown {E : TypeId} {B : Nat} {w w' : World} {row : Option Nat} {v : Value} {l : List ByteArray} (h : OwnS E B w v l) (hg : w.grownBy w' row) (hne : v.ownBlock = none ∨ v.ownBlock ≠ row) : OwnS E B w' v l := World.ownsRow.kept h hg hne
theorem OwnS.lit {E : TypeId} {B : Nat} (w : World) (xs : List ByteArray) (n : Nat) (hn : n = xs.length) (hl : n ≤ maxLen) (hB : B ≤ w.heap.size) : OwnS E B (w.alloc (.cells (xs.map Value.string).toArray E)) (.slice (some ⟨w.heap.size, 0, none⟩) n n) xs := by
  subst hn
  have this : (w.alloc (.cells (xs.map Value.string).toArray E)).ownsRow B E 1 (.slice (some ⟨w.heap.size, 0, none⟩) xs.length xs.length) xs.length (xs.map Value.string).toArray.toList := World.ownsRow_lit w _ xs.length hB hl (by simp)
  simpa [OwnS] using this
/-- where the texts lie -/
theorem OwnS.at {E : TypeId} {B : Nat} {w : World} {v : Value} {xs : List ByteArray} (h : OwnS E B w v xs) : (∃ a c, v = .slice a 0 c ∧ xs = []) ∨ ∃ g c, v = .slice (some ⟨g, 0, none⟩) xs.length c ∧ xs.length ≤ c ∧ g < w.heap.size ∧ ∀ (j : Nat) x, xs[j]? = some x → w.cell? ⟨g, 0 + j, none⟩ = some (.string x) := by
  have h2 := h
  obtain ⟨h0, h1⟩ := h
  rcases h1 with ⟨rfl, hn⟩ | ⟨g, cap, cur, rfl, hB, hg, hn, hm, hcs, ht⟩
  · exact .inl ⟨none, 0, rfl, List.eq_nil_of_length_eq_zero hn⟩
  · refine .inr ⟨g, cap, rfl, hn, (Array.getElem?_eq_some_iff.1 hg).1, fun j x hx => ?_⟩
    have hj : j < xs.length := (List.getElem?_eq_some_iff.1 hx).1
    rw [Nat.zero_add, World.ownsRow.cellAt h2 j (by omega)]
    simp [hx]
theorem OwnS.shape3 {E : TypeId} {B : Nat} {w : World} {v : Value} {xs : List ByteArray} (h : OwnS E B w v xs) : ∃ a n c, v = .slice a n c := by
  rcases h.at with ⟨a, c, rfl, _⟩ | ⟨g, c, rfl, _⟩
  · exact ⟨_, _, _, rfl⟩
  · exact ⟨_, _, _, rfl⟩
/-- out = append(out, ys...), ys the texts of a fresh row -/
theorem wpList_appendT {P : Program} {w : World} {ops : Array Oper} {rest : List Oper} {o : Oper} {a : Act} {Q : Exit → Act → World → Prop} (hgd : o.guard = none) (s x : Operand) (t : TypeId)
    (ho : o.op = .call { callee := .builtin .append, args := #[s, x], argTypes := #[t, t] })
    (E : TypeId) (ht : P.underlying t = some (.slice E)) (hE : StrElem P E) (B : Nat) (v : Value) (l ys : List ByteArray) (b m c : Nat) (hs : a.eval s = v) (hx : a.eval x = .slice (some ⟨b, 0, none⟩) m c) (hm : m = ys.length)
    (hy : ∀ (j : Nat) y, ys[j]? = some y → w.cell? ⟨b, 0 + j, none⟩ = some (.string y))
    (hown : OwnS E B w v l) (hlen : l.length + ys.length < 1000000) (hB : B ≤ w.heap.size)
    (h : ∀ v' w', OwnS E B w' v' (l ++ ys) → w.grownBy w' v.ownBlock → wpList P ops Q rest (a.put o.dst v') w') : wpList P ops Q (o :: rest) a w := by
  obtain ⟨i, hi, hz, h1, h8⟩ := hE.get
  subst hm
  refine wpList_append_own w hgd s x t ho B E i (.string ByteArray.empty) 1 16 ht hi hz h1 h8 rfl (by decide) v l.length (l.map Value.string) hs hown ⟨b, 0, none⟩ ys.length c (ys.map Value.string) hx (by simp) ?_ ?_ ?_ ?_ hB ?_
  · intro j u hj
    rw [List.getElem?_map] at hj
    cases hq : ys[j]? with
    | none => rw [hq] at hj; cases hj
    | some y =>
      rw [hq] at hj
      cases hj
      have := hy j y hq
      have e : (⟨b, 0, none⟩ : Addr).add j = ⟨b, 0 + j, none⟩ := by
        unfold Addr.add
        by_cases hj0 : j = 0
        · subst hj0; simp
        · simp [hj0]
      rw [e]; exact this
  · intro u hu
    obtain ⟨y, _, rfl⟩ := List.mem_map.1 hu
    rfl
  · unfold maxLen; omega
  · omega
  · intro v' w' hown' hg _
    refine h v' w' ?_ hg
    simpa [OwnS] using hown'
/-- make([]string, 0, n) -/
theorem wpList_makeT {P : Program} {w : World} {ops : Array Oper} {rest : List Oper} {o : Oper} {a : Act} {Q : Exit → Act → World → Prop} (hg : o.guard = none) (x c : Operand) (t : TypeId) (hop : o.op = Op.makeSlice t x c)
    (E : TypeId) (ht : P.underlying t = some (.slice E)) (hE : StrElem P E) (n : Nat) (C : Int) (hl : a.eval x = .int .i64 0) (hc : a.eval c = .int .i64 C) (hC : C = (n : Int)) (hn : n ≤ 1000000)
    (hK : ∀ w', OwnS E w.heap.size w' (.slice (some ⟨w.heap.size, 0, none⟩) 0 n) [] → w.grownBy w' none → wpList P ops Q rest (a.put o.dst (.slice (some ⟨w.heap.size, 0, none⟩) 0 n)) w') : wpList P ops Q (o :: rest) a w := by
  obtain ⟨i, hi, hz, h1, h8⟩ := hE.get
  exact wpList_make_own w hg x c t hop w.heap.size E i (.string ByteArray.empty) 1 ht hi hz h1 .i64 .i64 C n hl hc hC (by rw [h8]; omega) (by unfold maxLen; omega) (Nat.le_refl _) hK
end Go.G5
namespace Go.Proofs.YtpaoiiiceekkkaaGreatDoor
open Go.RowKit Go.G5
theorem strElem : StrElem Tryz.prog 9 := ⟨by kernel_rfl⟩
/-- strings.Join of an own row -/
theorem join_own (B : Nat) (w : World) (v : Value) (xs : List ByteArray) (sep : ByteArray) (h : OwnS 9 B w v xs) (hlen : (joinB sep xs).size ≤ 100000000) (hn : xs.length ≤ 1000000) :
    Calls Tryz.prog 137 #[v, .string sep] w fun e w' => e = .returned (.string (joinB sep xs)) ∧ Below w.heap.size w w' := by
  rcases h.at with ⟨a, c, rfl, rfl⟩ | ⟨g, c, rfl, hc, hg, hcell⟩
  · refine (sh_strings_Join_none a c sep w).mono ?_
    rintro e w' ⟨rfl, rfl⟩
    exact ⟨rfl, Below.refl _ _⟩
  · refine (sh_strings_Join g 0 c xs sep w hcell hg (by omega) hc ?_).mono ?_
    · rw [ba_size] at hlen
      have : (joinB sep xs).data.toList = Lib.join (xs.map (·.data.toList)) sep.data.toList := rfl
      rw [← this]; omega
    · rintro e w' ⟨rfl, hb⟩
      exact ⟨rfl, hb⟩
end Go.Proofs.YtpaoiiiceekkkaaGreatDoor
end
