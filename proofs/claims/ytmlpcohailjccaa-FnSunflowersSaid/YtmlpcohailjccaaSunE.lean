/- Uniform families above the bound have a sunflower. -/
import Derived.Test.YtmlpcohailjccaaSunZ
namespace Go.Proofs.Ytmlpcohailjccaa
open Go.RowKit Go.G5

theorem sun1 (a : Int) : sunS [a] = true := by
  rw [sunS_iff]
  intro i hi k hk
  simp at hi
  omega
theorem sun2 (a b : Int) : sunS [a, b] = true := by
  rw [sunS_iff]
  intro i hi k hk
  have : i = 1 := by simp at hi; omega
  subst this
  have : k = 0 := by omega
  subst this
  show iand b a = iand a b
  exact iand_comm' b a
/-- lists whose pairs all have the same in common -/
theorem sun_all (x : List Int) (K : Int) (h : x.Pairwise (fun a b => iand a b = K)) : sunS x = true := by
  have hp := List.pairwise_iff_getElem.1 h
  rw [sunS_iff]
  intro i hi k hk
  have e1 : iand (x.getD i 0) (x.getD k 0) = K := by
    rw [getD_at x i hi, getD_at x k (by omega), iand_comm']
    exact hp k i (by omega) hi hk
  have e2 : iand (x.getD 0 0) (x.getD 1 0) = K := by
    rw [getD_at x 0 (by omega), getD_at x 1 (by omega)]
    exact hp 0 1 (by omega) (by omega) (by omega)
  rw [e1, e2]
theorem single_apart : ∀ a : Nat, a < 64 → ∀ b : Nat, b < 64 → pop a = 1 → pop b = 1 → a ≠ b → a &&& b = 0 := by decide +kernel
theorem edge_at' : ∀ v : Nat, v < 6 → ∀ a : Nat, a < 64 → ∀ b : Nat, b < 64 → ((pop a == 2 && pop b == 2 && !(a == b) && nbit a v && nbit b v) = true → a &&& b = 2 ^ v) := by decide +kernel
theorem edge_at (a : Nat) (ha : a < 64) (b : Nat) (hb : b < 64) (v : Nat) (hv : v < 6) (h1 : pop a = 2) (h2 : pop b = 2) (h3 : a ≠ b) (h4 : nbit a v = true) (h5 : nbit b v = true) : a &&& b = 2 ^ v :=
  edge_at' v hv a ha b hb (by rw [h1, h2, h4, h5]; simp [h3])
def cntV (v : Nat) (l : List Int) : Nat := (l.filter fun s => nbit s.toNat v).length
theorem pop_sum : ∀ a : Nat, a < 64 → (if nbit a 0 then 1 else 0) + (if nbit a 1 then 1 else 0) + (if nbit a 2 then 1 else 0) + (if nbit a 3 then 1 else 0) + (if nbit a 4 then 1 else 0) + (if nbit a 5 then 1 else 0) = pop a := by decide +kernel
theorem cntV_cons (v : Nat) (s : Int) (l : List Int) : cntV v (s :: l) = (if nbit s.toNat v then 1 else 0) + cntV v l := by
  unfold cntV
  rw [List.filter_cons]
  split <;> simp <;> omega
theorem cnt_sum (l : List Int) (h : ∀ s ∈ l, 0 ≤ s ∧ s < 64 ∧ pop s.toNat = 2) : cntV 0 l + cntV 1 l + cntV 2 l + cntV 3 l + cntV 4 l + cntV 5 l = 2 * l.length := by
  induction l with
  | nil => rfl
  | cons s l ih =>
    have h1 := ih (fun x hx => h x (by simp [hx]))
    have h2 := h s (by simp)
    have h3 := pop_sum s.toNat (by omega)
    simp only [cntV_cons, List.length_cons]
    omega
theorem asc_in (l F : List Int) (hl : l.Pairwise (· < ·)) (hF : F.Pairwise (· < ·)) (h : ∀ x ∈ l, x ∈ F) : l.length ≤ F.length := by
  have e : l = F.filter fun x => decide (x ∈ l) := asc_ext _ _ hl (hF.filter _) fun x => by
    rw [List.mem_filter]
    constructor
    · intro hx; exact ⟨h x hx, by simp [hx]⟩
    · rintro ⟨_, hx⟩; simpa using hx
  rw [e]
  exact List.length_filter_le _ _
def allOfSize (q : Nat) : List Int := (((List.range 64).filter fun a => pop a == q).map Int.ofNat)
theorem size_count : ∀ q : Nat, q < 7 → (allOfSize q).length ≤ 20 := by decide +kernel
theorem size_count2 : (allOfSize 2).length ≤ 15 := by decide +kernel
theorem allOfSize_asc (q : Nat) : (allOfSize q).Pairwise (· < ·) := by
  unfold allOfSize
  rw [List.pairwise_map]
  refine (List.Pairwise.filter _ List.pairwise_lt_range).imp ?_
  intro a b h
  exact Int.ofNat_lt.2 h
theorem allOfSize_mem (q : Nat) (x : Int) (h0 : 0 ≤ x) (h1 : x < 64) (hp : pop x.toNat = q) : x ∈ allOfSize q := by
  unfold allOfSize
  refine List.mem_map.2 ⟨x.toNat, List.mem_filter.2 ⟨List.mem_range.2 (by omega), by simp [hp]⟩, by show ((x.toNat : Nat) : Int) = x; omega⟩

theorem rado {g s k : Int} {l : List Int} (hu : uniB g l s = true) (h1 : 1 ≤ s) (h5 : s ≤ 5) (k1 : 1 ≤ k) (k5 : k ≤ 5) (hb : sunBound s k < l.length) : sunB g l k = true := by
  unfold uniB at hu
  obtain ⟨hf, hu⟩ := Bool.and_eq_true_iff.1 hu
  have hu := (Bool.and_eq_true_iff.1 hu).2
  obtain ⟨h0, h6, hbd, hasc⟩ := famOk hf
  have hp6 : (2 : Int) ^ g.toNat ≤ 64 := by have := (two_pow g.toNat 6 (by omega)).1; simpa using this
  have hm : ∀ x ∈ l, 0 ≤ x ∧ x < 64 ∧ (pop x.toNat : Int) = s := by
    intro x hx
    have := hbd x hx
    rw [List.all_eq_true] at hu
    have h2 := hu x hx
    exact ⟨this.1, by omega, by simpa [ipop] using h2⟩
  have hok : sunOk g l k = true := by unfold sunOk; rw [hf, inB_true.2 ⟨k1, k5⟩]; rfl
  have hsp := sunR_spec g l k hok
  have goal : (∃ x, x.Sublist l ∧ sunS x = true ∧ (x.length : Int) = k) → sunB g l k = true := by
    rintro ⟨x, hx, hs, hk⟩
    unfold sunB
    rw [hsp]
    exact find_all l [] k ⟨x, hx, by simpa using hs, by simpa using hk⟩
  have hbound : sunBound s k = ((fact s.toNat * (k - 1).toNat ^ s.toNat : Nat) : Int) := by unfold sunBound; rw [inB_true.2 ⟨by omega, by omega⟩, inB_true.2 ⟨k1, k5⟩]; rfl
  rw [hbound] at hb
  obtain ⟨q, rfl⟩ : ∃ q : Nat, s = q := ⟨s.toNat, by omega⟩
  obtain ⟨c, rfl⟩ : ∃ c : Nat, k = c := ⟨k.toNat, by omega⟩
  have ec : ((c : Int) - 1).toNat = c - 1 := by omega
  rw [Int.toNat_natCast, ec] at hb
  have hcnt : l.length ≤ 20 := Nat.le_trans (asc_in l (allOfSize q) hasc (allOfSize_asc q) (fun x hx => allOfSize_mem q x (hm x hx).1 (hm x hx).2.1 (by have := (hm x hx).2.2; omega))) (size_count q (by omega))
  have htake : ∀ m, m ≤ l.length → (l.take m).Sublist l ∧ (l.take m).length = m := fun m h => ⟨List.take_sublist m l, by simp; omega⟩
  rcases (show c = 1 ∨ c = 2 ∨ 3 ≤ c by omega) with rfl | rfl | hc
  · obtain ⟨t1, t2⟩ := htake 1 (by omega)
    match hq : l.take 1, t2 with
    | [a], _ => exact goal ⟨[a], by rw [← hq]; exact t1, sun1 a, by simp⟩
  · have hfp : 1 ≤ fact q := by
      rcases (show q = 1 ∨ q = 2 ∨ q = 3 ∨ q = 4 ∨ q = 5 by omega) with rfl | rfl | rfl | rfl | rfl <;> decide
    have h2 : 2 ≤ l.length := by
      rw [show 2 - 1 = 1 from rfl, Nat.one_pow, Nat.mul_one] at hb
      omega
    obtain ⟨t1, t2⟩ := htake 2 h2
    match hq : l.take 2, t2 with
    | [a, b], _ => exact goal ⟨[a, b], by rw [← hq]; exact t1, sun2 a b, by simp⟩
  · have hlt : ∀ i j (hi : i < l.length) (hj : j < l.length), i < j → l[i] < l[j] := fun i j hi hj h => (List.pairwise_iff_getElem.1 hasc) i j hi hj h
    rcases (show q = 1 ∨ q = 2 ∨ 3 ≤ q by omega) with rfl | rfl | hq3
    · -- single elements
      have hcl : c ≤ l.length := by
        rw [Nat.pow_one, show fact 1 = 1 from rfl, Nat.one_mul] at hb
        omega
      obtain ⟨t1, t2⟩ := htake c hcl
      refine goal ⟨l.take c, t1, sun_all _ 0 ?_, by omega⟩
      refine ((hasc.sublist t1).imp_of_mem ?_)
      intro a b ha hb2 hab
      have m1 := hm a (t1.subset ha)
      have m2 := hm b (t1.subset hb2)
      have := single_apart a.toNat (by omega) b.toNat (by omega) (by omega) (by omega) (by omega)
      unfold iand
      rw [this]; rfl
    · -- edges
      have hc15 : l.length ≤ 15 := Nat.le_trans (asc_in l (allOfSize 2) hasc (allOfSize_asc 2) (fun x hx => allOfSize_mem 2 x (hm x hx).1 (hm x hx).2.1 (by have := (hm x hx).2.2; omega))) size_count2
      have hc3 : c = 3 := by
        rcases (show c = 3 ∨ c = 4 ∨ c = 5 by omega) with rfl | rfl | rfl
        · rfl
        · have e : fact 2 * (4 - 1) ^ 2 = 18 := by decide
          rw [e] at hb; omega
        · have e : fact 2 * (5 - 1) ^ 2 = 32 := by decide
          rw [e] at hb; omega
      subst hc3
      have e : fact 2 * (3 - 1) ^ 2 = 8 := by decide
      rw [e] at hb
      have hsum := cnt_sum l (fun x hx => ⟨(hm x hx).1, (hm x hx).2.1, by have := (hm x hx).2.2; omega⟩)
      obtain ⟨v, hv, hv3⟩ : ∃ v, v < 6 ∧ 3 ≤ cntV v l := by
        apply Classical.byContradiction
        intro hno
        have hn : ∀ v, v < 6 → cntV v l < 3 := fun v hv => Classical.byContradiction fun h => hno ⟨v, hv, by omega⟩
        have a0 := hn 0 (by omega)
        have a1 := hn 1 (by omega)
        have a2 := hn 2 (by omega)
        have a3 := hn 3 (by omega)
        have a4 := hn 4 (by omega)
        have a5 := hn 5 (by omega)
        omega
      have hfs : (l.filter fun s => nbit s.toNat v).Sublist l := List.filter_sublist
      unfold cntV at hv3
      refine goal ⟨(l.filter fun s => nbit s.toNat v).take 3, (List.take_sublist 3 _).trans hfs, sun_all _ (2 ^ v) ?_, by simp; omega⟩
      refine ((hasc.sublist ((List.take_sublist 3 _).trans hfs)).imp_of_mem ?_)
      intro a b ha hb2 hab
      have f1 := List.mem_filter.1 (List.mem_of_mem_take ha)
      have f2 := List.mem_filter.1 (List.mem_of_mem_take hb2)
      have m1 := hm a f1.1
      have m2 := hm b f2.1
      have := edge_at a.toNat (by omega) b.toNat (by omega) v hv (by omega) (by omega) (by omega) f1.2 f2.2
      unfold iand
      rw [this]
      push_cast
      rfl
    · exfalso
      have key : ∀ q : Nat, q < 6 → ∀ c : Nat, c < 6 → 3 ≤ q → 3 ≤ c → 20 ≤ fact q * (c - 1) ^ q := by decide +kernel
      have := key q (by omega) c (by omega) hq3 hc
      omega
end Go.Proofs.Ytmlpcohailjccaa
