/- Sets of families: who is in. Orders of elements, and the gains along an order. Covers. -/
import Derived.Test.YtelmokapdkepbaaGreatDoorQ07
import Derived.Deep.RegionHeld3
section
namespace Go.Proofs.YtelmokapdkepbaaGreatDoor
open Go.RowKit Go.G5

def has (l : List Int) (s : Int) : Bool := decide (s ∈ l)
theorem has_true {l : List Int} {s : Int} : has l s = true ↔ s ∈ l := by simp [has]
theorem has_at (l : List Int) (k : Nat) (h : k < l.length) : has l l[k] = true := has_true.2 (List.getElem_mem h)
theorem has_false {l : List Int} {s : Int} (h : ∀ k, (hk : k < l.length) → l[k] ≠ s) : has l s = false := by
  unfold has
  rw [decide_eq_false_iff_not]
  intro hm
  obtain ⟨k, hk, he⟩ := List.getElem_of_mem hm
  exact h k hk he

set_option maxHeartbeats 400000 in
theorem l10Has_any (l : List Int) (v : Value) (s : Int) (w : World) (hv : Ints w v l) :
    Calls Tryz.prog 102 #[v, .int .i64 s] w fun e w' => e = .returned (.bool (has l s)) ∧ w = w' := by
  obtain ⟨a, b, off, c, rfl, hlen, hix, hc, hb⟩ := hv.view Tryz.prog 22 3 Tryz.underlying22 intElem
  go_enter Tryz.func102, Tryz.ntmps102
  go_wp2
  go_loop [5] (fun i => ∃ k : Nat, k ≤ l.length ∧ i = .int .i64 k ∧ (∀ j, (hj : j < l.length) → j < k → l[j] ≠ s)) (fun i => l.length - (intOf i).toNat)
  case atStart => exact ⟨0, Nat.zero_le _, rfl, by intros; omega⟩
  case round =>
    obtain ⟨k, hk, rfl, hno⟩ := hrel
    have H := Lib.hid hno
    clear hno
    by_cases hlt : k < l.length
    · by_cases he : l[k] = s
      · have ht : (l[k] == s) = true := by simp [he]
        have hh : has l s = true := by rw [← he]; exact has_at l k hlt
        have HH := Lib.hid hh
        clear he hh
        go_wp2
        go_ret
        exact ⟨by rw [HH.out]; rfl, rfl⟩
      · have ht : (l[k] == s) = false := by simp [he]
        have HE := Lib.hid he
        clear he
        go_wp2
        go_round
        case rel =>
          refine ⟨k + 1, by omega, by go_num, fun j hj hjk => ?_⟩
          by_cases hjk' : j = k
          · subst hjk'; exact HE.out
          · exact H.out j hj (by omega)
        case measure => simp [intOf]; omega
    · have hh : has l s = false := has_false fun j hj => H.out j hj (by omega)
      have HH := Lib.hid hh
      clear hh
      go_wp2
      go_ret
      exact ⟨by rw [HH.out]; rfl, rfl⟩

theorem cmpNaN_any (x : Int) (w : World) : Calls Tryz.prog 184 #[.int .i64 x] w fun e w' => e = .returned (.bool false) ∧ w = w' := by
  have h : (x != x) = false := by simp
  go_enter Tryz.func184, Tryz.ntmps184
  go_wp2
  go_ret
  exact ⟨rfl, rfl⟩
theorem slNaN_any (x : Int) (w : World) : Calls Tryz.prog 174 #[.int .i64 x] w fun e w' => e = .returned (.bool false) ∧ w = w' := by
  have h : (x != x) = false := by simp
  go_enter Tryz.func174, Tryz.ntmps174
  go_wp2
  go_ret
  exact ⟨rfl, rfl⟩
theorem cmpLess_any (x y : Int) (w : World) : Calls Tryz.prog 173 #[.int .i64 x, .int .i64 y] w fun e w' => e = .returned (.bool (decide (x < y))) ∧ w = w' := by
  go_enter Tryz.func173, Tryz.ntmps173
  go_wp2_with (go_at_call 184; refine (cmpNaN_any _ _).mono ?_; rintro e w' ⟨rfl, rfl⟩)
  go_ret
  exact ⟨rfl, rfl⟩

set_option maxHeartbeats 1000000 in
theorem binSearch_any (l : List Int) (v : Value) (s : Int) (w : World) (hv : Ints w v l) (hasc : l.Pairwise (· < ·)) (hl : l.length ≤ 1048576) :
    Calls Tryz.prog 148 #[v, .int .i64 s] w fun e w' => (∃ i : Int, e = .returned (.tuple #[.int .i64 i, .bool (has l s)])) ∧ w = w' := by
  obtain ⟨a, b, off, c, rfl, hlen, hix, hc, hb⟩ := hv.view Tryz.prog 22 3 Tryz.underlying22 intElem
  have hmono : ∀ i j, (hi : i < l.length) → (hj : j < l.length) → i < j → l[i] < l[j] := fun i j hi hj hij => List.pairwise_iff_getElem.1 hasc i j hi hj hij
  have HMO := Lib.hid hmono
  clear hmono hasc
  go_enter Tryz.func148, Tryz.ntmps148
  go_wp2
  go_loop [7, 8] (fun i j => ∃ p q : Nat, p ≤ q ∧ q ≤ l.length ∧ i = .int .i64 p ∧ j = .int .i64 q ∧ (∀ t, (ht : t < l.length) → t < p → l[t] < s) ∧ (∀ t, (ht : t < l.length) → q ≤ t → s ≤ l[t])) (fun i j => (intOf j).toNat - (intOf i).toNat)
  case atStart => exact ⟨0, l.length, Nat.zero_le _, Nat.le_refl _, rfl, rfl, by intros; omega, by intros; omega⟩
  case round =>
    obtain ⟨p, q, hpq, hql, rfl, rfl, hlo, hhi⟩ := hrel
    have HLO := Lib.hid hlo
    have HHI := Lib.hid hhi
    clear hlo hhi
    by_cases hlt : p < q
    · have hm : (p + q) / 2 < l.length := by omega
      have hcm := hc ((p + q) / 2) hm
      have hixm : ∀ w', (Instr.indexAt 22 (.slice a l.length c) (.int .i64 (((p : Int) + (q : Int)) / 2))).run Tryz.prog w' = .ok (.pointer (some ⟨b, off + (p + q) / 2, none⟩)) w' := fun w' => by
        rw [show (((p : Int) + (q : Int)) / 2) = (((p + q) / 2 : Nat) : Int) by omega]
        exact hix w' _ hm
      by_cases hls : l[(p + q) / 2] < s
      · go_wp2_with (go_at_call 173; refine (cmpLess_any _ _ _).mono ?_; rintro e w' ⟨rfl, rfl⟩)
        go_round
        case rel =>
          refine ⟨(p + q) / 2 + 1, q, by omega, hql, by go_num, rfl, fun t ht htp => ?_, HHI.out⟩
          by_cases h : t = (p + q) / 2
          · subst h; exact hls
          · have := HMO.out t ((p + q) / 2) ht hm (by omega); omega
        case measure => simp [intOf]; omega
      · go_wp2_with (go_at_call 173; refine (cmpLess_any _ _ _).mono ?_; rintro e w' ⟨rfl, rfl⟩)
        go_round
        case rel =>
          refine ⟨p, (p + q) / 2, by omega, by omega, rfl, by go_num, HLO.out, fun t ht htp => ?_⟩
          by_cases h : t = (p + q) / 2
          · subst h; omega
          · have := HMO.out ((p + q) / 2) t hm ht (by omega); omega
        case measure => simp [intOf]; omega
    · have hpq' : p = q := by omega
      by_cases hpl : p < l.length
      · have hcp := hc p hpl
        by_cases he : l[p] = s
        · have ht : (l[p] == s) = true := by simp [he]
          have hh : has l s = true := by rw [← he]; exact has_at l p hpl
          have HH := Lib.hid hh
          clear he hh hpq'
          go_wp2_with (go_at_call 174; refine (slNaN_any _ _).mono ?_; rintro e w' ⟨rfl, rfl⟩)
          go_ret2
          exact ⟨⟨p, by rw [HH.out]; rfl⟩, rfl⟩
        · have ht : (l[p] == s) = false := by simp [he]
          have hh : has l s = false := has_false fun t ht' hts => by
            rcases Nat.lt_trichotomy t p with h | h | h
            · have := HLO.out t ht' h; omega
            · subst h; exact he hts
            · have h1 := HHI.out p hpl (by omega)
              have h2 := HMO.out p t hpl ht' h
              omega
          have HH := Lib.hid hh
          clear he hh hpq'
          go_wp2_with (go_at_call 174; refine (slNaN_any _ _).mono ?_; rintro e w' ⟨rfl, rfl⟩)
          go_ret2
          exact ⟨⟨p, by rw [HH.out]; rfl⟩, rfl⟩
      · have hh : has l s = false := has_false fun t ht' hts => by
          have := HLO.out t ht' (by omega); omega
        have HH := Lib.hid hh
        clear hh hpq'
        go_wp2
        go_ret2
        exact ⟨⟨p, by rw [HH.out]; rfl⟩, rfl⟩

theorem hasSet_any (g : Int) (l : List Int) (v : Value) (s : Int) (w : World) (hv : Ints w v l) (hasc : l.Pairwise (· < ·)) (hl : l.length ≤ 1048576) :
    Calls Tryz.prog 120 #[.agg #[.int .i64 g, v], .int .i64 s] w fun e w' => e = .returned (.bool (has l s)) ∧ Below w.heap.size w w' := by
  obtain ⟨av, cv, rfl⟩ := hv.shape
  have H := Lib.hid hasc
  clear hasc
  go_enter Tryz.func120, Tryz.ntmps120
  go_wp2_with (go_at_call 148; refine (binSearch_any l _ _ _ (hv.alloc _) H.out hl).mono ?_; rintro e w' ⟨⟨i, rfl⟩, rfl⟩)
  go_ret
  exact ⟨rfl, bl1 _ _⟩
end Go.Proofs.YtelmokapdkepbaaGreatDoor
end
section
namespace Go.Proofs.YtelmokapdkepbaaGreatDoor
open Go.RowKit Go.G5

theorem lt_of_cell' {w : World} {a : Addr} {v : Value} (h : w.cell? a = some v) : a.block < w.heap.size := World.block_lt_of_cell? w a h

/-! what is a member -/
/-! gains -/
def setBit (s e : Nat) : Nat := s ||| 2 ^ e
def gainL (l : List Int) (s e : Nat) : Int := l.getD (setBit s e) 0 - l.getD s 0

theorem setBit_is (s e : Nat) (hs : s < 4611686018427387904) (he : e < 6) : bits .or .i64 (s : Int) (2 ^ e) = ((setBit s e : Nat) : Int) := by
  have hp := Nat.pow_lt_pow_right (show 1 < 2 by decide) he
  have := bitsO s (2 ^ e) (by omega) (by simp at hp; omega)
  unfold setBit
  rw [← this]; push_cast; rfl
theorem setBit_lt (s e n : Nat) (hs : s < 2 ^ n) (he : e < n) : setBit s e < 2 ^ n := Nat.or_lt_two_pow hs (Nat.pow_lt_pow_right (by decide) he)

set_option maxHeartbeats 400000 in
theorem gain_any (n : Int) (l : List Int) (v : Value) (s e : Nat) (w : World) (hv : Ints w v l) (hl : l.length ≤ 64) (hs : s < l.length) (he : e < 6) (hse : setBit s e < l.length) (hlb : ∀ k, (hk : k < l.length) → -1000 ≤ l[k] ∧ l[k] ≤ 1000) :
    Calls Tryz.prog 81 #[.agg #[.int .i64 n, v], .int .i64 (s : Int), .int .i64 (e : Int)] w fun e' w' => e' = .returned (.int .i64 (gainL l s e)) ∧ Below w.heap.size w w' := by
  obtain ⟨a, b, off, c, rfl, hlen, hix, hc, hb⟩ := hv.view Tryz.prog 22 3 Tryz.underlying22 intElem
  have hc1 := cells_below hc hb (bl1 w (.cells #[.int .i64 n, .slice a l.length c] 27)) (Nat.le_refl _)
  have h1 := hlb s hs
  have h2 := hlb _ hse
  have hg : gainL l s e = l[setBit s e] - l[s] := by
    unfold gainL
    rw [List.getD_eq_getElem?_getD, List.getD_eq_getElem?_getD, List.getElem?_eq_getElem hs, List.getElem?_eq_getElem hse]; rfl
  have hor := setBit_is s e (by omega) he
  have hc2 := hc1 _ hse
  have hc3 := hc1 s hs
  have hi2 := fun w' => hix w' _ hse
  have hi3 := fun w' => hix w' s hs
  have hp64 := two_pow e 6 (by omega)
  have hp1 : (2 : Int) ^ e ≤ 64 := by simpa using hp64.1
  have hp2 := hp64.2
  have he0 : (0 : Int) ≤ (e : Int) := Int.natCast_nonneg _
  obtain ⟨x, hx⟩ : ∃ x, x = l[setBit s e] := ⟨_, rfl⟩
  obtain ⟨y, hy⟩ : ∃ y, y = l[s] := ⟨_, rfl⟩
  obtain ⟨q, hq⟩ : ∃ q, q = setBit s e := ⟨_, rfl⟩
  rw [← hx] at hg h2 hc2
  rw [← hy] at hg h1 hc3
  rw [← hq] at hor hi2 hc2
  have hw : IntKind.i64.wrap (x - y) = x - y := by rw [IntKind.wrap_i64]; omega
  have HG := Lib.hid hg
  clear hg hlb hc hb hc1 hix hx hy hq hp64 hse hs
  go_enter Tryz.func81, Tryz.ntmps81
  go_wp2
  go_quiet (fail)
  go_wp2
  go_ret
  exact ⟨ret_int (by rw [HG.out]), (bl1 _ _).drewN' _⟩

/-! the gains along an order -/
def prefS (o : List Int) : Nat → Nat
  | 0 => 0
  | k + 1 => setBit (prefS o k) (o.getD k 0).toNat
def cornerTo (l o : List Int) : Nat → List Int
  | 0 => List.replicate o.length 0
  | k + 1 => (cornerTo l o k).set (o.getD k 0).toNat (gainL l (prefS o k) (o.getD k 0).toNat)
def cornerL (l o : List Int) : List Int := cornerTo l o o.length
theorem cornerTo_len (l o : List Int) (k : Nat) : (cornerTo l o k).length = o.length := by
  induction k with
  | zero => simp [cornerTo]
  | succ k ih => simp [cornerTo, ih]
theorem prefS_lt (o : List Int) (n k : Nat) (h : ∀ x ∈ o, 0 ≤ x ∧ x < n) (hk : k ≤ o.length) : prefS o k < 2 ^ n := by
  induction k with
  | zero => exact Nat.two_pow_pos n
  | succ k ih =>
    have hm := h _ (List.getElem_mem (show k < o.length by omega))
    rw [prefS, List.getD_eq_getElem?_getD, List.getElem?_eq_getElem (show k < o.length by omega), Option.getD_some]
    exact setBit_lt _ _ _ (ih (by omega)) (by omega)
theorem gainL_bd (l : List Int) (s e : Nat) (hs : s < l.length) (hse : setBit s e < l.length) (hlb : ∀ k, (hk : k < l.length) → -1000 ≤ l[k] ∧ l[k] ≤ 1000) : -2000 ≤ gainL l s e ∧ gainL l s e ≤ 2000 := by
  have h1 := hlb s hs
  have h2 := hlb _ hse
  unfold gainL
  rw [List.getD_eq_getElem?_getD, List.getD_eq_getElem?_getD, List.getElem?_eq_getElem hs, List.getElem?_eq_getElem hse, Option.getD_some, Option.getD_some]
  omega

end Go.Proofs.YtelmokapdkepbaaGreatDoor
end
section
namespace Go.Proofs.YtelmokapdkepbaaGreatDoor
open Go.RowKit Go.G5

/-- the sets' elements together -/
def unionL (l : List Int) : Int := l.foldl ior 0
theorem union_bd (g : Nat) (l : List Int) (h : ∀ s ∈ l, 0 ≤ s ∧ s < 2 ^ g) : ∀ z, 0 ≤ z → z < 2 ^ g → 0 ≤ l.foldl ior z ∧ l.foldl ior z < 2 ^ g := by
  induction l with
  | nil => intro z h0 h1; exact ⟨h0, h1⟩
  | cons a l ih =>
    intro z h0 h1
    have ha := h a (by simp)
    have hz := ior_bd z a g h0 ha.1 h1 ha.2
    exact ih (fun s hs => h s (by simp [hs])) _ hz.1 hz.2

theorem groundOf_any (n : Int) (v : Value) (l : List Int) (w : World) (hv : Ints w v l) (h0 : 0 ≤ n) (h1 : n ≤ 40) :
    Calls Tryz.prog 109 #[.agg #[.int .i64 n, v]] w fun e w' => e = .returned (.int .i64 (2 ^ n.toNat - 1)) ∧ Below w.heap.size w w' := by
  obtain ⟨av, cv, rfl⟩ := hv.shape
  have h2 := two_pow n.toNat 40 (by omega)
  have h3 := h2.1
  have h4 := h2.2
  simp at h3
  clear h2
  go_enter Tryz.func109, Tryz.ntmps109
  go_wp2
  go_ret
  exact ⟨rfl, bl1 _ _⟩

def isCoverB (g : Int) (l x : List Int) : Bool := isFamB g l && x.all (has l) && (unionL x == 2 ^ g.toNat - 1)

theorem fam_mem {g : Int} {l : List Int} (h : isFamB g l = true) : ∀ s ∈ l, 0 ≤ s ∧ s < 64 := by
  obtain ⟨h0, h6, hs, _⟩ := famOk h
  intro s hm
  have := hs s hm
  have := pow_le64 h0 h6
  omega

end Go.Proofs.YtelmokapdkepbaaGreatDoor
end
