/- Orders of elements, and the gains along an order. -/
import Derived.Test.YtpaoiiiceekkkaaDoorQ12
section
namespace Go.Proofs.YtpaoiiiceekkkaaDoor
open Go.RowKit Go.G5

theorem lt_of_cell' {w : World} {a : Addr} {v : Value} (h : w.cell? a = some v) : a.block < w.heap.size := World.block_lt_of_cell? w a h

/-! what is a member -/
set_option maxHeartbeats 400000 in
theorem slIndex_any (l : List Int) (v : Value) (s : Int) (w : World) (hv : Ints w v l) :
    Calls Tryd.prog 193 #[v, .int .i64 s] w fun e w' => (∃ i : Int, e = .returned (.int .i64 i) ∧ (0 ≤ i ↔ has l s = true) ∧ -1 ≤ i ∧ i ≤ 9223372036854775807) ∧ w = w' := by
  obtain ⟨a, b, off, c, rfl, hlen, hix, hc, hb⟩ := hv.view Tryd.prog 22 3 Tryd.underlying22 intElem
  go_enter Tryd.func193, Tryd.ntmps193
  go_wp2
  go_loop [8] (fun i => ∃ k : Nat, k ≤ l.length ∧ i = .int .i64 k ∧ ∀ j, (hj : j < l.length) → j < k → l[j] ≠ s) (fun i => l.length - (intOf i).toNat)
  case atStart => exact ⟨0, Nat.zero_le _, rfl, fun j _ h => by omega⟩
  case round =>
    obtain ⟨k, hk, rfl, hall⟩ := hrel
    have H := Lib.hid hall
    clear hall
    by_cases hlt : k < l.length
    · have hck := hc k hlt
      by_cases he : s = l[k]
      · have ht : (s == l[k]) = true := by simp [he]
        have hh : has l s = true := by rw [he]; exact has_at l k hlt
        have HH := Lib.hid hh
        clear he hh
        go_wp2
        go_ret
        exact ⟨⟨k, rfl, by rw [HH.out]; simp, by omega, by omega⟩, rfl⟩
      · have ht : (s == l[k]) = false := by simp [he]
        go_wp2
        go_round
        case rel =>
          refine ⟨k + 1, by omega, by go_num, fun j hj hjk => ?_⟩
          by_cases h : j < k
          · exact H.out j hj h
          · have : j = k := by omega
            subst this
            exact fun h => he h.symm
        case measure => simp [intOf]; omega
    · have hh : has l s = false := has_false fun j hj => H.out j hj (by omega)
      have HH := Lib.hid hh
      clear hh
      go_wp2
      go_ret
      exact ⟨⟨-1, rfl, by rw [HH.out]; simp, by omega, by omega⟩, rfl⟩

theorem slContains_any (l : List Int) (v : Value) (s : Int) (w : World) (hv : Ints w v l) :
    Calls Tryd.prog 164 #[v, .int .i64 s] w fun e w' => e = .returned (.bool (has l s)) ∧ w = w' := by
  obtain ⟨a, c, rfl⟩ := hv.shape
  go_enter Tryd.func164, Tryd.ntmps164
  go_wp2_with (go_at_call 193; refine (slIndex_any l _ s _ hv).mono ?_; rintro e w' ⟨⟨i, rfl, hi, hi1, hi2⟩, rfl⟩; have HI := Lib.hid hi; clear hi)
  go_ret
  refine ⟨ret_bool ?_, rfl⟩
  cases hh : has l s with
  | true => have := HI.out.2 hh; simpa using this
  | false =>
    have h : ¬ 0 ≤ i := fun h => by rw [HI.out.1 h] at hh; cases hh
    simpa using h

/-! gains -/
def setBit (s e : Nat) : Nat := s ||| 2 ^ e
def gainL (l : List Int) (s e : Nat) : Int := l.getD (setBit s e) 0 - l.getD s 0

theorem setBit_is (s e : Nat) (hs : s < 4611686018427387904) (he : e < 6) : bits .or .i64 (s : Int) (2 ^ e) = ((setBit s e : Nat) : Int) := by
  have hp := Nat.pow_lt_pow_right (show 1 < 2 by decide) he
  have := bitsO s (2 ^ e) (by omega) (by simp at hp; omega)
  unfold setBit
  rw [← this]; push_cast; rfl
theorem setBit_lt (s e n : Nat) (hs : s < 2 ^ n) (he : e < n) : setBit s e < 2 ^ n := Nat.or_lt_two_pow hs (Nat.pow_lt_pow_right (by decide) he)

set_option maxHeartbeats 400000 in
theorem gain_any (n : Int) (l : List Int) (v : Value) (s e : Nat) (w : World) (hv : Ints w v l) (hl : l.length ≤ 64) (hs : s < l.length) (he : e < 6) (hse : setBit s e < l.length) (hlb : ∀ k, (hk : k < l.length) → -1000 ≤ l[k] ∧ l[k] ≤ 1000) :
    Calls Tryd.prog 133 #[.agg #[.int .i64 n, v], .int .i64 (s : Int), .int .i64 (e : Int)] w fun e' w' => e' = .returned (.int .i64 (gainL l s e)) ∧ Below w.heap.size w w' := by
  obtain ⟨a, b, off, c, rfl, hlen, hix, hc, hb⟩ := hv.view Tryd.prog 22 3 Tryd.underlying22 intElem
  have hc1 := cells_below hc hb (bl1 w (.cells #[.int .i64 n, .slice a l.length c] 31)) (Nat.le_refl _)
  have h1 := hlb s hs
  have h2 := hlb _ hse
  have hg : gainL l s e = l[setBit s e] - l[s] := by
    unfold gainL
    rw [List.getD_eq_getElem?_getD, List.getD_eq_getElem?_getD, List.getElem?_eq_getElem hs, List.getElem?_eq_getElem hse]; rfl
  have hor := setBit_is s e (by omega) he
  have hc2 := hc1 _ hse
  have hc3 := hc1 s hs
  have hi2 := fun w' => hix w' _ hse
  have hi3 := fun w' => hix w' s hs
  have hp64 := two_pow e 6 (by omega)
  have hp1 : (2 : Int) ^ e ≤ 64 := by simpa using hp64.1
  have hp2 := hp64.2
  have he0 : (0 : Int) ≤ (e : Int) := Int.natCast_nonneg _
  obtain ⟨x, hx⟩ : ∃ x, x = l[setBit s e] := ⟨_, rfl⟩
  obtain ⟨y, hy⟩ : ∃ y, y = l[s] := ⟨_, rfl⟩
  obtain ⟨q, hq⟩ : ∃ q, q = setBit s e := ⟨_, rfl⟩
  rw [← hx] at hg h2 hc2
  rw [← hy] at hg h1 hc3
  rw [← hq] at hor hi2 hc2
  have hw : IntKind.i64.wrap (x - y) = x - y := by rw [IntKind.wrap_i64]; omega
  have HG := Lib.hid hg
  clear hg hlb hc hb hc1 hix hx hy hq hp64 hse hs
  go_enter Tryd.func133, Tryd.ntmps133
  go_wp2
  go_quiet (fail)
  go_wp2
  go_ret
  exact ⟨ret_int (by rw [HG.out]), (bl1 _ _).drewN' _⟩

/-! the gains along an order -/
def prefS (o : List Int) : Nat → Nat
  | 0 => 0
  | k + 1 => setBit (prefS o k) (o.getD k 0).toNat
def cornerTo (l o : List Int) : Nat → List Int
  | 0 => List.replicate o.length 0
  | k + 1 => (cornerTo l o k).set (o.getD k 0).toNat (gainL l (prefS o k) (o.getD k 0).toNat)
def cornerL (l o : List Int) : List Int := cornerTo l o o.length
theorem cornerTo_len (l o : List Int) (k : Nat) : (cornerTo l o k).length = o.length := by
  induction k with
  | zero => simp [cornerTo]
  | succ k ih => simp [cornerTo, ih]
theorem prefS_lt (o : List Int) (n k : Nat) (h : ∀ x ∈ o, 0 ≤ x ∧ x < n) (hk : k ≤ o.length) : prefS o k < 2 ^ n := by
  induction k with
  | zero => exact Nat.two_pow_pos n
  | succ k ih =>
    have hm := h _ (List.getElem_mem (show k < o.length by omega))
    rw [prefS, List.getD_eq_getElem?_getD, List.getElem?_eq_getElem (show k < o.length by omega), Option.getD_some]
    exact setBit_lt _ _ _ (ih (by omega)) (by omega)
theorem gainL_bd (l : List Int) (s e : Nat) (hs : s < l.length) (hse : setBit s e < l.length) (hlb : ∀ k, (hk : k < l.length) → -1000 ≤ l[k] ∧ l[k] ≤ 1000) : -2000 ≤ gainL l s e ∧ gainL l s e ≤ 2000 := by
  have h1 := hlb s hs
  have h2 := hlb _ hse
  unfold gainL
  rw [List.getD_eq_getElem?_getD, List.getD_eq_getElem?_getD, List.getElem?_eq_getElem hs, List.getElem?_eq_getElem hse, Option.getD_some, Option.getD_some]
  omega

set_option maxHeartbeats 1000000 in
set_option maxRecDepth 100000 in
theorem corner_any (g : Int) (l o : List Int) (v u : Value) (w : World) (hv : Ints w v l) (hu : Ints w u o) (hn : o.length ≤ 5) (hl : l.length = 2 ^ o.length) (hlb : ∀ k, (hk : k < l.length) → -1000 ≤ l[k] ∧ l[k] ≤ 1000) (ho : ∀ x ∈ o, 0 ≤ x ∧ x < o.length) :
    Calls Tryd.prog 130 #[.agg #[.int .i64 g, v], u] w fun e w' => ∃ ad i c, e = .returned (.slice ad i c) ∧ OwnI 3 w.heap.size w' (.slice ad i c) (cornerL l o) ∧ Below w.heap.size w w' := by
  obtain ⟨av, cv, rfl⟩ := hv.shape
  obtain ⟨a, b, off, c, rfl, hlen, hix, hc, hb⟩ := hu.view Tryd.prog 22 3 Tryd.underlying22 intElem
  have hl32 : l.length ≤ 32 := by rw [hl]; exact Nat.pow_le_pow_right (by decide) hn
  have X0 := Box2.new w g (.slice av l.length cv) 31
  have HL := Lib.hid hl
  have HLB := Lib.hid hlb
  have HO := Lib.hid ho
  clear hl hlb ho
  go_enter Tryd.func130, Tryd.ntmps130
  go_wp2_with (at_make; refine wpList_makeI rfl _ _ _ rfl 3 Tryd.underlying22 intElem o.length _ _ rfl rfl rfl rfl (by omega) ?_; intro w2 hown hg)
  have X2 := X0.grow hg (by simp)
  simp at hown
  clear X0 hg
  go_loopw [6, 14] (fun s i wr => ∃ k : Nat, k ≤ o.length ∧ i = .int .i64 k ∧ s = .int .i64 (prefS o k) ∧ OwnI 3 (w.heap.size + 1) wr (.slice (some ⟨w.heap.size + 1, 0, none⟩) o.length o.length) (cornerTo l o k) ∧ Box2 w wr g (.slice av l.length cv))
    (fun _ i _ => o.length - (intOf i).toNat)
  case atStart => exact ⟨0, Nat.zero_le _, rfl, rfl, hown, X2⟩
  case round =>
    obtain ⟨k, hk, rfl, rfl, ow, X⟩ := hrel
    clear hown X2
    have HW := Lib.hid ow
    clear ow
    obtain ⟨d0, d1, B1, z1⟩ := X
    by_cases hlt : k < o.length
    · have hck := cells_below hc hb B1 (Nat.le_refl _) k hlt
      have hm := HO.out _ (List.getElem_mem hlt)
      obtain ⟨e, he⟩ : ∃ e : Nat, o[k] = (e : Int) := ⟨o[k].toNat, by omega⟩
      rw [he] at hck
      have heo : e < o.length := by omega
      have hgd : (o.getD k 0).toNat = e := by rw [List.getD_eq_getElem?_getD, List.getElem?_eq_getElem hlt, Option.getD_some, he]; omega
      have hpl := prefS_lt o o.length k HO.out hk
      rw [← HL.out] at hpl
      have hse : setBit (prefS o k) e < l.length := by rw [HL.out] at hpl ⊢; exact setBit_lt _ _ _ hpl heo
      have hpk : prefS o (k + 1) = setBit (prefS o k) e := by rw [prefS, hgd]
      have hck1 : cornerTo l o (k + 1) = (cornerTo l o k).set e (gainL l (prefS o k) e) := by rw [cornerTo, hgd]
      have hgb := gainL_bd l (prefS o k) e hpl hse HLB.out
      obtain ⟨p, hp⟩ : ∃ p, p = prefS o k := ⟨_, rfl⟩
      rw [← hp] at hpl hse hpk hck1 hgb ⊢
      have hor := setBit_is p e (by omega) (by omega)
      have hp64 := two_pow e 6 (by omega)
      have hp1 : (2 : Int) ^ e ≤ 64 := by simpa using hp64.1
      have hp2 := hp64.2
      have hv1 := hv.below B1 (Nat.le_refl _)
      have HPK := Lib.hid hpk
      have HCK := Lib.hid hck1
      have hlen2 : o.length = (cornerTo l o k).length := (cornerTo_len l o k).symm
      have hcell : ∃ q, wr.cell? ⟨w.heap.size + 1, e, none⟩ = some q := ⟨_, HW.out.cellAt hlen2 e (by omega)⟩
      obtain ⟨q, hcell⟩ := hcell
      have hfr := HW.out.frozenAt hlen2 e
      have hbw : w.heap.size + 1 < wr.heap.size := lt_of_cell' hcell
      have he0 : (0 : Int) ≤ (e : Int) := Int.natCast_nonneg _
      have heo1 : (e : Int) < (o.length : Int) := by omega
      clear hp he hgd hpk hck1 hm hlen2 hp64
      go_wp2_with (go_at_call 133; refine (gain_any g l _ p e _ hv1 (by omega) hpl (by omega) hse HLB.out).mono ?_; rintro e' w3 ⟨rfl, hb3⟩; have hcell3 := keep hb3 hcell; have hfr3 : w3.frozen? ⟨w.heap.size + 1, e, none⟩ = false := (hb3.frozen (p := ⟨w.heap.size + 1, e, none⟩) hbw).trans hfr)
      have ow3 := (HW.out.keep hb3).stored (cornerTo_len l o k).symm e (gainL l p e) ⟨by omega, by omega⟩
      have X3 := ((Box2.mk d0 d1 B1 z1).after hb3).grow ow3.2 (by simp)
      have HW3 := Lib.hid ow3.1
      go_roundw
      case rel => exact ⟨k + 1, by omega, by go_num, by rw [HPK.out], by rw [HCK.out]; exact HW3.out, X3⟩
      case measure => simp [intOf]; omega
    · have hko : k = o.length := by omega
      subst hko
      go_wp2
      go_ret
      exact ⟨_, _, _, rfl, HW.out.mono (by omega), B1⟩
end Go.Proofs.YtpaoiiiceekkkaaDoor
end
