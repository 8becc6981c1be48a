/- Orders of elements, and the gains along an order. Covers. Families whose sets meet. Violations: what is computed. Increasing functions. Increasing functions: the second program. -/
import Derived.Test.YtipejodijbjpcaaGreatDoorQ05
section
namespace Go.Proofs.YtipejodijbjpcaaGreatDoor
open Go.RowKit Go.G5

theorem lt_of_cell' {w : World} {a : Addr} {v : Value} (h : w.cell? a = some v) : a.block < w.heap.size := World.block_lt_of_cell? w a h

/-! what is a member -/
set_option maxHeartbeats 400000 in
theorem slIndex_any (l : List Int) (v : Value) (s : Int) (w : World) (hv : Ints w v l) :
    Calls Tryz.prog 247 #[v, .int .i64 s] w fun e w' => (∃ i : Int, e = .returned (.int .i64 i) ∧ (0 ≤ i ↔ has l s = true) ∧ -1 ≤ i ∧ i ≤ 9223372036854775807) ∧ w = w' := by
  obtain ⟨a, b, off, c, rfl, hlen, hix, hc, hb⟩ := hv.view Tryz.prog 22 3 Tryz.underlying22 intElem
  go_enter Tryz.func247, Tryz.ntmps247
  go_wp2
  go_loop [8] (fun i => ∃ k : Nat, k ≤ l.length ∧ i = .int .i64 k ∧ ∀ j, (hj : j < l.length) → j < k → l[j] ≠ s) (fun i => l.length - (intOf i).toNat)
  case atStart => exact ⟨0, Nat.zero_le _, rfl, fun j _ h => by omega⟩
  case round =>
    obtain ⟨k, hk, rfl, hall⟩ := hrel
    have H := Lib.hid hall
    clear hall
    by_cases hlt : k < l.length
    · have hck := hc k hlt
      by_cases he : s = l[k]
      · have ht : (s == l[k]) = true := by simp [he]
        have hh : has l s = true := by rw [he]; exact has_at l k hlt
        have HH := Lib.hid hh
        clear he hh
        go_wp2
        go_ret
        exact ⟨⟨k, rfl, by rw [HH.out]; simp, by omega, by omega⟩, rfl⟩
      · have ht : (s == l[k]) = false := by simp [he]
        go_wp2
        go_round
        case rel =>
          refine ⟨k + 1, by omega, by go_num, fun j hj hjk => ?_⟩
          by_cases h : j < k
          · exact H.out j hj h
          · have : j = k := by omega
            subst this
            exact fun h => he h.symm
        case measure => simp [intOf]; omega
    · have hh : has l s = false := has_false fun j hj => H.out j hj (by omega)
      have HH := Lib.hid hh
      clear hh
      go_wp2
      go_ret
      exact ⟨⟨-1, rfl, by rw [HH.out]; simp, by omega, by omega⟩, rfl⟩

theorem slContains_any (l : List Int) (v : Value) (s : Int) (w : World) (hv : Ints w v l) :
    Calls Tryz.prog 133 #[v, .int .i64 s] w fun e w' => e = .returned (.bool (has l s)) ∧ w = w' := by
  obtain ⟨a, c, rfl⟩ := hv.shape
  go_enter Tryz.func133, Tryz.ntmps133
  go_wp2_with (go_at_call 247; refine (slIndex_any l _ s _ hv).mono ?_; rintro e w' ⟨⟨i, rfl, hi, hi1, hi2⟩, rfl⟩; have HI := Lib.hid hi; clear hi)
  go_ret
  refine ⟨ret_bool ?_, rfl⟩
  cases hh : has l s with
  | true => have := HI.out.2 hh; simpa using this
  | false =>
    have h : ¬ 0 ≤ i := fun h => by rw [HI.out.1 h] at hh; cases hh
    simpa using h

/-! gains -/
def setBit (s e : Nat) : Nat := s ||| 2 ^ e
def gainL (l : List Int) (s e : Nat) : Int := l.getD (setBit s e) 0 - l.getD s 0

theorem setBit_is (s e : Nat) (hs : s < 4611686018427387904) (he : e < 6) : bits .or .i64 (s : Int) (2 ^ e) = ((setBit s e : Nat) : Int) := by
  have hp := Nat.pow_lt_pow_right (show 1 < 2 by decide) he
  have := bitsO s (2 ^ e) (by omega) (by simp at hp; omega)
  unfold setBit
  rw [← this]; push_cast; rfl
theorem setBit_lt (s e n : Nat) (hs : s < 2 ^ n) (he : e < n) : setBit s e < 2 ^ n := Nat.or_lt_two_pow hs (Nat.pow_lt_pow_right (by decide) he)

set_option maxHeartbeats 400000 in
theorem gain_any (n : Int) (l : List Int) (v : Value) (s e : Nat) (w : World) (hv : Ints w v l) (hl : l.length ≤ 64) (hs : s < l.length) (he : e < 6) (hse : setBit s e < l.length) (hlb : ∀ k, (hk : k < l.length) → -1000 ≤ l[k] ∧ l[k] ≤ 1000) :
    Calls Tryz.prog 243 #[.agg #[.int .i64 n, v], .int .i64 (s : Int), .int .i64 (e : Int)] w fun e' w' => e' = .returned (.int .i64 (gainL l s e)) ∧ Below w.heap.size w w' := by
  obtain ⟨a, b, off, c, rfl, hlen, hix, hc, hb⟩ := hv.view Tryz.prog 22 3 Tryz.underlying22 intElem
  have hc1 := cells_below hc hb (bl1 w (.cells #[.int .i64 n, .slice a l.length c] 32)) (Nat.le_refl _)
  have h1 := hlb s hs
  have h2 := hlb _ hse
  have hg : gainL l s e = l[setBit s e] - l[s] := by
    unfold gainL
    rw [List.getD_eq_getElem?_getD, List.getD_eq_getElem?_getD, List.getElem?_eq_getElem hs, List.getElem?_eq_getElem hse]; rfl
  have hor := setBit_is s e (by omega) he
  have hc2 := hc1 _ hse
  have hc3 := hc1 s hs
  have hi2 := fun w' => hix w' _ hse
  have hi3 := fun w' => hix w' s hs
  have hp64 := two_pow e 6 (by omega)
  have hp1 : (2 : Int) ^ e ≤ 64 := by simpa using hp64.1
  have hp2 := hp64.2
  have he0 : (0 : Int) ≤ (e : Int) := Int.natCast_nonneg _
  obtain ⟨x, hx⟩ : ∃ x, x = l[setBit s e] := ⟨_, rfl⟩
  obtain ⟨y, hy⟩ : ∃ y, y = l[s] := ⟨_, rfl⟩
  obtain ⟨q, hq⟩ : ∃ q, q = setBit s e := ⟨_, rfl⟩
  rw [← hx] at hg h2 hc2
  rw [← hy] at hg h1 hc3
  rw [← hq] at hor hi2 hc2
  have hw : IntKind.i64.wrap (x - y) = x - y := by rw [IntKind.wrap_i64]; omega
  have HG := Lib.hid hg
  clear hg hlb hc hb hc1 hix hx hy hq hp64 hse hs
  go_enter Tryz.func243, Tryz.ntmps243
  go_wp2
  go_quiet (fail)
  go_wp2
  go_ret
  exact ⟨ret_int (by rw [HG.out]), (bl1 _ _).drewN' _⟩

/-! the gains along an order -/
def prefS (o : List Int) : Nat → Nat
  | 0 => 0
  | k + 1 => setBit (prefS o k) (o.getD k 0).toNat
def cornerTo (l o : List Int) : Nat → List Int
  | 0 => List.replicate o.length 0
  | k + 1 => (cornerTo l o k).set (o.getD k 0).toNat (gainL l (prefS o k) (o.getD k 0).toNat)
def cornerL (l o : List Int) : List Int := cornerTo l o o.length
theorem cornerTo_len (l o : List Int) (k : Nat) : (cornerTo l o k).length = o.length := by
  induction k with
  | zero => simp [cornerTo]
  | succ k ih => simp [cornerTo, ih]
theorem prefS_lt (o : List Int) (n k : Nat) (h : ∀ x ∈ o, 0 ≤ x ∧ x < n) (hk : k ≤ o.length) : prefS o k < 2 ^ n := by
  induction k with
  | zero => exact Nat.two_pow_pos n
  | succ k ih =>
    have hm := h _ (List.getElem_mem (show k < o.length by omega))
    rw [prefS, List.getD_eq_getElem?_getD, List.getElem?_eq_getElem (show k < o.length by omega), Option.getD_some]
    exact setBit_lt _ _ _ (ih (by omega)) (by omega)
theorem gainL_bd (l : List Int) (s e : Nat) (hs : s < l.length) (hse : setBit s e < l.length) (hlb : ∀ k, (hk : k < l.length) → -1000 ≤ l[k] ∧ l[k] ≤ 1000) : -2000 ≤ gainL l s e ∧ gainL l s e ≤ 2000 := by
  have h1 := hlb s hs
  have h2 := hlb _ hse
  unfold gainL
  rw [List.getD_eq_getElem?_getD, List.getD_eq_getElem?_getD, List.getElem?_eq_getElem hs, List.getElem?_eq_getElem hse, Option.getD_some, Option.getD_some]
  omega

set_option maxHeartbeats 1000000 in
set_option maxRecDepth 100000 in
theorem corner_any (g : Int) (l o : List Int) (v u : Value) (w : World) (hv : Ints w v l) (hu : Ints w u o) (hn : o.length ≤ 5) (hl : l.length = 2 ^ o.length) (hlb : ∀ k, (hk : k < l.length) → -1000 ≤ l[k] ∧ l[k] ≤ 1000) (ho : ∀ x ∈ o, 0 ≤ x ∧ x < o.length) :
    Calls Tryz.prog 121 #[.agg #[.int .i64 g, v], u] w fun e w' => ∃ ad i c, e = .returned (.slice ad i c) ∧ OwnI 3 w.heap.size w' (.slice ad i c) (cornerL l o) ∧ Below w.heap.size w w' := by
  obtain ⟨av, cv, rfl⟩ := hv.shape
  obtain ⟨a, b, off, c, rfl, hlen, hix, hc, hb⟩ := hu.view Tryz.prog 22 3 Tryz.underlying22 intElem
  have hl32 : l.length ≤ 32 := by rw [hl]; exact Nat.pow_le_pow_right (by decide) hn
  have X0 := Box2.new w g (.slice av l.length cv) 32
  have HL := Lib.hid hl
  have HLB := Lib.hid hlb
  have HO := Lib.hid ho
  clear hl hlb ho
  go_enter Tryz.func121, Tryz.ntmps121
  go_wp2_with (at_make; refine wpList_makeI rfl _ _ _ rfl 3 Tryz.underlying22 intElem o.length _ _ rfl rfl rfl rfl (by omega) ?_; intro w2 hown hg)
  have X2 := X0.grow hg (by simp)
  simp at hown
  clear X0 hg
  go_loopw [6, 14] (fun s i wr => ∃ k : Nat, k ≤ o.length ∧ i = .int .i64 k ∧ s = .int .i64 (prefS o k) ∧ OwnI 3 (w.heap.size + 1) wr (.slice (some ⟨w.heap.size + 1, 0, none⟩) o.length o.length) (cornerTo l o k) ∧ Box2 w wr g (.slice av l.length cv))
    (fun _ i _ => o.length - (intOf i).toNat)
  case atStart => exact ⟨0, Nat.zero_le _, rfl, rfl, hown, X2⟩
  case round =>
    obtain ⟨k, hk, rfl, rfl, ow, X⟩ := hrel
    clear hown X2
    have HW := Lib.hid ow
    clear ow
    obtain ⟨d0, d1, B1, z1⟩ := X
    by_cases hlt : k < o.length
    · have hck := cells_below hc hb B1 (Nat.le_refl _) k hlt
      have hm := HO.out _ (List.getElem_mem hlt)
      obtain ⟨e, he⟩ : ∃ e : Nat, o[k] = (e : Int) := ⟨o[k].toNat, by omega⟩
      rw [he] at hck
      have heo : e < o.length := by omega
      have hgd : (o.getD k 0).toNat = e := by rw [List.getD_eq_getElem?_getD, List.getElem?_eq_getElem hlt, Option.getD_some, he]; omega
      have hpl := prefS_lt o o.length k HO.out hk
      rw [← HL.out] at hpl
      have hse : setBit (prefS o k) e < l.length := by rw [HL.out] at hpl ⊢; exact setBit_lt _ _ _ hpl heo
      have hpk : prefS o (k + 1) = setBit (prefS o k) e := by rw [prefS, hgd]
      have hck1 : cornerTo l o (k + 1) = (cornerTo l o k).set e (gainL l (prefS o k) e) := by rw [cornerTo, hgd]
      have hgb := gainL_bd l (prefS o k) e hpl hse HLB.out
      obtain ⟨p, hp⟩ : ∃ p, p = prefS o k := ⟨_, rfl⟩
      rw [← hp] at hpl hse hpk hck1 hgb ⊢
      have hor := setBit_is p e (by omega) (by omega)
      have hp64 := two_pow e 6 (by omega)
      have hp1 : (2 : Int) ^ e ≤ 64 := by simpa using hp64.1
      have hp2 := hp64.2
      have hv1 := hv.below B1 (Nat.le_refl _)
      have HPK := Lib.hid hpk
      have HCK := Lib.hid hck1
      have hlen2 : o.length = (cornerTo l o k).length := (cornerTo_len l o k).symm
      have hcell : ∃ q, wr.cell? ⟨w.heap.size + 1, e, none⟩ = some q := ⟨_, HW.out.cellAt hlen2 e (by omega)⟩
      obtain ⟨q, hcell⟩ := hcell
      have hfr := HW.out.frozenAt hlen2 e
      have hbw : w.heap.size + 1 < wr.heap.size := lt_of_cell' hcell
      have he0 : (0 : Int) ≤ (e : Int) := Int.natCast_nonneg _
      have heo1 : (e : Int) < (o.length : Int) := by omega
      clear hp he hgd hpk hck1 hm hlen2 hp64
      go_wp2_with (go_at_call 243; refine (gain_any g l _ p e _ hv1 (by omega) hpl (by omega) hse HLB.out).mono ?_; rintro e' w3 ⟨rfl, hb3⟩; have hcell3 := keep hb3 hcell; have hfr3 : w3.frozen? ⟨w.heap.size + 1, e, none⟩ = false := (hb3.frozen (p := ⟨w.heap.size + 1, e, none⟩) hbw).trans hfr)
      have ow3 := (HW.out.keep hb3).stored (cornerTo_len l o k).symm e (gainL l p e) ⟨by omega, by omega⟩
      have X3 := ((Box2.mk d0 d1 B1 z1).after hb3).grow ow3.2 (by simp)
      have HW3 := Lib.hid ow3.1
      go_roundw
      case rel => exact ⟨k + 1, by omega, by go_num, by rw [HPK.out], by rw [HCK.out]; exact HW3.out, X3⟩
      case measure => simp [intOf]; omega
    · have hko : k = o.length := by omega
      subst hko
      go_wp2
      go_ret
      exact ⟨_, _, _, rfl, HW.out.mono (by omega), B1⟩
end Go.Proofs.YtipejodijbjpcaaGreatDoor
end
section
namespace Go.Proofs.YtipejodijbjpcaaGreatDoor
open Go.RowKit Go.G5

/-- the sets' elements together -/
def unionL (l : List Int) : Int := l.foldl ior 0
def isCoverB (g : Int) (l x : List Int) : Bool := isFamB g l && x.all (has l) && (unionL x == 2 ^ g.toNat - 1)

theorem fam_mem {g : Int} {l : List Int} (h : isFamB g l = true) : ∀ s ∈ l, 0 ≤ s ∧ s < 64 := by
  obtain ⟨h0, h6, hs, _⟩ := famOk h
  intro s hm
  have := hs s hm
  have := pow_le64 h0 h6
  omega

end Go.Proofs.YtipejodijbjpcaaGreatDoor
end
section
namespace Go.Proofs.YtipejodijbjpcaaGreatDoor
open Go.RowKit Go.G5

def allTo (p : Nat → Bool) : Nat → Bool
  | 0 => true
  | k + 1 => allTo p k && p k
theorem allTo_false {p : Nat → Bool} {k n : Nat} (h : k < n) (hp : p k = false) : allTo p n = false := by
  induction n with
  | zero => omega
  | succ n ih =>
    rw [allTo]
    by_cases hk : k = n
    · rw [← hk, hp]; simp
    · rw [ih (by omega)]; rfl
theorem allTo_succ {p : Nat → Bool} {k : Nat} (h : allTo p k = true) (hp : p k = true) : allTo p (k + 1) = true := by rw [allTo, h, hp]; rfl
theorem getD_at (l : List Int) (k : Nat) (h : k < l.length) : l.getD k 0 = l[k] := by rw [List.getD_eq_getElem?_getD, List.getElem?_eq_getElem h, Option.getD_some]

def meetB (l : List Int) (s : Int) : Bool := l.all fun t => iand t s != 0
set_option maxHeartbeats 400000 in
theorem meetsAll_any (l : List Int) (v : Value) (s : Int) (w : World) (hv : Ints w v l) (hm : ∀ x ∈ l, 0 ≤ x ∧ x < 64) (h0 : 0 ≤ s) (h1 : s < 64) :
    Calls Tryz.prog 151 #[v, .int .i64 s] w fun e w' => e = .returned (.bool (meetB l s)) ∧ w = w' := by
  obtain ⟨a, b, off, c, rfl, hlen, hix, hc, hb⟩ := hv.view Tryz.prog 22 3 Tryz.underlying22 intElem
  go_enter Tryz.func151, Tryz.ntmps151
  go_wp2
  go_loop [9] (fun i => ∃ k : Nat, k ≤ l.length ∧ i = .int .i64 k ∧ (l.take k).all (fun t => iand t s != 0) = true) (fun i => l.length - (intOf i).toNat)
  case atStart => exact ⟨0, Nat.zero_le _, rfl, by simp⟩
  case round =>
    obtain ⟨k, hk, rfl, hall⟩ := hrel
    have H := Lib.hid hall
    clear hall
    by_cases hlt : k < l.length
    · have hlk := hm _ (List.getElem_mem hlt)
      have hA := iand_is hlk.1 (show l[k] < 4611686018427387904 by omega) h0 (by omega)
      by_cases hz : iand l[k] s = 0
      · have ht : (iand l[k] s == 0) = true := by simp [hz]
        have hp : (iand l[k] s != 0) = false := by simp [hz]
        have HP := Lib.hid hp
        clear hz hp
        go_wp2
        go_ret
        exact ⟨ret_bool (by unfold meetB; rw [all_false_at _ _ _ hlt HP.out]), rfl⟩
      · have ht : (iand l[k] s == 0) = false := by simp [hz]
        have hp : (iand l[k] s != 0) = true := by simp [hz]
        have HP := Lib.hid hp
        clear hz hp
        go_wp2
        go_round
        case rel => exact ⟨k + 1, by omega, by go_num, by rw [all_take_succ _ _ _ hlt, H.out, HP.out]; rfl⟩
        case measure => simp [intOf]; omega
    · go_wp2
      go_ret
      exact ⟨ret_bool (by unfold meetB; rw [← all_of_take _ l k (by omega), H.out]), rfl⟩

end Go.Proofs.YtipejodijbjpcaaGreatDoor
end
section
namespace Go.Proofs.YtipejodijbjpcaaGreatDoor
open Go.RowKit Go.G5

def exL (l : List Int) (s i k : Nat) : Int := l.getD (setBit s i ||| setBit s k) 0 + l.getD s 0 - l.getD (setBit s i) 0 - l.getD (setBit s k) 0
def badB (l : List Int) (t : Tri) : Bool := decide (0 < exL l t.1 t.2.1 t.2.2)
def vstep (l : List Int) (a : Option Tri) (t : Tri) : Option Tri × Bool := if badB l t then (some t, false) else (a, a.isNone)
def violT (n : Nat) (l : List Int) : Option Tri := (runT (vstep l) (tri3 n (2 ^ n)) none).1
def violR (n : Int) (l : List Int) : Option Tri := if isFunB n l then violT n.toNat l else none
def violB (n : Int) (l : List Int) : Bool := (violR n l).isSome
def triL : Option Tri → List Int
  | none => []
  | some t => [(t.1 : Int), (t.2.1 : Int), (t.2.2 : Int)]
def violL (n : Int) (l : List Int) : List Int := triL (violR n l)
def subB (n : Int) (l : List Int) : Bool := isFunB n l && !violB n l
theorem or_again (s x y : Nat) : (s ||| x) ||| (s ||| y) = (s ||| x) ||| y := by
  apply Nat.eq_of_testBit_eq
  intro j
  simp only [Nat.testBit_or]
  cases s.testBit j <;> cases x.testBit j <;> cases y.testBit j <;> rfl
theorem setBit_or (s i k : Nat) : setBit s i ||| setBit s k = setBit (setBit s i) k := by unfold setBit; exact or_again s (2 ^ i) (2 ^ k)
theorem exL_bd (n : Nat) (l : List Int) (hl : l.length = 2 ^ n) (hb : ∀ k, (hk : k < l.length) → -1000 ≤ l[k] ∧ l[k] ≤ 1000) (s i k : Nat) (hs : s < 2 ^ n) (hi : i < n) (hk : k < n) : -4000 ≤ exL l s i k ∧ exL l s i k ≤ 4000 := by
  have h1 := setBit_lt s i n hs hi
  have h2 := setBit_lt s k n hs hk
  have h3 := setBit_lt (setBit s i) k n h1 hk
  rw [← setBit_or] at h3
  unfold exL
  rw [getD_at l _ (by omega), getD_at l _ (by omega), getD_at l _ (by omega), getD_at l _ (by omega)]
  have b1 := hb (setBit s i) (by omega)
  have b2 := hb (setBit s k) (by omega)
  have b3 := hb (setBit s i ||| setBit s k) (by omega)
  have b4 := hb s (by omega)
  omega
/-- a violation that is told is one -/
theorem viol_run (l : List Int) : ∀ (T : List Tri) (t : Tri), (runT (vstep l) T none).1 = some t → badB l t = true := by
  intro T
  induction T with
  | nil => intro t h; simp [runT] at h
  | cons u T ih =>
    intro t h
    rw [runT] at h
    by_cases hb : badB l u = true
    · have e : vstep l none u = (some u, false) := by unfold vstep; rw [if_pos hb]
      rw [e] at h
      simp at h
      rw [← h]; exact hb
    · have e : vstep l none u = (none, true) := by unfold vstep; rw [if_neg hb]; rfl
      rw [e] at h
      exact ih t h
end Go.Proofs.YtipejodijbjpcaaGreatDoor
end
section
namespace Go.Proofs.YtipejodijbjpcaaGreatDoor
open Go.RowKit Go.G5

def upB (l : List Int) (s e : Nat) : Bool := !decide (gainL l s e < 0)
def incB (n : Int) (l : List Int) : Bool := isFunB n l && allTo (fun s => allTo (upB l s) n.toNat) l.length
theorem fun_nat {n : Int} {l : List Int} (h : isFunB n l = true) : ∃ N : Nat, n = N ∧ N ≤ 5 ∧ l.length = 2 ^ N ∧ l.length ≤ 32 ∧ ∀ k, (hk : k < l.length) → -1000 ≤ l[k] ∧ l[k] ≤ 1000 := by
  obtain ⟨h0, h5, hlen, hlb⟩ := funOk h
  obtain ⟨N, rfl⟩ := Int.eq_ofNat_of_zero_le h0
  have hN5 : N ≤ 5 := by omega
  have hl2 : l.length = 2 ^ N := by
    have e2 : (N : Int).toNat = N := by omega
    rw [e2] at hlen
    exact_mod_cast hlen
  have p5 : (2 : Nat) ^ N ≤ 32 := Nat.pow_le_pow_right (n := 2) (by decide) hN5
  exact ⟨N, rfl, hN5, hl2, by omega, hlb⟩

set_option maxHeartbeats 2000000 in
set_option maxRecDepth 100000 in
theorem incI_any (n : Int) (l : List Int) (v : Value) (w : World) (hv : Ints w v l) :
    Calls Tryz.prog 381 #[.agg #[.int .i64 n, v]] w fun e w' => e = .returned (.bool (incB n l)) ∧ Below w.heap.size w w' := by
  have hv0 := hv
  obtain ⟨a, c, rfl⟩ := hv.shape
  have K0 := Blk.new w 32 #[.int .i64 n, .slice a l.length c]
  cases hf : isFunB n l with
  | false =>
    have hx : incB n l = false := by unfold incB; rw [hf]; rfl
    have HX := Lib.hid hx
    have HF := Lib.hid hf
    clear hx hf
    go_enter Tryz.func381, Tryz.ntmps381
    go_wp2_with (go_at_call 111; refine (isFunI_any n l _ _ (hv0.alloc _)).mono ?_; rintro e w1 ⟨rfl, hb1⟩; rw [HF.out])
    go_ret
    exact ⟨ret_bool HX.out.symm, (bl1 _ _).after hb1 (by simp)⟩
  | true =>
    obtain ⟨N, rfl, hN5, hl2, hl32, hlb⟩ := fun_nat hf
    have hx : incB N l = allTo (fun s => allTo (upB l s) N) l.length := by unfold incB; rw [hf]; simp
    obtain ⟨F, hF⟩ : ∃ F : Nat → Bool, F = fun s => allTo (upB l s) N := ⟨_, rfl⟩
    rw [← hF] at hx
    have HX := Lib.hid hx
    have HF := Lib.hid hf
    have HFF := Lib.hid hF
    have HLB := Lib.hid hlb
    have HL2 := Lib.hid hl2
    clear hx hf hF hlb hl2
    go_enter Tryz.func381, Tryz.ntmps381
    go_wp2_with fail
    refine (isFunI_any N l _ _ (hv0.alloc _)).mono ?_
    rintro e w1 ⟨rfl, hb1⟩
    rw [HF.out]
    have K1 := K0.keep hb1
    have B1 : Below w.heap.size w w1 := (bl1 _ _).after hb1 (by simp)
    have G1 := K1.cell
    clear K0 hb1
    go_wp2_with fail
    go_loopw [11] (fun i wr => ∃ s : Nat, s ≤ l.length ∧ i = .int .i64 s ∧ allTo F s = true ∧ Below w.heap.size w wr ∧ Blk wr w.heap.size 32 #[.int .i64 N, .slice a l.length c]) (fun i _ => l.length - (intOf i).toNat)
    case atStart => exact ⟨0, Nat.zero_le _, rfl, rfl, B1, K1⟩
    case round =>
      obtain ⟨s, hs, rfl, hall, B, K⟩ := hrel
      obtain ⟨wo, rfl⟩ : ∃ wo : World, wo = wr := ⟨_, rfl⟩
      have H := Lib.hid hall
      clear hall G1
      have G1 := K.cell
      by_cases hsl : s < l.length
      · have hFs : F s = allTo (upB l s) N := by rw [HFF.out]
        have HFS := Lib.hid hFs
        clear hFs
        go_wp2_with fail
        go_loopw [16] (fun i wr => ∃ k : Nat, k ≤ N ∧ i = .int .i64 k ∧ allTo (upB l s) k = true ∧ Below w.heap.size w wr ∧ Blk wr w.heap.size 32 #[.int .i64 N, .slice a l.length c]) (fun i _ => N - (intOf i).toNat)
        case atStart => exact ⟨0, Nat.zero_le _, rfl, rfl, B, K⟩
        case round =>
          obtain ⟨k, hk, rfl, hall, B2, K2⟩ := hrel
          obtain ⟨wi, rfl⟩ : ∃ wo : World, wo = wr := ⟨_, rfl⟩
          have H2 := Lib.hid hall
          clear hall G1
          have G1 := K2.cell
          by_cases hkn : k < N
          · have hse : setBit s k < l.length := by rw [HL2.out] at hsl ⊢; exact setBit_lt _ _ _ hsl hkn
            have hg := gain_any N l _ s k wi (hv0.below B2 (Nat.le_refl _)) (by omega) hsl (by omega) hse HLB.out
            have hup : upB l s k = !decide (gainL l s k < 0) := rfl
            obtain ⟨q, hq⟩ : ∃ q, q = gainL l s k := ⟨_, rfl⟩
            rw [← hq] at hg hup
            have HG := Lib.hid hg
            have HUP := Lib.hid hup
            clear hg hup hq
            by_cases hneg : q < 0
            · have hu : upB l s k = false := by rw [HUP.out, decide_eq_true hneg]; rfl
              have hbad : incB N l = false := by rw [HX.out]; exact allTo_false hsl (by rw [HFS.out]; exact allTo_false hkn hu)
              have HBAD := Lib.hid hbad
              clear hu hbad
              go_wp2_with (go_at_call 243; refine HG.out.mono ?_; rintro e w3 ⟨rfl, hb3⟩)
              go_ret
              exact ⟨ret_bool HBAD.out.symm, B2.after hb3 B2.size⟩
            · have hu : upB l s k = true := by rw [HUP.out, decide_eq_false hneg]; rfl
              have HU := Lib.hid hu
              clear hu
              go_wp2_with (go_at_call 243; refine HG.out.mono ?_; rintro e w3 ⟨rfl, hb3⟩)
              go_roundw
              case rel => exact ⟨k + 1, by omega, by go_num, allTo_succ H2.out HU.out, B2.after hb3 B2.size, K2.keep hb3⟩
              case measure => simp [intOf]; omega
          · have hkN : k = N := by omega
            subst hkN
            go_wp2
            go_roundw
            case rel => exact ⟨s + 1, by omega, by go_num, allTo_succ H.out (by rw [HFS.out]; exact H2.out), B2, K2⟩
            case measure => simp [intOf]; omega
      · have hsl' : s = l.length := by omega
        subst hsl'
        go_wp2
        go_ret
        exact ⟨ret_bool (by rw [HX.out, H.out]), B⟩
end Go.Proofs.YtipejodijbjpcaaGreatDoor
end
section
namespace Go.Proofs.YtipejodijbjpcaaGreatDoor
open Go.RowKit Go.G5

end Go.Proofs.YtipejodijbjpcaaGreatDoor
end
