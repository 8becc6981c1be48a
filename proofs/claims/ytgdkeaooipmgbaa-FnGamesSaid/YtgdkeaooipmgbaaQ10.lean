/- Orders of elements, and the gains along an order. Draws: functions. -/
import Derived.Test.YtgdkeaooipmgbaaQ09
section
namespace Go.Proofs.Ytgdkeaooipmgbaa
open Go.RowKit Go.G5

theorem lt_of_cell' {w : World} {a : Addr} {v : Value} (h : w.cell? a = some v) : a.block < w.heap.size := World.block_lt_of_cell? w a h

/-! what is a member -/
set_option maxHeartbeats 400000 in
theorem slIndex_any (l : List Int) (v : Value) (s : Int) (w : World) (hv : Ints w v l) :
    Calls Try.prog 80 #[v, .int .i64 s] w fun e w' => (∃ i : Int, e = .returned (.int .i64 i) ∧ (0 ≤ i ↔ has l s = true) ∧ -1 ≤ i ∧ i ≤ 9223372036854775807) ∧ w = w' := by
  obtain ⟨a, b, off, c, rfl, hlen, hix, hc, hb⟩ := hv.view Try.prog 24 3 Try.underlying24 intElem
  go_enter Try.func80, Try.ntmps80
  go_wp2
  go_loop [8] (fun i => ∃ k : Nat, k ≤ l.length ∧ i = .int .i64 k ∧ ∀ j, (hj : j < l.length) → j < k → l[j] ≠ s) (fun i => l.length - (intOf i).toNat)
  case atStart => exact ⟨0, Nat.zero_le _, rfl, fun j _ h => by omega⟩
  case round =>
    obtain ⟨k, hk, rfl, hall⟩ := hrel
    have H := Lib.hid hall
    clear hall
    by_cases hlt : k < l.length
    · have hck := hc k hlt
      by_cases he : s = l[k]
      · have ht : (s == l[k]) = true := by simp [he]
        have hh : has l s = true := by rw [he]; exact has_at l k hlt
        have HH := Lib.hid hh
        clear he hh
        go_wp2
        go_ret
        exact ⟨⟨k, rfl, by rw [HH.out]; simp, by omega, by omega⟩, rfl⟩
      · have ht : (s == l[k]) = false := by simp [he]
        go_wp2
        go_round
        case rel =>
          refine ⟨k + 1, by omega, by go_num, fun j hj hjk => ?_⟩
          by_cases h : j < k
          · exact H.out j hj h
          · have : j = k := by omega
            subst this
            exact fun h => he h.symm
        case measure => simp [intOf]; omega
    · have hh : has l s = false := has_false fun j hj => H.out j hj (by omega)
      have HH := Lib.hid hh
      clear hh
      go_wp2
      go_ret
      exact ⟨⟨-1, rfl, by rw [HH.out]; simp, by omega, by omega⟩, rfl⟩

theorem slContains_any (l : List Int) (v : Value) (s : Int) (w : World) (hv : Ints w v l) :
    Calls Try.prog 69 #[v, .int .i64 s] w fun e w' => e = .returned (.bool (has l s)) ∧ w = w' := by
  obtain ⟨a, c, rfl⟩ := hv.shape
  go_enter Try.func69, Try.ntmps69
  go_wp2_with (go_at_call 80; refine (slIndex_any l _ s _ hv).mono ?_; rintro e w' ⟨⟨i, rfl, hi, hi1, hi2⟩, rfl⟩; have HI := Lib.hid hi; clear hi)
  go_ret
  refine ⟨ret_bool ?_, rfl⟩
  cases hh : has l s with
  | true => have := HI.out.2 hh; simpa using this
  | false =>
    have h : ¬ 0 ≤ i := fun h => by rw [HI.out.1 h] at hh; cases hh
    simpa using h

/-! gains -/
def setBit (s e : Nat) : Nat := s ||| 2 ^ e
def gainL (l : List Int) (s e : Nat) : Int := l.getD (setBit s e) 0 - l.getD s 0

theorem setBit_is (s e : Nat) (hs : s < 4611686018427387904) (he : e < 6) : bits .or .i64 (s : Int) (2 ^ e) = ((setBit s e : Nat) : Int) := by
  have hp := Nat.pow_lt_pow_right (show 1 < 2 by decide) he
  have := bitsO s (2 ^ e) (by omega) (by simp at hp; omega)
  unfold setBit
  rw [← this]; push_cast; rfl
theorem setBit_lt (s e n : Nat) (hs : s < 2 ^ n) (he : e < n) : setBit s e < 2 ^ n := Nat.or_lt_two_pow hs (Nat.pow_lt_pow_right (by decide) he)

set_option maxHeartbeats 400000 in
theorem gain_any (n : Int) (l : List Int) (v : Value) (s e : Nat) (w : World) (hv : Ints w v l) (hl : l.length ≤ 64) (hs : s < l.length) (he : e < 6) (hse : setBit s e < l.length) (hlb : ∀ k, (hk : k < l.length) → -1000 ≤ l[k] ∧ l[k] ≤ 1000) :
    Calls Try.prog 48 #[.agg #[.int .i64 n, v], .int .i64 (s : Int), .int .i64 (e : Int)] w fun e' w' => e' = .returned (.int .i64 (gainL l s e)) ∧ Below w.heap.size w w' := by
  obtain ⟨a, b, off, c, rfl, hlen, hix, hc, hb⟩ := hv.view Try.prog 24 3 Try.underlying24 intElem
  have hc1 := cells_below hc hb (bl1 w (.cells #[.int .i64 n, .slice a l.length c] 26)) (Nat.le_refl _)
  have h1 := hlb s hs
  have h2 := hlb _ hse
  have hg : gainL l s e = l[setBit s e] - l[s] := by
    unfold gainL
    rw [List.getD_eq_getElem?_getD, List.getD_eq_getElem?_getD, List.getElem?_eq_getElem hs, List.getElem?_eq_getElem hse]; rfl
  have hor := setBit_is s e (by omega) he
  have hc2 := hc1 _ hse
  have hc3 := hc1 s hs
  have hi2 := fun w' => hix w' _ hse
  have hi3 := fun w' => hix w' s hs
  have hp64 := two_pow e 6 (by omega)
  have hp1 : (2 : Int) ^ e ≤ 64 := by simpa using hp64.1
  have hp2 := hp64.2
  have he0 : (0 : Int) ≤ (e : Int) := Int.natCast_nonneg _
  obtain ⟨x, hx⟩ : ∃ x, x = l[setBit s e] := ⟨_, rfl⟩
  obtain ⟨y, hy⟩ : ∃ y, y = l[s] := ⟨_, rfl⟩
  obtain ⟨q, hq⟩ : ∃ q, q = setBit s e := ⟨_, rfl⟩
  rw [← hx] at hg h2 hc2
  rw [← hy] at hg h1 hc3
  rw [← hq] at hor hi2 hc2
  have hw : IntKind.i64.wrap (x - y) = x - y := by rw [IntKind.wrap_i64]; omega
  have HG := Lib.hid hg
  clear hg hlb hc hb hc1 hix hx hy hq hp64 hse hs
  go_enter Try.func48, Try.ntmps48
  go_wp2
  go_quiet (fail)
  go_wp2
  go_ret
  exact ⟨ret_int (by rw [HG.out]), (bl1 _ _).drewN' _⟩

/-! the gains along an order -/
def prefS (o : List Int) : Nat → Nat
  | 0 => 0
  | k + 1 => setBit (prefS o k) (o.getD k 0).toNat
def cornerTo (l o : List Int) : Nat → List Int
  | 0 => List.replicate o.length 0
  | k + 1 => (cornerTo l o k).set (o.getD k 0).toNat (gainL l (prefS o k) (o.getD k 0).toNat)
def cornerL (l o : List Int) : List Int := cornerTo l o o.length
theorem cornerTo_len (l o : List Int) (k : Nat) : (cornerTo l o k).length = o.length := by
  induction k with
  | zero => simp [cornerTo]
  | succ k ih => simp [cornerTo, ih]
theorem prefS_lt (o : List Int) (n k : Nat) (h : ∀ x ∈ o, 0 ≤ x ∧ x < n) (hk : k ≤ o.length) : prefS o k < 2 ^ n := by
  induction k with
  | zero => exact Nat.two_pow_pos n
  | succ k ih =>
    have hm := h _ (List.getElem_mem (show k < o.length by omega))
    rw [prefS, List.getD_eq_getElem?_getD, List.getElem?_eq_getElem (show k < o.length by omega), Option.getD_some]
    exact setBit_lt _ _ _ (ih (by omega)) (by omega)
theorem gainL_bd (l : List Int) (s e : Nat) (hs : s < l.length) (hse : setBit s e < l.length) (hlb : ∀ k, (hk : k < l.length) → -1000 ≤ l[k] ∧ l[k] ≤ 1000) : -2000 ≤ gainL l s e ∧ gainL l s e ≤ 2000 := by
  have h1 := hlb s hs
  have h2 := hlb _ hse
  unfold gainL
  rw [List.getD_eq_getElem?_getD, List.getD_eq_getElem?_getD, List.getElem?_eq_getElem hs, List.getElem?_eq_getElem hse, Option.getD_some, Option.getD_some]
  omega

set_option maxHeartbeats 1000000 in
set_option maxRecDepth 100000 in
theorem corner_any (g : Int) (l o : List Int) (v u : Value) (w : World) (hv : Ints w v l) (hu : Ints w u o) (hn : o.length ≤ 5) (hl : l.length = 2 ^ o.length) (hlb : ∀ k, (hk : k < l.length) → -1000 ≤ l[k] ∧ l[k] ≤ 1000) (ho : ∀ x ∈ o, 0 ≤ x ∧ x < o.length) :
    Calls Try.prog 44 #[.agg #[.int .i64 g, v], u] w fun e w' => ∃ ad i c, e = .returned (.slice ad i c) ∧ OwnI 3 w.heap.size w' (.slice ad i c) (cornerL l o) ∧ Below w.heap.size w w' := by
  obtain ⟨av, cv, rfl⟩ := hv.shape
  obtain ⟨a, b, off, c, rfl, hlen, hix, hc, hb⟩ := hu.view Try.prog 24 3 Try.underlying24 intElem
  have hl32 : l.length ≤ 32 := by rw [hl]; exact Nat.pow_le_pow_right (by decide) hn
  have X0 := Box2.new w g (.slice av l.length cv) 26
  have HL := Lib.hid hl
  have HLB := Lib.hid hlb
  have HO := Lib.hid ho
  clear hl hlb ho
  go_enter Try.func44, Try.ntmps44
  go_wp2_with (at_make; refine wpList_makeI rfl _ _ _ rfl 3 Try.underlying24 intElem o.length _ _ rfl rfl rfl rfl (by omega) ?_; intro w2 hown hg)
  have X2 := X0.grow hg (by simp)
  simp at hown
  clear X0 hg
  go_loopw [6, 14] (fun s i wr => ∃ k : Nat, k ≤ o.length ∧ i = .int .i64 k ∧ s = .int .i64 (prefS o k) ∧ OwnI 3 (w.heap.size + 1) wr (.slice (some ⟨w.heap.size + 1, 0, none⟩) o.length o.length) (cornerTo l o k) ∧ Box2 w wr g (.slice av l.length cv))
    (fun _ i _ => o.length - (intOf i).toNat)
  case atStart => exact ⟨0, Nat.zero_le _, rfl, rfl, hown, X2⟩
  case round =>
    obtain ⟨k, hk, rfl, rfl, ow, X⟩ := hrel
    clear hown X2
    have HW := Lib.hid ow
    clear ow
    obtain ⟨d0, d1, B1, z1⟩ := X
    by_cases hlt : k < o.length
    · have hck := cells_below hc hb B1 (Nat.le_refl _) k hlt
      have hm := HO.out _ (List.getElem_mem hlt)
      obtain ⟨e, he⟩ : ∃ e : Nat, o[k] = (e : Int) := ⟨o[k].toNat, by omega⟩
      rw [he] at hck
      have heo : e < o.length := by omega
      have hgd : (o.getD k 0).toNat = e := by rw [List.getD_eq_getElem?_getD, List.getElem?_eq_getElem hlt, Option.getD_some, he]; omega
      have hpl := prefS_lt o o.length k HO.out hk
      rw [← HL.out] at hpl
      have hse : setBit (prefS o k) e < l.length := by rw [HL.out] at hpl ⊢; exact setBit_lt _ _ _ hpl heo
      have hpk : prefS o (k + 1) = setBit (prefS o k) e := by rw [prefS, hgd]
      have hck1 : cornerTo l o (k + 1) = (cornerTo l o k).set e (gainL l (prefS o k) e) := by rw [cornerTo, hgd]
      have hgb := gainL_bd l (prefS o k) e hpl hse HLB.out
      obtain ⟨p, hp⟩ : ∃ p, p = prefS o k := ⟨_, rfl⟩
      rw [← hp] at hpl hse hpk hck1 hgb ⊢
      have hor := setBit_is p e (by omega) (by omega)
      have hp64 := two_pow e 6 (by omega)
      have hp1 : (2 : Int) ^ e ≤ 64 := by simpa using hp64.1
      have hp2 := hp64.2
      have hv1 := hv.below B1 (Nat.le_refl _)
      have HPK := Lib.hid hpk
      have HCK := Lib.hid hck1
      have hlen2 : o.length = (cornerTo l o k).length := (cornerTo_len l o k).symm
      have hcell : ∃ q, wr.cell? ⟨w.heap.size + 1, e, none⟩ = some q := ⟨_, HW.out.cellAt hlen2 e (by omega)⟩
      obtain ⟨q, hcell⟩ := hcell
      have hfr := HW.out.frozenAt hlen2 e
      have hbw : w.heap.size + 1 < wr.heap.size := lt_of_cell' hcell
      have he0 : (0 : Int) ≤ (e : Int) := Int.natCast_nonneg _
      have heo1 : (e : Int) < (o.length : Int) := by omega
      clear hp he hgd hpk hck1 hm hlen2 hp64
      go_wp2_with (go_at_call 48; refine (gain_any g l _ p e _ hv1 (by omega) hpl (by omega) hse HLB.out).mono ?_; rintro e' w3 ⟨rfl, hb3⟩; have hcell3 := keep hb3 hcell; have hfr3 : w3.frozen? ⟨w.heap.size + 1, e, none⟩ = false := (hb3.frozen (p := ⟨w.heap.size + 1, e, none⟩) hbw).trans hfr)
      have ow3 := (HW.out.keep hb3).stored (cornerTo_len l o k).symm e (gainL l p e) ⟨by omega, by omega⟩
      have X3 := ((Box2.mk d0 d1 B1 z1).after hb3).grow ow3.2 (by simp)
      have HW3 := Lib.hid ow3.1
      go_roundw
      case rel => exact ⟨k + 1, by omega, by go_num, by rw [HPK.out], by rw [HCK.out]; exact HW3.out, X3⟩
      case measure => simp [intOf]; omega
    · have hko : k = o.length := by omega
      subst hko
      go_wp2
      go_ret
      exact ⟨_, _, _, rfl, HW.out.mono (by omega), B1⟩
end Go.Proofs.Ytgdkeaooipmgbaa
end
section
namespace Go.Proofs.Ytgdkeaooipmgbaa
open Go.RowKit Go.G5

set_option maxHeartbeats 4000000 in
set_option maxRecDepth 100000 in
theorem l2Cover_any (w : World) (g : Nat) (D : Dr w g) (N : Nat) (hN : N ≤ 5) :
    Calls Try.prog 85 #[.pointer (some ⟨g, 0, none⟩), .int .i64 (N : Int)] w fun e w' => ∃ (ad : Option Addr) (cp : Nat) (L : List Int), e = .returned (.slice ad (2 ^ N) cp) ∧ OwnI 3 w.heap.size w' (.slice ad (2 ^ N) cp) L ∧ L.length = 2 ^ N ∧ (∀ x ∈ L, -1000 ≤ x ∧ x ≤ 1000) ∧ Dr w' g ∧ w.grownBy w' (some g) := by
  have hp5 : (2 : Nat) ^ N ≤ 32 := Nat.pow_le_pow_right (n := 2) (by decide) hN
  have hpi : ((2 ^ N : Nat) : Int) = (2 : Int) ^ N := by simp
  have tp := two_pow N 5 hN
  have hp1 : (2 : Int) ^ N ≤ 32 := by rw [← hpi]; omega
  have hp2 := tp.2
  clear tp
  go_enter Try.func85, Try.ntmps85
  go_wp2_with fail
  refine calls_named ?_
  intro V hV
  have oa : OwnI 3 w.heap.size V (.slice (some ⟨w.heap.size, 0, none⟩) 0 0) [] := by rw [hV]; exact (OwnI.lit0 w (Nat.le_refl _)).alloc _
  have ob : OwnI 3 w.heap.size V (.slice (some ⟨w.heap.size + 1, 0, none⟩) 0 0) [] := by rw [hV]; exact (OwnI.lit0' w _)
  have ap : Apart (.slice (some ⟨w.heap.size, 0, none⟩) 0 0) (.slice (some ⟨w.heap.size + 1, 0, none⟩) 0 0) := fun k h1 h2 => by
    have e1 : w.heap.size = k := Option.some.inj h1
    have e2 : w.heap.size + 1 = k := Option.some.inj h2
    omega
  have C : Cur w V g := by rw [hV]; exact ((Cur.start D).alloc _).alloc _
  clear hV
  refine (l1Below_any V g C.D 5).mono ?_
  rintro e w1 ⟨m, rfl, _, hm, _, D1, g1⟩
  have hm := hm (by omega)
  have oa := oa.cur0 C.zg g1
  have ob := ob.cur0 C.zg g1
  have C := C.next D1 g1
  obtain ⟨M, rfl⟩ := Int.eq_ofNat_of_zero_le hm.1
  have hM : M ≤ 4 := by omega
  clear g1 D1 hm
  go_wp2_with fail
  go_loopw [5, 6, 7] (fun a s k wr => ∃ (a1 : Option Addr) (n1 c1 : Nat) (a2 : Option Addr) (n2 c2 : Nat) (A S : List Int) (j : Nat), a = .slice a1 n1 c1 ∧ s = .slice a2 n2 c2 ∧ k = .int .i64 j ∧ j + A.length ≤ 4 ∧ S.length = A.length ∧ (∀ x ∈ A, 0 ≤ x ∧ x ≤ 4) ∧ OwnI 3 w.heap.size wr (.slice a1 n1 c1) A ∧ OwnI 3 w.heap.size wr (.slice a2 n2 c2) S ∧ Apart (.slice a1 n1 c1) (.slice a2 n2 c2) ∧ Cur w wr g) (fun _ _ k _ => (intOf k).toNat)
  case atStart => exact ⟨_, _, _, _, _, _, [], [], M, rfl, rfl, rfl, by simpa using hM, rfl, by simp, oa, ob, ap, C⟩
  case round =>
    obtain ⟨a1, n1, c1, a2, n2, c2, A, S, j, rfl, rfl, rfl, hjA, hSA, hA, oa', ob', ap', Cr⟩ := hrel
    clear oa ob ap C
    by_cases h0 : 0 < j
    · have h1 : (0 : Int) < (j : Int) := by omega
      have hsh : IntKind.i64.wrap ((2 : Int) ^ N) = (2 : Int) ^ N := by rw [IntKind.wrap_i64]; omega
      have HSA := Lib.hid (And.intro hSA (And.intro hA hpi))
      clear hSA hA hpi
      go_wp2_with fail
      refine (l1Below_any wr g Cr.D 3).mono ?_
      rintro e w3 ⟨x, rfl, _, hx, _, D3, g3⟩
      have hx := hx (by omega)
      have oa3 := oa'.cur0 Cr.zg g3
      have ob3 := ob'.cur0 Cr.zg g3
      have C3 := Cr.next D3 g3
      have hx0 := hx.1
      have hx1 := hx.2
      have z3 := C3.size
      clear Cr oa' ob' D3 g3 hx
      go_wp2_with (at_builtin; refine wpList_appendN1 rfl _ _ _ rfl 3 Try.underlying24 intElem w.heap.size (.slice a1 n1 c1) A (1 + x) _ rfl rfl (cell_new _ _ _ _ _ rfl) (oa3.alloc _) ⟨by omega, by omega⟩ (by omega) (by simp; omega) ?_; intro v5 w5 o5 g5 h5; obtain ⟨p5, i5, q5, rfl⟩ := o5.shape3; have ob5 := (ob3.alloc (.cells #[.int .i64 (1 + x)] 3)).growA g5 ap'; have ap5 := h5.apart ap' (fun q hq => (((ob3.alloc (.cells #[.int .i64 (1 + x)] 3))).lt q hq).2); have C5 := (C3.alloc (.cells #[.int .i64 (1 + x)] 3)).row g5 (fun q hq => (oa3.lt q hq).1))
      refine (l1Below_any w5 g C5.D _).mono ?_
      rintro e w6 ⟨y, rfl, hyR, _, _, D6, g6⟩
      have oa6 := o5.cur0 C5.zg g6
      have ob6 := ob5.cur0 C5.zg g6
      have C6 := C5.next D6 g6
      have z6 := C6.size
      clear C5 o5 ob5 D6 g6 C3 oa3 ob3
      have HA6 := Lib.hid oa6
      have hS4 : S.length ≤ 4 := by have := HSA.out.1; omega
      go_wp2_with (at_builtin; refine wpList_appendN1 rfl _ _ _ rfl 3 Try.underlying24 intElem w.heap.size (.slice a2 n2 c2) S y _ rfl rfl (cell_new _ _ _ _ _ rfl) (ob6.alloc _) hyR (by omega) (by simp; omega) ?_; intro v7 w7 o7 g7 h7; obtain ⟨p7, i7, q7, rfl⟩ := o7.shape3; have oa7 := (oa6.alloc (.cells #[.int .i64 y] 3)).growA g7 ap5.symm; have ap7 := (h7.apart ap5.symm (fun q hq => (((oa6.alloc (.cells #[.int .i64 y] 3))).lt q hq).2)).symm; have C7 := (C6.alloc (.cells #[.int .i64 y] 3)).row g7 (fun q hq => (ob6.lt q hq).1))
      go_roundw
      case rel =>
        refine ⟨p5, i5, q5, p7, i7, q7, A ++ [1 + x], S ++ [y], j - 1, rfl, rfl, by go_num, by simp; omega, by simp; exact HSA.out.1, fun z hz => ?_, oa7, o7, ap7, C7⟩
        rcases List.mem_append.1 hz with hz | hz
        · exact HSA.out.2.1 z hz
        · rw [List.mem_singleton.1 hz]; omega
      case measure => simp [intOf]; omega
    · have h1 : ¬ (0 : Int) < (j : Int) := by omega
      have hsh : IntKind.i64.wrap ((2 : Int) ^ N) = (2 : Int) ^ N := by rw [IntKind.wrap_i64]; omega
      have hn1 := oa'.shape3
      obtain ⟨a1', c1', hs1⟩ := oa'.ints.shape
      injection hs1 with e1 e2 e3
      subst e1 e2 e3
      obtain ⟨a2', c2', hs2⟩ := ob'.ints.shape
      injection hs2 with e1 e2 e3
      subst e1 e2 e3
      obtain ⟨WB, hWB⟩ : ∃ WB : World, WB = wr := ⟨_, rfl⟩
      subst hWB
      obtain ⟨xa, ba, offa, ya, hva, _, ixa, ca, bba⟩ := oa'.ints.view Try.prog 24 3 Try.underlying24 intElem
      obtain ⟨xs, bs, offs, ys, hvs, _, ixs, cs, bbs⟩ := ob'.ints.view Try.prog 24 3 Try.underlying24 intElem
      injection hva with e1 _ e3
      subst e1 e3
      injection hvs with e1 _ e3
      subst e1 e3
      have o0 := OwnI.lit0 (E := 3) (B := WB.heap.size) WB (Nat.le_refl _)
      have zW := Cr.size
      have HC := Lib.hid Cr
      have HX := Lib.hid (And.intro ixa ixs)
      have HCS := Lib.hid (And.intro (And.intro ca bba) (And.intro cs bbs))
      have HSA := Lib.hid (And.intro hSA (And.intro hA hpi))
      clear Cr ixa ixs ca cs bba bbs hSA hA oa' ob' ap' hpi
      go_wp2_with fail
      go_loopw [8, 9] (fun v i wr => ∃ (s : Nat) (ad : Option Addr) (nn cp : Nat) (L : List Int), s ≤ 2 ^ N ∧ v = .slice ad nn cp ∧ i = .int .i64 s ∧ L.length = s ∧ (∀ x ∈ L, -1000 ≤ x ∧ x ≤ 1000) ∧ OwnI 3 WB.heap.size wr (.slice ad nn cp) L ∧ Below WB.heap.size WB wr) (fun _ i _ => 2 ^ N - (intOf i).toNat)
      case atStart => exact ⟨0, _, _, _, [], Nat.zero_le _, rfl, rfl, rfl, by simp, o0, bl1 _ _⟩
      case round =>
        obtain ⟨s, ad, nn, cp, L, hs, rfl, rfl, hLs, hL, ho, Bw⟩ := hrel
        clear o0
        obtain ⟨WC, hWC⟩ : ∃ WC : World, WC = wr := ⟨_, rfl⟩
        subst hWC
        have HL := Lib.hid (And.intro hLs hL)
        have HO := Lib.hid ho
        have hL32 : L.length ≤ 32 := by omega
        clear hLs hL ho
        by_cases hlt : s < 2 ^ N
        · have hlt2 : (s : Int) < (2 : Int) ^ N := by rw [← HSA.out.2.2]; exact_mod_cast hlt
          have hca := cells_below HCS.out.1.1 HCS.out.1.2 Bw (Nat.le_refl _)
          have hcs := cells_below HCS.out.2.1 HCS.out.2.2 Bw (Nat.le_refl _)
          have HCA := Lib.hid hca
          have HCSS := Lib.hid hcs
          clear hca hcs
          go_wp2_with fail
          go_loop [10, 11] (fun x i => ∃ (k : Nat) (X : Int), k ≤ A.length ∧ i = .int .i64 k ∧ x = .int .i64 X ∧ 0 ≤ X ∧ X ≤ 4 * k) (fun _ i => A.length - (intOf i).toNat)
          case atStart => exact ⟨0, 0, Nat.zero_le _, rfl, rfl, by omega, by omega⟩
          case round =>
            obtain ⟨k, X, hk, rfl, rfl, hX0, hX1⟩ := hrel
            by_cases hkl : k < A.length
            · have hks : k < S.length := by have := HSA.out.1; omega
              have cka := HCA.out k hkl
              have cks := HCSS.out k hks
              have ia := fun W => HX.out.1 W k hkl
              have is := fun W => HX.out.2 W k hks
              have hb := HSA.out.2.1 _ (List.getElem_mem hkl)
              obtain ⟨y, hy⟩ : ∃ y, y = A[k] := ⟨_, rfl⟩
              obtain ⟨z, hz⟩ : ∃ y, y = S[k] := ⟨_, rfl⟩
              rw [← hy] at cka hb
              rw [← hz] at cks
              have hb0 := hb.1
              have hb1 := hb.2
              clear hy hz hb
              obtain ⟨t, ht⟩ : ∃ t, (bits .and .i64 z (s : Int) != 0) = t := ⟨_, rfl⟩
              cases t with
              | false =>
                go_wp2
                go_round
                case rel => exact ⟨k + 1, X, by omega, by go_num, rfl, hX0, by omega⟩
                case measure => simp [intOf]; omega
              | true =>
                go_wp2
                go_round
                case rel => exact ⟨k + 1, X + y, by omega, by go_num, rfl, by omega, by omega⟩
                case measure => simp [intOf]; omega
            · have hkl2 : ¬ (k : Int) < (A.length : Int) := by omega
              have hX2 : X ≤ 1000 := by omega
              have zC := Bw.size
              go_wp2_with (at_builtin; refine wpList_appendN1 rfl _ _ _ rfl 3 Try.underlying24 intElem WB.heap.size _ L X _ rfl rfl (cell_new _ _ _ _ _ rfl) (HO.out.alloc _) ⟨by omega, by omega⟩ (by omega) (by simp; omega) ?_; intro v5 w5 o5 g5 h5; obtain ⟨p5, i5, q5, rfl⟩ := o5.shape3)
              have B5 := (Bw.alloc zC (.cells #[.int .i64 X] 3)).grown g5 (by simp; omega) (fun q hq => (HO.out.lt q hq).1)
              go_roundw
              case rel =>
                refine ⟨s + 1, p5, i5, q5, L ++ [X], by omega, rfl, by go_num, by simp; exact HL.out.1, fun z hz => ?_, o5, B5⟩
                rcases List.mem_append.1 hz with hz | hz
                · exact HL.out.2 z hz
                · rw [List.mem_singleton.1 hz]; omega
              case measure => simp [intOf]; omega
        · have hlt2 : ¬ (s : Int) < (2 : Int) ^ N := by rw [← HSA.out.2.2]; exact_mod_cast hlt
          have hsN : s = 2 ^ N := by omega
          have hnn : nn = 2 ^ N := by rw [HO.out.ints.capLe.1, HL.out.1]; exact hsN
          have HNN := Lib.hid hnn
          clear hnn hsN
          go_wp2
          go_ret
          refine ⟨ad, cp, by rw [← HNN.out]; rfl, L, ?_, by rw [HL.out.1, ← HNN.out, HO.out.ints.capLe.1, HL.out.1], HL.out.2, (HC.out.keep Bw).D, (HC.out.keep Bw).gr⟩
          rw [← HNN.out]
          exact HO.out.mono zW
end Go.Proofs.Ytgdkeaooipmgbaa
end
