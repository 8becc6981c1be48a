/- Families whose sets meet. Violations: what is computed. Increasing functions. Increasing functions: the second program. Rows of ints that a call owns, their slice perhaps shorter in capacity than the block; sorting. -/
import Derived.Test.YtelmokapdkepbaaGreatDoorQ08
import Derived.Sort.Grow
section
namespace Go.Proofs.YtelmokapdkepbaaGreatDoor
open Go.RowKit Go.G5

def allTo (p : Nat → Bool) : Nat → Bool
  | 0 => true
  | k + 1 => allTo p k && p k
theorem allTo_false {p : Nat → Bool} {k n : Nat} (h : k < n) (hp : p k = false) : allTo p n = false := by
  induction n with
  | zero => omega
  | succ n ih =>
    rw [allTo]
    by_cases hk : k = n
    · rw [← hk, hp]; simp
    · rw [ih (by omega)]; rfl
theorem allTo_succ {p : Nat → Bool} {k : Nat} (h : allTo p k = true) (hp : p k = true) : allTo p (k + 1) = true := by rw [allTo, h, hp]; rfl
theorem getD_at (l : List Int) (k : Nat) (h : k < l.length) : l.getD k 0 = l[k] := by rw [List.getD_eq_getElem?_getD, List.getElem?_eq_getElem h, Option.getD_some]

def meetB (l : List Int) (s : Int) : Bool := l.all fun t => iand t s != 0
def interB (g : Int) (l : List Int) : Bool := isFamB g l && l.all (meetB l)
def meetS (l : List Int) : Bool := allTo (fun i => allTo (fun k => iand (l.getD i 0) (l.getD k 0) != 0) (i + 1)) l.length

set_option maxHeartbeats 400000 in
theorem meetsAll_any (l : List Int) (v : Value) (s : Int) (w : World) (hv : Ints w v l) (hm : ∀ x ∈ l, 0 ≤ x ∧ x < 64) (h0 : 0 ≤ s) (h1 : s < 64) :
    Calls Tryz.prog 106 #[v, .int .i64 s] w fun e w' => e = .returned (.bool (meetB l s)) ∧ w = w' := by
  obtain ⟨a, b, off, c, rfl, hlen, hix, hc, hb⟩ := hv.view Tryz.prog 22 3 Tryz.underlying22 intElem
  go_enter Tryz.func106, Tryz.ntmps106
  go_wp2
  go_loop [9] (fun i => ∃ k : Nat, k ≤ l.length ∧ i = .int .i64 k ∧ (l.take k).all (fun t => iand t s != 0) = true) (fun i => l.length - (intOf i).toNat)
  case atStart => exact ⟨0, Nat.zero_le _, rfl, by simp⟩
  case round =>
    obtain ⟨k, hk, rfl, hall⟩ := hrel
    have H := Lib.hid hall
    clear hall
    by_cases hlt : k < l.length
    · have hlk := hm _ (List.getElem_mem hlt)
      have hA := iand_is hlk.1 (show l[k] < 4611686018427387904 by omega) h0 (by omega)
      by_cases hz : iand l[k] s = 0
      · have ht : (iand l[k] s == 0) = true := by simp [hz]
        have hp : (iand l[k] s != 0) = false := by simp [hz]
        have HP := Lib.hid hp
        clear hz hp
        go_wp2
        go_ret
        exact ⟨ret_bool (by unfold meetB; rw [all_false_at _ _ _ hlt HP.out]), rfl⟩
      · have ht : (iand l[k] s == 0) = false := by simp [hz]
        have hp : (iand l[k] s != 0) = true := by simp [hz]
        have HP := Lib.hid hp
        clear hz hp
        go_wp2
        go_round
        case rel => exact ⟨k + 1, by omega, by go_num, by rw [all_take_succ _ _ _ hlt, H.out, HP.out]; rfl⟩
        case measure => simp [intOf]; omega
    · go_wp2
      go_ret
      exact ⟨ret_bool (by unfold meetB; rw [← all_of_take _ l k (by omega), H.out]), rfl⟩

set_option maxHeartbeats 1000000 in
theorem isInter_any (g : Int) (l : List Int) (v : Value) (w : World) (hv : Ints w v l) :
    Calls Tryz.prog 65 #[.agg #[.int .i64 g, v]] w fun e w' => e = .returned (.bool (interB g l)) ∧ Below w.heap.size w w' := by
  obtain ⟨a, b, off, c, rfl, hlen, hix, hc, hb⟩ := hv.view Tryz.prog 22 3 Tryz.underlying22 intElem
  have X0 := Box2.new w g (.slice a l.length c) 35
  go_enter Tryz.func65, Tryz.ntmps65
  go_wp2_with fail
  refine (isFamI_any g l _ _ (hv.alloc _)).mono ?_
  rintro e w1 ⟨rfl, hb1⟩
  obtain ⟨d0, d1, B1, z1⟩ := X0.after hb1
  have hc1 := cells_below hc hb B1 (Nat.le_refl _)
  have hv1 := hv.below B1 (Nat.le_refl _)
  clear hc hb hb1 X0
  cases hf : isFamB g l with
  | false =>
    have hx : interB g l = false := by unfold interB; rw [hf]; rfl
    have HX := Lib.hid hx
    clear hx
    go_wp2
    go_ret
    exact ⟨by rw [HX.out]; rfl, B1⟩
  | true =>
    have hm := fam_mem hf
    have hx : interB g l = l.all (meetB l) := by unfold interB; rw [hf]; rfl
    have HX := Lib.hid hx
    have HM := Lib.hid hm
    clear hx hm
    go_wp2_with fail
    go_loop [11] (fun i => ∃ k : Nat, k ≤ l.length ∧ i = .int .i64 k ∧ (l.take k).all (meetB l) = true) (fun i => l.length - (intOf i).toNat)
    case atStart => exact ⟨0, Nat.zero_le _, rfl, by simp⟩
    case round =>
      obtain ⟨k, hk, rfl, hall⟩ := hrel
      have H := Lib.hid hall
      clear hall
      by_cases hlt : k < l.length
      · have hlk := HM.out _ (List.getElem_mem hlt)
        have hcl := meetsAll_any l (.slice a l.length c) l[k] w1 hv1 HM.out hlk.1 hlk.2
        cases hh : meetB l l[k] with
        | true =>
          rw [hh] at hcl
          go_wp2_with (go_at_call 106; refine hcl.mono ?_; rintro e w' ⟨rfl, rfl⟩)
          go_round
          case rel => exact ⟨k + 1, by omega, by go_num, by rw [all_take_succ _ _ _ hlt, H.out, hh]; rfl⟩
          case measure => simp [intOf]; omega
        | false =>
          rw [hh] at hcl
          go_wp2_with (go_at_call 106; refine hcl.mono ?_; rintro e w' ⟨rfl, rfl⟩)
          go_ret
          exact ⟨ret_bool (by rw [HX.out, all_false_at _ _ _ hlt hh]), B1⟩
      · go_wp2
        go_ret
        exact ⟨ret_bool (by rw [HX.out, ← all_of_take _ l k (by omega), H.out]), B1⟩

set_option maxHeartbeats 1000000 in
theorem l23Meets_any (l : List Int) (v : Value) (w : World) (hv : Ints w v l) (hm : ∀ x ∈ l, 0 ≤ x ∧ x < 64) :
    Calls Tryz.prog 100 #[v] w fun e w' => e = .returned (.bool (meetS l)) ∧ Below w.heap.size w w' := by
  obtain ⟨a, b, off, c, rfl, hlen, hix, hc, hb⟩ := hv.view Tryz.prog 22 3 Tryz.underlying22 intElem
  have HM := Lib.hid hm
  clear hm
  go_enter Tryz.func100, Tryz.ntmps100
  go_wp2
  go_loopw [3] (fun i wr => ∃ k m : Nat, k ≤ l.length ∧ i = .int .i64 k ∧ wr = w.drewN m ∧ allTo (fun i => allTo (fun k => iand (l.getD i 0) (l.getD k 0) != 0) (i + 1)) k = true) (fun i _ => l.length - (intOf i).toNat)
  case atStart => exact ⟨0, 0, Nat.zero_le _, rfl, rfl, rfl⟩
  case round =>
    obtain ⟨k, m, hk, rfl, rfl, hall⟩ := hrel
    have H := Lib.hid hall
    clear hall
    by_cases hlt : k < l.length
    · have hlk := HM.out _ (List.getElem_mem hlt)
      go_wp2
      go_loopw [4] (fun j wr => ∃ q n : Nat, q ≤ k + 1 ∧ j = .int .i64 q ∧ wr = w.drewN n ∧ allTo (fun q => iand (l.getD k 0) (l.getD q 0) != 0) q = true) (fun j _ => k + 1 - (intOf j).toNat)
      case atStart => exact ⟨0, m, by omega, rfl, rfl, rfl⟩
      case round =>
        obtain ⟨q, n, hq, rfl, rfl, hin⟩ := hrel
        have HI := Lib.hid hin
        clear hin
        by_cases hle : q ≤ k
        · have hql : q < l.length := by omega
          have hlq := HM.out _ (List.getElem_mem hql)
          have hA := iand_is hlk.1 (show l[k] < 4611686018427387904 by omega) hlq.1 (show l[q] < 4611686018427387904 by omega)
          by_cases hz : iand l[k] l[q] = 0
          · have ht : (iand l[k] l[q] == 0) = true := by simp [hz]
            have hp : (iand (l.getD k 0) (l.getD q 0) != 0) = false := by rw [getD_at l k hlt, getD_at l q hql]; simp [hz]
            have HP := Lib.hid hp
            clear hz hp
            go_wp2
            go_quiet (fail)
            go_wp2
            go_ret
            exact ⟨ret_bool (allTo_false (p := fun i => allTo (fun k => iand (l.getD i 0) (l.getD k 0) != 0) (i + 1)) hlt (allTo_false (p := fun q => iand (l.getD k 0) (l.getD q 0) != 0) (show q < k + 1 by omega) HP.out)).symm, ((Below.refl _ _).drewN' _).drewN' _⟩
          · have ht : (iand l[k] l[q] == 0) = false := by simp [hz]
            have hp : (iand (l.getD k 0) (l.getD q 0) != 0) = true := by rw [getD_at l k hlt, getD_at l q hql]; simp [hz]
            have HP := Lib.hid hp
            clear hz hp
            go_wp2
            go_quiet (fail)
            go_wp2
            go_roundw
            case rel => exact ⟨q + 1, n + nq, by omega, by go_num, by simp, allTo_succ HI.out HP.out⟩
            case measure => simp [intOf]; omega
        · go_wp2
          go_roundw
          case rel => exact ⟨k + 1, n, by omega, by go_num, rfl, allTo_succ H.out (by rw [show k + 1 = q by omega]; exact HI.out)⟩
          case measure => simp [intOf]; omega
    · go_wp2
      go_ret
      exact ⟨ret_bool (by unfold meetS; rw [show l.length = k by omega, H.out]), (Below.refl _ _).drewN' _⟩
end Go.Proofs.YtelmokapdkepbaaGreatDoor
end
section
namespace Go.Proofs.YtelmokapdkepbaaGreatDoor
open Go.RowKit Go.G5

def exL (l : List Int) (s i k : Nat) : Int := l.getD (setBit s i ||| setBit s k) 0 + l.getD s 0 - l.getD (setBit s i) 0 - l.getD (setBit s k) 0
def badB (l : List Int) (t : Tri) : Bool := decide (0 < exL l t.1 t.2.1 t.2.2)
def vstep (l : List Int) (a : Option Tri) (t : Tri) : Option Tri × Bool := if badB l t then (some t, false) else (a, a.isNone)
def violT (n : Nat) (l : List Int) : Option Tri := (runT (vstep l) (tri3 n (2 ^ n)) none).1
def violR (n : Int) (l : List Int) : Option Tri := if isFunB n l then violT n.toNat l else none
def violB (n : Int) (l : List Int) : Bool := (violR n l).isSome
def triL : Option Tri → List Int
  | none => []
  | some t => [(t.1 : Int), (t.2.1 : Int), (t.2.2 : Int)]
def violL (n : Int) (l : List Int) : List Int := triL (violR n l)
def subB (n : Int) (l : List Int) : Bool := isFunB n l && !violB n l
theorem or_again (s x y : Nat) : (s ||| x) ||| (s ||| y) = (s ||| x) ||| y := by
  apply Nat.eq_of_testBit_eq
  intro j
  simp only [Nat.testBit_or]
  cases s.testBit j <;> cases x.testBit j <;> cases y.testBit j <;> rfl
theorem setBit_or (s i k : Nat) : setBit s i ||| setBit s k = setBit (setBit s i) k := by unfold setBit; exact or_again s (2 ^ i) (2 ^ k)
theorem violL_len (n : Int) (l : List Int) : (violL n l).length ≤ 3 := by
  unfold violL
  cases violR n l <;> simp [triL]
theorem exL_bd (n : Nat) (l : List Int) (hl : l.length = 2 ^ n) (hb : ∀ k, (hk : k < l.length) → -1000 ≤ l[k] ∧ l[k] ≤ 1000) (s i k : Nat) (hs : s < 2 ^ n) (hi : i < n) (hk : k < n) : -4000 ≤ exL l s i k ∧ exL l s i k ≤ 4000 := by
  have h1 := setBit_lt s i n hs hi
  have h2 := setBit_lt s k n hs hk
  have h3 := setBit_lt (setBit s i) k n h1 hk
  rw [← setBit_or] at h3
  unfold exL
  rw [getD_at l _ (by omega), getD_at l _ (by omega), getD_at l _ (by omega), getD_at l _ (by omega)]
  have b1 := hb (setBit s i) (by omega)
  have b2 := hb (setBit s k) (by omega)
  have b3 := hb (setBit s i ||| setBit s k) (by omega)
  have b4 := hb s (by omega)
  omega
/-- a violation that is told is one -/
theorem viol_run (l : List Int) : ∀ (T : List Tri) (t : Tri), (runT (vstep l) T none).1 = some t → badB l t = true := by
  intro T
  induction T with
  | nil => intro t h; simp [runT] at h
  | cons u T ih =>
    intro t h
    rw [runT] at h
    by_cases hb : badB l u = true
    · have e : vstep l none u = (some u, false) := by unfold vstep; rw [if_pos hb]
      rw [e] at h
      simp at h
      rw [← h]; exact hb
    · have e : vstep l none u = (none, true) := by unfold vstep; rw [if_neg hb]; rfl
      rw [e] at h
      exact ih t h
end Go.Proofs.YtelmokapdkepbaaGreatDoor
end
section
namespace Go.Proofs.YtelmokapdkepbaaGreatDoor
open Go.RowKit Go.G5

def upB (l : List Int) (s e : Nat) : Bool := !decide (gainL l s e < 0)
def incB (n : Int) (l : List Int) : Bool := isFunB n l && allTo (fun s => allTo (upB l s) n.toNat) l.length
theorem fun_nat {n : Int} {l : List Int} (h : isFunB n l = true) : ∃ N : Nat, n = N ∧ N ≤ 5 ∧ l.length = 2 ^ N ∧ l.length ≤ 32 ∧ ∀ k, (hk : k < l.length) → -1000 ≤ l[k] ∧ l[k] ≤ 1000 := by
  obtain ⟨h0, h5, hlen, hlb⟩ := funOk h
  obtain ⟨N, rfl⟩ := Int.eq_ofNat_of_zero_le h0
  have hN5 : N ≤ 5 := by omega
  have hl2 : l.length = 2 ^ N := by
    have e2 : (N : Int).toNat = N := by omega
    rw [e2] at hlen
    exact_mod_cast hlen
  have p5 : (2 : Nat) ^ N ≤ 32 := Nat.pow_le_pow_right (n := 2) (by decide) hN5
  exact ⟨N, rfl, hN5, hl2, by omega, hlb⟩

end Go.Proofs.YtelmokapdkepbaaGreatDoor
end
section
namespace Go.Proofs.YtelmokapdkepbaaGreatDoor
open Go.RowKit Go.G5

end Go.Proofs.YtelmokapdkepbaaGreatDoor
end
section
namespace Go.G5
open Go Go.RowKit

/-- as OwnI, but the slice's capacity may be less than its block has -/
def OwnW (E : TypeId) (B : Nat) (w : World) (v : Value) (l : List Int) : Prop :=
  (∀ x ∈ l, InR x) ∧ ((v = .slice none 0 0 ∧ l = []) ∨ ∃ g cap cur, v = .slice (some ⟨g, 0, none⟩) l.length cap ∧ B ≤ g ∧ w.heap[g]? = some (.cells cur E (0, 0)) ∧ l.length ≤ cap ∧ cap ≤ cur.size ∧ cap ≤ maxLen ∧ cur.toList.take l.length = l.map (Value.int .i64))
section
variable {E : TypeId} {B : Nat} {w w' : World} {v : Value} {l : List Int}
theorem OwnI.toW (h : OwnI E B w v l) : OwnW E B w v l := by
  obtain ⟨⟨h0, h1⟩, h2⟩ := h
  refine ⟨h2, ?_⟩
  rcases h1 with ⟨rfl, hn⟩ | ⟨g, cap, cur, rfl, hB, hg, hn, hm, hcs, ht⟩
  · exact .inl ⟨rfl, List.eq_nil_of_length_eq_zero hn⟩
  · exact .inr ⟨g, cap, cur, rfl, hB, hg, hn, by omega, hm, by simpa using ht⟩
theorem OwnW.toW (h : OwnW E B w v l) : OwnW E B w v l := h
theorem OwnW.nil (E : TypeId) (B : Nat) (w : World) : OwnW E B w (.slice none 0 0) [] := ⟨by simp, .inl ⟨rfl, rfl⟩⟩
theorem OwnW.below {B' : Nat} (h : OwnW E B w v l) (hb : Below B' w w') (hB : w.heap.size ≤ B') : OwnW E B w' v l := by
  refine ⟨h.1, ?_⟩
  rcases h.2 with h1 | ⟨g, cap, cur, rfl, hBg, hg, r⟩
  · exact .inl h1
  · exact .inr ⟨g, cap, cur, rfl, hBg, by rw [hb.block g (by have := (Array.getElem?_eq_some_iff.1 hg).1; omega)]; exact hg, r⟩
theorem OwnW.keep (h : OwnW E B w v l) (hb : Below w.heap.size w w') : OwnW E B w' v l := h.below hb (Nat.le_refl _)
theorem OwnW.alloc (h : OwnW E B w v l) (o : Obj) : OwnW E B (w.alloc o) v l := h.keep (bl1 w o)
theorem OwnW.drewN (h : OwnW E B w v l) (n : Nat) : OwnW E B (w.drewN n) v l := h.below ((Below.refl w.heap.size w).drewN' n) (Nat.le_refl _)
theorem OwnW.mono {B' : Nat} (h : OwnW E B w v l) (hB : B' ≤ B) : OwnW E B' w v l := by
  refine ⟨h.1, ?_⟩
  rcases h.2 with h1 | ⟨g, cap, cur, rfl, hBg, r⟩
  · exact .inl h1
  · exact .inr ⟨g, cap, cur, rfl, by omega, r⟩
theorem OwnW.lt (h : OwnW E B w v l) : ∀ k, v.ownBlock = some k → B ≤ k ∧ k < w.heap.size := by
  intro k hk
  rcases h.2 with ⟨rfl, _⟩ | ⟨g, cap, cur, rfl, hBg, hg, _⟩
  · simp [Value.ownBlock] at hk
  · have : g = k := by simpa [Value.ownBlock] using hk
    subst this
    exact ⟨hBg, (Array.getElem?_eq_some_iff.1 hg).1⟩
theorem OwnW.grow {row : Option Nat} (h : OwnW E B w v l) (hg : w.grownBy w' row) (hne : ∀ k, row = some k → v.ownBlock ≠ some k) : OwnW E B w' v l := by
  refine ⟨h.1, ?_⟩
  rcases h.2 with h1 | ⟨g, cap, cur, rfl, hBg, hh, r⟩
  · exact .inl h1
  · refine .inr ⟨g, cap, cur, rfl, hBg, ?_, r⟩
    rw [hg.block g (Array.getElem?_eq_some_iff.1 hh).1 (fun e => hne g e.symm rfl)]
    exact hh
theorem OwnW.setBelow (h : OwnW E B w v l) {a : Addr} (ha : a.block < B) (u : Value) : OwnW E B (w.setCell a u) v l := by
  refine ⟨h.1, ?_⟩
  rcases h.2 with h1 | ⟨g, cap, cur, rfl, hBg, hh, r⟩
  · exact .inl h1
  · refine .inr ⟨g, cap, cur, rfl, hBg, ?_, r⟩
    rw [Below.heap_setCell w a u g (by omega)]
    exact hh
theorem OwnW.cases (h : OwnW E B w v l) : (v = .slice none 0 0 ∧ l = []) ∨ ∃ g cap, v = .slice (some ⟨g, 0, none⟩) l.length cap ∧ B ≤ g ∧ g < w.heap.size := by
  rcases h.2 with h1 | ⟨g, cap, cur, rfl, hBg, hg, _⟩
  · exact .inl h1
  · exact .inr ⟨g, cap, rfl, hBg, (Array.getElem?_eq_some_iff.1 hg).1⟩
theorem OwnW.cell' {g n cap : Nat} (h : OwnW E B w (.slice (some ⟨g, 0, none⟩) n cap) l) (j : Nat) (hj : j < l.length) : w.cell? ⟨g, j, none⟩ = some (.int .i64 l[j]) := by
  rcases h.2 with ⟨e, _⟩ | ⟨g', cap', cur, e, _, hg, hlc, hcc, _, ht⟩
  · simp at e
  · simp only [Value.slice.injEq, Option.some.injEq, Addr.mk.injEq, and_true] at e
    obtain ⟨rfl, _, rfl⟩ := e
    have hc : w.cell? ⟨g, j, none⟩ = cur[j]? := cell_of_row w g j cur E (0, 0) hg
    rw [hc]
    have h1 : (cur.toList.take l.length)[j]? = some (.int .i64 l[j]) := by rw [ht, List.getElem?_map, List.getElem?_eq_getElem hj]; rfl
    rw [List.getElem?_take_of_lt hj] at h1
    rw [← Array.getElem?_toList]
    exact h1
theorem OwnW.ints (h : OwnW E B w v l) : Ints w v l := by
  rcases h.2 with ⟨rfl, rfl⟩ | ⟨g, cap, cur, rfl, hBg, hg, hlc, hcc, hm, ht⟩
  · exact ⟨none, 0, rfl, Nat.le_refl _, Nat.zero_le _, by simp, .inl rfl⟩
  · exact ⟨_, cap, rfl, hlc, hm, h.1, .inr ⟨g, 0, rfl, (Array.getElem?_eq_some_iff.1 hg).1, fun k hk => by rw [Nat.zero_add]; exact h.cell' k hk⟩⟩
theorem OwnW.shape (h : OwnW E B w v l) : ∃ a c, v = .slice a l.length c := by
  obtain ⟨a, c, rfl, _⟩ := h.ints
  exact ⟨a, c, rfl⟩
theorem OwnW.shape3 (h : OwnW E B w v l) : ∃ a n c, v = .slice a n c := by
  obtain ⟨a, c, rfl, _⟩ := h.ints
  exact ⟨a, _, c, rfl⟩
theorem OwnW.cellAt {g n cap : Nat} (h : OwnW E B w (.slice (some ⟨g, 0, none⟩) n cap) l) (_ : n = l.length) (j : Nat) (hj : j < l.length) : w.cell? ⟨g, j, none⟩ = some (.int .i64 l[j]) := h.cell' j hj
theorem OwnW.frozenAt {g n cap : Nat} (h : OwnW E B w (.slice (some ⟨g, 0, none⟩) n cap) l) (_ : n = l.length) (j : Nat) : w.frozen? ⟨g, j, none⟩ = false := by
  rcases h.2 with ⟨e, _⟩ | ⟨g', cap', cur, e, _, hg, _⟩
  · simp at e
  · simp only [Value.slice.injEq, Option.some.injEq, Addr.mk.injEq, and_true] at e
    obtain ⟨rfl, _, rfl⟩ := e
    simp [World.frozen?, hg]
theorem OwnW.stored {g n cap : Nat} (h : OwnW E B w (.slice (some ⟨g, 0, none⟩) n cap) l) (hn : n = l.length) (j : Nat) (y : Int) (hy : InR y) :
    OwnW E B (w.setCell ⟨g, j, none⟩ (.int .i64 y)) (.slice (some ⟨g, 0, none⟩) n cap) (l.set j y) ∧ w.grownBy (w.setCell ⟨g, j, none⟩ (.int .i64 y)) (some g) := by
  subst hn
  refine ⟨⟨?_, ?_⟩, ⟨rfl, rfl, rfl, by simp, fun b hb hne => Below.heap_setCell w _ _ b (by intro e; exact hne (by rw [e]))⟩⟩
  · intro z hz
    rcases List.mem_or_eq_of_mem_set hz with hz | hz
    · exact h.1 z hz
    · subst hz; exact hy
  · right
    rcases h.2 with ⟨e, _⟩ | ⟨g', cap', cur, e, hB, hg, hlc, hcc, hm, ht⟩
    · simp at e
    · simp only [Value.slice.injEq, Option.some.injEq, Addr.mk.injEq, and_true] at e
      obtain ⟨rfl, _, rfl⟩ := e
      refine ⟨g, cap, cur.setIfInBounds j (.int .i64 y), by simp, hB, ?_, by simpa using hlc, by simpa using hcc, hm, ?_⟩
      · simp [World.setCell, Array.getElem?_modify, hg]
      · rw [List.length_set, Array.toList_setIfInBounds, List.take_set, ht, List.map_set]
end

def Apart (u v : Value) : Prop := ∀ k, u.ownBlock = some k → v.ownBlock ≠ some k
theorem Apart.symm {u v : Value} (h : Apart u v) : Apart v u := fun k hk hu => h k hu hk
theorem Apart.of_lt {E E' : TypeId} {B B' : Nat} {w w' : World} {u v : Value} {l m : List Int} (h : OwnW E B w u l) (h' : OwnW E' B' w' v m) (hB : w.heap.size ≤ B') : Apart u v := fun k hk hv => by
  have := (h.lt k hk).2
  have := (h'.lt k hv).1
  omega

/-! sorting -/
theorem OwnI.cut {E : TypeId} {B : Nat} {w : World} {g n cap : Nat} {l : List Int} (h : OwnI E B w (.slice (some ⟨g, 0, none⟩) n cap) l) (k : Nat) (hk : k ≤ l.length) : OwnI E B w (.slice (some ⟨g, 0, none⟩) k cap) (l.take k) := by
  obtain ⟨⟨h0, h1⟩, h2⟩ := h
  rcases h1 with ⟨e, _⟩ | ⟨g', cap', cur, e, hB, hg, hn, hm, hcs, ht⟩
  · simp at e
  · simp only [Value.slice.injEq, Option.some.injEq, Addr.mk.injEq, and_true] at e
    obtain ⟨rfl, rfl, rfl⟩ := e
    have hl : (l.take k).length = k := by simp; omega
    refine ⟨⟨by rw [List.length_map, hl]; omega, .inr ⟨g, cap, cur, by rw [hl], hB, hg, by omega, hm, hcs, ?_⟩⟩, fun x hx => h2 x (List.mem_of_mem_take hx)⟩
    rw [hl, Nat.mul_one]
    rw [Nat.mul_one] at ht
    rw [List.map_take, ← ht, List.take_take, Nat.min_eq_left hk]
theorem OwnI.holds {E : TypeId} {B : Nat} {w : World} {g n cap : Nat} {l : List Int} (h : OwnI E B w (.slice (some ⟨g, 0, none⟩) n cap) l) (hn : n = l.length) : Go.Sort.Holds (Value.int .i64) w g 0 l.toArray := by
  intro j hj
  have hj' : j < l.length := by simpa using hj
  refine ⟨?_, ?_⟩
  · rw [Nat.zero_add, h.cellAt hn j hj', getElem!_pos l.toArray j hj]; simp
  · rw [Nat.zero_add]; exact h.frozenAt hn j
theorem OwnI.put {E : TypeId} {B : Nat} {w : World} {g n cap : Nat} {l : List Int} (h : OwnI E B w (.slice (some ⟨g, 0, none⟩) n cap) l) (l' : List Int) (hl : l'.length = l.length) (hr : ∀ x ∈ l', InR x) (q : Nat) (os : Array Obj) :
    OwnI E B (Go.Sort.grow (Go.Sort.putRow (Value.int .i64) (Go.Sort.ahead w q) g 0 l'.toArray) os) (.slice (some ⟨g, 0, none⟩) n cap) l' ∧ w.grownBy (Go.Sort.grow (Go.Sort.putRow (Value.int .i64) (Go.Sort.ahead w q) g 0 l'.toArray) os) (some g) := by
  obtain ⟨⟨h0, h1⟩, h2⟩ := h
  rcases h1 with ⟨e, _⟩ | ⟨g', cap', cur, e, hB, hg, hn, hm, hcs, ht⟩
  · simp at e
  · simp only [Value.slice.injEq, Option.some.injEq, Addr.mk.injEq, and_true] at e
    obtain ⟨rfl, rfl, rfl⟩ := e
    have hlt := (Array.getElem?_eq_some_iff.1 hg).1
    have hblock : ∀ b, b < w.heap.size → (Go.Sort.grow (Go.Sort.putRow (Value.int .i64) (Go.Sort.ahead w q) g 0 l'.toArray) os).heap[b]? = (w.heap.modify g (Go.Sort.onCells (Go.Sort.putCells (Value.int .i64) 0 l'.toArray)))[b]? := by
      intro b hb
      unfold Go.Sort.grow Go.Sort.putRow Go.Sort.mapBlock Go.Sort.ahead
      simp only
      rw [Array.getElem?_append_left (by simpa using hb)]
    refine ⟨⟨⟨by rw [List.length_map, Nat.mul_one], .inr ⟨g, cap, Go.Sort.putCells (Value.int .i64) 0 l'.toArray cur, by rw [hl], hB, ?_, by omega, hm, ?_, ?_⟩⟩, hr⟩, ⟨rfl, rfl, rfl, ?_, ?_⟩⟩
    · rw [hblock g hlt, Array.getElem?_modify, if_pos rfl, hg]; rfl
    · unfold Go.Sort.putCells; simpa using hcs
    · rw [Nat.mul_one]
      have hcl : l.length ≤ cur.size := by omega
      apply List.ext_getElem?
      intro k
      by_cases hk : k < l'.length
      · rw [List.getElem?_take_of_lt hk, Array.getElem?_toList]
        unfold Go.Sort.putCells
        rw [Array.getElem?_mapIdx, Array.getElem?_eq_getElem (show k < cur.size by omega), Option.map_some, if_pos ⟨by omega, by simpa using hk⟩, Nat.sub_zero, getElem!_pos l'.toArray k (by simpa using hk), List.getElem?_map, List.getElem?_eq_getElem hk]
        simp
      · rw [List.getElem?_eq_none (by simp; omega), List.getElem?_eq_none (by simpa using hk)]
    · simp [Go.Sort.grow, Go.Sort.putRow, Go.Sort.mapBlock, Go.Sort.ahead]
    · intro b hb hne
      rw [hblock b hb, Array.getElem?_modify, if_neg (fun e => hne (by rw [e]))]
end Go.G5
end
