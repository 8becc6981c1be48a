/- Slices of slices of ints that a call owns. Sets of families: who is in. Orders of elements, and the gains along an order. -/
import Derived.Test.YtelmokapdkepbaaDoorQ09
import Derived.Deep.Light
import Derived.Deep.AppendLies
import Derived.Deep.RegionHeld3
section
namespace Go.G5
open Go Go.RowKit

/-- what the program's tables say of an element type that is a slice -/
structure SliceElem (P : Program) (E : TypeId) : Prop where
  info : (P.info? E).map (fun i => (i.zero, i.size, i.bytes)) = some (some (.slice none 0 0), 1, 24)
theorem SliceElem.get {P : Program} {E : TypeId} (h : SliceElem P E) : ∃ i, P.info? E = some i ∧ i.zero = some (.slice none 0 0) ∧ i.size = 1 ∧ i.bytes = 24 := by
  have h := h.info
  cases hx : P.info? E with
  | none => rw [hx] at h; simp at h
  | some i => rw [hx] at h; simp at h; exact ⟨i, rfl, h.1, h.2.1, h.2.2⟩

/-- rows of different element types are different blocks -/
theorem own_ne {w : World} {B B' : Nat} {E E' : TypeId} {s s' n n' : Nat} {u v : Value} {xs ys : List Value} (h : w.ownsRow B E s u n xs) (h' : w.ownsRow B' E' s' v n' ys) (hne : E ≠ E') : ∀ k, v.ownBlock = some k → u.ownBlock ≠ some k := by
  intro k hk hu
  rcases h.2 with ⟨rfl, _⟩ | ⟨g, cap, cur, rfl, _, hg, _⟩
  · simp [Value.ownBlock] at hu
  · rcases h'.2 with ⟨rfl, _⟩ | ⟨g', cap', cur', rfl, _, hg', _⟩
    · simp [Value.ownBlock] at hk
    · have e1 : g = k := by simpa [Value.ownBlock] using hu
      have e2 : g' = k := by simpa [Value.ownBlock] using hk
      subst e1; subst e2
      rw [hg] at hg'
      injection hg' with hg'
      injection hg' with _ ht
      exact hne ht

/-- v owns a row of slices that read as the lists of ls -/
def OwnLL (EI EO : TypeId) (B : Nat) (w : World) (v : Value) (ls : List (List Int)) : Prop :=
  ∃ vs : List Value, w.ownsRow B EO 1 v ls.length vs ∧ ∀ (k : Nat) (u : Value), vs[k]? = some u → ∃ l, ls[k]? = some l ∧ OwnI EI B w u l

theorem OwnLL.len {EI EO : TypeId} {B : Nat} {w : World} {v : Value} {ls : List (List Int)} (h : OwnLL EI EO B w v ls) : ∃ a c, v = .slice a ls.length c ∧ ls.length ≤ maxLen := by
  obtain ⟨vs, h1, _⟩ := h
  rcases h1.2 with ⟨rfl, hn⟩ | ⟨g, cap, cur, rfl, hB, hg, hn, hm, _⟩
  · exact ⟨none, 0, by rw [hn], by omega⟩
  · exact ⟨_, cap, rfl, by omega⟩
theorem OwnLL.shape3 {EI EO : TypeId} {B : Nat} {w : World} {v : Value} {ls : List (List Int)} (h : OwnLL EI EO B w v ls) : ∃ a n c, v = .slice a n c := by
  obtain ⟨a, c, h, _⟩ := h.len
  exact ⟨a, _, c, h⟩
theorem OwnLL.nil (EI EO : TypeId) (B : Nat) (w : World) : OwnLL EI EO B w (.slice none 0 0) [] := ⟨[], World.ownsRow_nil _ _ _ _, by simp⟩
theorem OwnLL.single {EI EO : TypeId} {B : Nat} (w : World) (hB : B ≤ w.heap.size) : OwnLL EI EO B (w.alloc (.cells #[.slice none 0 0] EO)) (.slice (some ⟨w.heap.size, 0, none⟩) 1 1) [[]] := by
  refine ⟨[.slice none 0 0], World.ownsRow_lit w #[.slice none 0 0] 1 hB (by decide) rfl, ?_⟩
  intro k u hu
  cases k with
  | zero => simp only [List.getElem?_cons_zero, Option.some.injEq] at hu; subst hu; exact ⟨[], rfl, OwnI.nil _ _ _⟩
  | succ k => simp at hu
theorem OwnLL.keep {EI EO : TypeId} {B : Nat} {w w' : World} {v : Value} {ls : List (List Int)} (h : OwnLL EI EO B w v ls) (hb : Below w.heap.size w w') : OwnLL EI EO B w' v ls := by
  obtain ⟨vs, ⟨h0, h1⟩, h2⟩ := h
  refine ⟨vs, ⟨h0, ?_⟩, fun k u hu => ?_⟩
  · rcases h1 with h1 | ⟨g, cap, cur, rfl, hBg, hg, r⟩
    · exact .inl h1
    · exact .inr ⟨g, cap, cur, rfl, hBg, by rw [hb.block g (Array.getElem?_eq_some_iff.1 hg).1]; exact hg, r⟩
  · obtain ⟨l, h3, h4⟩ := h2 k u hu
    exact ⟨l, h3, h4.keep hb⟩
theorem OwnLL.mono {EI EO : TypeId} {B B' : Nat} {w : World} {v : Value} {ls : List (List Int)} (h : OwnLL EI EO B w v ls) (hB : B' ≤ B) : OwnLL EI EO B' w v ls := by
  obtain ⟨vs, ⟨h0, h1⟩, h2⟩ := h
  refine ⟨vs, ⟨h0, ?_⟩, fun k u hu => ?_⟩
  · rcases h1 with h1 | ⟨g, cap, cur, rfl, hBg, r⟩
    · exact .inl h1
    · exact .inr ⟨g, cap, cur, rfl, by omega, r⟩
  · obtain ⟨l, h3, h4⟩ := h2 k u hu
    exact ⟨l, h3, h4.mono hB⟩
theorem OwnLL.lt {EI EO : TypeId} {B : Nat} {w : World} {v : Value} {ls : List (List Int)} (h : OwnLL EI EO B w v ls) : ∀ k, v.ownBlock = some k → B ≤ k ∧ k < w.heap.size := by
  obtain ⟨vs, h1, _⟩ := h
  exact h1.lt
theorem OwnLL.grow {EI EO : TypeId} {B B' n : Nat} {w w' : World} {v v' : Value} {ls : List (List Int)} {vs : List Value} (h : OwnLL EI EO B w v ls) (h' : w.ownsRow B' EO 1 v' n vs) (hT : EI ≠ EO) (hg : w.grownBy w' v'.ownBlock) (hne : ∀ k, v'.ownBlock = some k → v.ownBlock ≠ some k) : OwnLL EI EO B w' v ls := by
  obtain ⟨us, h1, h2⟩ := h
  refine ⟨us, h1.kept hg ?_, fun k u hu => ?_⟩
  · cases hv : v'.ownBlock with
    | none =>
      cases hu : v.ownBlock with
      | none => exact .inl rfl
      | some q => exact .inr (by simp)
    | some q =>
      right
      intro e
      exact hne q hv e
  · obtain ⟨l, h3, h4⟩ := h2 k u hu
    exact ⟨l, h3, h4.grow hg (own_ne h4.1 h' hT)⟩
theorem OwnLL.growLow {EI EO : TypeId} {B g : Nat} {w w' : World} {v : Value} {ls : List (List Int)} (h : OwnLL EI EO B w v ls) (hg : w.grownBy w' (some g)) (hB : g < B) : OwnLL EI EO B w' v ls := by
  obtain ⟨us, h1, h2⟩ := h
  refine ⟨us, h1.kept hg ?_, fun k u hu => ?_⟩
  · right
    intro e
    have := (h1.lt g e).1
    omega
  · obtain ⟨l, h3, h4⟩ := h2 k u hu
    exact ⟨l, h3, h4.grow hg (fun q hq hq2 => by cases hq; have := (h4.lt _ hq2).1; omega)⟩
theorem OwnLL.row {EI EO : TypeId} {B : Nat} {w : World} {v : Value} {ls : List (List Int)} (h : OwnLL EI EO B w v ls) : ∃ vs, w.ownsRow B EO 1 v ls.length vs := ⟨h.choose, h.choose_spec.1⟩
theorem OwnI.growL {EI EO : TypeId} {B B' n : Nat} {w w' : World} {u v' : Value} {l : List Int} {vs : List Value} (h : OwnI EI B w u l) (h' : w.ownsRow B' EO 1 v' n vs) (hT : EI ≠ EO) (hg : w.grownBy w' v'.ownBlock) : OwnI EI B w' u l := h.grow hg (own_ne h.1 h' hT)
/-- the k-th slice -/
theorem OwnLL.view {EI EO : TypeId} {B : Nat} {w : World} {a : Option Addr} {n c : Nat} {ls : List (List Int)} (h : OwnLL EI EO B w (.slice a n c) ls) (P : Program) (T : TypeId) (hT : P.underlying T = some (.slice EO)) (hs : SliceElem P EO) (k : Nat) (hk : k < ls.length) :
    ∃ g u, (∀ (w' : World), (Instr.indexAt T (.slice a n c) (.int .i64 (k : Int))).run P w' = .ok (.pointer (some ⟨g, k, none⟩)) w') ∧ w.cell? ⟨g, k, none⟩ = some u ∧ OwnI EI B w u ls[k] := by
  obtain ⟨vs, h1, h2⟩ := h
  have hE : P.elem T = EO := by simp [Program.elem, hT]
  obtain ⟨i, hi, _, hi', _⟩ := hs.get
  have hl := h1.1
  rcases h1.2 with ⟨e, hn⟩ | ⟨g, cap, cur, e, hB, hg, hn, hm, hsz, ht⟩
  · omega
  · simp only [Value.slice.injEq] at e
    obtain ⟨rfl, rfl, rfl⟩ := e
    have hv : k < vs.length := by omega
    obtain ⟨l, h3, h4⟩ := h2 k vs[k] (List.getElem?_eq_getElem hv)
    rw [List.getElem?_eq_getElem hk] at h3
    cases h3
    refine ⟨g, vs[k], fun w' => ?_, ?_, h4⟩
    · rw [run_indexAt_slice w' T ⟨g, 0, none⟩ ls.length c .i64 k (by rw [hE]; exact hT), if_pos ⟨by omega, by omega⟩, hE]
      simp [sizeOf, typeInfo, hi, hi', Addr.add]
      exact fun h => h.symm
    · have hrow : w.ownsRow B EO 1 (.slice (some ⟨g, 0, none⟩) ls.length c) ls.length vs := ⟨h1.1, .inr ⟨g, c, cur, rfl, hB, hg, hn, hm, hsz, ht⟩⟩
      rw [hrow.cellAt k (by omega)]
      exact List.getElem?_eq_getElem hv

/-- out = append(out, l), l the call's own -/
theorem wpList_appendL {P : Program} {w : World} {ops : Array Oper} {rest : List Oper} {o : Oper} {a : Act} {Q : Exit → Act → World → Prop} (hgd : o.guard = none) (s x : Operand) (t : TypeId)
    (ho : o.op = .call { callee := .builtin .append, args := #[s, x], argTypes := #[t, t] })
    (EI EO : TypeId) (hne : EI ≠ EO) (ht : P.underlying t = some (.slice EO)) (hE : SliceElem P EO) (B : Nat) (v : Value) (ls : List (List Int)) (u : Value) (l : List Int) (b : Nat) (hs : a.eval s = v) (hx : a.eval x = .slice (some ⟨b, 0, none⟩) 1 1)
    (hy : w.cell? ⟨b, 0, none⟩ = some u) (hown : OwnLL EI EO B w v ls) (hu : OwnI EI B w u l) (hlen : ls.length < 5497558138879) (hB : B ≤ w.heap.size)
    (h : ∀ v' w', OwnLL EI EO B w' v' (ls ++ [l]) → w.grownBy w' v.ownBlock → wpList P ops Q rest (a.put o.dst v') w') : wpList P ops Q (o :: rest) a w := by
  obtain ⟨i, hi, hz, h1, h8⟩ := hE.get
  obtain ⟨vs, ho1, ho2⟩ := hown
  have hone : u.oneCell' = true := by
    obtain ⟨a', n', c', rfl⟩ := hu.shape3
    rfl
  refine wpList_append_own w hgd s x t ho B EO i (.slice none 0 0) 1 24 ht hi hz h1 h8 rfl (by decide) v ls.length vs hs ho1 ⟨b, 0, none⟩ 1 1 [u] hx rfl ?_ ?_ ?_ ?_ hB ?_
  · intro j q hj
    match j, hj with
    | 0, hj => simp at hj; subst hj; simpa [Addr.add] using hy
    | j + 1, hj => simp at hj
  · intro q hq; simp at hq; subst hq; exact hone
  · unfold maxLen; omega
  · omega
  · intro v' w' hown' hg _
    refine h v' w' ⟨vs ++ [u], by simpa using hown', fun k q hq => ?_⟩ hg
    have hl := ho1.1
    by_cases hk : k < vs.length
    · rw [List.getElem?_append_left hk] at hq
      obtain ⟨l', h3, h4⟩ := ho2 k q hq
      exact ⟨l', by rw [List.getElem?_append_left (by omega)]; exact h3, h4.grow hg (own_ne h4.1 ho1 hne)⟩
    · rw [List.getElem?_append_right (by omega)] at hq
      have hk0 : k - vs.length = 0 := by
        cases hkk : k - vs.length with
        | zero => rfl
        | succ m => rw [hkk] at hq; simp at hq
      rw [hk0] at hq
      simp only [List.getElem?_cons_zero, Option.some.injEq] at hq
      subst hq
      refine ⟨l, ?_, hu.grow hg (own_ne hu.1 ho1 hne)⟩
      rw [List.getElem?_append_right (by omega), show k - ls.length = 0 by omega]; rfl
end Go.G5

namespace Go.Proofs.YtelmokapdkepbaaDoor
open Go.RowKit Go.G5
theorem sliceElem : SliceElem Tryd.prog 22 := ⟨by kernel_rfl⟩
theorem noMeet : (3 : TypeId) ≠ 22 := by decide
theorem ll_used : (35 : TypeId) = 35 := rfl
end Go.Proofs.YtelmokapdkepbaaDoor
end
section
namespace Go.Proofs.YtelmokapdkepbaaDoor
open Go.RowKit Go.G5

def has (l : List Int) (s : Int) : Bool := decide (s ∈ l)
theorem has_true {l : List Int} {s : Int} : has l s = true ↔ s ∈ l := by simp [has]
theorem has_at (l : List Int) (k : Nat) (h : k < l.length) : has l l[k] = true := has_true.2 (List.getElem_mem h)
theorem has_false {l : List Int} {s : Int} (h : ∀ k, (hk : k < l.length) → l[k] ≠ s) : has l s = false := by
  unfold has
  rw [decide_eq_false_iff_not]
  intro hm
  obtain ⟨k, hk, he⟩ := List.getElem_of_mem hm
  exact h k hk he

set_option maxHeartbeats 400000 in
theorem l10Has_any (l : List Int) (v : Value) (s : Int) (w : World) (hv : Ints w v l) :
    Calls Tryd.prog 39 #[v, .int .i64 s] w fun e w' => e = .returned (.bool (has l s)) ∧ w = w' := by
  obtain ⟨a, b, off, c, rfl, hlen, hix, hc, hb⟩ := hv.view Tryd.prog 22 3 Tryd.underlying22 intElem
  go_enter Tryd.func39, Tryd.ntmps39
  go_wp2
  go_loop [5] (fun i => ∃ k : Nat, k ≤ l.length ∧ i = .int .i64 k ∧ (∀ j, (hj : j < l.length) → j < k → l[j] ≠ s)) (fun i => l.length - (intOf i).toNat)
  case atStart => exact ⟨0, Nat.zero_le _, rfl, by intros; omega⟩
  case round =>
    obtain ⟨k, hk, rfl, hno⟩ := hrel
    have H := Lib.hid hno
    clear hno
    by_cases hlt : k < l.length
    · by_cases he : l[k] = s
      · have ht : (l[k] == s) = true := by simp [he]
        have hh : has l s = true := by rw [← he]; exact has_at l k hlt
        have HH := Lib.hid hh
        clear he hh
        go_wp2
        go_ret
        exact ⟨by rw [HH.out]; rfl, rfl⟩
      · have ht : (l[k] == s) = false := by simp [he]
        have HE := Lib.hid he
        clear he
        go_wp2
        go_round
        case rel =>
          refine ⟨k + 1, by omega, by go_num, fun j hj hjk => ?_⟩
          by_cases hjk' : j = k
          · subst hjk'; exact HE.out
          · exact H.out j hj (by omega)
        case measure => simp [intOf]; omega
    · have hh : has l s = false := has_false fun j hj => H.out j hj (by omega)
      have HH := Lib.hid hh
      clear hh
      go_wp2
      go_ret
      exact ⟨by rw [HH.out]; rfl, rfl⟩

end Go.Proofs.YtelmokapdkepbaaDoor
end
section
namespace Go.Proofs.YtelmokapdkepbaaDoor
open Go.RowKit Go.G5

theorem lt_of_cell' {w : World} {a : Addr} {v : Value} (h : w.cell? a = some v) : a.block < w.heap.size := World.block_lt_of_cell? w a h

/-! what is a member -/
set_option maxHeartbeats 400000 in
theorem slIndex_any (l : List Int) (v : Value) (s : Int) (w : World) (hv : Ints w v l) :
    Calls Tryd.prog 69 #[v, .int .i64 s] w fun e w' => (∃ i : Int, e = .returned (.int .i64 i) ∧ (0 ≤ i ↔ has l s = true) ∧ -1 ≤ i ∧ i ≤ 9223372036854775807) ∧ w = w' := by
  obtain ⟨a, b, off, c, rfl, hlen, hix, hc, hb⟩ := hv.view Tryd.prog 22 3 Tryd.underlying22 intElem
  go_enter Tryd.func69, Tryd.ntmps69
  go_wp2
  go_loop [8] (fun i => ∃ k : Nat, k ≤ l.length ∧ i = .int .i64 k ∧ ∀ j, (hj : j < l.length) → j < k → l[j] ≠ s) (fun i => l.length - (intOf i).toNat)
  case atStart => exact ⟨0, Nat.zero_le _, rfl, fun j _ h => by omega⟩
  case round =>
    obtain ⟨k, hk, rfl, hall⟩ := hrel
    have H := Lib.hid hall
    clear hall
    by_cases hlt : k < l.length
    · have hck := hc k hlt
      by_cases he : s = l[k]
      · have ht : (s == l[k]) = true := by simp [he]
        have hh : has l s = true := by rw [he]; exact has_at l k hlt
        have HH := Lib.hid hh
        clear he hh
        go_wp2
        go_ret
        exact ⟨⟨k, rfl, by rw [HH.out]; simp, by omega, by omega⟩, rfl⟩
      · have ht : (s == l[k]) = false := by simp [he]
        go_wp2
        go_round
        case rel =>
          refine ⟨k + 1, by omega, by go_num, fun j hj hjk => ?_⟩
          by_cases h : j < k
          · exact H.out j hj h
          · have : j = k := by omega
            subst this
            exact fun h => he h.symm
        case measure => simp [intOf]; omega
    · have hh : has l s = false := has_false fun j hj => H.out j hj (by omega)
      have HH := Lib.hid hh
      clear hh
      go_wp2
      go_ret
      exact ⟨⟨-1, rfl, by rw [HH.out]; simp, by omega, by omega⟩, rfl⟩

theorem slContains_any (l : List Int) (v : Value) (s : Int) (w : World) (hv : Ints w v l) :
    Calls Tryd.prog 49 #[v, .int .i64 s] w fun e w' => e = .returned (.bool (has l s)) ∧ w = w' := by
  obtain ⟨a, c, rfl⟩ := hv.shape
  go_enter Tryd.func49, Tryd.ntmps49
  go_wp2_with (go_at_call 69; refine (slIndex_any l _ s _ hv).mono ?_; rintro e w' ⟨⟨i, rfl, hi, hi1, hi2⟩, rfl⟩; have HI := Lib.hid hi; clear hi)
  go_ret
  refine ⟨ret_bool ?_, rfl⟩
  cases hh : has l s with
  | true => have := HI.out.2 hh; simpa using this
  | false =>
    have h : ¬ 0 ≤ i := fun h => by rw [HI.out.1 h] at hh; cases hh
    simpa using h

/-! gains -/
def setBit (s e : Nat) : Nat := s ||| 2 ^ e
def gainL (l : List Int) (s e : Nat) : Int := l.getD (setBit s e) 0 - l.getD s 0

theorem setBit_is (s e : Nat) (hs : s < 4611686018427387904) (he : e < 6) : bits .or .i64 (s : Int) (2 ^ e) = ((setBit s e : Nat) : Int) := by
  have hp := Nat.pow_lt_pow_right (show 1 < 2 by decide) he
  have := bitsO s (2 ^ e) (by omega) (by simp at hp; omega)
  unfold setBit
  rw [← this]; push_cast; rfl
theorem setBit_lt (s e n : Nat) (hs : s < 2 ^ n) (he : e < n) : setBit s e < 2 ^ n := Nat.or_lt_two_pow hs (Nat.pow_lt_pow_right (by decide) he)

/-! the gains along an order -/
def prefS (o : List Int) : Nat → Nat
  | 0 => 0
  | k + 1 => setBit (prefS o k) (o.getD k 0).toNat
def cornerTo (l o : List Int) : Nat → List Int
  | 0 => List.replicate o.length 0
  | k + 1 => (cornerTo l o k).set (o.getD k 0).toNat (gainL l (prefS o k) (o.getD k 0).toNat)
def cornerL (l o : List Int) : List Int := cornerTo l o o.length
theorem cornerTo_len (l o : List Int) (k : Nat) : (cornerTo l o k).length = o.length := by
  induction k with
  | zero => simp [cornerTo]
  | succ k ih => simp [cornerTo, ih]
theorem prefS_lt (o : List Int) (n k : Nat) (h : ∀ x ∈ o, 0 ≤ x ∧ x < n) (hk : k ≤ o.length) : prefS o k < 2 ^ n := by
  induction k with
  | zero => exact Nat.two_pow_pos n
  | succ k ih =>
    have hm := h _ (List.getElem_mem (show k < o.length by omega))
    rw [prefS, List.getD_eq_getElem?_getD, List.getElem?_eq_getElem (show k < o.length by omega), Option.getD_some]
    exact setBit_lt _ _ _ (ih (by omega)) (by omega)
theorem gainL_bd (l : List Int) (s e : Nat) (hs : s < l.length) (hse : setBit s e < l.length) (hlb : ∀ k, (hk : k < l.length) → -1000 ≤ l[k] ∧ l[k] ≤ 1000) : -2000 ≤ gainL l s e ∧ gainL l s e ≤ 2000 := by
  have h1 := hlb s hs
  have h2 := hlb _ hse
  unfold gainL
  rw [List.getD_eq_getElem?_getD, List.getD_eq_getElem?_getD, List.getElem?_eq_getElem hs, List.getElem?_eq_getElem hse, Option.getD_some, Option.getD_some]
  omega

end Go.Proofs.YtelmokapdkepbaaDoor
end
