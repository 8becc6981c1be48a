/- Slices of slices of ints that a call owns. Sets of families: who is in. Orders of elements, and the gains along an order. -/
import Derived.Test.YtipejodijbjpcaaGreatDoorQ08
import Derived.Deep.Light
import Derived.Deep.AppendLies
import Derived.Deep.RegionHeld3
section
namespace Go.G5
open Go Go.RowKit

/-- what the program's tables say of an element type that is a slice -/
structure SliceElem (P : Program) (E : TypeId) : Prop where
  info : (P.info? E).map (fun i => (i.zero, i.size, i.bytes)) = some (some (.slice none 0 0), 1, 24)
theorem SliceElem.get {P : Program} {E : TypeId} (h : SliceElem P E) : ∃ i, P.info? E = some i ∧ i.zero = some (.slice none 0 0) ∧ i.size = 1 ∧ i.bytes = 24 := by
  have h := h.info
  cases hx : P.info? E with
  | none => rw [hx] at h; simp at h
  | some i => rw [hx] at h; simp at h; exact ⟨i, rfl, h.1, h.2.1, h.2.2⟩

/-- rows of different element types are different blocks -/
theorem own_ne {w : World} {B B' : Nat} {E E' : TypeId} {s s' n n' : Nat} {u v : Value} {xs ys : List Value} (h : w.ownsRow B E s u n xs) (h' : w.ownsRow B' E' s' v n' ys) (hne : E ≠ E') : ∀ k, v.ownBlock = some k → u.ownBlock ≠ some k := by
  intro k hk hu
  rcases h.2 with ⟨rfl, _⟩ | ⟨g, cap, cur, rfl, _, hg, _⟩
  · simp [Value.ownBlock] at hu
  · rcases h'.2 with ⟨rfl, _⟩ | ⟨g', cap', cur', rfl, _, hg', _⟩
    · simp [Value.ownBlock] at hk
    · have e1 : g = k := by simpa [Value.ownBlock] using hu
      have e2 : g' = k := by simpa [Value.ownBlock] using hk
      subst e1; subst e2
      rw [hg] at hg'
      injection hg' with hg'
      injection hg' with _ ht
      exact hne ht

/-- v owns a row of slices that read as the lists of ls -/
def OwnLL (EI EO : TypeId) (B : Nat) (w : World) (v : Value) (ls : List (List Int)) : Prop :=
  ∃ vs : List Value, w.ownsRow B EO 1 v ls.length vs ∧ ∀ (k : Nat) (u : Value), vs[k]? = some u → ∃ l, ls[k]? = some l ∧ OwnI EI B w u l

theorem OwnLL.len {EI EO : TypeId} {B : Nat} {w : World} {v : Value} {ls : List (List Int)} (h : OwnLL EI EO B w v ls) : ∃ a c, v = .slice a ls.length c ∧ ls.length ≤ maxLen := by
  obtain ⟨vs, h1, _⟩ := h
  rcases h1.2 with ⟨rfl, hn⟩ | ⟨g, cap, cur, rfl, hB, hg, hn, hm, _⟩
  · exact ⟨none, 0, by rw [hn], by omega⟩
  · exact ⟨_, cap, rfl, by omega⟩
theorem OwnLL.shape3 {EI EO : TypeId} {B : Nat} {w : World} {v : Value} {ls : List (List Int)} (h : OwnLL EI EO B w v ls) : ∃ a n c, v = .slice a n c := by
  obtain ⟨a, c, h, _⟩ := h.len
  exact ⟨a, _, c, h⟩
theorem OwnLL.nil (EI EO : TypeId) (B : Nat) (w : World) : OwnLL EI EO B w (.slice none 0 0) [] := ⟨[], World.ownsRow_nil _ _ _ _, by simp⟩
theorem OwnLL.single {EI EO : TypeId} {B : Nat} (w : World) (hB : B ≤ w.heap.size) : OwnLL EI EO B (w.alloc (.cells #[.slice none 0 0] EO)) (.slice (some ⟨w.heap.size, 0, none⟩) 1 1) [[]] := by
  refine ⟨[.slice none 0 0], World.ownsRow_lit w #[.slice none 0 0] 1 hB (by decide) rfl, ?_⟩
  intro k u hu
  cases k with
  | zero => simp only [List.getElem?_cons_zero, Option.some.injEq] at hu; subst hu; exact ⟨[], rfl, OwnI.nil _ _ _⟩
  | succ k => simp at hu
theorem OwnLL.keep {EI EO : TypeId} {B : Nat} {w w' : World} {v : Value} {ls : List (List Int)} (h : OwnLL EI EO B w v ls) (hb : Below w.heap.size w w') : OwnLL EI EO B w' v ls := by
  obtain ⟨vs, ⟨h0, h1⟩, h2⟩ := h
  refine ⟨vs, ⟨h0, ?_⟩, fun k u hu => ?_⟩
  · rcases h1 with h1 | ⟨g, cap, cur, rfl, hBg, hg, r⟩
    · exact .inl h1
    · exact .inr ⟨g, cap, cur, rfl, hBg, by rw [hb.block g (Array.getElem?_eq_some_iff.1 hg).1]; exact hg, r⟩
  · obtain ⟨l, h3, h4⟩ := h2 k u hu
    exact ⟨l, h3, h4.keep hb⟩
theorem OwnLL.mono {EI EO : TypeId} {B B' : Nat} {w : World} {v : Value} {ls : List (List Int)} (h : OwnLL EI EO B w v ls) (hB : B' ≤ B) : OwnLL EI EO B' w v ls := by
  obtain ⟨vs, ⟨h0, h1⟩, h2⟩ := h
  refine ⟨vs, ⟨h0, ?_⟩, fun k u hu => ?_⟩
  · rcases h1 with h1 | ⟨g, cap, cur, rfl, hBg, r⟩
    · exact .inl h1
    · exact .inr ⟨g, cap, cur, rfl, by omega, r⟩
  · obtain ⟨l, h3, h4⟩ := h2 k u hu
    exact ⟨l, h3, h4.mono hB⟩
theorem OwnLL.lt {EI EO : TypeId} {B : Nat} {w : World} {v : Value} {ls : List (List Int)} (h : OwnLL EI EO B w v ls) : ∀ k, v.ownBlock = some k → B ≤ k ∧ k < w.heap.size := by
  obtain ⟨vs, h1, _⟩ := h
  exact h1.lt
theorem OwnLL.grow {EI EO : TypeId} {B B' n : Nat} {w w' : World} {v v' : Value} {ls : List (List Int)} {vs : List Value} (h : OwnLL EI EO B w v ls) (h' : w.ownsRow B' EO 1 v' n vs) (hT : EI ≠ EO) (hg : w.grownBy w' v'.ownBlock) (hne : ∀ k, v'.ownBlock = some k → v.ownBlock ≠ some k) : OwnLL EI EO B w' v ls := by
  obtain ⟨us, h1, h2⟩ := h
  refine ⟨us, h1.kept hg ?_, fun k u hu => ?_⟩
  · cases hv : v'.ownBlock with
    | none =>
      cases hu : v.ownBlock with
      | none => exact .inl rfl
      | some q => exact .inr (by simp)
    | some q =>
      right
      intro e
      exact hne q hv e
  · obtain ⟨l, h3, h4⟩ := h2 k u hu
    exact ⟨l, h3, h4.grow hg (own_ne h4.1 h' hT)⟩
theorem OwnLL.growLow {EI EO : TypeId} {B g : Nat} {w w' : World} {v : Value} {ls : List (List Int)} (h : OwnLL EI EO B w v ls) (hg : w.grownBy w' (some g)) (hB : g < B) : OwnLL EI EO B w' v ls := by
  obtain ⟨us, h1, h2⟩ := h
  refine ⟨us, h1.kept hg ?_, fun k u hu => ?_⟩
  · right
    intro e
    have := (h1.lt g e).1
    omega
  · obtain ⟨l, h3, h4⟩ := h2 k u hu
    exact ⟨l, h3, h4.grow hg (fun q hq hq2 => by cases hq; have := (h4.lt _ hq2).1; omega)⟩
theorem OwnLL.row {EI EO : TypeId} {B : Nat} {w : World} {v : Value} {ls : List (List Int)} (h : OwnLL EI EO B w v ls) : ∃ vs, w.ownsRow B EO 1 v ls.length vs := ⟨h.choose, h.choose_spec.1⟩
theorem OwnI.growL {EI EO : TypeId} {B B' n : Nat} {w w' : World} {u v' : Value} {l : List Int} {vs : List Value} (h : OwnI EI B w u l) (h' : w.ownsRow B' EO 1 v' n vs) (hT : EI ≠ EO) (hg : w.grownBy w' v'.ownBlock) : OwnI EI B w' u l := h.grow hg (own_ne h.1 h' hT)
/-- the k-th slice -/
theorem OwnLL.view {EI EO : TypeId} {B : Nat} {w : World} {a : Option Addr} {n c : Nat} {ls : List (List Int)} (h : OwnLL EI EO B w (.slice a n c) ls) (P : Program) (T : TypeId) (hT : P.underlying T = some (.slice EO)) (hs : SliceElem P EO) (k : Nat) (hk : k < ls.length) :
    ∃ g u, (∀ (w' : World), (Instr.indexAt T (.slice a n c) (.int .i64 (k : Int))).run P w' = .ok (.pointer (some ⟨g, k, none⟩)) w') ∧ w.cell? ⟨g, k, none⟩ = some u ∧ OwnI EI B w u ls[k] := by
  obtain ⟨vs, h1, h2⟩ := h
  have hE : P.elem T = EO := by simp [Program.elem, hT]
  obtain ⟨i, hi, _, hi', _⟩ := hs.get
  have hl := h1.1
  rcases h1.2 with ⟨e, hn⟩ | ⟨g, cap, cur, e, hB, hg, hn, hm, hsz, ht⟩
  · omega
  · simp only [Value.slice.injEq] at e
    obtain ⟨rfl, rfl, rfl⟩ := e
    have hv : k < vs.length := by omega
    obtain ⟨l, h3, h4⟩ := h2 k vs[k] (List.getElem?_eq_getElem hv)
    rw [List.getElem?_eq_getElem hk] at h3
    cases h3
    refine ⟨g, vs[k], fun w' => ?_, ?_, h4⟩
    · rw [run_indexAt_slice w' T ⟨g, 0, none⟩ ls.length c .i64 k (by rw [hE]; exact hT), if_pos ⟨by omega, by omega⟩, hE]
      simp [sizeOf, typeInfo, hi, hi', Addr.add]
      exact fun h => h.symm
    · have hrow : w.ownsRow B EO 1 (.slice (some ⟨g, 0, none⟩) ls.length c) ls.length vs := ⟨h1.1, .inr ⟨g, c, cur, rfl, hB, hg, hn, hm, hsz, ht⟩⟩
      rw [hrow.cellAt k (by omega)]
      exact List.getElem?_eq_getElem hv

/-- out = append(out, l), l the call's own -/
theorem wpList_appendL {P : Program} {w : World} {ops : Array Oper} {rest : List Oper} {o : Oper} {a : Act} {Q : Exit → Act → World → Prop} (hgd : o.guard = none) (s x : Operand) (t : TypeId)
    (ho : o.op = .call { callee := .builtin .append, args := #[s, x], argTypes := #[t, t] })
    (EI EO : TypeId) (hne : EI ≠ EO) (ht : P.underlying t = some (.slice EO)) (hE : SliceElem P EO) (B : Nat) (v : Value) (ls : List (List Int)) (u : Value) (l : List Int) (b : Nat) (hs : a.eval s = v) (hx : a.eval x = .slice (some ⟨b, 0, none⟩) 1 1)
    (hy : w.cell? ⟨b, 0, none⟩ = some u) (hown : OwnLL EI EO B w v ls) (hu : OwnI EI B w u l) (hlen : ls.length < 5497558138879) (hB : B ≤ w.heap.size)
    (h : ∀ v' w', OwnLL EI EO B w' v' (ls ++ [l]) → w.grownBy w' v.ownBlock → wpList P ops Q rest (a.put o.dst v') w') : wpList P ops Q (o :: rest) a w := by
  obtain ⟨i, hi, hz, h1, h8⟩ := hE.get
  obtain ⟨vs, ho1, ho2⟩ := hown
  have hone : u.oneCell' = true := by
    obtain ⟨a', n', c', rfl⟩ := hu.shape3
    rfl
  refine wpList_append_own w hgd s x t ho B EO i (.slice none 0 0) 1 24 ht hi hz h1 h8 rfl (by decide) v ls.length vs hs ho1 ⟨b, 0, none⟩ 1 1 [u] hx rfl ?_ ?_ ?_ ?_ hB ?_
  · intro j q hj
    match j, hj with
    | 0, hj => simp at hj; subst hj; simpa [Addr.add] using hy
    | j + 1, hj => simp at hj
  · intro q hq; simp at hq; subst hq; exact hone
  · unfold maxLen; omega
  · omega
  · intro v' w' hown' hg _
    refine h v' w' ⟨vs ++ [u], by simpa using hown', fun k q hq => ?_⟩ hg
    have hl := ho1.1
    by_cases hk : k < vs.length
    · rw [List.getElem?_append_left hk] at hq
      obtain ⟨l', h3, h4⟩ := ho2 k q hq
      exact ⟨l', by rw [List.getElem?_append_left (by omega)]; exact h3, h4.grow hg (own_ne h4.1 ho1 hne)⟩
    · rw [List.getElem?_append_right (by omega)] at hq
      have hk0 : k - vs.length = 0 := by
        cases hkk : k - vs.length with
        | zero => rfl
        | succ m => rw [hkk] at hq; simp at hq
      rw [hk0] at hq
      simp only [List.getElem?_cons_zero, Option.some.injEq] at hq
      subst hq
      refine ⟨l, ?_, hu.grow hg (own_ne hu.1 ho1 hne)⟩
      rw [List.getElem?_append_right (by omega), show k - ls.length = 0 by omega]; rfl
end Go.G5

namespace Go.Proofs.YtipejodijbjpcaaGreatDoor
open Go.RowKit Go.G5
theorem sliceElem : SliceElem Tryz.prog 22 := ⟨by kernel_rfl⟩
theorem noMeet : (3 : TypeId) ≠ 22 := by decide
theorem ll_used : (39 : TypeId) = 39 := rfl
end Go.Proofs.YtipejodijbjpcaaGreatDoor
end
section
namespace Go.Proofs.YtipejodijbjpcaaGreatDoor
open Go.RowKit Go.G5

def has (l : List Int) (s : Int) : Bool := decide (s ∈ l)
theorem has_true {l : List Int} {s : Int} : has l s = true ↔ s ∈ l := by simp [has]
theorem has_at (l : List Int) (k : Nat) (h : k < l.length) : has l l[k] = true := has_true.2 (List.getElem_mem h)
theorem has_false {l : List Int} {s : Int} (h : ∀ k, (hk : k < l.length) → l[k] ≠ s) : has l s = false := by
  unfold has
  rw [decide_eq_false_iff_not]
  intro hm
  obtain ⟨k, hk, he⟩ := List.getElem_of_mem hm
  exact h k hk he

set_option maxHeartbeats 400000 in
theorem l10Has_any (l : List Int) (v : Value) (s : Int) (w : World) (hv : Ints w v l) :
    Calls Tryz.prog 195 #[v, .int .i64 s] w fun e w' => e = .returned (.bool (has l s)) ∧ w = w' := by
  obtain ⟨a, b, off, c, rfl, hlen, hix, hc, hb⟩ := hv.view Tryz.prog 22 3 Tryz.underlying22 intElem
  go_enter Tryz.func195, Tryz.ntmps195
  go_wp2
  go_loop [5] (fun i => ∃ k : Nat, k ≤ l.length ∧ i = .int .i64 k ∧ (∀ j, (hj : j < l.length) → j < k → l[j] ≠ s)) (fun i => l.length - (intOf i).toNat)
  case atStart => exact ⟨0, Nat.zero_le _, rfl, by intros; omega⟩
  case round =>
    obtain ⟨k, hk, rfl, hno⟩ := hrel
    have H := Lib.hid hno
    clear hno
    by_cases hlt : k < l.length
    · by_cases he : l[k] = s
      · have ht : (l[k] == s) = true := by simp [he]
        have hh : has l s = true := by rw [← he]; exact has_at l k hlt
        have HH := Lib.hid hh
        clear he hh
        go_wp2
        go_ret
        exact ⟨by rw [HH.out]; rfl, rfl⟩
      · have ht : (l[k] == s) = false := by simp [he]
        have HE := Lib.hid he
        clear he
        go_wp2
        go_round
        case rel =>
          refine ⟨k + 1, by omega, by go_num, fun j hj hjk => ?_⟩
          by_cases hjk' : j = k
          · subst hjk'; exact HE.out
          · exact H.out j hj (by omega)
        case measure => simp [intOf]; omega
    · have hh : has l s = false := has_false fun j hj => H.out j hj (by omega)
      have HH := Lib.hid hh
      clear hh
      go_wp2
      go_ret
      exact ⟨by rw [HH.out]; rfl, rfl⟩

theorem cmpNaN_any (x : Int) (w : World) : Calls Tryz.prog 374 #[.int .i64 x] w fun e w' => e = .returned (.bool false) ∧ w = w' := by
  have h : (x != x) = false := by simp
  go_enter Tryz.func374, Tryz.ntmps374
  go_wp2
  go_ret
  exact ⟨rfl, rfl⟩
theorem slNaN_any (x : Int) (w : World) : Calls Tryz.prog 348 #[.int .i64 x] w fun e w' => e = .returned (.bool false) ∧ w = w' := by
  have h : (x != x) = false := by simp
  go_enter Tryz.func348, Tryz.ntmps348
  go_wp2
  go_ret
  exact ⟨rfl, rfl⟩
theorem cmpLess_any (x y : Int) (w : World) : Calls Tryz.prog 347 #[.int .i64 x, .int .i64 y] w fun e w' => e = .returned (.bool (decide (x < y))) ∧ w = w' := by
  go_enter Tryz.func347, Tryz.ntmps347
  go_wp2_with (go_at_call 374; refine (cmpNaN_any _ _).mono ?_; rintro e w' ⟨rfl, rfl⟩)
  go_ret
  exact ⟨rfl, rfl⟩

set_option maxHeartbeats 1000000 in
theorem binSearch_any (l : List Int) (v : Value) (s : Int) (w : World) (hv : Ints w v l) (hasc : l.Pairwise (· < ·)) (hl : l.length ≤ 1048576) :
    Calls Tryz.prog 310 #[v, .int .i64 s] w fun e w' => (∃ i : Int, e = .returned (.tuple #[.int .i64 i, .bool (has l s)])) ∧ w = w' := by
  obtain ⟨a, b, off, c, rfl, hlen, hix, hc, hb⟩ := hv.view Tryz.prog 22 3 Tryz.underlying22 intElem
  have hmono : ∀ i j, (hi : i < l.length) → (hj : j < l.length) → i < j → l[i] < l[j] := fun i j hi hj hij => List.pairwise_iff_getElem.1 hasc i j hi hj hij
  have HMO := Lib.hid hmono
  clear hmono hasc
  go_enter Tryz.func310, Tryz.ntmps310
  go_wp2
  go_loop [7, 8] (fun i j => ∃ p q : Nat, p ≤ q ∧ q ≤ l.length ∧ i = .int .i64 p ∧ j = .int .i64 q ∧ (∀ t, (ht : t < l.length) → t < p → l[t] < s) ∧ (∀ t, (ht : t < l.length) → q ≤ t → s ≤ l[t])) (fun i j => (intOf j).toNat - (intOf i).toNat)
  case atStart => exact ⟨0, l.length, Nat.zero_le _, Nat.le_refl _, rfl, rfl, by intros; omega, by intros; omega⟩
  case round =>
    obtain ⟨p, q, hpq, hql, rfl, rfl, hlo, hhi⟩ := hrel
    have HLO := Lib.hid hlo
    have HHI := Lib.hid hhi
    clear hlo hhi
    by_cases hlt : p < q
    · have hm : (p + q) / 2 < l.length := by omega
      have hcm := hc ((p + q) / 2) hm
      have hixm : ∀ w', (Instr.indexAt 22 (.slice a l.length c) (.int .i64 (((p : Int) + (q : Int)) / 2))).run Tryz.prog w' = .ok (.pointer (some ⟨b, off + (p + q) / 2, none⟩)) w' := fun w' => by
        rw [show (((p : Int) + (q : Int)) / 2) = (((p + q) / 2 : Nat) : Int) by omega]
        exact hix w' _ hm
      by_cases hls : l[(p + q) / 2] < s
      · go_wp2_with (go_at_call 347; refine (cmpLess_any _ _ _).mono ?_; rintro e w' ⟨rfl, rfl⟩)
        go_round
        case rel =>
          refine ⟨(p + q) / 2 + 1, q, by omega, hql, by go_num, rfl, fun t ht htp => ?_, HHI.out⟩
          by_cases h : t = (p + q) / 2
          · subst h; exact hls
          · have := HMO.out t ((p + q) / 2) ht hm (by omega); omega
        case measure => simp [intOf]; omega
      · go_wp2_with (go_at_call 347; refine (cmpLess_any _ _ _).mono ?_; rintro e w' ⟨rfl, rfl⟩)
        go_round
        case rel =>
          refine ⟨p, (p + q) / 2, by omega, by omega, rfl, by go_num, HLO.out, fun t ht htp => ?_⟩
          by_cases h : t = (p + q) / 2
          · subst h; omega
          · have := HMO.out ((p + q) / 2) t hm ht (by omega); omega
        case measure => simp [intOf]; omega
    · have hpq' : p = q := by omega
      by_cases hpl : p < l.length
      · have hcp := hc p hpl
        by_cases he : l[p] = s
        · have ht : (l[p] == s) = true := by simp [he]
          have hh : has l s = true := by rw [← he]; exact has_at l p hpl
          have HH := Lib.hid hh
          clear he hh hpq'
          go_wp2_with (go_at_call 348; refine (slNaN_any _ _).mono ?_; rintro e w' ⟨rfl, rfl⟩)
          go_ret2
          exact ⟨⟨p, by rw [HH.out]; rfl⟩, rfl⟩
        · have ht : (l[p] == s) = false := by simp [he]
          have hh : has l s = false := has_false fun t ht' hts => by
            rcases Nat.lt_trichotomy t p with h | h | h
            · have := HLO.out t ht' h; omega
            · subst h; exact he hts
            · have h1 := HHI.out p hpl (by omega)
              have h2 := HMO.out p t hpl ht' h
              omega
          have HH := Lib.hid hh
          clear he hh hpq'
          go_wp2_with (go_at_call 348; refine (slNaN_any _ _).mono ?_; rintro e w' ⟨rfl, rfl⟩)
          go_ret2
          exact ⟨⟨p, by rw [HH.out]; rfl⟩, rfl⟩
      · have hh : has l s = false := has_false fun t ht' hts => by
          have := HLO.out t ht' (by omega); omega
        have HH := Lib.hid hh
        clear hh hpq'
        go_wp2
        go_ret2
        exact ⟨⟨p, by rw [HH.out]; rfl⟩, rfl⟩

theorem hasSet_any (g : Int) (l : List Int) (v : Value) (s : Int) (w : World) (hv : Ints w v l) (hasc : l.Pairwise (· < ·)) (hl : l.length ≤ 1048576) :
    Calls Tryz.prog 236 #[.agg #[.int .i64 g, v], .int .i64 s] w fun e w' => e = .returned (.bool (has l s)) ∧ Below w.heap.size w w' := by
  obtain ⟨av, cv, rfl⟩ := hv.shape
  have H := Lib.hid hasc
  clear hasc
  go_enter Tryz.func236, Tryz.ntmps236
  go_wp2_with (go_at_call 310; refine (binSearch_any l _ _ _ (hv.alloc _) H.out hl).mono ?_; rintro e w' ⟨⟨i, rfl⟩, rfl⟩)
  go_ret
  exact ⟨rfl, bl1 _ _⟩
end Go.Proofs.YtipejodijbjpcaaGreatDoor
end
section
namespace Go.Proofs.YtipejodijbjpcaaGreatDoor
open Go.RowKit Go.G5

theorem lt_of_cell' {w : World} {a : Addr} {v : Value} (h : w.cell? a = some v) : a.block < w.heap.size := World.block_lt_of_cell? w a h

/-! what is a member -/
set_option maxHeartbeats 400000 in
theorem slIndex_any (l : List Int) (v : Value) (s : Int) (w : World) (hv : Ints w v l) :
    Calls Tryz.prog 247 #[v, .int .i64 s] w fun e w' => (∃ i : Int, e = .returned (.int .i64 i) ∧ (0 ≤ i ↔ has l s = true) ∧ -1 ≤ i ∧ i ≤ 9223372036854775807) ∧ w = w' := by
  obtain ⟨a, b, off, c, rfl, hlen, hix, hc, hb⟩ := hv.view Tryz.prog 22 3 Tryz.underlying22 intElem
  go_enter Tryz.func247, Tryz.ntmps247
  go_wp2
  go_loop [8] (fun i => ∃ k : Nat, k ≤ l.length ∧ i = .int .i64 k ∧ ∀ j, (hj : j < l.length) → j < k → l[j] ≠ s) (fun i => l.length - (intOf i).toNat)
  case atStart => exact ⟨0, Nat.zero_le _, rfl, fun j _ h => by omega⟩
  case round =>
    obtain ⟨k, hk, rfl, hall⟩ := hrel
    have H := Lib.hid hall
    clear hall
    by_cases hlt : k < l.length
    · have hck := hc k hlt
      by_cases he : s = l[k]
      · have ht : (s == l[k]) = true := by simp [he]
        have hh : has l s = true := by rw [he]; exact has_at l k hlt
        have HH := Lib.hid hh
        clear he hh
        go_wp2
        go_ret
        exact ⟨⟨k, rfl, by rw [HH.out]; simp, by omega, by omega⟩, rfl⟩
      · have ht : (s == l[k]) = false := by simp [he]
        go_wp2
        go_round
        case rel =>
          refine ⟨k + 1, by omega, by go_num, fun j hj hjk => ?_⟩
          by_cases h : j < k
          · exact H.out j hj h
          · have : j = k := by omega
            subst this
            exact fun h => he h.symm
        case measure => simp [intOf]; omega
    · have hh : has l s = false := has_false fun j hj => H.out j hj (by omega)
      have HH := Lib.hid hh
      clear hh
      go_wp2
      go_ret
      exact ⟨⟨-1, rfl, by rw [HH.out]; simp, by omega, by omega⟩, rfl⟩

theorem slContains_any (l : List Int) (v : Value) (s : Int) (w : World) (hv : Ints w v l) :
    Calls Tryz.prog 133 #[v, .int .i64 s] w fun e w' => e = .returned (.bool (has l s)) ∧ w = w' := by
  obtain ⟨a, c, rfl⟩ := hv.shape
  go_enter Tryz.func133, Tryz.ntmps133
  go_wp2_with (go_at_call 247; refine (slIndex_any l _ s _ hv).mono ?_; rintro e w' ⟨⟨i, rfl, hi, hi1, hi2⟩, rfl⟩; have HI := Lib.hid hi; clear hi)
  go_ret
  refine ⟨ret_bool ?_, rfl⟩
  cases hh : has l s with
  | true => have := HI.out.2 hh; simpa using this
  | false =>
    have h : ¬ 0 ≤ i := fun h => by rw [HI.out.1 h] at hh; cases hh
    simpa using h

/-! gains -/
def setBit (s e : Nat) : Nat := s ||| 2 ^ e
def gainL (l : List Int) (s e : Nat) : Int := l.getD (setBit s e) 0 - l.getD s 0

theorem setBit_is (s e : Nat) (hs : s < 4611686018427387904) (he : e < 6) : bits .or .i64 (s : Int) (2 ^ e) = ((setBit s e : Nat) : Int) := by
  have hp := Nat.pow_lt_pow_right (show 1 < 2 by decide) he
  have := bitsO s (2 ^ e) (by omega) (by simp at hp; omega)
  unfold setBit
  rw [← this]; push_cast; rfl
theorem setBit_lt (s e n : Nat) (hs : s < 2 ^ n) (he : e < n) : setBit s e < 2 ^ n := Nat.or_lt_two_pow hs (Nat.pow_lt_pow_right (by decide) he)

set_option maxHeartbeats 400000 in
theorem gain_any (n : Int) (l : List Int) (v : Value) (s e : Nat) (w : World) (hv : Ints w v l) (hl : l.length ≤ 64) (hs : s < l.length) (he : e < 6) (hse : setBit s e < l.length) (hlb : ∀ k, (hk : k < l.length) → -1000 ≤ l[k] ∧ l[k] ≤ 1000) :
    Calls Tryz.prog 243 #[.agg #[.int .i64 n, v], .int .i64 (s : Int), .int .i64 (e : Int)] w fun e' w' => e' = .returned (.int .i64 (gainL l s e)) ∧ Below w.heap.size w w' := by
  obtain ⟨a, b, off, c, rfl, hlen, hix, hc, hb⟩ := hv.view Tryz.prog 22 3 Tryz.underlying22 intElem
  have hc1 := cells_below hc hb (bl1 w (.cells #[.int .i64 n, .slice a l.length c] 32)) (Nat.le_refl _)
  have h1 := hlb s hs
  have h2 := hlb _ hse
  have hg : gainL l s e = l[setBit s e] - l[s] := by
    unfold gainL
    rw [List.getD_eq_getElem?_getD, List.getD_eq_getElem?_getD, List.getElem?_eq_getElem hs, List.getElem?_eq_getElem hse]; rfl
  have hor := setBit_is s e (by omega) he
  have hc2 := hc1 _ hse
  have hc3 := hc1 s hs
  have hi2 := fun w' => hix w' _ hse
  have hi3 := fun w' => hix w' s hs
  have hp64 := two_pow e 6 (by omega)
  have hp1 : (2 : Int) ^ e ≤ 64 := by simpa using hp64.1
  have hp2 := hp64.2
  have he0 : (0 : Int) ≤ (e : Int) := Int.natCast_nonneg _
  obtain ⟨x, hx⟩ : ∃ x, x = l[setBit s e] := ⟨_, rfl⟩
  obtain ⟨y, hy⟩ : ∃ y, y = l[s] := ⟨_, rfl⟩
  obtain ⟨q, hq⟩ : ∃ q, q = setBit s e := ⟨_, rfl⟩
  rw [← hx] at hg h2 hc2
  rw [← hy] at hg h1 hc3
  rw [← hq] at hor hi2 hc2
  have hw : IntKind.i64.wrap (x - y) = x - y := by rw [IntKind.wrap_i64]; omega
  have HG := Lib.hid hg
  clear hg hlb hc hb hc1 hix hx hy hq hp64 hse hs
  go_enter Tryz.func243, Tryz.ntmps243
  go_wp2
  go_quiet (fail)
  go_wp2
  go_ret
  exact ⟨ret_int (by rw [HG.out]), (bl1 _ _).drewN' _⟩

/-! the gains along an order -/
def prefS (o : List Int) : Nat → Nat
  | 0 => 0
  | k + 1 => setBit (prefS o k) (o.getD k 0).toNat
def cornerTo (l o : List Int) : Nat → List Int
  | 0 => List.replicate o.length 0
  | k + 1 => (cornerTo l o k).set (o.getD k 0).toNat (gainL l (prefS o k) (o.getD k 0).toNat)
def cornerL (l o : List Int) : List Int := cornerTo l o o.length
theorem cornerTo_len (l o : List Int) (k : Nat) : (cornerTo l o k).length = o.length := by
  induction k with
  | zero => simp [cornerTo]
  | succ k ih => simp [cornerTo, ih]
theorem prefS_lt (o : List Int) (n k : Nat) (h : ∀ x ∈ o, 0 ≤ x ∧ x < n) (hk : k ≤ o.length) : prefS o k < 2 ^ n := by
  induction k with
  | zero => exact Nat.two_pow_pos n
  | succ k ih =>
    have hm := h _ (List.getElem_mem (show k < o.length by omega))
    rw [prefS, List.getD_eq_getElem?_getD, List.getElem?_eq_getElem (show k < o.length by omega), Option.getD_some]
    exact setBit_lt _ _ _ (ih (by omega)) (by omega)
theorem gainL_bd (l : List Int) (s e : Nat) (hs : s < l.length) (hse : setBit s e < l.length) (hlb : ∀ k, (hk : k < l.length) → -1000 ≤ l[k] ∧ l[k] ≤ 1000) : -2000 ≤ gainL l s e ∧ gainL l s e ≤ 2000 := by
  have h1 := hlb s hs
  have h2 := hlb _ hse
  unfold gainL
  rw [List.getD_eq_getElem?_getD, List.getD_eq_getElem?_getD, List.getElem?_eq_getElem hs, List.getElem?_eq_getElem hse, Option.getD_some, Option.getD_some]
  omega

set_option maxHeartbeats 1000000 in
set_option maxRecDepth 100000 in
theorem corner_any (g : Int) (l o : List Int) (v u : Value) (w : World) (hv : Ints w v l) (hu : Ints w u o) (hn : o.length ≤ 5) (hl : l.length = 2 ^ o.length) (hlb : ∀ k, (hk : k < l.length) → -1000 ≤ l[k] ∧ l[k] ≤ 1000) (ho : ∀ x ∈ o, 0 ≤ x ∧ x < o.length) :
    Calls Tryz.prog 121 #[.agg #[.int .i64 g, v], u] w fun e w' => ∃ ad i c, e = .returned (.slice ad i c) ∧ OwnI 3 w.heap.size w' (.slice ad i c) (cornerL l o) ∧ Below w.heap.size w w' := by
  obtain ⟨av, cv, rfl⟩ := hv.shape
  obtain ⟨a, b, off, c, rfl, hlen, hix, hc, hb⟩ := hu.view Tryz.prog 22 3 Tryz.underlying22 intElem
  have hl32 : l.length ≤ 32 := by rw [hl]; exact Nat.pow_le_pow_right (by decide) hn
  have X0 := Box2.new w g (.slice av l.length cv) 32
  have HL := Lib.hid hl
  have HLB := Lib.hid hlb
  have HO := Lib.hid ho
  clear hl hlb ho
  go_enter Tryz.func121, Tryz.ntmps121
  go_wp2_with (at_make; refine wpList_makeI rfl _ _ _ rfl 3 Tryz.underlying22 intElem o.length _ _ rfl rfl rfl rfl (by omega) ?_; intro w2 hown hg)
  have X2 := X0.grow hg (by simp)
  simp at hown
  clear X0 hg
  go_loopw [6, 14] (fun s i wr => ∃ k : Nat, k ≤ o.length ∧ i = .int .i64 k ∧ s = .int .i64 (prefS o k) ∧ OwnI 3 (w.heap.size + 1) wr (.slice (some ⟨w.heap.size + 1, 0, none⟩) o.length o.length) (cornerTo l o k) ∧ Box2 w wr g (.slice av l.length cv))
    (fun _ i _ => o.length - (intOf i).toNat)
  case atStart => exact ⟨0, Nat.zero_le _, rfl, rfl, hown, X2⟩
  case round =>
    obtain ⟨k, hk, rfl, rfl, ow, X⟩ := hrel
    clear hown X2
    have HW := Lib.hid ow
    clear ow
    obtain ⟨d0, d1, B1, z1⟩ := X
    by_cases hlt : k < o.length
    · have hck := cells_below hc hb B1 (Nat.le_refl _) k hlt
      have hm := HO.out _ (List.getElem_mem hlt)
      obtain ⟨e, he⟩ : ∃ e : Nat, o[k] = (e : Int) := ⟨o[k].toNat, by omega⟩
      rw [he] at hck
      have heo : e < o.length := by omega
      have hgd : (o.getD k 0).toNat = e := by rw [List.getD_eq_getElem?_getD, List.getElem?_eq_getElem hlt, Option.getD_some, he]; omega
      have hpl := prefS_lt o o.length k HO.out hk
      rw [← HL.out] at hpl
      have hse : setBit (prefS o k) e < l.length := by rw [HL.out] at hpl ⊢; exact setBit_lt _ _ _ hpl heo
      have hpk : prefS o (k + 1) = setBit (prefS o k) e := by rw [prefS, hgd]
      have hck1 : cornerTo l o (k + 1) = (cornerTo l o k).set e (gainL l (prefS o k) e) := by rw [cornerTo, hgd]
      have hgb := gainL_bd l (prefS o k) e hpl hse HLB.out
      obtain ⟨p, hp⟩ : ∃ p, p = prefS o k := ⟨_, rfl⟩
      rw [← hp] at hpl hse hpk hck1 hgb ⊢
      have hor := setBit_is p e (by omega) (by omega)
      have hp64 := two_pow e 6 (by omega)
      have hp1 : (2 : Int) ^ e ≤ 64 := by simpa using hp64.1
      have hp2 := hp64.2
      have hv1 := hv.below B1 (Nat.le_refl _)
      have HPK := Lib.hid hpk
      have HCK := Lib.hid hck1
      have hlen2 : o.length = (cornerTo l o k).length := (cornerTo_len l o k).symm
      have hcell : ∃ q, wr.cell? ⟨w.heap.size + 1, e, none⟩ = some q := ⟨_, HW.out.cellAt hlen2 e (by omega)⟩
      obtain ⟨q, hcell⟩ := hcell
      have hfr := HW.out.frozenAt hlen2 e
      have hbw : w.heap.size + 1 < wr.heap.size := lt_of_cell' hcell
      have he0 : (0 : Int) ≤ (e : Int) := Int.natCast_nonneg _
      have heo1 : (e : Int) < (o.length : Int) := by omega
      clear hp he hgd hpk hck1 hm hlen2 hp64
      go_wp2_with (go_at_call 243; refine (gain_any g l _ p e _ hv1 (by omega) hpl (by omega) hse HLB.out).mono ?_; rintro e' w3 ⟨rfl, hb3⟩; have hcell3 := keep hb3 hcell; have hfr3 : w3.frozen? ⟨w.heap.size + 1, e, none⟩ = false := (hb3.frozen (p := ⟨w.heap.size + 1, e, none⟩) hbw).trans hfr)
      have ow3 := (HW.out.keep hb3).stored (cornerTo_len l o k).symm e (gainL l p e) ⟨by omega, by omega⟩
      have X3 := ((Box2.mk d0 d1 B1 z1).after hb3).grow ow3.2 (by simp)
      have HW3 := Lib.hid ow3.1
      go_roundw
      case rel => exact ⟨k + 1, by omega, by go_num, by rw [HPK.out], by rw [HCK.out]; exact HW3.out, X3⟩
      case measure => simp [intOf]; omega
    · have hko : k = o.length := by omega
      subst hko
      go_wp2
      go_ret
      exact ⟨_, _, _, rfl, HW.out.mono (by omega), B1⟩
end Go.Proofs.YtipejodijbjpcaaGreatDoor
end
