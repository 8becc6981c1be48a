/- choose: the family of the sets that a function wants. Counting families: the shared walks. Sets with pairs of elements outside of them, in order. Slices of slices of ints that a call owns. -/
import Derived.Test.YtelmokapdkepbaaGreatQ07
import Derived.Shelf.Abstract
import Derived.Deep.Light
import Derived.Deep.AppendLies
section
namespace Go.Proofs.YtelmokapdkepbaaGreat
open Go.RowKit Go.G5

/-- block B holds a struct of two cells that may be written -/
structure BoxAt (wr : World) (B : Nat) (x y : Value) : Prop where
  d0 : wr.cell? ⟨B, 0, none⟩ = some x
  d1 : wr.cell? ⟨B, 1, none⟩ = some y
  f0 : wr.frozen? ⟨B, 0, none⟩ = false
  f1 : wr.frozen? ⟨B, 1, none⟩ = false
theorem BoxAt.lt {wr : World} {B : Nat} {x y : Value} (h : BoxAt wr B x y) : B < wr.heap.size := World.block_lt_of_cell? wr _ h.d0
theorem BoxAt.keep {wr w2 : World} {B : Nat} {x y : Value} (h : BoxAt wr B x y) (hb : Below wr.heap.size wr w2) : BoxAt w2 B x y :=
  ⟨G5.keep hb h.d0, G5.keep hb h.d1, (hb.frozen (p := ⟨B, 0, none⟩) h.lt).trans h.f0, (hb.frozen (p := ⟨B, 1, none⟩) h.lt).trans h.f1⟩
theorem BoxAt.grow {wr w2 : World} {row : Option Nat} {B : Nat} {x y : Value} (h : BoxAt wr B x y) (hg : wr.grownBy w2 row) (hne : row ≠ some B) : BoxAt w2 B x y :=
  ⟨G5.grown_keep hg h.d0 (fun k hk e => hne (by rw [hk, ← e])), G5.grown_keep hg h.d1 (fun k hk e => hne (by rw [hk, ← e])),
   by rw [World.frozen?_of_block (hg.block B h.lt (fun e => hne e.symm))]; exact h.f0, by rw [World.frozen?_of_block (hg.block B h.lt (fun e => hne e.symm))]; exact h.f1⟩
theorem BoxAt.set1 {wr : World} {B : Nat} {x y : Value} (h : BoxAt wr B x y) (v : Value) : BoxAt (wr.setCell ⟨B, 1, none⟩ v) B x v :=
  ⟨by rw [World.cell?_setCell_other _ _ _ _ (by simp)]; exact h.d0, World.cell?_setCell_same _ _ _ h.d1, by rw [World.frozen?_setCell]; exact h.f0, by rw [World.frozen?_setCell]; exact h.f1⟩
theorem BoxAt.other {wr : World} {B B' j : Nat} {x y : Value} (h : BoxAt wr B x y) (hne : B' ≠ B) (v : Value) : BoxAt (wr.setCell ⟨B', j, none⟩ v) B x y :=
  ⟨by rw [World.cell?_setCell_other _ _ _ _ (fun e => hne (congrArg Addr.block e))]; exact h.d0, by rw [World.cell?_setCell_other _ _ _ _ (fun e => hne (congrArg Addr.block e))]; exact h.d1, by rw [World.frozen?_setCell]; exact h.f0, by rw [World.frozen?_setCell]; exact h.f1⟩
theorem BoxAt.new (w : World) (x y : Value) (T : TypeId) : BoxAt (w.alloc (.cells #[x, y] T)) w.heap.size x y :=
  ⟨cell_new w #[x, y] T 0 _ rfl, cell_new w #[x, y] T 1 _ rfl, World.frozen?_alloc_at _ _ _ _ rfl, World.frozen?_alloc_at _ _ _ _ rfl⟩

/-- the chosen sets below a bound -/
def chosen (P : Nat → Bool) (k : Nat) : List Int := ((List.range k).filter P).map Int.ofNat
theorem chosen_succ (P : Nat → Bool) (k : Nat) : chosen P (k + 1) = if P k then chosen P k ++ [(k : Int)] else chosen P k := by
  unfold chosen
  rw [List.range_succ, List.filter_append, List.map_append]
  by_cases h : P k = true
  · simp [h]
  · simp [h]
theorem chosen_len (P : Nat → Bool) (k : Nat) : (chosen P k).length ≤ k := by
  unfold chosen; rw [List.length_map]; have := List.length_filter_le P (List.range k); simpa using this

end Go.Proofs.YtelmokapdkepbaaGreat
end
section
namespace Go.Proofs.YtelmokapdkepbaaGreat
open Go.RowKit Go.G5

def nbit (code s : Nat) : Bool := code / 2 ^ s % 2 == 1
theorem nbit_is (code s : Nat) : (ibit (code : Int) s == 1) = nbit code s := by
  unfold ibit nbit
  have h : ((code : Int) / 2 ^ s % 2) = ((code / 2 ^ s % 2 : Nat) : Int) := by push_cast; rfl
  rw [h]
  have : (code / 2 ^ s % 2) < 2 := Nat.mod_lt _ (by decide)
  rcases (show code / 2 ^ s % 2 = 0 ∨ code / 2 ^ s % 2 = 1 by omega) with h1 | h1 <;> rw [h1] <;> rfl
/-- the sets that are the bits of a number -/
def famOf (code : Nat) (k : Nat) : List Int := chosen (nbit code) k
theorem famOf_more (code k m : Nat) (h : code < 2 ^ k) : famOf code (k + m) = famOf code k := by
  induction m with
  | zero => rfl
  | succ m ih =>
    rw [← Nat.add_assoc, famOf, chosen_succ, if_neg, ← famOf, ih]
    have h1 : code < 2 ^ (k + m) := Nat.lt_of_lt_of_le h (Nat.pow_le_pow_right (by decide) (by omega))
    unfold nbit
    rw [Nat.div_eq_of_lt h1]; decide
theorem famOf_same (code k m : Nat) (h : code < 2 ^ k) (h' : code < 2 ^ m) : famOf code k = famOf code m := by
  rcases Nat.le_total k m with hkm | hkm
  · obtain ⟨d, rfl⟩ := Nat.exists_eq_add_of_le hkm
    exact (famOf_more code k d h).symm
  · obtain ⟨d, rfl⟩ := Nat.exists_eq_add_of_le hkm
    exact famOf_more code m d h'
/-- how many codes below k are wanted -/
def cntTo (Q : Nat → Bool) : Nat → Nat
  | 0 => 0
  | k + 1 => if Q k then cntTo Q k + 1 else cntTo Q k
theorem cntTo_le (Q : Nat → Bool) (k : Nat) : cntTo Q k ≤ k := by
  induction k with
  | zero => exact Nat.le_refl _
  | succ k ih => rw [cntTo]; split <;> omega

theorem famOf_bd (code k : Nat) : ∀ x ∈ famOf code k, 0 ≤ x ∧ x < (k : Int) := by
  intro x hx
  unfold famOf chosen at hx
  rw [List.mem_map] at hx
  obtain ⟨s, hs, rfl⟩ := hx
  rw [List.mem_filter, List.mem_range] at hs
  simp only [Int.ofNat_eq_natCast]
  omega
theorem famOf32 (code k : Nat) (h : code < 2 ^ k) (hk : k ≤ 32) : famOf code 32 = famOf code k :=
  famOf_same code 32 k (Nat.lt_of_lt_of_le h (Nat.pow_le_pow_right (by decide) hk)) h
def cntOf (Q : Int → Nat → Bool) (n : Int) : Int := if inB n 0 3 then (cntTo (Q n) (2 ^ 2 ^ n.toNat) : Int) else -1
theorem in03 {n : Int} (h : inB n 0 3 = true) : n = 0 ∨ n = 1 ∨ n = 2 ∨ n = 3 := by have := inB_true.1 h; omega
end Go.Proofs.YtelmokapdkepbaaGreat
end
section
namespace Go.Proofs.YtelmokapdkepbaaGreat
open Go.RowKit Go.G5

abbrev Tri := Nat × Nat × Nat
/-- those of a set and a first element with the second one below k -/
def tri (s i : Nat) : Nat → List Tri
  | 0 => []
  | k + 1 => tri s i k ++ (if (decide (i < k) && (!nbit s i && !nbit s k)) then [(s, i, k)] else [])
/-- those of a set with the first element below i -/
def tri2 (n s : Nat) : Nat → List Tri
  | 0 => []
  | i + 1 => tri2 n s i ++ tri s i n
/-- those of the sets below s -/
def tri3 (n : Nat) : Nat → List Tri
  | 0 => []
  | s + 1 => tri3 n s ++ tri2 n s n
theorem tri_start (s i : Nat) : ∀ k, k ≤ i + 1 → tri s i k = [] := by
  intro k
  induction k with
  | zero => intro _; rfl
  | succ k ih =>
    intro hk
    rw [tri, ih (by omega), decide_eq_false (by omega)]; rfl
theorem tri_in (s i k m : Nat) (h : k ≤ m) : ∃ r, tri s i m = tri s i k ++ r := by
  induction m with
  | zero =>
    have : k = 0 := by omega
    subst this; exact ⟨[], rfl⟩
  | succ m ih =>
    by_cases hk : k = m + 1
    · subst hk; exact ⟨[], by simp⟩
    · obtain ⟨r, hr⟩ := ih (by omega)
      exact ⟨r ++ _, by rw [tri, hr, List.append_assoc]⟩
theorem tri2_in (n s i m : Nat) (h : i ≤ m) : ∃ r, tri2 n s m = tri2 n s i ++ r := by
  induction m with
  | zero =>
    have : i = 0 := by omega
    subst this; exact ⟨[], rfl⟩
  | succ m ih =>
    by_cases hk : i = m + 1
    · subst hk; exact ⟨[], by simp⟩
    · obtain ⟨r, hr⟩ := ih (by omega)
      exact ⟨r ++ _, by rw [tri2, hr, List.append_assoc]⟩
theorem tri3_in (n s m : Nat) (h : s ≤ m) : ∃ r, tri3 n m = tri3 n s ++ r := by
  induction m with
  | zero =>
    have : s = 0 := by omega
    subst this; exact ⟨[], rfl⟩
  | succ m ih =>
    by_cases hk : s = m + 1
    · subst hk; exact ⟨[], by simp⟩
    · obtain ⟨r, hr⟩ := ih (by omega)
      exact ⟨r ++ _, by rw [tri3, hr, List.append_assoc]⟩
/-- what stands ahead of a place, with the place, stands at the front of all -/
theorem tri_front (n N s i k : Nat) (hs : s < N) (hi : i < n) (hk : k ≤ n) : ∃ r, tri3 n N = ((tri3 n s ++ tri2 n s i) ++ tri s i k) ++ r := by
  obtain ⟨r3, h3⟩ := tri3_in n (s + 1) N hs
  obtain ⟨r2, h2⟩ := tri2_in n s (i + 1) n hi
  obtain ⟨r1, h1⟩ := tri_in s i k n hk
  rw [tri3] at h3
  rw [tri2] at h2
  exact ⟨r1 ++ (r2 ++ r3), by rw [h3, h2, h1]; simp [List.append_assoc]⟩
theorem tri_mem (s i k : Nat) : ∀ t ∈ tri s i k, t.1 = s ∧ t.2.1 = i ∧ i < t.2.2 ∧ t.2.2 < k := by
  induction k with
  | zero => intro t h; cases h
  | succ k ih =>
    intro t h
    rw [tri, List.mem_append] at h
    rcases h with h | h
    · have := ih t h; omega
    · split at h
      · rename_i hc
        rw [List.mem_singleton] at h
        rw [Bool.and_eq_true] at hc
        have := of_decide_eq_true hc.1
        subst h; simp; omega
      · cases h
theorem tri2_mem (n s i : Nat) : ∀ t ∈ tri2 n s i, t.1 = s ∧ t.2.1 < i ∧ t.2.1 < t.2.2 ∧ t.2.2 < n := by
  induction i with
  | zero => intro t h; cases h
  | succ i ih =>
    intro t h
    rw [tri2, List.mem_append] at h
    rcases h with h | h
    · have := ih t h; omega
    · have := tri_mem s i n t h; omega
theorem tri3_mem (n s : Nat) : ∀ t ∈ tri3 n s, t.1 < s ∧ t.2.1 < t.2.2 ∧ t.2.2 < n := by
  induction s with
  | zero => intro t h; cases h
  | succ s ih =>
    intro t h
    rw [tri3, List.mem_append] at h
    rcases h with h | h
    · have := ih t h; omega
    · have := tri2_mem n s n t h; omega

/-- a walk over triples that may stop -/
def runT {α : Type} (step : α → Tri → α × Bool) : List Tri → α → α × Bool
  | [], a => (a, true)
  | t :: r, a => if (step a t).2 then runT step r (step a t).1 else ((step a t).1, false)
theorem runT_append {α : Type} (step : α → Tri → α × Bool) (x y : List Tri) (a : α) : runT step (x ++ y) a = if (runT step x a).2 then runT step y (runT step x a).1 else runT step x a := by
  induction x generalizing a with
  | nil => rfl
  | cons t x ih =>
    rw [List.cons_append, runT, runT]
    split
    · exact ih _
    · rename_i h; simp
theorem runT_go {α : Type} {step : α → Tri → α × Bool} {x y : List Tri} {a b : α} (h : runT step x a = (b, true)) : runT step (x ++ y) a = runT step y b := by rw [runT_append, h]; rfl
theorem runT_stop {α : Type} {step : α → Tri → α × Bool} {x y : List Tri} {a b : α} (h : runT step x a = (b, false)) : runT step (x ++ y) a = (b, false) := by rw [runT_append, h]; rfl
theorem runT_one {α : Type} (step : α → Tri → α × Bool) (t : Tri) (a : α) : runT step [t] a = step a t := by
  rw [runT]
  split
  · rename_i h; rw [runT]; ext <;> simp [h]
  · rename_i h; ext <;> simp_all
end Go.Proofs.YtelmokapdkepbaaGreat
end
section
namespace Go.G5
open Go Go.RowKit

/-- what the program's tables say of an element type that is a slice -/
structure SliceElem (P : Program) (E : TypeId) : Prop where
  info : (P.info? E).map (fun i => (i.zero, i.size, i.bytes)) = some (some (.slice none 0 0), 1, 24)
theorem SliceElem.get {P : Program} {E : TypeId} (h : SliceElem P E) : ∃ i, P.info? E = some i ∧ i.zero = some (.slice none 0 0) ∧ i.size = 1 ∧ i.bytes = 24 := by
  have h := h.info
  cases hx : P.info? E with
  | none => rw [hx] at h; simp at h
  | some i => rw [hx] at h; simp at h; exact ⟨i, rfl, h.1, h.2.1, h.2.2⟩

/-- rows of different element types are different blocks -/
theorem own_ne {w : World} {B B' : Nat} {E E' : TypeId} {s s' n n' : Nat} {u v : Value} {xs ys : List Value} (h : w.ownsRow B E s u n xs) (h' : w.ownsRow B' E' s' v n' ys) (hne : E ≠ E') : ∀ k, v.ownBlock = some k → u.ownBlock ≠ some k := by
  intro k hk hu
  rcases h.2 with ⟨rfl, _⟩ | ⟨g, cap, cur, rfl, _, hg, _⟩
  · simp [Value.ownBlock] at hu
  · rcases h'.2 with ⟨rfl, _⟩ | ⟨g', cap', cur', rfl, _, hg', _⟩
    · simp [Value.ownBlock] at hk
    · have e1 : g = k := by simpa [Value.ownBlock] using hu
      have e2 : g' = k := by simpa [Value.ownBlock] using hk
      subst e1; subst e2
      rw [hg] at hg'
      injection hg' with hg'
      injection hg' with _ ht
      exact hne ht

/-- v owns a row of slices that read as the lists of ls -/
def OwnLL (EI EO : TypeId) (B : Nat) (w : World) (v : Value) (ls : List (List Int)) : Prop :=
  ∃ vs : List Value, w.ownsRow B EO 1 v ls.length vs ∧ ∀ (k : Nat) (u : Value), vs[k]? = some u → ∃ l, ls[k]? = some l ∧ OwnI EI B w u l

theorem OwnLL.len {EI EO : TypeId} {B : Nat} {w : World} {v : Value} {ls : List (List Int)} (h : OwnLL EI EO B w v ls) : ∃ a c, v = .slice a ls.length c ∧ ls.length ≤ maxLen := by
  obtain ⟨vs, h1, _⟩ := h
  rcases h1.2 with ⟨rfl, hn⟩ | ⟨g, cap, cur, rfl, hB, hg, hn, hm, _⟩
  · exact ⟨none, 0, by rw [hn], by omega⟩
  · exact ⟨_, cap, rfl, by omega⟩
theorem OwnLL.shape3 {EI EO : TypeId} {B : Nat} {w : World} {v : Value} {ls : List (List Int)} (h : OwnLL EI EO B w v ls) : ∃ a n c, v = .slice a n c := by
  obtain ⟨a, c, h, _⟩ := h.len
  exact ⟨a, _, c, h⟩
theorem OwnLL.nil (EI EO : TypeId) (B : Nat) (w : World) : OwnLL EI EO B w (.slice none 0 0) [] := ⟨[], World.ownsRow_nil _ _ _ _, by simp⟩
theorem OwnLL.single {EI EO : TypeId} {B : Nat} (w : World) (hB : B ≤ w.heap.size) : OwnLL EI EO B (w.alloc (.cells #[.slice none 0 0] EO)) (.slice (some ⟨w.heap.size, 0, none⟩) 1 1) [[]] := by
  refine ⟨[.slice none 0 0], World.ownsRow_lit w #[.slice none 0 0] 1 hB (by decide) rfl, ?_⟩
  intro k u hu
  cases k with
  | zero => simp only [List.getElem?_cons_zero, Option.some.injEq] at hu; subst hu; exact ⟨[], rfl, OwnI.nil _ _ _⟩
  | succ k => simp at hu
theorem OwnLL.keep {EI EO : TypeId} {B : Nat} {w w' : World} {v : Value} {ls : List (List Int)} (h : OwnLL EI EO B w v ls) (hb : Below w.heap.size w w') : OwnLL EI EO B w' v ls := by
  obtain ⟨vs, ⟨h0, h1⟩, h2⟩ := h
  refine ⟨vs, ⟨h0, ?_⟩, fun k u hu => ?_⟩
  · rcases h1 with h1 | ⟨g, cap, cur, rfl, hBg, hg, r⟩
    · exact .inl h1
    · exact .inr ⟨g, cap, cur, rfl, hBg, by rw [hb.block g (Array.getElem?_eq_some_iff.1 hg).1]; exact hg, r⟩
  · obtain ⟨l, h3, h4⟩ := h2 k u hu
    exact ⟨l, h3, h4.keep hb⟩
theorem OwnLL.mono {EI EO : TypeId} {B B' : Nat} {w : World} {v : Value} {ls : List (List Int)} (h : OwnLL EI EO B w v ls) (hB : B' ≤ B) : OwnLL EI EO B' w v ls := by
  obtain ⟨vs, ⟨h0, h1⟩, h2⟩ := h
  refine ⟨vs, ⟨h0, ?_⟩, fun k u hu => ?_⟩
  · rcases h1 with h1 | ⟨g, cap, cur, rfl, hBg, r⟩
    · exact .inl h1
    · exact .inr ⟨g, cap, cur, rfl, by omega, r⟩
  · obtain ⟨l, h3, h4⟩ := h2 k u hu
    exact ⟨l, h3, h4.mono hB⟩
theorem OwnLL.lt {EI EO : TypeId} {B : Nat} {w : World} {v : Value} {ls : List (List Int)} (h : OwnLL EI EO B w v ls) : ∀ k, v.ownBlock = some k → B ≤ k ∧ k < w.heap.size := by
  obtain ⟨vs, h1, _⟩ := h
  exact h1.lt
theorem OwnLL.grow {EI EO : TypeId} {B B' n : Nat} {w w' : World} {v v' : Value} {ls : List (List Int)} {vs : List Value} (h : OwnLL EI EO B w v ls) (h' : w.ownsRow B' EO 1 v' n vs) (hT : EI ≠ EO) (hg : w.grownBy w' v'.ownBlock) (hne : ∀ k, v'.ownBlock = some k → v.ownBlock ≠ some k) : OwnLL EI EO B w' v ls := by
  obtain ⟨us, h1, h2⟩ := h
  refine ⟨us, h1.kept hg ?_, fun k u hu => ?_⟩
  · cases hv : v'.ownBlock with
    | none =>
      cases hu : v.ownBlock with
      | none => exact .inl rfl
      | some q => exact .inr (by simp)
    | some q =>
      right
      intro e
      exact hne q hv e
  · obtain ⟨l, h3, h4⟩ := h2 k u hu
    exact ⟨l, h3, h4.grow hg (own_ne h4.1 h' hT)⟩
theorem OwnLL.growLow {EI EO : TypeId} {B g : Nat} {w w' : World} {v : Value} {ls : List (List Int)} (h : OwnLL EI EO B w v ls) (hg : w.grownBy w' (some g)) (hB : g < B) : OwnLL EI EO B w' v ls := by
  obtain ⟨us, h1, h2⟩ := h
  refine ⟨us, h1.kept hg ?_, fun k u hu => ?_⟩
  · right
    intro e
    have := (h1.lt g e).1
    omega
  · obtain ⟨l, h3, h4⟩ := h2 k u hu
    exact ⟨l, h3, h4.grow hg (fun q hq hq2 => by cases hq; have := (h4.lt _ hq2).1; omega)⟩
theorem OwnLL.row {EI EO : TypeId} {B : Nat} {w : World} {v : Value} {ls : List (List Int)} (h : OwnLL EI EO B w v ls) : ∃ vs, w.ownsRow B EO 1 v ls.length vs := ⟨h.choose, h.choose_spec.1⟩
theorem OwnI.growL {EI EO : TypeId} {B B' n : Nat} {w w' : World} {u v' : Value} {l : List Int} {vs : List Value} (h : OwnI EI B w u l) (h' : w.ownsRow B' EO 1 v' n vs) (hT : EI ≠ EO) (hg : w.grownBy w' v'.ownBlock) : OwnI EI B w' u l := h.grow hg (own_ne h.1 h' hT)
/-- the k-th slice -/
theorem OwnLL.view {EI EO : TypeId} {B : Nat} {w : World} {a : Option Addr} {n c : Nat} {ls : List (List Int)} (h : OwnLL EI EO B w (.slice a n c) ls) (P : Program) (T : TypeId) (hT : P.underlying T = some (.slice EO)) (hs : SliceElem P EO) (k : Nat) (hk : k < ls.length) :
    ∃ g u, (∀ (w' : World), (Instr.indexAt T (.slice a n c) (.int .i64 (k : Int))).run P w' = .ok (.pointer (some ⟨g, k, none⟩)) w') ∧ w.cell? ⟨g, k, none⟩ = some u ∧ OwnI EI B w u ls[k] := by
  obtain ⟨vs, h1, h2⟩ := h
  have hE : P.elem T = EO := by simp [Program.elem, hT]
  obtain ⟨i, hi, _, hi', _⟩ := hs.get
  have hl := h1.1
  rcases h1.2 with ⟨e, hn⟩ | ⟨g, cap, cur, e, hB, hg, hn, hm, hsz, ht⟩
  · omega
  · simp only [Value.slice.injEq] at e
    obtain ⟨rfl, rfl, rfl⟩ := e
    have hv : k < vs.length := by omega
    obtain ⟨l, h3, h4⟩ := h2 k vs[k] (List.getElem?_eq_getElem hv)
    rw [List.getElem?_eq_getElem hk] at h3
    cases h3
    refine ⟨g, vs[k], fun w' => ?_, ?_, h4⟩
    · rw [run_indexAt_slice w' T ⟨g, 0, none⟩ ls.length c .i64 k (by rw [hE]; exact hT), if_pos ⟨by omega, by omega⟩, hE]
      simp [sizeOf, typeInfo, hi, hi', Addr.add]
      exact fun h => h.symm
    · have hrow : w.ownsRow B EO 1 (.slice (some ⟨g, 0, none⟩) ls.length c) ls.length vs := ⟨h1.1, .inr ⟨g, c, cur, rfl, hB, hg, hn, hm, hsz, ht⟩⟩
      rw [hrow.cellAt k (by omega)]
      exact List.getElem?_eq_getElem hv

/-- out = append(out, l), l the call's own -/
theorem wpList_appendL {P : Program} {w : World} {ops : Array Oper} {rest : List Oper} {o : Oper} {a : Act} {Q : Exit → Act → World → Prop} (hgd : o.guard = none) (s x : Operand) (t : TypeId)
    (ho : o.op = .call { callee := .builtin .append, args := #[s, x], argTypes := #[t, t] })
    (EI EO : TypeId) (hne : EI ≠ EO) (ht : P.underlying t = some (.slice EO)) (hE : SliceElem P EO) (B : Nat) (v : Value) (ls : List (List Int)) (u : Value) (l : List Int) (b : Nat) (hs : a.eval s = v) (hx : a.eval x = .slice (some ⟨b, 0, none⟩) 1 1)
    (hy : w.cell? ⟨b, 0, none⟩ = some u) (hown : OwnLL EI EO B w v ls) (hu : OwnI EI B w u l) (hlen : ls.length < 5497558138879) (hB : B ≤ w.heap.size)
    (h : ∀ v' w', OwnLL EI EO B w' v' (ls ++ [l]) → w.grownBy w' v.ownBlock → wpList P ops Q rest (a.put o.dst v') w') : wpList P ops Q (o :: rest) a w := by
  obtain ⟨i, hi, hz, h1, h8⟩ := hE.get
  obtain ⟨vs, ho1, ho2⟩ := hown
  have hone : u.oneCell' = true := by
    obtain ⟨a', n', c', rfl⟩ := hu.shape3
    rfl
  refine wpList_append_own w hgd s x t ho B EO i (.slice none 0 0) 1 24 ht hi hz h1 h8 rfl (by decide) v ls.length vs hs ho1 ⟨b, 0, none⟩ 1 1 [u] hx rfl ?_ ?_ ?_ ?_ hB ?_
  · intro j q hj
    match j, hj with
    | 0, hj => simp at hj; subst hj; simpa [Addr.add] using hy
    | j + 1, hj => simp at hj
  · intro q hq; simp at hq; subst hq; exact hone
  · unfold maxLen; omega
  · omega
  · intro v' w' hown' hg _
    refine h v' w' ⟨vs ++ [u], by simpa using hown', fun k q hq => ?_⟩ hg
    have hl := ho1.1
    by_cases hk : k < vs.length
    · rw [List.getElem?_append_left hk] at hq
      obtain ⟨l', h3, h4⟩ := ho2 k q hq
      exact ⟨l', by rw [List.getElem?_append_left (by omega)]; exact h3, h4.grow hg (own_ne h4.1 ho1 hne)⟩
    · rw [List.getElem?_append_right (by omega)] at hq
      have hk0 : k - vs.length = 0 := by
        cases hkk : k - vs.length with
        | zero => rfl
        | succ m => rw [hkk] at hq; simp at hq
      rw [hk0] at hq
      simp only [List.getElem?_cons_zero, Option.some.injEq] at hq
      subst hq
      refine ⟨l, ?_, hu.grow hg (own_ne hu.1 ho1 hne)⟩
      rw [List.getElem?_append_right (by omega), show k - ls.length = 0 by omega]; rfl
end Go.G5

namespace Go.Proofs.YtelmokapdkepbaaGreat
open Go.RowKit Go.G5
theorem sliceElem : SliceElem Tryz.prog 22 := ⟨by kernel_rfl⟩
theorem noMeet : (3 : TypeId) ≠ 22 := by decide
end Go.Proofs.YtelmokapdkepbaaGreat
end
