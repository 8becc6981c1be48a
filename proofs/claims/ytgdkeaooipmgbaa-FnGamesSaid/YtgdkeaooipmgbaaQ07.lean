/- Families: what is one. choose: the family of the sets that a function wants. Draws: families. -/
import Derived.Test.YtgdkeaooipmgbaaQ06
import Derived.Deep.Light
import Derived.Shelf.Abstract
section
namespace Go.Proofs.Ytgdkeaooipmgbaa
open Go.RowKit Go.G5

def isSet (n : Nat) (s : Int) : Bool := decide (0 ≤ s) && decide (s < 2 ^ n)
theorem isSet_true {n : Nat} {s : Int} : isSet n s = true ↔ 0 ≤ s ∧ s < 2 ^ n := by simp [isSet]
theorem isSet_inB (n : Nat) (s : Int) : inB s 0 (2 ^ n - 1) = isSet n s := by
  unfold inB isSet
  by_cases h : s < 2 ^ n
  · rw [decide_eq_true h, decide_eq_true (show s ≤ 2 ^ n - 1 by omega)]
  · rw [decide_eq_false h, decide_eq_false (show ¬ s ≤ 2 ^ n - 1 by omega)]

def areSetsB (g : Int) (l : List Int) : Bool := inB g 0 6 && l.all (isSet g.toNat)

theorem all_take_succ {α : Type} (p : α → Bool) (l : List α) (k : Nat) (h : k < l.length) : (l.take (k + 1)).all p = ((l.take k).all p && p l[k]) := by
  rw [List.take_succ_eq_append_getElem h, List.all_append, List.all_cons, List.all_nil, Bool.and_true]
theorem all_of_take {α : Type} (p : α → Bool) (l : List α) (k : Nat) (h : l.length ≤ k) : (l.take k).all p = l.all p := by rw [List.take_of_length_le h]
theorem all_false_at {α : Type} (p : α → Bool) (l : List α) (k : Nat) (h : k < l.length) (hp : p l[k] = false) : l.all p = false := by
  rw [List.all_eq_false]
  exact ⟨l[k], List.getElem_mem h, by simp [hp]⟩

/-- strictly ascending -/
def ascB (l : List Int) : Bool := decide (l.Pairwise (· < ·))
theorem asc_of_adj (l : List Int) (h : ∀ i, (h : i + 1 < l.length) → l[i] < l[i + 1]) : ascB l = true := by
  unfold ascB
  rw [decide_eq_true_eq, List.pairwise_iff_getElem]
  intro i j hi hj hij
  obtain ⟨d, rfl⟩ : ∃ d, j = i + 1 + d := ⟨j - i - 1, by omega⟩
  induction d with
  | zero => exact h i hj
  | succ d ih => exact Int.lt_trans (ih (by omega) (by omega)) (h (i + 1 + d) hj)
theorem not_asc_at (l : List Int) (i : Nat) (h : i + 1 < l.length) (hle : l[i + 1] ≤ l[i]) : ascB l = false := by
  unfold ascB
  rw [decide_eq_false_iff_not, List.pairwise_iff_getElem]
  intro hp
  have := hp i (i + 1) (by omega) h (by omega)
  omega
def isFamB (g : Int) (l : List Int) : Bool := areSetsB g l && ascB l

/-! sets as whole numbers -/
def iand (a b : Int) : Int := ((a.toNat &&& b.toNat : Nat) : Int)
def ior (a b : Int) : Int := ((a.toNat ||| b.toNat : Nat) : Int)
def idif (a b : Int) : Int := ((ndiff a.toNat b.toNat : Nat) : Int)
def ipop (a : Int) : Int := (pop a.toNat : Int)
theorem iand_is {a b : Int} (ha : 0 ≤ a) (ha' : a < 4611686018427387904) (hb : 0 ≤ b) (hb' : b < 4611686018427387904) : bits .and .i64 a b = iand a b := by
  have := bitsA a.toNat b.toNat (by omega) (by omega)
  rw [show ((a.toNat : Nat) : Int) = a by omega, show ((b.toNat : Nat) : Int) = b by omega] at this
  exact this
theorem ior_is {a b : Int} (ha : 0 ≤ a) (ha' : a < 4611686018427387904) (hb : 0 ≤ b) (hb' : b < 4611686018427387904) : bits .or .i64 a b = ior a b := by
  have := bitsO a.toNat b.toNat (by omega) (by omega)
  rw [show ((a.toNat : Nat) : Int) = a by omega, show ((b.toNat : Nat) : Int) = b by omega] at this
  exact this
theorem idif_is {a b : Int} (ha : 0 ≤ a) (ha' : a < 64) (hb : 0 ≤ b) (hb' : b < 64) : bits .andNot .i64 a b = idif a b := by
  have := bitsN a.toNat b.toNat (by omega) (by omega)
  rw [show ((a.toNat : Nat) : Int) = a by omega, show ((b.toNat : Nat) : Int) = b by omega] at this
  exact this
theorem iand_bd (a b n : Int) (ha : 0 ≤ a) (h : a < n) : 0 ≤ iand a b ∧ iand a b < n := by
  have := @Nat.and_le_left a.toNat b.toNat
  unfold iand; omega
theorem ior_bd (a b : Int) (g : Nat) (ha : 0 ≤ a) (hb : 0 ≤ b) (h : a < 2 ^ g) (h' : b < 2 ^ g) : 0 ≤ ior a b ∧ ior a b < 2 ^ g := by
  have h1 : a.toNat < 2 ^ g := by
    have : ((a.toNat : Nat) : Int) < ((2 ^ g : Nat) : Int) := by push_cast; omega
    exact_mod_cast this
  have h2 : b.toNat < 2 ^ g := by
    have : ((b.toNat : Nat) : Int) < ((2 ^ g : Nat) : Int) := by push_cast; omega
    exact_mod_cast this
  have h3 := Nat.or_lt_two_pow h1 h2
  refine ⟨by unfold ior; omega, ?_⟩
  unfold ior
  exact_mod_cast h3
theorem idif_bd (a b n : Int) (ha : 0 ≤ a) (h : a < n) : 0 ≤ idif a b ∧ idif a b < n := by unfold idif ndiff; omega
theorem ipop_bd (a : Int) (h : a < 256) : 0 ≤ ipop a ∧ ipop a ≤ 8 := by
  have := pop_le a.toNat (by omega)
  unfold ipop; omega

theorem sizeOf_i (s : Int) (w : World) (h0 : 0 ≤ s) (h1 : s < 256) :
    Calls Try.prog 36 #[.int .i64 s] w fun e w' => e = .returned (.int .i64 (ipop s)) ∧ w = w' := by
  obtain ⟨n, rfl⟩ := Int.eq_ofNat_of_zero_le h0
  exact sizeOf_any n w (by omega)
theorem l2Size_i (s : Int) (w : World) (h0 : 0 ≤ s) (h1 : s < 256) :
    Calls Try.prog 37 #[.int .i64 s] w fun e w' => e = .returned (.int .i64 (ipop s)) ∧ w = w' := by
  obtain ⟨n, rfl⟩ := Int.eq_ofNat_of_zero_le h0
  exact l2Size_any n w (by omega)
theorem l2Full_i (g : Int) (w : World) (h0 : 0 ≤ g) (h1 : g ≤ 40) :
    Calls Try.prog 61 #[.int .i64 g] w fun e w' => e = .returned (.int .i64 (2 ^ g.toNat - 1)) ∧ w = w' := by
  obtain ⟨n, rfl⟩ := Int.eq_ofNat_of_zero_le h0
  exact l2Full_any n w (by omega)
/-- what a valid family gives -/
theorem famOk {g : Int} {l : List Int} (h : isFamB g l = true) : 0 ≤ g ∧ g ≤ 6 ∧ (∀ s ∈ l, 0 ≤ s ∧ s < 2 ^ g.toNat) ∧ l.Pairwise (· < ·) := by
  unfold isFamB areSetsB at h
  simp only [Bool.and_eq_true, List.all_eq_true] at h
  obtain ⟨⟨h1, h2⟩, h3⟩ := h
  have := inB_true.1 h1
  exact ⟨this.1, this.2, fun s hs => isSet_true.1 (h2 s hs), by simpa [ascB] using h3⟩
theorem pow_le64 {g : Int} (h0 : 0 ≤ g) (h6 : g ≤ 6) : (2 : Int) ^ g.toNat ≤ 64 := by
  have := (two_pow g.toNat 6 (by omega)).1
  simpa using this
theorem famOk64 {g : Int} {l : List Int} (h : isFamB g l = true) : 0 ≤ g ∧ g ≤ 6 ∧ (∀ k, (hk : k < l.length) → 0 ≤ l[k] ∧ l[k] < 64) := by
  obtain ⟨h0, h6, hs, _⟩ := famOk h
  refine ⟨h0, h6, fun k hk => ?_⟩
  have := hs _ (List.getElem_mem hk)
  have := pow_le64 h0 h6
  omega
theorem fold_take {α β : Type} (f : β → α → β) (z : β) (l : List α) (k : Nat) (h : k < l.length) : (l.take (k + 1)).foldl f z = f ((l.take k).foldl f z) l[k] := by
  rw [List.take_succ_eq_append_getElem h, List.foldl_append]; rfl
theorem fold_all {α β : Type} (f : β → α → β) (z : β) (l : List α) (k : Nat) (h : l.length ≤ k) : (l.take k).foldl f z = l.foldl f z := by rw [List.take_of_length_le h]

/-! the size of a largest set -/
def bigF (m s : Int) : Int := max m (ipop s)
def largestOf (g : Int) (l : List Int) : Int := if isFamB g l then l.foldl bigF 0 else -1
theorem bigF_bd (l : List Int) (h : ∀ s ∈ l, s < 256) : ∀ z, 0 ≤ z → z ≤ 8 → 0 ≤ l.foldl bigF z ∧ l.foldl bigF z ≤ 8 := by
  induction l with
  | nil => intro z h0 h8; exact ⟨h0, h8⟩
  | cons a l ih =>
    intro z h0 h8
    have := ipop_bd a (h a (by simp))
    exact ih (fun s hs => h s (by simp [hs])) _ (by unfold bigF; omega) (by unfold bigF; omega)
end Go.Proofs.Ytgdkeaooipmgbaa
end
section
namespace Go.Proofs.Ytgdkeaooipmgbaa
open Go.RowKit Go.G5

/-- block B holds a struct of two cells that may be written -/
structure BoxAt (wr : World) (B : Nat) (x y : Value) : Prop where
  d0 : wr.cell? ⟨B, 0, none⟩ = some x
  d1 : wr.cell? ⟨B, 1, none⟩ = some y
  f0 : wr.frozen? ⟨B, 0, none⟩ = false
  f1 : wr.frozen? ⟨B, 1, none⟩ = false
theorem BoxAt.lt {wr : World} {B : Nat} {x y : Value} (h : BoxAt wr B x y) : B < wr.heap.size := World.block_lt_of_cell? wr _ h.d0
theorem BoxAt.keep {wr w2 : World} {B : Nat} {x y : Value} (h : BoxAt wr B x y) (hb : Below wr.heap.size wr w2) : BoxAt w2 B x y :=
  ⟨G5.keep hb h.d0, G5.keep hb h.d1, (hb.frozen (p := ⟨B, 0, none⟩) h.lt).trans h.f0, (hb.frozen (p := ⟨B, 1, none⟩) h.lt).trans h.f1⟩
theorem BoxAt.grow {wr w2 : World} {row : Option Nat} {B : Nat} {x y : Value} (h : BoxAt wr B x y) (hg : wr.grownBy w2 row) (hne : row ≠ some B) : BoxAt w2 B x y :=
  ⟨G5.grown_keep hg h.d0 (fun k hk e => hne (by rw [hk, ← e])), G5.grown_keep hg h.d1 (fun k hk e => hne (by rw [hk, ← e])),
   by rw [World.frozen?_of_block (hg.block B h.lt (fun e => hne e.symm))]; exact h.f0, by rw [World.frozen?_of_block (hg.block B h.lt (fun e => hne e.symm))]; exact h.f1⟩
theorem BoxAt.set1 {wr : World} {B : Nat} {x y : Value} (h : BoxAt wr B x y) (v : Value) : BoxAt (wr.setCell ⟨B, 1, none⟩ v) B x v :=
  ⟨by rw [World.cell?_setCell_other _ _ _ _ (by simp)]; exact h.d0, World.cell?_setCell_same _ _ _ h.d1, by rw [World.frozen?_setCell]; exact h.f0, by rw [World.frozen?_setCell]; exact h.f1⟩
theorem BoxAt.other {wr : World} {B B' j : Nat} {x y : Value} (h : BoxAt wr B x y) (hne : B' ≠ B) (v : Value) : BoxAt (wr.setCell ⟨B', j, none⟩ v) B x y :=
  ⟨by rw [World.cell?_setCell_other _ _ _ _ (fun e => hne (congrArg Addr.block e))]; exact h.d0, by rw [World.cell?_setCell_other _ _ _ _ (fun e => hne (congrArg Addr.block e))]; exact h.d1, by rw [World.frozen?_setCell]; exact h.f0, by rw [World.frozen?_setCell]; exact h.f1⟩
theorem BoxAt.new (w : World) (x y : Value) (T : TypeId) : BoxAt (w.alloc (.cells #[x, y] T)) w.heap.size x y :=
  ⟨cell_new w #[x, y] T 0 _ rfl, cell_new w #[x, y] T 1 _ rfl, World.frozen?_alloc_at _ _ _ _ rfl, World.frozen?_alloc_at _ _ _ _ rfl⟩

/-- the chosen sets below a bound -/
def chosen (P : Nat → Bool) (k : Nat) : List Int := ((List.range k).filter P).map Int.ofNat
theorem chosen_succ (P : Nat → Bool) (k : Nat) : chosen P (k + 1) = if P k then chosen P k ++ [(k : Int)] else chosen P k := by
  unfold chosen
  rw [List.range_succ, List.filter_append, List.map_append]
  by_cases h : P k = true
  · simp [h]
  · simp [h]
theorem chosen_len (P : Nat → Bool) (k : Nat) : (chosen P k).length ≤ k := by
  unfold chosen; rw [List.length_map]; have := List.length_filter_le P (List.range k); simpa using this

end Go.Proofs.Ytgdkeaooipmgbaa
end
section
namespace Go.Proofs.Ytgdkeaooipmgbaa
open Go.RowKit Go.G5

theorem Dr.below0 {w w' : World} {g : Nat} (D : Dr w g) (hb : Below w.heap.size w w') : Dr w' g := D.keep hb
end Go.Proofs.Ytgdkeaooipmgbaa
end
