/- choose: the family of the sets that a function wants. Functions of masses. Functions of masses: the program's own. Masses of functions. -/
import Derived.Test.YtpaoiiiceekkkaaGreatDoorQ07
import Derived.Shelf.Abstract
import Derived.Deep.AppendLies
import Derived.Deep.RegionLaw
import Derived.StillTailTactics
section
namespace Go.Proofs.YtpaoiiiceekkkaaGreatDoor
open Go.RowKit Go.G5

/-- block B holds a struct of two cells that may be written -/
structure BoxAt (wr : World) (B : Nat) (x y : Value) : Prop where
  d0 : wr.cell? ⟨B, 0, none⟩ = some x
  d1 : wr.cell? ⟨B, 1, none⟩ = some y
  f0 : wr.frozen? ⟨B, 0, none⟩ = false
  f1 : wr.frozen? ⟨B, 1, none⟩ = false
theorem BoxAt.lt {wr : World} {B : Nat} {x y : Value} (h : BoxAt wr B x y) : B < wr.heap.size := World.block_lt_of_cell? wr _ h.d0
theorem BoxAt.keep {wr w2 : World} {B : Nat} {x y : Value} (h : BoxAt wr B x y) (hb : Below wr.heap.size wr w2) : BoxAt w2 B x y :=
  ⟨G5.keep hb h.d0, G5.keep hb h.d1, (hb.frozen (p := ⟨B, 0, none⟩) h.lt).trans h.f0, (hb.frozen (p := ⟨B, 1, none⟩) h.lt).trans h.f1⟩
theorem BoxAt.grow {wr w2 : World} {row : Option Nat} {B : Nat} {x y : Value} (h : BoxAt wr B x y) (hg : wr.grownBy w2 row) (hne : row ≠ some B) : BoxAt w2 B x y :=
  ⟨G5.grown_keep hg h.d0 (fun k hk e => hne (by rw [hk, ← e])), G5.grown_keep hg h.d1 (fun k hk e => hne (by rw [hk, ← e])),
   by rw [World.frozen?_of_block (hg.block B h.lt (fun e => hne e.symm))]; exact h.f0, by rw [World.frozen?_of_block (hg.block B h.lt (fun e => hne e.symm))]; exact h.f1⟩
theorem BoxAt.set1 {wr : World} {B : Nat} {x y : Value} (h : BoxAt wr B x y) (v : Value) : BoxAt (wr.setCell ⟨B, 1, none⟩ v) B x v :=
  ⟨by rw [World.cell?_setCell_other _ _ _ _ (by simp)]; exact h.d0, World.cell?_setCell_same _ _ _ h.d1, by rw [World.frozen?_setCell]; exact h.f0, by rw [World.frozen?_setCell]; exact h.f1⟩
theorem BoxAt.other {wr : World} {B B' j : Nat} {x y : Value} (h : BoxAt wr B x y) (hne : B' ≠ B) (v : Value) : BoxAt (wr.setCell ⟨B', j, none⟩ v) B x y :=
  ⟨by rw [World.cell?_setCell_other _ _ _ _ (fun e => hne (congrArg Addr.block e))]; exact h.d0, by rw [World.cell?_setCell_other _ _ _ _ (fun e => hne (congrArg Addr.block e))]; exact h.d1, by rw [World.frozen?_setCell]; exact h.f0, by rw [World.frozen?_setCell]; exact h.f1⟩
theorem BoxAt.new (w : World) (x y : Value) (T : TypeId) : BoxAt (w.alloc (.cells #[x, y] T)) w.heap.size x y :=
  ⟨cell_new w #[x, y] T 0 _ rfl, cell_new w #[x, y] T 1 _ rfl, World.frozen?_alloc_at _ _ _ _ rfl, World.frozen?_alloc_at _ _ _ _ rfl⟩

/-- the chosen sets below a bound -/
def chosen (P : Nat → Bool) (k : Nat) : List Int := ((List.range k).filter P).map Int.ofNat
theorem chosen_succ (P : Nat → Bool) (k : Nat) : chosen P (k + 1) = if P k then chosen P k ++ [(k : Int)] else chosen P k := by
  unfold chosen
  rw [List.range_succ, List.filter_append, List.map_append]
  by_cases h : P k = true
  · simp [h]
  · simp [h]
theorem chosen_len (P : Nat → Bool) (k : Nat) : (chosen P k).length ≤ k := by
  unfold chosen; rw [List.length_map]; have := List.length_filter_le P (List.range k); simpa using this

set_option maxHeartbeats 1000000 in
set_option maxRecDepth 100000 in
theorem choose_any (w : World) (n : Nat) (hn : n ≤ 6) (c : FuncId) (he : ∀ args w, (callFunc c args).run Tryz.prog w = .ok (.enter c args) w) (g : Nat) (P : Nat → Bool)
    (hw : ∀ (s : Nat) W', s < 2 ^ n → Below w.heap.size w W' → Calls Tryz.prog c #[.int .i64 (s : Int), .pointer (some ⟨g, 0, none⟩)] W' fun e w2 => e = .returned (.bool (P s)) ∧ Below W'.heap.size W' w2) :
    Calls Tryz.prog 138 #[.int .i64 (n : Int), .func (.func c) #[] #[.pointer (some ⟨g, 0, none⟩)]] w fun e w' =>
      ∃ ad i cp, e = .returned (.agg #[.int .i64 (n : Int), .slice ad i cp]) ∧ OwnI 3 w.heap.size w' (.slice ad i cp) (chosen P (2 ^ n)) ∧ Below w.heap.size w w' := by
  have hpn : (2 : Nat) ^ n ≤ 64 := Nat.pow_le_pow_right (by decide) hn
  have hp1 := Nat.two_pow_pos n
  have hpi : ((2 ^ n : Nat) : Int) = (2 : Int) ^ n := by simp
  obtain ⟨N, hN⟩ : ∃ N : Nat, N = 2 ^ n := ⟨_, rfl⟩
  rw [← hN] at hw hpn hp1 hpi ⊢
  have HN := Lib.hid hN
  clear hN
  have r0 := (BoxAt.new w (.int .i64 0) (.slice none 0 0) 37)
  have r1 := r0.keep (bl1 _ (.cells #[.int .i64 n, .slice none 0 0] 37))
  have b1 := BoxAt.new (w.alloc (.cells #[.int .i64 0, .slice none 0 0] 37)) (.int .i64 n) (.slice none 0 0) 37
  go_enter Tryz.func138, Tryz.ntmps138
  go_wp2_with fail
  go_loopw [12] (fun i wr => ∃ (k : Nat) (ad : Option Addr) (nn cp : Nat), k ≤ N ∧ i = .int .i64 k ∧ OwnI 3 (w.heap.size + 1 + 1) wr (.slice ad nn cp) (chosen P k) ∧ Below w.heap.size w wr ∧
      BoxAt wr w.heap.size (.int .i64 0) (.slice none 0 0) ∧ BoxAt wr (w.heap.size + 1) (.int .i64 n) (.slice ad nn cp))
    (fun i _ => N - (intOf i).toNat)
  case atStart => exact ⟨0, none, 0, 0, Nat.zero_le _, rfl, OwnI.nil _ _ _, (by repeat (first | exact Below.refl _ _ | (with_reducible refine Below.setCell ?_ (by first | omega | (simp; done) | (simp; omega)) _) | (with_reducible refine Below.alloc ?_ (by first | omega | (simp; done) | (simp; omega)) _) | (with_reducible refine Below.drewN' ?_ _) | (with_reducible refine Below.drew ?_) | (with_reducible assumption) | refine Below.trans ?_ (Below.mono (by assumption) (by first | omega | (simp; done) | (simp; omega))))), r1, by simpa using b1⟩
  case round =>
    obtain ⟨k, ad, nn, cp, hk, rfl, ho, B, R, X⟩ := hrel
    clear r0 r1 b1
    by_cases hlt : k < N
    · have hlt2 : (k : Int) < 2 ^ n := by rw [← hpi]; exact_mod_cast hlt
      have hcl := hw k wr hlt B
      have zr := R.lt
      have zx := X.lt
      cases hP : P k with
      | false =>
        rw [hP] at hcl
        go_wp2_with (go_at_fn c; refine hcl.mono ?_; rintro e w2 ⟨rfl, hb2⟩)
        go_roundw
        case rel => exact ⟨k + 1, ad, nn, cp, by omega, by go_num, by rw [chosen_succ, hP]; exact ho.keep hb2, B.after hb2 B.size, R.keep hb2, X.keep hb2⟩
        case measure => simp [intOf]; omega
      | true =>
        rw [hP] at hcl
        have hlen := chosen_len P k
        have hlk : (chosen P k).length ≤ 64 := Nat.le_trans hlen (Nat.le_trans hk hpn)
        go_wp2_with (first
          | (go_at_fn c; refine hcl.mono ?_; rintro e w2 ⟨rfl, hb2⟩; have zx2 := (X.keep hb2).lt; obtain ⟨e0, e1, g0, g1⟩ := X.keep hb2)
          | (at_builtin; refine wpList_appendI rfl _ _ _ rfl 3 Tryz.underlying22 intElem (w.heap.size + 1 + 1) _ _ (k : Int) w2.heap.size rfl rfl (by simp) ((ho.keep hb2).alloc _) ⟨by omega, by omega⟩ (by omega) (by simp; omega) ?_; intro v' w6 hown hgr; obtain ⟨av, nv, cv, rfl⟩ := hown.shape3; have hrow := (ho.keep hb2).lt; have X6 := ((X.keep hb2).keep (bl1 _ (.cells #[.int .i64 k] 3))).grow hgr (fun e => by have := (hrow _ e).1; omega); have R6 := ((R.keep hb2).keep (bl1 _ (.cells #[.int .i64 k] 3))).grow hgr (fun e => by have := (hrow _ e).1; omega); obtain ⟨i0, i1, j0, j1⟩ := X6))
        have B6 : Below w.heap.size w w6 := ((B.after hb2 B.size).alloc (B.after hb2 B.size).size (.cells #[.int .i64 k] 3)).grown hgr (by have := (B.after hb2 B.size).size; simp; omega) (fun q hq => by have := (hrow q hq).1; omega)
        go_roundw
        case rel => exact ⟨k + 1, av, nv, cv, by omega, by go_num, by rw [chosen_succ, if_pos hP]; exact hown.setBelow (by first | omega | (simp; done) | (simp; omega)) _, B6.setCell (by first | omega | (simp; done) | (simp; omega)) _, R6.other (by omega) _, (BoxAt.mk i0 i1 j0 j1).set1 _⟩
        case measure => simp [intOf]; omega
    · have hlt2 : ¬ (k : Int) < 2 ^ n := by rw [← hpi]; exact_mod_cast hlt
      have hkN : k = N := by omega
      obtain ⟨e0, e1, g0, g1⟩ := X
      obtain ⟨e2, e3, g2, g3⟩ := R
      go_wp2
      refine bodyPost_ret (v := .agg #[.int .i64 n, .slice ad nn cp]) (by simp [results, Tryz.results138, go_sem, e2, e3]) rfl ⟨ad, nn, cp, rfl, ?_, ?_⟩
      · rw [hkN] at ho
        exact ((ho.setBelow (by first | omega | (simp; done) | (simp; omega)) _).setBelow (by first | omega | (simp; done) | (simp; omega)) _).mono (by first | omega | (simp; done) | (simp; omega))
      · exact Below.setCell (Below.setCell B (Nat.le_refl _) _) (Nat.le_refl _) _
end Go.Proofs.YtpaoiiiceekkkaaGreatDoor
end
section
namespace Go.Proofs.YtpaoiiiceekkkaaGreatDoor
open Go.RowKit Go.G5

/-- the sum of the masses of the parts of s below k -/
def sumTo (m : List Int) (s : Nat) : Nat → Int
  | 0 => 0
  | k + 1 => if ndiff k s = 0 then sumTo m s k + m.getD k 0 else sumTo m s k
theorem sumTo_bd (m : List Int) (s : Nat) (h : ∀ k, (hk : k < m.length) → -100000 ≤ m[k] ∧ m[k] ≤ 100000) (k : Nat) (hk : k ≤ m.length) : -100000 * (k : Int) ≤ sumTo m s k ∧ sumTo m s k ≤ 100000 * (k : Int) := by
  induction k with
  | zero => simp [sumTo]
  | succ k ih =>
    have h1 := ih (by omega)
    have h2 := h k (by omega)
    rw [sumTo, List.getD_eq_getElem?_getD, List.getElem?_eq_getElem (show k < m.length by omega), Option.getD_some]
    split <;> omega

/-- the values of a function given by its numbers -/
def madeL (F : Nat → Int) (k : Nat) : List Int := (List.range k).map F
theorem madeL_succ (F : Nat → Int) (k : Nat) : madeL F (k + 1) = madeL F k ++ [F k] := by unfold madeL; rw [List.range_succ, List.map_append]; rfl

set_option maxHeartbeats 2000000 in
set_option maxRecDepth 100000 in
theorem makeFunction_any (w : World) (n : Nat) (hn : n ≤ 5) (c : FuncId) (he : ∀ args w, (callFunc c args).run Tryz.prog w = .ok (.enter c args) w) (g : Nat) (F : Nat → Int) (hF : ∀ s, s < 2 ^ n → InR (F s))
    (hw : ∀ (s : Nat) W', s < 2 ^ n → Below w.heap.size w W' → Calls Tryz.prog c #[.int .i64 (s : Int), .pointer (some ⟨g, 0, none⟩)] W' fun e w2 => e = .returned (.int .i64 (F s)) ∧ Below W'.heap.size W' w2) :
    Calls Tryz.prog 294 #[.int .i64 (n : Int), .func (.func c) #[] #[.pointer (some ⟨g, 0, none⟩)]] w fun e w' =>
      ∃ ad i cp, e = .returned (.tuple #[.agg #[.int .i64 (if isFunB n (madeL F (2 ^ n)) then (n : Int) else 0), .slice ad i cp], .bool (isFunB n (madeL F (2 ^ n)))]) ∧ OwnI 3 w.heap.size w' (.slice ad i cp) (if isFunB n (madeL F (2 ^ n)) then madeL F (2 ^ n) else []) ∧ Below w.heap.size w w' := by
  have hpn : (2 : Nat) ^ n ≤ 32 := Nat.pow_le_pow_right (by decide) hn
  have hp1 := Nat.two_pow_pos n
  have hpi : ((2 ^ n : Nat) : Int) = (2 : Int) ^ n := by simp
  obtain ⟨N, hN⟩ : ∃ N : Nat, N = 2 ^ n := ⟨_, rfl⟩
  rw [← hN] at hw hF hpn hp1 hpi ⊢
  clear hN
  have r0 := (BoxAt.new w (.int .i64 0) (.slice none 0 0) 27)
  have r1 := r0.keep (bl1 _ (.cells #[.int .i64 n, .slice none 0 0] 27))
  have b1 := BoxAt.new (w.alloc (.cells #[.int .i64 0, .slice none 0 0] 27)) (.int .i64 n) (.slice none 0 0) 27
  go_enter Tryz.func294, Tryz.ntmps294
  go_wp2_with fail
  go_loopw [13] (fun i wr => ∃ (k : Nat) (ad : Option Addr) (nn cp : Nat), k ≤ N ∧ i = .int .i64 k ∧ OwnI 3 (w.heap.size + 1 + 1) wr (.slice ad nn cp) (madeL F k) ∧ Below w.heap.size w wr ∧
      BoxAt wr w.heap.size (.int .i64 0) (.slice none 0 0) ∧ BoxAt wr (w.heap.size + 1) (.int .i64 n) (.slice ad nn cp))
    (fun i _ => N - (intOf i).toNat)
  case atStart => exact ⟨0, none, 0, 0, Nat.zero_le _, rfl, OwnI.nil _ _ _, (by repeat (first | exact Below.refl _ _ | (with_reducible refine Below.setCell ?_ (by first | omega | (simp; done) | (simp; omega)) _) | (with_reducible refine Below.alloc ?_ (by first | omega | (simp; done) | (simp; omega)) _) | (with_reducible refine Below.drewN' ?_ _) | (with_reducible refine Below.drew ?_) | (with_reducible assumption) | refine Below.trans ?_ (Below.mono (by assumption) (by first | omega | (simp; done) | (simp; omega))))), r1, by simpa using b1⟩
  case round =>
    obtain ⟨k, ad, nn, cp, hk, rfl, ho, B, R, X⟩ := hrel
    clear r0 r1 b1
    by_cases hlt : k < N
    · have hlt2 : (k : Int) < 2 ^ n := by rw [← hpi]; exact_mod_cast hlt
      have zr := R.lt
      have zx := X.lt
      have hFk := hF k hlt
      have hlen : (madeL F k).length = k := by simp [madeL]
      have hlk : (madeL F k).length ≤ 64 := by omega
      have hrow := ho.lt
      have HO := Lib.hid ho
      have HR := Lib.hid R
      have HXX := Lib.hid X
      obtain ⟨e0, e1, g0, g1⟩ := X
      clear ho R
      have hcl := hw k wr.drew hlt B.drew
      clear hw
      go_wp2
      go_region_law
        (first
          | (go_simp; go_at_fn c; refine hcl.mono ?_; rintro e w2 ⟨rfl, hb2⟩; have X2 := HXX.out.keep ((Below.refl _ _).drew.after hb2 (Nat.le_refl _)); have X3 := X2.keep (bl1 w2 (.cells #[.int .i64 (F k)] 3)); have zz2 := X2.lt; have x1 := X2.d1; have x2 := X2.f1; have x3 := X3.d1; have x4 := X3.f1)
          | (refine step_appendI rfl _ _ _ rfl 3 Tryz.underlying22 intElem (w.heap.size + 1 + 1) _ _ (F k) w2.heap.size rfl rfl (cell_new w2 #[.int .i64 (F k)] 3 0 _ rfl) ((HO.out.keep ((Below.refl _ _).drew.after hb2 (Nat.le_refl _))).alloc (.cells #[.int .i64 (F k)] 3)) hFk (by omega) (by simp; omega) ?_; intro v' w6 hown hgr; obtain ⟨av, nv, cv, rfl⟩ := hown.shape3; have X6 := X3.grow hgr (fun e => by have := (hrow _ e).1; omega); obtain ⟨i0, i1, j0, j1⟩ := X6))
      all_goals
       have B6 : Below w.heap.size w w6 := (((B.drew).after hb2 B.size).alloc (B.drew.after hb2 B.size).size (.cells #[.int .i64 (F k)] 3)).grown hgr (by simp; omega) (fun q hq => by have := (hrow q hq).1; omega)
       have R6 := ((HR.out.keep ((Below.refl _ _).drew.after hb2 (Nat.le_refl _))).keep (bl1 w2 (.cells #[.int .i64 (F k)] 3))).grow hgr (fun e => by have := (hrow _ e).1; omega)
       go_wp2
       go_roundw
       case rel => exact ⟨k + 1, av, nv, cv, by omega, by go_num, by rw [madeL_succ]; exact hown.setBelow (by first | omega | (simp; done) | (simp; omega)) _, B6.setCell (by first | omega | (simp; done) | (simp; omega)) _, R6.other (by omega) _, (BoxAt.mk i0 i1 j0 j1).set1 _⟩
       case measure => simp [intOf]; omega
    · have hlt2 : ¬ (k : Int) < 2 ^ n := by rw [← hpi]; exact_mod_cast hlt
      have hkN : k = N := by omega
      subst hkN
      have HO := Lib.hid ho
      have HR := Lib.hid R
      have HXX := Lib.hid X
      obtain ⟨e0, e1, g0, g1⟩ := X
      have hi := ho.ints
      clear ho hw R
      go_wp2_with fail
      refine (isFunI_any n _ _ _ hi).mono ?_
      rintro e w2 ⟨rfl, hb2⟩
      have B2 := B.after hb2 B.size
      have o2 := HO.out.keep hb2
      have HO2 := Lib.hid o2
      obtain ⟨f0, f1, j0, j1⟩ := HR.out.keep hb2
      obtain ⟨i0, i1, q0, q1⟩ := HXX.out.keep hb2
      clear e0 e1 g0 g1 hb2 B o2 hi
      cases hf : isFunB n (madeL F k) with
      | false =>
        have HF := Lib.hid hf
        go_wp2
        all_goals refine bodyPost_ret (v := .tuple #[.agg #[.int .i64 0, .slice none 0 0], .bool false]) (by simp [results, Tryz.results294, go_sem, f0, f1]) rfl ⟨none, 0, 0, rfl, OwnI.nil _ _ _, Below.setCell (Below.setCell B2 (Nat.le_refl _) _) (Nat.le_refl _) _⟩
      | true =>
        have HF := Lib.hid hf
        go_wp2
        refine bodyPost_ret (v := .tuple #[.agg #[.int .i64 n, .slice ad nn cp], .bool true]) (by simp [results, Tryz.results294, go_sem, f0, f1]) rfl ⟨ad, nn, cp, rfl, ?_, ?_⟩
        · exact ((HO2.out.setBelow (by first | omega | (simp; done) | (simp; omega)) _).setBelow (by first | omega | (simp; done) | (simp; omega)) _).mono (by first | omega | (simp; done) | (simp; omega))
        · exact Below.setCell (Below.setCell B2 (Nat.le_refl _) _) (Nat.le_refl _) _
end Go.Proofs.YtpaoiiiceekkkaaGreatDoor
end
section
namespace Go.Proofs.YtpaoiiiceekkkaaGreatDoor
open Go.RowKit Go.G5

def fomF (m : List Int) (s : Nat) : Int := sumTo m s (s + 1)
def fomOk (n : Int) (m : List Int) : Bool := inB n 0 5 && (m.length == 2 ^ n.toNat) && allIn m (-100000) 100000
def fomV (n : Int) (m : List Int) : List Int := madeL (fomF m) (2 ^ n.toNat)
def fomB (n : Int) (m : List Int) : Bool := fomOk n m && isFunB n (fomV n m)
def fomN (n : Int) (m : List Int) : Int := if fomB n m then n else 0
def fomL (n : Int) (m : List Int) : List Int := if fomB n m then fomV n m else []

theorem fomL_len (n : Int) (m : List Int) : (fomL n m).length ≤ 1048576 := by
  unfold fomL
  split
  · rename_i h
    have h1 : inB n 0 5 = true := by
      unfold fomB fomOk at h
      simp only [Bool.and_eq_true] at h
      exact h.1.1.1
    have h2 := inB_true.1 h1
    have h3 : (2 : Nat) ^ n.toNat ≤ 2 ^ 5 := Nat.pow_le_pow_right (by decide) (by omega)
    unfold fomV madeL
    simp; omega
  · simp

end Go.Proofs.YtpaoiiiceekkkaaGreatDoor
end
section
namespace Go.Proofs.YtpaoiiiceekkkaaGreatDoor
open Go.RowKit Go.G5

/-- the sum of the signed values of the parts of s below k -/
def massTo (l : List Int) (s : Nat) : Nat → Int
  | 0 => 0
  | k + 1 => if ndiff k s = 0 then (if pop (ndiff s k) % 2 = 1 then massTo l s k - l.getD k 0 else massTo l s k + l.getD k 0) else massTo l s k
def masses (l : List Int) : List Int := (List.range l.length).map fun s => massTo l s (s + 1)
def massesOf (n : Int) (l : List Int) : List Int := if isFunB n l then masses l else []
theorem massTo_bd (l : List Int) (s : Nat) (h : ∀ k, (hk : k < l.length) → -1000 ≤ l[k] ∧ l[k] ≤ 1000) (k : Nat) (hk : k ≤ l.length) : -1000 * (k : Int) ≤ massTo l s k ∧ massTo l s k ≤ 1000 * (k : Int) := by
  induction k with
  | zero => simp [massTo]
  | succ k ih =>
    have h1 := ih (by omega)
    have h2 := h k (by omega)
    rw [massTo, List.getD_eq_getElem?_getD, List.getElem?_eq_getElem (show k < l.length by omega), Option.getD_some]
    split
    · split <;> omega
    · omega
theorem masses_len (l : List Int) : (masses l).length = l.length := by simp [masses]
theorem masses_get (l : List Int) (s : Nat) (h : s < (masses l).length) : (masses l)[s] = massTo l s (s + 1) := by simp [masses]
theorem set_zero (l : List Int) (s n : Nat) (h : s < n) (hl : s ≤ l.length) : (l.take s ++ List.replicate (n - s) (0 : Int)).set s 0 = l.take s ++ List.replicate (n - s) 0 := by
  rw [show n - s = (n - s - 1) + 1 by omega, List.replicate_succ]
  have e : (l.take s).length = s := by simp; omega
  rw [List.set_append_right _ _ (by omega), e]
  simp
theorem mass_fill (l : List Int) (s : Nat) (h : s < l.length) : ((masses l).take s ++ List.replicate (l.length - s) (0 : Int)).set s (massTo l s (s + 1)) = (masses l).take (s + 1) ++ List.replicate (l.length - (s + 1)) 0 := by
  have := fill_step (masses l) s (by rw [masses_len]; exact h)
  simp only [masses_get, masses_len] at this
  exact this

theorem massesOf_len (n : Int) (l : List Int) (h : l.length ≤ 1048576) : (massesOf n l).length ≤ 1048576 := by
  unfold massesOf; split
  · rw [masses_len]; exact h
  · simp

theorem ndiff_zero (a b : Nat) : ndiff a b = 0 ↔ a &&& b = a := by
  have := @Nat.and_le_left a b
  unfold ndiff; omega
theorem ndiff_sub (a b : Nat) (h : b &&& a = b) : ndiff a b = a - b := by unfold ndiff; rw [Nat.and_comm, h]
theorem masses_take (l : List Int) (s : Nat) (h : s < l.length) : (masses l).take (s + 1) = (masses l).take s ++ [massTo l s (s + 1)] := by
  rw [List.take_succ_eq_append_getElem (by rw [masses_len]; exact h), masses_get]

/-! only positive masses -/
def onlyPosB (n : Int) (l : List Int) : Bool := isFunB n l && allIn ((masses l).drop 1) 0 1099511627776

theorem allIn_drop_false (m : List Int) (k : Nat) (h1 : 1 ≤ k) (h : k < m.length) (hneg : m[k] < 0) (hi : Int) : allIn (m.drop 1) 0 hi = false := by
  unfold allIn
  refine all_false_at _ _ (k - 1) (by simp; omega) ?_
  simp only [List.getElem_drop]
  have e : 1 + (k - 1) = k := by omega
  simp only [e]
  exact inB_false.2 (.inl hneg)
theorem allIn_drop_true (m : List Int) (h : ∀ k, (hk : k < m.length) → 1 ≤ k → 0 ≤ m[k] ∧ m[k] ≤ 1099511627776) : allIn (m.drop 1) 0 1099511627776 = true := by
  unfold allIn
  rw [List.all_eq_true]
  intro x hx
  obtain ⟨j, hj, rfl⟩ := List.getElem_of_mem hx
  simp only [List.getElem_drop]
  simp at hj
  exact inB_true.2 (h (1 + j) (by omega) (by omega))

end Go.Proofs.YtpaoiiiceekkkaaGreatDoor
end
