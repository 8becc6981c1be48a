/- choose: the family of the sets that a function wants. -/
import Derived.Test.YtpaoiiiceekkkaaDoorFam
import Derived.Shelf.Abstract
namespace Go.Proofs.YtpaoiiiceekkkaaDoor
open Go.RowKit Go.G5

/-- block B holds a struct of two cells that may be written -/
structure BoxAt (wr : World) (B : Nat) (x y : Value) : Prop where
  d0 : wr.cell? ⟨B, 0, none⟩ = some x
  d1 : wr.cell? ⟨B, 1, none⟩ = some y
  f0 : wr.frozen? ⟨B, 0, none⟩ = false
  f1 : wr.frozen? ⟨B, 1, none⟩ = false
theorem BoxAt.lt {wr : World} {B : Nat} {x y : Value} (h : BoxAt wr B x y) : B < wr.heap.size := World.block_lt_of_cell? wr _ h.d0
theorem BoxAt.keep {wr w2 : World} {B : Nat} {x y : Value} (h : BoxAt wr B x y) (hb : Below wr.heap.size wr w2) : BoxAt w2 B x y :=
  ⟨G5.keep hb h.d0, G5.keep hb h.d1, (hb.frozen (p := ⟨B, 0, none⟩) h.lt).trans h.f0, (hb.frozen (p := ⟨B, 1, none⟩) h.lt).trans h.f1⟩
theorem BoxAt.grow {wr w2 : World} {row : Option Nat} {B : Nat} {x y : Value} (h : BoxAt wr B x y) (hg : wr.grownBy w2 row) (hne : row ≠ some B) : BoxAt w2 B x y :=
  ⟨G5.grown_keep hg h.d0 (fun k hk e => hne (by rw [hk, ← e])), G5.grown_keep hg h.d1 (fun k hk e => hne (by rw [hk, ← e])),
   by rw [World.frozen?_of_block (hg.block B h.lt (fun e => hne e.symm))]; exact h.f0, by rw [World.frozen?_of_block (hg.block B h.lt (fun e => hne e.symm))]; exact h.f1⟩
theorem BoxAt.set1 {wr : World} {B : Nat} {x y : Value} (h : BoxAt wr B x y) (v : Value) : BoxAt (wr.setCell ⟨B, 1, none⟩ v) B x v :=
  ⟨by rw [World.cell?_setCell_other _ _ _ _ (by simp)]; exact h.d0, World.cell?_setCell_same _ _ _ h.d1, by rw [World.frozen?_setCell]; exact h.f0, by rw [World.frozen?_setCell]; exact h.f1⟩
theorem BoxAt.other {wr : World} {B B' j : Nat} {x y : Value} (h : BoxAt wr B x y) (hne : B' ≠ B) (v : Value) : BoxAt (wr.setCell ⟨B', j, none⟩ v) B x y :=
  ⟨by rw [World.cell?_setCell_other _ _ _ _ (fun e => hne (congrArg Addr.block e))]; exact h.d0, by rw [World.cell?_setCell_other _ _ _ _ (fun e => hne (congrArg Addr.block e))]; exact h.d1, by rw [World.frozen?_setCell]; exact h.f0, by rw [World.frozen?_setCell]; exact h.f1⟩
theorem BoxAt.new (w : World) (x y : Value) (T : TypeId) : BoxAt (w.alloc (.cells #[x, y] T)) w.heap.size x y :=
  ⟨cell_new w #[x, y] T 0 _ rfl, cell_new w #[x, y] T 1 _ rfl, World.frozen?_alloc_at _ _ _ _ rfl, World.frozen?_alloc_at _ _ _ _ rfl⟩

/-- the chosen sets below a bound -/
def chosen (P : Nat → Bool) (k : Nat) : List Int := ((List.range k).filter P).map Int.ofNat
theorem chosen_succ (P : Nat → Bool) (k : Nat) : chosen P (k + 1) = if P k then chosen P k ++ [(k : Int)] else chosen P k := by
  unfold chosen
  rw [List.range_succ, List.filter_append, List.map_append]
  by_cases h : P k = true
  · simp [h]
  · simp [h]
theorem chosen_len (P : Nat → Bool) (k : Nat) : (chosen P k).length ≤ k := by
  unfold chosen; rw [List.length_map]; have := List.length_filter_le P (List.range k); simpa using this

set_option maxHeartbeats 1000000 in
set_option maxRecDepth 100000 in
theorem choose_any (w : World) (n : Nat) (hn : n ≤ 6) (c : FuncId) (he : ∀ args w, (callFunc c args).run Tryd.prog w = .ok (.enter c args) w) (g : Nat) (P : Nat → Bool)
    (hw : ∀ (s : Nat) W', s < 2 ^ n → Below w.heap.size w W' → Calls Tryd.prog c #[.int .i64 (s : Int), .pointer (some ⟨g, 0, none⟩)] W' fun e w2 => e = .returned (.bool (P s)) ∧ Below W'.heap.size W' w2) :
    Calls Tryd.prog 149 #[.int .i64 (n : Int), .func (.func c) #[] #[.pointer (some ⟨g, 0, none⟩)]] w fun e w' =>
      ∃ ad i cp, e = .returned (.agg #[.int .i64 (n : Int), .slice ad i cp]) ∧ OwnI 3 w.heap.size w' (.slice ad i cp) (chosen P (2 ^ n)) ∧ Below w.heap.size w w' := by
  have hpn : (2 : Nat) ^ n ≤ 64 := Nat.pow_le_pow_right (by decide) hn
  have hp1 := Nat.two_pow_pos n
  have hpi : ((2 ^ n : Nat) : Int) = (2 : Int) ^ n := by simp
  obtain ⟨N, hN⟩ : ∃ N : Nat, N = 2 ^ n := ⟨_, rfl⟩
  rw [← hN] at hw hpn hp1 hpi ⊢
  have HN := Lib.hid hN
  clear hN
  have r0 := (BoxAt.new w (.int .i64 0) (.slice none 0 0) 32)
  have r1 := r0.keep (bl1 _ (.cells #[.int .i64 n, .slice none 0 0] 32))
  have b1 := BoxAt.new (w.alloc (.cells #[.int .i64 0, .slice none 0 0] 32)) (.int .i64 n) (.slice none 0 0) 32
  go_enter Tryd.func149, Tryd.ntmps149
  go_wp2_with fail
  go_loopw [12] (fun i wr => ∃ (k : Nat) (ad : Option Addr) (nn cp : Nat), k ≤ N ∧ i = .int .i64 k ∧ OwnI 3 (w.heap.size + 1 + 1) wr (.slice ad nn cp) (chosen P k) ∧ Below w.heap.size w wr ∧
      BoxAt wr w.heap.size (.int .i64 0) (.slice none 0 0) ∧ BoxAt wr (w.heap.size + 1) (.int .i64 n) (.slice ad nn cp))
    (fun i _ => N - (intOf i).toNat)
  case atStart => exact ⟨0, none, 0, 0, Nat.zero_le _, rfl, OwnI.nil _ _ _, (by repeat (first | exact Below.refl _ _ | (with_reducible refine Below.setCell ?_ (by first | omega | (simp; done) | (simp; omega)) _) | (with_reducible refine Below.alloc ?_ (by first | omega | (simp; done) | (simp; omega)) _) | (with_reducible refine Below.drewN' ?_ _) | (with_reducible refine Below.drew ?_) | (with_reducible assumption) | refine Below.trans ?_ (Below.mono (by assumption) (by first | omega | (simp; done) | (simp; omega))))), r1, by simpa using b1⟩
  case round =>
    obtain ⟨k, ad, nn, cp, hk, rfl, ho, B, R, X⟩ := hrel
    clear r0 r1 b1
    by_cases hlt : k < N
    · have hlt2 : (k : Int) < 2 ^ n := by rw [← hpi]; exact_mod_cast hlt
      have hcl := hw k wr hlt B
      have zr := R.lt
      have zx := X.lt
      cases hP : P k with
      | false =>
        rw [hP] at hcl
        go_wp2_with (go_at_fn c; refine hcl.mono ?_; rintro e w2 ⟨rfl, hb2⟩)
        go_roundw
        case rel => exact ⟨k + 1, ad, nn, cp, by omega, by go_num, by rw [chosen_succ, hP]; exact ho.keep hb2, B.after hb2 B.size, R.keep hb2, X.keep hb2⟩
        case measure => simp [intOf]; omega
      | true =>
        rw [hP] at hcl
        have hlen := chosen_len P k
        have hlk : (chosen P k).length ≤ 64 := Nat.le_trans hlen (Nat.le_trans hk hpn)
        go_wp2_with (first
          | (go_at_fn c; refine hcl.mono ?_; rintro e w2 ⟨rfl, hb2⟩; have zx2 := (X.keep hb2).lt; obtain ⟨e0, e1, g0, g1⟩ := X.keep hb2)
          | (at_builtin; refine wpList_appendI rfl _ _ _ rfl 3 Tryd.underlying22 intElem (w.heap.size + 1 + 1) _ _ (k : Int) w2.heap.size rfl rfl (by simp) ((ho.keep hb2).alloc _) ⟨by omega, by omega⟩ (by omega) (by simp; omega) ?_; intro v' w6 hown hgr; obtain ⟨av, nv, cv, rfl⟩ := hown.shape3; have hrow := (ho.keep hb2).lt; have X6 := ((X.keep hb2).keep (bl1 _ (.cells #[.int .i64 k] 3))).grow hgr (fun e => by have := (hrow _ e).1; omega); have R6 := ((R.keep hb2).keep (bl1 _ (.cells #[.int .i64 k] 3))).grow hgr (fun e => by have := (hrow _ e).1; omega); obtain ⟨i0, i1, j0, j1⟩ := X6))
        have B6 : Below w.heap.size w w6 := ((B.after hb2 B.size).alloc (B.after hb2 B.size).size (.cells #[.int .i64 k] 3)).grown hgr (by have := (B.after hb2 B.size).size; simp; omega) (fun q hq => by have := (hrow q hq).1; omega)
        go_roundw
        case rel => exact ⟨k + 1, av, nv, cv, by omega, by go_num, by rw [chosen_succ, if_pos hP]; exact hown.setBelow (by first | omega | (simp; done) | (simp; omega)) _, B6.setCell (by first | omega | (simp; done) | (simp; omega)) _, R6.other (by omega) _, (BoxAt.mk i0 i1 j0 j1).set1 _⟩
        case measure => simp [intOf]; omega
    · have hlt2 : ¬ (k : Int) < 2 ^ n := by rw [← hpi]; exact_mod_cast hlt
      have hkN : k = N := by omega
      obtain ⟨e0, e1, g0, g1⟩ := X
      obtain ⟨e2, e3, g2, g3⟩ := R
      go_wp2
      refine bodyPost_ret (v := .agg #[.int .i64 n, .slice ad nn cp]) (by simp [results, Tryd.results149, go_sem, e2, e3]) rfl ⟨ad, nn, cp, rfl, ?_, ?_⟩
      · rw [hkN] at ho
        exact ((ho.setBelow (by first | omega | (simp; done) | (simp; omega)) _).setBelow (by first | omega | (simp; done) | (simp; omega)) _).mono (by first | omega | (simp; done) | (simp; omega))
      · exact Below.setCell (Below.setCell B (Nat.le_refl _) _) (Nat.le_refl _) _
end Go.Proofs.YtpaoiiiceekkkaaDoor
