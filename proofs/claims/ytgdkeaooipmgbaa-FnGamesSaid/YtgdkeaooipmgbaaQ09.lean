/- Functions of masses. Draws: any families. Draws: a cursor and what has grown since. Slices of slices of ints that a call owns. Sets of families: who is in. -/
import Derived.Test.YtgdkeaooipmgbaaQ08
import Derived.Deep.AppendLies
import Derived.Deep.RegionLaw
import Derived.Deep.Light
import Derived.Deep.RegionHeld3
section
namespace Go.Proofs.Ytgdkeaooipmgbaa
open Go.RowKit Go.G5

/-- the sum of the masses of the parts of s below k -/
def sumTo (m : List Int) (s : Nat) : Nat → Int
  | 0 => 0
  | k + 1 => if ndiff k s = 0 then sumTo m s k + m.getD k 0 else sumTo m s k
theorem sumTo_bd (m : List Int) (s : Nat) (h : ∀ k, (hk : k < m.length) → -100000 ≤ m[k] ∧ m[k] ≤ 100000) (k : Nat) (hk : k ≤ m.length) : -100000 * (k : Int) ≤ sumTo m s k ∧ sumTo m s k ≤ 100000 * (k : Int) := by
  induction k with
  | zero => simp [sumTo]
  | succ k ih =>
    have h1 := ih (by omega)
    have h2 := h k (by omega)
    rw [sumTo, List.getD_eq_getElem?_getD, List.getElem?_eq_getElem (show k < m.length by omega), Option.getD_some]
    split <;> omega

set_option maxHeartbeats 1000000 in
theorem fom_closure (w : World) (s g : Nat) (m : List Int) (v : Value) (hv : Ints w v m) (d : w.cell? ⟨g, 0, none⟩ = some v) (hs : s < m.length) (hm : m.length ≤ 32)
    (hlb : ∀ k, (hk : k < m.length) → -100000 ≤ m[k] ∧ m[k] ≤ 100000) :
    Calls Try.prog 42 #[.int .i64 (s : Int), .pointer (some ⟨g, 0, none⟩)] w fun e w' => e = .returned (.int .i64 (sumTo m s (s + 1))) ∧ Below w.heap.size w w' := by
  obtain ⟨a, b, off, c, rfl, hlen, hix, hc, hb⟩ := hv.view Try.prog 24 3 Try.underlying24 intElem
  go_enter Try.func42, Try.ntmps42
  go_wp2
  go_loopw [4, 8] (fun q i wr => ∃ k n : Nat, k ≤ s + 1 ∧ i = .int .i64 k ∧ q = .int .i64 (sumTo m s k) ∧ wr = w.drewN n) (fun _ i _ => s + 1 - (intOf i).toNat)
  case atStart => exact ⟨0, 0, Nat.zero_le _, rfl, rfl, rfl⟩
  case round =>
    obtain ⟨k, n, hk, rfl, rfl, rfl⟩ := hrel
    have hbd := sumTo_bd m s hlb k (by omega)
    obtain ⟨x, hx⟩ : ∃ x, x = sumTo m s k := ⟨_, rfl⟩
    rw [← hx] at hbd ⊢
    have HX := Lib.hid hx
    clear hx
    by_cases hks : k < s + 1
    · have hkl : k < m.length := by omega
      have hlk := hlb k hkl
      have hck := hc k hkl
      have hN1 := bitsN k s (by omega) (by omega)
      have hstep : sumTo m s (k + 1) = if ndiff k s = 0 then x + m[k] else x := by
        rw [sumTo, ← HX.out, List.getD_eq_getElem?_getD, List.getElem?_eq_getElem hkl, Option.getD_some]
      have HS := Lib.hid hstep
      clear hstep
      by_cases hz : ndiff k s = 0
      · have ht : (((ndiff k s : Nat) : Int) == 0) = true := by simp [hz]
        have HZ := Lib.hid hz
        clear hz
        go_wp2
        go_roundw
        case rel => exact ⟨k + 1, n, by omega, by go_num, by rw [HS.out, if_pos HZ.out], rfl⟩
        case measure => simp [intOf]; omega
      · have ht : (((ndiff k s : Nat) : Int) == 0) = false := by simp; omega
        go_wp2
        go_roundw
        case rel => exact ⟨k + 1, n, by omega, by go_num, by rw [HS.out, if_neg hz], rfl⟩
        case measure => simp [intOf]; omega
    · go_wp2
      go_ret
      exact ⟨ret_int (by rw [HX.out, show k = s + 1 by omega]), (Below.refl _ _).drewN' _⟩

/-- the values of a function given by its numbers -/
def madeL (F : Nat → Int) (k : Nat) : List Int := (List.range k).map F
theorem madeL_succ (F : Nat → Int) (k : Nat) : madeL F (k + 1) = madeL F k ++ [F k] := by unfold madeL; rw [List.range_succ, List.map_append]; rfl

set_option maxHeartbeats 2000000 in
set_option maxRecDepth 100000 in
theorem makeFunction_any (w : World) (n : Nat) (hn : n ≤ 5) (c : FuncId) (he : ∀ args w, (callFunc c args).run Try.prog w = .ok (.enter c args) w) (g : Nat) (F : Nat → Int) (hF : ∀ s, s < 2 ^ n → InR (F s))
    (hw : ∀ (s : Nat) W', s < 2 ^ n → Below w.heap.size w W' → Calls Try.prog c #[.int .i64 (s : Int), .pointer (some ⟨g, 0, none⟩)] W' fun e w2 => e = .returned (.int .i64 (F s)) ∧ Below W'.heap.size W' w2) :
    Calls Try.prog 41 #[.int .i64 (n : Int), .func (.func c) #[] #[.pointer (some ⟨g, 0, none⟩)]] w fun e w' =>
      ∃ ad i cp, e = .returned (.tuple #[.agg #[.int .i64 (if isFunB n (madeL F (2 ^ n)) then (n : Int) else 0), .slice ad i cp], .bool (isFunB n (madeL F (2 ^ n)))]) ∧ OwnI 3 w.heap.size w' (.slice ad i cp) (if isFunB n (madeL F (2 ^ n)) then madeL F (2 ^ n) else []) ∧ Below w.heap.size w w' := by
  have hpn : (2 : Nat) ^ n ≤ 32 := Nat.pow_le_pow_right (by decide) hn
  have hp1 := Nat.two_pow_pos n
  have hpi : ((2 ^ n : Nat) : Int) = (2 : Int) ^ n := by simp
  obtain ⟨N, hN⟩ : ∃ N : Nat, N = 2 ^ n := ⟨_, rfl⟩
  rw [← hN] at hw hF hpn hp1 hpi ⊢
  clear hN
  have r0 := (BoxAt.new w (.int .i64 0) (.slice none 0 0) 26)
  have r1 := r0.keep (bl1 _ (.cells #[.int .i64 n, .slice none 0 0] 26))
  have b1 := BoxAt.new (w.alloc (.cells #[.int .i64 0, .slice none 0 0] 26)) (.int .i64 n) (.slice none 0 0) 26
  go_enter Try.func41, Try.ntmps41
  go_wp2_with fail
  go_loopw [13] (fun i wr => ∃ (k : Nat) (ad : Option Addr) (nn cp : Nat), k ≤ N ∧ i = .int .i64 k ∧ OwnI 3 (w.heap.size + 1 + 1) wr (.slice ad nn cp) (madeL F k) ∧ Below w.heap.size w wr ∧
      BoxAt wr w.heap.size (.int .i64 0) (.slice none 0 0) ∧ BoxAt wr (w.heap.size + 1) (.int .i64 n) (.slice ad nn cp))
    (fun i _ => N - (intOf i).toNat)
  case atStart => exact ⟨0, none, 0, 0, Nat.zero_le _, rfl, OwnI.nil _ _ _, (by repeat (first | exact Below.refl _ _ | (with_reducible refine Below.setCell ?_ (by first | omega | (simp; done) | (simp; omega)) _) | (with_reducible refine Below.alloc ?_ (by first | omega | (simp; done) | (simp; omega)) _) | (with_reducible refine Below.drewN' ?_ _) | (with_reducible refine Below.drew ?_) | (with_reducible assumption) | refine Below.trans ?_ (Below.mono (by assumption) (by first | omega | (simp; done) | (simp; omega))))), r1, by simpa using b1⟩
  case round =>
    obtain ⟨k, ad, nn, cp, hk, rfl, ho, B, R, X⟩ := hrel
    clear r0 r1 b1
    by_cases hlt : k < N
    · have hlt2 : (k : Int) < 2 ^ n := by rw [← hpi]; exact_mod_cast hlt
      have zr := R.lt
      have zx := X.lt
      have hFk := hF k hlt
      have hlen : (madeL F k).length = k := by simp [madeL]
      have hlk : (madeL F k).length ≤ 64 := by omega
      have hrow := ho.lt
      have HO := Lib.hid ho
      have HR := Lib.hid R
      have HXX := Lib.hid X
      obtain ⟨e0, e1, g0, g1⟩ := X
      clear ho R
      have hcl := hw k wr.drew hlt B.drew
      clear hw
      go_wp2
      go_region_law
        (first
          | (go_simp; go_at_fn c; refine hcl.mono ?_; rintro e w2 ⟨rfl, hb2⟩; have X2 := HXX.out.keep ((Below.refl _ _).drew.after hb2 (Nat.le_refl _)); have X3 := X2.keep (bl1 w2 (.cells #[.int .i64 (F k)] 3)); have zz2 := X2.lt; have x1 := X2.d1; have x2 := X2.f1; have x3 := X3.d1; have x4 := X3.f1)
          | (refine step_appendI rfl _ _ _ rfl 3 Try.underlying24 intElem (w.heap.size + 1 + 1) _ _ (F k) w2.heap.size rfl rfl (cell_new w2 #[.int .i64 (F k)] 3 0 _ rfl) ((HO.out.keep ((Below.refl _ _).drew.after hb2 (Nat.le_refl _))).alloc (.cells #[.int .i64 (F k)] 3)) hFk (by omega) (by simp; omega) ?_; intro v' w6 hown hgr; obtain ⟨av, nv, cv, rfl⟩ := hown.shape3; have X6 := X3.grow hgr (fun e => by have := (hrow _ e).1; omega); obtain ⟨i0, i1, j0, j1⟩ := X6))
      all_goals
       have B6 : Below w.heap.size w w6 := (((B.drew).after hb2 B.size).alloc (B.drew.after hb2 B.size).size (.cells #[.int .i64 (F k)] 3)).grown hgr (by simp; omega) (fun q hq => by have := (hrow q hq).1; omega)
       have R6 := ((HR.out.keep ((Below.refl _ _).drew.after hb2 (Nat.le_refl _))).keep (bl1 w2 (.cells #[.int .i64 (F k)] 3))).grow hgr (fun e => by have := (hrow _ e).1; omega)
       go_wp2
       go_roundw
       case rel => exact ⟨k + 1, av, nv, cv, by omega, by go_num, by rw [madeL_succ]; exact hown.setBelow (by first | omega | (simp; done) | (simp; omega)) _, B6.setCell (by first | omega | (simp; done) | (simp; omega)) _, R6.other (by omega) _, (BoxAt.mk i0 i1 j0 j1).set1 _⟩
       case measure => simp [intOf]; omega
    · have hlt2 : ¬ (k : Int) < 2 ^ n := by rw [← hpi]; exact_mod_cast hlt
      have hkN : k = N := by omega
      subst hkN
      have HO := Lib.hid ho
      have HR := Lib.hid R
      have HXX := Lib.hid X
      obtain ⟨e0, e1, g0, g1⟩ := X
      have hi := ho.ints
      clear ho hw R
      go_wp2_with fail
      refine (isFunI_any n _ _ _ hi).mono ?_
      rintro e w2 ⟨rfl, hb2⟩
      have B2 := B.after hb2 B.size
      have o2 := HO.out.keep hb2
      have HO2 := Lib.hid o2
      obtain ⟨f0, f1, j0, j1⟩ := HR.out.keep hb2
      obtain ⟨i0, i1, q0, q1⟩ := HXX.out.keep hb2
      clear e0 e1 g0 g1 hb2 B o2 hi
      cases hf : isFunB n (madeL F k) with
      | false =>
        have HF := Lib.hid hf
        go_wp2
        all_goals refine bodyPost_ret (v := .tuple #[.agg #[.int .i64 0, .slice none 0 0], .bool false]) (by simp [results, Try.results41, go_sem, f0, f1]) rfl ⟨none, 0, 0, rfl, OwnI.nil _ _ _, Below.setCell (Below.setCell B2 (Nat.le_refl _) _) (Nat.le_refl _) _⟩
      | true =>
        have HF := Lib.hid hf
        go_wp2
        refine bodyPost_ret (v := .tuple #[.agg #[.int .i64 n, .slice ad nn cp], .bool true]) (by simp [results, Try.results41, go_sem, f0, f1]) rfl ⟨ad, nn, cp, rfl, ?_, ?_⟩
        · exact ((HO2.out.setBelow (by first | omega | (simp; done) | (simp; omega)) _).setBelow (by first | omega | (simp; done) | (simp; omega)) _).mono (by first | omega | (simp; done) | (simp; omega))
        · exact Below.setCell (Below.setCell B2 (Nat.le_refl _) _) (Nat.le_refl _) _
end Go.Proofs.Ytgdkeaooipmgbaa
end
section
namespace Go.Proofs.Ytgdkeaooipmgbaa
open Go.RowKit Go.G5

theorem gr_any {w w' w'' : World} {g : Nat} {row : Option Nat} (h : w.grownBy w' (some g)) (k : w'.grownBy w'' row) (hr : ∀ b, row = some b → b = g ∨ w.heap.size ≤ b) : w.grownBy w'' (some g) :=
  ⟨k.os.trans h.os, k.tape.trans h.tape, k.output.trans h.output, Nat.le_trans h.size k.size, fun b hb hn => (k.block b (Nat.lt_of_lt_of_le hb h.size) (fun e => by
    rcases hr b e.symm with h1 | h1
    · exact hn (by rw [h1])
    · omega)).trans (h.block b hb hn)⟩
theorem OwnI.lit5 {E : TypeId} (w : World) (a b c d e : Int) (h : ∀ x ∈ [a, b, c, d, e], InR x) : OwnI E w.heap.size (w.alloc (.cells #[.int .i64 a, .int .i64 b, .int .i64 c, .int .i64 d, .int .i64 e] E)) (.slice (some ⟨w.heap.size, 0, none⟩) 5 5) [a, b, c, d, e] :=
  ⟨World.ownsRow_lit w #[.int .i64 a, .int .i64 b, .int .i64 c, .int .i64 d, .int .i64 e] 5 (Nat.le_refl _) (by decide) rfl, h⟩
end Go.Proofs.Ytgdkeaooipmgbaa
end
section
namespace Go.G5
open Go Go.RowKit
section
variable {wr w2 : World} {g : Nat}
theorem OwnI.cur0 {E : TypeId} {B : Nat} {v : Value} {l : List Int} (o : OwnI E B wr v l) (hB : g < B) (g2 : wr.grownBy w2 (some g)) : OwnI E B w2 v l :=
  o.grow g2 (fun q hq e => by have := Option.some.inj hq; have := (o.lt _ e).1; omega)
theorem Blk.cur0 {t : TypeId} {b : Nat} {cs : Array Value} (K : Blk wr b t cs) (hb : g < b) (g2 : wr.grownBy w2 (some g)) : Blk w2 b t cs :=
  K.grow g2 (fun e => by have := Option.some.inj e; omega)
theorem Blk.own {E t : TypeId} {B b : Nat} {v : Value} {l : List Int} {cs : Array Value} (K : Blk wr b t cs) (o : OwnI E B wr v l) (hB : b < B) (g2 : wr.grownBy w2 v.ownBlock) : Blk w2 b t cs :=
  K.grow g2 (fun e => by have := (o.lt _ e).1; omega)
end
end Go.G5
namespace Go.Proofs.Ytgdkeaooipmgbaa
open Go.RowKit Go.G5

/-- since w only the cursor's block g has changed, and new blocks -/
structure Cur (w wr : World) (g : Nat) : Prop where
  D : Dr wr g
  gr : w.grownBy wr (some g)
  zg : g < w.heap.size
section
variable {w wr w2 : World} {g : Nat}
theorem Cur.start (D : Dr w g) : Cur w w g := ⟨D, World.grownBy.refl _ _, D.lt⟩
theorem Cur.size (h : Cur w wr g) : w.heap.size ≤ wr.heap.size := h.gr.size
theorem Cur.next (h : Cur w wr g) (D : Dr w2 g) (g2 : wr.grownBy w2 (some g)) : Cur w w2 g := ⟨D, gr_trans h.gr g2, h.zg⟩
theorem Cur.keep (h : Cur w wr g) (b : Below wr.heap.size wr w2) : Cur w w2 g := ⟨h.D.keep b, gr_trans h.gr (gr_below _ b), h.zg⟩
theorem Cur.alloc (h : Cur w wr g) (o : Obj) : Cur w (wr.alloc o) g := h.keep (bl1 _ _)
theorem Cur.row {r : Option Nat} (h : Cur w wr g) (g2 : wr.grownBy w2 r) (hr : ∀ b, r = some b → w.heap.size ≤ b) : Cur w w2 g :=
  ⟨h.D.grow g2 (fun k e => by have := hr k e; have := h.zg; omega), gr_any h.gr g2 (fun b e => .inr (hr b e)), h.zg⟩
end
end Go.Proofs.Ytgdkeaooipmgbaa
end
section
namespace Go.G5
open Go Go.RowKit

/-- what the program's tables say of an element type that is a slice -/
structure SliceElem (P : Program) (E : TypeId) : Prop where
  info : (P.info? E).map (fun i => (i.zero, i.size, i.bytes)) = some (some (.slice none 0 0), 1, 24)
theorem SliceElem.get {P : Program} {E : TypeId} (h : SliceElem P E) : ∃ i, P.info? E = some i ∧ i.zero = some (.slice none 0 0) ∧ i.size = 1 ∧ i.bytes = 24 := by
  have h := h.info
  cases hx : P.info? E with
  | none => rw [hx] at h; simp at h
  | some i => rw [hx] at h; simp at h; exact ⟨i, rfl, h.1, h.2.1, h.2.2⟩

/-- rows of different element types are different blocks -/
theorem own_ne {w : World} {B B' : Nat} {E E' : TypeId} {s s' n n' : Nat} {u v : Value} {xs ys : List Value} (h : w.ownsRow B E s u n xs) (h' : w.ownsRow B' E' s' v n' ys) (hne : E ≠ E') : ∀ k, v.ownBlock = some k → u.ownBlock ≠ some k := by
  intro k hk hu
  rcases h.2 with ⟨rfl, _⟩ | ⟨g, cap, cur, rfl, _, hg, _⟩
  · simp [Value.ownBlock] at hu
  · rcases h'.2 with ⟨rfl, _⟩ | ⟨g', cap', cur', rfl, _, hg', _⟩
    · simp [Value.ownBlock] at hk
    · have e1 : g = k := by simpa [Value.ownBlock] using hu
      have e2 : g' = k := by simpa [Value.ownBlock] using hk
      subst e1; subst e2
      rw [hg] at hg'
      injection hg' with hg'
      injection hg' with _ ht
      exact hne ht

/-- v owns a row of slices that read as the lists of ls -/
def OwnLL (EI EO : TypeId) (B : Nat) (w : World) (v : Value) (ls : List (List Int)) : Prop :=
  ∃ vs : List Value, w.ownsRow B EO 1 v ls.length vs ∧ ∀ (k : Nat) (u : Value), vs[k]? = some u → ∃ l, ls[k]? = some l ∧ OwnI EI B w u l

theorem OwnLL.len {EI EO : TypeId} {B : Nat} {w : World} {v : Value} {ls : List (List Int)} (h : OwnLL EI EO B w v ls) : ∃ a c, v = .slice a ls.length c ∧ ls.length ≤ maxLen := by
  obtain ⟨vs, h1, _⟩ := h
  rcases h1.2 with ⟨rfl, hn⟩ | ⟨g, cap, cur, rfl, hB, hg, hn, hm, _⟩
  · exact ⟨none, 0, by rw [hn], by omega⟩
  · exact ⟨_, cap, rfl, by omega⟩
theorem OwnLL.shape3 {EI EO : TypeId} {B : Nat} {w : World} {v : Value} {ls : List (List Int)} (h : OwnLL EI EO B w v ls) : ∃ a n c, v = .slice a n c := by
  obtain ⟨a, c, h, _⟩ := h.len
  exact ⟨a, _, c, h⟩
theorem OwnLL.nil (EI EO : TypeId) (B : Nat) (w : World) : OwnLL EI EO B w (.slice none 0 0) [] := ⟨[], World.ownsRow_nil _ _ _ _, by simp⟩
theorem OwnLL.single {EI EO : TypeId} {B : Nat} (w : World) (hB : B ≤ w.heap.size) : OwnLL EI EO B (w.alloc (.cells #[.slice none 0 0] EO)) (.slice (some ⟨w.heap.size, 0, none⟩) 1 1) [[]] := by
  refine ⟨[.slice none 0 0], World.ownsRow_lit w #[.slice none 0 0] 1 hB (by decide) rfl, ?_⟩
  intro k u hu
  cases k with
  | zero => simp only [List.getElem?_cons_zero, Option.some.injEq] at hu; subst hu; exact ⟨[], rfl, OwnI.nil _ _ _⟩
  | succ k => simp at hu
theorem OwnLL.keep {EI EO : TypeId} {B : Nat} {w w' : World} {v : Value} {ls : List (List Int)} (h : OwnLL EI EO B w v ls) (hb : Below w.heap.size w w') : OwnLL EI EO B w' v ls := by
  obtain ⟨vs, ⟨h0, h1⟩, h2⟩ := h
  refine ⟨vs, ⟨h0, ?_⟩, fun k u hu => ?_⟩
  · rcases h1 with h1 | ⟨g, cap, cur, rfl, hBg, hg, r⟩
    · exact .inl h1
    · exact .inr ⟨g, cap, cur, rfl, hBg, by rw [hb.block g (Array.getElem?_eq_some_iff.1 hg).1]; exact hg, r⟩
  · obtain ⟨l, h3, h4⟩ := h2 k u hu
    exact ⟨l, h3, h4.keep hb⟩
theorem OwnLL.mono {EI EO : TypeId} {B B' : Nat} {w : World} {v : Value} {ls : List (List Int)} (h : OwnLL EI EO B w v ls) (hB : B' ≤ B) : OwnLL EI EO B' w v ls := by
  obtain ⟨vs, ⟨h0, h1⟩, h2⟩ := h
  refine ⟨vs, ⟨h0, ?_⟩, fun k u hu => ?_⟩
  · rcases h1 with h1 | ⟨g, cap, cur, rfl, hBg, r⟩
    · exact .inl h1
    · exact .inr ⟨g, cap, cur, rfl, by omega, r⟩
  · obtain ⟨l, h3, h4⟩ := h2 k u hu
    exact ⟨l, h3, h4.mono hB⟩
theorem OwnLL.lt {EI EO : TypeId} {B : Nat} {w : World} {v : Value} {ls : List (List Int)} (h : OwnLL EI EO B w v ls) : ∀ k, v.ownBlock = some k → B ≤ k ∧ k < w.heap.size := by
  obtain ⟨vs, h1, _⟩ := h
  exact h1.lt
theorem OwnLL.grow {EI EO : TypeId} {B B' n : Nat} {w w' : World} {v v' : Value} {ls : List (List Int)} {vs : List Value} (h : OwnLL EI EO B w v ls) (h' : w.ownsRow B' EO 1 v' n vs) (hT : EI ≠ EO) (hg : w.grownBy w' v'.ownBlock) (hne : ∀ k, v'.ownBlock = some k → v.ownBlock ≠ some k) : OwnLL EI EO B w' v ls := by
  obtain ⟨us, h1, h2⟩ := h
  refine ⟨us, h1.kept hg ?_, fun k u hu => ?_⟩
  · cases hv : v'.ownBlock with
    | none =>
      cases hu : v.ownBlock with
      | none => exact .inl rfl
      | some q => exact .inr (by simp)
    | some q =>
      right
      intro e
      exact hne q hv e
  · obtain ⟨l, h3, h4⟩ := h2 k u hu
    exact ⟨l, h3, h4.grow hg (own_ne h4.1 h' hT)⟩
theorem OwnLL.growLow {EI EO : TypeId} {B g : Nat} {w w' : World} {v : Value} {ls : List (List Int)} (h : OwnLL EI EO B w v ls) (hg : w.grownBy w' (some g)) (hB : g < B) : OwnLL EI EO B w' v ls := by
  obtain ⟨us, h1, h2⟩ := h
  refine ⟨us, h1.kept hg ?_, fun k u hu => ?_⟩
  · right
    intro e
    have := (h1.lt g e).1
    omega
  · obtain ⟨l, h3, h4⟩ := h2 k u hu
    exact ⟨l, h3, h4.grow hg (fun q hq hq2 => by cases hq; have := (h4.lt _ hq2).1; omega)⟩
theorem OwnLL.row {EI EO : TypeId} {B : Nat} {w : World} {v : Value} {ls : List (List Int)} (h : OwnLL EI EO B w v ls) : ∃ vs, w.ownsRow B EO 1 v ls.length vs := ⟨h.choose, h.choose_spec.1⟩
theorem OwnI.growL {EI EO : TypeId} {B B' n : Nat} {w w' : World} {u v' : Value} {l : List Int} {vs : List Value} (h : OwnI EI B w u l) (h' : w.ownsRow B' EO 1 v' n vs) (hT : EI ≠ EO) (hg : w.grownBy w' v'.ownBlock) : OwnI EI B w' u l := h.grow hg (own_ne h.1 h' hT)
/-- the k-th slice -/
theorem OwnLL.view {EI EO : TypeId} {B : Nat} {w : World} {a : Option Addr} {n c : Nat} {ls : List (List Int)} (h : OwnLL EI EO B w (.slice a n c) ls) (P : Program) (T : TypeId) (hT : P.underlying T = some (.slice EO)) (hs : SliceElem P EO) (k : Nat) (hk : k < ls.length) :
    ∃ g u, (∀ (w' : World), (Instr.indexAt T (.slice a n c) (.int .i64 (k : Int))).run P w' = .ok (.pointer (some ⟨g, k, none⟩)) w') ∧ w.cell? ⟨g, k, none⟩ = some u ∧ OwnI EI B w u ls[k] := by
  obtain ⟨vs, h1, h2⟩ := h
  have hE : P.elem T = EO := by simp [Program.elem, hT]
  obtain ⟨i, hi, _, hi', _⟩ := hs.get
  have hl := h1.1
  rcases h1.2 with ⟨e, hn⟩ | ⟨g, cap, cur, e, hB, hg, hn, hm, hsz, ht⟩
  · omega
  · simp only [Value.slice.injEq] at e
    obtain ⟨rfl, rfl, rfl⟩ := e
    have hv : k < vs.length := by omega
    obtain ⟨l, h3, h4⟩ := h2 k vs[k] (List.getElem?_eq_getElem hv)
    rw [List.getElem?_eq_getElem hk] at h3
    cases h3
    refine ⟨g, vs[k], fun w' => ?_, ?_, h4⟩
    · rw [run_indexAt_slice w' T ⟨g, 0, none⟩ ls.length c .i64 k (by rw [hE]; exact hT), if_pos ⟨by omega, by omega⟩, hE]
      simp [sizeOf, typeInfo, hi, hi', Addr.add]
      exact fun h => h.symm
    · have hrow : w.ownsRow B EO 1 (.slice (some ⟨g, 0, none⟩) ls.length c) ls.length vs := ⟨h1.1, .inr ⟨g, c, cur, rfl, hB, hg, hn, hm, hsz, ht⟩⟩
      rw [hrow.cellAt k (by omega)]
      exact List.getElem?_eq_getElem hv

/-- out = append(out, l), l the call's own -/
theorem wpList_appendL {P : Program} {w : World} {ops : Array Oper} {rest : List Oper} {o : Oper} {a : Act} {Q : Exit → Act → World → Prop} (hgd : o.guard = none) (s x : Operand) (t : TypeId)
    (ho : o.op = .call { callee := .builtin .append, args := #[s, x], argTypes := #[t, t] })
    (EI EO : TypeId) (hne : EI ≠ EO) (ht : P.underlying t = some (.slice EO)) (hE : SliceElem P EO) (B : Nat) (v : Value) (ls : List (List Int)) (u : Value) (l : List Int) (b : Nat) (hs : a.eval s = v) (hx : a.eval x = .slice (some ⟨b, 0, none⟩) 1 1)
    (hy : w.cell? ⟨b, 0, none⟩ = some u) (hown : OwnLL EI EO B w v ls) (hu : OwnI EI B w u l) (hlen : ls.length < 5497558138879) (hB : B ≤ w.heap.size)
    (h : ∀ v' w', OwnLL EI EO B w' v' (ls ++ [l]) → w.grownBy w' v.ownBlock → wpList P ops Q rest (a.put o.dst v') w') : wpList P ops Q (o :: rest) a w := by
  obtain ⟨i, hi, hz, h1, h8⟩ := hE.get
  obtain ⟨vs, ho1, ho2⟩ := hown
  have hone : u.oneCell' = true := by
    obtain ⟨a', n', c', rfl⟩ := hu.shape3
    rfl
  refine wpList_append_own w hgd s x t ho B EO i (.slice none 0 0) 1 24 ht hi hz h1 h8 rfl (by decide) v ls.length vs hs ho1 ⟨b, 0, none⟩ 1 1 [u] hx rfl ?_ ?_ ?_ ?_ hB ?_
  · intro j q hj
    match j, hj with
    | 0, hj => simp at hj; subst hj; simpa [Addr.add] using hy
    | j + 1, hj => simp at hj
  · intro q hq; simp at hq; subst hq; exact hone
  · unfold maxLen; omega
  · omega
  · intro v' w' hown' hg _
    refine h v' w' ⟨vs ++ [u], by simpa using hown', fun k q hq => ?_⟩ hg
    have hl := ho1.1
    by_cases hk : k < vs.length
    · rw [List.getElem?_append_left hk] at hq
      obtain ⟨l', h3, h4⟩ := ho2 k q hq
      exact ⟨l', by rw [List.getElem?_append_left (by omega)]; exact h3, h4.grow hg (own_ne h4.1 ho1 hne)⟩
    · rw [List.getElem?_append_right (by omega)] at hq
      have hk0 : k - vs.length = 0 := by
        cases hkk : k - vs.length with
        | zero => rfl
        | succ m => rw [hkk] at hq; simp at hq
      rw [hk0] at hq
      simp only [List.getElem?_cons_zero, Option.some.injEq] at hq
      subst hq
      refine ⟨l, ?_, hu.grow hg (own_ne hu.1 ho1 hne)⟩
      rw [List.getElem?_append_right (by omega), show k - ls.length = 0 by omega]; rfl
end Go.G5

namespace Go.Proofs.Ytgdkeaooipmgbaa
open Go.RowKit Go.G5
theorem sliceElem : SliceElem Try.prog 24 := ⟨by kernel_rfl⟩
theorem noMeet : (3 : TypeId) ≠ 24 := by decide
theorem ll_used : (36 : TypeId) = 36 := rfl
end Go.Proofs.Ytgdkeaooipmgbaa
end
section
namespace Go.Proofs.Ytgdkeaooipmgbaa
open Go.RowKit Go.G5

def has (l : List Int) (s : Int) : Bool := decide (s ∈ l)
theorem has_true {l : List Int} {s : Int} : has l s = true ↔ s ∈ l := by simp [has]
theorem has_at (l : List Int) (k : Nat) (h : k < l.length) : has l l[k] = true := has_true.2 (List.getElem_mem h)
theorem has_false {l : List Int} {s : Int} (h : ∀ k, (hk : k < l.length) → l[k] ≠ s) : has l s = false := by
  unfold has
  rw [decide_eq_false_iff_not]
  intro hm
  obtain ⟨k, hk, he⟩ := List.getElem_of_mem hm
  exact h k hk he

end Go.Proofs.Ytgdkeaooipmgbaa
end
