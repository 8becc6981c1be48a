/- Claims of functions. -/
import Derived.Test.YtmlpcohailjccaaLeast
import Derived.Test.YtmlpcohailjccaaDual
import Derived.Test.YtmlpcohailjccaaClaimCut
namespace Go.Proofs.Ytmlpcohailjccaa
open Go.RowKit Go.G5

def cfK (n : Int) (l : List Int) : Int := if isGrB n l then (if violB n l then 2 else 1) else 0
def cfA (n : Int) (l : List Int) : Int := if isGrB n l then n else 0
def cfL (n : Int) (l : List Int) : List Int := if isGrB n l then l else []
def cfP (n : Int) (l : List Int) : Int := if isGrB n l then (if violB n l then 0 else lstN l) else 0
def cfS (n : Int) (l : List Int) : Int := if isGrB n l then (if violB n l then 0 else lmN n l) else 0
def cfE (n : Int) (l : List Int) : List Int := if isGrB n l then (if violB n l then violL n l else dvL n l) else []
theorem cfL_len (n : Int) (l : List Int) (h : l.length ≤ 1048576) : (cfL n l).length ≤ 1048576 := by unfold cfL; split <;> simp_all
theorem cfE_len (n : Int) (l : List Int) : (cfE n l).length ≤ 1048576 := by
  unfold cfE
  split
  · rename_i h
    split
    · have := violL_len n l; omega
    · unfold dvL rvL
      obtain ⟨N, rfl, hN, _⟩ := fun_nat (grOk h)
      split
      · split
        · rw [rvTo_len]; unfold lowL; simp; omega
        · simp
      · simp
  · simp
set_option maxHeartbeats 4000000 in
set_option maxRecDepth 100000 in
theorem claimFunI_c (w : World) (n : Int) (v : Value) (l : List Int) (hv : Ints w v l) (hl : l.length ≤ 1048576) :
    Calls Try.prog 18 #[.agg #[.int .i64 n, v]] w fun e w' => ∃ p0 i0 q0 p1 i1 q1 p2 i2 q2 p3 i3 q3, e = .returned (.tuple #[.agg #[.int .i64 (cfK n l), .int .i64 (cfA n l), .slice p0 i0 q0, .int .i64 0, .slice p1 i1 q1, .int .i64 0, .slice p2 i2 q2, .int .i64 (cfP n l), .int .i64 (cfS n l), .slice p3 i3 q3], .bool (isGrB n l)]) ∧ OwnW 3 w.heap.size w' (.slice p0 i0 q0) (cfL n l) ∧ OwnW 3 w.heap.size w' (.slice p1 i1 q1) [] ∧ OwnW 3 w.heap.size w' (.slice p2 i2 q2) [] ∧ OwnW 3 w.heap.size w' (.slice p3 i3 q3) (cfE n l) ∧ (Apart (.slice p0 i0 q0) (.slice p1 i1 q1) ∧ Apart (.slice p0 i0 q0) (.slice p2 i2 q2) ∧ Apart (.slice p0 i0 q0) (.slice p3 i3 q3) ∧ Apart (.slice p1 i1 q1) (.slice p2 i2 q2) ∧ Apart (.slice p1 i1 q1) (.slice p3 i3 q3) ∧ Apart (.slice p2 i2 q2) (.slice p3 i3 q3)) ∧ Below w.heap.size w w' := by
  obtain ⟨a, c, rfl⟩ := hv.shape
  go_enter Try.func18, Try.ntmps18
  go_wp2_with fail
  refine calls_named ?_
  intro V hV
  have B : Below w.heap.size w V := by rw [hV]; exact bl2 _ _ _
  have K1 : Blk V w.heap.size 26 #[.int .i64 n, .slice a l.length c] := by rw [hV]; exact (Blk.new _ _ _).alloc _
  have K3 : Blk V (w.heap.size + 1) 30 #[.int .i64 0, .int .i64 0, .slice none 0 0, .int .i64 0, .slice none 0 0, .int .i64 0, .slice none 0 0, .int .i64 0, .int .i64 0, .slice none 0 0] := by rw [hV]; have := Blk.new (w.alloc (.cells #[.int .i64 n, .slice a l.length c] 26)) 30 #[.int .i64 0, .int .i64 0, .slice none 0 0, .int .i64 0, .slice none 0 0, .int .i64 0, .slice none 0 0, .int .i64 0, .int .i64 0, .slice none 0 0]; simpa using this
  clear hV
  refine (isGrI_any n l _ V (hv.below B (Nat.le_refl _))).mono ?_
  rintro e w1 ⟨rfl, b1⟩
  have K1 := K1.keep b1
  have K3 := K3.keep b1
  have B := B.after b1 B.size
  have z3 : w.heap.size + 1 < w1.heap.size := K3.lt
  cases hf : isGrB n l with
  | false =>
    have hK : cfK n l = 0 := by unfold cfK; rw [hf]; rfl
    have hA : cfA n l = 0 := by unfold cfA; rw [hf]; rfl
    have hL : cfL n l = [] := by unfold cfL; rw [hf]; rfl
    have hP : cfP n l = 0 := by unfold cfP; rw [hf]; rfl
    have hS : cfS n l = 0 := by unfold cfS; rw [hf]; rfl
    have hE : cfE n l = [] := by unfold cfE; rw [hf]; rfl
    have H := Lib.hid (And.intro hK (And.intro hA (And.intro hL (And.intro hP (And.intro hS (And.intro hE hf))))))
    clear hK hA hL hP hS hE hf
    have G3 := K3.cell
    have F3 := K3.frozen
    go_wp2
    refine post_named ?_
    intro Wf hWf
    have K3f : Blk Wf (w.heap.size + 1) 30 #[.int .i64 0, .int .i64 0, .slice none 0 0, .int .i64 0, .slice none 0 0, .int .i64 0, .slice none 0 0, .int .i64 0, .int .i64 0, .slice none 0 0] := by
      rw [hWf]
      have := ((((((((((K3.set 0 (.int .i64 0)).set 1 (.int .i64 0)).set 2 (.slice none 0 0)).set 3 (.int .i64 0)).set 4 (.slice none 0 0)).set 5 (.int .i64 0)).set 6 (.slice none 0 0)).set 7 (.int .i64 0)).set 8 (.int .i64 0)).set 9 (.slice none 0 0))
      simpa using this
    have hg : w1.grownBy Wf (some (w.heap.size + 1)) := by
      rw [hWf]
      exact (grow_set (grow_set (grow_set (grow_set (grow_set (grow_set (grow_set (grow_set (grow_set (grow_set (World.grownBy.refl _ _) 0 _) 1 _) 2 _) 3 _) 4 _) 5 _) 6 _) 7 _) 8 _) 9 _)
    have Bf : Below w.heap.size w Wf := B.grown hg B.size (fun q hq => by have := Option.some.inj hq; omega)
    have Gf := K3f.cell
    clear hWf
    obtain ⟨hK, hA, hL, hP, hS, hE, hB⟩ := H.out
    exact bodyPost_ret (v := .tuple #[.agg #[.int .i64 0, .int .i64 0, .slice none 0 0, .int .i64 0, .slice none 0 0, .int .i64 0, .slice none 0 0, .int .i64 0, .int .i64 0, .slice none 0 0], .bool false]) (by simp [results, Try.results18, go_sem, Gf]) rfl
      ⟨none, 0, 0, none, 0, 0, none, 0, 0, none, 0, 0, by rw [hK, hA, hP, hS, hB], by rw [hL]; exact OwnW.nil _ _ _, OwnW.nil _ _ _, OwnW.nil _ _ _, by rw [hE]; exact OwnW.nil _ _ _, ⟨Apart.nil _ _ _, Apart.nil _ _ _, Apart.nil _ _ _, Apart.nil _ _ _, Apart.nil _ _ _, Apart.nil _ _ _⟩, Bf⟩
  | true =>
  have G1 := K1.cell
  go_wp2_with fail
  clear G1
  refine (violI_c w1 n _ l (hv.below B (Nat.le_refl _)) hl).mono ?_
  rintro e wl ⟨p0, i0, q0, rfl, o0, b2⟩
  have K1 := K1.keep b2
  have K3 := K3.keep b2
  have B := B.after b2 B.size
  have o0 := o0.mono (B' := w.heap.size + 1 + 1) z3
  have z3 : w.heap.size + 1 < wl.heap.size := K3.lt
  cases hvb : violB n l with
  | true =>
    have hK : cfK n l = 2 := by unfold cfK; rw [hf, hvb]; rfl
    have hA : cfA n l = n := by unfold cfA; rw [hf]; rfl
    have hL : cfL n l = l := by unfold cfL; rw [hf]; rfl
    have hP : cfP n l = 0 := by unfold cfP; rw [hf, hvb]; rfl
    have hS : cfS n l = 0 := by unfold cfS; rw [hf, hvb]; rfl
    have hE : cfE n l = violL n l := by unfold cfE; rw [hf, hvb]; rfl
    have H := Lib.hid (And.intro hK (And.intro hA (And.intro hL (And.intro hP (And.intro hS (And.intro hE hf))))))
    clear hK hA hL hP hS hE hf hvb
    have G1 := K1.cell
    go_wp2_with fail
    clear G1
    refine (copyFun_any wl n _ l (hv.below B (Nat.le_refl _)) hl).mono ?_
    rintro e w5 ⟨p5, i5, q5, rfl, o5, b5⟩
    have K35 := K3.keep b5
    have G35 := K35.cell
    have F35 := K35.frozen
    have B5 := B.after b5 B.size
    have x5 := o5.toW.mono (B' := w.heap.size + 1 + 1) (by omega)
    have x0 : OwnW 3 (w.heap.size + 1 + 1) w5 (.slice p0 i0 q0) (violL n l) := o0.keep b5
    have ap50 : Apart (.slice p5 i5 q5) (.slice p0 i0 q0) := (Apart.of_lt o0 o5.toW (Nat.le_refl _)).symm
    go_wp2
    refine post_named ?_
    intro Wf hWf
    have K3f : Blk Wf (w.heap.size + 1) 30 #[.int .i64 2, .int .i64 n, .slice p5 i5 q5, .int .i64 0, .slice none 0 0, .int .i64 0, .slice none 0 0, .int .i64 0, .int .i64 0, .slice p0 i0 q0] := by
      rw [hWf]
      have := ((((((((((K35.set 0 (.int .i64 2)).set 1 (.int .i64 n)).set 2 (.slice p5 i5 q5)).set 3 (.int .i64 0)).set 4 (.slice none 0 0)).set 5 (.int .i64 0)).set 6 (.slice none 0 0)).set 7 (.int .i64 0)).set 8 (.int .i64 0)).set 9 (.slice p0 i0 q0))
      simpa using this
    have hg : w5.grownBy Wf (some (w.heap.size + 1)) := by
      rw [hWf]
      exact (grow_set (grow_set (grow_set (grow_set (grow_set (grow_set (grow_set (grow_set (grow_set (grow_set (World.grownBy.refl _ _) 0 _) 1 _) 2 _) 3 _) 4 _) 5 _) 6 _) 7 _) 8 _) 9 _)
    have Bf : Below w.heap.size w Wf := B5.grown hg B5.size (fun q hq => by have := Option.some.inj hq; omega)
    have f5 := (x5.grow hg (fun q hq hq2 => by have := Option.some.inj hq; have := (x5.lt q hq2).1; omega)).mono (B' := w.heap.size) (by omega)
    have f0 := (x0.grow hg (fun q hq hq2 => by have := Option.some.inj hq; have := (x0.lt q hq2).1; omega)).mono (B' := w.heap.size) (by omega)
    have Gf := K3f.cell
    clear hWf
    obtain ⟨hK, hA, hL, hP, hS, hE, hB⟩ := H.out
    exact bodyPost_ret (v := .tuple #[.agg #[.int .i64 2, .int .i64 n, .slice p5 i5 q5, .int .i64 0, .slice none 0 0, .int .i64 0, .slice none 0 0, .int .i64 0, .int .i64 0, .slice p0 i0 q0], .bool true]) (by simp [results, Try.results18, go_sem, Gf]) rfl
      ⟨p5, i5, q5, none, 0, 0, none, 0, 0, p0, i0, q0, by rw [hK, hA, hP, hS, hB], by rw [hL]; exact f5, OwnW.nil _ _ _, OwnW.nil _ _ _, by rw [hE]; exact f0, ⟨(Apart.nil _ _ _).symm, (Apart.nil _ _ _).symm, ap50, Apart.nil _ _ _, Apart.nil _ _ _, Apart.nil _ _ _⟩, Bf⟩
  | false =>
    have hK : cfK n l = 1 := by unfold cfK; rw [hf, hvb]; rfl
    have hA : cfA n l = n := by unfold cfA; rw [hf]; rfl
    have hL : cfL n l = l := by unfold cfL; rw [hf]; rfl
    have hP : cfP n l = lstN l := by unfold cfP; rw [hf, hvb]; rfl
    have hS : cfS n l = lmN n l := by unfold cfS; rw [hf, hvb]; rfl
    have hE : cfE n l = dvL n l := by unfold cfE; rw [hf, hvb]; rfl
    have H := Lib.hid (And.intro hK (And.intro hA (And.intro hL (And.intro hP (And.intro hS (And.intro hE hf))))))
    have hmn : minN n l = lstN l := by unfold minN; rw [grOk hf]; rfl
    clear hK hA hL hP hS hE hf hvb
    have G1 := K1.cell
    go_wp2_with fail
    clear G1
    refine (copyFun_any wl n _ l (hv.below B (Nat.le_refl _)) hl).mono ?_
    rintro e w5 ⟨p5, i5, q5, rfl, o5, b5⟩
    have K1 := K1.keep b5
    have K3 := K3.keep b5
    have B := B.after b5 B.size
    have o5 := o5.mono (B' := w.heap.size + 1 + 1) z3
    have z5 : w.heap.size + 1 < w5.heap.size := K3.lt
    have o5w := o5
    have G1 := (K1.alloc (.cells #[.int .i64 1, .int .i64 n, .slice p5 i5 q5, .int .i64 0, .slice none 0 0, .int .i64 0, .slice none 0 0, .int .i64 0, .int .i64 0, .slice none 0 0] 30)).cell
    go_wp2_with fail
    clear G1
    refine calls_named ?_
    intro V2 hV2
    obtain ⟨gc, hgc⟩ : ∃ g, g = w5.heap.size := ⟨_, rfl⟩
    have KC : Blk V2 gc 30 #[.int .i64 1, .int .i64 n, .slice p5 i5 q5, .int .i64 0, .slice none 0 0, .int .i64 0, .slice none 0 0, .int .i64 0, .int .i64 0, .slice none 0 0] := by rw [hV2, hgc]; exact Blk.new _ _ _
    have bv : Below w5.heap.size w5 V2 := by rw [hV2]; exact bl1 _ _
    have K1 := K1.keep bv
    have K3 := K3.keep bv
    have B := B.after bv B.size
    have o5 := o5.keep bv
    have zc : w.heap.size + 1 < gc := by omega
    have hgo : some gc ≠ (Value.slice p5 i5 q5).ownBlock := fun h => by have := (o5w.lt gc h.symm).2; omega
    rw [← hgc]
    clear hV2 hgc z5
    refine (minimumI_any V2 n _ l (hv.below B (Nat.le_refl _))).mono ?_
    rintro e w6 ⟨rfl, b6⟩
    have K1 := K1.keep b6
    have K3 := K3.keep b6
    have KC := KC.keep b6
    have B := B.after b6 B.size
    have o5 := o5.keep b6
    simp only [hmn]
    clear hmn
    have G1 := (K1.far (p := ⟨gc, 7, none⟩) (by show w.heap.size ≠ gc; omega) (.int .i64 (lstN l))).cell
    have GC := KC.cell
    have FC := KC.frozen
    go_wp2_with fail
    clear G1 GC FC
    refine calls_named ?_
    intro V3 hV3
    have bs : w6.grownBy V3 (some gc) := by rw [hV3]; exact grow_set (World.grownBy.refl _ _) 7 _
    have K1 := K1.grow bs (by simp; omega)
    have K3 := K3.grow bs (by simp; omega)
    have KC : Blk V3 gc 30 #[.int .i64 1, .int .i64 n, .slice p5 i5 q5, .int .i64 0, .slice none 0 0, .int .i64 0, .slice none 0 0, .int .i64 (lstN l), .int .i64 0, .slice none 0 0] := by rw [hV3]; have := KC.set 7 (.int .i64 (lstN l)); simpa using this
    have B := B.grown bs B.size (fun q hq => by have := Option.some.inj hq; omega)
    have o5 := o5.grow bs (fun k hk h => hgo (by rw [h]; exact hk))
    clear hV3
    refine (leastMinI_any V3 n _ l (hv.below B (Nat.le_refl _)) hl).mono ?_
    rintro e w7 ⟨rfl, b7⟩
    have K1 := K1.keep b7
    have K3 := K3.keep b7
    have KC := KC.keep b7
    have B := B.after b7 B.size
    have o5 := o5.keep b7
    have G1 := (K1.far (p := ⟨gc, 8, none⟩) (by show w.heap.size ≠ gc; omega) (.int .i64 (lmN n l))).cell
    have GC := KC.cell
    have FC := KC.frozen
    go_wp2_with fail
    clear G1 GC FC
    refine calls_named ?_
    intro V4 hV4
    have bs : w7.grownBy V4 (some gc) := by rw [hV4]; exact grow_set (World.grownBy.refl _ _) 8 _
    have K1 := K1.grow bs (by simp; omega)
    have K3 := K3.grow bs (by simp; omega)
    have KC : Blk V4 gc 30 #[.int .i64 1, .int .i64 n, .slice p5 i5 q5, .int .i64 0, .slice none 0 0, .int .i64 0, .slice none 0 0, .int .i64 (lstN l), .int .i64 (lmN n l), .slice none 0 0] := by rw [hV4]; have := KC.set 8 (.int .i64 (lmN n l)); simpa using this
    have B := B.grown bs B.size (fun q hq => by have := Option.some.inj hq; omega)
    have o5 := o5.grow bs (fun k hk h => hgo (by rw [h]; exact hk))
    clear hV4
    refine (dualI_any V4 n _ l (hv.below B (Nat.le_refl _)) hl).mono ?_
    rintro e w8 ⟨p0, i0, q0, rfl, o0, b8⟩
    have zc4 : gc < V4.heap.size := KC.lt
    have ap50 : Apart (.slice p5 i5 q5) (.slice p0 i0 q0) := Apart.of_lt o5.toW o0.toW (Nat.le_refl _)
    have K3 := K3.keep b8
    have KC := KC.keep b8
    have B := B.after b8 B.size
    have o5 := o5.keep b8
    have hgo0 : some gc ≠ (Value.slice p0 i0 q0).ownBlock := fun h => by have := (o0.lt gc h.symm).1; omega
    have o0 := o0.mono (B' := w.heap.size + 1 + 1) (by omega)
    have K9 : Blk (w8.setCell ⟨gc, 9, none⟩ (.slice p0 i0 q0)) gc 30 #[.int .i64 1, .int .i64 n, .slice p5 i5 q5, .int .i64 0, .slice none 0 0, .int .i64 0, .slice none 0 0, .int .i64 (lstN l), .int .i64 (lmN n l), .slice p0 i0 q0] := by have := KC.set 9 (.slice p0 i0 q0); simpa using this
    have K39 := K3.far (p := ⟨gc, 9, none⟩) (by show w.heap.size + 1 ≠ gc; omega) (.slice p0 i0 q0)
    have b9 : w8.grownBy (w8.setCell ⟨gc, 9, none⟩ (.slice p0 i0 q0)) (some gc) := grow_set (World.grownBy.refl _ _) 9 _
    have B9 := B.grown b9 B.size (fun q hq => by have := Option.some.inj hq; omega)
    have x5 := (o5.grow b9 (fun k hk h => hgo (by rw [h]; exact hk))).toW
    have x0 := (o0.grow b9 (fun k hk h => hgo0 (by rw [h]; exact hk))).toW
    have GC := KC.cell
    have FC := KC.frozen
    have G9 := K9.cell
    have G39 := K39.cell
    have F39 := K39.frozen
    go_wp2
    refine post_named ?_
    intro Wf hWf
    have K3f : Blk Wf (w.heap.size + 1) 30 #[.int .i64 1, .int .i64 n, .slice p5 i5 q5, .int .i64 0, .slice none 0 0, .int .i64 0, .slice none 0 0, .int .i64 (lstN l), .int .i64 (lmN n l), .slice p0 i0 q0] := by
      rw [hWf]
      have := ((((((((((K39.set 0 (.int .i64 1)).set 1 (.int .i64 n)).set 2 (.slice p5 i5 q5)).set 3 (.int .i64 0)).set 4 (.slice none 0 0)).set 5 (.int .i64 0)).set 6 (.slice none 0 0)).set 7 (.int .i64 (lstN l))).set 8 (.int .i64 (lmN n l))).set 9 (.slice p0 i0 q0))
      simpa using this
    have hg : (w8.setCell ⟨gc, 9, none⟩ (.slice p0 i0 q0)).grownBy Wf (some (w.heap.size + 1)) := by
      rw [hWf]
      exact (grow_set (grow_set (grow_set (grow_set (grow_set (grow_set (grow_set (grow_set (grow_set (grow_set (World.grownBy.refl _ _) 0 _) 1 _) 2 _) 3 _) 4 _) 5 _) 6 _) 7 _) 8 _) 9 _)
    have Bf : Below w.heap.size w Wf := B9.grown hg B9.size (fun q hq => by have := Option.some.inj hq; omega)
    have f5 := (x5.grow hg (fun q hq hq2 => by have := Option.some.inj hq; have := (x5.lt q hq2).1; omega)).mono (B' := w.heap.size) (by omega)
    have f0 := (x0.grow hg (fun q hq hq2 => by have := Option.some.inj hq; have := (x0.lt q hq2).1; omega)).mono (B' := w.heap.size) (by omega)
    have Gf := K3f.cell
    clear hWf
    obtain ⟨hK, hA, hL, hP, hS, hE, hB⟩ := H.out
    exact bodyPost_ret (v := .tuple #[.agg #[.int .i64 1, .int .i64 n, .slice p5 i5 q5, .int .i64 0, .slice none 0 0, .int .i64 0, .slice none 0 0, .int .i64 (lstN l), .int .i64 (lmN n l), .slice p0 i0 q0], .bool true]) (by simp [results, Try.results18, go_sem, Gf]) rfl
      ⟨p5, i5, q5, none, 0, 0, none, 0, 0, p0, i0, q0, by rw [hK, hA, hP, hS, hB], by rw [hL]; exact f5, OwnW.nil _ _ _, OwnW.nil _ _ _, by rw [hE]; exact f0, ⟨(Apart.nil _ _ _).symm, (Apart.nil _ _ _).symm, ap50, Apart.nil _ _ _, Apart.nil _ _ _, Apart.nil _ _ _⟩, Bf⟩
set_option maxHeartbeats 4000000 in
set_option maxRecDepth 100000 in
theorem claimFunS_c (w : World) (n : Int) (v : Value) (l : List Int) (hv : Ints w v l) (hl : l.length ≤ 1048576) :
    Calls Try.prog 17 #[.agg #[.int .i64 n, v]] w fun e w' => ∃ p0 i0 q0 p1 i1 q1 p2 i2 q2 p3 i3 q3, e = .returned (.tuple #[.agg #[.int .i64 (cfK n l), .int .i64 (cfA n l), .slice p0 i0 q0, .int .i64 0, .slice p1 i1 q1, .int .i64 0, .slice p2 i2 q2, .int .i64 (cfP n l), .int .i64 (cfS n l), .slice p3 i3 q3], .bool (isGrB n l)]) ∧ OwnW 3 w.heap.size w' (.slice p0 i0 q0) (cfL n l) ∧ OwnW 3 w.heap.size w' (.slice p1 i1 q1) [] ∧ OwnW 3 w.heap.size w' (.slice p2 i2 q2) [] ∧ OwnW 3 w.heap.size w' (.slice p3 i3 q3) (cfE n l) ∧ (Apart (.slice p0 i0 q0) (.slice p1 i1 q1) ∧ Apart (.slice p0 i0 q0) (.slice p2 i2 q2) ∧ Apart (.slice p0 i0 q0) (.slice p3 i3 q3) ∧ Apart (.slice p1 i1 q1) (.slice p2 i2 q2) ∧ Apart (.slice p1 i1 q1) (.slice p3 i3 q3) ∧ Apart (.slice p2 i2 q2) (.slice p3 i3 q3)) ∧ Below w.heap.size w w' := by
  obtain ⟨a, c, rfl⟩ := hv.shape
  go_enter Try.func17, Try.ntmps17
  go_wp2_with fail
  refine calls_named ?_
  intro V hV
  have B : Below w.heap.size w V := by rw [hV]; exact bl2 _ _ _
  have K1 : Blk V w.heap.size 26 #[.int .i64 n, .slice a l.length c] := by rw [hV]; exact (Blk.new _ _ _).alloc _
  have K3 : Blk V (w.heap.size + 1) 30 #[.int .i64 0, .int .i64 0, .slice none 0 0, .int .i64 0, .slice none 0 0, .int .i64 0, .slice none 0 0, .int .i64 0, .int .i64 0, .slice none 0 0] := by rw [hV]; have := Blk.new (w.alloc (.cells #[.int .i64 n, .slice a l.length c] 26)) 30 #[.int .i64 0, .int .i64 0, .slice none 0 0, .int .i64 0, .slice none 0 0, .int .i64 0, .slice none 0 0, .int .i64 0, .int .i64 0, .slice none 0 0]; simpa using this
  clear hV
  refine (isGrS_any n l _ V (hv.below B (Nat.le_refl _))).mono ?_
  rintro e w1 ⟨rfl, b1⟩
  have K1 := K1.keep b1
  have K3 := K3.keep b1
  have B := B.after b1 B.size
  have z3 : w.heap.size + 1 < w1.heap.size := K3.lt
  cases hf : isGrB n l with
  | false =>
    have hK : cfK n l = 0 := by unfold cfK; rw [hf]; rfl
    have hA : cfA n l = 0 := by unfold cfA; rw [hf]; rfl
    have hL : cfL n l = [] := by unfold cfL; rw [hf]; rfl
    have hP : cfP n l = 0 := by unfold cfP; rw [hf]; rfl
    have hS : cfS n l = 0 := by unfold cfS; rw [hf]; rfl
    have hE : cfE n l = [] := by unfold cfE; rw [hf]; rfl
    have H := Lib.hid (And.intro hK (And.intro hA (And.intro hL (And.intro hP (And.intro hS (And.intro hE hf))))))
    clear hK hA hL hP hS hE hf
    have G3 := K3.cell
    have F3 := K3.frozen
    go_wp2
    refine post_named ?_
    intro Wf hWf
    have K3f : Blk Wf (w.heap.size + 1) 30 #[.int .i64 0, .int .i64 0, .slice none 0 0, .int .i64 0, .slice none 0 0, .int .i64 0, .slice none 0 0, .int .i64 0, .int .i64 0, .slice none 0 0] := by
      rw [hWf]
      have := ((((((((((K3.set 0 (.int .i64 0)).set 1 (.int .i64 0)).set 2 (.slice none 0 0)).set 3 (.int .i64 0)).set 4 (.slice none 0 0)).set 5 (.int .i64 0)).set 6 (.slice none 0 0)).set 7 (.int .i64 0)).set 8 (.int .i64 0)).set 9 (.slice none 0 0))
      simpa using this
    have hg : w1.grownBy Wf (some (w.heap.size + 1)) := by
      rw [hWf]
      exact (grow_set (grow_set (grow_set (grow_set (grow_set (grow_set (grow_set (grow_set (grow_set (grow_set (World.grownBy.refl _ _) 0 _) 1 _) 2 _) 3 _) 4 _) 5 _) 6 _) 7 _) 8 _) 9 _)
    have Bf : Below w.heap.size w Wf := B.grown hg B.size (fun q hq => by have := Option.some.inj hq; omega)
    have Gf := K3f.cell
    clear hWf
    obtain ⟨hK, hA, hL, hP, hS, hE, hB⟩ := H.out
    exact bodyPost_ret (v := .tuple #[.agg #[.int .i64 0, .int .i64 0, .slice none 0 0, .int .i64 0, .slice none 0 0, .int .i64 0, .slice none 0 0, .int .i64 0, .int .i64 0, .slice none 0 0], .bool false]) (by simp [results, Try.results17, go_sem, Gf]) rfl
      ⟨none, 0, 0, none, 0, 0, none, 0, 0, none, 0, 0, by rw [hK, hA, hP, hS, hB], by rw [hL]; exact OwnW.nil _ _ _, OwnW.nil _ _ _, OwnW.nil _ _ _, by rw [hE]; exact OwnW.nil _ _ _, ⟨Apart.nil _ _ _, Apart.nil _ _ _, Apart.nil _ _ _, Apart.nil _ _ _, Apart.nil _ _ _, Apart.nil _ _ _⟩, Bf⟩
  | true =>
  have G1 := K1.cell
  go_wp2_with fail
  clear G1
  refine (violS_c w1 n _ l (hv.below B (Nat.le_refl _)) hl).mono ?_
  rintro e wl ⟨p0, i0, q0, rfl, o0, b2⟩
  have K1 := K1.keep b2
  have K3 := K3.keep b2
  have B := B.after b2 B.size
  have o0 := o0.mono (B' := w.heap.size + 1 + 1) z3
  have z3 : w.heap.size + 1 < wl.heap.size := K3.lt
  cases hvb : violB n l with
  | true =>
    have hK : cfK n l = 2 := by unfold cfK; rw [hf, hvb]; rfl
    have hA : cfA n l = n := by unfold cfA; rw [hf]; rfl
    have hL : cfL n l = l := by unfold cfL; rw [hf]; rfl
    have hP : cfP n l = 0 := by unfold cfP; rw [hf, hvb]; rfl
    have hS : cfS n l = 0 := by unfold cfS; rw [hf, hvb]; rfl
    have hE : cfE n l = violL n l := by unfold cfE; rw [hf, hvb]; rfl
    have H := Lib.hid (And.intro hK (And.intro hA (And.intro hL (And.intro hP (And.intro hS (And.intro hE hf))))))
    clear hK hA hL hP hS hE hf hvb
    have G1 := K1.cell
    go_wp2_with fail
    clear G1
    refine (l33Copy_any wl n _ l (hv.below B (Nat.le_refl _)) hl).mono ?_
    rintro e w5 ⟨p5, i5, q5, rfl, o5, b5⟩
    have K35 := K3.keep b5
    have G35 := K35.cell
    have F35 := K35.frozen
    have B5 := B.after b5 B.size
    have x5 := o5.toW.mono (B' := w.heap.size + 1 + 1) (by omega)
    have x0 : OwnW 3 (w.heap.size + 1 + 1) w5 (.slice p0 i0 q0) (violL n l) := o0.keep b5
    have ap50 : Apart (.slice p5 i5 q5) (.slice p0 i0 q0) := (Apart.of_lt o0 o5.toW (Nat.le_refl _)).symm
    go_wp2
    refine post_named ?_
    intro Wf hWf
    have K3f : Blk Wf (w.heap.size + 1) 30 #[.int .i64 2, .int .i64 n, .slice p5 i5 q5, .int .i64 0, .slice none 0 0, .int .i64 0, .slice none 0 0, .int .i64 0, .int .i64 0, .slice p0 i0 q0] := by
      rw [hWf]
      have := ((((((((((K35.set 0 (.int .i64 2)).set 1 (.int .i64 n)).set 2 (.slice p5 i5 q5)).set 3 (.int .i64 0)).set 4 (.slice none 0 0)).set 5 (.int .i64 0)).set 6 (.slice none 0 0)).set 7 (.int .i64 0)).set 8 (.int .i64 0)).set 9 (.slice p0 i0 q0))
      simpa using this
    have hg : w5.grownBy Wf (some (w.heap.size + 1)) := by
      rw [hWf]
      exact (grow_set (grow_set (grow_set (grow_set (grow_set (grow_set (grow_set (grow_set (grow_set (grow_set (World.grownBy.refl _ _) 0 _) 1 _) 2 _) 3 _) 4 _) 5 _) 6 _) 7 _) 8 _) 9 _)
    have Bf : Below w.heap.size w Wf := B5.grown hg B5.size (fun q hq => by have := Option.some.inj hq; omega)
    have f5 := (x5.grow hg (fun q hq hq2 => by have := Option.some.inj hq; have := (x5.lt q hq2).1; omega)).mono (B' := w.heap.size) (by omega)
    have f0 := (x0.grow hg (fun q hq hq2 => by have := Option.some.inj hq; have := (x0.lt q hq2).1; omega)).mono (B' := w.heap.size) (by omega)
    have Gf := K3f.cell
    clear hWf
    obtain ⟨hK, hA, hL, hP, hS, hE, hB⟩ := H.out
    exact bodyPost_ret (v := .tuple #[.agg #[.int .i64 2, .int .i64 n, .slice p5 i5 q5, .int .i64 0, .slice none 0 0, .int .i64 0, .slice none 0 0, .int .i64 0, .int .i64 0, .slice p0 i0 q0], .bool true]) (by simp [results, Try.results17, go_sem, Gf]) rfl
      ⟨p5, i5, q5, none, 0, 0, none, 0, 0, p0, i0, q0, by rw [hK, hA, hP, hS, hB], by rw [hL]; exact f5, OwnW.nil _ _ _, OwnW.nil _ _ _, by rw [hE]; exact f0, ⟨(Apart.nil _ _ _).symm, (Apart.nil _ _ _).symm, ap50, Apart.nil _ _ _, Apart.nil _ _ _, Apart.nil _ _ _⟩, Bf⟩
  | false =>
    have hK : cfK n l = 1 := by unfold cfK; rw [hf, hvb]; rfl
    have hA : cfA n l = n := by unfold cfA; rw [hf]; rfl
    have hL : cfL n l = l := by unfold cfL; rw [hf]; rfl
    have hP : cfP n l = lstN l := by unfold cfP; rw [hf, hvb]; rfl
    have hS : cfS n l = lmN n l := by unfold cfS; rw [hf, hvb]; rfl
    have hE : cfE n l = dvL n l := by unfold cfE; rw [hf, hvb]; rfl
    have H := Lib.hid (And.intro hK (And.intro hA (And.intro hL (And.intro hP (And.intro hS (And.intro hE hf))))))
    have hpos : 0 < l.length := by
      obtain ⟨N, rfl, _, hl2, _⟩ := fun_nat (grOk hf)
      rw [hl2]; exact Nat.two_pow_pos N
    clear hK hA hL hP hS hE hf hvb
    have G1 := K1.cell
    go_wp2_with fail
    clear G1
    refine (dualS_any wl n _ l (hv.below B (Nat.le_refl _)) hl).mono ?_
    rintro e w2 ⟨p0, i0, q0, rfl, o0, b2⟩
    have K1 := K1.keep b2
    have K3 := K3.keep b2
    have B := B.after b2 B.size
    have o0 := o0.mono (B' := w.heap.size + 1 + 1) z3
    have G1 := K1.cell
    go_wp2_with fail
    clear G1
    refine (leastMinS_any w2 n _ l (hv.below B (Nat.le_refl _)) hl).mono ?_
    rintro e w3 ⟨rfl, b3⟩
    have K1 := K1.keep b3
    have K3 := K3.keep b3
    have B := B.after b3 B.size
    have o0 := o0.keep b3
    have hvd : Ints w3.drew (.slice a l.length c) l := (hv.below B (Nat.le_refl _)).keep (Below.refl _ _).drew
    have HC1 := Lib.hid (l33Copy_any w3.drew n (.slice a l.length c) l hvd hl)
    have HLE := Lib.hid (fun (W : World) (h : Below w3.drew.heap.size w3.drew W) => l10Least_any W n _ l (hvd.keep h) hpos)
    have K1d : Blk w3.drew w.heap.size 26 #[.int .i64 n, .slice a l.length c] := K1
    have K3d : Blk w3.drew (w.heap.size + 1) 30 #[.int .i64 0, .int .i64 0, .slice none 0 0, .int .i64 0, .slice none 0 0, .int .i64 0, .slice none 0 0, .int .i64 0, .int .i64 0, .slice none 0 0] := K3
    have Bd : Below w.heap.size w w3.drew := B.drew
    have zd : w.heap.size + 1 < w3.drew.heap.size := K3d.lt
    have G1 := K1.cell
    go_wp2_with fail
    go_region_law
      (first
        | (go_simp; go_at_call 60; with_reducible refine HC1.out.mono ?_; rintro e w5 ⟨p5, i5, q5, rfl, o5, b5⟩; have K15 := K1d.keep b5; have G15 := K15.cell)
        | (go_simp; go_at_call 77; with_reducible refine (HLE.out w5 b5).mono ?_; rintro e w6 ⟨rfl, b6⟩; have K36 := (K3d.keep b5).keep b6; have G36 := K36.cell; have F36 := K36.frozen))
    all_goals
      have B5 := Bd.after b5 Bd.size
      have B6 := B5.after b6 B5.size
      have x5 := (o5.toW.mono (B' := w.heap.size + 1 + 1) (by omega)).keep b6
      have x0 : OwnW 3 (w.heap.size + 1 + 1) w6 (.slice p0 i0 q0) (dvL n l) := ((o0.drewN 1).toW.keep b5).keep b6
      have ap50 : Apart (.slice p5 i5 q5) (.slice p0 i0 q0) := (Apart.of_lt (o0.drewN 1).toW o5.toW (Nat.le_refl _)).symm
      go_wp2
      refine post_named ?_
      intro Wf hWf
      have K3f : Blk Wf (w.heap.size + 1) 30 #[.int .i64 1, .int .i64 n, .slice p5 i5 q5, .int .i64 0, .slice none 0 0, .int .i64 0, .slice none 0 0, .int .i64 (lstN l), .int .i64 (lmN n l), .slice p0 i0 q0] := by
        rw [hWf]
        have := ((((((((((K36.set 0 (.int .i64 1)).set 1 (.int .i64 n)).set 2 (.slice p5 i5 q5)).set 3 (.int .i64 0)).set 4 (.slice none 0 0)).set 5 (.int .i64 0)).set 6 (.slice none 0 0)).set 7 (.int .i64 (lstN l))).set 8 (.int .i64 (lmN n l))).set 9 (.slice p0 i0 q0))
        simpa using this
      have hg : w6.grownBy Wf (some (w.heap.size + 1)) := by
        rw [hWf]
        exact (grow_set (grow_set (grow_set (grow_set (grow_set (grow_set (grow_set (grow_set (grow_set (grow_set (World.grownBy.refl _ _) 0 _) 1 _) 2 _) 3 _) 4 _) 5 _) 6 _) 7 _) 8 _) 9 _)
      have Bf : Below w.heap.size w Wf := B6.grown hg B6.size (fun q hq => by have := Option.some.inj hq; omega)
      have f5 := (x5.grow hg (fun q hq hq2 => by have := Option.some.inj hq; have := (x5.lt q hq2).1; omega)).mono (B' := w.heap.size) (by omega)
      have f0 := (x0.grow hg (fun q hq hq2 => by have := Option.some.inj hq; have := (x0.lt q hq2).1; omega)).mono (B' := w.heap.size) (by omega)
      have Gf := K3f.cell
      clear hWf
      obtain ⟨hK, hA, hL, hP, hS, hE, hB⟩ := H.out
      exact bodyPost_ret (v := .tuple #[.agg #[.int .i64 1, .int .i64 n, .slice p5 i5 q5, .int .i64 0, .slice none 0 0, .int .i64 0, .slice none 0 0, .int .i64 (lstN l), .int .i64 (lmN n l), .slice p0 i0 q0], .bool true]) (by simp [results, Try.results17, go_sem, Gf]) rfl
        ⟨p5, i5, q5, none, 0, 0, none, 0, 0, p0, i0, q0, by rw [hK, hA, hP, hS, hB], by rw [hL]; exact f5, OwnW.nil _ _ _, OwnW.nil _ _ _, by rw [hE]; exact f0, ⟨(Apart.nil _ _ _).symm, (Apart.nil _ _ _).symm, ap50, Apart.nil _ _ _, Apart.nil _ _ _, Apart.nil _ _ _⟩, Bf⟩
end Go.Proofs.Ytmlpcohailjccaa
