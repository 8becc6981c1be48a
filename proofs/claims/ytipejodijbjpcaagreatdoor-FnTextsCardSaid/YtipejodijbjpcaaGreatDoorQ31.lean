/- Claims of functions. Sorted lists without repetition: the plain law. Families of sorted sets: the library's contracts. Families of given sets. -/
import Derived.Test.YtipejodijbjpcaaGreatDoorQ30
import Derived.Lib.SlicesCompact
section
namespace Go.Proofs.YtipejodijbjpcaaGreatDoor
open Go.RowKit Go.G5

def cfK (n : Int) (l : List Int) : Int := if isGrB n l then (if violB n l then 2 else 1) else 0
def cfA (n : Int) (l : List Int) : Int := if isGrB n l then n else 0
def cfL (n : Int) (l : List Int) : List Int := if isGrB n l then l else []
def cfP (n : Int) (l : List Int) : Int := if isGrB n l then (if violB n l then 0 else lstN l) else 0
def cfS (n : Int) (l : List Int) : Int := if isGrB n l then (if violB n l then 0 else lmN n l) else 0
def cfE (n : Int) (l : List Int) : List Int := if isGrB n l then (if violB n l then violL n l else dvL n l) else []
theorem cfL_len (n : Int) (l : List Int) (h : l.length ≤ 1048576) : (cfL n l).length ≤ 1048576 := by unfold cfL; split <;> simp_all
set_option maxHeartbeats 4000000 in
set_option maxRecDepth 100000 in
theorem claimFunI_c (w : World) (n : Int) (v : Value) (l : List Int) (hv : Ints w v l) (hl : l.length ≤ 1048576) :
    Calls Tryz.prog 26 #[.agg #[.int .i64 n, v]] w fun e w' => ∃ p0 i0 q0 p1 i1 q1 p2 i2 q2 p3 i3 q3, e = .returned (.tuple #[.agg #[.int .i64 (cfK n l), .int .i64 (cfA n l), .slice p0 i0 q0, .int .i64 0, .slice p1 i1 q1, .int .i64 0, .slice p2 i2 q2, .int .i64 (cfP n l), .int .i64 (cfS n l), .slice p3 i3 q3], .bool (isGrB n l)]) ∧ OwnW 3 w.heap.size w' (.slice p0 i0 q0) (cfL n l) ∧ OwnW 3 w.heap.size w' (.slice p1 i1 q1) [] ∧ OwnW 3 w.heap.size w' (.slice p2 i2 q2) [] ∧ OwnW 3 w.heap.size w' (.slice p3 i3 q3) (cfE n l) ∧ (Apart (.slice p0 i0 q0) (.slice p1 i1 q1) ∧ Apart (.slice p0 i0 q0) (.slice p2 i2 q2) ∧ Apart (.slice p0 i0 q0) (.slice p3 i3 q3) ∧ Apart (.slice p1 i1 q1) (.slice p2 i2 q2) ∧ Apart (.slice p1 i1 q1) (.slice p3 i3 q3) ∧ Apart (.slice p2 i2 q2) (.slice p3 i3 q3)) ∧ Below w.heap.size w w' := by
  obtain ⟨a, c, rfl⟩ := hv.shape
  go_enter Tryz.func26, Tryz.ntmps26
  go_wp2_with fail
  refine calls_named ?_
  intro V hV
  have B : Below w.heap.size w V := by rw [hV]; exact bl2 _ _ _
  have K1 : Blk V w.heap.size 32 #[.int .i64 n, .slice a l.length c] := by rw [hV]; exact (Blk.new _ _ _).alloc _
  have K3 : Blk V (w.heap.size + 1) 49 #[.int .i64 0, .int .i64 0, .slice none 0 0, .int .i64 0, .slice none 0 0, .int .i64 0, .slice none 0 0, .int .i64 0, .int .i64 0, .slice none 0 0] := by rw [hV]; have := Blk.new (w.alloc (.cells #[.int .i64 n, .slice a l.length c] 32)) 49 #[.int .i64 0, .int .i64 0, .slice none 0 0, .int .i64 0, .slice none 0 0, .int .i64 0, .slice none 0 0, .int .i64 0, .int .i64 0, .slice none 0 0]; simpa using this
  clear hV
  refine (isGrI_any n l _ V (hv.below B (Nat.le_refl _))).mono ?_
  rintro e w1 ⟨rfl, b1⟩
  have K1 := K1.keep b1
  have K3 := K3.keep b1
  have B := B.after b1 B.size
  have z3 : w.heap.size + 1 < w1.heap.size := K3.lt
  cases hf : isGrB n l with
  | false =>
    have hK : cfK n l = 0 := by unfold cfK; rw [hf]; rfl
    have hA : cfA n l = 0 := by unfold cfA; rw [hf]; rfl
    have hL : cfL n l = [] := by unfold cfL; rw [hf]; rfl
    have hP : cfP n l = 0 := by unfold cfP; rw [hf]; rfl
    have hS : cfS n l = 0 := by unfold cfS; rw [hf]; rfl
    have hE : cfE n l = [] := by unfold cfE; rw [hf]; rfl
    have H := Lib.hid (And.intro hK (And.intro hA (And.intro hL (And.intro hP (And.intro hS (And.intro hE hf))))))
    clear hK hA hL hP hS hE hf
    have G3 := K3.cell
    have F3 := K3.frozen
    go_wp2
    refine post_named ?_
    intro Wf hWf
    have K3f : Blk Wf (w.heap.size + 1) 49 #[.int .i64 0, .int .i64 0, .slice none 0 0, .int .i64 0, .slice none 0 0, .int .i64 0, .slice none 0 0, .int .i64 0, .int .i64 0, .slice none 0 0] := by
      rw [hWf]
      have := ((((((((((K3.set 0 (.int .i64 0)).set 1 (.int .i64 0)).set 2 (.slice none 0 0)).set 3 (.int .i64 0)).set 4 (.slice none 0 0)).set 5 (.int .i64 0)).set 6 (.slice none 0 0)).set 7 (.int .i64 0)).set 8 (.int .i64 0)).set 9 (.slice none 0 0))
      simpa using this
    have hg : w1.grownBy Wf (some (w.heap.size + 1)) := by
      rw [hWf]
      exact (grow_set (grow_set (grow_set (grow_set (grow_set (grow_set (grow_set (grow_set (grow_set (grow_set (World.grownBy.refl _ _) 0 _) 1 _) 2 _) 3 _) 4 _) 5 _) 6 _) 7 _) 8 _) 9 _)
    have Bf : Below w.heap.size w Wf := B.grown hg B.size (fun q hq => by have := Option.some.inj hq; omega)
    have Gf := K3f.cell
    clear hWf
    obtain ⟨hK, hA, hL, hP, hS, hE, hB⟩ := H.out
    exact bodyPost_ret (v := .tuple #[.agg #[.int .i64 0, .int .i64 0, .slice none 0 0, .int .i64 0, .slice none 0 0, .int .i64 0, .slice none 0 0, .int .i64 0, .int .i64 0, .slice none 0 0], .bool false]) (by simp [results, Tryz.results26, go_sem, Gf]) rfl
      ⟨none, 0, 0, none, 0, 0, none, 0, 0, none, 0, 0, by rw [hK, hA, hP, hS, hB], by rw [hL]; exact OwnW.nil _ _ _, OwnW.nil _ _ _, OwnW.nil _ _ _, by rw [hE]; exact OwnW.nil _ _ _, ⟨Apart.nil _ _ _, Apart.nil _ _ _, Apart.nil _ _ _, Apart.nil _ _ _, Apart.nil _ _ _, Apart.nil _ _ _⟩, Bf⟩
  | true =>
  have G1 := K1.cell
  go_wp2_with fail
  clear G1
  refine (violI_c w1 n _ l (hv.below B (Nat.le_refl _)) hl).mono ?_
  rintro e wl ⟨p0, i0, q0, rfl, o0, b2⟩
  have K1 := K1.keep b2
  have K3 := K3.keep b2
  have B := B.after b2 B.size
  have o0 := o0.mono (B' := w.heap.size + 1 + 1) z3
  have z3 : w.heap.size + 1 < wl.heap.size := K3.lt
  cases hvb : violB n l with
  | true =>
    have hK : cfK n l = 2 := by unfold cfK; rw [hf, hvb]; rfl
    have hA : cfA n l = n := by unfold cfA; rw [hf]; rfl
    have hL : cfL n l = l := by unfold cfL; rw [hf]; rfl
    have hP : cfP n l = 0 := by unfold cfP; rw [hf, hvb]; rfl
    have hS : cfS n l = 0 := by unfold cfS; rw [hf, hvb]; rfl
    have hE : cfE n l = violL n l := by unfold cfE; rw [hf, hvb]; rfl
    have H := Lib.hid (And.intro hK (And.intro hA (And.intro hL (And.intro hP (And.intro hS (And.intro hE hf))))))
    clear hK hA hL hP hS hE hf hvb
    have G1 := K1.cell
    go_wp2_with fail
    clear G1
    refine (copyFun_any wl n _ l (hv.below B (Nat.le_refl _)) hl).mono ?_
    rintro e w5 ⟨p5, i5, q5, rfl, o5, b5⟩
    have K35 := K3.keep b5
    have G35 := K35.cell
    have F35 := K35.frozen
    have B5 := B.after b5 B.size
    have x5 := o5.toW.mono (B' := w.heap.size + 1 + 1) (by omega)
    have x0 : OwnW 3 (w.heap.size + 1 + 1) w5 (.slice p0 i0 q0) (violL n l) := o0.keep b5
    have ap50 : Apart (.slice p5 i5 q5) (.slice p0 i0 q0) := (Apart.of_lt o0 o5.toW (Nat.le_refl _)).symm
    go_wp2
    refine post_named ?_
    intro Wf hWf
    have K3f : Blk Wf (w.heap.size + 1) 49 #[.int .i64 2, .int .i64 n, .slice p5 i5 q5, .int .i64 0, .slice none 0 0, .int .i64 0, .slice none 0 0, .int .i64 0, .int .i64 0, .slice p0 i0 q0] := by
      rw [hWf]
      have := ((((((((((K35.set 0 (.int .i64 2)).set 1 (.int .i64 n)).set 2 (.slice p5 i5 q5)).set 3 (.int .i64 0)).set 4 (.slice none 0 0)).set 5 (.int .i64 0)).set 6 (.slice none 0 0)).set 7 (.int .i64 0)).set 8 (.int .i64 0)).set 9 (.slice p0 i0 q0))
      simpa using this
    have hg : w5.grownBy Wf (some (w.heap.size + 1)) := by
      rw [hWf]
      exact (grow_set (grow_set (grow_set (grow_set (grow_set (grow_set (grow_set (grow_set (grow_set (grow_set (World.grownBy.refl _ _) 0 _) 1 _) 2 _) 3 _) 4 _) 5 _) 6 _) 7 _) 8 _) 9 _)
    have Bf : Below w.heap.size w Wf := B5.grown hg B5.size (fun q hq => by have := Option.some.inj hq; omega)
    have f5 := (x5.grow hg (fun q hq hq2 => by have := Option.some.inj hq; have := (x5.lt q hq2).1; omega)).mono (B' := w.heap.size) (by omega)
    have f0 := (x0.grow hg (fun q hq hq2 => by have := Option.some.inj hq; have := (x0.lt q hq2).1; omega)).mono (B' := w.heap.size) (by omega)
    have Gf := K3f.cell
    clear hWf
    obtain ⟨hK, hA, hL, hP, hS, hE, hB⟩ := H.out
    exact bodyPost_ret (v := .tuple #[.agg #[.int .i64 2, .int .i64 n, .slice p5 i5 q5, .int .i64 0, .slice none 0 0, .int .i64 0, .slice none 0 0, .int .i64 0, .int .i64 0, .slice p0 i0 q0], .bool true]) (by simp [results, Tryz.results26, go_sem, Gf]) rfl
      ⟨p5, i5, q5, none, 0, 0, none, 0, 0, p0, i0, q0, by rw [hK, hA, hP, hS, hB], by rw [hL]; exact f5, OwnW.nil _ _ _, OwnW.nil _ _ _, by rw [hE]; exact f0, ⟨(Apart.nil _ _ _).symm, (Apart.nil _ _ _).symm, ap50, Apart.nil _ _ _, Apart.nil _ _ _, Apart.nil _ _ _⟩, Bf⟩
  | false =>
    have hK : cfK n l = 1 := by unfold cfK; rw [hf, hvb]; rfl
    have hA : cfA n l = n := by unfold cfA; rw [hf]; rfl
    have hL : cfL n l = l := by unfold cfL; rw [hf]; rfl
    have hP : cfP n l = lstN l := by unfold cfP; rw [hf, hvb]; rfl
    have hS : cfS n l = lmN n l := by unfold cfS; rw [hf, hvb]; rfl
    have hE : cfE n l = dvL n l := by unfold cfE; rw [hf, hvb]; rfl
    have H := Lib.hid (And.intro hK (And.intro hA (And.intro hL (And.intro hP (And.intro hS (And.intro hE hf))))))
    have hmn : minN n l = lstN l := by unfold minN; rw [grOk hf]; rfl
    clear hK hA hL hP hS hE hf hvb
    have G1 := K1.cell
    go_wp2_with fail
    clear G1
    refine (copyFun_any wl n _ l (hv.below B (Nat.le_refl _)) hl).mono ?_
    rintro e w5 ⟨p5, i5, q5, rfl, o5, b5⟩
    have K1 := K1.keep b5
    have K3 := K3.keep b5
    have B := B.after b5 B.size
    have o5 := o5.mono (B' := w.heap.size + 1 + 1) z3
    have z5 : w.heap.size + 1 < w5.heap.size := K3.lt
    have o5w := o5
    have G1 := (K1.alloc (.cells #[.int .i64 1, .int .i64 n, .slice p5 i5 q5, .int .i64 0, .slice none 0 0, .int .i64 0, .slice none 0 0, .int .i64 0, .int .i64 0, .slice none 0 0] 49)).cell
    go_wp2_with fail
    clear G1
    refine calls_named ?_
    intro V2 hV2
    obtain ⟨gc, hgc⟩ : ∃ g, g = w5.heap.size := ⟨_, rfl⟩
    have KC : Blk V2 gc 49 #[.int .i64 1, .int .i64 n, .slice p5 i5 q5, .int .i64 0, .slice none 0 0, .int .i64 0, .slice none 0 0, .int .i64 0, .int .i64 0, .slice none 0 0] := by rw [hV2, hgc]; exact Blk.new _ _ _
    have bv : Below w5.heap.size w5 V2 := by rw [hV2]; exact bl1 _ _
    have K1 := K1.keep bv
    have K3 := K3.keep bv
    have B := B.after bv B.size
    have o5 := o5.keep bv
    have zc : w.heap.size + 1 < gc := by omega
    have hgo : some gc ≠ (Value.slice p5 i5 q5).ownBlock := fun h => by have := (o5w.lt gc h.symm).2; omega
    rw [← hgc]
    clear hV2 hgc z5
    refine (minimumI_any V2 n _ l (hv.below B (Nat.le_refl _))).mono ?_
    rintro e w6 ⟨rfl, b6⟩
    have K1 := K1.keep b6
    have K3 := K3.keep b6
    have KC := KC.keep b6
    have B := B.after b6 B.size
    have o5 := o5.keep b6
    simp only [hmn]
    clear hmn
    have G1 := (K1.far (p := ⟨gc, 7, none⟩) (by show w.heap.size ≠ gc; omega) (.int .i64 (lstN l))).cell
    have GC := KC.cell
    have FC := KC.frozen
    go_wp2_with fail
    clear G1 GC FC
    refine calls_named ?_
    intro V3 hV3
    have bs : w6.grownBy V3 (some gc) := by rw [hV3]; exact grow_set (World.grownBy.refl _ _) 7 _
    have K1 := K1.grow bs (by simp; omega)
    have K3 := K3.grow bs (by simp; omega)
    have KC : Blk V3 gc 49 #[.int .i64 1, .int .i64 n, .slice p5 i5 q5, .int .i64 0, .slice none 0 0, .int .i64 0, .slice none 0 0, .int .i64 (lstN l), .int .i64 0, .slice none 0 0] := by rw [hV3]; have := KC.set 7 (.int .i64 (lstN l)); simpa using this
    have B := B.grown bs B.size (fun q hq => by have := Option.some.inj hq; omega)
    have o5 := o5.grow bs (fun k hk h => hgo (by rw [h]; exact hk))
    clear hV3
    refine (leastMinI_any V3 n _ l (hv.below B (Nat.le_refl _)) hl).mono ?_
    rintro e w7 ⟨rfl, b7⟩
    have K1 := K1.keep b7
    have K3 := K3.keep b7
    have KC := KC.keep b7
    have B := B.after b7 B.size
    have o5 := o5.keep b7
    have G1 := (K1.far (p := ⟨gc, 8, none⟩) (by show w.heap.size ≠ gc; omega) (.int .i64 (lmN n l))).cell
    have GC := KC.cell
    have FC := KC.frozen
    go_wp2_with fail
    clear G1 GC FC
    refine calls_named ?_
    intro V4 hV4
    have bs : w7.grownBy V4 (some gc) := by rw [hV4]; exact grow_set (World.grownBy.refl _ _) 8 _
    have K1 := K1.grow bs (by simp; omega)
    have K3 := K3.grow bs (by simp; omega)
    have KC : Blk V4 gc 49 #[.int .i64 1, .int .i64 n, .slice p5 i5 q5, .int .i64 0, .slice none 0 0, .int .i64 0, .slice none 0 0, .int .i64 (lstN l), .int .i64 (lmN n l), .slice none 0 0] := by rw [hV4]; have := KC.set 8 (.int .i64 (lmN n l)); simpa using this
    have B := B.grown bs B.size (fun q hq => by have := Option.some.inj hq; omega)
    have o5 := o5.grow bs (fun k hk h => hgo (by rw [h]; exact hk))
    clear hV4
    refine (dualI_any V4 n _ l (hv.below B (Nat.le_refl _)) hl).mono ?_
    rintro e w8 ⟨p0, i0, q0, rfl, o0, b8⟩
    have zc4 : gc < V4.heap.size := KC.lt
    have ap50 : Apart (.slice p5 i5 q5) (.slice p0 i0 q0) := Apart.of_lt o5.toW o0.toW (Nat.le_refl _)
    have K3 := K3.keep b8
    have KC := KC.keep b8
    have B := B.after b8 B.size
    have o5 := o5.keep b8
    have hgo0 : some gc ≠ (Value.slice p0 i0 q0).ownBlock := fun h => by have := (o0.lt gc h.symm).1; omega
    have o0 := o0.mono (B' := w.heap.size + 1 + 1) (by omega)
    have K9 : Blk (w8.setCell ⟨gc, 9, none⟩ (.slice p0 i0 q0)) gc 49 #[.int .i64 1, .int .i64 n, .slice p5 i5 q5, .int .i64 0, .slice none 0 0, .int .i64 0, .slice none 0 0, .int .i64 (lstN l), .int .i64 (lmN n l), .slice p0 i0 q0] := by have := KC.set 9 (.slice p0 i0 q0); simpa using this
    have K39 := K3.far (p := ⟨gc, 9, none⟩) (by show w.heap.size + 1 ≠ gc; omega) (.slice p0 i0 q0)
    have b9 : w8.grownBy (w8.setCell ⟨gc, 9, none⟩ (.slice p0 i0 q0)) (some gc) := grow_set (World.grownBy.refl _ _) 9 _
    have B9 := B.grown b9 B.size (fun q hq => by have := Option.some.inj hq; omega)
    have x5 := (o5.grow b9 (fun k hk h => hgo (by rw [h]; exact hk))).toW
    have x0 := (o0.grow b9 (fun k hk h => hgo0 (by rw [h]; exact hk))).toW
    have GC := KC.cell
    have FC := KC.frozen
    have G9 := K9.cell
    have G39 := K39.cell
    have F39 := K39.frozen
    go_wp2
    refine post_named ?_
    intro Wf hWf
    have K3f : Blk Wf (w.heap.size + 1) 49 #[.int .i64 1, .int .i64 n, .slice p5 i5 q5, .int .i64 0, .slice none 0 0, .int .i64 0, .slice none 0 0, .int .i64 (lstN l), .int .i64 (lmN n l), .slice p0 i0 q0] := by
      rw [hWf]
      have := ((((((((((K39.set 0 (.int .i64 1)).set 1 (.int .i64 n)).set 2 (.slice p5 i5 q5)).set 3 (.int .i64 0)).set 4 (.slice none 0 0)).set 5 (.int .i64 0)).set 6 (.slice none 0 0)).set 7 (.int .i64 (lstN l))).set 8 (.int .i64 (lmN n l))).set 9 (.slice p0 i0 q0))
      simpa using this
    have hg : (w8.setCell ⟨gc, 9, none⟩ (.slice p0 i0 q0)).grownBy Wf (some (w.heap.size + 1)) := by
      rw [hWf]
      exact (grow_set (grow_set (grow_set (grow_set (grow_set (grow_set (grow_set (grow_set (grow_set (grow_set (World.grownBy.refl _ _) 0 _) 1 _) 2 _) 3 _) 4 _) 5 _) 6 _) 7 _) 8 _) 9 _)
    have Bf : Below w.heap.size w Wf := B9.grown hg B9.size (fun q hq => by have := Option.some.inj hq; omega)
    have f5 := (x5.grow hg (fun q hq hq2 => by have := Option.some.inj hq; have := (x5.lt q hq2).1; omega)).mono (B' := w.heap.size) (by omega)
    have f0 := (x0.grow hg (fun q hq hq2 => by have := Option.some.inj hq; have := (x0.lt q hq2).1; omega)).mono (B' := w.heap.size) (by omega)
    have Gf := K3f.cell
    clear hWf
    obtain ⟨hK, hA, hL, hP, hS, hE, hB⟩ := H.out
    exact bodyPost_ret (v := .tuple #[.agg #[.int .i64 1, .int .i64 n, .slice p5 i5 q5, .int .i64 0, .slice none 0 0, .int .i64 0, .slice none 0 0, .int .i64 (lstN l), .int .i64 (lmN n l), .slice p0 i0 q0], .bool true]) (by simp [results, Tryz.results26, go_sem, Gf]) rfl
      ⟨p5, i5, q5, none, 0, 0, none, 0, 0, p0, i0, q0, by rw [hK, hA, hP, hS, hB], by rw [hL]; exact f5, OwnW.nil _ _ _, OwnW.nil _ _ _, by rw [hE]; exact f0, ⟨(Apart.nil _ _ _).symm, (Apart.nil _ _ _).symm, ap50, Apart.nil _ _ _, Apart.nil _ _ _, Apart.nil _ _ _⟩, Bf⟩
end Go.Proofs.YtipejodijbjpcaaGreatDoor
end
section
namespace Go.Proofs.YtipejodijbjpcaaGreatDoor
open Go.RowKit Go.G5

/-! the plain law of sort and compact -/
def gatherL (l : List Int) : List Int := Lib.compact (l.mergeSort fun x y => decide (x ≤ y))
theorem compact_asc (d : Array Int) (mono : ∀ i j, i ≤ j → j < d.size → d[i]! ≤ d[j]!) : ∀ m, m ≤ d.size →
    (Lib.compactUpTo d m).Pairwise (· < ·) ∧ (∀ x ∈ Lib.compactUpTo d m, ∃ j, j < m ∧ x = d[j]!) ∧ (∀ j, j < m → d[j]! ∈ Lib.compactUpTo d m) := by
  intro m
  induction m with
  | zero => intro _; simp [Lib.compactUpTo]
  | succ m ih =>
    intro hm
    obtain ⟨h1, h2, h3⟩ := ih (by omega)
    rw [Lib.compactUpTo_succ]
    by_cases hk : Lib.keeps d m = true
    · rw [if_pos hk]
      have hlt : ∀ x ∈ Lib.compactUpTo d m, x < d[m]! := by
        intro x hx
        obtain ⟨j, hj, rfl⟩ := h2 x hx
        have e1 := mono j (m - 1) (by omega) (by omega)
        have e2 := mono (m - 1) m (by omega) (by omega)
        unfold Lib.keeps at hk
        have hk' := of_decide_eq_true hk
        rcases hk' with h0 | hne
        · omega
        · omega
      refine ⟨?_, ?_, ?_⟩
      · rw [List.pairwise_append]
        exact ⟨h1, by simp, fun a ha b hb => by simp only [List.mem_singleton] at hb; rw [hb]; exact hlt a ha⟩
      · intro x hx
        rcases List.mem_append.1 hx with hx | hx
        · obtain ⟨j, hj, e⟩ := h2 x hx
          exact ⟨j, by omega, e⟩
        · simp only [List.mem_singleton] at hx
          exact ⟨m, by omega, hx⟩
      · intro j hj
        by_cases hjm : j < m
        · exact List.mem_append.2 (.inl (h3 j hjm))
        · have : j = m := by omega
          subst this
          exact List.mem_append.2 (.inr (by simp))
    · rw [if_neg hk, List.append_nil]
      refine ⟨h1, fun x hx => ?_, fun j hj => ?_⟩
      · obtain ⟨j, hj, e⟩ := h2 x hx
        exact ⟨j, by omega, e⟩
      · by_cases hjm : j < m
        · exact h3 j hjm
        · have : j = m := by omega
          subst this
          unfold Lib.keeps at hk
          have hk' : ¬ (j = 0 ∨ d[j]! ≠ d[j - 1]!) := fun h => hk (decide_eq_true h)
          have h0 : j ≠ 0 := fun h => hk' (.inl h)
          have he : d[j]! = d[j - 1]! := Classical.byContradiction fun h => hk' (.inr h)
          rw [he]
          exact h3 (j - 1) (by omega)
theorem sort_mono (l : List Int) : ∀ i j, i ≤ j → j < (l.mergeSort fun x y => decide (x ≤ y)).toArray.size → (l.mergeSort fun x y => decide (x ≤ y)).toArray[i]! ≤ (l.mergeSort fun x y => decide (x ≤ y)).toArray[j]! := by
  have hp : (l.mergeSort fun x y => decide (x ≤ y)).Pairwise (fun a b => decide (a ≤ b) = true) :=
    List.pairwise_mergeSort (le := fun x y : Int => decide (x ≤ y)) (fun a b c h1 h2 => decide_eq_true (Int.le_trans (of_decide_eq_true h1) (of_decide_eq_true h2))) (fun a b => by
      rcases Int.le_total a b with h | h
      · show (decide (a ≤ b) || decide (b ≤ a)) = true
        rw [decide_eq_true h]; rfl
      · show (decide (a ≤ b) || decide (b ≤ a)) = true
        rw [decide_eq_true h]; simp) l
  generalize l.mergeSort (fun x y => decide (x ≤ y)) = s at *
  intro i j hij hj
  rw [getElem!_pos s.toArray i (by omega), getElem!_pos s.toArray j hj]
  simp only [List.getElem_toArray]
  rcases Nat.lt_or_ge i j with h | h
  · exact of_decide_eq_true (List.pairwise_iff_getElem.1 hp i j (by simpa using (show i < s.toArray.size by omega)) (by simpa using hj) h)
  · have : i = j := by omega
    subst this
    exact Int.le_refl _
theorem gatherL_asc (l : List Int) : (gatherL l).Pairwise (· < ·) := by
  have := (compact_asc _ (sort_mono l) _ (Nat.le_refl _)).1
  simpa [gatherL, Lib.compact] using this
theorem gatherL_mem (l : List Int) (x : Int) : x ∈ gatherL l ↔ x ∈ l := by
  have h := compact_asc _ (sort_mono l) _ (Nat.le_refl _)
  have hm : ∀ y, y ∈ (l.mergeSort fun x y => decide (x ≤ y)) ↔ y ∈ l := fun y => List.mem_mergeSort
  have e : gatherL l = Lib.compactUpTo (l.mergeSort fun x y => decide (x ≤ y)).toArray (l.mergeSort fun x y => decide (x ≤ y)).toArray.size := by simp [gatherL, Lib.compact]
  rw [e, ← hm]
  generalize l.mergeSort (fun x y => decide (x ≤ y)) = s at *
  constructor
  · intro hx
    obtain ⟨j, hj, rfl⟩ := h.2.1 x hx
    rw [getElem!_pos s.toArray j hj]
    simp
  · intro hx
    obtain ⟨j, hj, rfl⟩ := List.getElem_of_mem hx
    have := h.2.2 j (by simpa using hj)
    rw [getElem!_pos s.toArray j (by simpa using hj)] at this
    simpa using this
/-- strictly ascending lists of the same numbers are the same -/
theorem asc_ext : ∀ (a b : List Int), a.Pairwise (· < ·) → b.Pairwise (· < ·) → (∀ x, x ∈ a ↔ x ∈ b) → a = b := by
  intro a
  induction a with
  | nil =>
    intro b _ _ h
    cases b with
    | nil => rfl
    | cons y b => have := (h y).2 (by simp); simp at this
  | cons x a ih =>
    intro b ha hb h
    cases b with
    | nil => have := (h x).1 (by simp); simp at this
    | cons y b =>
      obtain ⟨ha1, ha2⟩ := List.pairwise_cons.1 ha
      obtain ⟨hb1, hb2⟩ := List.pairwise_cons.1 hb
      have hxy : x = y := by
        have h1 := (h x).1 (by simp)
        have h2 := (h y).2 (by simp)
        rcases List.mem_cons.1 h1 with h1 | h1
        · exact h1
        · rcases List.mem_cons.1 h2 with h2 | h2
          · exact h2.symm
          · have := hb1 x h1; have := ha1 y h2; omega
      subst hxy
      rw [ih b ha2 hb2 fun z => ?_]
      constructor
      · intro hz
        rcases List.mem_cons.1 ((h z).1 (List.mem_cons.2 (.inr hz))) with e | e
        · subst e; have := ha1 z hz; omega
        · exact e
      · intro hz
        rcases List.mem_cons.1 ((h z).2 (List.mem_cons.2 (.inr hz))) with e | e
        · subst e; have := hb1 z hz; omega
        · exact e
theorem gatherL_id (l : List Int) (h : l.Pairwise (· < ·)) : gatherL l = l := asc_ext _ _ (gatherL_asc l) h (gatherL_mem l)
theorem compact_len (d : Array Int) (m : Nat) : (Lib.compactUpTo d m).length ≤ m := by
  unfold Lib.compactUpTo
  rw [List.length_map]
  have := List.length_filter_le (Lib.keeps d) (List.range m)
  simpa using this
theorem gatherL_len (l : List Int) : (gatherL l).length ≤ l.length := by
  have := compact_len (l.mergeSort fun x y => decide (x ≤ y)).toArray (l.mergeSort fun x y => decide (x ≤ y)).length
  unfold gatherL Lib.compact
  simpa using this

/-! the library's functions in these words -/
end Go.Proofs.YtipejodijbjpcaaGreatDoor
end
section
namespace Go.Proofs.YtipejodijbjpcaaGreatDoor
open Go.RowKit Go.G5

theorem sort_any (B : Nat) (v : Value) (l : List Int) (w : World) (h : OwnI 3 B w v l) (hl : l.length ≤ 1048576) :
    Calls Tryz.prog 263 #[v] w fun e w' => e = .returned (.tuple #[]) ∧ OwnI 3 B w' v (l.mergeSort fun x y => decide (x ≤ y)) ∧ w.grownBy w' v.ownBlock := by
  have hr : ∀ x ∈ (l.mergeSort fun x y => decide (x ≤ y)), InR x := fun x hx => h.2 x (List.mem_mergeSort.1 hx)
  rcases h.cases with ⟨rfl, rfl⟩ | ⟨g, cap, rfl, hB, hg⟩
  · refine (sh_slices_Sort_int_none none 0 w).mono ?_
    rintro e w' ⟨he, rfl⟩
    exact ⟨he, by simpa using h, World.grownBy.refl _ _⟩
  · refine (sh_slices_Sort_int g 0 cap l w (h.holds rfl) hg (by omega)).mono ?_
    rintro e w' ⟨he, n, os, rfl⟩
    have := h.put (l.mergeSort fun x y => decide (x ≤ y)) (List.length_mergeSort _) hr n os
    exact ⟨he, this.1, this.2⟩
theorem compact_any (B : Nat) (v : Value) (l : List Int) (w : World) (h : OwnI 3 B w v l) (hl : l.length ≤ 1048576) :
    Calls Tryz.prog 265 #[v] w fun e w' => ∃ ad i c, e = .returned (.slice ad i c) ∧ OwnI 3 B w' (.slice ad i c) (Lib.compact l) ∧ w.grownBy w' v.ownBlock := by
  rcases h.cases with ⟨rfl, rfl⟩ | ⟨g, cap, rfl, hB, hg⟩
  · refine (sh_slices_Compact_int_empty none 0 w).mono ?_
    rintro e w' ⟨he, rfl⟩
    exact ⟨none, 0, 0, he, h, World.grownBy.refl _ _⟩
  · have hcap := h.ints.capLe
    have hcl : (Lib.compact l).length ≤ l.length := compact_len l.toArray l.length
    refine (sh_slices_Compact_int g 0 cap l w (h.holds rfl) (by omega) hcap.2.1).mono ?_
    rintro e w' ⟨he, q, rfl⟩
    have hmem : ∀ x ∈ Lib.compact l ++ List.replicate (l.length - (Lib.compact l).length) 0, InR x := by
      intro x hx
      rcases List.mem_append.1 hx with hx | hx
      · unfold Lib.compact Lib.compactUpTo at hx
        obtain ⟨j, hj, rfl⟩ := List.mem_map.1 hx
        have hj' := List.mem_range.1 (List.mem_filter.1 hj).1
        rw [getElem!_pos l.toArray j (by simpa using hj')]
        exact h.2 _ (by simp)
      · have := List.eq_of_mem_replicate hx; subst this; exact ⟨by omega, by omega⟩
    have hp := h.put (Lib.compact l ++ List.replicate (l.length - (Lib.compact l).length) 0) (by simp; omega) hmem q #[]
    rw [Go.Sort.grow_empty] at hp
    have hc := hp.1
    have hcut := OwnI.cut (n := l.length) hc (Lib.compact l).length (by simp)
    rw [List.take_left] at hcut
    exact ⟨_, _, _, he, hcut, hp.2⟩
theorem clip_any (B : Nat) (v : Value) (l : List Int) (w : World) (h : OwnI 3 B w v l) (hl : l.length ≤ 1048576) :
    Calls Tryz.prog 264 #[v] w fun e w' => ∃ ad i c, e = .returned (.slice ad i c) ∧ OwnW 3 B w' (.slice ad i c) l ∧ w = w' := by
  have hW := h.toW
  rcases h.cases with ⟨rfl, rfl⟩ | ⟨g, cap, rfl, hB, hg⟩
  · go_enter Tryz.func264, Tryz.ntmps264
    go_wp2
    go_ret
    exact ⟨none, 0, 0, rfl, hW, rfl⟩
  · have hcap := h.ints.capLe
    have hc2 := hcap.2.1
    have hc3 := hcap.2.2
    unfold maxLen at hc3
    clear hcap
    go_enter Tryz.func264, Tryz.ntmps264
    go_wp2
    go_ret
    refine ⟨some ⟨g, 0, none⟩, l.length, l.length, ?_, ?_, rfl⟩
    · rfl
    · refine ⟨hW.1, ?_⟩
      rcases hW.2 with ⟨e, _⟩ | ⟨g', cap', cur, e, hB', hgg, hlc, hcc, hm, ht⟩
      · simp at e
      · simp only [Value.slice.injEq, Option.some.injEq, Addr.mk.injEq, and_true] at e
        obtain ⟨rfl, _, rfl⟩ := e
        exact .inr ⟨g, l.length, cur, rfl, hB', hgg, Nat.le_refl _, by omega, by omega, ht⟩
end Go.Proofs.YtipejodijbjpcaaGreatDoor
end
section
namespace Go.Proofs.YtipejodijbjpcaaGreatDoor
open Go.RowKit Go.G5

set_option maxHeartbeats 1000000 in
set_option maxRecDepth 100000 in
theorem gather_any (n : Int) (v : Value) (l : List Int) (w : World) (hv : Ints w v l) (hl : l.length ≤ 1048576) :
    Calls Tryz.prog 153 #[.int .i64 n, v] w fun e w' => ∃ ad i c, e = .returned (.agg #[.int .i64 n, .slice ad i c]) ∧ OwnW 3 w.heap.size w' (.slice ad i c) (gatherL l) ∧ Below w.heap.size w w' := by
  obtain ⟨a, c, rfl⟩ := hv.shape
  have hml : (l.mergeSort fun x y => decide (x ≤ y)).length ≤ 1048576 := by rw [List.length_mergeSort]; exact hl
  have hgl := gatherL_len l
  go_enter Tryz.func153, Tryz.ntmps153
  go_wp2_with fail
  refine (clone_any _ l _ (hv.alloc _) hl).mono ?_
  rintro e w1 ⟨p1, i1, q1, rfl, o1, hb1⟩
  have K0 := Blk.new w 27 #[.int .i64 0, .slice none 0 0]
  have K1 := K0.keep hb1
  have B1 : Below w.heap.size w w1 := (bl1 _ _).after hb1 (by simp)
  have o1' := o1.mono (B' := w.heap.size + 1) (by simp)
  have r1 := o1'.lt
  clear K0 o1 hb1
  go_wp2_with fail
  refine (sort_any _ _ l _ o1' hl).mono ?_
  rintro e w2 ⟨rfl, o2, hg2⟩
  have K2 := K1.grow hg2 (by intro hk; have := (r1 _ hk).1; omega)
  have B2 := B1.grown hg2 B1.size (fun k hk => by have := (r1 k hk).1; omega)
  clear hg2 K1 o1'
  go_wp2_with fail
  refine (compact_any _ _ _ _ o2 hml).mono ?_
  rintro e w3 ⟨p3, i3, q3, rfl, o3, hg3⟩
  have K3 := K2.grow hg3 (by intro hk; have := (r1 _ hk).1; omega)
  have B3 := B2.grown hg3 B2.size (fun k hk => by have := (r1 k hk).1; omega)
  clear hg3 K2 o2
  go_wp2_with fail
  refine (clip_any _ _ _ _ o3 (by have e : Lib.compact (l.mergeSort fun x y => decide (x ≤ y)) = gatherL l := rfl; rw [e]; omega)).mono ?_
  rintro e w4 ⟨p4, i4, q4, rfl, o4, rfl⟩
  have G3 := K3.cell
  have F3 := K3.frozen
  have z3 := K3.lt
  go_wp2
  refine post_named ?_
  intro Wf hWf
  have Kf : Blk Wf w.heap.size 27 #[.int .i64 n, .slice p4 i4 q4] := by
    rw [hWf]
    have := (K3.set 0 (.int .i64 n)).set 1 (.slice p4 i4 q4)
    simpa using this
  have Bf : Below w.heap.size w Wf := by rw [hWf]; exact Below.setCell (Below.setCell B3 (by first | omega | (simp; done) | (simp; omega)) _) (by first | omega | (simp; done) | (simp; omega)) _
  have of : OwnW 3 w.heap.size Wf (.slice p4 i4 q4) (gatherL l) := by rw [hWf]; exact ((o4.setBelow (by first | omega | (simp; done) | (simp; omega)) _).setBelow (by first | omega | (simp; done) | (simp; omega)) _).mono (by first | omega | (simp; done) | (simp; omega))
  have Gf := Kf.cell
  clear hWf G3 F3
  exact bodyPost_ret (v := .agg #[.int .i64 n, .slice p4 i4 q4]) (by simp [results, Tryz.results153, go_sem, Gf]) rfl ⟨_, _, _, rfl, of, Bf⟩
end Go.Proofs.YtipejodijbjpcaaGreatDoor
end
