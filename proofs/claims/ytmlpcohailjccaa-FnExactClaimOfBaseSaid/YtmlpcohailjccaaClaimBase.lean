/- Claims of bases. -/
import Derived.Test.YtmlpcohailjccaaMaxB
import Derived.Test.YtmlpcohailjccaaModI
import Derived.Test.YtmlpcohailjccaaModS
import Derived.Test.YtmlpcohailjccaaClaimCut
namespace Go.Proofs.Ytmlpcohailjccaa
open Go.RowKit Go.G5

def bsB (n : Int) (l x : List Int) : Bool := modB x 0 && optB n l x
def bsK (n : Int) (l x : List Int) : Int := if bsB n l x then 3 else 0
def bsA (n : Int) (l x : List Int) : Int := if bsB n l x then n else 0
def bsL (n : Int) (l x : List Int) : List Int := if bsB n l x then l else []
def bsC (n : Int) (l x : List Int) : Int := if bsB n l x then modN x 0 else 0
def bsM (n : Int) (l x : List Int) : List Int := if bsB n l x then modL x 0 else []
def bsP (n : Int) (l x : List Int) : Int := if bsB n l x then maxN n l x else 0
def bsE (n : Int) (l x : List Int) : List Int := if bsB n l x then maxL n l x else []
theorem bsL_len (n : Int) (l x : List Int) (h : l.length ≤ 1048576) : (bsL n l x).length ≤ 1048576 := by unfold bsL; split <;> simp_all
theorem bsM_len (n : Int) (l x : List Int) : (bsM n l x).length ≤ 1048576 := by
  unfold bsM modL
  split
  · rename_i h
    split
    · rename_i h2
      have h3 : modG x 0 = true := by unfold modB at h2; exact (Bool.and_eq_true_iff.1 h2).1
      have := (modG_true h3).1
      have := Nat.pow_le_pow_right (show 1 ≤ 2 by decide) this
      simp only [madeL, List.length_map, List.length_range]
      omega
    · simp
  · simp
theorem bsE_len (n : Int) (l x : List Int) : (bsE n l x).length ≤ 1048576 := by
  unfold bsE maxL
  split
  · split
    · rename_i h
      have := (mxX_bd h).1
      have := (opt_fun h).1
      omega
    · simp
  · simp
theorem gr_allocB {w w' : World} {row : Option Nat} (h : w.grownBy w' row) (o : Obj) : w.grownBy (w'.alloc o) row := gr_trans h (gr_below row (bl1 w' o))
set_option maxHeartbeats 4000000 in
set_option maxRecDepth 100000 in
theorem claimBaseI_c (w : World) (n : Int) (v : Value) (l : List Int) (hv : Ints w v l) (hl : l.length ≤ 1048576) (u : Value) (x : List Int) (hu : Ints w u x) (_ : x.length ≤ 1048576) :
    Calls Try.prog 21 #[.agg #[.int .i64 n, v], u] w fun e w' => ∃ p0 i0 q0 p1 i1 q1 p2 i2 q2 p3 i3 q3, e = .returned (.tuple #[.agg #[.int .i64 (bsK n l x), .int .i64 (bsA n l x), .slice p0 i0 q0, .int .i64 (bsC n l x), .slice p1 i1 q1, .int .i64 0, .slice p2 i2 q2, .int .i64 (bsP n l x), .int .i64 0, .slice p3 i3 q3], .bool (bsB n l x)]) ∧ OwnW 3 w.heap.size w' (.slice p0 i0 q0) (bsL n l x) ∧ OwnW 3 w.heap.size w' (.slice p1 i1 q1) (bsM n l x) ∧ OwnW 3 w.heap.size w' (.slice p2 i2 q2) [] ∧ OwnW 3 w.heap.size w' (.slice p3 i3 q3) (bsE n l x) ∧ (Apart (.slice p0 i0 q0) (.slice p1 i1 q1) ∧ Apart (.slice p0 i0 q0) (.slice p2 i2 q2) ∧ Apart (.slice p0 i0 q0) (.slice p3 i3 q3) ∧ Apart (.slice p1 i1 q1) (.slice p2 i2 q2) ∧ Apart (.slice p1 i1 q1) (.slice p3 i3 q3) ∧ Apart (.slice p2 i2 q2) (.slice p3 i3 q3)) ∧ Below w.heap.size w w' := by
  obtain ⟨a, c, rfl⟩ := hv.shape
  obtain ⟨b, d, rfl⟩ := hu.shape
  go_enter Try.func21, Try.ntmps21
  go_wp2_with fail
  refine calls_named ?_
  intro V hV
  have B : Below w.heap.size w V := by rw [hV]; exact bl2 _ _ _
  have K1 : Blk V w.heap.size 26 #[.int .i64 n, .slice a l.length c] := by rw [hV]; exact (Blk.new _ _ _).alloc _
  have K3 : Blk V (w.heap.size + 1) 30 #[.int .i64 0, .int .i64 0, .slice none 0 0, .int .i64 0, .slice none 0 0, .int .i64 0, .slice none 0 0, .int .i64 0, .int .i64 0, .slice none 0 0] := by rw [hV]; have := Blk.new (w.alloc (.cells #[.int .i64 n, .slice a l.length c] 26)) 30 #[.int .i64 0, .int .i64 0, .slice none 0 0, .int .i64 0, .slice none 0 0, .int .i64 0, .slice none 0 0, .int .i64 0, .int .i64 0, .slice none 0 0]; simpa using this
  clear hV
  refine (modI_c V _ x (hu.below B (Nat.le_refl _)) 0).mono ?_
  rintro e wm ⟨p1, i1, q1, rfl, o1, b1⟩
  have z3 := K3.lt
  have z3' : w.heap.size + 1 + 1 ≤ V.heap.size := z3
  have K1 := K1.keep b1
  have K3 := K3.keep b1
  have B := B.after b1 B.size
  have o1x := o1
  have o1 := o1.mono (B' := w.heap.size + 1 + 1) (by omega)
  have y3 := K3.lt
  have G1 := (K1.alloc (.cells #[.int .i64 (modN x 0), .slice p1 i1 q1] 26)).cell
  go_wp2_with fail
  clear G1
  refine calls_named ?_
  intro V2 hV2
  have K2 : Blk V2 wm.heap.size 26 #[.int .i64 (modN x 0), .slice p1 i1 q1] := by
    rw [hV2]
    exact Blk.new _ _ _
  have b2 : Below wm.heap.size wm V2 := by
    rw [hV2]
    exact bl1 wm _
  have K1 := K1.keep b2
  have K3 := K3.keep b2
  have B := B.after b2 B.size
  have o1 := o1.keep b2
  obtain ⟨g2, hg2⟩ : ∃ g, g = wm.heap.size := ⟨_, rfl⟩
  rw [← hg2] at K2
  clear hV2
  simp only [← hg2]
  clear hg2
  refine (maximumForI_c V2 n _ l (hv.below B (Nat.le_refl _)) hl _ x (hu.below B (Nat.le_refl _))).mono ?_
  rintro e wl ⟨p2, i2, q2, rfl, o2, b3⟩
  have K1 := K1.keep b3
  have K2 := K2.keep b3
  have K3 := K3.keep b3
  have B := B.after b3 B.size
  have ap12 : Apart (.slice p1 i1 q1) (.slice p2 i2 q2) := Apart.of_lt o1.toW o2.toW (Nat.le_refl _)
  have o1 := o1.keep b3
  have o2 := o2.mono (B' := w.heap.size + 1 + 1) (by have := b2.size; omega)
  have z3 := K3.lt
  have z3' : w.heap.size + 1 < wl.heap.size := z3
  cases hm : modB x 0 with
  | false =>
    have hf : bsB n l x = false := by unfold bsB; rw [hm]; rfl
    clear hm
    have hK : bsK n l x = 0 := by unfold bsK; rw [hf]; rfl
    have hA : bsA n l x = 0 := by unfold bsA; rw [hf]; rfl
    have hL : bsL n l x = [] := by unfold bsL; rw [hf]; rfl
    have hBB : bsC n l x = 0 := by unfold bsC; rw [hf]; rfl
    have hM : bsM n l x = [] := by unfold bsM; rw [hf]; rfl
    have hP : bsP n l x = 0 := by unfold bsP; rw [hf]; rfl
    have hE : bsE n l x = [] := by unfold bsE; rw [hf]; rfl
    have H := Lib.hid (And.intro hK (And.intro hA (And.intro hL (And.intro hBB (And.intro hM (And.intro hP hE))))))
    have HB := Lib.hid hf
    clear hK hA hL hBB hM hP hE hf
    have G3 := K3.cell
    have F3 := K3.frozen
    go_wp2
    refine post_named ?_
    intro Wf hWf
    have K3f : Blk Wf (w.heap.size + 1) 30 #[.int .i64 0, .int .i64 0, .slice none 0 0, .int .i64 0, .slice none 0 0, .int .i64 0, .slice none 0 0, .int .i64 0, .int .i64 0, .slice none 0 0] := by
      rw [hWf]
      have := (((((((((K3.set 0 (.int .i64 0)).set 1 (.int .i64 0)).set 2 (.slice none 0 0)).set 3 (.int .i64 0)).set 4 (.slice none 0 0)).set 5 (.int .i64 0)).set 6 (.slice none 0 0)).set 7 (.int .i64 0)).set 8 (.int .i64 0)).set 9 (.slice none 0 0)
      simpa using this
    have hg : wl.grownBy Wf (some (w.heap.size + 1)) := by
      rw [hWf]
      exact (grow_set (grow_set (grow_set (grow_set (grow_set (grow_set (grow_set (grow_set (grow_set (grow_set (World.grownBy.refl _ _) 0 _) 1 _) 2 _) 3 _) 4 _) 5 _) 6 _) 7 _) 8 _) 9 _)
    have Bf : Below w.heap.size w Wf := B.grown hg B.size (fun q hq => by have := Option.some.inj hq; omega)
    have Gf := K3f.cell
    clear hWf G3 F3
    obtain ⟨hK, hA, hL, hBB, hM, hP, hE⟩ := H.out
    exact bodyPost_ret (v := .tuple #[.agg #[.int .i64 0, .int .i64 0, .slice none 0 0, .int .i64 0, .slice none 0 0, .int .i64 0, .slice none 0 0, .int .i64 0, .int .i64 0, .slice none 0 0], .bool false]) (by simp [results, Try.results21, go_sem, Gf]) rfl
      ⟨none, 0, 0, none, 0, 0, none, 0, 0, none, 0, 0, by rw [hK, hA, hBB, hP, HB.out], by rw [hL]; exact OwnW.nil _ _ _, by rw [hM]; exact OwnW.nil _ _ _, OwnW.nil _ _ _, by rw [hE]; exact OwnW.nil _ _ _,
        ⟨Apart.nil _ _ _, Apart.nil _ _ _, Apart.nil _ _ _, Apart.nil _ _ _, Apart.nil _ _ _, Apart.nil _ _ _⟩, Bf⟩
  | true =>
    cases ho : optB n l x with
    | false =>
      have hf : bsB n l x = false := by unfold bsB; rw [hm, ho]; rfl
      clear hm ho
      have hK : bsK n l x = 0 := by unfold bsK; rw [hf]; rfl
      have hA : bsA n l x = 0 := by unfold bsA; rw [hf]; rfl
      have hL : bsL n l x = [] := by unfold bsL; rw [hf]; rfl
      have hBB : bsC n l x = 0 := by unfold bsC; rw [hf]; rfl
      have hM : bsM n l x = [] := by unfold bsM; rw [hf]; rfl
      have hP : bsP n l x = 0 := by unfold bsP; rw [hf]; rfl
      have hE : bsE n l x = [] := by unfold bsE; rw [hf]; rfl
      have H := Lib.hid (And.intro hK (And.intro hA (And.intro hL (And.intro hBB (And.intro hM (And.intro hP hE))))))
      have HB := Lib.hid hf
      clear hK hA hL hBB hM hP hE hf
      have G3 := K3.cell
      have F3 := K3.frozen
      go_wp2
      refine post_named ?_
      intro Wf hWf
      have K3f : Blk Wf (w.heap.size + 1) 30 #[.int .i64 0, .int .i64 0, .slice none 0 0, .int .i64 0, .slice none 0 0, .int .i64 0, .slice none 0 0, .int .i64 0, .int .i64 0, .slice none 0 0] := by
        rw [hWf]
        have := (((((((((K3.set 0 (.int .i64 0)).set 1 (.int .i64 0)).set 2 (.slice none 0 0)).set 3 (.int .i64 0)).set 4 (.slice none 0 0)).set 5 (.int .i64 0)).set 6 (.slice none 0 0)).set 7 (.int .i64 0)).set 8 (.int .i64 0)).set 9 (.slice none 0 0)
        simpa using this
      have hg : wl.grownBy Wf (some (w.heap.size + 1)) := by
        rw [hWf]
        exact (grow_set (grow_set (grow_set (grow_set (grow_set (grow_set (grow_set (grow_set (grow_set (grow_set (World.grownBy.refl _ _) 0 _) 1 _) 2 _) 3 _) 4 _) 5 _) 6 _) 7 _) 8 _) 9 _)
      have Bf : Below w.heap.size w Wf := B.grown hg B.size (fun q hq => by have := Option.some.inj hq; omega)
      have Gf := K3f.cell
      clear hWf G3 F3
      obtain ⟨hK, hA, hL, hBB, hM, hP, hE⟩ := H.out
      exact bodyPost_ret (v := .tuple #[.agg #[.int .i64 0, .int .i64 0, .slice none 0 0, .int .i64 0, .slice none 0 0, .int .i64 0, .slice none 0 0, .int .i64 0, .int .i64 0, .slice none 0 0], .bool false]) (by simp [results, Try.results21, go_sem, Gf]) rfl
        ⟨none, 0, 0, none, 0, 0, none, 0, 0, none, 0, 0, by rw [hK, hA, hBB, hP, HB.out], by rw [hL]; exact OwnW.nil _ _ _, by rw [hM]; exact OwnW.nil _ _ _, OwnW.nil _ _ _, by rw [hE]; exact OwnW.nil _ _ _,
          ⟨Apart.nil _ _ _, Apart.nil _ _ _, Apart.nil _ _ _, Apart.nil _ _ _, Apart.nil _ _ _, Apart.nil _ _ _⟩, Bf⟩
    | true =>
      have hf : bsB n l x = true := by unfold bsB; rw [hm, ho]; rfl
      clear hm ho
      have hK : bsK n l x = 3 := by unfold bsK; rw [hf]; rfl
      have hA : bsA n l x = n := by unfold bsA; rw [hf]; rfl
      have hL : bsL n l x = l := by unfold bsL; rw [hf]; rfl
      have hBB : bsC n l x = modN x 0 := by unfold bsC; rw [hf]; rfl
      have hM : bsM n l x = modL x 0 := by unfold bsM; rw [hf]; rfl
      have hP : bsP n l x = maxN n l x := by unfold bsP; rw [hf]; rfl
      have hE : bsE n l x = maxL n l x := by unfold bsE; rw [hf]; rfl
      have H := Lib.hid (And.intro hK (And.intro hA (And.intro hL (And.intro hBB (And.intro hM (And.intro hP hE))))))
      have HB := Lib.hid hf
      have hv1 := hv.below B (Nat.le_refl _)
      have hvd : Ints wl.drew (.slice a l.length c) l := hv1.keep (Below.refl _ _).drew
      have HC1 := Lib.hid (copyFun_any wl.drew n (.slice a l.length c) l hvd hl)
      have K2d : Blk wl.drew g2 26 #[.int .i64 (modN x 0), .slice p1 i1 q1] := K2
      have K3d : Blk wl.drew (w.heap.size + 1) 30 #[.int .i64 0, .int .i64 0, .slice none 0 0, .int .i64 0, .slice none 0 0, .int .i64 0, .slice none 0 0, .int .i64 0, .int .i64 0, .slice none 0 0] := K3
      have Bd : Below w.heap.size w wl.drew := B.drew
      have zd : w.heap.size + 1 < wl.drew.heap.size := K3d.lt
      obtain ⟨P, hPe⟩ : ∃ q, q = maxN n l x := ⟨_, rfl⟩
      obtain ⟨C, hCe⟩ : ∃ q, q = modN x 0 := ⟨_, rfl⟩
      have HPE := Lib.hid hPe
      have HCE := Lib.hid hCe
      simp only [← hPe, ← hCe]
      rw [← hCe] at K2 K2d
      clear hK hA hL hBB hM hP hE hf hPe hCe
      have G1 := K1.cell
      have G2 := K2.cell
      go_wp2_with fail
      go_region_law
        (go_simp; go_at_call 65; with_reducible refine HC1.out.mono ?_; rintro e w5 ⟨p5, i5, q5, rfl, o5, b5⟩; have K25 := K2d.keep b5; have K35 := K3d.keep b5; have G25 := K25.cell; have G35 := K35.cell; have F35 := K35.frozen)
      all_goals
        have B5 := Bd.after b5 Bd.size
        have y5 := b5.size
        have x5 := o5.toW.mono (B' := w.heap.size + 1 + 1) (by omega)
        have x1 : OwnW 3 (w.heap.size + 1 + 1) w5 (.slice p1 i1 q1) (modL x 0) := (o1.drewN 1).toW.keep b5
        have x2 : OwnW 3 (w.heap.size + 1 + 1) w5 (.slice p2 i2 q2) (maxL n l x) := (o2.drewN 1).toW.keep b5
        have ap51 : Apart (.slice p5 i5 q5) (.slice p1 i1 q1) := (Apart.of_lt (o1.drewN 1).toW o5.toW (Nat.le_refl _)).symm
        have ap52 : Apart (.slice p5 i5 q5) (.slice p2 i2 q2) := (Apart.of_lt (o2.drewN 1).toW o5.toW (Nat.le_refl _)).symm
        go_wp2
        refine post_named ?_
        intro Wf hWf
        have K3f : Blk Wf (w.heap.size + 1) 30 #[.int .i64 3, .int .i64 n, .slice p5 i5 q5, .int .i64 C, .slice p1 i1 q1, .int .i64 0, .slice none 0 0, .int .i64 P, .int .i64 0, .slice p2 i2 q2] := by
          rw [hWf]
          have := (((((((((K35.set 0 (.int .i64 3)).set 1 (.int .i64 n)).set 2 (.slice p5 i5 q5)).set 3 (.int .i64 C)).set 4 (.slice p1 i1 q1)).set 5 (.int .i64 0)).set 6 (.slice none 0 0)).set 7 (.int .i64 P)).set 8 (.int .i64 0)).set 9 (.slice p2 i2 q2)
          simpa using this
        have hg : w5.grownBy Wf (some (w.heap.size + 1)) := by
          rw [hWf]
          exact (grow_set (grow_set (grow_set (grow_set (grow_set (grow_set (grow_set (grow_set (grow_set (grow_set (World.grownBy.refl _ _) 0 _) 1 _) 2 _) 3 _) 4 _) 5 _) 6 _) 7 _) 8 _) 9 _)
        have Bf : Below w.heap.size w Wf := B5.grown hg B5.size (fun q hq => by have := Option.some.inj hq; omega)
        have f5 := (x5.grow hg (fun q hq hq2 => by have := Option.some.inj hq; have := (x5.lt q hq2).1; omega)).mono (B' := w.heap.size) (by omega)
        have f1 := (x1.grow hg (fun q hq hq2 => by have := Option.some.inj hq; have := (x1.lt q hq2).1; omega)).mono (B' := w.heap.size) (by omega)
        have f2 := (x2.grow hg (fun q hq hq2 => by have := Option.some.inj hq; have := (x2.lt q hq2).1; omega)).mono (B' := w.heap.size) (by omega)
        have Gf := K3f.cell
        clear hWf
        obtain ⟨hK, hA, hL, hBB, hM, hP, hE⟩ := H.out
        exact bodyPost_ret (v := .tuple #[.agg #[.int .i64 3, .int .i64 n, .slice p5 i5 q5, .int .i64 C, .slice p1 i1 q1, .int .i64 0, .slice none 0 0, .int .i64 P, .int .i64 0, .slice p2 i2 q2], .bool true]) (by simp [results, Try.results21, go_sem, Gf]) rfl
          ⟨p5, i5, q5, p1, i1, q1, none, 0, 0, p2, i2, q2, by rw [hK, hA, hBB, hP, ← HPE.out, ← HCE.out, HB.out], by rw [hL]; exact f5, by rw [hM]; exact f1, OwnW.nil _ _ _, by rw [hE]; exact f2,
            ⟨ap51, (Apart.nil _ _ _).symm, ap52, (Apart.nil _ _ _).symm, ap12, Apart.nil _ _ _⟩, Bf⟩
set_option maxHeartbeats 4000000 in
set_option maxRecDepth 100000 in
theorem claimBaseS_c (w : World) (n : Int) (v : Value) (l : List Int) (hv : Ints w v l) (hl : l.length ≤ 1048576) (u : Value) (x : List Int) (hu : Ints w u x) (_ : x.length ≤ 1048576) :
    Calls Try.prog 19 #[.agg #[.int .i64 n, v], u] w fun e w' => ∃ p0 i0 q0 p1 i1 q1 p2 i2 q2 p3 i3 q3, e = .returned (.tuple #[.agg #[.int .i64 (bsK n l x), .int .i64 (bsA n l x), .slice p0 i0 q0, .int .i64 (bsC n l x), .slice p1 i1 q1, .int .i64 0, .slice p2 i2 q2, .int .i64 (bsP n l x), .int .i64 0, .slice p3 i3 q3], .bool (bsB n l x)]) ∧ OwnW 3 w.heap.size w' (.slice p0 i0 q0) (bsL n l x) ∧ OwnW 3 w.heap.size w' (.slice p1 i1 q1) (bsM n l x) ∧ OwnW 3 w.heap.size w' (.slice p2 i2 q2) [] ∧ OwnW 3 w.heap.size w' (.slice p3 i3 q3) (bsE n l x) ∧ (Apart (.slice p0 i0 q0) (.slice p1 i1 q1) ∧ Apart (.slice p0 i0 q0) (.slice p2 i2 q2) ∧ Apart (.slice p0 i0 q0) (.slice p3 i3 q3) ∧ Apart (.slice p1 i1 q1) (.slice p2 i2 q2) ∧ Apart (.slice p1 i1 q1) (.slice p3 i3 q3) ∧ Apart (.slice p2 i2 q2) (.slice p3 i3 q3)) ∧ Below w.heap.size w w' := by
  obtain ⟨a, c, rfl⟩ := hv.shape
  obtain ⟨b, d, rfl⟩ := hu.shape
  go_enter Try.func19, Try.ntmps19
  go_wp2_with fail
  refine calls_named ?_
  intro V hV
  have B : Below w.heap.size w V := by rw [hV]; exact bl2 _ _ _
  have K1 : Blk V w.heap.size 26 #[.int .i64 n, .slice a l.length c] := by rw [hV]; exact (Blk.new _ _ _).alloc _
  have K3 : Blk V (w.heap.size + 1) 30 #[.int .i64 0, .int .i64 0, .slice none 0 0, .int .i64 0, .slice none 0 0, .int .i64 0, .slice none 0 0, .int .i64 0, .int .i64 0, .slice none 0 0] := by rw [hV]; have := Blk.new (w.alloc (.cells #[.int .i64 n, .slice a l.length c] 26)) 30 #[.int .i64 0, .int .i64 0, .slice none 0 0, .int .i64 0, .slice none 0 0, .int .i64 0, .slice none 0 0, .int .i64 0, .int .i64 0, .slice none 0 0]; simpa using this
  clear hV
  refine (maximumForS_c V n _ l (hv.below B (Nat.le_refl _)) hl _ x (hu.below B (Nat.le_refl _))).mono ?_
  rintro e wx ⟨p2, i2, q2, rfl, o2, b3⟩
  have z3 := K3.lt
  have K1 := K1.keep b3
  have K3 := K3.keep b3
  have B := B.after b3 B.size
  have o2 := o2.mono (B' := w.heap.size + 1 + 1) z3
  have G1 := K1.cell
  go_wp2_with fail
  clear G1
  refine (modS_c wx _ x (hu.below B (Nat.le_refl _)) 0).mono ?_
  rintro e wm ⟨p1, i1, q1, rfl, o1, b1⟩
  have z3 := K3.lt
  have z3' : w.heap.size + 1 + 1 ≤ wx.heap.size := z3
  have K1 := K1.keep b1
  have K3 := K3.keep b1
  have B := B.after b1 B.size
  have o1x := o1
  have o1 := o1.mono (B' := w.heap.size + 1 + 1) (by omega)
  have y3 := K3.lt
  have ap12 : Apart (.slice p1 i1 q1) (.slice p2 i2 q2) := (Apart.of_lt o2.toW o1x.toW (Nat.le_refl _)).symm
  have o2 := o2.keep b1
  obtain ⟨g2, hg2⟩ : ∃ g, g = wm.heap.size := ⟨_, rfl⟩
  have K3w := K3
  have Bw := B
  have K2 : Blk (wm.alloc (.cells #[.int .i64 (modN x 0), .slice p1 i1 q1] 26)) wm.heap.size 26 #[.int .i64 (modN x 0), .slice p1 i1 q1] := Blk.new _ _ _
  have b2 : Below wm.heap.size wm (wm.alloc (.cells #[.int .i64 (modN x 0), .slice p1 i1 q1] 26)) := bl1 wm _
  have K1 := K1.keep b2
  have K3 := K3.keep b2
  have B := B.after b2 B.size
  have o1 := o1.keep b2
  have o2 := o2.keep b2
  have z3 := K3.lt
  have z3' : w.heap.size + 1 < (wm.alloc (.cells #[.int .i64 (modN x 0), .slice p1 i1 q1] 26)).heap.size := z3
  clear hg2
  obtain ⟨g2, hg2⟩ : ∃ g, g = wm.heap.size := ⟨_, rfl⟩
  rw [← hg2] at K2
  cases hm : modB x 0 with
  | false =>
    have hf : bsB n l x = false := by unfold bsB; rw [hm]; rfl
    clear hm
    cases ho : optB n l x with
    | false =>
      clear ho
      have hK : bsK n l x = 0 := by unfold bsK; rw [hf]; rfl
      have hA : bsA n l x = 0 := by unfold bsA; rw [hf]; rfl
      have hL : bsL n l x = [] := by unfold bsL; rw [hf]; rfl
      have hBB : bsC n l x = 0 := by unfold bsC; rw [hf]; rfl
      have hM : bsM n l x = [] := by unfold bsM; rw [hf]; rfl
      have hP : bsP n l x = 0 := by unfold bsP; rw [hf]; rfl
      have hE : bsE n l x = [] := by unfold bsE; rw [hf]; rfl
      have H := Lib.hid (And.intro hK (And.intro hA (And.intro hL (And.intro hBB (And.intro hM (And.intro hP hE))))))
      have HB := Lib.hid hf
      clear hK hA hL hBB hM hP hE hf
      have G3 := K3w.cell
      have F3 := K3w.frozen
      go_wp2
      refine post_named ?_
      intro Wf hWf
      have K3f : Blk Wf (w.heap.size + 1) 30 #[.int .i64 0, .int .i64 0, .slice none 0 0, .int .i64 0, .slice none 0 0, .int .i64 0, .slice none 0 0, .int .i64 0, .int .i64 0, .slice none 0 0] := by
        rw [hWf]
        have := (((((((((K3w.set 0 (.int .i64 0)).set 1 (.int .i64 0)).set 2 (.slice none 0 0)).set 3 (.int .i64 0)).set 4 (.slice none 0 0)).set 5 (.int .i64 0)).set 6 (.slice none 0 0)).set 7 (.int .i64 0)).set 8 (.int .i64 0)).set 9 (.slice none 0 0)
        simpa using this.alloc (.cells #[.int .i64 (modN x 0), .slice p1 i1 q1] 26)
      have hg : wm.grownBy Wf (some (w.heap.size + 1)) := by
        rw [hWf]
        exact gr_allocB (grow_set (grow_set (grow_set (grow_set (grow_set (grow_set (grow_set (grow_set (grow_set (grow_set (World.grownBy.refl _ _) 0 _) 1 _) 2 _) 3 _) 4 _) 5 _) 6 _) 7 _) 8 _) 9 _) _
      have Bf : Below w.heap.size w Wf := Bw.grown hg Bw.size (fun q hq => by have := Option.some.inj hq; omega)
      have Gf := K3f.cell
      clear hWf G3 F3
      obtain ⟨hK, hA, hL, hBB, hM, hP, hE⟩ := H.out
      exact bodyPost_ret (v := .tuple #[.agg #[.int .i64 0, .int .i64 0, .slice none 0 0, .int .i64 0, .slice none 0 0, .int .i64 0, .slice none 0 0, .int .i64 0, .int .i64 0, .slice none 0 0], .bool false]) (by simp [results, Try.results19, go_sem, Gf]) rfl
        ⟨none, 0, 0, none, 0, 0, none, 0, 0, none, 0, 0, by rw [hK, hA, hBB, hP, HB.out], by rw [hL]; exact OwnW.nil _ _ _, by rw [hM]; exact OwnW.nil _ _ _, OwnW.nil _ _ _, by rw [hE]; exact OwnW.nil _ _ _,
          ⟨Apart.nil _ _ _, Apart.nil _ _ _, Apart.nil _ _ _, Apart.nil _ _ _, Apart.nil _ _ _, Apart.nil _ _ _⟩, Bf⟩
    | true =>
      clear ho
      have hK : bsK n l x = 0 := by unfold bsK; rw [hf]; rfl
      have hA : bsA n l x = 0 := by unfold bsA; rw [hf]; rfl
      have hL : bsL n l x = [] := by unfold bsL; rw [hf]; rfl
      have hBB : bsC n l x = 0 := by unfold bsC; rw [hf]; rfl
      have hM : bsM n l x = [] := by unfold bsM; rw [hf]; rfl
      have hP : bsP n l x = 0 := by unfold bsP; rw [hf]; rfl
      have hE : bsE n l x = [] := by unfold bsE; rw [hf]; rfl
      have H := Lib.hid (And.intro hK (And.intro hA (And.intro hL (And.intro hBB (And.intro hM (And.intro hP hE))))))
      have HB := Lib.hid hf
      clear hK hA hL hBB hM hP hE hf
      have G3 := K3w.cell
      have F3 := K3w.frozen
      go_wp2
      refine post_named ?_
      intro Wf hWf
      have K3f : Blk Wf (w.heap.size + 1) 30 #[.int .i64 0, .int .i64 0, .slice none 0 0, .int .i64 0, .slice none 0 0, .int .i64 0, .slice none 0 0, .int .i64 0, .int .i64 0, .slice none 0 0] := by
        rw [hWf]
        have := (((((((((K3w.set 0 (.int .i64 0)).set 1 (.int .i64 0)).set 2 (.slice none 0 0)).set 3 (.int .i64 0)).set 4 (.slice none 0 0)).set 5 (.int .i64 0)).set 6 (.slice none 0 0)).set 7 (.int .i64 0)).set 8 (.int .i64 0)).set 9 (.slice none 0 0)
        simpa using this.alloc (.cells #[.int .i64 (modN x 0), .slice p1 i1 q1] 26)
      have hg : wm.grownBy Wf (some (w.heap.size + 1)) := by
        rw [hWf]
        exact gr_allocB (grow_set (grow_set (grow_set (grow_set (grow_set (grow_set (grow_set (grow_set (grow_set (grow_set (World.grownBy.refl _ _) 0 _) 1 _) 2 _) 3 _) 4 _) 5 _) 6 _) 7 _) 8 _) 9 _) _
      have Bf : Below w.heap.size w Wf := Bw.grown hg Bw.size (fun q hq => by have := Option.some.inj hq; omega)
      have Gf := K3f.cell
      clear hWf G3 F3
      obtain ⟨hK, hA, hL, hBB, hM, hP, hE⟩ := H.out
      exact bodyPost_ret (v := .tuple #[.agg #[.int .i64 0, .int .i64 0, .slice none 0 0, .int .i64 0, .slice none 0 0, .int .i64 0, .slice none 0 0, .int .i64 0, .int .i64 0, .slice none 0 0], .bool false]) (by simp [results, Try.results19, go_sem, Gf]) rfl
        ⟨none, 0, 0, none, 0, 0, none, 0, 0, none, 0, 0, by rw [hK, hA, hBB, hP, HB.out], by rw [hL]; exact OwnW.nil _ _ _, by rw [hM]; exact OwnW.nil _ _ _, OwnW.nil _ _ _, by rw [hE]; exact OwnW.nil _ _ _,
          ⟨Apart.nil _ _ _, Apart.nil _ _ _, Apart.nil _ _ _, Apart.nil _ _ _, Apart.nil _ _ _, Apart.nil _ _ _⟩, Bf⟩
  | true =>
    cases ho : optB n l x with
    | false =>
      have hf : bsB n l x = false := by unfold bsB; rw [hm, ho]; rfl
      clear hm ho
      have hK : bsK n l x = 0 := by unfold bsK; rw [hf]; rfl
      have hA : bsA n l x = 0 := by unfold bsA; rw [hf]; rfl
      have hL : bsL n l x = [] := by unfold bsL; rw [hf]; rfl
      have hBB : bsC n l x = 0 := by unfold bsC; rw [hf]; rfl
      have hM : bsM n l x = [] := by unfold bsM; rw [hf]; rfl
      have hP : bsP n l x = 0 := by unfold bsP; rw [hf]; rfl
      have hE : bsE n l x = [] := by unfold bsE; rw [hf]; rfl
      have H := Lib.hid (And.intro hK (And.intro hA (And.intro hL (And.intro hBB (And.intro hM (And.intro hP hE))))))
      have HB := Lib.hid hf
      clear hK hA hL hBB hM hP hE hf
      have G3 := K3w.cell
      have F3 := K3w.frozen
      go_wp2
      refine post_named ?_
      intro Wf hWf
      have K3f : Blk Wf (w.heap.size + 1) 30 #[.int .i64 0, .int .i64 0, .slice none 0 0, .int .i64 0, .slice none 0 0, .int .i64 0, .slice none 0 0, .int .i64 0, .int .i64 0, .slice none 0 0] := by
        rw [hWf]
        have := (((((((((K3w.set 0 (.int .i64 0)).set 1 (.int .i64 0)).set 2 (.slice none 0 0)).set 3 (.int .i64 0)).set 4 (.slice none 0 0)).set 5 (.int .i64 0)).set 6 (.slice none 0 0)).set 7 (.int .i64 0)).set 8 (.int .i64 0)).set 9 (.slice none 0 0)
        simpa using this.alloc (.cells #[.int .i64 (modN x 0), .slice p1 i1 q1] 26)
      have hg : wm.grownBy Wf (some (w.heap.size + 1)) := by
        rw [hWf]
        exact gr_allocB (grow_set (grow_set (grow_set (grow_set (grow_set (grow_set (grow_set (grow_set (grow_set (grow_set (World.grownBy.refl _ _) 0 _) 1 _) 2 _) 3 _) 4 _) 5 _) 6 _) 7 _) 8 _) 9 _) _
      have Bf : Below w.heap.size w Wf := Bw.grown hg Bw.size (fun q hq => by have := Option.some.inj hq; omega)
      have Gf := K3f.cell
      clear hWf G3 F3
      obtain ⟨hK, hA, hL, hBB, hM, hP, hE⟩ := H.out
      exact bodyPost_ret (v := .tuple #[.agg #[.int .i64 0, .int .i64 0, .slice none 0 0, .int .i64 0, .slice none 0 0, .int .i64 0, .slice none 0 0, .int .i64 0, .int .i64 0, .slice none 0 0], .bool false]) (by simp [results, Try.results19, go_sem, Gf]) rfl
        ⟨none, 0, 0, none, 0, 0, none, 0, 0, none, 0, 0, by rw [hK, hA, hBB, hP, HB.out], by rw [hL]; exact OwnW.nil _ _ _, by rw [hM]; exact OwnW.nil _ _ _, OwnW.nil _ _ _, by rw [hE]; exact OwnW.nil _ _ _,
          ⟨Apart.nil _ _ _, Apart.nil _ _ _, Apart.nil _ _ _, Apart.nil _ _ _, Apart.nil _ _ _, Apart.nil _ _ _⟩, Bf⟩
    | true =>
      have hf : bsB n l x = true := by unfold bsB; rw [hm, ho]; rfl
      clear hm ho
      subst hg2
      have hK : bsK n l x = 3 := by unfold bsK; rw [hf]; rfl
      have hA : bsA n l x = n := by unfold bsA; rw [hf]; rfl
      have hL : bsL n l x = l := by unfold bsL; rw [hf]; rfl
      have hBB : bsC n l x = modN x 0 := by unfold bsC; rw [hf]; rfl
      have hM : bsM n l x = modL x 0 := by unfold bsM; rw [hf]; rfl
      have hP : bsP n l x = maxN n l x := by unfold bsP; rw [hf]; rfl
      have hE : bsE n l x = maxL n l x := by unfold bsE; rw [hf]; rfl
      have H := Lib.hid (And.intro hK (And.intro hA (And.intro hL (And.intro hBB (And.intro hM (And.intro hP hE))))))
      have HB := Lib.hid hf
      have hv1 := hv.below B (Nat.le_refl _)
      have hvd : Ints (wm.alloc (.cells #[.int .i64 (modN x 0), .slice p1 i1 q1] 26)).drew (.slice a l.length c) l := hv1.keep (Below.refl _ _).drew
      have HC1 := Lib.hid (l33Copy_any (wm.alloc (.cells #[.int .i64 (modN x 0), .slice p1 i1 q1] 26)).drew n (.slice a l.length c) l hvd hl)
      have K2d : Blk (wm.alloc (.cells #[.int .i64 (modN x 0), .slice p1 i1 q1] 26)).drew wm.heap.size 26 #[.int .i64 (modN x 0), .slice p1 i1 q1] := K2
      have K3d : Blk (wm.alloc (.cells #[.int .i64 (modN x 0), .slice p1 i1 q1] 26)).drew (w.heap.size + 1) 30 #[.int .i64 0, .int .i64 0, .slice none 0 0, .int .i64 0, .slice none 0 0, .int .i64 0, .slice none 0 0, .int .i64 0, .int .i64 0, .slice none 0 0] := K3
      have Bd : Below w.heap.size w (wm.alloc (.cells #[.int .i64 (modN x 0), .slice p1 i1 q1] 26)).drew := B.drew
      have zd : w.heap.size + 1 < (wm.alloc (.cells #[.int .i64 (modN x 0), .slice p1 i1 q1] 26)).drew.heap.size := K3d.lt
      clear hK hA hL hBB hM hP hE hf
      have G1 := K1.cell
      have G2 := K2.cell
      go_wp2_with fail
      go_region_law
        (go_simp; go_at_call 60; with_reducible refine HC1.out.mono ?_; rintro e w5 ⟨p5, i5, q5, rfl, o5, b5⟩; have K25 := K2d.keep b5; have K35 := K3d.keep b5; have G25 := K25.cell; have G35 := K35.cell; have F35 := K35.frozen)
      all_goals
        have B5 := Bd.after b5 Bd.size
        have y5 := b5.size
        have x5 := o5.toW.mono (B' := w.heap.size + 1 + 1) (by omega)
        have x1 : OwnW 3 (w.heap.size + 1 + 1) w5 (.slice p1 i1 q1) (modL x 0) := (o1.drewN 1).toW.keep b5
        have x2 : OwnW 3 (w.heap.size + 1 + 1) w5 (.slice p2 i2 q2) (maxL n l x) := (o2.drewN 1).toW.keep b5
        have ap51 : Apart (.slice p5 i5 q5) (.slice p1 i1 q1) := (Apart.of_lt (o1.drewN 1).toW o5.toW (Nat.le_refl _)).symm
        have ap52 : Apart (.slice p5 i5 q5) (.slice p2 i2 q2) := (Apart.of_lt (o2.drewN 1).toW o5.toW (Nat.le_refl _)).symm
        go_wp2
        refine post_named ?_
        intro Wf hWf
        have K3f : Blk Wf (w.heap.size + 1) 30 #[.int .i64 3, .int .i64 n, .slice p5 i5 q5, .int .i64 (modN x 0), .slice p1 i1 q1, .int .i64 0, .slice none 0 0, .int .i64 (maxN n l x), .int .i64 0, .slice p2 i2 q2] := by
          rw [hWf]
          have := (((((((((K35.set 0 (.int .i64 3)).set 1 (.int .i64 n)).set 2 (.slice p5 i5 q5)).set 3 (.int .i64 (modN x 0))).set 4 (.slice p1 i1 q1)).set 5 (.int .i64 0)).set 6 (.slice none 0 0)).set 7 (.int .i64 (maxN n l x))).set 8 (.int .i64 0)).set 9 (.slice p2 i2 q2)
          simpa using this
        have hg : w5.grownBy Wf (some (w.heap.size + 1)) := by
          rw [hWf]
          exact (grow_set (grow_set (grow_set (grow_set (grow_set (grow_set (grow_set (grow_set (grow_set (grow_set (World.grownBy.refl _ _) 0 _) 1 _) 2 _) 3 _) 4 _) 5 _) 6 _) 7 _) 8 _) 9 _)
        have Bf : Below w.heap.size w Wf := B5.grown hg B5.size (fun q hq => by have := Option.some.inj hq; omega)
        have f5 := (x5.grow hg (fun q hq hq2 => by have := Option.some.inj hq; have := (x5.lt q hq2).1; omega)).mono (B' := w.heap.size) (by omega)
        have f1 := (x1.grow hg (fun q hq hq2 => by have := Option.some.inj hq; have := (x1.lt q hq2).1; omega)).mono (B' := w.heap.size) (by omega)
        have f2 := (x2.grow hg (fun q hq hq2 => by have := Option.some.inj hq; have := (x2.lt q hq2).1; omega)).mono (B' := w.heap.size) (by omega)
        have Gf := K3f.cell
        clear hWf
        obtain ⟨hK, hA, hL, hBB, hM, hP, hE⟩ := H.out
        exact bodyPost_ret (v := .tuple #[.agg #[.int .i64 3, .int .i64 n, .slice p5 i5 q5, .int .i64 (modN x 0), .slice p1 i1 q1, .int .i64 0, .slice none 0 0, .int .i64 (maxN n l x), .int .i64 0, .slice p2 i2 q2], .bool true]) (by simp [results, Try.results19, go_sem, Gf]) rfl
          ⟨p5, i5, q5, p1, i1, q1, none, 0, 0, p2, i2, q2, by rw [hK, hA, hBB, hP, HB.out], by rw [hL]; exact f5, by rw [hM]; exact f1, OwnW.nil _ _ _, by rw [hE]; exact f2,
            ⟨ap51, (Apart.nil _ _ _).symm, ap52, (Apart.nil _ _ _).symm, ap12, Apart.nil _ _ _⟩, Bf⟩
end Go.Proofs.Ytmlpcohailjccaa
