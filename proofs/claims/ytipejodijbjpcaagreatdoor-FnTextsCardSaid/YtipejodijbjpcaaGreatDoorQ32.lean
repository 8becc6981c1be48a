/- Claims of representatives. -/
import Derived.Test.YtipejodijbjpcaaGreatDoorQ31
import Derived.Deep.CutRange
section
namespace Go.Proofs.YtipejodijbjpcaaGreatDoor
open Go.RowKit Go.G5

def hcOk (g : Int) (l : List Int) : Bool := isFamB g l && decide (l.length ≤ 6)
def hcK (g : Int) (l : List Int) : Int := if hcOk g l then 7 else 0
def hcG (g : Int) (l : List Int) : Int := if hcOk g l then g else 0
def hcF (g : Int) (l : List Int) : List Int := if hcOk g l then l else []
def hcN (g : Int) (l : List Int) : Int := if hcOk g l && repB g l then 1 else 0
def hcL (g : Int) (l : List Int) : List Int := if hcOk g l then (if repB g l then repL g l else vioL g l) else []
theorem hcF_len (g : Int) (l : List Int) (h : l.length ≤ 1048576) : (hcF g l).length ≤ 1048576 := by unfold hcF; split <;> simp_all
set_option maxHeartbeats 4000000 in
set_option maxRecDepth 100000 in
theorem claimHallI_c (w : World) (g : Int) (v : Value) (l : List Int) (hv : Ints w v l) (hl : l.length ≤ 1048576) :
    Calls Tryz.prog 35 #[.agg #[.int .i64 g, v]] w fun e w' => ∃ p0 i0 q0 p1 i1 q1 p2 i2 q2 p3 i3 q3, e = .returned (.tuple #[.agg #[.int .i64 (hcK g l), .int .i64 0, .slice p0 i0 q0, .int .i64 0, .slice p1 i1 q1, .int .i64 (hcG g l), .slice p2 i2 q2, .int .i64 (hcN g l), .int .i64 0, .slice p3 i3 q3], .bool (hcOk g l)]) ∧ OwnW 3 w.heap.size w' (.slice p0 i0 q0) [] ∧ OwnW 3 w.heap.size w' (.slice p1 i1 q1) [] ∧ OwnW 3 w.heap.size w' (.slice p2 i2 q2) (hcF g l) ∧ OwnW 3 w.heap.size w' (.slice p3 i3 q3) (hcL g l) ∧ (Apart (.slice p0 i0 q0) (.slice p1 i1 q1) ∧ Apart (.slice p0 i0 q0) (.slice p2 i2 q2) ∧ Apart (.slice p0 i0 q0) (.slice p3 i3 q3) ∧ Apart (.slice p1 i1 q1) (.slice p2 i2 q2) ∧ Apart (.slice p1 i1 q1) (.slice p3 i3 q3) ∧ Apart (.slice p2 i2 q2) (.slice p3 i3 q3)) ∧ Below w.heap.size w w' := by
  obtain ⟨a, c, rfl⟩ := hv.shape
  go_enter Tryz.func35, Tryz.ntmps35
  go_wp2_with fail
  refine calls_named ?_
  intro V hV
  have B : Below w.heap.size w V := by rw [hV]; exact bl2 _ _ _
  have K1 : Blk V w.heap.size 27 #[.int .i64 g, .slice a l.length c] := by rw [hV]; exact (Blk.new _ _ _).alloc _
  have K2 : Blk V (w.heap.size + 1) 49 #[.int .i64 0, .int .i64 0, .slice none 0 0, .int .i64 0, .slice none 0 0, .int .i64 0, .slice none 0 0, .int .i64 0, .int .i64 0, .slice none 0 0] := by rw [hV]; have := Blk.new (w.alloc (.cells #[.int .i64 g, .slice a l.length c] 27)) 49 #[.int .i64 0, .int .i64 0, .slice none 0 0, .int .i64 0, .slice none 0 0, .int .i64 0, .slice none 0 0, .int .i64 0, .int .i64 0, .slice none 0 0]; simpa using this
  clear hV
  have hVs : w.heap.size + 2 ≤ V.heap.size := by have := K2.lt; omega
  refine (isFamI_any g l _ _ (hv.below B (Nat.le_refl _))).mono ?_
  rintro e w1 ⟨rfl, hb1⟩
  have K1 := K1.keep hb1
  have K2 := K2.keep hb1
  have B1 := B.after hb1 B.size
  have hv1 := hv.below B1 (Nat.le_refl _)
  have z1 := K1.lt
  have z2 := K2.lt
  clear hb1 B
  cases hf : isFamB g l with
  | false =>
    have hok : hcOk g l = false := by unfold hcOk; rw [hf]; rfl
    clear hf
    have hK : hcK g l = 0 := by unfold hcK; rw [hok]; rfl
    have hG : hcG g l = 0 := by unfold hcG; rw [hok]; rfl
    have hF : hcF g l = [] := by unfold hcF; rw [hok]; rfl
    have hN : hcN g l = 0 := by unfold hcN; rw [hok]; rfl
    have hL : hcL g l = [] := by unfold hcL; rw [hok]; rfl
    have H := Lib.hid (And.intro hK (And.intro hG (And.intro hF (And.intro hN hL))))
    have HB := Lib.hid hok
    clear hK hG hF hN hL hok
    have G1 := K1.cell
    have G2 := K2.cell
    have F2 := K2.frozen
    go_wp2
    refine post_named ?_
    intro Wf hWf
    have K2f : Blk Wf (w.heap.size + 1) 49 #[.int .i64 0, .int .i64 0, .slice none 0 0, .int .i64 0, .slice none 0 0, .int .i64 0, .slice none 0 0, .int .i64 0, .int .i64 0, .slice none 0 0] := by
      rw [hWf]
      have := (((((((((K2.set 0 (.int .i64 0)).set 1 (.int .i64 0)).set 2 (.slice none 0 0)).set 3 (.int .i64 0)).set 4 (.slice none 0 0)).set 5 (.int .i64 0)).set 6 (.slice none 0 0)).set 7 (.int .i64 0)).set 8 (.int .i64 0)).set 9 (.slice none 0 0)
      simpa using this
    have hg : w1.grownBy Wf (some (w.heap.size + 1)) := by
      rw [hWf]
      exact (grow_set (grow_set (grow_set (grow_set (grow_set (grow_set (grow_set (grow_set (grow_set (grow_set (World.grownBy.refl _ _) 0 _) 1 _) 2 _) 3 _) 4 _) 5 _) 6 _) 7 _) 8 _) 9 _)
    have Bf : Below w.heap.size w Wf := B1.grown hg B1.size (fun q hq => by have := Option.some.inj hq; omega)
    have Gf := K2f.cell
    clear hWf G2 F2 G1
    obtain ⟨hK, hG, hF, hN, hL⟩ := H.out
    exact bodyPost_ret (v := .tuple #[.agg #[.int .i64 0, .int .i64 0, .slice none 0 0, .int .i64 0, .slice none 0 0, .int .i64 0, .slice none 0 0, .int .i64 0, .int .i64 0, .slice none 0 0], .bool false]) (by simp [results, Tryz.results35, go_sem, Gf]) rfl
      ⟨none, 0, 0, none, 0, 0, none, 0, 0, none, 0, 0, by rw [hK, hG, hN, HB.out], OwnW.nil _ _ _, OwnW.nil _ _ _, by rw [hF]; exact OwnW.nil _ _ _, by rw [hL]; exact OwnW.nil _ _ _,
        ⟨Apart.nil _ _ _, Apart.nil _ _ _, Apart.nil _ _ _, Apart.nil _ _ _, Apart.nil _ _ _, Apart.nil _ _ _⟩, Bf⟩
  | true =>
    by_cases hl6 : l.length ≤ 6
    rotate_left
    · have hok : hcOk g l = false := by unfold hcOk; rw [decide_eq_false hl6]; simp
      have hli : (6 : Int) < l.length := by omega
      clear hf
      have hK : hcK g l = 0 := by unfold hcK; rw [hok]; rfl
      have hG : hcG g l = 0 := by unfold hcG; rw [hok]; rfl
      have hF : hcF g l = [] := by unfold hcF; rw [hok]; rfl
      have hN : hcN g l = 0 := by unfold hcN; rw [hok]; rfl
      have hL : hcL g l = [] := by unfold hcL; rw [hok]; rfl
      have H := Lib.hid (And.intro hK (And.intro hG (And.intro hF (And.intro hN hL))))
      have HB := Lib.hid hok
      clear hK hG hF hN hL hok
      have G1 := K1.cell
      have G2 := K2.cell
      have F2 := K2.frozen
      go_wp2
      refine post_named ?_
      intro Wf hWf
      have K2f : Blk Wf (w.heap.size + 1) 49 #[.int .i64 0, .int .i64 0, .slice none 0 0, .int .i64 0, .slice none 0 0, .int .i64 0, .slice none 0 0, .int .i64 0, .int .i64 0, .slice none 0 0] := by
        rw [hWf]
        have := (((((((((K2.set 0 (.int .i64 0)).set 1 (.int .i64 0)).set 2 (.slice none 0 0)).set 3 (.int .i64 0)).set 4 (.slice none 0 0)).set 5 (.int .i64 0)).set 6 (.slice none 0 0)).set 7 (.int .i64 0)).set 8 (.int .i64 0)).set 9 (.slice none 0 0)
        simpa using this
      have hg : w1.grownBy Wf (some (w.heap.size + 1)) := by
        rw [hWf]
        exact (grow_set (grow_set (grow_set (grow_set (grow_set (grow_set (grow_set (grow_set (grow_set (grow_set (World.grownBy.refl _ _) 0 _) 1 _) 2 _) 3 _) 4 _) 5 _) 6 _) 7 _) 8 _) 9 _)
      have Bf : Below w.heap.size w Wf := B1.grown hg B1.size (fun q hq => by have := Option.some.inj hq; omega)
      have Gf := K2f.cell
      clear hWf G2 F2 G1
      obtain ⟨hK, hG, hF, hN, hL⟩ := H.out
      exact bodyPost_ret (v := .tuple #[.agg #[.int .i64 0, .int .i64 0, .slice none 0 0, .int .i64 0, .slice none 0 0, .int .i64 0, .slice none 0 0, .int .i64 0, .int .i64 0, .slice none 0 0], .bool false]) (by simp [results, Tryz.results35, go_sem, Gf]) rfl
        ⟨none, 0, 0, none, 0, 0, none, 0, 0, none, 0, 0, by rw [hK, hG, hN, HB.out], OwnW.nil _ _ _, OwnW.nil _ _ _, by rw [hF]; exact OwnW.nil _ _ _, by rw [hL]; exact OwnW.nil _ _ _,
          ⟨Apart.nil _ _ _, Apart.nil _ _ _, Apart.nil _ _ _, Apart.nil _ _ _, Apart.nil _ _ _, Apart.nil _ _ _⟩, Bf⟩
    have hli : ¬ (6 : Int) < l.length := by omega
    have hok : hcOk g l = true := by unfold hcOk; rw [hf, decide_eq_true hl6]; rfl
    have hK : hcK g l = 7 := by unfold hcK; rw [hok]; rfl
    have hG : hcG g l = g := by unfold hcG; rw [hok]; rfl
    have hF : hcF g l = l := by unfold hcF; rw [hok]; rfl
    have hN : hcN g l = if repB g l then 1 else 0 := by unfold hcN; rw [hok]; rfl
    have hL : hcL g l = if repB g l then repL g l else vioL g l := by unfold hcL; rw [hok]; rfl
    have hasc := (famOk hf).2.2.2
    have hgl := gatherL_id l hasc
    have hgR : InR g := by have := famOk hf; exact ⟨by omega, by omega⟩
    have H := Lib.hid (And.intro hK (And.intro hG (And.intro hF (And.intro hN hL))))
    have HB := Lib.hid hok
    have HGL := Lib.hid hgl
    have HF := Lib.hid hf
    have HGR := Lib.hid hgR
    clear hK hG hF hN hL hok hasc hgl hf hgR
    have G1 := K1.cell
    go_wp2_with fail
    refine (gather_any g _ l _ hv1 hl).mono ?_
    rintro e w7 ⟨p7, i7, q7, rfl, o7, hb7⟩
    rw [HGL.out] at o7
    have K1 := K1.keep hb7
    have K2 := K2.keep hb7
    have B7 := B1.after hb7 B1.size
    have o7 := o7.mono (B' := w.heap.size + 2) (by omega)
    have r7' : ∀ k, (Value.slice p7 i7 q7).ownBlock = some k → k < w7.heap.size := fun k hk => (o7.lt k hk).2
    have y7 := B7.size
    clear hb7 G1 B1 hv1
    have G1 := K1.cell
    have z1 := K1.lt
    have z2 := K2.lt
    go_wp2_with fail
    refine calls_named ?_
    intro V3 hV3
    have B8 : Below w.heap.size w V3 := by rw [hV3]; exact B7.alloc B7.size _
    have K1 : Blk V3 w.heap.size 27 #[.int .i64 g, .slice a l.length c] := by rw [hV3]; exact K1.alloc _
    have K2 : Blk V3 (w.heap.size + 1) 49 #[.int .i64 0, .int .i64 0, .slice none 0 0, .int .i64 0, .slice none 0 0, .int .i64 0, .slice none 0 0, .int .i64 0, .int .i64 0, .slice none 0 0] := by rw [hV3]; exact K2.alloc _
    have K4 : Blk V3 w7.heap.size 49 #[.int .i64 7, .int .i64 0, .slice none 0 0, .int .i64 0, .slice none 0 0, .int .i64 g, .slice p7 i7 q7, .int .i64 0, .int .i64 0, .slice none 0 0] := by rw [hV3]; exact Blk.new _ _ _
    have o7 : OwnW 3 (w.heap.size + 2) V3 (.slice p7 i7 q7) l := by rw [hV3]; exact o7.alloc _
    have r7 : ∀ k, (Value.slice p7 i7 q7).ownBlock = some k → k < w7.heap.size := r7'
    have yy : w.heap.size + 2 ≤ w7.heap.size := by omega
    clear hV3 B7 G1 z1 z2
    have z4 := K4.lt
    have hne1 : ¬ w7.heap.size = w.heap.size + 1 := by omega
    have hne2 : ¬ w.heap.size + 1 = w7.heap.size := by omega
    refine (repI_c _ g HGR.out _ l (hv.below B8 (Nat.le_refl _)) hl).mono ?_
    rintro e w9 ⟨p9, i9, q9, rfl, o9, hb9⟩
    have K1 := K1.keep hb9
    have K2 := K2.keep hb9
    have K4 := K4.keep hb9
    have B9 := B8.after hb9 B8.size
    have ap9 : Apart (.slice p7 i7 q7) (.slice p9 i9 q9) := Apart.of_lt o7 o9 (Nat.le_refl _)
    have o7 := o7.keep hb9
    have y9 := hb9.size
    have z2 := K2.lt
    cases hrb : repB g l with
    | true =>
      have HRB := Lib.hid hrb
      clear hb9 hrb
      have apx := ap9
      have G2 := K2.cell
      have F2 := K2.frozen
      have G4 := K4.cell
      have F4 := K4.frozen
      have z4 := K4.lt
      obtain ⟨WX, hWX⟩ : ∃ W, W = (w9.setCell ⟨w7.heap.size, 7, none⟩ (.int .i64 1)).setCell ⟨w7.heap.size, 9, none⟩ (.slice p9 i9 q9) := ⟨_, rfl⟩
      have hgX : w9.grownBy WX (some w7.heap.size) := by rw [hWX]; exact grow_set (grow_set (World.grownBy.refl _ _) 7 _) 9 _
      have KX := K2.grow hgX (by intro hq; have := Option.some.inj hq; omega)
      have BX : Below w.heap.size w WX := B9.grown hgX B9.size (fun q hq => by have := Option.some.inj hq; omega)
      have ox7 := o7.grow hgX (fun q hq hq2 => by have := Option.some.inj hq; have := r7 q hq2; omega)
      have ox9 := (o9.mono (B' := w.heap.size + 2) (by omega)).grow hgX (fun q hq hq2 => by have := Option.some.inj hq; have := (o9.lt q hq2).1; omega)
      go_wp2
      refine post_named ?_
      intro Wf hWf
      rw [← hWX] at hWf
      have K2f : Blk Wf (w.heap.size + 1) 49 #[.int .i64 7, .int .i64 0, .slice none 0 0, .int .i64 0, .slice none 0 0, .int .i64 g, .slice p7 i7 q7, .int .i64 1, .int .i64 0, .slice p9 i9 q9] := by
        rw [hWf]
        have := (((((((((KX.set 0 (.int .i64 7)).set 1 (.int .i64 0)).set 2 (.slice none 0 0)).set 3 (.int .i64 0)).set 4 (.slice none 0 0)).set 5 (.int .i64 g)).set 6 (.slice p7 i7 q7)).set 7 (.int .i64 1)).set 8 (.int .i64 0)).set 9 (.slice p9 i9 q9)
        simpa using this
      have hg : WX.grownBy Wf (some (w.heap.size + 1)) := by
        rw [hWf]
        exact (grow_set (grow_set (grow_set (grow_set (grow_set (grow_set (grow_set (grow_set (grow_set (grow_set (World.grownBy.refl _ _) 0 _) 1 _) 2 _) 3 _) 4 _) 5 _) 6 _) 7 _) 8 _) 9 _)
      have yX := BX.size
      have Bf : Below w.heap.size w Wf := BX.grown hg BX.size (fun q hq => by have := Option.some.inj hq; omega)
      have f7 := (ox7.grow hg (fun q hq hq2 => by have := Option.some.inj hq; have := (ox7.lt q hq2).1; omega)).mono (B' := w.heap.size) (by omega)
      have f9 := (ox9.grow hg (fun q hq hq2 => by have := Option.some.inj hq; have := (ox9.lt q hq2).1; omega)).mono (B' := w.heap.size) (by omega)
      have Gf := K2f.cell
      clear hWf
      obtain ⟨hK, hG, hF, hN, hL⟩ := H.out
      exact bodyPost_ret (v := .tuple #[.agg #[.int .i64 7, .int .i64 0, .slice none 0 0, .int .i64 0, .slice none 0 0, .int .i64 g, .slice p7 i7 q7, .int .i64 1, .int .i64 0, .slice p9 i9 q9], .bool true]) (by simp [results, Tryz.results35, go_sem, Gf]) rfl
        ⟨none, 0, 0, none, 0, 0, p7, i7, q7, p9, i9, q9, by rw [hK, hG, hN, HRB.out, HB.out]; rfl, OwnW.nil _ _ _, OwnW.nil _ _ _, by rw [hF]; exact f7, by rw [hL, HRB.out]; exact f9,
          ⟨Apart.nil _ _ _, Apart.nil _ _ _, Apart.nil _ _ _, Apart.nil _ _ _, Apart.nil _ _ _, apx⟩, Bf⟩
    | false =>
      have HRB := Lib.hid hrb
      clear hb9 hrb o9 ap9
      have G1 := K1.cell
      go_wp2_with fail
      refine (vioI_c _ g HGR.out _ l (hv.below B9 (Nat.le_refl _)) hl).mono ?_
      rintro e w10 ⟨p9, i9, q9, rfl, o9, hb10⟩
      have K2 := K2.keep hb10
      have K4 := K4.keep hb10
      have B10 := B9.after hb10 B9.size
      have apx : Apart (.slice p7 i7 q7) (.slice p9 i9 q9) := Apart.of_lt o7 o9 (Nat.le_refl _)
      have o7 := o7.keep hb10
      have y10 := hb10.size
      have z2 := K2.lt
      clear hb10 G1
      have G2 := K2.cell
      have F2 := K2.frozen
      have G4 := K4.cell
      have F4 := K4.frozen
      have z4 := K4.lt
      obtain ⟨WX, hWX⟩ : ∃ W, W = w10.setCell ⟨w7.heap.size, 9, none⟩ (.slice p9 i9 q9) := ⟨_, rfl⟩
      have hgX : w10.grownBy WX (some w7.heap.size) := by rw [hWX]; exact grow_set (World.grownBy.refl _ _) 9 _
      have KX := K2.grow hgX (by intro hq; have := Option.some.inj hq; omega)
      have BX : Below w.heap.size w WX := B10.grown hgX B10.size (fun q hq => by have := Option.some.inj hq; omega)
      have ox7 := o7.grow hgX (fun q hq hq2 => by have := Option.some.inj hq; have := r7 q hq2; omega)
      have ox9 := (o9.mono (B' := w.heap.size + 2) (by omega)).grow hgX (fun q hq hq2 => by have := Option.some.inj hq; have := (o9.lt q hq2).1; omega)
      go_wp2
      refine post_named ?_
      intro Wf hWf
      rw [← hWX] at hWf
      have K2f : Blk Wf (w.heap.size + 1) 49 #[.int .i64 7, .int .i64 0, .slice none 0 0, .int .i64 0, .slice none 0 0, .int .i64 g, .slice p7 i7 q7, .int .i64 0, .int .i64 0, .slice p9 i9 q9] := by
        rw [hWf]
        have := (((((((((KX.set 0 (.int .i64 7)).set 1 (.int .i64 0)).set 2 (.slice none 0 0)).set 3 (.int .i64 0)).set 4 (.slice none 0 0)).set 5 (.int .i64 g)).set 6 (.slice p7 i7 q7)).set 7 (.int .i64 0)).set 8 (.int .i64 0)).set 9 (.slice p9 i9 q9)
        simpa using this
      have hg : WX.grownBy Wf (some (w.heap.size + 1)) := by
        rw [hWf]
        exact (grow_set (grow_set (grow_set (grow_set (grow_set (grow_set (grow_set (grow_set (grow_set (grow_set (World.grownBy.refl _ _) 0 _) 1 _) 2 _) 3 _) 4 _) 5 _) 6 _) 7 _) 8 _) 9 _)
      have yX := BX.size
      have Bf : Below w.heap.size w Wf := BX.grown hg BX.size (fun q hq => by have := Option.some.inj hq; omega)
      have f7 := (ox7.grow hg (fun q hq hq2 => by have := Option.some.inj hq; have := (ox7.lt q hq2).1; omega)).mono (B' := w.heap.size) (by omega)
      have f9 := (ox9.grow hg (fun q hq hq2 => by have := Option.some.inj hq; have := (ox9.lt q hq2).1; omega)).mono (B' := w.heap.size) (by omega)
      have Gf := K2f.cell
      clear hWf
      obtain ⟨hK, hG, hF, hN, hL⟩ := H.out
      exact bodyPost_ret (v := .tuple #[.agg #[.int .i64 7, .int .i64 0, .slice none 0 0, .int .i64 0, .slice none 0 0, .int .i64 g, .slice p7 i7 q7, .int .i64 0, .int .i64 0, .slice p9 i9 q9], .bool true]) (by simp [results, Tryz.results35, go_sem, Gf]) rfl
        ⟨none, 0, 0, none, 0, 0, p7, i7, q7, p9, i9, q9, by rw [hK, hG, hN, HRB.out, HB.out]; rfl, OwnW.nil _ _ _, OwnW.nil _ _ _, by rw [hF]; exact f7, by rw [hL, HRB.out]; exact f9,
          ⟨Apart.nil _ _ _, Apart.nil _ _ _, Apart.nil _ _ _, Apart.nil _ _ _, Apart.nil _ _ _, apx⟩, Bf⟩

end Go.Proofs.YtipejodijbjpcaaGreatDoor
end
