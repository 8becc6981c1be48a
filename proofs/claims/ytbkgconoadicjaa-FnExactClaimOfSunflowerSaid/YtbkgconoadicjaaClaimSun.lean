/- Claims of sunflowers. -/
import Derived.Test.YtbkgconoadicjaaSun
import Derived.Test.YtbkgconoadicjaaGather
import Derived.Test.YtbkgconoadicjaaMarkK
namespace Go.Proofs.Ytbkgconoadicjaa
open Go.RowKit Go.G5

def csK (g : Int) (l : List Int) (k : Int) : Int := if sunB g l k then 6 else 0
def csG (g : Int) (l : List Int) (k : Int) : Int := if sunB g l k then g else 0
def csF (g : Int) (l : List Int) (k : Int) : List Int := if sunB g l k then l else []
def csN (g : Int) (l : List Int) (k : Int) : Int := if sunB g l k then k else 0
theorem csF_len (g : Int) (l : List Int) (k : Int) (h : l.length ≤ 1048576) : (csF g l k).length ≤ 1048576 := by unfold csF; split <;> simp_all
theorem csL_len (g : Int) (l : List Int) (k : Int) : (sunL g l k).length ≤ 1048576 := Nat.le_trans (sunL_len g l k) (by omega)
theorem sunB_fam {g : Int} {l : List Int} {k : Int} (h : sunB g l k = true) : isFamB g l = true := by
  unfold sunB sunR sunOk at h
  cases hf : isFamB g l with
  | true => rfl
  | false => rw [hf] at h; simp at h
theorem sunL_none {g : Int} {l : List Int} {k : Int} (h : sunB g l k = false) : sunL g l k = [] := by
  unfold sunB at h
  unfold sunL
  cases hr : sunR g l k with
  | none => rfl
  | some x => rw [hr] at h; simp at h

set_option maxHeartbeats 2000000 in
set_option maxRecDepth 100000 in
theorem claimSunI_c (w : World) (g : Int) (v : Value) (l : List Int) (hv : Ints w v l) (hl : l.length ≤ 1048576) (k : Int) (hk : InR k) :
    Calls Try.prog 73 #[.agg #[.int .i64 g, v], .int .i64 k] w fun e w' => ∃ p0 i0 q0 p1 i1 q1 p2 i2 q2 p3 i3 q3, e = .returned (.tuple #[.agg #[.int .i64 (csK g l k), .int .i64 0, .slice p0 i0 q0, .int .i64 0, .slice p1 i1 q1, .int .i64 (csG g l k), .slice p2 i2 q2, .int .i64 (csN g l k), .int .i64 0, .slice p3 i3 q3], .bool (sunB g l k)]) ∧ OwnW 3 w.heap.size w' (.slice p0 i0 q0) [] ∧ OwnW 3 w.heap.size w' (.slice p1 i1 q1) [] ∧ OwnW 3 w.heap.size w' (.slice p2 i2 q2) (csF g l k) ∧ OwnW 3 w.heap.size w' (.slice p3 i3 q3) (sunL g l k) ∧ (Apart (.slice p0 i0 q0) (.slice p1 i1 q1) ∧ Apart (.slice p0 i0 q0) (.slice p2 i2 q2) ∧ Apart (.slice p0 i0 q0) (.slice p3 i3 q3) ∧ Apart (.slice p1 i1 q1) (.slice p2 i2 q2) ∧ Apart (.slice p1 i1 q1) (.slice p3 i3 q3) ∧ Apart (.slice p2 i2 q2) (.slice p3 i3 q3)) ∧ Below w.heap.size w w' := by
  obtain ⟨a, c, rfl⟩ := hv.shape
  go_enter Try.func73, Try.ntmps73
  go_wp2_with fail
  refine calls_named ?_
  intro V hV
  have B : Below w.heap.size w V := by rw [hV]; exact bl2 _ _ _
  have K1 : Blk V w.heap.size 29 #[.int .i64 g, .slice a l.length c] := by rw [hV]; exact (Blk.new _ _ _).alloc _
  have K2 : Blk V (w.heap.size + 1) 56 #[.int .i64 0, .int .i64 0, .slice none 0 0, .int .i64 0, .slice none 0 0, .int .i64 0, .slice none 0 0, .int .i64 0, .int .i64 0, .slice none 0 0] := by rw [hV]; have := Blk.new (w.alloc (.cells #[.int .i64 g, .slice a l.length c] 29)) 56 #[.int .i64 0, .int .i64 0, .slice none 0 0, .int .i64 0, .slice none 0 0, .int .i64 0, .slice none 0 0, .int .i64 0, .int .i64 0, .slice none 0 0]; simpa using this
  clear hV
  have hVs : w.heap.size + 2 ≤ V.heap.size := by have := K2.lt; omega
  refine (findSunI_c _ g _ l (hv.below B (Nat.le_refl _)) hl k hk).mono ?_
  rintro e w1 ⟨p1, i1, q1, rfl, o1, hb1⟩
  have K1 := K1.keep hb1
  have K2 := K2.keep hb1
  have z0 := B.size
  have B1 := B.after hb1 B.size
  have hv1 := hv.below B1 (Nat.le_refl _)
  have z1 := K1.lt
  have z2 := K2.lt
  have o1 := o1.mono (B' := w.heap.size + 2) (by have := hVs; omega)
  clear hb1 B
  cases hb : sunB g l k with
  | false =>
    have hK : csK g l k = 0 := by unfold csK; rw [hb]; rfl
    have hG : csG g l k = 0 := by unfold csG; rw [hb]; rfl
    have hF : csF g l k = [] := by unfold csF; rw [hb]; rfl
    have hN : csN g l k = 0 := by unfold csN; rw [hb]; rfl
    have hL := sunL_none hb
    have H := Lib.hid (And.intro hK (And.intro hG (And.intro hF (And.intro hN hL))))
    have HB := Lib.hid hb
    clear hK hG hF hN hL hb
    have G2 := K2.cell
    have F2 := K2.frozen
    go_wp2
    refine post_named ?_
    intro Wf hWf
    have K2f : Blk Wf (w.heap.size + 1) 56 #[.int .i64 0, .int .i64 0, .slice none 0 0, .int .i64 0, .slice none 0 0, .int .i64 0, .slice none 0 0, .int .i64 0, .int .i64 0, .slice none 0 0] := by
      rw [hWf]
      have := (((((((((K2.set 0 (.int .i64 0)).set 1 (.int .i64 0)).set 2 (.slice none 0 0)).set 3 (.int .i64 0)).set 4 (.slice none 0 0)).set 5 (.int .i64 0)).set 6 (.slice none 0 0)).set 7 (.int .i64 0)).set 8 (.int .i64 0)).set 9 (.slice none 0 0)
      simpa using this
    have hg : w1.grownBy Wf (some (w.heap.size + 1)) := by
      rw [hWf]
      exact (grow_set (grow_set (grow_set (grow_set (grow_set (grow_set (grow_set (grow_set (grow_set (grow_set (World.grownBy.refl _ _) 0 _) 1 _) 2 _) 3 _) 4 _) 5 _) 6 _) 7 _) 8 _) 9 _)
    have Bf : Below w.heap.size w Wf := B1.grown hg B1.size (fun q hq => by have := Option.some.inj hq; omega)
    have Gf := K2f.cell
    clear hWf G2 F2
    obtain ⟨hK, hG, hF, hN, hL⟩ := H.out
    exact bodyPost_ret (v := .tuple #[.agg #[.int .i64 0, .int .i64 0, .slice none 0 0, .int .i64 0, .slice none 0 0, .int .i64 0, .slice none 0 0, .int .i64 0, .int .i64 0, .slice none 0 0], .bool false]) (by simp [results, Try.results73, go_sem, Gf]) rfl
      ⟨none, 0, 0, none, 0, 0, none, 0, 0, none, 0, 0, by rw [hK, hG, hN, HB.out], OwnW.nil _ _ _, OwnW.nil _ _ _, by rw [hF]; exact OwnW.nil _ _ _, by rw [hL]; exact OwnW.nil _ _ _,
        ⟨Apart.nil _ _ _, Apart.nil _ _ _, Apart.nil _ _ _, Apart.nil _ _ _, Apart.nil _ _ _, Apart.nil _ _ _⟩, Bf⟩
  | true =>
    have hK : csK g l k = 6 := by unfold csK; rw [hb]; rfl
    have hG : csG g l k = g := by unfold csG; rw [hb]; rfl
    have hF : csF g l k = l := by unfold csF; rw [hb]; rfl
    have hN : csN g l k = k := by unfold csN; rw [hb]; rfl
    have hasc := (famOk (sunB_fam hb)).2.2.2
    have hgl := gatherL_id l hasc
    have H := Lib.hid (And.intro hK (And.intro hG (And.intro hF hN)))
    have HB := Lib.hid hb
    have HGL := Lib.hid hgl
    clear hK hG hF hN hasc hgl hb
    have G1 := K1.cell
    go_wp2_with fail
    refine (gather_any g _ l _ hv1 hl).mono ?_
    rintro e w7 ⟨p7, i7, q7, rfl, o7, hb7⟩
    rw [HGL.out] at o7
    have K7 := K2.keep hb7
    have B7 := B1.after hb7 B1.size
    have apx : Apart (.slice p7 i7 q7) (.slice p1 i1 q1) := (Apart.of_lt o1 o7 (Nat.le_refl _)).symm
    have ox1 := o1.keep hb7
    have ox7 := o7.mono (B' := w.heap.size + 2) (by omega)
    have G2 := K7.cell
    have F2 := K7.frozen
    have z7 := K7.lt
    clear hb7 G1 o7
    go_wp2
    refine post_named ?_
    intro Wf hWf
    have K2f : Blk Wf (w.heap.size + 1) 56 #[.int .i64 6, .int .i64 0, .slice none 0 0, .int .i64 0, .slice none 0 0, .int .i64 g, .slice p7 i7 q7, .int .i64 k, .int .i64 0, .slice p1 i1 q1] := by
      rw [hWf]
      have := (((((((((K7.set 0 (.int .i64 6)).set 1 (.int .i64 0)).set 2 (.slice none 0 0)).set 3 (.int .i64 0)).set 4 (.slice none 0 0)).set 5 (.int .i64 g)).set 6 (.slice p7 i7 q7)).set 7 (.int .i64 k)).set 8 (.int .i64 0)).set 9 (.slice p1 i1 q1)
      simpa using this
    have hg : w7.grownBy Wf (some (w.heap.size + 1)) := by
      rw [hWf]
      exact (grow_set (grow_set (grow_set (grow_set (grow_set (grow_set (grow_set (grow_set (grow_set (grow_set (World.grownBy.refl _ _) 0 _) 1 _) 2 _) 3 _) 4 _) 5 _) 6 _) 7 _) 8 _) 9 _)
    have y7 := B7.size
    have Bf : Below w.heap.size w Wf := B7.grown hg B7.size (fun q hq => by have := Option.some.inj hq; omega)
    have f1 := (ox1.grow hg (fun q hq hq2 => by have := Option.some.inj hq; have := (ox1.lt q hq2).1; omega)).mono (B' := w.heap.size) (by omega)
    have f7 := (ox7.grow hg (fun q hq hq2 => by have := Option.some.inj hq; have := (ox7.lt q hq2).1; omega)).mono (B' := w.heap.size) (by omega)
    have Gf := K2f.cell
    clear hWf
    obtain ⟨hK, hG, hF, hN⟩ := H.out
    exact bodyPost_ret (v := .tuple #[.agg #[.int .i64 6, .int .i64 0, .slice none 0 0, .int .i64 0, .slice none 0 0, .int .i64 g, .slice p7 i7 q7, .int .i64 k, .int .i64 0, .slice p1 i1 q1], .bool true]) (by simp [results, Try.results73, go_sem, Gf]) rfl
      ⟨none, 0, 0, none, 0, 0, p7, i7, q7, p1, i1, q1, by rw [hK, hG, hN, HB.out], OwnW.nil _ _ _, OwnW.nil _ _ _, by rw [hF]; exact f7, f1,
        ⟨Apart.nil _ _ _, Apart.nil _ _ _, Apart.nil _ _ _, Apart.nil _ _ _, Apart.nil _ _ _, apx⟩, Bf⟩

set_option maxHeartbeats 2000000 in
set_option maxRecDepth 100000 in
theorem claimSunS_c (w : World) (g : Int) (v : Value) (l : List Int) (hv : Ints w v l) (hl : l.length ≤ 1048576) (k : Int) (hk : InR k) :
    Calls Try.prog 72 #[.agg #[.int .i64 g, v], .int .i64 k] w fun e w' => ∃ p0 i0 q0 p1 i1 q1 p2 i2 q2 p3 i3 q3, e = .returned (.tuple #[.agg #[.int .i64 (csK g l k), .int .i64 0, .slice p0 i0 q0, .int .i64 0, .slice p1 i1 q1, .int .i64 (csG g l k), .slice p2 i2 q2, .int .i64 (csN g l k), .int .i64 0, .slice p3 i3 q3], .bool (sunB g l k)]) ∧ OwnW 3 w.heap.size w' (.slice p0 i0 q0) [] ∧ OwnW 3 w.heap.size w' (.slice p1 i1 q1) [] ∧ OwnW 3 w.heap.size w' (.slice p2 i2 q2) (csF g l k) ∧ OwnW 3 w.heap.size w' (.slice p3 i3 q3) (sunL g l k) ∧ (Apart (.slice p0 i0 q0) (.slice p1 i1 q1) ∧ Apart (.slice p0 i0 q0) (.slice p2 i2 q2) ∧ Apart (.slice p0 i0 q0) (.slice p3 i3 q3) ∧ Apart (.slice p1 i1 q1) (.slice p2 i2 q2) ∧ Apart (.slice p1 i1 q1) (.slice p3 i3 q3) ∧ Apart (.slice p2 i2 q2) (.slice p3 i3 q3)) ∧ Below w.heap.size w w' := by
  obtain ⟨a, c, rfl⟩ := hv.shape
  go_enter Try.func72, Try.ntmps72
  go_wp2_with fail
  refine calls_named ?_
  intro V hV
  have B : Below w.heap.size w V := by rw [hV]; exact bl2 _ _ _
  have K1 : Blk V w.heap.size 29 #[.int .i64 g, .slice a l.length c] := by rw [hV]; exact (Blk.new _ _ _).alloc _
  have K2 : Blk V (w.heap.size + 1) 56 #[.int .i64 0, .int .i64 0, .slice none 0 0, .int .i64 0, .slice none 0 0, .int .i64 0, .slice none 0 0, .int .i64 0, .int .i64 0, .slice none 0 0] := by rw [hV]; have := Blk.new (w.alloc (.cells #[.int .i64 g, .slice a l.length c] 29)) 56 #[.int .i64 0, .int .i64 0, .slice none 0 0, .int .i64 0, .slice none 0 0, .int .i64 0, .slice none 0 0, .int .i64 0, .int .i64 0, .slice none 0 0]; simpa using this
  clear hV
  have hVs : w.heap.size + 2 ≤ V.heap.size := by have := K2.lt; omega
  refine (findSunS_c _ g _ l (hv.below B (Nat.le_refl _)) hl k hk).mono ?_
  rintro e w1 ⟨p1, i1, q1, rfl, o1, hb1⟩
  have K1 := K1.keep hb1
  have K2 := K2.keep hb1
  have z0 := B.size
  have B1 := B.after hb1 B.size
  have hv1 := hv.below B1 (Nat.le_refl _)
  have z1 := K1.lt
  have z2 := K2.lt
  have o1 := o1.mono (B' := w.heap.size + 2) (by have := hVs; omega)
  clear hb1 B
  cases hb : sunB g l k with
  | false =>
    have hK : csK g l k = 0 := by unfold csK; rw [hb]; rfl
    have hG : csG g l k = 0 := by unfold csG; rw [hb]; rfl
    have hF : csF g l k = [] := by unfold csF; rw [hb]; rfl
    have hN : csN g l k = 0 := by unfold csN; rw [hb]; rfl
    have hL := sunL_none hb
    have H := Lib.hid (And.intro hK (And.intro hG (And.intro hF (And.intro hN hL))))
    have HB := Lib.hid hb
    clear hK hG hF hN hL hb
    have G2 := K2.cell
    have F2 := K2.frozen
    go_wp2
    refine post_named ?_
    intro Wf hWf
    have K2f : Blk Wf (w.heap.size + 1) 56 #[.int .i64 0, .int .i64 0, .slice none 0 0, .int .i64 0, .slice none 0 0, .int .i64 0, .slice none 0 0, .int .i64 0, .int .i64 0, .slice none 0 0] := by
      rw [hWf]
      have := (((((((((K2.set 0 (.int .i64 0)).set 1 (.int .i64 0)).set 2 (.slice none 0 0)).set 3 (.int .i64 0)).set 4 (.slice none 0 0)).set 5 (.int .i64 0)).set 6 (.slice none 0 0)).set 7 (.int .i64 0)).set 8 (.int .i64 0)).set 9 (.slice none 0 0)
      simpa using this
    have hg : w1.grownBy Wf (some (w.heap.size + 1)) := by
      rw [hWf]
      exact (grow_set (grow_set (grow_set (grow_set (grow_set (grow_set (grow_set (grow_set (grow_set (grow_set (World.grownBy.refl _ _) 0 _) 1 _) 2 _) 3 _) 4 _) 5 _) 6 _) 7 _) 8 _) 9 _)
    have Bf : Below w.heap.size w Wf := B1.grown hg B1.size (fun q hq => by have := Option.some.inj hq; omega)
    have Gf := K2f.cell
    clear hWf G2 F2
    obtain ⟨hK, hG, hF, hN, hL⟩ := H.out
    exact bodyPost_ret (v := .tuple #[.agg #[.int .i64 0, .int .i64 0, .slice none 0 0, .int .i64 0, .slice none 0 0, .int .i64 0, .slice none 0 0, .int .i64 0, .int .i64 0, .slice none 0 0], .bool false]) (by simp [results, Try.results72, go_sem, Gf]) rfl
      ⟨none, 0, 0, none, 0, 0, none, 0, 0, none, 0, 0, by rw [hK, hG, hN, HB.out], OwnW.nil _ _ _, OwnW.nil _ _ _, by rw [hF]; exact OwnW.nil _ _ _, by rw [hL]; exact OwnW.nil _ _ _,
        ⟨Apart.nil _ _ _, Apart.nil _ _ _, Apart.nil _ _ _, Apart.nil _ _ _, Apart.nil _ _ _, Apart.nil _ _ _⟩, Bf⟩
  | true =>
    have hK : csK g l k = 6 := by unfold csK; rw [hb]; rfl
    have hG : csG g l k = g := by unfold csG; rw [hb]; rfl
    have hF : csF g l k = l := by unfold csF; rw [hb]; rfl
    have hN : csN g l k = k := by unfold csN; rw [hb]; rfl
    have hasc := (famOk (sunB_fam hb)).2.2.2
    have hgl := gatherL_id l hasc
    have H := Lib.hid (And.intro hK (And.intro hG (And.intro hF hN)))
    have HB := Lib.hid hb
    have HGL := Lib.hid hgl
    clear hK hG hF hN hasc hgl hb
    have hll : ([] : List Int).length + l.length ≤ 17592186044416 := by simp; omega
    have HLL := Lib.hid hll
    clear hll
    go_wp2_with fail
    have e1 : w1.cell? ⟨w.heap.size, 0, none⟩ = some (.int .i64 g) := K1.cell 0
    have e2 : w1.cell? ⟨w.heap.size, 1, none⟩ = some (.slice a l.length c) := K1.cell 1
    go_region_held3 (fun w' => w'.cell? ⟨w.heap.size, 0, none⟩ = some (.int .i64 g) ∧ w'.cell? ⟨w.heap.size, 1, none⟩ = some (.slice a l.length c)) (go_keep)
      (first
        | (refine step_put rfl _ _ _ rfl 3 Try.underlying22 intElem w1.heap.size (.slice (some ⟨_, 0, none⟩) 0 0) [] rfl (.slice a l.length c) l rfl ?_ ?_ HLL.out w1 ?_ (Nat.le_refl _) ?_; (with_reducible exact (OwnI.lit0 w1 (Nat.le_refl _)).drew'); (with_reducible exact (hv1.alloc _).drew'); (with_reducible exact (bl1 w1 _).drew); (intro v7 w7 o7 b7 _; obtain ⟨p7, i7, q7, rfl⟩ := o7.shape3; have K7 := K2.keep b7; have G2 := K7.cell; have F2 := K7.frozen; have z7 := K7.lt; obtain ⟨hc1, hf1⟩ := bcellN b7 w1.heap.size (Nat.le_refl _))))
    have B7 := B1.after b7 B1.size
    have apx : Apart (.slice p7 i7 q7) (.slice p1 i1 q1) := (Apart.of_lt o1 o7.toW (Nat.le_refl _)).symm
    have ox1 := o1.keep b7
    have ox7 := o7.toW.mono (B' := w.heap.size + 2) (by omega)
    clear e1 e2
    go_wp2
    refine post_named ?_
    intro Wf hWf
    have K2f : Blk Wf (w.heap.size + 1) 56 #[.int .i64 6, .int .i64 0, .slice none 0 0, .int .i64 0, .slice none 0 0, .int .i64 g, .slice p7 i7 q7, .int .i64 k, .int .i64 0, .slice p1 i1 q1] := by
      rw [hWf]
      have := (((((((((K7.set 0 (.int .i64 6)).set 1 (.int .i64 0)).set 2 (.slice none 0 0)).set 3 (.int .i64 0)).set 4 (.slice none 0 0)).set 5 (.int .i64 g)).set 6 (.slice p7 i7 q7)).set 7 (.int .i64 k)).set 8 (.int .i64 0)).set 9 (.slice p1 i1 q1)
      simpa using this
    have hg : w7.grownBy Wf (some (w.heap.size + 1)) := by
      rw [hWf]
      exact (grow_set (grow_set (grow_set (grow_set (grow_set (grow_set (grow_set (grow_set (grow_set (grow_set (World.grownBy.refl _ _) 0 _) 1 _) 2 _) 3 _) 4 _) 5 _) 6 _) 7 _) 8 _) 9 _)
    have y7 := B7.size
    have Bf : Below w.heap.size w Wf := B7.grown hg B7.size (fun q hq => by have := Option.some.inj hq; omega)
    have f1 := (ox1.grow hg (fun q hq hq2 => by have := Option.some.inj hq; have := (ox1.lt q hq2).1; omega)).mono (B' := w.heap.size) (by omega)
    have f7 := (ox7.grow hg (fun q hq hq2 => by have := Option.some.inj hq; have := (ox7.lt q hq2).1; omega)).mono (B' := w.heap.size) (by omega)
    have Gf := K2f.cell
    clear hWf
    obtain ⟨hK, hG, hF, hN⟩ := H.out
    exact bodyPost_ret (v := .tuple #[.agg #[.int .i64 6, .int .i64 0, .slice none 0 0, .int .i64 0, .slice none 0 0, .int .i64 g, .slice p7 i7 q7, .int .i64 k, .int .i64 0, .slice p1 i1 q1], .bool true]) (by simp [results, Try.results72, go_sem, Gf]) rfl
      ⟨none, 0, 0, none, 0, 0, p7, i7, q7, p1, i1, q1, by rw [hK, hG, hN, HB.out], OwnW.nil _ _ _, OwnW.nil _ _ _, by rw [hF]; exact f7, f1,
        ⟨Apart.nil _ _ _, Apart.nil _ _ _, Apart.nil _ _ _, Apart.nil _ _ _, Apart.nil _ _ _, apx⟩, Bf⟩
end Go.Proofs.Ytbkgconoadicjaa
