/- Claims of cuts. -/
import Derived.Test.YtbkgconoadicjaaCutS
import Derived.Test.YtbkgconoadicjaaGather
namespace Go.Proofs.Ytbkgconoadicjaa
open Go.RowKit Go.G5

def ccK (n : Int) (l : List Int) : Int := if fitB n l then 5 else 0
def ccN (n : Int) (l : List Int) : Int := if fitB n l then n else 0
def ccL (n : Int) (l : List Int) : List Int := if fitB n l then l else []
theorem ccL_len (n : Int) (l : List Int) (h : l.length ≤ 1048576) : (ccL n l).length ≤ 1048576 := by unfold ccL; split <;> simp_all

set_option maxHeartbeats 1000000 in
set_option maxRecDepth 100000 in
theorem copyFun_any (w : World) (n : Int) (v : Value) (l : List Int) (hv : Ints w v l) (hl : l.length ≤ 1048576) :
    Calls Try.prog 94 #[.agg #[.int .i64 n, v]] w fun e w' => ∃ ad i cp, e = .returned (.agg #[.int .i64 n, .slice ad i cp]) ∧ OwnI 3 w.heap.size w' (.slice ad i cp) l ∧ Below w.heap.size w w' := by
  obtain ⟨a, c, rfl⟩ := hv.shape
  have hll : ([] : List Int).length + l.length ≤ 17592186044416 := by simp; omega
  have HLL := Lib.hid hll
  clear hll
  go_enter Try.func94, Try.ntmps94
  go_wp2_with fail
  obtain ⟨V, hV⟩ : ∃ V, V = (w.alloc (.cells #[.int .i64 n, .slice a l.length c] 54)).alloc (.cells #[.int .i64 0, .slice none 0 0] 54) := ⟨_, rfl⟩
  rw [← hV]
  have B : Below w.heap.size w V := by rw [hV]; exact bl2 _ _ _
  have K1 : Blk V w.heap.size 54 #[.int .i64 n, .slice a l.length c] := by rw [hV]; exact (Blk.new _ _ _).alloc _
  have K2 : Blk V (w.heap.size + 1) 54 #[.int .i64 0, .slice none 0 0] := by rw [hV]; have := Blk.new (w.alloc (.cells #[.int .i64 n, .slice a l.length c] 54)) 54 #[.int .i64 0, .slice none 0 0]; simpa using this
  clear hV
  have hv1 := hv.below B (Nat.le_refl _)
  have e1 : V.cell? ⟨w.heap.size, 0, none⟩ = some (.int .i64 n) := K1.cell 0
  have e2 : V.cell? ⟨w.heap.size, 1, none⟩ = some (.slice a l.length c) := K1.cell 1
  have z2 := K2.lt
  have z1 := K1.lt
  go_region_held3 (fun w' => w'.cell? ⟨w.heap.size, 0, none⟩ = some (.int .i64 n) ∧ w'.cell? ⟨w.heap.size, 1, none⟩ = some (.slice a l.length c)) (go_keep)
    (first
      | (go_at_call 107; refine (clone_any _ l _ ?_ hl).mono ?_; (with_reducible exact hv1.drew'); rintro e1' w7 ⟨p7, i7, q7, rfl, o7', b7⟩; have o7 : OwnI 3 V.heap.size w7 (.slice p7 i7 q7) l := o7'; have K7 := (K2.drewN 1).keep b7; have G2 := K7.cell; have F2 := K7.frozen; have z7 := K7.lt; obtain ⟨hc1, hf1⟩ := bcellN b7 V.heap.size (Nat.le_refl _)))
  go_wp2
  refine post_named ?_
  intro Wf hWf
  have K2f : Blk Wf (w.heap.size + 1) 54 #[.int .i64 n, .slice p7 i7 q7] := by
    rw [hWf]
    have := (K7.set 0 (.int .i64 n)).set 1 (.slice p7 i7 q7)
    simpa using this
  have hg : w7.grownBy Wf (some (w.heap.size + 1)) := by rw [hWf]; exact grow_set (grow_set (World.grownBy.refl _ _) 0 _) 1 _
  have B7 : Below w.heap.size w w7 := by first | exact B.after b7 B.size | exact (B.drewN' 1).after b7 B.size
  have y7 := B7.size
  have yB := B.size
  have Bf : Below w.heap.size w Wf := B7.grown hg B7.size (fun q hq => by have := Option.some.inj hq; omega)
  have of := (o7.grow hg (fun q hq hq2 => by have := Option.some.inj hq; have := (o7.lt q hq2).1; omega)).mono (B' := w.heap.size) (by omega)
  have Gf := K2f.cell
  clear hWf
  exact bodyPost_ret (v := .agg #[.int .i64 n, .slice p7 i7 q7]) (by simp [results, Try.results94, go_sem, Gf]) rfl ⟨p7, i7, q7, rfl, of, Bf⟩
set_option maxHeartbeats 1000000 in
set_option maxRecDepth 100000 in
theorem l33Copy_any (w : World) (n : Int) (v : Value) (l : List Int) (hv : Ints w v l) (hl : l.length ≤ 1048576) :
    Calls Try.prog 92 #[.agg #[.int .i64 n, v]] w fun e w' => ∃ ad i cp, e = .returned (.agg #[.int .i64 n, .slice ad i cp]) ∧ OwnI 3 w.heap.size w' (.slice ad i cp) l ∧ Below w.heap.size w w' := by
  obtain ⟨a, c, rfl⟩ := hv.shape
  have hll : ([] : List Int).length + l.length ≤ 17592186044416 := by simp; omega
  have HLL := Lib.hid hll
  clear hll
  go_enter Try.func92, Try.ntmps92
  go_wp2_with fail
  obtain ⟨V, hV⟩ : ∃ V, V = (w.alloc (.cells #[.int .i64 n, .slice a l.length c] 54)).alloc (.cells #[.int .i64 0, .slice none 0 0] 54) := ⟨_, rfl⟩
  rw [← hV]
  have B : Below w.heap.size w V := by rw [hV]; exact bl2 _ _ _
  have K1 : Blk V w.heap.size 54 #[.int .i64 n, .slice a l.length c] := by rw [hV]; exact (Blk.new _ _ _).alloc _
  have K2 : Blk V (w.heap.size + 1) 54 #[.int .i64 0, .slice none 0 0] := by rw [hV]; have := Blk.new (w.alloc (.cells #[.int .i64 n, .slice a l.length c] 54)) 54 #[.int .i64 0, .slice none 0 0]; simpa using this
  clear hV
  have hv1 := hv.below B (Nat.le_refl _)
  have e1 : V.cell? ⟨w.heap.size, 0, none⟩ = some (.int .i64 n) := K1.cell 0
  have e2 : V.cell? ⟨w.heap.size, 1, none⟩ = some (.slice a l.length c) := K1.cell 1
  have z2 := K2.lt
  have z1 := K1.lt
  go_region_held3 (fun w' => w'.cell? ⟨w.heap.size, 0, none⟩ = some (.int .i64 n) ∧ w'.cell? ⟨w.heap.size, 1, none⟩ = some (.slice a l.length c)) (go_keep)
    (first
      | (refine step_put rfl _ _ _ rfl 3 Try.underlying22 intElem V.heap.size (.slice (some ⟨_, 0, none⟩) 0 0) [] rfl (.slice a l.length c) l rfl ?_ ?_ HLL.out V ?_ (Nat.le_refl _) ?_; (with_reducible exact (OwnI.lit0 V (Nat.le_refl _)).drew'); (with_reducible exact (hv1.alloc _).drew'); (with_reducible exact (bl1 V _).drew); (intro v7 w7 o7 b7 _; obtain ⟨p7, i7, q7, rfl⟩ := o7.shape3; have K7 := K2.keep b7; have G2 := K7.cell; have F2 := K7.frozen; have z7 := K7.lt; obtain ⟨hc1, hf1⟩ := bcellN b7 V.heap.size (Nat.le_refl _))))
  go_wp2
  refine post_named ?_
  intro Wf hWf
  have K2f : Blk Wf (w.heap.size + 1) 54 #[.int .i64 n, .slice p7 i7 q7] := by
    rw [hWf]
    have := (K7.set 0 (.int .i64 n)).set 1 (.slice p7 i7 q7)
    simpa using this
  have hg : w7.grownBy Wf (some (w.heap.size + 1)) := by rw [hWf]; exact grow_set (grow_set (World.grownBy.refl _ _) 0 _) 1 _
  have B7 : Below w.heap.size w w7 := by first | exact B.after b7 B.size | exact (B.drewN' 1).after b7 B.size
  have y7 := B7.size
  have yB := B.size
  have Bf : Below w.heap.size w Wf := B7.grown hg B7.size (fun q hq => by have := Option.some.inj hq; omega)
  have of := (o7.grow hg (fun q hq hq2 => by have := Option.some.inj hq; have := (o7.lt q hq2).1; omega)).mono (B' := w.heap.size) (by omega)
  have Gf := K2f.cell
  clear hWf
  exact bodyPost_ret (v := .agg #[.int .i64 n, .slice p7 i7 q7]) (by simp [results, Try.results92, go_sem, Gf]) rfl ⟨p7, i7, q7, rfl, of, Bf⟩
set_option maxHeartbeats 2000000 in
set_option maxRecDepth 100000 in
theorem claimCutI_c (w : World) (n : Int) (v : Value) (l : List Int) (hv : Ints w v l) (hl : l.length ≤ 1048576) :
    Calls Try.prog 39 #[.agg #[.int .i64 n, v]] w fun e w' => ∃ p0 i0 q0 p1 i1 q1 p2 i2 q2 p3 i3 q3, e = .returned (.tuple #[.agg #[.int .i64 (ccK n l), .int .i64 (ccN n l), .slice p0 i0 q0, .int .i64 0, .slice p1 i1 q1, .int .i64 0, .slice p2 i2 q2, .int .i64 (cutN n l), .int .i64 (cutS n l), .slice p3 i3 q3], .bool (fitB n l)]) ∧ OwnW 3 w.heap.size w' (.slice p0 i0 q0) (ccL n l) ∧ OwnW 3 w.heap.size w' (.slice p1 i1 q1) [] ∧ OwnW 3 w.heap.size w' (.slice p2 i2 q2) [] ∧ OwnW 3 w.heap.size w' (.slice p3 i3 q3) [] ∧ (Apart (.slice p0 i0 q0) (.slice p1 i1 q1) ∧ Apart (.slice p0 i0 q0) (.slice p2 i2 q2) ∧ Apart (.slice p0 i0 q0) (.slice p3 i3 q3) ∧ Apart (.slice p1 i1 q1) (.slice p2 i2 q2) ∧ Apart (.slice p1 i1 q1) (.slice p3 i3 q3) ∧ Apart (.slice p2 i2 q2) (.slice p3 i3 q3)) ∧ Below w.heap.size w w' := by
  obtain ⟨a, c, rfl⟩ := hv.shape
  go_enter Try.func39, Try.ntmps39
  go_wp2_with fail
  refine calls_named ?_
  intro V hV
  have B : Below w.heap.size w V := by rw [hV]; exact bl2 _ _ _
  have K1 : Blk V w.heap.size 54 #[.int .i64 n, .slice a l.length c] := by rw [hV]; exact (Blk.new _ _ _).alloc _
  have K2 : Blk V (w.heap.size + 1) 56 #[.int .i64 0, .int .i64 0, .slice none 0 0, .int .i64 0, .slice none 0 0, .int .i64 0, .slice none 0 0, .int .i64 0, .int .i64 0, .slice none 0 0] := by rw [hV]; have := Blk.new (w.alloc (.cells #[.int .i64 n, .slice a l.length c] 54)) 56 #[.int .i64 0, .int .i64 0, .slice none 0 0, .int .i64 0, .slice none 0 0, .int .i64 0, .slice none 0 0, .int .i64 0, .int .i64 0, .slice none 0 0]; simpa using this
  clear hV
  refine (minCutI_c _ n _ l (hv.below B (Nat.le_refl _)) hl).mono ?_
  rintro e w1 ⟨rfl, hb1⟩
  have K1 := K1.keep hb1
  have K2 := K2.keep hb1
  have B1 := B.after hb1 B.size
  have hv1 := hv.below B1 (Nat.le_refl _)
  have z1 := K1.lt
  have z2 := K2.lt
  clear hb1 B
  cases hf : fitB n l with
  | false =>
    have hK : ccK n l = 0 := by unfold ccK; rw [hf]; rfl
    have hN : ccN n l = 0 := by unfold ccN; rw [hf]; rfl
    have hL : ccL n l = [] := by unfold ccL; rw [hf]; rfl
    have hcN : cutN n l = 0 := by unfold cutN; rw [hf]; rfl
    have hcS : cutS n l = 0 := by unfold cutS; rw [hf]; rfl
    have H := Lib.hid (And.intro hK (And.intro hN (And.intro hL (And.intro hcN hcS))))
    have HB := Lib.hid hf
    clear hK hN hL hcN hcS hf
    have G2 := K2.cell
    have F2 := K2.frozen
    go_wp2
    refine post_named ?_
    intro Wf hWf
    have K2f : Blk Wf (w.heap.size + 1) 56 #[.int .i64 0, .int .i64 0, .slice none 0 0, .int .i64 0, .slice none 0 0, .int .i64 0, .slice none 0 0, .int .i64 0, .int .i64 0, .slice none 0 0] := by
      rw [hWf]
      have := (((((((((K2.set 0 (.int .i64 0)).set 1 (.int .i64 0)).set 2 (.slice none 0 0)).set 3 (.int .i64 0)).set 4 (.slice none 0 0)).set 5 (.int .i64 0)).set 6 (.slice none 0 0)).set 7 (.int .i64 0)).set 8 (.int .i64 0)).set 9 (.slice none 0 0)
      simpa using this
    have hg : w1.grownBy Wf (some (w.heap.size + 1)) := by
      rw [hWf]
      exact (grow_set (grow_set (grow_set (grow_set (grow_set (grow_set (grow_set (grow_set (grow_set (grow_set (World.grownBy.refl _ _) 0 _) 1 _) 2 _) 3 _) 4 _) 5 _) 6 _) 7 _) 8 _) 9 _)
    have Bf : Below w.heap.size w Wf := B1.grown hg B1.size (fun q hq => by have := Option.some.inj hq; omega)
    have Gf := K2f.cell
    clear hWf G2 F2
    obtain ⟨hK, hN, hL, hcN, hcS⟩ := H.out
    exact bodyPost_ret (v := .tuple #[.agg #[.int .i64 0, .int .i64 0, .slice none 0 0, .int .i64 0, .slice none 0 0, .int .i64 0, .slice none 0 0, .int .i64 0, .int .i64 0, .slice none 0 0], .bool false]) (by simp [results, Try.results39, go_sem, Gf]) rfl
      ⟨none, 0, 0, none, 0, 0, none, 0, 0, none, 0, 0, by rw [hK, hN, hcN, hcS, HB.out], by rw [hL]; exact OwnW.nil _ _ _, OwnW.nil _ _ _, OwnW.nil _ _ _, OwnW.nil _ _ _,
        ⟨Apart.nil _ _ _, Apart.nil _ _ _, Apart.nil _ _ _, Apart.nil _ _ _, Apart.nil _ _ _, Apart.nil _ _ _⟩, Bf⟩
  | true =>
    have hK : ccK n l = 5 := by unfold ccK; rw [hf]; rfl
    have hN : ccN n l = n := by unfold ccN; rw [hf]; rfl
    have hL : ccL n l = l := by unfold ccL; rw [hf]; rfl
    have H := Lib.hid (And.intro hK (And.intro hN hL))
    have HB := Lib.hid hf
    obtain ⟨cn, hcn⟩ : ∃ q, q = cutN n l := ⟨_, rfl⟩
    obtain ⟨cs, hcs⟩ : ∃ q, q = cutS n l := ⟨_, rfl⟩
    rw [← hcn, ← hcs]
    have HCN := Lib.hid hcn
    have HCS := Lib.hid hcs
    clear hK hN hL hf hcn hcs
    have G1 := K1.cell
    go_wp2_with fail
    refine (copyFun_any _ n _ l hv1 hl).mono ?_
    rintro e w7 ⟨p7, i7, q7, rfl, o7, hb7⟩
    have K7 := K2.keep hb7
    have B7 := B1.after hb7 B1.size
    have ox7 := o7.toW.mono (B' := w.heap.size + 2) (by omega)
    have G2 := K7.cell
    have F2 := K7.frozen
    have z7 := K7.lt
    clear hb7 G1 o7
    go_wp2
    refine post_named ?_
    intro Wf hWf
    have K2f : Blk Wf (w.heap.size + 1) 56 #[.int .i64 5, .int .i64 n, .slice p7 i7 q7, .int .i64 0, .slice none 0 0, .int .i64 0, .slice none 0 0, .int .i64 cn, .int .i64 cs, .slice none 0 0] := by
      rw [hWf]
      have := (((((((((K7.set 0 (.int .i64 5)).set 1 (.int .i64 n)).set 2 (.slice p7 i7 q7)).set 3 (.int .i64 0)).set 4 (.slice none 0 0)).set 5 (.int .i64 0)).set 6 (.slice none 0 0)).set 7 (.int .i64 cn)).set 8 (.int .i64 cs)).set 9 (.slice none 0 0)
      simpa using this
    have hg : w7.grownBy Wf (some (w.heap.size + 1)) := by
      rw [hWf]
      exact (grow_set (grow_set (grow_set (grow_set (grow_set (grow_set (grow_set (grow_set (grow_set (grow_set (World.grownBy.refl _ _) 0 _) 1 _) 2 _) 3 _) 4 _) 5 _) 6 _) 7 _) 8 _) 9 _)
    have y7 := B7.size
    have Bf : Below w.heap.size w Wf := B7.grown hg B7.size (fun q hq => by have := Option.some.inj hq; omega)
    have f7 := (ox7.grow hg (fun q hq hq2 => by have := Option.some.inj hq; have := (ox7.lt q hq2).1; omega)).mono (B' := w.heap.size) (by omega)
    have Gf := K2f.cell
    clear hWf
    obtain ⟨hK, hN, hL⟩ := H.out
    exact bodyPost_ret (v := .tuple #[.agg #[.int .i64 5, .int .i64 n, .slice p7 i7 q7, .int .i64 0, .slice none 0 0, .int .i64 0, .slice none 0 0, .int .i64 cn, .int .i64 cs, .slice none 0 0], .bool true]) (by simp [results, Try.results39, go_sem, Gf]) rfl
      ⟨p7, i7, q7, none, 0, 0, none, 0, 0, none, 0, 0, by rw [hK, hN, HCN.out, HCS.out, HB.out], by rw [hL]; exact f7, OwnW.nil _ _ _, OwnW.nil _ _ _, OwnW.nil _ _ _,
        ⟨(Apart.nil _ _ _).symm, (Apart.nil _ _ _).symm, (Apart.nil _ _ _).symm, Apart.nil _ _ _, Apart.nil _ _ _, Apart.nil _ _ _⟩, Bf⟩
set_option maxHeartbeats 2000000 in
set_option maxRecDepth 100000 in
theorem claimCutS_c (w : World) (n : Int) (v : Value) (l : List Int) (hv : Ints w v l) (hl : l.length ≤ 1048576) :
    Calls Try.prog 37 #[.agg #[.int .i64 n, v]] w fun e w' => ∃ p0 i0 q0 p1 i1 q1 p2 i2 q2 p3 i3 q3, e = .returned (.tuple #[.agg #[.int .i64 (ccK n l), .int .i64 (ccN n l), .slice p0 i0 q0, .int .i64 0, .slice p1 i1 q1, .int .i64 0, .slice p2 i2 q2, .int .i64 (cutN n l), .int .i64 (cutS n l), .slice p3 i3 q3], .bool (fitB n l)]) ∧ OwnW 3 w.heap.size w' (.slice p0 i0 q0) (ccL n l) ∧ OwnW 3 w.heap.size w' (.slice p1 i1 q1) [] ∧ OwnW 3 w.heap.size w' (.slice p2 i2 q2) [] ∧ OwnW 3 w.heap.size w' (.slice p3 i3 q3) [] ∧ (Apart (.slice p0 i0 q0) (.slice p1 i1 q1) ∧ Apart (.slice p0 i0 q0) (.slice p2 i2 q2) ∧ Apart (.slice p0 i0 q0) (.slice p3 i3 q3) ∧ Apart (.slice p1 i1 q1) (.slice p2 i2 q2) ∧ Apart (.slice p1 i1 q1) (.slice p3 i3 q3) ∧ Apart (.slice p2 i2 q2) (.slice p3 i3 q3)) ∧ Below w.heap.size w w' := by
  obtain ⟨a, c, rfl⟩ := hv.shape
  go_enter Try.func37, Try.ntmps37
  go_wp2_with fail
  refine calls_named ?_
  intro V hV
  have B : Below w.heap.size w V := by rw [hV]; exact bl2 _ _ _
  have K1 : Blk V w.heap.size 54 #[.int .i64 n, .slice a l.length c] := by rw [hV]; exact (Blk.new _ _ _).alloc _
  have K2 : Blk V (w.heap.size + 1) 56 #[.int .i64 0, .int .i64 0, .slice none 0 0, .int .i64 0, .slice none 0 0, .int .i64 0, .slice none 0 0, .int .i64 0, .int .i64 0, .slice none 0 0] := by rw [hV]; have := Blk.new (w.alloc (.cells #[.int .i64 n, .slice a l.length c] 54)) 56 #[.int .i64 0, .int .i64 0, .slice none 0 0, .int .i64 0, .slice none 0 0, .int .i64 0, .slice none 0 0, .int .i64 0, .int .i64 0, .slice none 0 0]; simpa using this
  clear hV
  refine (minCutS_c _ n _ l (hv.below B (Nat.le_refl _)) hl).mono ?_
  rintro e w1 ⟨rfl, hb1⟩
  have K1 := K1.keep hb1
  have K2 := K2.keep hb1
  have B1 := B.after hb1 B.size
  have hv1 := hv.below B1 (Nat.le_refl _)
  have z1 := K1.lt
  have z2 := K2.lt
  clear hb1 B
  cases hf : fitB n l with
  | false =>
    have hK : ccK n l = 0 := by unfold ccK; rw [hf]; rfl
    have hN : ccN n l = 0 := by unfold ccN; rw [hf]; rfl
    have hL : ccL n l = [] := by unfold ccL; rw [hf]; rfl
    have hcN : cutN n l = 0 := by unfold cutN; rw [hf]; rfl
    have hcS : cutS n l = 0 := by unfold cutS; rw [hf]; rfl
    have H := Lib.hid (And.intro hK (And.intro hN (And.intro hL (And.intro hcN hcS))))
    have HB := Lib.hid hf
    clear hK hN hL hcN hcS hf
    have G2 := K2.cell
    have F2 := K2.frozen
    go_wp2
    refine post_named ?_
    intro Wf hWf
    have K2f : Blk Wf (w.heap.size + 1) 56 #[.int .i64 0, .int .i64 0, .slice none 0 0, .int .i64 0, .slice none 0 0, .int .i64 0, .slice none 0 0, .int .i64 0, .int .i64 0, .slice none 0 0] := by
      rw [hWf]
      have := (((((((((K2.set 0 (.int .i64 0)).set 1 (.int .i64 0)).set 2 (.slice none 0 0)).set 3 (.int .i64 0)).set 4 (.slice none 0 0)).set 5 (.int .i64 0)).set 6 (.slice none 0 0)).set 7 (.int .i64 0)).set 8 (.int .i64 0)).set 9 (.slice none 0 0)
      simpa using this
    have hg : w1.grownBy Wf (some (w.heap.size + 1)) := by
      rw [hWf]
      exact (grow_set (grow_set (grow_set (grow_set (grow_set (grow_set (grow_set (grow_set (grow_set (grow_set (World.grownBy.refl _ _) 0 _) 1 _) 2 _) 3 _) 4 _) 5 _) 6 _) 7 _) 8 _) 9 _)
    have Bf : Below w.heap.size w Wf := B1.grown hg B1.size (fun q hq => by have := Option.some.inj hq; omega)
    have Gf := K2f.cell
    clear hWf G2 F2
    obtain ⟨hK, hN, hL, hcN, hcS⟩ := H.out
    exact bodyPost_ret (v := .tuple #[.agg #[.int .i64 0, .int .i64 0, .slice none 0 0, .int .i64 0, .slice none 0 0, .int .i64 0, .slice none 0 0, .int .i64 0, .int .i64 0, .slice none 0 0], .bool false]) (by simp [results, Try.results37, go_sem, Gf]) rfl
      ⟨none, 0, 0, none, 0, 0, none, 0, 0, none, 0, 0, by rw [hK, hN, hcN, hcS, HB.out], by rw [hL]; exact OwnW.nil _ _ _, OwnW.nil _ _ _, OwnW.nil _ _ _, OwnW.nil _ _ _,
        ⟨Apart.nil _ _ _, Apart.nil _ _ _, Apart.nil _ _ _, Apart.nil _ _ _, Apart.nil _ _ _, Apart.nil _ _ _⟩, Bf⟩
  | true =>
    have hK : ccK n l = 5 := by unfold ccK; rw [hf]; rfl
    have hN : ccN n l = n := by unfold ccN; rw [hf]; rfl
    have hL : ccL n l = l := by unfold ccL; rw [hf]; rfl
    have H := Lib.hid (And.intro hK (And.intro hN hL))
    have HB := Lib.hid hf
    obtain ⟨cn, hcn⟩ : ∃ q, q = cutN n l := ⟨_, rfl⟩
    obtain ⟨cs, hcs⟩ : ∃ q, q = cutS n l := ⟨_, rfl⟩
    rw [← hcn, ← hcs]
    have HCN := Lib.hid hcn
    have HCS := Lib.hid hcs
    clear hK hN hL hf hcn hcs
    have G1 := K1.cell
    go_wp2_with fail
    refine (l33Copy_any _ n _ l hv1 hl).mono ?_
    rintro e w7 ⟨p7, i7, q7, rfl, o7, hb7⟩
    have K7 := K2.keep hb7
    have B7 := B1.after hb7 B1.size
    have ox7 := o7.toW.mono (B' := w.heap.size + 2) (by omega)
    have G2 := K7.cell
    have F2 := K7.frozen
    have z7 := K7.lt
    clear hb7 G1 o7
    go_wp2
    refine post_named ?_
    intro Wf hWf
    have K2f : Blk Wf (w.heap.size + 1) 56 #[.int .i64 5, .int .i64 n, .slice p7 i7 q7, .int .i64 0, .slice none 0 0, .int .i64 0, .slice none 0 0, .int .i64 cn, .int .i64 cs, .slice none 0 0] := by
      rw [hWf]
      have := (((((((((K7.set 0 (.int .i64 5)).set 1 (.int .i64 n)).set 2 (.slice p7 i7 q7)).set 3 (.int .i64 0)).set 4 (.slice none 0 0)).set 5 (.int .i64 0)).set 6 (.slice none 0 0)).set 7 (.int .i64 cn)).set 8 (.int .i64 cs)).set 9 (.slice none 0 0)
      simpa using this
    have hg : w7.grownBy Wf (some (w.heap.size + 1)) := by
      rw [hWf]
      exact (grow_set (grow_set (grow_set (grow_set (grow_set (grow_set (grow_set (grow_set (grow_set (grow_set (World.grownBy.refl _ _) 0 _) 1 _) 2 _) 3 _) 4 _) 5 _) 6 _) 7 _) 8 _) 9 _)
    have y7 := B7.size
    have Bf : Below w.heap.size w Wf := B7.grown hg B7.size (fun q hq => by have := Option.some.inj hq; omega)
    have f7 := (ox7.grow hg (fun q hq hq2 => by have := Option.some.inj hq; have := (ox7.lt q hq2).1; omega)).mono (B' := w.heap.size) (by omega)
    have Gf := K2f.cell
    clear hWf
    obtain ⟨hK, hN, hL⟩ := H.out
    exact bodyPost_ret (v := .tuple #[.agg #[.int .i64 5, .int .i64 n, .slice p7 i7 q7, .int .i64 0, .slice none 0 0, .int .i64 0, .slice none 0 0, .int .i64 cn, .int .i64 cs, .slice none 0 0], .bool true]) (by simp [results, Try.results37, go_sem, Gf]) rfl
      ⟨p7, i7, q7, none, 0, 0, none, 0, 0, none, 0, 0, by rw [hK, hN, HCN.out, HCS.out, HB.out], by rw [hL]; exact f7, OwnW.nil _ _ _, OwnW.nil _ _ _, OwnW.nil _ _ _,
        ⟨(Apart.nil _ _ _).symm, (Apart.nil _ _ _).symm, (Apart.nil _ _ _).symm, Apart.nil _ _ _, Apart.nil _ _ _, Apart.nil _ _ _⟩, Bf⟩
end Go.Proofs.Ytbkgconoadicjaa
