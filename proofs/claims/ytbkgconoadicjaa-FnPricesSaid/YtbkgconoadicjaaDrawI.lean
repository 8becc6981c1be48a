/- Draws: what the law of prices draws. -/
import Derived.Test.YtbkgconoadicjaaDrawH
namespace Go.Proofs.Ytbkgconoadicjaa
open Go.RowKit Go.G5

set_option maxHeartbeats 1000000 in
set_option maxRecDepth 100000 in
theorem drawPrices_any (w : World) (v : Value) (l : List Nat) (hv : Byts w v l) :
    Calls Try.prog 56 #[v] w fun e w' => ∃ (n : Int) (ad : Option Addr) (i cp : Nat) (l : List Int), e = .returned (.agg #[.int .i64 n, .slice ad i cp]) ∧ InR n ∧ OwnI 3 w.heap.size w' (.slice ad i cp) l ∧ l.length ≤ 20 ∧ Below w.heap.size w w' := by
  go_enter Try.func56, Try.ntmps56
  go_wp2_with fail
  refine calls_named ?_
  intro V hV
  have B : Below w.heap.size w V := by rw [hV]; exact bl1 _ _
  have K2 : Blk V w.heap.size 29 #[.int .i64 0, .slice none 0 0] := by rw [hV]; exact Blk.new _ _ _
  clear hV
  have hw := K2.lt
  refine (l1New_any V _ _ (hv.below B (Nat.le_refl _))).mono ?_
  rintro e w1 ⟨rfl, D1, b1⟩
  have K2 := K2.keep b1
  have B := B.after b1 B.size
  have x1 := K2.lt
  have y1 := D1.lt
  have yb := b1.size
  go_wp2_with fail
  refine (l29Draw_any w1 V.heap.size D1).mono ?_
  rintro e w2 ⟨n, ad, i, cp, L, rfl, hn, o2, hL, D2, g2⟩
  have K2 := K2.grow g2 (by simp; omega)
  have B2 := B.grown g2 B.size (fun q hq => by have := Option.some.inj hq; omega)
  have ro := o2.lt
  have F2 := K2.frozen
  have G2 := K2.cell
  go_wp2
  refine post_named ?_
  intro Wf hWf
  have KF : Blk Wf w.heap.size 29 #[.int .i64 n, .slice ad i cp] := by
    rw [hWf]
    have := (K2.set 0 (.int .i64 n)).set 1 (.slice ad i cp)
    simpa using this
  have gf : w2.grownBy Wf (some w.heap.size) := by rw [hWf]; exact grow_set (grow_set (World.grownBy.refl _ _) 0 _) 1 _
  have GF := KF.cell
  have oF := (o2.grow gf (fun q hq e => by have := Option.some.inj hq; have := (ro _ e).1; omega)).mono (B' := w.heap.size) (by omega)
  have BF := B2.grown gf B2.size (fun q hq => by have := Option.some.inj hq; omega)
  clear hWf
  exact bodyPost_ret (v := .agg #[.int .i64 n, .slice ad i cp]) (by simp [results, Try.results56, go_sem, GF]) rfl ⟨n, ad, i, cp, L, rfl, hn, oF, hL, BF⟩
set_option maxHeartbeats 1000000 in
theorem drawHarm_any (w : World) (v : Value) (l : List Nat) (hv : Byts w v l) :
    Calls Try.prog 69 #[v] w fun e w' => ∃ x : Int, e = .returned (.int .i64 x) ∧ InR x ∧ Below w.heap.size w w' := by
  go_enter Try.func69, Try.ntmps69
  go_wp2_with fail
  refine (l1New_any w _ _ hv).mono ?_
  rintro e w1 ⟨rfl, D1, b1⟩
  go_wp2_with fail
  refine (l1Below_any w1 w.heap.size D1 9).mono ?_
  rintro e w2 ⟨x, rfl, _, hx, _, D2, g2⟩
  have hx := hx (by omega)
  go_wp2
  go_ret
  exact ⟨x - 1, rfl, ⟨by omega, by omega⟩, b1.grown g2 b1.size (fun q hq => by have := Option.some.inj hq; omega)⟩
set_option maxHeartbeats 4000000 in
set_option maxRecDepth 100000 in
theorem drawCover_any (w : World) (v : Value) (l : List Nat) (hv : Byts w v l) :
    Calls Try.prog 68 #[v] w fun e w' => ∃ (n : Int) (ad : Option Addr) (i cp : Nat) (L : List Int) (ad2 : Option Addr) (i2 cp2 : Nat) (X : List Int), e = .returned (.tuple #[.agg #[.int .i64 n, .slice ad i cp], .slice ad2 i2 cp2]) ∧ InR n ∧ OwnI 3 w.heap.size w' (.slice ad i cp) L ∧ L.length ≤ 20 ∧ OwnI 3 w.heap.size w' (.slice ad2 i2 cp2) X ∧ X.length ≤ 1048576 ∧ Below w.heap.size w w' := by
  go_enter Try.func68, Try.ntmps68
  go_wp2_with fail
  refine calls_named ?_
  intro V hV
  have B : Below w.heap.size w V := by rw [hV]; exact bl1 _ _
  have K2 : Blk V w.heap.size 29 #[.int .i64 0, .slice none 0 0] := by rw [hV]; exact Blk.new _ _ _
  clear hV
  have hw := K2.lt
  refine (l1New_any V _ _ (hv.below B (Nat.le_refl _))).mono ?_
  rintro e w1 ⟨rfl, D1, b1⟩
  have K2 := K2.keep b1
  have B := B.after b1 B.size
  have x1 := K2.lt
  have y1 := D1.lt
  have yb := b1.size
  go_wp2_with fail
  refine (l29Draw_any w1 V.heap.size D1).mono ?_
  rintro e w2 ⟨n, ad, i, cp, L, rfl, hn, o2, hL, D2, g2⟩
  have K2 := K2.grow g2 (by simp; omega)
  have B2 := B.grown g2 B.size (fun q hq => by have := Option.some.inj hq; omega)
  have ro := o2.lt
  have y2 := g2.size
  go_wp2_with fail
  refine calls_named ?_
  intro V3 hV3
  have K3 : Blk V3 w2.heap.size 29 #[.int .i64 n, .slice ad i cp] := by
    rw [hV3]
    first
      | exact Blk.new _ _ _
      | (have := ((Blk.new w2 29 #[.int .i64 0, .slice none 0 0]).set 0 (.int .i64 n)).set 1 (.slice ad i cp); simpa using this)
  have g3 : w2.grownBy V3 (some w2.heap.size) := by
    rw [hV3]
    first
      | exact gr_below _ (bl1 _ _)
      | exact grow_set (grow_set (gr_below _ (bl1 _ _)) 0 _) 1 _
  have K2 := K2.grow g3 (by simp; omega)
  have D3 := D2.grow g3 (fun k e => by have := Option.some.inj e; omega)
  have o3 := o2.grow g3 (fun q hq e => by have := Option.some.inj hq; have := (ro _ e).2; omega)
  have B3 := B2.grown g3 B2.size (fun q hq => by have := Option.some.inj hq; have := B2.size; omega)
  clear hV3 o2 D2 D1
  refine (greedyS_c V3 n _ L o3.ints (by omega)).mono ?_
  rintro e w4 ⟨p4, i4, q4, rfl, o4, b4⟩
  have K2 := K2.keep b4
  have K3 := K3.keep b4
  have D4 := D3.keep b4
  have o3 := o3.keep b4
  have B4 := B3.after b4 B3.size
  have hgl := greedyL_len n L
  have y3 := g3.size
  have y4 := b4.size
  have ro4 := o4.lt
  clear D3
  cases hb : greedyB n L with
  | false =>
    clear hb
    have hlit : ∀ (W : World) (x : Int), InR x → OwnI 3 W.heap.size (W.alloc (.cells #[.int .i64 1, .int .i64 3, .int .i64 x] 3)) (.slice (some ⟨W.heap.size, 0, none⟩) 3 3) [1, 3, x] := fun W x hx => ⟨World.ownsRow_lit W #[.int .i64 1, .int .i64 3, .int .i64 x] 3 (Nat.le_refl _) (by decide) rfl, by simp [InR]; exact hx⟩
    have G3 := K3.cell
    have F2 := K2.frozen
    have Dd : Dr w4.drew V.heap.size := D4.keep (Below.refl _ _).drew
    have HB := Lib.hid (l1Below_any w4.drew V.heap.size Dd 32)
    have K2d : Blk w4.drew w.heap.size 29 #[.int .i64 0, .slice none 0 0] := K2
    have K3d : Blk w4.drew w2.heap.size 29 #[.int .i64 n, .slice ad i cp] := K3
    have o3d : OwnI 3 w1.heap.size w4.drew (.slice ad i cp) L := o3.keep (Below.refl _ _).drew
    have B4d : Below w.heap.size w w4.drew := B4.drew
    go_wp2_with fail
    go_region_law
      (first
        | (go_simp; go_at_call 120; refine HB.out.mono ?_; rintro e w5 ⟨x, rfl, hxr, _, _, D5, g5⟩; have K35 := K3d.grow g5 (by simp; omega); have G35 := K35.cell; have K25 := K2d.grow g5 (by simp; omega); have F25 := K25.frozen; have K26 := K25.alloc (.cells #[.int .i64 1, .int .i64 3, .int .i64 x] 3); have F26 := K26.frozen; have G26 := K26.cell; have G25 := K25.cell; have G36 := (K35.alloc (.cells #[.int .i64 1, .int .i64 3, .int .i64 x] 3)).cell))
    all_goals
      have o5 := (o3d.grow g5 (fun q hq e => by have := Option.some.inj hq; have := (ro _ e).1; omega))
      have ol := hlit w5 x hxr
      have B5 := B4d.grown g5 B4d.size (fun q hq => by have := Option.some.inj hq; omega)
      have z5 := K25.lt
      go_wp2
      refine post_named ?_
      intro Wf hWf
      have KF : Blk Wf w.heap.size 29 #[.int .i64 n, .slice ad i cp] := by
        rw [hWf]
        first
          | (have := (K26.set 0 (.int .i64 n)).set 1 (.slice ad i cp); simpa using this)
          | (have := ((K25.set 0 (.int .i64 n)).set 1 (.slice ad i cp)).alloc (.cells #[.int .i64 1, .int .i64 3, .int .i64 x] 3); simpa using this)
      have gf : w5.grownBy Wf (some w.heap.size) := by
        rw [hWf]
        first
          | exact grow_set (grow_set (gr_below _ (bl1 _ _)) 0 _) 1 _
          | exact gr_trans (grow_set (grow_set (World.grownBy.refl _ _) 0 _) 1 _) (gr_below _ (bl1 _ _))
      have GF := KF.cell
      have oF := (o5.grow gf (fun q hq e => by have := Option.some.inj hq; have := (ro _ e).1; omega)).mono (B' := w.heap.size) (by omega)
      have lF : OwnI 3 w.heap.size Wf (.slice (some ⟨w5.heap.size, 0, none⟩) 3 3) [1, 3, x] := by
        refine OwnI.mono (B := w5.heap.size) ?_ (by omega)
        rw [hWf]
        first
          | exact (ol.setBelow (by simp; omega) _).setBelow (by simp; omega) _
          | (have := hlit ((w5.setCell ⟨w.heap.size, 0, none⟩ (.int .i64 n)).setCell ⟨w.heap.size, 1, none⟩ (.slice ad i cp)) x hxr; simpa using this)
      have BF := B5.grown gf B5.size (fun q hq => by have := Option.some.inj hq; omega)
      clear hWf
      exact bodyPost_ret (v := .tuple #[.agg #[.int .i64 n, .slice ad i cp], .slice (some ⟨w5.heap.size, 0, none⟩) 3 3]) (by simp [results, Try.results68, go_sem, GF]) rfl ⟨n, ad, i, cp, L, _, _, _, [1, 3, x], rfl, hn, oF, hL, lF, by simp, BF⟩
  | true =>
    clear hb
    go_wp2_with fail
    refine (l1Once_any w4 V.heap.size D4 3).mono ?_
    rintro e w5 ⟨bb, rfl, D5, g5⟩
    have K2 := K2.grow g5 (by simp; omega)
    have K3 := K3.grow g5 (by simp; omega)
    have o3 := o3.grow g5 (fun q hq e => by have := Option.some.inj hq; have := (ro _ e).1; omega)
    have o4 := o4.grow g5 (fun q hq e => by have := Option.some.inj hq; have := (ro4 _ e).1; omega)
    have B4 := B4.grown g5 B4.size (fun q hq => by have := Option.some.inj hq; omega)
    have D4 := D5
    obtain ⟨w4, rfl⟩ : ∃ W : World, W = w5 := ⟨_, rfl⟩
    cases bb with
    | false =>
      have G3 := K3.cell
      have F2 := K2.frozen
      have G2 := K2.cell
      go_wp2
      refine post_named ?_
      intro Wf hWf
      have KF : Blk Wf w.heap.size 29 #[.int .i64 n, .slice ad i cp] := by
        rw [hWf]
        have := (K2.set 0 (.int .i64 n)).set 1 (.slice ad i cp)
        simpa using this
      have gf : w4.grownBy Wf (some w.heap.size) := by rw [hWf]; exact grow_set (grow_set (World.grownBy.refl _ _) 0 _) 1 _
      have GF := KF.cell
      have oF := (o3.grow gf (fun q hq e => by have := Option.some.inj hq; have := (ro _ e).1; omega)).mono (B' := w.heap.size) (by omega)
      have lF := (o4.grow gf (fun q hq e => by have := Option.some.inj hq; have := (ro4 _ e).1; omega)).mono (B' := w.heap.size) (by omega)
      have BF := B4.grown gf B4.size (fun q hq => by have := Option.some.inj hq; omega)
      clear hWf
      exact bodyPost_ret (v := .tuple #[.agg #[.int .i64 n, .slice ad i cp], .slice p4 i4 q4]) (by simp [results, Try.results68, go_sem, GF]) rfl ⟨n, ad, i, cp, L, _, _, _, greedyL n L, rfl, hn, oF, hL, lF, hgl, BF⟩
    | true =>
      have hlit : ∀ (W : World) (x : Int), InR x → OwnI 3 W.heap.size (W.alloc (.cells #[.int .i64 1, .int .i64 3, .int .i64 x] 3)) (.slice (some ⟨W.heap.size, 0, none⟩) 3 3) [1, 3, x] := fun W x hx => ⟨World.ownsRow_lit W #[.int .i64 1, .int .i64 3, .int .i64 x] 3 (Nat.le_refl _) (by decide) rfl, by simp [InR]; exact hx⟩
      have G3 := K3.cell
      have F2 := K2.frozen
      have Dd : Dr w4.drew V.heap.size := D4.keep (Below.refl _ _).drew
      have HB := Lib.hid (l1Below_any w4.drew V.heap.size Dd 32)
      have K2d : Blk w4.drew w.heap.size 29 #[.int .i64 0, .slice none 0 0] := K2
      have K3d : Blk w4.drew w2.heap.size 29 #[.int .i64 n, .slice ad i cp] := K3
      have o3d : OwnI 3 w1.heap.size w4.drew (.slice ad i cp) L := o3.keep (Below.refl _ _).drew
      have B4d : Below w.heap.size w w4.drew := B4.drew
      go_wp2_with fail
      go_region_law
        (first
          | (go_simp; go_at_call 120; refine HB.out.mono ?_; rintro e w5 ⟨x, rfl, hxr, _, _, D5, g5⟩; have K35 := K3d.grow g5 (by simp; omega); have G35 := K35.cell; have K25 := K2d.grow g5 (by simp; omega); have F25 := K25.frozen; have K26 := K25.alloc (.cells #[.int .i64 1, .int .i64 3, .int .i64 x] 3); have F26 := K26.frozen; have G26 := K26.cell; have G25 := K25.cell; have G36 := (K35.alloc (.cells #[.int .i64 1, .int .i64 3, .int .i64 x] 3)).cell))
      all_goals
        have o5 := (o3d.grow g5 (fun q hq e => by have := Option.some.inj hq; have := (ro _ e).1; omega))
        have ol := hlit w5 x hxr
        have B5 := B4d.grown g5 B4d.size (fun q hq => by have := Option.some.inj hq; omega)
        have z5 := K25.lt
        go_wp2
        refine post_named ?_
        intro Wf hWf
        have KF : Blk Wf w.heap.size 29 #[.int .i64 n, .slice ad i cp] := by
          rw [hWf]
          first
            | (have := (K26.set 0 (.int .i64 n)).set 1 (.slice ad i cp); simpa using this)
            | (have := ((K25.set 0 (.int .i64 n)).set 1 (.slice ad i cp)).alloc (.cells #[.int .i64 1, .int .i64 3, .int .i64 x] 3); simpa using this)
        have gf : w5.grownBy Wf (some w.heap.size) := by
          rw [hWf]
          first
            | exact grow_set (grow_set (gr_below _ (bl1 _ _)) 0 _) 1 _
            | exact gr_trans (grow_set (grow_set (World.grownBy.refl _ _) 0 _) 1 _) (gr_below _ (bl1 _ _))
        have GF := KF.cell
        have oF := (o5.grow gf (fun q hq e => by have := Option.some.inj hq; have := (ro _ e).1; omega)).mono (B' := w.heap.size) (by omega)
        have lF : OwnI 3 w.heap.size Wf (.slice (some ⟨w5.heap.size, 0, none⟩) 3 3) [1, 3, x] := by
          refine OwnI.mono (B := w5.heap.size) ?_ (by omega)
          rw [hWf]
          first
            | exact (ol.setBelow (by simp; omega) _).setBelow (by simp; omega) _
            | (have := hlit ((w5.setCell ⟨w.heap.size, 0, none⟩ (.int .i64 n)).setCell ⟨w.heap.size, 1, none⟩ (.slice ad i cp)) x hxr; simpa using this)
        have BF := B5.grown gf B5.size (fun q hq => by have := Option.some.inj hq; omega)
        clear hWf
        exact bodyPost_ret (v := .tuple #[.agg #[.int .i64 n, .slice ad i cp], .slice (some ⟨w5.heap.size, 0, none⟩) 3 3]) (by simp [results, Try.results68, go_sem, GF]) rfl ⟨n, ad, i, cp, L, _, _, _, [1, 3, x], rfl, hn, oF, hL, lF, by simp, BF⟩
end Go.Proofs.Ytbkgconoadicjaa
