/- Draws: kept blockers. -/
import Derived.Test.YthbkghpgnnpmbaaDrawG
import Derived.Test.YthbkghpgnnpmbaaNewKeptS
import Derived.Test.YthbkghpgnnpmbaaKept
namespace Go.Proofs.Ythbkghpgnnpmbaa
open Go.RowKit Go.G5

theorem OwnI.lit4 {E : TypeId} (w : World) (a b c d : Int) (h : ∀ x ∈ [a, b, c, d], InR x) : OwnI E w.heap.size (w.alloc (.cells #[.int .i64 a, .int .i64 b, .int .i64 c, .int .i64 d] E)) (.slice (some ⟨w.heap.size, 0, none⟩) 4 4) [a, b, c, d] :=
  ⟨World.ownsRow_lit w #[.int .i64 a, .int .i64 b, .int .i64 c, .int .i64 d] 4 (Nat.le_refl _) (by decide) rfl, h⟩
theorem kept_tail {w WL Wf : World} {g B : Nat} {n : Int} {a1 a2 : Option Addr} {i1 c1 i2 c2 : Nat} {L M : List Int} (zg : g < w.heap.size) (K : Blk WL w.heap.size 28 #[.int .i64 0, .slice none 0 0, .slice none 0 0]) (D : Dr WL g) (oL : OwnW 3 B WL (.slice a1 i1 c1) L) (oM : OwnW 3 B WL (.slice a2 i2 c2) M) (hB : w.heap.size < B) (h : w.grownBy WL (some g))
    (hWf : Wf = ((WL.setCell ⟨w.heap.size, 0, none⟩ (.int .i64 n)).setCell ⟨w.heap.size, 1, none⟩ (.slice a1 i1 c1)).setCell ⟨w.heap.size, 2, none⟩ (.slice a2 i2 c2)) : Blk Wf w.heap.size 28 #[.int .i64 n, .slice a1 i1 c1, .slice a2 i2 c2] ∧ Dr Wf g ∧ OwnW 3 w.heap.size Wf (.slice a1 i1 c1) L ∧ OwnW 3 w.heap.size Wf (.slice a2 i2 c2) M ∧ w.grownBy Wf (some g) := by
  have gf : WL.grownBy Wf (some w.heap.size) := by rw [hWf]; exact grow_set (grow_set (grow_set (World.grownBy.refl _ _) 0 _) 1 _) 2 _
  refine ⟨?_, D.grow gf (fun k e => by have := Option.some.inj e; omega), (oL.grow gf (fun q hq e => by have := Option.some.inj hq; have := (oL.lt _ e).1; omega)).mono (by omega), (oM.grow gf (fun q hq e => by have := Option.some.inj hq; have := (oM.lt _ e).1; omega)).mono (by omega), gr_any h gf (fun b e => .inr (by have := Option.some.inj e; omega))⟩
  rw [hWf]
  have := ((K.set 0 (.int .i64 n)).set 1 (.slice a1 i1 c1)).set 2 (.slice a2 i2 c2)
  simpa using this
theorem kept_tail2 {w WL Wf : World} {g B : Nat} {n : Int} {a1 a2 : Option Addr} {i1 c1 i2 c2 : Nat} {L M : List Int} {O : Obj} (zg : g < w.heap.size) (K : Blk WL w.heap.size 28 #[.int .i64 0, .slice none 0 0, .slice none 0 0]) (D : Dr WL g) (oL : OwnW 3 B WL (.slice a1 i1 c1) L) (oM : OwnW 3 B WL (.slice a2 i2 c2) M) (hB : w.heap.size < B) (h : w.grownBy WL (some g))
    (hWf : Wf = (((WL.setCell ⟨w.heap.size, 0, none⟩ (.int .i64 n)).setCell ⟨w.heap.size, 1, none⟩ (.slice a1 i1 c1)).setCell ⟨w.heap.size, 2, none⟩ (.slice a2 i2 c2)).alloc O) : Blk Wf w.heap.size 28 #[.int .i64 n, .slice a1 i1 c1, .slice a2 i2 c2] ∧ Dr Wf g ∧ OwnW 3 w.heap.size Wf (.slice a1 i1 c1) L ∧ OwnW 3 w.heap.size Wf (.slice a2 i2 c2) M ∧ w.grownBy Wf (some g) := by
  obtain ⟨W0, hW0⟩ : ∃ W0, W0 = ((WL.setCell ⟨w.heap.size, 0, none⟩ (.int .i64 n)).setCell ⟨w.heap.size, 1, none⟩ (.slice a1 i1 c1)).setCell ⟨w.heap.size, 2, none⟩ (.slice a2 i2 c2) := ⟨_, rfl⟩
  obtain ⟨h1, h2, h3, h4, h5⟩ := kept_tail zg K D oL oM hB h hW0
  rw [hWf, ← hW0]
  exact ⟨h1.alloc _, h2.keep (bl1 _ _), h3.alloc _, h4.alloc _, gr_trans h5 (gr_below _ (bl1 _ _))⟩

set_option maxHeartbeats 4000000 in
set_option maxRecDepth 100000 in
theorem l30Draw_any (w : World) (g : Nat) (D : Dr w g) :
    Calls Try.prog 73 #[.pointer (some ⟨g, 0, none⟩)] w fun e w' => ∃ (n : Int) (a1 : Option Addr) (i1 c1 : Nat) (a2 : Option Addr) (i2 c2 : Nat) (L M : List Int), e = .returned (.agg #[.int .i64 n, .slice a1 i1 c1, .slice a2 i2 c2]) ∧ InR n ∧ OwnW 3 w.heap.size w' (.slice a1 i1 c1) L ∧ L.length ≤ 8 ∧ OwnW 3 w.heap.size w' (.slice a2 i2 c2) M ∧ M.length ≤ 64 ∧ Dr w' g ∧ w.grownBy w' (some g) := by
  have zg := D.lt
  go_enter Try.func73, Try.ntmps73
  go_wp2_with fail
  refine calls_named ?_
  intro V hV
  have B : Below w.heap.size w V := by rw [hV]; exact bl1 _ _
  have K2 : Blk V w.heap.size 28 #[.int .i64 0, .slice none 0 0, .slice none 0 0] := by rw [hV]; exact Blk.new _ _ _
  have D0 := D.keep B
  have g0 : w.grownBy V (some g) := gr_below _ B
  have y0 := K2.lt
  clear hV B
  refine (l15Any_any V g D0).mono ?_
  rintro e w1 ⟨n0, ad, i, cp, l, rfl, hn0, o1, hl, D1, g1⟩
  have K2 := K2.grow g1 (by simp; omega)
  have yV := g1.size
  have g1 := gr_trans g0 g1
  clear D0 g0
  go_wp2_with fail
  refine (newKeptS_c w1 n0 _ l o1.ints (by omega)).mono ?_
  rintro e w2 ⟨a1, i1, c1, a2, i2, c2, rfl, oL, oM, hap, b2⟩
  have hl1 : (nkL n0 l).length ≤ 8 := by
    unfold nkL
    split
    · exact hl
    · simp
  have hm64 := blkL_len n0 l
  have hn : InR (blkN n0 l) := by unfold blkN; split; exact hn0; exact ⟨by omega, by omega⟩
  obtain ⟨n, hne⟩ : ∃ n, n = blkN n0 l := ⟨_, rfl⟩
  obtain ⟨L, hLe⟩ : ∃ L, L = nkL n0 l := ⟨_, rfl⟩
  obtain ⟨M, hMe⟩ : ∃ M, M = blkL n0 l := ⟨_, rfl⟩
  rw [← hne] at hn ⊢
  rw [← hLe] at hl1 oL
  rw [← hMe] at hm64 oM
  clear hne hLe hMe
  have hi2 : i2 = M.length := by
    obtain ⟨_, _, h⟩ := oM.shape
    injection h
  subst hi2
  have K2 := K2.keep b2
  have D2 := D1.keep b2
  have g2 := gr_trans g1 (gr_below (some g) b2)
  have y2 := b2.size
  have oL := oL.mono (B' := V.heap.size) yV
  have oM := oM.mono (B' := V.heap.size) yV
  clear D1 o1 g1 b2
  by_cases hz : 0 < M.length
  · have hzi : (0 : Int) < (M.length : Int) := by omega
    go_wp2_with fail
    refine calls_named ?_
    intro V3 hV3
    have b3 : Below w2.heap.size w2 V3 := by rw [hV3]; exact bl1 _ _
    have K3 : Blk V3 w2.heap.size 28 #[.int .i64 n, .slice a1 i1 c1, .slice a2 M.length c2] := by rw [hV3]; exact Blk.new _ _ _
    have K2 := K2.keep b3
    have D3 := D2.keep b3
    have oL := oL.keep b3
    have rL2 := oM.lt
    have oM := oM.keep b3
    have g3 := gr_trans g2 (gr_below (some g) b3)
    clear hV3 D2 g2
    refine (l1Once_any V3 g D3 8).mono ?_
    rintro e w4 ⟨bb, rfl, D4, g4⟩
    have K2 := K2.grow g4 (by simp; omega)
    have K3 := K3.grow g4 (by simp; omega)
    have oL := oL.grow g4 (fun q hq e => by have := Option.some.inj hq; have := (oL.lt _ e).1; omega)
    have oM := oM.grow g4 (fun q hq e => by have := Option.some.inj hq; have := (oM.lt _ e).1; omega)
    have g4 := gr_trans g3 g4
    clear D3 g3
    cases bb with
    | false =>
      have G3 := K3.cell
      have G2 := K2.cell
      have F2 := K2.frozen
      go_wp2
      refine post_named ?_
      intro Wf hWf
      obtain ⟨KF, DF, oLF, oMF, gF⟩ := kept_tail zg K2 D4 oL oM (by omega) g4 hWf
      have GF := KF.cell
      clear hWf
      exact bodyPost_ret (v := .agg #[.int .i64 n, .slice a1 i1 c1, .slice a2 M.length c2]) (by simp [results, Try.results73, go_sem, GF]) rfl ⟨n, a1, i1, c1, a2, M.length, c2, L, M, rfl, hn, oLF, hl1, oMF, hm64, DF, gF⟩
    | true =>
      rcases oM.cases with ⟨_, h2⟩ | ⟨gm, cap, h1, hg1, hg2⟩
      · rw [h2] at hz; simp at hz
      · injection h1 with h1 _ h4
        subst h1 h4
        have rM := rL2 gm rfl
        have D4d : Dr w4.drew g := D4.keep (Below.refl _ _).drew
        have hpick := l1PickInt_any (w4.drew.alloc (.cells #[.int .i64 0, .int .i64 1, .int .i64 3, .int .i64 (-1)] 3)) g (D4d.keep (bl1 _ _)) w4.drew.heap.size (by show g < w4.heap.size; have := D4.lt; omega) _ _ (OwnI.lit4 w4.drew 0 1 3 (-1) (by simp [InR])) (by simp)
        have HPK := Lib.hid hpick
        have K3d : Blk (w4.drew.alloc (.cells #[.int .i64 0, .int .i64 1, .int .i64 3, .int .i64 (-1)] 3)) w2.heap.size 28 #[.int .i64 n, .slice a1 i1 c1, .slice (some ⟨gm, 0, none⟩) M.length c2] := Blk.alloc (w := w4.drew) K3 _
        have K2d : Blk (w4.drew.alloc (.cells #[.int .i64 0, .int .i64 1, .int .i64 3, .int .i64 (-1)] 3)) w.heap.size 28 #[.int .i64 0, .slice none 0 0, .slice none 0 0] := Blk.alloc (w := w4.drew) K2 _
        have oLd : OwnW 3 V.heap.size (w4.drew.alloc (.cells #[.int .i64 0, .int .i64 1, .int .i64 3, .int .i64 (-1)] 3)) (.slice a1 i1 c1) L := (oL.keep (Below.refl _ _).drew).alloc _
        have oMd : OwnW 3 V.heap.size (w4.drew.alloc (.cells #[.int .i64 0, .int .i64 1, .int .i64 3, .int .i64 (-1)] 3)) (.slice (some ⟨gm, 0, none⟩) M.length c2) M := (oM.keep (Below.refl _ _).drew).alloc _
        have g4d : w.grownBy (w4.drew.alloc (.cells #[.int .i64 0, .int .i64 1, .int .i64 3, .int .i64 (-1)] 3)) (some g) := gr_trans (gr_trans g4 (gr_below _ (Below.refl _ _).drew)) (gr_below _ (bl1 _ _))
        have hmem : ∀ z ∈ [(0 : Int), 1, 3, -1], InR z := by simp [InR]
        have G3 := K3.cell
        have G3d := K3d.cell
        clear hpick
        have x2 := K2.lt
        have x3 := K3.lt
        go_wp2_with fail
        go_region_law
          (go_simp; go_at_call 111; refine HPK.out.mono ?_; rintro e w5 ⟨y, rfl, hy, D5, g5⟩; have K35 := K3d.grow g5 (by simp; omega); have K25 := K2d.grow g5 (by simp; omega); have oL5 := oLd.grow g5 (fun q hq e => by have := Option.some.inj hq; have := (oLd.lt _ e).1; omega); have oM5 := oMd.grow g5 (fun q hq e => by have := Option.some.inj hq; have := (oMd.lt _ e).1; omega); have cM := oM5.cellAt rfl 0 hz; have fM := oM5.frozenAt rfl 0; have G35 := K35.cell)
        all_goals
          have g5 := gr_trans g4d g5
          have st := oM5.stored rfl 0 y (hmem y hy)
          have K36 := K35.far (p := ⟨gm, 0, none⟩) (by show w2.heap.size ≠ gm; omega) (.int .i64 y)
          have K26 := K25.far (p := ⟨gm, 0, none⟩) (by show w.heap.size ≠ gm; omega) (.int .i64 y)
          have D6 := D5.setCell (b := gm) (i := 0) (.int .i64 y) (by omega)
          have g6 := gr_any g5 st.2 (fun b e => .inr (by have := Option.some.inj e; omega))
          have oL6 := oL5.grow (grown_setCell w5 ⟨gm, 0, none⟩ (.int .i64 y)) (fun q hq e => by
            have hq2 : gm = q := Option.some.inj hq
            exact hap q e (by rw [hq2]; rfl))
          obtain ⟨W6, hW6⟩ : ∃ W, W = w5.setCell ⟨gm, 0, none⟩ (.int .i64 y) := ⟨_, rfl⟩
          have oM6 := st.1
          rw [← hW6] at K36 K26 D6 g6 oL6 oM6 ⊢
          clear hW6 st
          have G36 := K36.cell
          have G26 := K26.cell
          have F26 := K26.frozen
          go_wp2
          refine post_named ?_
          intro Wf hWf
          obtain ⟨KF, DF, oLF, oMF, gF⟩ := kept_tail zg K26 D6 oL6 oM6 (by omega) g6 hWf
          have GF := KF.cell
          clear hWf
          exact bodyPost_ret (v := .agg #[.int .i64 n, .slice a1 i1 c1, .slice (some ⟨gm, 0, none⟩) M.length c2]) (by simp [results, Try.results73, go_sem, GF]) rfl ⟨n, a1, i1, c1, some ⟨gm, 0, none⟩, M.length, c2, L, M.set 0 y, rfl, hn, oLF, hl1, oMF, by simp; exact hm64, DF, gF⟩
  · have hzi : ¬ (0 : Int) < (M.length : Int) := by omega
    have x2 := K2.lt
    have G2 := K2.cell
    have F2 := K2.frozen
    go_wp2
    refine post_named ?_
    intro Wf hWf
    obtain ⟨KF, DF, oLF, oMF, gF⟩ := kept_tail2 zg K2 D2 oL oM (by omega) g2 hWf
    have GF := KF.cell
    clear hWf
    exact bodyPost_ret (v := .agg #[.int .i64 n, .slice a1 i1 c1, .slice a2 M.length c2]) (by simp [results, Try.results73, go_sem, GF]) rfl ⟨n, a1, i1, c1, a2, M.length, c2, L, M, rfl, hn, oLF, hl1, oMF, hm64, DF, gF⟩
end Go.Proofs.Ythbkghpgnnpmbaa
