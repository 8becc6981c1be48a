/- Draws: kept blockers with sets. -/
import Derived.Test.YthbkghpgnnpmbaaDrawK
namespace Go.Proofs.Ythbkghpgnnpmbaa
open Go.RowKit Go.G5

theorem kept_put {w WL Wf : World} {B : Nat} {n : Int} {a1 a2 : Option Addr} {i1 c1 i2 c2 : Nat} {L M : List Int} (K : Blk WL w.heap.size 28 #[.int .i64 0, .slice none 0 0, .slice none 0 0]) (oL : OwnW 3 B WL (.slice a1 i1 c1) L) (oM : OwnW 3 B WL (.slice a2 i2 c2) M) (hB : w.heap.size < B) (h : Below w.heap.size w WL)
    (hWf : Wf = ((WL.setCell ⟨w.heap.size, 0, none⟩ (.int .i64 n)).setCell ⟨w.heap.size, 1, none⟩ (.slice a1 i1 c1)).setCell ⟨w.heap.size, 2, none⟩ (.slice a2 i2 c2)) : Blk Wf w.heap.size 28 #[.int .i64 n, .slice a1 i1 c1, .slice a2 i2 c2] ∧ OwnW 3 w.heap.size Wf (.slice a1 i1 c1) L ∧ OwnW 3 w.heap.size Wf (.slice a2 i2 c2) M ∧ Below w.heap.size w Wf := by
  have gf : WL.grownBy Wf (some w.heap.size) := by rw [hWf]; exact grow_set (grow_set (grow_set (World.grownBy.refl _ _) 0 _) 1 _) 2 _
  refine ⟨?_, (oL.grow gf (fun q hq e => by have := Option.some.inj hq; have := (oL.lt _ e).1; omega)).mono (by omega), (oM.grow gf (fun q hq e => by have := Option.some.inj hq; have := (oM.lt _ e).1; omega)).mono (by omega), h.grown gf h.size (fun q hq => by have := Option.some.inj hq; omega)⟩
  rw [hWf]
  have := ((K.set 0 (.int .i64 n)).set 1 (.slice a1 i1 c1)).set 2 (.slice a2 i2 c2)
  simpa using this
set_option maxHeartbeats 4000000 in
set_option maxRecDepth 100000 in
theorem l30Both_any (w : World) (v : Value) (l : List Nat) (hv : Byts w v l) :
    Calls Try.prog 55 #[v] w fun e w' => ∃ (n : Int) (a1 : Option Addr) (i1 c1 : Nat) (a2 : Option Addr) (i2 c2 : Nat) (s : Int) (L M : List Int), e = .returned (.tuple #[.agg #[.int .i64 n, .slice a1 i1 c1, .slice a2 i2 c2], .int .i64 s]) ∧ InR n ∧ InR s ∧ OwnW 3 w.heap.size w' (.slice a1 i1 c1) L ∧ L.length ≤ 8 ∧ OwnW 3 w.heap.size w' (.slice a2 i2 c2) M ∧ M.length ≤ 64 ∧ Below w.heap.size w w' := by
  go_enter Try.func55, Try.ntmps55
  go_wp2_with fail
  refine calls_named ?_
  intro V hV
  have B : Below w.heap.size w V := by rw [hV]; exact bl1 _ _
  have K2 : Blk V w.heap.size 28 #[.int .i64 0, .slice none 0 0, .slice none 0 0] := by rw [hV]; exact Blk.new _ _ _
  clear hV
  have hw := K2.lt
  refine (l1New_any V _ _ (hv.below B (Nat.le_refl _))).mono ?_
  rintro e w1 ⟨rfl, D1, b1⟩
  have K2 := K2.keep b1
  have B := B.after b1 B.size
  have y1 := D1.lt
  have x1 := K2.lt
  go_wp2_with fail
  refine (l30Draw_any w1 V.heap.size D1).mono ?_
  rintro e w2 ⟨n, a1, i1, c1, a2, i2, c2, L, M, rfl, hn, oL, hl1, oM, hm, D2, g2⟩
  have hi1 : i1 = L.length := by
    obtain ⟨_, _, h⟩ := oL.shape
    injection h
  subst hi1
  have K2 := K2.grow g2 (by simp; omega)
  have B := B.grown g2 B.size (fun q hq => by have := Option.some.inj hq; omega)
  have y2 := g2.size
  have rL2 := oL.lt
  have rM2 := oM.lt
  by_cases hz : 0 < L.length
  · have hzi : (0 : Int) < (L.length : Int) := by omega
    go_wp2_with fail
    refine calls_named ?_
    intro V3 hV3
    have b3 : Below w2.heap.size w2 V3 := by rw [hV3]; exact bl1 _ _
    have K3 : Blk V3 w2.heap.size 28 #[.int .i64 n, .slice a1 L.length c1, .slice a2 i2 c2] := by rw [hV3]; exact Blk.new _ _ _
    have K2 := K2.keep b3
    have D3 := D2.keep b3
    have oL := oL.keep b3
    have oM := oM.keep b3
    have B := B.after b3 B.size
    clear hV3 D2 g2 D1
    refine (l1Once_any V3 V.heap.size D3 2).mono ?_
    rintro e w4 ⟨bb, rfl, D4, g4⟩
    have K2 := K2.grow g4 (by simp; omega)
    have K3 := K3.grow g4 (by simp; omega)
    have oL := oL.grow g4 (fun q hq e => by have := Option.some.inj hq; have := (oL.lt _ e).1; omega)
    have oM := oM.grow g4 (fun q hq e => by have := Option.some.inj hq; have := (oM.lt _ e).1; omega)
    have B := B.grown g4 B.size (fun q hq => by have := Option.some.inj hq; omega)
    clear D3 g4
    have D3 := D4
    have x3 := K3.lt
    cases bb with
    | false =>
      have D3d : Dr w4.drew V.heap.size := D3.keep (Below.refl _ _).drew
      have K3d : Blk w4.drew w2.heap.size 28 #[.int .i64 n, .slice a1 L.length c1, .slice a2 i2 c2] := K3
      have K2d : Blk w4.drew w.heap.size 28 #[.int .i64 0, .slice none 0 0, .slice none 0 0] := K2
      have oLd : OwnW 3 w1.heap.size w4.drew (.slice a1 L.length c1) L := oL.keep (Below.refl _ _).drew
      have oMd : OwnW 3 w1.heap.size w4.drew (.slice a2 i2 c2) M := oM.keep (Below.refl _ _).drew
      have Bd : Below w.heap.size w w4.drew := B.drew
      have HB := Lib.hid (l1Below_any w4.drew V.heap.size D3d 34)
      have G3 := K3.cell
      have z2 : w.heap.size < w2.heap.size := by omega
      go_wp2_with fail
      go_region_law
        (go_simp; go_at_call 112; refine HB.out.mono ?_; rintro e w5 ⟨x, rfl, _, hx, _, D5, g5⟩; have hx := hx (by omega); have K35 := K3d.grow g5 (by simp; omega); have K25 := K2d.grow g5 (by simp; omega); have G35 := K35.cell; have G25 := K25.cell; have F25 := K25.frozen; have wx : IntKind.i64.wrap (x - 1) = x - 1 := IntWalk.i64_in _ ⟨by omega, by omega⟩)
      all_goals
        have oL5 := oLd.grow g5 (fun q hq e => by have := Option.some.inj hq; have := (oLd.lt _ e).1; omega)
        have oM5 := oMd.grow g5 (fun q hq e => by have := Option.some.inj hq; have := (oMd.lt _ e).1; omega)
        have B5 := Bd.grown g5 Bd.size (fun q hq => by have := Option.some.inj hq; omega)
        go_wp2
        refine post_named ?_
        intro Wf hWf
        obtain ⟨KF, oLF, oMF, BF⟩ := kept_put K25 oL5 oM5 (by omega) B5 hWf
        have GF := KF.cell
        clear hWf
        exact bodyPost_ret (v := .tuple #[.agg #[.int .i64 n, .slice a1 L.length c1, .slice a2 i2 c2], .int .i64 (x - 1)]) (by simp [results, Try.results55, go_sem, GF]) rfl ⟨n, a1, L.length, c1, a2, i2, c2, x - 1, L, M, rfl, hn, ⟨by omega, by omega⟩, oLF, hl1, oMF, hm, BF⟩
    | true =>
      rcases oL.cases with ⟨_, h2⟩ | ⟨gl, cap, h1, hg1, hg2⟩
      · rw [h2] at hz; simp at hz
      · injection h1 with h1 _ h4
        subst h1 h4
        have hlin := oL.ints.inR
        have D3d : Dr w4.drew V.heap.size := D3.keep (Below.refl _ _).drew
        have K3d : Blk w4.drew w2.heap.size 28 #[.int .i64 n, .slice (some ⟨gl, 0, none⟩) L.length c1, .slice a2 i2 c2] := K3
        have K2d : Blk w4.drew w.heap.size 28 #[.int .i64 0, .slice none 0 0, .slice none 0 0] := K2
        have oLd : OwnW 3 w1.heap.size w4.drew (.slice (some ⟨gl, 0, none⟩) L.length c1) L := oL.keep (Below.refl _ _).drew
        have oMd : OwnW 3 w1.heap.size w4.drew (.slice a2 i2 c2) M := oM.keep (Below.refl _ _).drew
        have Bd : Below w.heap.size w w4.drew := B.drew
        have HB := Lib.hid (l1Below_any w4.drew V.heap.size D3d (L.length : Int))
        have G3 := K3.cell
        have z2 : w.heap.size < w2.heap.size := by omega
        go_wp2_with fail
        go_region_law
          (go_simp; go_at_call 112; refine HB.out.mono ?_; rintro e w5 ⟨x, rfl, _, hx, _, D5, g5⟩; have hx := hx hzi; obtain ⟨X, rfl⟩ := Int.eq_ofNat_of_zero_le hx.1; have hX : X < L.length := Int.ofNat_lt.1 hx.2; have K35 := K3d.grow g5 (fun e => by have := Option.some.inj e; omega); have K25 := K2d.grow g5 (fun e => by have := Option.some.inj e; omega); have G35 := K35.cell; have G25 := K25.cell; have F25 := K25.frozen; have oL5 := oLd.grow g5 (fun q hq e => by have := Option.some.inj hq; have := (oLd.lt _ e).1; omega); have cX := oL5.cellAt rfl X hX; have hX0 : (0 : Int) ≤ (X : Int) := hx.1; have hX1 : (X : Int) < (L.length : Int) := hx.2)
        all_goals
          have oM5 := oMd.grow g5 (fun q hq e => by have := Option.some.inj hq; have := (oMd.lt _ e).1; omega)
          have B5 := Bd.grown g5 Bd.size (fun q hq => by have := Option.some.inj hq; omega)
          go_wp2
          refine post_named ?_
          intro Wf hWf
          obtain ⟨KF, oLF, oMF, BF⟩ := kept_put K25 oL5 oM5 (by omega) B5 hWf
          have GF := KF.cell
          clear hWf
          exact bodyPost_ret (v := .tuple #[.agg #[.int .i64 n, .slice (some ⟨gl, 0, none⟩) L.length c1, .slice a2 i2 c2], .int .i64 L[X]]) (by simp [results, Try.results55, go_sem, GF]) rfl ⟨n, some ⟨gl, 0, none⟩, L.length, c1, a2, i2, c2, L[X], L, M, rfl, hn, hlin _ (List.getElem_mem hX), oLF, hl1, oMF, hm, BF⟩
  · have hzi : ¬ (0 : Int) < (L.length : Int) := by omega
    obtain ⟨w4, hw4⟩ : ∃ W, W = w2.alloc (.cells #[.int .i64 n, .slice a1 L.length c1, .slice a2 i2 c2] 28) := ⟨_, rfl⟩
    have b3 : Below w2.heap.size w2 w4 := by rw [hw4]; exact bl1 _ _
    have K3 : Blk w4 w2.heap.size 28 #[.int .i64 n, .slice a1 L.length c1, .slice a2 i2 c2] := by rw [hw4]; exact Blk.new _ _ _
    have K2 := K2.keep b3
    have D3 := D2.keep b3
    have oL := oL.keep b3
    have oM := oM.keep b3
    have B := B.after b3 B.size
    have x3 := K3.lt
    clear D2 g2 D1
    go_wp2_with fail
    rw [← hw4]
    clear hw4
    have D3d : Dr w4.drew V.heap.size := D3.keep (Below.refl _ _).drew
    have K3d : Blk w4.drew w2.heap.size 28 #[.int .i64 n, .slice a1 L.length c1, .slice a2 i2 c2] := K3
    have K2d : Blk w4.drew w.heap.size 28 #[.int .i64 0, .slice none 0 0, .slice none 0 0] := K2
    have oLd : OwnW 3 w1.heap.size w4.drew (.slice a1 L.length c1) L := oL.keep (Below.refl _ _).drew
    have oMd : OwnW 3 w1.heap.size w4.drew (.slice a2 i2 c2) M := oM.keep (Below.refl _ _).drew
    have Bd : Below w.heap.size w w4.drew := B.drew
    have HB := Lib.hid (l1Below_any w4.drew V.heap.size D3d 34)
    have G3 := K3.cell
    have z2 : w.heap.size < w2.heap.size := by omega
    go_wp2_with fail
    go_region_law
      (go_simp; go_at_call 112; refine HB.out.mono ?_; rintro e w5 ⟨x, rfl, _, hx, _, D5, g5⟩; have hx := hx (by omega); have K35 := K3d.grow g5 (by simp; omega); have K25 := K2d.grow g5 (by simp; omega); have G35 := K35.cell; have G25 := K25.cell; have F25 := K25.frozen; have wx : IntKind.i64.wrap (x - 1) = x - 1 := IntWalk.i64_in _ ⟨by omega, by omega⟩)
    all_goals
      have oL5 := oLd.grow g5 (fun q hq e => by have := Option.some.inj hq; have := (oLd.lt _ e).1; omega)
      have oM5 := oMd.grow g5 (fun q hq e => by have := Option.some.inj hq; have := (oMd.lt _ e).1; omega)
      have B5 := Bd.grown g5 Bd.size (fun q hq => by have := Option.some.inj hq; omega)
      go_wp2
      refine post_named ?_
      intro Wf hWf
      obtain ⟨KF, oLF, oMF, BF⟩ := kept_put K25 oL5 oM5 (by omega) B5 hWf
      have GF := KF.cell
      clear hWf
      exact bodyPost_ret (v := .tuple #[.agg #[.int .i64 n, .slice a1 L.length c1, .slice a2 i2 c2], .int .i64 (x - 1)]) (by simp [results, Try.results55, go_sem, GF]) rfl ⟨n, a1, L.length, c1, a2, i2, c2, x - 1, L, M, rfl, hn, ⟨by omega, by omega⟩, oLF, hl1, oMF, hm, BF⟩
end Go.Proofs.Ythbkghpgnnpmbaa
