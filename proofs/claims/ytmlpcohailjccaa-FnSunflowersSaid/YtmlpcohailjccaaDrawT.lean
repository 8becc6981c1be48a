/- Draws: what the law of sunflowers draws. -/
import Derived.Test.YtmlpcohailjccaaDrawS
namespace Go.Proofs.Ytmlpcohailjccaa
open Go.RowKit Go.G5

set_option maxHeartbeats 1000000 in
theorem drawSunBound_any (w : World) (v : Value) (l : List Nat) (hv : Byts w v l) :
    Calls Try.prog 39 #[v] w fun e w' => ∃ x y : Int, e = .returned (.tuple #[.int .i64 x, .int .i64 y]) ∧ InR x ∧ InR y ∧ Below w.heap.size w w' := by
  go_enter Try.func39, Try.ntmps39
  go_wp2_with fail
  refine (l1New_any w _ _ hv).mono ?_
  rintro e w1 ⟨rfl, D1, b1⟩
  go_wp2_with fail
  refine (l1Below_any w1 w.heap.size D1 9).mono ?_
  rintro e w2 ⟨x, rfl, _, hx, _, D2, g2⟩
  have hx := hx (by omega)
  have B2 := b1.grown g2 b1.size (fun q hq => by have := Option.some.inj hq; omega)
  have wx : IntKind.i64.wrap (x - 1) = x - 1 := IntWalk.i64_in _ ⟨by omega, by omega⟩
  go_wp2_with fail
  refine (l1Below_any w2 w.heap.size D2 7).mono ?_
  rintro e w3 ⟨y, rfl, hy, _, _, D3, g3⟩
  go_wp2
  go_ret2
  exact ⟨x - 1, y, rfl, ⟨by omega, by omega⟩, hy, B2.grown g3 B2.size (fun q hq => by have := Option.some.inj hq; omega)⟩

theorem fam_put2 {w WL Wf : World} {B : Nat} {n : Int} {ad : Option Addr} {i cp : Nat} {l : List Int} (K : Blk WL w.heap.size 28 #[.int .i64 0, .slice none 0 0]) (o : OwnI 3 B WL (.slice ad i cp) l) (hB : w.heap.size < B) (h : Below w.heap.size w WL)
    (hWf : Wf = (WL.setCell ⟨w.heap.size, 0, none⟩ (.int .i64 n)).setCell ⟨w.heap.size, 1, none⟩ (.slice ad i cp)) : Blk Wf w.heap.size 28 #[.int .i64 n, .slice ad i cp] ∧ OwnI 3 w.heap.size Wf (.slice ad i cp) l ∧ Below w.heap.size w Wf := by
  have gf : WL.grownBy Wf (some w.heap.size) := by rw [hWf]; exact grow_set (grow_set (World.grownBy.refl _ _) 0 _) 1 _
  refine ⟨?_, (o.grow gf (fun q hq e => by have := Option.some.inj hq; have := (o.lt _ e).1; omega)).mono (by omega), h.grown gf h.size (fun q hq => by have := Option.some.inj hq; omega)⟩
  rw [hWf]
  have := (K.set 0 (.int .i64 n)).set 1 (.slice ad i cp)
  simpa using this
set_option maxHeartbeats 4000000 in
set_option maxRecDepth 100000 in
theorem drawFindSun_any (w : World) (v : Value) (l : List Nat) (hv : Byts w v l) :
    Calls Try.prog 25 #[v] w fun e w' => ∃ (n : Int) (ad : Option Addr) (i cp : Nat) (x : Int) (L : List Int), e = .returned (.tuple #[.agg #[.int .i64 n, .slice ad i cp], .int .i64 x]) ∧ InR n ∧ InR x ∧ OwnI 3 w.heap.size w' (.slice ad i cp) L ∧ L.length ≤ 32 ∧ Below w.heap.size w w' := by
  go_enter Try.func25, Try.ntmps25
  go_wp2_with fail
  refine calls_named ?_
  intro V hV
  have B : Below w.heap.size w V := by rw [hV]; exact bl1 _ _
  have K2 : Blk V w.heap.size 28 #[.int .i64 0, .slice none 0 0] := by rw [hV]; exact Blk.new _ _ _
  clear hV
  have hw := K2.lt
  refine (l1New_any V _ _ (hv.below B (Nat.le_refl _))).mono ?_
  rintro e w1 ⟨rfl, D1, b1⟩
  have K2 := K2.keep b1
  have B := B.after b1 B.size
  have y1 := D1.lt
  go_wp2_with fail
  refine (l22Uniform_any w1 V.heap.size D1).mono ?_
  rintro e w2 ⟨n0, a0, i0, c0, q, L0, rfl, hn0, hq, o2, hL0, D2, g2⟩
  have K2 := K2.grow g2 (by simp; omega)
  have B := B.grown g2 B.size (fun q hq => by have := Option.some.inj hq; omega)
  have y2 := g2.size
  go_wp2_with fail
  refine calls_named ?_
  intro V3 hV3
  have b3 : Below w2.heap.size w2 V3 := by rw [hV3]; exact bl1 _ _
  have K4 : Blk V3 w2.heap.size 28 #[.int .i64 n0, .slice a0 i0 c0] := by rw [hV3]; exact Blk.new _ _ _
  have K2 := K2.keep b3
  have D3 := D2.keep b3
  have r2 := o2.lt
  have o3 := o2.keep b3
  have B := B.after b3 B.size
  clear hV3 D2 g2 D1 o2
  refine (l1Once_any V3 V.heap.size D3 3).mono ?_
  rintro e w3 ⟨bb, rfl, D4, g4⟩
  have K2 := K2.grow g4 (by simp; omega)
  have K4 := K4.grow g4 (by simp; omega)
  have o4 := o3.grow g4 (fun q hq e => by have := Option.some.inj hq; have := (o3.lt _ e).1; omega)
  have B := B.grown g4 B.size (fun q hq => by have := Option.some.inj hq; omega)
  have x4 := K4.lt
  clear D3 g4 o3
  cases bb with
  | false =>
    obtain ⟨w4, hw4⟩ : ∃ W : World, W = w3 := ⟨_, rfl⟩
    subst hw4
    obtain ⟨n, hn'⟩ : ∃ x, x = n0 := ⟨_, rfl⟩
    subst hn'
    obtain ⟨ad, ha'⟩ : ∃ x, x = a0 := ⟨_, rfl⟩
    subst ha'
    obtain ⟨i, hi'⟩ : ∃ x, x = i0 := ⟨_, rfl⟩
    subst hi'
    obtain ⟨cp, hc'⟩ : ∃ x, x = c0 := ⟨_, rfl⟩
    subst hc'
    obtain ⟨L, hL'⟩ : ∃ x, x = L0 := ⟨_, rfl⟩
    subst hL'
    have hn := hn0
    have hL := hL0
    have D4d : Dr w4.drew V.heap.size := D4.keep (Below.refl _ _).drew
    have K4d : Blk w4.drew w2.heap.size 28 #[.int .i64 n, .slice ad i cp] := K4
    have K2d : Blk w4.drew w.heap.size 28 #[.int .i64 0, .slice none 0 0] := K2
    have od : OwnI 3 w1.heap.size w4.drew (.slice ad i cp) L := o4.keep (Below.refl _ _).drew
    have Bd : Below w.heap.size w w4.drew := B.drew
    have HB := Lib.hid (l1Below_any w4.drew V.heap.size D4d 7)
    have G4 := K4.cell
    have z2 : w.heap.size < w2.heap.size := by omega
    go_wp2_with fail
    go_region_law
      (go_simp; go_at_call 91; refine HB.out.mono ?_; rintro e w5 ⟨x, rfl, hxr, _, _, D5, g5⟩; have K45 := K4d.grow g5 (by simp; omega); have K25 := K2d.grow g5 (by simp; omega); have G45 := K45.cell; have G25 := K25.cell; have F25 := K25.frozen)
    all_goals
      have o5 := od.grow g5 (fun q hq e => by have := Option.some.inj hq; have := (od.lt _ e).1; omega)
      have B5 := Bd.grown g5 Bd.size (fun q hq => by have := Option.some.inj hq; omega)
      go_wp2
      refine post_named ?_
      intro Wf hWf
      obtain ⟨KF, oF, BF⟩ := fam_put2 K25 o5 (by omega) B5 hWf
      have GF := KF.cell
      clear hWf
      exact bodyPost_ret (v := .tuple #[.agg #[.int .i64 n, .slice ad i cp], .int .i64 x]) (by simp [results, Try.results25, go_sem, GF]) rfl (by first | exact ⟨n, ad, i, cp, x, L, rfl, hn, hxr, oF, hL, BF⟩ | exact ⟨n, ad, i, cp, x, rfl, hn, hxr, L, oF, hL, BF⟩)
  | true =>
    have F4 := K4.frozen
    have G4 := K4.cell
    go_wp2_with fail
    clear F4 G4
    refine (l15Any_any w3 V.heap.size D4).mono ?_
    rintro e w6 ⟨n, ad, i, cp, L, rfl, hn, o6, hL6, D6, g6⟩
    have K2 := K2.grow g6 (by simp; omega)
    have K6 := K4.grow g6 (by simp; omega)
    have B := B.grown g6 B.size (fun q hq => by have := Option.some.inj hq; omega)
    have hL : L.length ≤ 32 := by omega
    have F6 := K6.frozen
    have G6 := K6.cell
    have y6 := g6.size
    have hne := own_apart o6 K6
    obtain ⟨w4, hw4⟩ : ∃ W, W = (w6.setCell ⟨w2.heap.size, 0, none⟩ (.int .i64 n)).setCell ⟨w2.heap.size, 1, none⟩ (.slice ad i cp) := ⟨_, rfl⟩
    have g7 : w6.grownBy w4 (some w2.heap.size) := by rw [hw4]; exact grow_set (grow_set (World.grownBy.refl _ _) 0 _) 1 _
    have K4n : Blk w4 w2.heap.size 28 #[.int .i64 n, .slice ad i cp] := by
      rw [hw4]
      have := (K6.set 0 (.int .i64 n)).set 1 (.slice ad i cp)
      simpa using this
    have K2 := K2.grow g7 (fun e => by have := Option.some.inj e; omega)
    have B := B.grown g7 B.size (fun q hq => by have := Option.some.inj hq; omega)
    have D4 := D6.grow g7 (fun k e => by have := Option.some.inj e; omega)
    have o4 := (o6.grow g7 (fun q hq e => by
      have := Option.some.inj hq
      exact hne (by rw [e, this]))).mono (B' := w1.heap.size) (by omega)
    have K4 := K4n
    have x4 := K4.lt
    go_wp2_with fail
    rw [← hw4]
    clear hw4 F6 G6
    have D4d : Dr w4.drew V.heap.size := D4.keep (Below.refl _ _).drew
    have K4d : Blk w4.drew w2.heap.size 28 #[.int .i64 n, .slice ad i cp] := K4
    have K2d : Blk w4.drew w.heap.size 28 #[.int .i64 0, .slice none 0 0] := K2
    have od : OwnI 3 w1.heap.size w4.drew (.slice ad i cp) L := o4.keep (Below.refl _ _).drew
    have Bd : Below w.heap.size w w4.drew := B.drew
    have HB := Lib.hid (l1Below_any w4.drew V.heap.size D4d 7)
    have G4 := K4.cell
    have z2 : w.heap.size < w2.heap.size := by omega
    go_wp2_with fail
    go_region_law
      (go_simp; go_at_call 91; refine HB.out.mono ?_; rintro e w5 ⟨x, rfl, hxr, _, _, D5, g5⟩; have K45 := K4d.grow g5 (by simp; omega); have K25 := K2d.grow g5 (by simp; omega); have G45 := K45.cell; have G25 := K25.cell; have F25 := K25.frozen)
    all_goals
      have o5 := od.grow g5 (fun q hq e => by have := Option.some.inj hq; have := (od.lt _ e).1; omega)
      have B5 := Bd.grown g5 Bd.size (fun q hq => by have := Option.some.inj hq; omega)
      go_wp2
      refine post_named ?_
      intro Wf hWf
      obtain ⟨KF, oF, BF⟩ := fam_put2 K25 o5 (by omega) B5 hWf
      have GF := KF.cell
      clear hWf
      exact bodyPost_ret (v := .tuple #[.agg #[.int .i64 n, .slice ad i cp], .int .i64 x]) (by simp [results, Try.results25, go_sem, GF]) rfl (by first | exact ⟨n, ad, i, cp, x, L, rfl, hn, hxr, oF, hL, BF⟩ | exact ⟨n, ad, i, cp, x, rfl, hn, hxr, L, oF, hL, BF⟩)
end Go.Proofs.Ytmlpcohailjccaa
