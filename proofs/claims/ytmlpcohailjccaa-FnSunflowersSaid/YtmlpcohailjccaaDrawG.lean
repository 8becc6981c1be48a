/- Draws: any families. -/
import Derived.Test.YtmlpcohailjccaaDrawF
import Derived.Test.YtmlpcohailjccaaFom
namespace Go.Proofs.Ytmlpcohailjccaa
open Go.RowKit Go.G5

theorem gr_any {w w' w'' : World} {g : Nat} {row : Option Nat} (h : w.grownBy w' (some g)) (k : w'.grownBy w'' row) (hr : ∀ b, row = some b → b = g ∨ w.heap.size ≤ b) : w.grownBy w'' (some g) :=
  ⟨k.os.trans h.os, k.tape.trans h.tape, k.output.trans h.output, Nat.le_trans h.size k.size, fun b hb hn => (k.block b (Nat.lt_of_lt_of_le hb h.size) (fun e => by
    rcases hr b e.symm with h1 | h1
    · exact hn (by rw [h1])
    · omega)).trans (h.block b hb hn)⟩
theorem OwnI.lit5 {E : TypeId} (w : World) (a b c d e : Int) (h : ∀ x ∈ [a, b, c, d, e], InR x) : OwnI E w.heap.size (w.alloc (.cells #[.int .i64 a, .int .i64 b, .int .i64 c, .int .i64 d, .int .i64 e] E)) (.slice (some ⟨w.heap.size, 0, none⟩) 5 5) [a, b, c, d, e] :=
  ⟨World.ownsRow_lit w #[.int .i64 a, .int .i64 b, .int .i64 c, .int .i64 d, .int .i64 e] 5 (Nat.le_refl _) (by decide) rfl, h⟩
theorem any_tail {w WL Wf : World} {g B : Nat} {n : Int} {ad : Option Addr} {i cp : Nat} {l : List Int} (zg : g < w.heap.size) (K : Blk WL w.heap.size 28 #[.int .i64 0, .slice none 0 0]) (D : Dr WL g) (o : OwnI 3 B WL (.slice ad i cp) l) (hB : w.heap.size < B) (h : w.grownBy WL (some g))
    (hWf : Wf = (WL.setCell ⟨w.heap.size, 0, none⟩ (.int .i64 n)).setCell ⟨w.heap.size, 1, none⟩ (.slice ad i cp)) : Blk Wf w.heap.size 28 #[.int .i64 n, .slice ad i cp] ∧ Dr Wf g ∧ OwnI 3 w.heap.size Wf (.slice ad i cp) l ∧ w.grownBy Wf (some g) := by
  have gf : WL.grownBy Wf (some w.heap.size) := by rw [hWf]; exact grow_set (grow_set (World.grownBy.refl _ _) 0 _) 1 _
  refine ⟨?_, D.grow gf (fun k e => by have := Option.some.inj e; omega), (o.grow gf (fun q hq e => by have := Option.some.inj hq; have := (o.lt _ e).1; omega)).mono (by omega), gr_any h gf (fun b e => .inr (by have := Option.some.inj e; omega))⟩
  rw [hWf]
  have := (K.set 0 (.int .i64 n)).set 1 (.slice ad i cp)
  simpa using this
theorem own_apart {w : World} {B b : Nat} {v : Value} {l : List Int} {cs : Array Value} (h : OwnI 3 B w v l) (K : Blk w b 28 cs) : v.ownBlock ≠ some b := by
  intro e
  obtain ⟨⟨_, h1⟩, _⟩ := h
  rcases h1 with ⟨rfl, _⟩ | ⟨q, cap, cur, rfl, _, hq, _⟩
  · simp [Value.ownBlock] at e
  · have hqb : q = b := by simpa [Value.ownBlock] using e
    subst hqb
    have hK : w.heap[q]? = some (.cells cs 28 (0, 0)) := K
    rw [hq] at hK
    simp at hK
set_option maxHeartbeats 4000000 in
set_option maxRecDepth 100000 in
theorem l15Any_any (w : World) (g : Nat) (D : Dr w g) :
    Calls Try.prog 90 #[.pointer (some ⟨g, 0, none⟩)] w fun e w' => ∃ (n : Int) (ad : Option Addr) (i cp : Nat) (l : List Int), e = .returned (.agg #[.int .i64 n, .slice ad i cp]) ∧ InR n ∧ OwnI 3 w.heap.size w' (.slice ad i cp) l ∧ l.length ≤ 8 ∧ Dr w' g ∧ w.grownBy w' (some g) := by
  have zg := D.lt
  go_enter Try.func90, Try.ntmps90
  go_wp2_with fail
  refine calls_named ?_
  intro V hV
  have B : Below w.heap.size w V := by rw [hV]; exact bl1 _ _
  have K2 : Blk V w.heap.size 28 #[.int .i64 0, .slice none 0 0] := by rw [hV]; exact Blk.new _ _ _
  have D0 := D.keep B
  have g0 : w.grownBy V (some g) := gr_below _ B
  have y0 := K2.lt
  clear hV B
  refine (l15Draw_any V g D0).mono ?_
  rintro e w1 ⟨n, ad, i, cp, l, rfl, hn, o1, _, hl, D1, g1⟩
  have K2 := K2.grow g1 (by simp; omega)
  have yV := g1.size
  have g1 := gr_trans g0 g1
  have x1 := K2.lt
  have y1 := g1.size
  go_wp2_with fail
  refine calls_named ?_
  intro V1 hV1
  have K3 : Blk V1 w1.heap.size 28 #[.int .i64 n, .slice ad i cp] := by
    rw [hV1]
    first
      | exact Blk.new _ _ _
      | (have := ((Blk.new w1 28 #[.int .i64 0, .slice none 0 0]).set 0 (.int .i64 n)).set 1 (.slice ad i cp); simpa using this)
  have g2 : w1.grownBy V1 (some w1.heap.size) := by
    rw [hV1]
    first
      | exact gr_below _ (bl1 _ _)
      | exact grow_set (grow_set (gr_below _ (bl1 _ _)) 0 _) 1 _
  have K2 := K2.grow g2 (by simp; omega)
  have D2 := D1.grow g2 (fun k e => by have := Option.some.inj e; omega)
  have o2 := o1.grow g2 (fun q hq e => by have := Option.some.inj hq; have := (o1.lt _ e).2; omega)
  have g2 := gr_any g1 g2 (fun b e => .inr (by have := Option.some.inj e; omega))
  have ro1 := o1.lt
  clear hV1 o1 D1 g1 g0 D0
  refine (l1Below_any V1 g D2 14).mono ?_
  rintro e w3 ⟨x, rfl, _, hx, _, D3, g3⟩
  have hx := hx (by omega)
  have K2 := K2.grow g3 (by simp; omega)
  have K3 := K3.grow g3 (by simp; omega)
  have o3 := o2.grow g3 (fun q hq e => by have := Option.some.inj hq; have := (o2.lt _ e).1; omega)
  have g3 := gr_trans g2 g3
  have x3 := K3.lt
  have G3 := K3.cell
  have F3 := K3.frozen
  clear D2 o2 g2
  by_cases hx0 : x = 0
  · subst hx0
    go_wp2_with fail
    refine calls_named ?_
    intro V4 hV4
    have b4 : Below w3.heap.size w3 V4 := by rw [hV4]; exact bl1 _ _
    have o4 : OwnI 3 w3.heap.size V4 (.slice (some ⟨w3.heap.size, 0, none⟩) 5 5) [-1, 7, 6, 0, 9223372036854775807] := by rw [hV4]; exact OwnI.lit5 w3 _ _ _ _ _ (by simp [InR])
    clear hV4
    refine (l1PickInt_any V4 g (D3.keep b4) w3.heap.size (by omega) _ _ o4 (by simp)).mono ?_
    rintro e w5 ⟨y, rfl, hy, D5, g5⟩
    have hyr : InR y := by
      have : ∀ z ∈ [(-1 : Int), 7, 6, 0, 9223372036854775807], InR z := by simp [InR]
      exact this y hy
    have K2 := (K2.keep b4).grow g5 (by simp; omega)
    have K3 := (K3.keep b4).grow g5 (by simp; omega)
    have o5 := (o3.keep b4).grow g5 (fun q hq e => by have := Option.some.inj hq; have := (o3.lt _ e).1; omega)
    have g5 := gr_trans (gr_trans g3 (gr_below _ b4)) g5
    clear G3 F3
    have G3 := K3.cell
    have F3 := K3.frozen
    have G2 := K2.cell
    have F2 := K2.frozen
    go_wp2
    refine post_named ?_
    intro Wf hWf
    have gs := grown_setCell w5 ⟨w1.heap.size, 0, none⟩ (.int .i64 y)
    obtain ⟨KF, DF, oF, gF⟩ := any_tail zg (K2.far (p := ⟨w1.heap.size, 0, none⟩) (by simp; omega) (.int .i64 y)) (D5.setCell (.int .i64 y) (by omega)) (o5.grow gs (fun q hq e => by have := Option.some.inj hq; simp at this; have := ro1 q e; omega)) (by omega) (gr_any g5 gs (fun b e => .inr (by have := Option.some.inj e; simp at this; omega))) hWf
    have GF := KF.cell
    clear hWf
    exact bodyPost_ret (v := .agg #[.int .i64 y, .slice ad i cp]) (by simp [results, Try.results90, go_sem, GF]) rfl ⟨y, ad, i, cp, l, rfl, hyr, oF, by omega, DF, gF⟩
  · by_cases hx1 : x = 1
    · subst hx1
      have D3d : Dr w3.drew g := D3.keep (Below.refl _ _).drew
      have hpick := l1PickInt_any (w3.drew.alloc (.cells #[.int .i64 0, .int .i64 3, .int .i64 63, .int .i64 64, .int .i64 (-1)] 3)) g (D3d.keep (bl1 _ _)) w3.drew.heap.size (by show g < w3.heap.size; omega) _ _ (OwnI.lit5 w3.drew 0 3 63 64 (-1) (by simp [InR])) (by simp)
      have HPK := Lib.hid hpick
      have K3d : Blk (w3.drew.alloc (.cells #[.int .i64 0, .int .i64 3, .int .i64 63, .int .i64 64, .int .i64 (-1)] 3)) w1.heap.size 28 #[.int .i64 n, .slice ad i cp] := Blk.alloc (w := w3.drew) K3 _
      have K2d : Blk (w3.drew.alloc (.cells #[.int .i64 0, .int .i64 3, .int .i64 63, .int .i64 64, .int .i64 (-1)] 3)) w.heap.size 28 #[.int .i64 0, .slice none 0 0] := Blk.alloc (w := w3.drew) K2 _
      have o3d : OwnI 3 V.heap.size (w3.drew.alloc (.cells #[.int .i64 0, .int .i64 3, .int .i64 63, .int .i64 64, .int .i64 (-1)] 3)) (.slice ad i cp) l := (o3.keep (Below.refl _ _).drew).alloc _
      have G3d := K3d.cell
      have g3d : w.grownBy (w3.drew.alloc (.cells #[.int .i64 0, .int .i64 3, .int .i64 63, .int .i64 64, .int .i64 (-1)] 3)) (some g) := gr_trans (gr_trans g3 (gr_below _ (Below.refl _ _).drew)) (gr_below _ (bl1 _ _))
      have hmem : ∀ z ∈ [(0 : Int), 3, 63, 64, -1], InR z := by simp [InR]
      clear hpick
      go_wp2_with fail
      go_region_law
        (first
          | (go_simp; go_at_call 154; refine HPK.out.mono ?_; rintro e w5 ⟨y, rfl, hy, D5, g5⟩; have K35 := K3d.grow g5 (by simp; omega); have G35 := K35.cell; have F35 := K35.frozen; have K25 := K2d.grow g5 (by simp; omega); have o5 := o3d.grow g5 (fun q hq e => by have := Option.some.inj hq; have := ro1 q e; omega); have gg5 := gr_trans g3d g5; have K36 := K35.alloc (.cells #[.int .i64 y] 3); have G36 := K36.cell)
          | (refine step_appendI rfl _ _ _ rfl 3 Try.underlying22 intElem V.heap.size _ _ y w5.heap.size rfl rfl (cell_new w5 #[.int .i64 y] 3 0 _ rfl) (o5.alloc (.cells #[.int .i64 y] 3)) (hmem y hy) (by omega) (by have := K35.lt; simp; omega) ?_; intro v' w6 hown hgr; obtain ⟨av, nv, cv, rfl⟩ := hown.shape3; have K37 := K36.grow hgr (fun e => by have := ro1 _ e; omega); have G37 := K37.cell; have F37 := K37.frozen))
      all_goals
        have D6 := (D5.keep (bl1 w5 (.cells #[.int .i64 y] 3))).grow hgr (fun k e => by have := (o3d.lt k e).1; omega)
        have K26 := (K25.alloc (.cells #[.int .i64 y] 3)).grow hgr (fun e => by have := (o3d.lt _ e).1; omega)
        have g6 := gr_any (gr_trans gg5 (gr_below _ (bl1 w5 (.cells #[.int .i64 y] 3)))) hgr (fun b e => .inr (by have := (o3d.lt b e).1; omega))
        have G2 := K26.cell
        have F2 := K26.frozen
        have x37 := K37.lt
        have row6 : (Value.slice av nv cv).ownBlock ≠ some w1.heap.size := own_apart hown K37
        go_wp2
        refine post_named ?_
        intro Wf hWf
        have gs := grown_setCell w6 ⟨w1.heap.size, 1, none⟩ (.slice av nv cv)
        obtain ⟨KF, DF, oF, gF⟩ := any_tail zg (K26.far (p := ⟨w1.heap.size, 1, none⟩) (by simp; omega) (.slice av nv cv)) (D6.setCell (.slice av nv cv) (by omega)) (hown.grow gs (fun q hq e => by have := Option.some.inj hq; simp at this; exact row6 (by rw [e, this]))) (by omega) (gr_any g6 gs (fun b e => .inr (by have := Option.some.inj e; simp at this; omega))) hWf
        have GF := KF.cell
        clear hWf
        exact bodyPost_ret (v := .agg #[.int .i64 n, .slice av nv cv]) (by simp [results, Try.results90, go_sem, GF]) rfl ⟨n, av, nv, cv, l ++ [y], rfl, hn, oF, by simp; omega, DF, gF⟩
    · have hx0' : ¬ x = 0 := hx0
      have G2 := K2.cell
      have F2 := K2.frozen
      go_wp2
      refine post_named ?_
      intro Wf hWf
      obtain ⟨KF, DF, oF, gF⟩ := any_tail zg K2 D3 o3 (by omega) g3 hWf
      have GF := KF.cell
      clear hWf
      exact bodyPost_ret (v := .agg #[.int .i64 n, .slice ad i cp]) (by simp [results, Try.results90, go_sem, GF]) rfl ⟨n, ad, i, cp, l, rfl, hn, oF, by omega, DF, gF⟩
end Go.Proofs.Ytmlpcohailjccaa
