/- Draws: lists of sets. -/
import Derived.Test.YtmlpcohailjccaaDrawT
namespace Go.Proofs.Ytmlpcohailjccaa
open Go.RowKit Go.G5

theorem lit3U {E : TypeId} {B : Nat} (w : World) (hB : B ≤ w.heap.size) (x y z : Int) (hx : InR x) (hy : InR y) (hz : InR z) : OwnI E B (w.alloc (.cells #[.int .i64 x, .int .i64 y, .int .i64 z] E)) (.slice (some ⟨w.heap.size, 0, none⟩) 3 3) [x, y, z] :=
  ⟨World.ownsRow_lit w #[.int .i64 x, .int .i64 y, .int .i64 z] 3 hB (by decide) rfl, by intro q hq; simp at hq; rcases hq with rfl | rfl | rfl <;> assumption⟩
set_option maxHeartbeats 4000000 in
set_option maxRecDepth 100000 in
theorem l24List_any (w : World) (v : Value) (l : List Nat) (hv : Byts w v l) :
    Calls Try.prog 102 #[v] w fun e w' => ∃ (ad : Option Addr) (i cp : Nat) (L : List Int), e = .returned (.slice ad i cp) ∧ Ints w' (.slice ad i cp) L ∧ L.length ≤ 64 ∧ Below w.heap.size w w' := by
  go_enter Try.func102, Try.ntmps102
  go_wp2_with fail
  refine (l1New_any w _ _ hv).mono ?_
  rintro e w1 ⟨rfl, D1, B⟩
  have y1 := D1.lt
  go_wp2_with fail
  refine (l22Uniform_any w1 w.heap.size D1).mono ?_
  rintro e w2 ⟨n, ad, i, cp, q, L, rfl, hn, hq, o2, hL, D2, g2⟩
  have B := B.grown g2 B.size (fun q hq => by have := Option.some.inj hq; omega)
  have y2 := g2.size
  have r2 := o2.lt
  obtain ⟨w3, hw3⟩ : ∃ W, W = w2.alloc (.cells #[.int .i64 n, .slice ad i cp] 28) := ⟨_, rfl⟩
  have b3 : Below w2.heap.size w2 w3 := by rw [hw3]; exact bl1 _ _
  have K3 : Blk w3 w2.heap.size 28 #[.int .i64 n, .slice ad i cp] := by rw [hw3]; exact Blk.new _ _ _
  have D3 := D2.keep b3
  have o3 := o2.keep b3
  have B := B.after b3 B.size
  clear D2 g2 D1 o2
  have D3d : Dr w3.drew w.heap.size := D3.keep (Below.refl _ _).drew
  have K3d : Blk w3.drew w2.heap.size 28 #[.int .i64 n, .slice ad i cp] := K3
  have od : OwnI 3 w1.heap.size w3.drew (.slice ad i cp) L := o3.keep (Below.refl _ _).drew
  have Bd : Below w.heap.size w w3.drew := B.drew
  have HB := Lib.hid (l1Below_any w3.drew w.heap.size D3d 2)
  have HF := Lib.hid (fun (W : World) (h : Ints W (.slice ad i cp) L) (x : Int) (hx : InR x) => findSunS_c W n _ L h (by omega) x hx)
  have G3 := K3.cell
  go_wp2_with fail
  rw [← hw3]
  clear hw3
  go_region_law
    (first
      | (go_simp; go_at_call 91; refine HB.out.mono ?_; rintro e w5 ⟨x, rfl, _, hx, _, D5, g5⟩; have hx := hx (by omega); have K5 := K3d.grow g5 (by simp; omega); have G5 := K5.cell; have o5 := od.grow g5 (fun q hq e => by have := Option.some.inj hq; have := (od.lt _ e).1; omega); have wx : IntKind.i64.wrap (2 + x) = 2 + x := IntWalk.i64_in _ ⟨by omega, by omega⟩; have hxr : InR (2 + x) := ⟨by omega, by omega⟩)
      | (go_simp; go_at_call 27; refine (HF.out w5 o5.ints (2 + x) hxr).mono ?_; rintro e w6 ⟨p6, i6, q6, rfl, o6, b6⟩; have K6 := K5.keep b6; have G6 := K6.cell))
  all_goals
    have B5 := Bd.grown g5 Bd.size (fun q hq => by have := Option.some.inj hq; omega)
    have B6 := B5.after b6 B5.size
    have D6 := D5.keep b6
    have o7 := o5.keep b6
    have hsl := sunL_len n L (2 + x)
    have x6 := K6.lt
    cases hs : sunB n L (2 + x) with
    | true =>
      clear hs
      go_wp2
      go_ret
      exact ⟨p6, i6, q6, _, rfl, o6.ints, by omega, B6⟩
    | false =>
      clear hs
      have hoi := o7.ints
      go_wp2_with (at_builtin; refine wpList_appendS rfl _ _ _ rfl 3 Try.underlying22 intElem w6.heap.size _ [] rfl (OwnI.lit0 w6 (Nat.le_refl _)) _ L rfl (hoi.alloc _) (by simp; omega) (by simp) ?_; intro v' w8 o8 hg8; obtain ⟨av, nv, cv, rfl⟩ := o8.shape3)
      have hr8 : ∀ k, (Value.slice (some ⟨w6.heap.size, 0, none⟩) 0 0).ownBlock = some k → w6.heap.size ≤ k := fun k hk => by
        have hk' : some w6.heap.size = some k := hk
        exact Nat.le_of_eq (Option.some.inj hk')
      have b8 : Below w6.heap.size w6 w8 := (bl1 w6 (.cells #[] 3)).grown hg8 (by simp) hr8
      have B8 := B6.after b8 B6.size
      have D8 := D6.keep b8
      have o8 : OwnI 3 w6.heap.size w8 (.slice av nv cv) L := by simpa using o8
      have z6 := D6.lt
      have z8 := b8.size
      clear hg8 hr8
      refine (l1Once_any w8 w.heap.size D8 3).mono ?_
      rintro e w9 ⟨bb, rfl, D9, g9⟩
      have o9 := o8.grow g9 (fun q hq e => by have := Option.some.inj hq; have := (o8.lt _ e).1; omega)
      have B9 := B8.grown g9 B8.size (fun q hq => by have := Option.some.inj hq; omega)
      have z9 := g9.size
      cases bb with
      | false =>
        go_wp2
        go_ret
        exact ⟨av, nv, cv, L, rfl, o9.ints, by omega, B9⟩
      | true =>
        have ol := lit3U (E := 3) (B := w9.heap.size) w9 (Nat.le_refl _) q 64 (-1) hq ⟨by omega, by omega⟩ ⟨by omega, by omega⟩
        have o9a := o9.alloc (.cells #[.int .i64 q, .int .i64 64, .int .i64 (-1)] 3)
        have oli := ol.ints
        go_wp2_with (at_builtin; refine wpList_appendS rfl _ _ _ rfl 3 Try.underlying22 intElem w6.heap.size _ L rfl o9a _ [q, 64, -1] rfl oli (by simp; omega) (by simp; omega) ?_; intro v' w10 o10 hg10; obtain ⟨ax, nx, cx, rfl⟩ := o10.shape3)
        go_ret
        exact ⟨ax, nx, cx, L ++ [q, 64, -1], rfl, o10.ints, by simp; omega, (B9.after (bl1 w9 _) B9.size).grown hg10 (B9.after (bl1 w9 _) B9.size).size (fun k hk => by have := (o9a.lt k hk).1; have := B6.size; omega)⟩
theorem drawKernel_any (w : World) (v : Value) (l : List Nat) (hv : Byts w v l) :
    Calls Try.prog 34 #[v] w fun e w' => ∃ (ad : Option Addr) (i cp : Nat) (L : List Int), e = .returned (.slice ad i cp) ∧ Ints w' (.slice ad i cp) L ∧ L.length ≤ 64 ∧ Below w.heap.size w w' := by
  have HL := Lib.hid (l24List_any w v l hv)
  go_enter Try.func34, Try.ntmps34
  go_wp2_with (go_at_call 102; refine HL.out.mono ?_; rintro e w1 ⟨ad, i, cp, L, rfl, h1, h2, b1⟩)
  go_ret
  exact ⟨ad, i, cp, L, rfl, h1, h2, b1⟩
theorem drawPetals_any (w : World) (v : Value) (l : List Nat) (hv : Byts w v l) :
    Calls Try.prog 36 #[v] w fun e w' => ∃ (ad : Option Addr) (i cp : Nat) (L : List Int), e = .returned (.slice ad i cp) ∧ Ints w' (.slice ad i cp) L ∧ L.length ≤ 64 ∧ Below w.heap.size w w' := by
  have HL := Lib.hid (l24List_any w v l hv)
  go_enter Try.func36, Try.ntmps36
  go_wp2_with (go_at_call 102; refine HL.out.mono ?_; rintro e w1 ⟨ad, i, cp, L, rfl, h1, h2, b1⟩)
  go_ret
  exact ⟨ad, i, cp, L, rfl, h1, h2, b1⟩
theorem drawIsSun_any (w : World) (v : Value) (l : List Nat) (hv : Byts w v l) :
    Calls Try.prog 38 #[v] w fun e w' => ∃ (ad : Option Addr) (i cp : Nat) (L : List Int), e = .returned (.slice ad i cp) ∧ Ints w' (.slice ad i cp) L ∧ L.length ≤ 64 ∧ Below w.heap.size w w' := by
  have HL := Lib.hid (l24List_any w v l hv)
  go_enter Try.func38, Try.ntmps38
  go_wp2_with (go_at_call 102; refine HL.out.mono ?_; rintro e w1 ⟨ad, i, cp, L, rfl, h1, h2, b1⟩)
  go_ret
  exact ⟨ad, i, cp, L, rfl, h1, h2, b1⟩
end Go.Proofs.Ytmlpcohailjccaa
