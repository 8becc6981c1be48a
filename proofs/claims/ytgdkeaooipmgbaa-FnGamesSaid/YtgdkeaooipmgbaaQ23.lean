/- Draws: what the law of games draws, its four draws. -/
import Derived.Test.YtgdkeaooipmgbaaQ22
import Derived.Lib.MinMax
section
namespace Go.Proofs.Ytgdkeaooipmgbaa
open Go.RowKit Go.G5

theorem clampN (n : Int) : ∃ N : Nat, N ≤ 5 ∧ max 0 (min 5 n) = (N : Int) := ⟨(max 0 (min 5 n)).toNat, by omega, by omega⟩
set_option maxHeartbeats 4000000 in
set_option maxRecDepth 100000 in
theorem drawCore_any (w : World) (v : Value) (l : List Nat) (hv : Byts w v l) :
    Calls Try.prog 23 #[v] w fun e w' => ∃ (n : Int) (ad : Option Addr) (i cp : Nat) (L : List Int) (ad2 : Option Addr) (i2 cp2 : Nat) (X : List Int), e = .returned (.tuple #[.agg #[.int .i64 n, .slice ad i cp], .slice ad2 i2 cp2]) ∧ InR n ∧ Ints w' (.slice ad i cp) L ∧ L.length ≤ 32 ∧ Ints w' (.slice ad2 i2 cp2) X ∧ X.length ≤ 5 ∧ Below w.heap.size w w' := by
  go_enter Try.func23, Try.ntmps23
  go_wp2_with fail
  refine calls_named ?_
  intro V hV
  have B : Below w.heap.size w V := by rw [hV]; exact bl1 _ _
  have K2 : Blk V w.heap.size 26 #[.int .i64 0, .slice none 0 0] := by rw [hV]; exact Blk.new _ _ _
  clear hV
  have hw := K2.lt
  refine (l1New_any V _ _ (hv.below B (Nat.le_refl _))).mono ?_
  rintro e w1 ⟨rfl, D1, b1⟩
  have K2 := K2.keep b1
  have B := B.after b1 B.size
  have zb := b1.size
  have yD := D1.lt
  clear b1
  go_wp2_with fail
  refine (l32Draw_any w1 V.heap.size D1).mono ?_
  rintro e w2 ⟨n, ad, i, cp, L, rfl, hn, o2, hL, D2, g2⟩
  have K2 := K2.grow g2 (fun e => by have := Option.some.inj e; omega)
  have B2 := B.grown g2 B.size (fun q hq => by have := Option.some.inj hq; omega)
  have ro := o2.lt
  have y2 := g2.size
  clear g2 D1
  obtain ⟨N, hN5, hN⟩ := clampN n
  go_wp2_with fail
  obtain ⟨W3, hW3⟩ : ∃ W3, W3 = w2.alloc (.cells #[.int .i64 n, .slice ad i cp] 26) := ⟨_, rfl⟩
  rw [← hW3]
  have K3 : Blk W3 w2.heap.size 26 #[.int .i64 n, .slice ad i cp] := by rw [hW3]; exact Blk.new _ _ _
  have K2 := by have := K2.alloc (.cells #[.int .i64 n, .slice ad i cp] 26); rw [← hW3] at this; exact this
  have D3 := by have := D2.keep (bl1 w2 (.cells #[.int .i64 n, .slice ad i cp] 26)); rw [← hW3] at this; exact this
  have o3 := by have := o2.alloc (.cells #[.int .i64 n, .slice ad i cp] 26); rw [← hW3] at this; exact this
  have b3 : Below w2.heap.size w2 W3 := by rw [hW3]; exact bl1 _ _
  have B3 := B2.after b3 B2.size
  have z3 := b3.size
  have y3 := K3.lt
  clear hW3 b3 o2 D2 B2
  have hor := l8Order_any W3.drew V.heap.size (D3.keep (Below.refl _ _).drew) N hN5
  have HOR := Lib.hid hor
  have hcn := fun (W : World) (u : Value) (o : List Int) (h1 : Ints W (.slice ad i cp) L) (h2 : Ints W u o) => cornerOfS_any W n _ u L o h1 h2
  have HCN := Lib.hid hcn
  have K3d : Blk W3.drew w2.heap.size 26 #[.int .i64 n, .slice ad i cp] := K3
  have G3d := K3d.cell
  have G3 := K3.cell
  have o3d : OwnI 3 w1.heap.size W3.drew (.slice ad i cp) L := o3.keep (Below.refl _ _).drew
  clear hor hcn
  go_region_law
    (first
      | (go_simp; go_at_call 57; refine HOR.out.mono ?_; rintro e w5 ⟨p5, i5, q5, O, rfl, o5, hO, hO2, D5, g5⟩; have K35 := K3d.grow g5 (fun e => by have := Option.some.inj e; omega); have G35 := K35.cell; have oL5 := o3d.grow g5 (fun q hq e => by have := Option.some.inj hq; have := (ro _ e).1; omega))
      | (go_simp; go_at_call 56; refine (HCN.out _ _ O oL5.ints o5.ints).mono ?_; rintro e w6 ⟨bb, p6, i6, q6, X, rfl, o6, hX, b6⟩))
  all_goals
    have K36 := K35.keep b6
    have oL6 := oL5.keep b6
    have D6 := D5.keep b6
    have K26 := ((show Blk W3.drew w.heap.size 26 #[.int .i64 0, .slice none 0 0] from K2).grow g5 (fun e => by have := Option.some.inj e; omega)).keep b6
    have B5 := (B3.drew).grown g5 B3.size (fun q hq => by have := Option.some.inj hq; omega)
    have B6 := B5.after b6 B5.size
    have y5 := g5.size
    have yd : W3.drew.heap.size = W3.heap.size := rfl
    have y6 := b6.size
    have y36 := K36.lt
    clear b6 g5 D5 K35 G35 G3 G3d K3d o3d
    have G2 := K26.cell
    have F2 := K26.frozen
    have G36 := K36.cell
    cases bb with
    | true =>
      go_wp2
      refine post_named ?_
      intro Wf hWf
      have KF : Blk Wf w.heap.size 26 #[.int .i64 n, .slice ad i cp] := by
        rw [hWf]
        have := (K26.set 0 (.int .i64 n)).set 1 (.slice ad i cp)
        simpa using this
      have gf : w6.grownBy Wf (some w.heap.size) := by rw [hWf]; exact grow_set (grow_set (World.grownBy.refl _ _) 0 _) 1 _
      have GF := KF.cell
      have oF := oL6.grow gf (fun q hq e => by have := Option.some.inj hq; have := (ro _ e).1; omega)
      have xF := o6.grow gf (fun q hq e => by have := Option.some.inj hq; have := (o6.lt _ e).1; omega)
      have BF := B6.grown gf B6.size (fun q hq => by have := Option.some.inj hq; omega)
      clear hWf
      exact bodyPost_ret (v := .tuple #[.agg #[.int .i64 n, .slice ad i cp], .slice p6 i6 q6]) (by simp [results, Try.results23, go_sem, GF]) rfl ⟨n, ad, i, cp, L, p6, i6, q6, X, rfl, hn, oF.ints, hL, xF.ints, hX, BF⟩
    | false =>
      have h7 := l7Draw_any w6.drew V.heap.size (D6.keep (Below.refl _ _).drew) N hN5
      have H7 := Lib.hid h7
      have K36d : Blk w6.drew w2.heap.size 26 #[.int .i64 n, .slice ad i cp] := K36
      have K26d : Blk w6.drew w.heap.size 26 #[.int .i64 0, .slice none 0 0] := K26
      have oL6d : OwnI 3 w1.heap.size w6.drew (.slice ad i cp) L := oL6.keep (Below.refl _ _).drew
      have G36d := K36d.cell
      have G2d := K26d.cell
      have F2d := K26d.frozen
      have yd6 : w6.drew.heap.size = w6.heap.size := rfl
      clear h7 o6 hX
      go_wp2_with fail
      go_region_law
        (go_simp; go_at_call 58; refine H7.out.mono ?_; rintro e w7 ⟨p7, i7, q7, X7, rfl, o7, hX7, D7, g7⟩; have K37 := K36d.grow g7 (fun e => by have := Option.some.inj e; omega); have G37 := K37.cell; have K27 := K26d.grow g7 (fun e => by have := Option.some.inj e; omega); have G27 := K27.cell; have F27 := K27.frozen; have oL7 := oL6d.grow g7 (fun q hq e => by have := Option.some.inj hq; have := (ro _ e).1; omega))
      all_goals
        have B7 := (B6.drew).grown g7 B6.size (fun q hq => by have := Option.some.inj hq; omega)
        have y7 := g7.size
        go_wp2
        refine post_named ?_
        intro Wf hWf
        have KF : Blk Wf w.heap.size 26 #[.int .i64 n, .slice ad i cp] := by
          rw [hWf]
          have := (K27.set 0 (.int .i64 n)).set 1 (.slice ad i cp)
          simpa using this
        have gf : w7.grownBy Wf (some w.heap.size) := by rw [hWf]; exact grow_set (grow_set (World.grownBy.refl _ _) 0 _) 1 _
        have GF := KF.cell
        have oF := oL7.grow gf (fun q hq e => by have := Option.some.inj hq; have := (ro _ e).1; omega)
        have xF := o7.grow gf (fun q hq e => by have := Option.some.inj hq; have := (o7.lt _ e).1; omega)
        have BF := B7.grown gf B7.size (fun q hq => by have := Option.some.inj hq; omega)
        clear hWf
        exact bodyPost_ret (v := .tuple #[.agg #[.int .i64 n, .slice ad i cp], .slice p7 i7 q7]) (by simp [results, Try.results23, go_sem, GF]) rfl ⟨n, ad, i, cp, L, p7, i7, q7, X7, rfl, hn, oF.ints, hL, xF.ints, by omega, BF⟩

set_option maxHeartbeats 1000000 in
set_option maxRecDepth 100000 in
theorem drawMasses_any (w : World) (v : Value) (l : List Nat) (hv : Byts w v l) :
    Calls Try.prog 5 #[v] w fun e w' => ∃ (n : Int) (ad : Option Addr) (i cp : Nat) (L : List Int), e = .returned (.agg #[.int .i64 n, .slice ad i cp]) ∧ InR n ∧ Ints w' (.slice ad i cp) L ∧ L.length ≤ 32 ∧ Below w.heap.size w w' := by
  go_enter Try.func5, Try.ntmps5
  go_wp2_with fail
  refine calls_named ?_
  intro V hV
  have B : Below w.heap.size w V := by rw [hV]; exact bl1 _ _
  have K2 : Blk V w.heap.size 26 #[.int .i64 0, .slice none 0 0] := by rw [hV]; exact Blk.new _ _ _
  clear hV
  have hw := K2.lt
  refine (l1New_any V _ _ (hv.below B (Nat.le_refl _))).mono ?_
  rintro e w1 ⟨rfl, D1, b1⟩
  have K2 := K2.keep b1
  have B := B.after b1 B.size
  have zb := b1.size
  have yD := D1.lt
  clear b1
  go_wp2_with fail
  refine (l32Draw_any w1 V.heap.size D1).mono ?_
  rintro e w2 ⟨n, ad, i, cp, L, rfl, hn, o2, hL, D2, g2⟩
  have K2 := K2.grow g2 (fun e => by have := Option.some.inj e; omega)
  have B2 := B.grown g2 B.size (fun q hq => by have := Option.some.inj hq; omega)
  have ro := o2.lt
  have G2 := K2.cell
  have F2 := K2.frozen
  go_wp2
  refine post_named ?_
  intro Wf hWf
  have KF : Blk Wf w.heap.size 26 #[.int .i64 n, .slice ad i cp] := by
    rw [hWf]
    have := (K2.set 0 (.int .i64 n)).set 1 (.slice ad i cp)
    simpa using this
  have gf : w2.grownBy Wf (some w.heap.size) := by rw [hWf]; exact grow_set (grow_set (World.grownBy.refl _ _) 0 _) 1 _
  have GF := KF.cell
  have oF := o2.grow gf (fun q hq e => by have := Option.some.inj hq; have := (ro _ e).1; omega)
  have BF := B2.grown gf B2.size (fun q hq => by have := Option.some.inj hq; omega)
  clear hWf
  exact bodyPost_ret (v := .agg #[.int .i64 n, .slice ad i cp]) (by simp [results, Try.results5, go_sem, GF]) rfl ⟨n, ad, i, cp, L, rfl, hn, oF.ints, hL, BF⟩
set_option maxHeartbeats 1000000 in
set_option maxRecDepth 100000 in
theorem drawOnlyPos_any (w : World) (v : Value) (l : List Nat) (hv : Byts w v l) :
    Calls Try.prog 29 #[v] w fun e w' => ∃ (n : Int) (ad : Option Addr) (i cp : Nat) (L : List Int), e = .returned (.agg #[.int .i64 n, .slice ad i cp]) ∧ InR n ∧ Ints w' (.slice ad i cp) L ∧ L.length ≤ 32 ∧ Below w.heap.size w w' := by
  go_enter Try.func29, Try.ntmps29
  go_wp2_with fail
  refine calls_named ?_
  intro V hV
  have B : Below w.heap.size w V := by rw [hV]; exact bl1 _ _
  have K2 : Blk V w.heap.size 26 #[.int .i64 0, .slice none 0 0] := by rw [hV]; exact Blk.new _ _ _
  clear hV
  have hw := K2.lt
  refine (l1New_any V _ _ (hv.below B (Nat.le_refl _))).mono ?_
  rintro e w1 ⟨rfl, D1, b1⟩
  have K2 := K2.keep b1
  have B := B.after b1 B.size
  have zb := b1.size
  have yD := D1.lt
  clear b1
  go_wp2_with fail
  refine (l32Draw_any w1 V.heap.size D1).mono ?_
  rintro e w2 ⟨n, ad, i, cp, L, rfl, hn, o2, hL, D2, g2⟩
  have K2 := K2.grow g2 (fun e => by have := Option.some.inj e; omega)
  have B2 := B.grown g2 B.size (fun q hq => by have := Option.some.inj hq; omega)
  have ro := o2.lt
  have G2 := K2.cell
  have F2 := K2.frozen
  go_wp2
  refine post_named ?_
  intro Wf hWf
  have KF : Blk Wf w.heap.size 26 #[.int .i64 n, .slice ad i cp] := by
    rw [hWf]
    have := (K2.set 0 (.int .i64 n)).set 1 (.slice ad i cp)
    simpa using this
  have gf : w2.grownBy Wf (some w.heap.size) := by rw [hWf]; exact grow_set (grow_set (World.grownBy.refl _ _) 0 _) 1 _
  have GF := KF.cell
  have oF := o2.grow gf (fun q hq e => by have := Option.some.inj hq; have := (ro _ e).1; omega)
  have BF := B2.grown gf B2.size (fun q hq => by have := Option.some.inj hq; omega)
  clear hWf
  exact bodyPost_ret (v := .agg #[.int .i64 n, .slice ad i cp]) (by simp [results, Try.results29, go_sem, GF]) rfl ⟨n, ad, i, cp, L, rfl, hn, oF.ints, hL, BF⟩
set_option maxHeartbeats 1000000 in
theorem drawFact_any (w : World) (v : Value) (l : List Nat) (hv : Byts w v l) :
    Calls Try.prog 30 #[v] w fun e w' => ∃ x : Int, e = .returned (.int .i64 x) ∧ InR x ∧ Below w.heap.size w w' := by
  go_enter Try.func30, Try.ntmps30
  go_wp2_with fail
  refine (l1New_any w _ _ hv).mono ?_
  rintro e w1 ⟨rfl, D1, b1⟩
  go_wp2_with fail
  refine (l1Below_any w1 w.heap.size D1 15).mono ?_
  rintro e w2 ⟨x, rfl, _, hx, _, D2, g2⟩
  have hx := hx (by omega)
  go_wp2
  go_ret
  exact ⟨x - 1, rfl, ⟨by omega, by omega⟩, b1.grown g2 b1.size (fun q hq => by have := Option.some.inj hq; omega)⟩
set_option maxHeartbeats 4000000 in
set_option maxRecDepth 100000 in
theorem drawFom_any (w : World) (v : Value) (l : List Nat) (hv : Byts w v l) :
    Calls Try.prog 27 #[v] w fun e w' => ∃ (n : Int) (ad : Option Addr) (i cp : Nat) (L : List Int), e = .returned (.tuple #[.int .i64 n, .slice ad i cp]) ∧ InR n ∧ Ints w' (.slice ad i cp) L ∧ L.length ≤ 32 ∧ Below w.heap.size w w' := by
  go_enter Try.func27, Try.ntmps27
  go_wp2_with fail
  refine (l1New_any w _ _ hv).mono ?_
  rintro e w1 ⟨rfl, D1, b1⟩
  have B := b1
  have zb := b1.size
  have yD := D1.lt
  clear b1
  go_wp2_with fail
  refine (l32Draw_any w1 w.heap.size D1).mono ?_
  rintro e w2 ⟨n, ad, i, cp, L, rfl, hn, o2, hL, D2, g2⟩
  have B2 := B.grown g2 B.size (fun q hq => by have := Option.some.inj hq; omega)
  have ro := o2.lt
  have y2 := g2.size
  clear g2 D1
  have hm32 : (massesOf n L).length ≤ 32 := by
    unfold massesOf
    split
    · rw [masses_len]; exact hL
    · simp
  go_wp2_with fail
  refine calls_named ?_
  intro W3 hW3
  have K3 : Blk W3 w2.heap.size 26 #[.int .i64 n, .slice ad i cp] := by
    rw [hW3]
    first
      | exact Blk.new _ _ _
      | (have := ((Blk.new w2 26 #[.int .i64 0, .slice none 0 0]).set 0 (.int .i64 n)).set 1 (.slice ad i cp); simpa using this)
  have g3 : w2.grownBy W3 (some w2.heap.size) := by
    rw [hW3]
    first
      | exact gr_below _ (bl1 _ _)
      | exact grow_set (grow_set (gr_below _ (bl1 _ _)) 0 _) 1 _
  have D3 := D2.grow g3 (fun k e => by have := Option.some.inj e; omega)
  have o3 := o2.grow g3 (fun q hq e => by have := Option.some.inj hq; have := (ro _ e).2; omega)
  have B3 := B2.grown g3 B2.size (fun q hq => by have := Option.some.inj hq; have := B2.size; omega)
  have y3 := g3.size
  have y33 := K3.lt
  clear hW3 g3 o2 D2
  refine (massesS_c W3 n _ L o3.ints (by omega)).mono ?_
  rintro e w4 ⟨p4, i4, q4, rfl, o4, b4⟩
  have K3 := K3.keep b4
  have D4 := D3.keep b4
  have B4 := B3.after b4 B3.size
  have y4 := b4.size
  have hi4 : i4 = (massesOf n L).length := o4.ints.capLe.1
  subst hi4
  obtain ⟨M, hM⟩ : ∃ M, M = massesOf n L := ⟨_, rfl⟩
  rw [← hM] at o4 hm32 ⊢
  have hmx : InR (max (-1) (min 6 n)) := ⟨by omega, by omega⟩
  have HMX := Lib.hid hmx
  have y3' := K3.lt
  clear hM b4 D3 o3
  have G3 := K3.cell
  by_cases h0 : 0 < M.length
  · have h0i : (0 : Int) < (M.length : Int) := by omega
    go_wp2_with fail
    refine (l1Once_any w4 w.heap.size D4 8).mono ?_
    rintro e w5 ⟨bb, rfl, D5, g5⟩
    have o5 := o4.cur0 (by omega) g5
    have B5 := B4.grown g5 B4.size (fun q hq => by have := Option.some.inj hq; omega)
    have K5 := K3.grow g5 (fun e => by have := Option.some.inj e; omega)
    have y5 := g5.size
    clear g5 G3
    have G5 := K5.cell
    cases bb with
    | false =>
      go_wp2
      go_ret2
      first | exact ⟨_, _, _, _, M, rfl, HMX.out, o5.ints, hm32, B5⟩ | exact ⟨_, _, _, _, rfl, HMX.out, M, o5.ints, hm32, B5⟩ | exact ⟨_, _, _, _, ⟨rfl, rfl⟩, HMX.out, M, o5.ints, hm32, B5⟩
    | true =>
      have hlit : ∀ (W : World), OwnI 3 W.heap.size (W.alloc (.cells #[.int .i64 1000, .int .i64 1001, .int .i64 100001, .int .i64 (-9223372036854775808)] 3)) (.slice (some ⟨W.heap.size, 0, none⟩) 4 4) [1000, 1001, 100001, -9223372036854775808] := fun W => ⟨World.ownsRow_lit W #[.int .i64 1000, .int .i64 1001, .int .i64 100001, .int .i64 (-9223372036854775808)] 4 (Nat.le_refl _) (by decide) rfl, by simp [InR]⟩
      have hmem : ∀ z ∈ [(1000 : Int), 1001, 100001, -9223372036854775808], InR z := by simp [InR]
      have HM := Lib.hid hmem
      have D6 := D5.keep (bl1 w5 (.cells #[.int .i64 1000, .int .i64 1001, .int .i64 100001, .int .i64 (-9223372036854775808)] 3))
      have o6 := o5.alloc (.cells #[.int .i64 1000, .int .i64 1001, .int .i64 100001, .int .i64 (-9223372036854775808)] 3)
      have K6 := K5.alloc (.cells #[.int .i64 1000, .int .i64 1001, .int .i64 100001, .int .i64 (-9223372036854775808)] 3)
      have B6 := B5.after (bl1 w5 (.cells #[.int .i64 1000, .int .i64 1001, .int .i64 100001, .int .i64 (-9223372036854775808)] 3)) B5.size
      obtain ⟨vb, hvb⟩ : ∃ vb, p4 = some ⟨vb, 0, none⟩ := by
        rcases o5.cases with ⟨_, h⟩ | ⟨b, _, h, _⟩
        · rw [h] at h0; simp at h0
        · injection h with h1 _ _
          exact ⟨b, h1⟩
      subst hvb
      have i0 : (0 : Int) < (M.length : Int) := h0i
      clear hmem
      go_wp2_with fail
      refine (l1PickInt_any _ w.heap.size D6 w5.heap.size (by have := D5.lt; omega) _ _ (hlit w5) (by decide)).mono ?_
      rintro e w7 ⟨y, rfl, hy, D7, g7⟩
      have o7 := o6.cur0 (by omega) g7
      have K7 := K6.grow g7 (fun e => by have := Option.some.inj e; omega)
      have B7 := B6.grown g7 B6.size (fun q hq => by have := Option.some.inj hq; omega)
      have c0 := o7.cellAt rfl 0 h0
      have f0 := o7.frozenAt rfl 0
      have st := o7.stored rfl 0 y (HM.out y hy)
      have hv0 := (o7.lt vb rfl).1
      have K8 := K7.grow st.2 (fun e => by have e2 : vb = w2.heap.size := Option.some.inj e; omega)
      have B8 := B7.grown st.2 B7.size (fun q hq => by have e2 : vb = q := Option.some.inj hq; omega)
      have HST := Lib.hid st.1
      have hls : (M.set 0 y).length ≤ 32 := by rw [List.length_set]; exact hm32
      clear G5 st
      have G7 := K7.cell
      have G8 := K8.cell
      go_wp2
      go_ret2
      first | exact ⟨_, _, _, _, _, rfl, HMX.out, HST.out.ints, hls, B8⟩ | exact ⟨_, _, _, _, rfl, HMX.out, _, HST.out.ints, hls, B8⟩ | exact ⟨_, _, _, _, ⟨rfl, rfl⟩, HMX.out, _, HST.out.ints, hls, B8⟩
  · have h0i : ¬ (0 : Int) < (M.length : Int) := by omega
    go_wp2
    go_ret2
    first | exact ⟨_, _, _, _, M, rfl, HMX.out, o4.ints, hm32, B4⟩ | exact ⟨_, _, _, _, rfl, HMX.out, M, o4.ints, hm32, B4⟩ | exact ⟨_, _, _, _, ⟨rfl, rfl⟩, HMX.out, M, o4.ints, hm32, B4⟩
end Go.Proofs.Ytgdkeaooipmgbaa
end
