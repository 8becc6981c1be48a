/- Draws: what the law of edits draws. -/
import Derived.Test.YthbkghpgnnpmbaaDrawL
namespace Go.Proofs.Ythbkghpgnnpmbaa
open Go.RowKit Go.G5

set_option maxHeartbeats 1000000 in
set_option maxRecDepth 100000 in
theorem drawAddSet_any (w : World) (v : Value) (l : List Nat) (hv : Byts w v l) :
    Calls Try.prog 7 #[v] w fun e w' => ∃ (n : Int) (a1 : Option Addr) (i1 c1 : Nat) (a2 : Option Addr) (i2 c2 : Nat) (s : Int) (L M : List Int), e = .returned (.tuple #[.agg #[.int .i64 n, .slice a1 i1 c1, .slice a2 i2 c2], .int .i64 s]) ∧ InR n ∧ InR s ∧ OwnW 3 w.heap.size w' (.slice a1 i1 c1) L ∧ L.length ≤ 8 ∧ OwnW 3 w.heap.size w' (.slice a2 i2 c2) M ∧ M.length ≤ 64 ∧ Below w.heap.size w w' := by
  go_enter Try.func7, Try.ntmps7
  go_wp2_with fail
  refine calls_named ?_
  intro V hV
  have B : Below w.heap.size w V := by rw [hV]; exact bl1 _ _
  have K2 : Blk V w.heap.size 28 #[.int .i64 0, .slice none 0 0, .slice none 0 0] := by rw [hV]; exact Blk.new _ _ _
  clear hV
  have hw := K2.lt
  refine (l30Both_any V _ _ (hv.below B (Nat.le_refl _))).mono ?_
  rintro e w1 ⟨n, a1, i1, c1, a2, i2, c2, s, L, M, rfl, hn, hs, oL, hl, oM, hm, b1⟩
  have K2 := K2.keep b1
  have B := B.after b1 B.size
  have x1 := K2.lt
  have G2 := K2.cell
  have F2 := K2.frozen
  go_wp2
  refine post_named ?_
  intro Wf hWf
  obtain ⟨W0, hW0⟩ : ∃ W0, W0 = ((w1.setCell ⟨w.heap.size, 0, none⟩ (.int .i64 n)).setCell ⟨w.heap.size, 1, none⟩ (.slice a1 i1 c1)).setCell ⟨w.heap.size, 2, none⟩ (.slice a2 i2 c2) := ⟨_, rfl⟩
  obtain ⟨K0, oL0, oM0, B0⟩ := kept_put K2 oL oM hw B hW0
  rw [← hW0] at hWf
  have KF : Blk Wf w.heap.size 28 #[.int .i64 n, .slice a1 i1 c1, .slice a2 i2 c2] := by rw [hWf]; exact K0.alloc _
  have oLF : OwnW 3 w.heap.size Wf (.slice a1 i1 c1) L := by rw [hWf]; exact oL0.alloc _
  have oMF : OwnW 3 w.heap.size Wf (.slice a2 i2 c2) M := by rw [hWf]; exact oM0.alloc _
  have BF : Below w.heap.size w Wf := by rw [hWf]; exact B0.after (bl1 _ _) B0.size
  have GF := KF.cell
  clear hWf
  exact bodyPost_ret (v := .tuple #[.agg #[.int .i64 n, .slice a1 i1 c1, .slice a2 i2 c2], .int .i64 s]) (by simp [results, Try.results7, go_sem, GF]) rfl ⟨n, a1, i1, c1, a2, i2, c2, s, L, M, rfl, hn, hs, oLF, hl, oMF, hm, BF⟩
set_option maxHeartbeats 1000000 in
set_option maxRecDepth 100000 in
theorem drawRemoveSet_any (w : World) (v : Value) (l : List Nat) (hv : Byts w v l) :
    Calls Try.prog 14 #[v] w fun e w' => ∃ (n : Int) (a1 : Option Addr) (i1 c1 : Nat) (a2 : Option Addr) (i2 c2 : Nat) (s : Int) (L M : List Int), e = .returned (.tuple #[.agg #[.int .i64 n, .slice a1 i1 c1, .slice a2 i2 c2], .int .i64 s]) ∧ InR n ∧ InR s ∧ OwnW 3 w.heap.size w' (.slice a1 i1 c1) L ∧ L.length ≤ 8 ∧ OwnW 3 w.heap.size w' (.slice a2 i2 c2) M ∧ M.length ≤ 64 ∧ Below w.heap.size w w' := by
  go_enter Try.func14, Try.ntmps14
  go_wp2_with fail
  refine calls_named ?_
  intro V hV
  have B : Below w.heap.size w V := by rw [hV]; exact bl1 _ _
  have K2 : Blk V w.heap.size 28 #[.int .i64 0, .slice none 0 0, .slice none 0 0] := by rw [hV]; exact Blk.new _ _ _
  clear hV
  have hw := K2.lt
  refine (l30Both_any V _ _ (hv.below B (Nat.le_refl _))).mono ?_
  rintro e w1 ⟨n, a1, i1, c1, a2, i2, c2, s, L, M, rfl, hn, hs, oL, hl, oM, hm, b1⟩
  have K2 := K2.keep b1
  have B := B.after b1 B.size
  have x1 := K2.lt
  have G2 := K2.cell
  have F2 := K2.frozen
  go_wp2
  refine post_named ?_
  intro Wf hWf
  obtain ⟨W0, hW0⟩ : ∃ W0, W0 = ((w1.setCell ⟨w.heap.size, 0, none⟩ (.int .i64 n)).setCell ⟨w.heap.size, 1, none⟩ (.slice a1 i1 c1)).setCell ⟨w.heap.size, 2, none⟩ (.slice a2 i2 c2) := ⟨_, rfl⟩
  obtain ⟨K0, oL0, oM0, B0⟩ := kept_put K2 oL oM hw B hW0
  rw [← hW0] at hWf
  have KF : Blk Wf w.heap.size 28 #[.int .i64 n, .slice a1 i1 c1, .slice a2 i2 c2] := by rw [hWf]; exact K0.alloc _
  have oLF : OwnW 3 w.heap.size Wf (.slice a1 i1 c1) L := by rw [hWf]; exact oL0.alloc _
  have oMF : OwnW 3 w.heap.size Wf (.slice a2 i2 c2) M := by rw [hWf]; exact oM0.alloc _
  have BF : Below w.heap.size w Wf := by rw [hWf]; exact B0.after (bl1 _ _) B0.size
  have GF := KF.cell
  clear hWf
  exact bodyPost_ret (v := .tuple #[.agg #[.int .i64 n, .slice a1 i1 c1, .slice a2 i2 c2], .int .i64 s]) (by simp [results, Try.results14, go_sem, GF]) rfl ⟨n, a1, i1, c1, a2, i2, c2, s, L, M, rfl, hn, hs, oLF, hl, oMF, hm, BF⟩
set_option maxHeartbeats 1000000 in
set_option maxRecDepth 100000 in
theorem drawIsKept_any (w : World) (v : Value) (l : List Nat) (hv : Byts w v l) :
    Calls Try.prog 16 #[v] w fun e w' => ∃ (n : Int) (a1 : Option Addr) (i1 c1 : Nat) (a2 : Option Addr) (i2 c2 : Nat) (L M : List Int), e = .returned (.agg #[.int .i64 n, .slice a1 i1 c1, .slice a2 i2 c2]) ∧ InR n ∧ OwnW 3 w.heap.size w' (.slice a1 i1 c1) L ∧ L.length ≤ 8 ∧ OwnW 3 w.heap.size w' (.slice a2 i2 c2) M ∧ M.length ≤ 64 ∧ Below w.heap.size w w' := by
  go_enter Try.func16, Try.ntmps16
  go_wp2_with fail
  refine calls_named ?_
  intro V hV
  have B : Below w.heap.size w V := by rw [hV]; exact bl1 _ _
  have K2 : Blk V w.heap.size 28 #[.int .i64 0, .slice none 0 0, .slice none 0 0] := by rw [hV]; exact Blk.new _ _ _
  clear hV
  have hw := K2.lt
  refine (l1New_any V _ _ (hv.below B (Nat.le_refl _))).mono ?_
  rintro e w1 ⟨rfl, D1, b1⟩
  have K2 := K2.keep b1
  have B := B.after b1 B.size
  have y1 := D1.lt
  go_wp2_with fail
  refine (l30Draw_any w1 V.heap.size D1).mono ?_
  rintro e w2 ⟨n, a1, i1, c1, a2, i2, c2, L, M, rfl, hn, oL, hl, oM, hm, D2, g2⟩
  have K2 := K2.grow g2 (by simp; omega)
  have B := B.grown g2 B.size (fun q hq => by have := Option.some.inj hq; omega)
  have G2 := K2.cell
  have F2 := K2.frozen
  go_wp2
  refine post_named ?_
  intro Wf hWf
  obtain ⟨KF, oLF, oMF, BF⟩ := kept_put K2 oL oM (by omega) B hWf
  have GF := KF.cell
  clear hWf
  exact bodyPost_ret (v := .agg #[.int .i64 n, .slice a1 i1 c1, .slice a2 i2 c2]) (by simp [results, Try.results16, go_sem, GF]) rfl ⟨n, a1, i1, c1, a2, i2, c2, L, M, rfl, hn, oLF, hl, oMF, hm, BF⟩
set_option maxHeartbeats 1000000 in
set_option maxRecDepth 100000 in
theorem drawNewKept_any (w : World) (v : Value) (l : List Nat) (hv : Byts w v l) :
    Calls Try.prog 17 #[v] w fun e w' => ∃ (n : Int) (ad : Option Addr) (i cp : Nat) (l : List Int), e = .returned (.agg #[.int .i64 n, .slice ad i cp]) ∧ InR n ∧ OwnI 3 w.heap.size w' (.slice ad i cp) l ∧ l.length ≤ 8 ∧ Below w.heap.size w w' := by
  go_enter Try.func17, Try.ntmps17
  go_wp2_with fail
  refine calls_named ?_
  intro V hV
  have B : Below w.heap.size w V := by rw [hV]; exact bl1 _ _
  have K2 : Blk V w.heap.size 26 #[.int .i64 0, .slice none 0 0] := by rw [hV]; exact Blk.new _ _ _
  clear hV
  have hw := K2.lt
  refine (l1New_any V _ _ (hv.below B (Nat.le_refl _))).mono ?_
  rintro e w1 ⟨rfl, D1, b1⟩
  have K2 := K2.keep b1
  have B := B.after b1 B.size
  have x1 := K2.lt
  have y1 := D1.lt
  have yb := b1.size
  go_wp2_with fail
  refine (l15Any_any w1 V.heap.size D1).mono ?_
  rintro e w2 ⟨n, ad, i, cp, L, rfl, hn, o2, hL, D2, g2⟩
  have K2 := K2.grow g2 (by simp; omega)
  have B2 := B.grown g2 B.size (fun q hq => by have := Option.some.inj hq; omega)
  have ro := o2.lt
  have F2 := K2.frozen
  have G2 := K2.cell
  go_wp2
  refine post_named ?_
  intro Wf hWf
  have KF : Blk Wf w.heap.size 26 #[.int .i64 n, .slice ad i cp] := by
    rw [hWf]
    have := (K2.set 0 (.int .i64 n)).set 1 (.slice ad i cp)
    simpa using this
  have gf : w2.grownBy Wf (some w.heap.size) := by rw [hWf]; exact grow_set (grow_set (World.grownBy.refl _ _) 0 _) 1 _
  have GF := KF.cell
  have oF := (o2.grow gf (fun q hq e => by have := Option.some.inj hq; have := (ro _ e).1; omega)).mono (B' := w.heap.size) (by omega)
  have BF := B2.grown gf B2.size (fun q hq => by have := Option.some.inj hq; omega)
  clear hWf
  exact bodyPost_ret (v := .agg #[.int .i64 n, .slice ad i cp]) (by simp [results, Try.results17, go_sem, GF]) rfl ⟨n, ad, i, cp, L, rfl, hn, oF, hL, BF⟩
theorem kept_set {WL W' : World} {b : Nat} {n : Int} {a1 a2 : Option Addr} {i1 c1 i2 c2 : Nat} (K : Blk WL b 28 #[.int .i64 0, .slice none 0 0, .slice none 0 0])
    (hW : W' = ((WL.setCell ⟨b, 0, none⟩ (.int .i64 n)).setCell ⟨b, 1, none⟩ (.slice a1 i1 c1)).setCell ⟨b, 2, none⟩ (.slice a2 i2 c2)) : Blk W' b 28 #[.int .i64 n, .slice a1 i1 c1, .slice a2 i2 c2] ∧ WL.grownBy W' (some b) := by
  refine ⟨?_, by rw [hW]; exact grow_set (grow_set (grow_set (World.grownBy.refl _ _) 0 _) 1 _) 2 _⟩
  rw [hW]
  have := ((K.set 0 (.int .i64 n)).set 1 (.slice a1 i1 c1)).set 2 (.slice a2 i2 c2)
  simpa using this
theorem pair_put {w W5 Wf : World} {B : Nat} {n n' : Int} {a1 a2 a3 a4 : Option Addr} {i1 c1 i2 c2 i3 c3 i4 c4 : Nat} {L M L' M' : List Int} (KA : Blk W5 w.heap.size 28 #[.int .i64 0, .slice none 0 0, .slice none 0 0]) (KB : Blk W5 (w.heap.size + 1) 28 #[.int .i64 0, .slice none 0 0, .slice none 0 0])
    (oL : OwnW 3 B W5 (.slice a1 i1 c1) L) (oM : OwnW 3 B W5 (.slice a2 i2 c2) M) (oL' : OwnW 3 B W5 (.slice a3 i3 c3) L') (oM' : OwnW 3 B W5 (.slice a4 i4 c4) M') (hB : w.heap.size + 1 < B) (h : Below w.heap.size w W5)
    (hWf : Wf = ((((((W5.setCell ⟨w.heap.size, 0, none⟩ (.int .i64 n)).setCell ⟨w.heap.size, 1, none⟩ (.slice a1 i1 c1)).setCell ⟨w.heap.size, 2, none⟩ (.slice a2 i2 c2)).setCell ⟨w.heap.size + 1, 0, none⟩ (.int .i64 n')).setCell ⟨w.heap.size + 1, 1, none⟩ (.slice a3 i3 c3)).setCell ⟨w.heap.size + 1, 2, none⟩ (.slice a4 i4 c4)) ∨ Wf = ((((((W5.setCell ⟨w.heap.size + 1, 0, none⟩ (.int .i64 n')).setCell ⟨w.heap.size + 1, 1, none⟩ (.slice a3 i3 c3)).setCell ⟨w.heap.size + 1, 2, none⟩ (.slice a4 i4 c4)).setCell ⟨w.heap.size, 0, none⟩ (.int .i64 n)).setCell ⟨w.heap.size, 1, none⟩ (.slice a1 i1 c1)).setCell ⟨w.heap.size, 2, none⟩ (.slice a2 i2 c2))) : Blk Wf w.heap.size 28 #[.int .i64 n, .slice a1 i1 c1, .slice a2 i2 c2] ∧ Blk Wf (w.heap.size + 1) 28 #[.int .i64 n', .slice a3 i3 c3, .slice a4 i4 c4] ∧ OwnW 3 w.heap.size Wf (.slice a1 i1 c1) L ∧ OwnW 3 w.heap.size Wf (.slice a2 i2 c2) M ∧ OwnW 3 w.heap.size Wf (.slice a3 i3 c3) L' ∧ OwnW 3 w.heap.size Wf (.slice a4 i4 c4) M' ∧ Below w.heap.size w Wf := by
  have fin : ∀ W1 : World, ∀ b b', (b = w.heap.size ∨ b = w.heap.size + 1) → (b' = w.heap.size ∨ b' = w.heap.size + 1) → W5.grownBy W1 (some b) → W1.grownBy Wf (some b') → OwnW 3 w.heap.size Wf (.slice a1 i1 c1) L ∧ OwnW 3 w.heap.size Wf (.slice a2 i2 c2) M ∧ OwnW 3 w.heap.size Wf (.slice a3 i3 c3) L' ∧ OwnW 3 w.heap.size Wf (.slice a4 i4 c4) M' ∧ Below w.heap.size w Wf := by
    intro W1 b b' hb hb' g1 g2
    have st : ∀ (v : Value) (l : List Int), OwnW 3 B W5 v l → OwnW 3 w.heap.size Wf v l := by
      intro v l o
      have o1 := o.grow g1 (fun q hq e => by have := Option.some.inj hq; have := (o.lt _ e).1; omega)
      exact (o1.grow g2 (fun q hq e => by have := Option.some.inj hq; have := (o1.lt _ e).1; omega)).mono (by omega)
    have h1 := h.grown g1 h.size (fun q hq => by have := Option.some.inj hq; omega)
    exact ⟨st _ _ oL, st _ _ oM, st _ _ oL', st _ _ oM', h1.grown g2 h1.size (fun q hq => by have := Option.some.inj hq; omega)⟩
  rcases hWf with hWf | hWf
  · obtain ⟨W1, hW1⟩ : ∃ W1, W1 = (((W5.setCell ⟨w.heap.size, 0, none⟩ (.int .i64 n)).setCell ⟨w.heap.size, 1, none⟩ (.slice a1 i1 c1)).setCell ⟨w.heap.size, 2, none⟩ (.slice a2 i2 c2)) := ⟨_, rfl⟩
    rw [← hW1] at hWf
    obtain ⟨k1, g1⟩ := kept_set KA hW1
    obtain ⟨k2, g2⟩ := kept_set (KB.grow g1 (fun e => by have := Option.some.inj e; omega)) hWf
    exact ⟨k1.grow g2 (fun e => by have := Option.some.inj e; omega), k2, fin W1 _ _ (.inl rfl) (.inr rfl) g1 g2⟩
  · obtain ⟨W1, hW1⟩ : ∃ W1, W1 = (((W5.setCell ⟨w.heap.size + 1, 0, none⟩ (.int .i64 n')).setCell ⟨w.heap.size + 1, 1, none⟩ (.slice a3 i3 c3)).setCell ⟨w.heap.size + 1, 2, none⟩ (.slice a4 i4 c4)) := ⟨_, rfl⟩
    rw [← hW1] at hWf
    obtain ⟨k1, g1⟩ := kept_set KB hW1
    obtain ⟨k2, g2⟩ := kept_set (KA.grow g1 (fun e => by have := Option.some.inj e; omega)) hWf
    exact ⟨k2, k1.grow g2 (fun e => by have := Option.some.inj e; omega), fin W1 _ _ (.inr rfl) (.inl rfl) g1 g2⟩
set_option maxHeartbeats 4000000 in
set_option maxRecDepth 100000 in
theorem drawEqualKept_any (w : World) (v : Value) (l : List Nat) (hv : Byts w v l) :
    Calls Try.prog 19 #[v] w fun e w' => ∃ (n : Int) (a1 : Option Addr) (i1 c1 : Nat) (a2 : Option Addr) (i2 c2 : Nat) (L M : List Int) (n' : Int) (a3 : Option Addr) (i3 c3 : Nat) (a4 : Option Addr) (i4 c4 : Nat) (L' M' : List Int), e = .returned (.tuple #[.agg #[.int .i64 n, .slice a1 i1 c1, .slice a2 i2 c2], .agg #[.int .i64 n', .slice a3 i3 c3, .slice a4 i4 c4]]) ∧ InR n ∧ OwnW 3 w.heap.size w' (.slice a1 i1 c1) L ∧ L.length ≤ 8 ∧ OwnW 3 w.heap.size w' (.slice a2 i2 c2) M ∧ M.length ≤ 64 ∧ InR n' ∧ OwnW 3 w.heap.size w' (.slice a3 i3 c3) L' ∧ L'.length ≤ 8 ∧ OwnW 3 w.heap.size w' (.slice a4 i4 c4) M' ∧ M'.length ≤ 64 ∧ Below w.heap.size w w' := by
  go_enter Try.func19, Try.ntmps19
  go_wp2_with fail
  refine calls_named ?_
  intro V hV
  have B : Below w.heap.size w V := by rw [hV]; exact bl2 _ _ _
  have KA : Blk V w.heap.size 28 #[.int .i64 0, .slice none 0 0, .slice none 0 0] := by rw [hV]; exact (Blk.new _ _ _).alloc _
  have KB : Blk V (w.heap.size + 1) 28 #[.int .i64 0, .slice none 0 0, .slice none 0 0] := by rw [hV]; have := Blk.new (w.alloc (.cells #[.int .i64 0, .slice none 0 0, .slice none 0 0] 28)) 28 #[.int .i64 0, .slice none 0 0, .slice none 0 0]; simpa using this
  clear hV
  have hw := KB.lt
  refine (l1New_any V _ _ (hv.below B (Nat.le_refl _))).mono ?_
  rintro e w1 ⟨rfl, D1, b1⟩
  have KA := KA.keep b1
  have KB := KB.keep b1
  have B := B.after b1 B.size
  have y1 := D1.lt
  go_wp2_with fail
  refine (l30Draw_any w1 V.heap.size D1).mono ?_
  rintro e w2 ⟨n, a1, i1, c1, a2, i2, c2, L, M, rfl, hn, oL, hl, oM, hm, D2, g2⟩
  have KA := KA.grow g2 (by simp; omega)
  have KB := KB.grow g2 (by simp; omega)
  have B := B.grown g2 B.size (fun q hq => by have := Option.some.inj hq; omega)
  have y2 := g2.size
  go_wp2_with fail
  refine calls_named ?_
  intro V3 hV3
  have b3 : Below w2.heap.size w2 V3 := by rw [hV3]; exact bl1 _ _
  have K3 : Blk V3 w2.heap.size 28 #[.int .i64 n, .slice a1 i1 c1, .slice a2 i2 c2] := by rw [hV3]; exact Blk.new _ _ _
  have KA := KA.keep b3
  have KB := KB.keep b3
  have D3 := D2.keep b3
  have rL := oL.lt
  have rM := oM.lt
  have oL := oL.keep b3
  have oM := oM.keep b3
  have B := B.after b3 B.size
  clear hV3 D2 g2 D1
  refine (l1Once_any V3 V.heap.size D3 2).mono ?_
  rintro e w4 ⟨bb, rfl, D4, g4⟩
  have KA := KA.grow g4 (by simp; omega)
  have KB := KB.grow g4 (by simp; omega)
  have K3 := K3.grow g4 (by simp; omega)
  have oL := oL.grow g4 (fun q hq e => by have := Option.some.inj hq; have := (oL.lt _ e).1; omega)
  have oM := oM.grow g4 (fun q hq e => by have := Option.some.inj hq; have := (oM.lt _ e).1; omega)
  have B := B.grown g4 B.size (fun q hq => by have := Option.some.inj hq; omega)
  clear D3 g4
  have x3 := K3.lt
  cases bb with
  | true =>
    have G3 := K3.cell
    have GA := KA.cell
    have GB := KB.cell
    have FA := KA.frozen
    have FB := KB.frozen
    have oLd : ∀ z, OwnW 3 w1.heap.size (w4.drewN z) (.slice a1 i1 c1) L := fun z => oL.drewN z
    have oMd : ∀ z, OwnW 3 w1.heap.size (w4.drewN z) (.slice a2 i2 c2) M := fun z => oM.drewN z
    have hz2 : w.heap.size + 1 < w2.heap.size := by omega
    go_wp2_with fail
    go_region
    all_goals
      go_wp2
      refine post_named ?_
      intro Wf hWf
      obtain ⟨W0, hW0⟩ : ∃ W0, W0 = ((((((w4.setCell ⟨w.heap.size, 0, none⟩ (.int .i64 n)).setCell ⟨w.heap.size, 1, none⟩ (.slice a1 i1 c1)).setCell ⟨w.heap.size, 2, none⟩ (.slice a2 i2 c2)).setCell ⟨w.heap.size + 1, 0, none⟩ (.int .i64 n)).setCell ⟨w.heap.size + 1, 1, none⟩ (.slice a1 i1 c1)).setCell ⟨w.heap.size + 1, 2, none⟩ (.slice a2 i2 c2)) := ⟨_, rfl⟩
      rw [← hW0] at hWf
      obtain ⟨KA0, KB0, k1, k2, k3, k4, B0⟩ := pair_put KA KB oL oM oL oM (by omega) B (.inl hW0)
      have KAF : Blk Wf w.heap.size 28 #[.int .i64 n, .slice a1 i1 c1, .slice a2 i2 c2] := by rw [hWf]; exact KA0.drew'
      have KBF : Blk Wf (w.heap.size + 1) 28 #[.int .i64 n, .slice a1 i1 c1, .slice a2 i2 c2] := by rw [hWf]; exact KB0.drew'
      have f1 : OwnW 3 w.heap.size Wf (.slice a1 i1 c1) L := by rw [hWf]; exact k1.keep (Below.refl _ _).drew
      have f2 : OwnW 3 w.heap.size Wf (.slice a2 i2 c2) M := by rw [hWf]; exact k2.keep (Below.refl _ _).drew
      have BF : Below w.heap.size w Wf := by rw [hWf]; exact B0.drew
      have GAF := KAF.cell
      have GBF := KBF.cell
      clear hWf
      exact bodyPost_ret (v := .tuple #[.agg #[.int .i64 n, .slice a1 i1 c1, .slice a2 i2 c2], .agg #[.int .i64 n, .slice a1 i1 c1, .slice a2 i2 c2]]) (by simp [results, Try.results19, go_sem, GAF, GBF]) rfl ⟨n, a1, i1, c1, a2, i2, c2, L, M, n, a1, i1, c1, a2, i2, c2, L, M, rfl, hn, f1, hl, f2, hm, hn, f1, hl, f2, hm, BF⟩
  | false =>
    have D4d : Dr w4.drew V.heap.size := D4.keep (Below.refl _ _).drew
    have K3d : Blk w4.drew w2.heap.size 28 #[.int .i64 n, .slice a1 i1 c1, .slice a2 i2 c2] := K3
    have KAd : Blk w4.drew w.heap.size 28 #[.int .i64 0, .slice none 0 0, .slice none 0 0] := KA
    have KBd : Blk w4.drew (w.heap.size + 1) 28 #[.int .i64 0, .slice none 0 0, .slice none 0 0] := KB
    have oLd : OwnW 3 w1.heap.size w4.drew (.slice a1 i1 c1) L := oL.keep (Below.refl _ _).drew
    have oMd : OwnW 3 w1.heap.size w4.drew (.slice a2 i2 c2) M := oM.keep (Below.refl _ _).drew
    have Bd : Below w.heap.size w w4.drew := B.drew
    have HB := Lib.hid (l30Draw_any w4.drew V.heap.size D4d)
    have G3 := K3.cell
    have hz2 : w.heap.size + 1 < w2.heap.size := by omega
    have hz4 : w1.heap.size ≤ w4.drew.heap.size := by have : w4.drew.heap.size = w4.heap.size := rfl
                                                      omega
    go_wp2_with fail
    go_region_law
      (go_simp; go_at_call 73; refine HB.out.mono ?_; rintro e w5 ⟨n', a3, i3, c3, a4, i4, c4, L', M', rfl, hn', oL', hl', oM', hm', D5, g5⟩; have K35 := K3d.grow g5 (fun e => by have := Option.some.inj e; omega); have KA5 := KAd.grow g5 (fun e => by have := Option.some.inj e; omega); have KB5 := KBd.grow g5 (fun e => by have := Option.some.inj e; omega); have G35 := K35.cell; have GA := KA5.cell; have GB := KB5.cell; have FA := KA5.frozen; have FB := KB5.frozen)
    all_goals
      have oL5 := oLd.grow g5 (fun q hq e => by have := Option.some.inj hq; have := (oLd.lt _ e).1; omega)
      have oM5 := oMd.grow g5 (fun q hq e => by have := Option.some.inj hq; have := (oMd.lt _ e).1; omega)
      have B5 := Bd.grown g5 Bd.size (fun q hq => by have := Option.some.inj hq; omega)
      go_wp2
      refine post_named ?_
      intro Wf hWf
      obtain ⟨KAF, KBF, f1, f2, f3, f4, BF⟩ := pair_put KA5 KB5 oL5 oM5 (oL'.mono hz4) (oM'.mono hz4) (by omega) B5 (.inl hWf)
      have GAF := KAF.cell
      have GBF := KBF.cell
      clear hWf
      exact bodyPost_ret (v := .tuple #[.agg #[.int .i64 n, .slice a1 i1 c1, .slice a2 i2 c2], .agg #[.int .i64 n', .slice a3 i3 c3, .slice a4 i4 c4]]) (by simp [results, Try.results19, go_sem, GAF, GBF]) rfl ⟨n, a1, i1, c1, a2, i2, c2, L, M, n', a3, i3, c3, a4, i4, c4, L', M', rfl, hn, f1, hl, f2, hm, hn', f3, hl', f4, hm', BF⟩
end Go.Proofs.Ythbkghpgnnpmbaa
