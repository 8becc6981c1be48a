/- Claims of common independent sets. -/
import Derived.Test.YtmlpcohailjccaaComB
import Derived.Test.YtmlpcohailjccaaClaimCut
import Derived.Test.YtmlpcohailjccaaElems
namespace Go.Proofs.Ytmlpcohailjccaa
open Go.RowKit Go.G5

def cmK (n : Int) (l : List Int) (m : Int) (k : List Int) : Int := if comB n l m k then 4 else 0
def cmA (n : Int) (l : List Int) (m : Int) (k : List Int) : Int := if comB n l m k then n else 0
def cmL (n : Int) (l : List Int) (m : Int) (k : List Int) : List Int := if comB n l m k then l else []
def cmB (n : Int) (l : List Int) (m : Int) (k : List Int) : Int := if comB n l m k then m else 0
def cmM (n : Int) (l : List Int) (m : Int) (k : List Int) : List Int := if comB n l m k then k else []
def cmP (n : Int) (l : List Int) (m : Int) (k : List Int) : Int := if comB n l m k then ipop (lcS n l m k) else 0
def cmE (n : Int) (l : List Int) (m : Int) (k : List Int) : List Int := if comB n l m k then elL (lcS n l m k) else []
theorem cmL_len (n : Int) (l : List Int) (m : Int) (k : List Int) (h : l.length ≤ 1048576) : (cmL n l m k).length ≤ 1048576 := by unfold cmL; split <;> simp_all
theorem cmM_len (n : Int) (l : List Int) (m : Int) (k : List Int) (h : k.length ≤ 1048576) : (cmM n l m k).length ≤ 1048576 := by unfold cmM; split <;> simp_all
theorem cmE_len (n : Int) (l : List Int) (m : Int) (k : List Int) : (cmE n l m k).length ≤ 1048576 := by
  unfold cmE
  split
  · have := elL_len6 (lcS n l m k); omega
  · simp
theorem lcS_bd {n : Int} {l : List Int} {m : Int} {k : List Int} (h : comB n l m k = true) : 0 ≤ lcS n l m k ∧ lcS n l m k < 64 := by
  obtain ⟨_, N, _, _, hl2, hl32, _⟩ := com_fun h
  have := Nat.two_pow_pos N
  have := lcTo_lt l k l.length (by omega)
  unfold lcS
  rw [if_pos h]
  omega
set_option maxHeartbeats 4000000 in
set_option maxRecDepth 100000 in
theorem claimComI_c (w : World) (n : Int) (v : Value) (l : List Int) (hv : Ints w v l) (hl : l.length ≤ 1048576) (m : Int) (u : Value) (k : List Int) (hu : Ints w u k) (hk : k.length ≤ 1048576) :
    Calls Try.prog 11 #[.agg #[.int .i64 n, v], .agg #[.int .i64 m, u]] w fun e w' => ∃ p0 i0 q0 p1 i1 q1 p2 i2 q2 p3 i3 q3, e = .returned (.tuple #[.agg #[.int .i64 (cmK n l m k), .int .i64 (cmA n l m k), .slice p0 i0 q0, .int .i64 (cmB n l m k), .slice p1 i1 q1, .int .i64 0, .slice p2 i2 q2, .int .i64 (cmP n l m k), .int .i64 (cbS n l m k), .slice p3 i3 q3], .bool (comB n l m k)]) ∧ OwnW 3 w.heap.size w' (.slice p0 i0 q0) (cmL n l m k) ∧ OwnW 3 w.heap.size w' (.slice p1 i1 q1) (cmM n l m k) ∧ OwnW 3 w.heap.size w' (.slice p2 i2 q2) [] ∧ OwnW 3 w.heap.size w' (.slice p3 i3 q3) (cmE n l m k) ∧ (Apart (.slice p0 i0 q0) (.slice p1 i1 q1) ∧ Apart (.slice p0 i0 q0) (.slice p2 i2 q2) ∧ Apart (.slice p0 i0 q0) (.slice p3 i3 q3) ∧ Apart (.slice p1 i1 q1) (.slice p2 i2 q2) ∧ Apart (.slice p1 i1 q1) (.slice p3 i3 q3) ∧ Apart (.slice p2 i2 q2) (.slice p3 i3 q3)) ∧ Below w.heap.size w w' := by
  obtain ⟨a, c, rfl⟩ := hv.shape
  obtain ⟨b, d, rfl⟩ := hu.shape
  go_enter Try.func11, Try.ntmps11
  go_wp2_with fail
  refine calls_named ?_
  intro V hV
  have B : Below w.heap.size w V := by rw [hV]; exact bl3 _ _ _ _
  have K1 : Blk V w.heap.size 26 #[.int .i64 n, .slice a l.length c] := by rw [hV]; exact ((Blk.new _ _ _).alloc _).alloc _
  have K2 : Blk V (w.heap.size + 1) 26 #[.int .i64 m, .slice b k.length d] := by rw [hV]; have := (Blk.new (w.alloc (.cells #[.int .i64 n, .slice a l.length c] 26)) 26 #[.int .i64 m, .slice b k.length d]).alloc (.cells #[.int .i64 0, .int .i64 0, .slice none 0 0, .int .i64 0, .slice none 0 0, .int .i64 0, .slice none 0 0, .int .i64 0, .int .i64 0, .slice none 0 0] 30); simpa using this
  have K3 : Blk V (w.heap.size + 1 + 1) 30 #[.int .i64 0, .int .i64 0, .slice none 0 0, .int .i64 0, .slice none 0 0, .int .i64 0, .slice none 0 0, .int .i64 0, .int .i64 0, .slice none 0 0] := by rw [hV]; have := Blk.new ((w.alloc (.cells #[.int .i64 n, .slice a l.length c] 26)).alloc (.cells #[.int .i64 m, .slice b k.length d] 26)) 30 #[.int .i64 0, .int .i64 0, .slice none 0 0, .int .i64 0, .slice none 0 0, .int .i64 0, .slice none 0 0, .int .i64 0, .int .i64 0, .slice none 0 0]; simpa using this
  clear hV
  refine (largestCommonI_c V n _ l (hv.below B (Nat.le_refl _)) hl m _ k (hu.below B (Nat.le_refl _)) hk).mono ?_
  rintro e w1 ⟨rfl, b1⟩
  have K1 := K1.keep b1
  have K2 := K2.keep b1
  have K3 := K3.keep b1
  have B := B.after b1 B.size
  have z3 := K3.lt
  have G1 := K1.cell
  have G2 := K2.cell
  go_wp2_with fail
  clear G1 G2
  refine (commonBoundI_c w1 n _ l (hv.below B (Nat.le_refl _)) hl m _ k (hu.below B (Nat.le_refl _)) hk).mono ?_
  rintro e wl ⟨rfl, b2⟩
  have K1 := K1.keep b2
  have K2 := K2.keep b2
  have K3 := K3.keep b2
  have B := B.after b2 B.size
  have z3 := K3.lt
  cases hf : comB n l m k with
  | false =>
    have hK : cmK n l m k = 0 := by unfold cmK; rw [hf]; rfl
    have hA : cmA n l m k = 0 := by unfold cmA; rw [hf]; rfl
    have hL : cmL n l m k = [] := by unfold cmL; rw [hf]; rfl
    have hBB : cmB n l m k = 0 := by unfold cmB; rw [hf]; rfl
    have hM : cmM n l m k = [] := by unfold cmM; rw [hf]; rfl
    have hP : cmP n l m k = 0 := by unfold cmP; rw [hf]; rfl
    have hS : cbS n l m k = 0 := by unfold cbS; rw [hf]; rfl
    have hE : cmE n l m k = [] := by unfold cmE; rw [hf]; rfl
    have H := Lib.hid (And.intro hK (And.intro hA (And.intro hL (And.intro hBB (And.intro hM (And.intro hP (And.intro hS hE)))))))
    have HB := Lib.hid hf
    clear hK hA hL hBB hM hP hS hE hf
    have G3 := K3.cell
    have F3 := K3.frozen
    go_wp2
    refine post_named ?_
    intro Wf hWf
    have K3f : Blk Wf (w.heap.size + 1 + 1) 30 #[.int .i64 0, .int .i64 0, .slice none 0 0, .int .i64 0, .slice none 0 0, .int .i64 0, .slice none 0 0, .int .i64 0, .int .i64 0, .slice none 0 0] := by
      rw [hWf]
      have := (((((((((K3.set 0 (.int .i64 0)).set 1 (.int .i64 0)).set 2 (.slice none 0 0)).set 3 (.int .i64 0)).set 4 (.slice none 0 0)).set 5 (.int .i64 0)).set 6 (.slice none 0 0)).set 7 (.int .i64 0)).set 8 (.int .i64 0)).set 9 (.slice none 0 0)
      simpa using this
    have hg : wl.grownBy Wf (some (w.heap.size + 1 + 1)) := by
      rw [hWf]
      exact (grow_set (grow_set (grow_set (grow_set (grow_set (grow_set (grow_set (grow_set (grow_set (grow_set (World.grownBy.refl _ _) 0 _) 1 _) 2 _) 3 _) 4 _) 5 _) 6 _) 7 _) 8 _) 9 _)
    have Bf : Below w.heap.size w Wf := B.grown hg B.size (fun q hq => by have := Option.some.inj hq; omega)
    have Gf := K3f.cell
    clear hWf G3 F3
    obtain ⟨hK, hA, hL, hBB, hM, hP, hS, hE⟩ := H.out
    exact bodyPost_ret (v := .tuple #[.agg #[.int .i64 0, .int .i64 0, .slice none 0 0, .int .i64 0, .slice none 0 0, .int .i64 0, .slice none 0 0, .int .i64 0, .int .i64 0, .slice none 0 0], .bool false]) (by simp [results, Try.results11, go_sem, Gf]) rfl
      ⟨none, 0, 0, none, 0, 0, none, 0, 0, none, 0, 0, by rw [hK, hA, hBB, hP, hS, HB.out], by rw [hL]; exact OwnW.nil _ _ _, by rw [hM]; exact OwnW.nil _ _ _, OwnW.nil _ _ _, by rw [hE]; exact OwnW.nil _ _ _,
        ⟨Apart.nil _ _ _, Apart.nil _ _ _, Apart.nil _ _ _, Apart.nil _ _ _, Apart.nil _ _ _, Apart.nil _ _ _⟩, Bf⟩
  | true =>
    have hK : cmK n l m k = 4 := by unfold cmK; rw [hf]; rfl
    have hA : cmA n l m k = n := by unfold cmA; rw [hf]; rfl
    have hL : cmL n l m k = l := by unfold cmL; rw [hf]; rfl
    have hBB : cmB n l m k = m := by unfold cmB; rw [hf]; rfl
    have hM : cmM n l m k = k := by unfold cmM; rw [hf]; rfl
    have hP : cmP n l m k = ipop (lcS n l m k) := by unfold cmP; rw [hf]; rfl
    have hE : cmE n l m k = elL (lcS n l m k) := by unfold cmE; rw [hf]; rfl
    have hbd := lcS_bd hf
    have H := Lib.hid (And.intro hK (And.intro hA (And.intro hL (And.intro hBB (And.intro hM (And.intro hP hE))))))
    have HB := Lib.hid hf
    obtain ⟨L, hLe⟩ : ∃ q, q = lcS n l m k := ⟨_, rfl⟩
    obtain ⟨S, hSe⟩ : ∃ q, q = cbS n l m k := ⟨_, rfl⟩
    simp only [← hLe, ← hSe]
    rw [← hLe] at hbd
    have HLE := Lib.hid hLe
    have HSE := Lib.hid hSe
    have hv1 := hv.below B (Nat.le_refl _)
    have hu1 := hu.below B (Nat.le_refl _)
    have hvd : Ints wl.drew (.slice a l.length c) l := hv1.keep (Below.refl _ _).drew
    have hud : Ints wl.drew (.slice b k.length d) k := hu1.keep (Below.refl _ _).drew
    have HC1 := Lib.hid (copyFun_any wl.drew n (.slice a l.length c) l hvd hl)
    have HC2 := Lib.hid (fun (W : World) (h : Below wl.drew.heap.size wl.drew W) => copyFun_any W m (.slice b k.length d) k (hud.keep h) hk)
    have HSZ := Lib.hid (fun W => sizeOf_i L W hbd.1 (by omega))
    have HEL := Lib.hid (fun W => elementsOf_i L W hbd.1 hbd.2)
    have K2d : Blk wl.drew (w.heap.size + 1) 26 #[.int .i64 m, .slice b k.length d] := K2
    have K3d : Blk wl.drew (w.heap.size + 1 + 1) 30 #[.int .i64 0, .int .i64 0, .slice none 0 0, .int .i64 0, .slice none 0 0, .int .i64 0, .slice none 0 0, .int .i64 0, .int .i64 0, .slice none 0 0] := K3
    have Bd : Below w.heap.size w wl.drew := B.drew
    have zd : w.heap.size + 1 + 1 < wl.drew.heap.size := K3d.lt
    clear hK hA hL hBB hM hP hE hf hLe hSe
    have G1 := K1.cell
    have G2 := K2.cell
    go_wp2_with fail
    go_region_law
      (first
        | (go_simp; go_at_call 65; with_reducible refine HC1.out.mono ?_; rintro e w5 ⟨p5, i5, q5, rfl, o5, b5⟩; have K25 := K2d.keep b5; have K35 := K3d.keep b5; have G25 := K25.cell)
        | (go_simp; go_at_call 65; with_reducible refine (HC2.out w5 b5).mono ?_; rintro e w6 ⟨p6, i6, q6, rfl, o6, b6⟩; have K36 := K35.keep b6)
        | (go_simp; go_at_call 66; refine (HSZ.out _).mono ?_; rintro e w6x ⟨rfl, rfl⟩)
        | (go_simp; go_at_call 67; refine (HEL.out _).mono ?_; rintro e w7 ⟨p7, i7, q7, rfl, o7, b7⟩; have K37 := K36.keep b7; have G37 := K37.cell; have F37 := K37.frozen))
    all_goals
      have B5 := Bd.after b5 Bd.size
      have B6 := B5.after b6 B5.size
      have B7 := B6.after b7 B6.size
      have y5 := b5.size
      have y6 := b6.size
      have y7 := b7.size
      have x5 := o5.toW.mono (B' := w.heap.size + 1 + 1 + 1) (by omega)
      have x6 := o6.toW.mono (B' := w.heap.size + 1 + 1 + 1) (by omega)
      have x7 := o7.toW.mono (B' := w.heap.size + 1 + 1 + 1) (by omega)
      have ap56 : Apart (.slice p5 i5 q5) (.slice p6 i6 q6) := Apart.of_lt o5.toW o6.toW (Nat.le_refl _)
      have ap57 : Apart (.slice p5 i5 q5) (.slice p7 i7 q7) := Apart.of_lt o5.toW o7.toW y6
      have ap67 : Apart (.slice p6 i6 q6) (.slice p7 i7 q7) := Apart.of_lt o6.toW o7.toW (Nat.le_refl _)
      have x5 := (x5.keep b6).keep b7
      have x6 := x6.keep b7
      go_wp2
      refine post_named ?_
      intro Wf hWf
      have K3f : Blk Wf (w.heap.size + 1 + 1) 30 #[.int .i64 4, .int .i64 n, .slice p5 i5 q5, .int .i64 m, .slice p6 i6 q6, .int .i64 0, .slice none 0 0, .int .i64 (ipop L), .int .i64 S, .slice p7 i7 q7] := by
        rw [hWf]
        have := (((((((((K37.set 0 (.int .i64 4)).set 1 (.int .i64 n)).set 2 (.slice p5 i5 q5)).set 3 (.int .i64 m)).set 4 (.slice p6 i6 q6)).set 5 (.int .i64 0)).set 6 (.slice none 0 0)).set 7 (.int .i64 (ipop L))).set 8 (.int .i64 S)).set 9 (.slice p7 i7 q7)
        simpa using this
      have hg : w7.grownBy Wf (some (w.heap.size + 1 + 1)) := by
        rw [hWf]
        exact (grow_set (grow_set (grow_set (grow_set (grow_set (grow_set (grow_set (grow_set (grow_set (grow_set (World.grownBy.refl _ _) 0 _) 1 _) 2 _) 3 _) 4 _) 5 _) 6 _) 7 _) 8 _) 9 _)
      have Bf : Below w.heap.size w Wf := B7.grown hg B7.size (fun q hq => by have := Option.some.inj hq; omega)
      have f5 := (x5.grow hg (fun q hq hq2 => by have := Option.some.inj hq; have := (x5.lt q hq2).1; omega)).mono (B' := w.heap.size) (by omega)
      have f6 := (x6.grow hg (fun q hq hq2 => by have := Option.some.inj hq; have := (x6.lt q hq2).1; omega)).mono (B' := w.heap.size) (by omega)
      have f7 := (x7.grow hg (fun q hq hq2 => by have := Option.some.inj hq; have := (x7.lt q hq2).1; omega)).mono (B' := w.heap.size) (by omega)
      have Gf := K3f.cell
      clear hWf
      obtain ⟨hK, hA, hL, hBB, hM, hP, hE⟩ := H.out
      exact bodyPost_ret (v := .tuple #[.agg #[.int .i64 4, .int .i64 n, .slice p5 i5 q5, .int .i64 m, .slice p6 i6 q6, .int .i64 0, .slice none 0 0, .int .i64 (ipop L), .int .i64 S, .slice p7 i7 q7], .bool true]) (by simp [results, Try.results11, go_sem, Gf]) rfl
        ⟨p5, i5, q5, p6, i6, q6, none, 0, 0, p7, i7, q7, by rw [hK, hA, hBB, hP, ← HLE.out, ← HSE.out, HB.out], by rw [hL]; exact f5, by rw [hM]; exact f6, OwnW.nil _ _ _, by rw [hE, ← HLE.out]; exact f7,
          ⟨ap56, (Apart.nil _ _ _).symm, ap57, (Apart.nil _ _ _).symm, ap67, Apart.nil _ _ _⟩, Bf⟩
set_option maxHeartbeats 4000000 in
set_option maxRecDepth 100000 in
theorem claimComS_c (w : World) (n : Int) (v : Value) (l : List Int) (hv : Ints w v l) (hl : l.length ≤ 1048576) (m : Int) (u : Value) (k : List Int) (hu : Ints w u k) (hk : k.length ≤ 1048576) :
    Calls Try.prog 9 #[.agg #[.int .i64 n, v], .agg #[.int .i64 m, u]] w fun e w' => ∃ p0 i0 q0 p1 i1 q1 p2 i2 q2 p3 i3 q3, e = .returned (.tuple #[.agg #[.int .i64 (cmK n l m k), .int .i64 (cmA n l m k), .slice p0 i0 q0, .int .i64 (cmB n l m k), .slice p1 i1 q1, .int .i64 0, .slice p2 i2 q2, .int .i64 (cmP n l m k), .int .i64 (cbS n l m k), .slice p3 i3 q3], .bool (comB n l m k)]) ∧ OwnW 3 w.heap.size w' (.slice p0 i0 q0) (cmL n l m k) ∧ OwnW 3 w.heap.size w' (.slice p1 i1 q1) (cmM n l m k) ∧ OwnW 3 w.heap.size w' (.slice p2 i2 q2) [] ∧ OwnW 3 w.heap.size w' (.slice p3 i3 q3) (cmE n l m k) ∧ (Apart (.slice p0 i0 q0) (.slice p1 i1 q1) ∧ Apart (.slice p0 i0 q0) (.slice p2 i2 q2) ∧ Apart (.slice p0 i0 q0) (.slice p3 i3 q3) ∧ Apart (.slice p1 i1 q1) (.slice p2 i2 q2) ∧ Apart (.slice p1 i1 q1) (.slice p3 i3 q3) ∧ Apart (.slice p2 i2 q2) (.slice p3 i3 q3)) ∧ Below w.heap.size w w' := by
  obtain ⟨a, c, rfl⟩ := hv.shape
  obtain ⟨b, d, rfl⟩ := hu.shape
  go_enter Try.func9, Try.ntmps9
  go_wp2_with fail
  refine calls_named ?_
  intro V hV
  have B : Below w.heap.size w V := by rw [hV]; exact bl3 _ _ _ _
  have K1 : Blk V w.heap.size 26 #[.int .i64 n, .slice a l.length c] := by rw [hV]; exact ((Blk.new _ _ _).alloc _).alloc _
  have K2 : Blk V (w.heap.size + 1) 26 #[.int .i64 m, .slice b k.length d] := by rw [hV]; have := (Blk.new (w.alloc (.cells #[.int .i64 n, .slice a l.length c] 26)) 26 #[.int .i64 m, .slice b k.length d]).alloc (.cells #[.int .i64 0, .int .i64 0, .slice none 0 0, .int .i64 0, .slice none 0 0, .int .i64 0, .slice none 0 0, .int .i64 0, .int .i64 0, .slice none 0 0] 30); simpa using this
  have K3 : Blk V (w.heap.size + 1 + 1) 30 #[.int .i64 0, .int .i64 0, .slice none 0 0, .int .i64 0, .slice none 0 0, .int .i64 0, .slice none 0 0, .int .i64 0, .int .i64 0, .slice none 0 0] := by rw [hV]; have := Blk.new ((w.alloc (.cells #[.int .i64 n, .slice a l.length c] 26)).alloc (.cells #[.int .i64 m, .slice b k.length d] 26)) 30 #[.int .i64 0, .int .i64 0, .slice none 0 0, .int .i64 0, .slice none 0 0, .int .i64 0, .slice none 0 0, .int .i64 0, .int .i64 0, .slice none 0 0]; simpa using this
  clear hV
  refine (largestCommonS_c V n _ l (hv.below B (Nat.le_refl _)) hl m _ k (hu.below B (Nat.le_refl _)) hk).mono ?_
  rintro e w1 ⟨rfl, b1⟩
  have K1 := K1.keep b1
  have K2 := K2.keep b1
  have K3 := K3.keep b1
  have B := B.after b1 B.size
  have z3 := K3.lt
  cases hf : comB n l m k with
  | false =>
    obtain ⟨wl, rfl⟩ : ∃ wl : World, wl = w1 := ⟨_, rfl⟩
    have hK : cmK n l m k = 0 := by unfold cmK; rw [hf]; rfl
    have hA : cmA n l m k = 0 := by unfold cmA; rw [hf]; rfl
    have hL : cmL n l m k = [] := by unfold cmL; rw [hf]; rfl
    have hBB : cmB n l m k = 0 := by unfold cmB; rw [hf]; rfl
    have hM : cmM n l m k = [] := by unfold cmM; rw [hf]; rfl
    have hP : cmP n l m k = 0 := by unfold cmP; rw [hf]; rfl
    have hS : cbS n l m k = 0 := by unfold cbS; rw [hf]; rfl
    have hE : cmE n l m k = [] := by unfold cmE; rw [hf]; rfl
    have H := Lib.hid (And.intro hK (And.intro hA (And.intro hL (And.intro hBB (And.intro hM (And.intro hP (And.intro hS hE)))))))
    have HB := Lib.hid hf
    clear hK hA hL hBB hM hP hS hE hf
    have G3 := K3.cell
    have F3 := K3.frozen
    go_wp2
    refine post_named ?_
    intro Wf hWf
    have K3f : Blk Wf (w.heap.size + 1 + 1) 30 #[.int .i64 0, .int .i64 0, .slice none 0 0, .int .i64 0, .slice none 0 0, .int .i64 0, .slice none 0 0, .int .i64 0, .int .i64 0, .slice none 0 0] := by
      rw [hWf]
      have := (((((((((K3.set 0 (.int .i64 0)).set 1 (.int .i64 0)).set 2 (.slice none 0 0)).set 3 (.int .i64 0)).set 4 (.slice none 0 0)).set 5 (.int .i64 0)).set 6 (.slice none 0 0)).set 7 (.int .i64 0)).set 8 (.int .i64 0)).set 9 (.slice none 0 0)
      simpa using this
    have hg : wl.grownBy Wf (some (w.heap.size + 1 + 1)) := by
      rw [hWf]
      exact (grow_set (grow_set (grow_set (grow_set (grow_set (grow_set (grow_set (grow_set (grow_set (grow_set (World.grownBy.refl _ _) 0 _) 1 _) 2 _) 3 _) 4 _) 5 _) 6 _) 7 _) 8 _) 9 _)
    have Bf : Below w.heap.size w Wf := B.grown hg B.size (fun q hq => by have := Option.some.inj hq; omega)
    have Gf := K3f.cell
    clear hWf G3 F3
    obtain ⟨hK, hA, hL, hBB, hM, hP, hS, hE⟩ := H.out
    exact bodyPost_ret (v := .tuple #[.agg #[.int .i64 0, .int .i64 0, .slice none 0 0, .int .i64 0, .slice none 0 0, .int .i64 0, .slice none 0 0, .int .i64 0, .int .i64 0, .slice none 0 0], .bool false]) (by simp [results, Try.results9, go_sem, Gf]) rfl
      ⟨none, 0, 0, none, 0, 0, none, 0, 0, none, 0, 0, by rw [hK, hA, hBB, hP, hS, HB.out], by rw [hL]; exact OwnW.nil _ _ _, by rw [hM]; exact OwnW.nil _ _ _, OwnW.nil _ _ _, by rw [hE]; exact OwnW.nil _ _ _,
        ⟨Apart.nil _ _ _, Apart.nil _ _ _, Apart.nil _ _ _, Apart.nil _ _ _, Apart.nil _ _ _, Apart.nil _ _ _⟩, Bf⟩
  | true =>
    have G1 := K1.cell
    have G2 := K2.cell
    go_wp2_with fail
    clear G1 G2
    refine (commonBoundS_c w1 n _ l (hv.below B (Nat.le_refl _)) hl m _ k (hu.below B (Nat.le_refl _)) hk).mono ?_
    rintro e wl ⟨rfl, b2⟩
    have K1 := K1.keep b2
    have K2 := K2.keep b2
    have K3 := K3.keep b2
    have B := B.after b2 B.size
    have z3 := K3.lt
    have hK : cmK n l m k = 4 := by unfold cmK; rw [hf]; rfl
    have hA : cmA n l m k = n := by unfold cmA; rw [hf]; rfl
    have hL : cmL n l m k = l := by unfold cmL; rw [hf]; rfl
    have hBB : cmB n l m k = m := by unfold cmB; rw [hf]; rfl
    have hM : cmM n l m k = k := by unfold cmM; rw [hf]; rfl
    have hP : cmP n l m k = ipop (lcS n l m k) := by unfold cmP; rw [hf]; rfl
    have hE : cmE n l m k = elL (lcS n l m k) := by unfold cmE; rw [hf]; rfl
    have hbd := lcS_bd hf
    have H := Lib.hid (And.intro hK (And.intro hA (And.intro hL (And.intro hBB (And.intro hM (And.intro hP hE))))))
    have HB := Lib.hid hf
    obtain ⟨L, hLe⟩ : ∃ q, q = lcS n l m k := ⟨_, rfl⟩
    obtain ⟨S, hSe⟩ : ∃ q, q = cbS n l m k := ⟨_, rfl⟩
    simp only [← hLe, ← hSe]
    rw [← hLe] at hbd
    have HLE := Lib.hid hLe
    have HSE := Lib.hid hSe
    have hv1 := hv.below B (Nat.le_refl _)
    have hu1 := hu.below B (Nat.le_refl _)
    have hvd : Ints wl.drew (.slice a l.length c) l := hv1.keep (Below.refl _ _).drew
    have hud : Ints wl.drew (.slice b k.length d) k := hu1.keep (Below.refl _ _).drew
    have HC1 := Lib.hid (l33Copy_any wl.drew n (.slice a l.length c) l hvd hl)
    have HC2 := Lib.hid (fun (W : World) (h : Below wl.drew.heap.size wl.drew W) => l33Copy_any W m (.slice b k.length d) k (hud.keep h) hk)
    have HSZ := Lib.hid (fun W => l2Size_i L W hbd.1 (by omega))
    have HEL := Lib.hid (fun W => l2List_i L W hbd.1 hbd.2)
    have K2d : Blk wl.drew (w.heap.size + 1) 26 #[.int .i64 m, .slice b k.length d] := K2
    have K3d : Blk wl.drew (w.heap.size + 1 + 1) 30 #[.int .i64 0, .int .i64 0, .slice none 0 0, .int .i64 0, .slice none 0 0, .int .i64 0, .slice none 0 0, .int .i64 0, .int .i64 0, .slice none 0 0] := K3
    have Bd : Below w.heap.size w wl.drew := B.drew
    have zd : w.heap.size + 1 + 1 < wl.drew.heap.size := K3d.lt
    clear hK hA hL hBB hM hP hE hf hLe hSe
    have G1 := K1.cell
    have G2 := K2.cell
    go_wp2_with fail
    go_region_law
      (first
        | (go_simp; go_at_call 60; with_reducible refine HC1.out.mono ?_; rintro e w5 ⟨p5, i5, q5, rfl, o5, b5⟩; have K25 := K2d.keep b5; have K35 := K3d.keep b5; have G25 := K25.cell)
        | (go_simp; go_at_call 60; with_reducible refine (HC2.out w5 b5).mono ?_; rintro e w6 ⟨p6, i6, q6, rfl, o6, b6⟩; have K36 := K35.keep b6)
        | (go_simp; go_at_call 61; refine (HSZ.out _).mono ?_; rintro e w6x ⟨rfl, rfl⟩)
        | (go_simp; go_at_call 62; refine (HEL.out _).mono ?_; rintro e w7 ⟨p7, i7, q7, rfl, o7, b7⟩; have K37 := K36.keep b7; have G37 := K37.cell; have F37 := K37.frozen))
    all_goals
      have B5 := Bd.after b5 Bd.size
      have B6 := B5.after b6 B5.size
      have B7 := B6.after b7 B6.size
      have y5 := b5.size
      have y6 := b6.size
      have y7 := b7.size
      have x5 := o5.toW.mono (B' := w.heap.size + 1 + 1 + 1) (by omega)
      have x6 := o6.toW.mono (B' := w.heap.size + 1 + 1 + 1) (by omega)
      have x7 := o7.toW.mono (B' := w.heap.size + 1 + 1 + 1) (by omega)
      have ap56 : Apart (.slice p5 i5 q5) (.slice p6 i6 q6) := Apart.of_lt o5.toW o6.toW (Nat.le_refl _)
      have ap57 : Apart (.slice p5 i5 q5) (.slice p7 i7 q7) := Apart.of_lt o5.toW o7.toW y6
      have ap67 : Apart (.slice p6 i6 q6) (.slice p7 i7 q7) := Apart.of_lt o6.toW o7.toW (Nat.le_refl _)
      have x5 := (x5.keep b6).keep b7
      have x6 := x6.keep b7
      go_wp2
      refine post_named ?_
      intro Wf hWf
      have K3f : Blk Wf (w.heap.size + 1 + 1) 30 #[.int .i64 4, .int .i64 n, .slice p5 i5 q5, .int .i64 m, .slice p6 i6 q6, .int .i64 0, .slice none 0 0, .int .i64 (ipop L), .int .i64 S, .slice p7 i7 q7] := by
        rw [hWf]
        have := (((((((((K37.set 0 (.int .i64 4)).set 1 (.int .i64 n)).set 2 (.slice p5 i5 q5)).set 3 (.int .i64 m)).set 4 (.slice p6 i6 q6)).set 5 (.int .i64 0)).set 6 (.slice none 0 0)).set 7 (.int .i64 (ipop L))).set 8 (.int .i64 S)).set 9 (.slice p7 i7 q7)
        simpa using this
      have hg : w7.grownBy Wf (some (w.heap.size + 1 + 1)) := by
        rw [hWf]
        exact (grow_set (grow_set (grow_set (grow_set (grow_set (grow_set (grow_set (grow_set (grow_set (grow_set (World.grownBy.refl _ _) 0 _) 1 _) 2 _) 3 _) 4 _) 5 _) 6 _) 7 _) 8 _) 9 _)
      have Bf : Below w.heap.size w Wf := B7.grown hg B7.size (fun q hq => by have := Option.some.inj hq; omega)
      have f5 := (x5.grow hg (fun q hq hq2 => by have := Option.some.inj hq; have := (x5.lt q hq2).1; omega)).mono (B' := w.heap.size) (by omega)
      have f6 := (x6.grow hg (fun q hq hq2 => by have := Option.some.inj hq; have := (x6.lt q hq2).1; omega)).mono (B' := w.heap.size) (by omega)
      have f7 := (x7.grow hg (fun q hq hq2 => by have := Option.some.inj hq; have := (x7.lt q hq2).1; omega)).mono (B' := w.heap.size) (by omega)
      have Gf := K3f.cell
      clear hWf
      obtain ⟨hK, hA, hL, hBB, hM, hP, hE⟩ := H.out
      exact bodyPost_ret (v := .tuple #[.agg #[.int .i64 4, .int .i64 n, .slice p5 i5 q5, .int .i64 m, .slice p6 i6 q6, .int .i64 0, .slice none 0 0, .int .i64 (ipop L), .int .i64 S, .slice p7 i7 q7], .bool true]) (by simp [results, Try.results9, go_sem, Gf]) rfl
        ⟨p5, i5, q5, p6, i6, q6, none, 0, 0, p7, i7, q7, by rw [hK, hA, hBB, hP, ← HLE.out, ← HSE.out, HB.out], by rw [hL]; exact f5, by rw [hM]; exact f6, OwnW.nil _ _ _, by rw [hE, ← HLE.out]; exact f7,
          ⟨ap56, (Apart.nil _ _ _).symm, ap57, (Apart.nil _ _ _).symm, ap67, Apart.nil _ _ _⟩, Bf⟩
end Go.Proofs.Ytmlpcohailjccaa
