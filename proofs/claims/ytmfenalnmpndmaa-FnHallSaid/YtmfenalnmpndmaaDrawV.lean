/- Draws: lists of sets to represent. -/
import Derived.Test.YtmfenalnmpndmaaDrawB
import Derived.Test.YtmfenalnmpndmaaIsRepB
namespace Go.Proofs.Ytmfenalnmpndmaa
open Go.RowKit Go.G5

theorem lit3V {E : TypeId} {B : Nat} (w : World) (hB : B ≤ w.heap.size) (x y z : Int) (hx : InR x) (hy : InR y) (hz : InR z) : OwnI E B (w.alloc (.cells #[.int .i64 x, .int .i64 y, .int .i64 z] E)) (.slice (some ⟨w.heap.size, 0, none⟩) 3 3) [x, y, z] :=
  ⟨World.ownsRow_lit w #[.int .i64 x, .int .i64 y, .int .i64 z] 3 hB (by decide) rfl, by intro q hq; simp at hq; rcases hq with rfl | rfl | rfl <;> assumption⟩
theorem lit4V {E : TypeId} {B : Nat} (w : World) (hB : B ≤ w.heap.size) (x y z u : Int) (hx : InR x) (hy : InR y) (hz : InR z) (hu : InR u) : OwnI E B (w.alloc (.cells #[.int .i64 x, .int .i64 y, .int .i64 z, .int .i64 u] E)) (.slice (some ⟨w.heap.size, 0, none⟩) 4 4) [x, y, z, u] :=
  ⟨World.ownsRow_lit w #[.int .i64 x, .int .i64 y, .int .i64 z, .int .i64 u] 4 hB (by decide) rfl, by intro q hq; simp at hq; rcases hq with rfl | rfl | rfl | rfl <;> assumption⟩
theorem smallR {x : Int} (h : -1000 ≤ x ∧ x ≤ 1000) : InR x := ⟨by omega, by omega⟩
set_option maxHeartbeats 4000000 in
set_option maxRecDepth 100000 in
theorem l28Both_any (w : World) (v : Value) (l : List Nat) (hv : Byts w v l) :
    Calls Try.prog 94 #[v] w fun e w' => ∃ (n : Int) (ad : Option Addr) (i cp : Nat) (L : List Int), e = .returned (.tuple #[.int .i64 n, .slice ad i cp]) ∧ InR n ∧ OwnI 3 w.heap.size w' (.slice ad i cp) L ∧ L.length ≤ 6 ∧ Below w.heap.size w w' := by
  go_enter Try.func94, Try.ntmps94
  go_wp2_with fail
  refine (l1New_any w _ _ hv).mono ?_
  rintro e w1 ⟨rfl, D1, B⟩
  have y1 := D1.lt
  go_wp2_with fail
  refine (l1Below_any w1 w.heap.size D1 5).mono ?_
  rintro e w2 ⟨x, rfl, _, hx, _, D2, g2⟩
  have hx := hx (by omega)
  have B := B.grown g2 B.size (fun q hq => by have := Option.some.inj hq; omega)
  have y2 := g2.size
  obtain ⟨N, hN⟩ : ∃ N : Nat, 1 + x = (N : Int) := ⟨(1 + x).toNat, by omega⟩
  have wx' : IntKind.i64.wrap (1 + x) = (N : Int) := by rw [hN]; exact IntWalk.i64_in _ ⟨by omega, by omega⟩
  have hN5 : N ≤ 5 := by omega
  obtain ⟨w3, hw3⟩ : ∃ W, W = w2.alloc (.cells #[] 3) := ⟨_, rfl⟩
  have b3 : Below w2.heap.size w2 w3 := by rw [hw3]; exact bl1 _ _
  have o3 : OwnI 3 w2.heap.size w3 (.slice (some ⟨w2.heap.size, 0, none⟩) 0 0) [] := by rw [hw3]; exact OwnI.lit0 w2 (Nat.le_refl _)
  have D3 := D2.keep b3
  have B := B.after b3 B.size
  have y3 := b3.size
  clear D2 g2 D1 hN hx b3
  go_wp2_with fail
  rw [← hw3]
  clear hw3
  refine (l1Below_any w3 w.heap.size D3 6).mono ?_
  rintro e w4 ⟨m, rfl, _, hm, _, D4, g4⟩
  have hm := hm (by omega)
  have o4 := o3.grow g4 (fun q hq e => by have := Option.some.inj hq; have := (o3.lt _ e).1; omega)
  have B := B.grown g4 B.size (fun q hq => by have := Option.some.inj hq; omega)
  have y4 := g4.size
  have hm1 := hm.1
  have hm2 := hm.2
  have hpw := two_pow N 5 hN5
  have hp1 : (2 : Int) ^ N ≤ 32 := by simpa using hpw.1
  have hp2 := hpw.2
  clear D3 g4 o3 hm hpw
  go_wp2_with fail
  go_loopw [6, 7] (fun out kk wr => ∃ (k : Int) (ad : Option Addr) (nn cp : Nat) (L : List Int), 0 ≤ k ∧ out = .slice ad nn cp ∧ kk = .int .i64 k ∧ (L.length : Int) + k ≤ 5 ∧ OwnI 3 w2.heap.size wr (.slice ad nn cp) L ∧ Dr wr w.heap.size ∧ Below w.heap.size w wr ∧ w2.heap.size ≤ wr.heap.size) (fun _ kk _ => (intOf kk).toNat)
  case atStart => exact ⟨m, _, _, _, [], hm1, rfl, rfl, by simp; omega, o4, D4, B, by omega⟩
  case round =>
    clear o4 D4 B
    obtain ⟨k, ad, nn, cp, L, hk, rfl, rfl, hL, o, D, B, z⟩ := hrel
    by_cases h0 : 0 < k
    · have wk : IntKind.i64.wrap (k - 1) = k - 1 := IntWalk.i64_in _ ⟨by omega, by omega⟩
      go_wp2_with fail
      refine (l1Below_any wr w.heap.size D ((2 : Int) ^ N)).mono ?_
      rintro e w5 ⟨s, rfl, hs, _, _, D5, g5⟩
      have o5 := o.grow g5 (fun q hq e => by have := Option.some.inj hq; have := (o.lt _ e).1; omega)
      have B5 := B.grown g5 B.size (fun q hq => by have := Option.some.inj hq; omega)
      have y5 := g5.size
      have HSR := Lib.hid hs
      have hL6 : L.length ≤ 5 := by omega
      clear hs
      go_wp2_with (at_builtin; refine wpList_appendI rfl _ _ _ rfl 3 Try.underlying24 intElem w2.heap.size _ _ s w5.heap.size rfl rfl (cell_new w5 #[.int .i64 s] 3 0 _ rfl) (o5.alloc _) HSR.out (by omega) (by simp; omega) ?_; intro v' w6 hown hgr; obtain ⟨av, nv, cv, rfl⟩ := hown.shape3)
      have b6 := bl1 w5 (.cells #[.int .i64 s] 3)
      have D6 := (D5.keep b6).grow hgr (fun q e => by have := (o5.lt q e).1; omega)
      have B6 := (B5.after b6 B5.size).grown hgr (B5.after b6 B5.size).size (fun q e => by have := (o5.lt q e).1; omega)
      have z6 := hgr.size
      simp at z6
      go_roundw
      case rel => exact ⟨k - 1, av, nv, cv, L ++ [s], by omega, rfl, by go_num, by simp; omega, hown, D6, B6, by omega⟩
      case measure => simp [intOf]; omega
    · have hL6 : L.length ≤ 5 := by omega
      go_wp2_with fail
      refine (l1Below_any wr w.heap.size D 14).mono ?_
      rintro e w5 ⟨s, rfl, hs, _, _, D5, g5⟩
      have o5 := o.grow g5 (fun q hq e => by have := Option.some.inj hq; have := (o.lt _ e).1; omega)
      have B5 := B.grown g5 B.size (fun q hq => by have := Option.some.inj hq; omega)
      have y5 := g5.size
      have r5 := o5.lt
      by_cases s0 : s = 0
      · subst s0
        go_wp2_with fail
        have oL := lit4V (E := 3) (B := w5.heap.size) w5 (Nat.le_refl _) (-1) 7 0 6 (smallR (by omega)) (smallR (by omega)) (smallR (by omega)) (smallR (by omega))
        refine calls_named ?_
        intro V hV
        rw [← hV] at oL
        have bV : Below w5.heap.size w5 V := by rw [hV]; exact bl1 _ _
        have DV := D5.keep bV
        have oV := o5.keep bV
        have BV := B5.after bV B5.size
        have yV := bV.size
        clear hV
        refine (l1PickInt_any V w.heap.size DV w5.heap.size (by omega) _ _ oL (by simp)).mono ?_
        rintro e w6 ⟨q, rfl, hq, D6, g6⟩
        have hqr := oL.2 q hq
        have o6 := oV.grow g6 (fun q hq e => by have := Option.some.inj hq; have := (oV.lt _ e).1; omega)
        have B6 := BV.grown g6 BV.size (fun q hq => by have := Option.some.inj hq; omega)
        clear hq oL
        go_wp2
        go_ret2
        exact ⟨q, ad, nn, cp, L, rfl, hqr, o6.mono (by have := D5.lt; omega), by omega, B6⟩
      · have t0 : (s == 0) = false := by simp [s0]
        by_cases s1 : s = 1
        · subst s1
          go_wp2_with fail
          have oL := lit3V (E := 3) (B := w5.heap.size) w5 (Nat.le_refl _) (-1) 64 0 (smallR (by omega)) (smallR (by omega)) (smallR (by omega))
          refine calls_named ?_
          intro V hV
          rw [← hV] at oL
          have bV : Below w5.heap.size w5 V := by rw [hV]; exact bl1 _ _
          have DV := D5.keep bV
          have oV := o5.keep bV
          have BV := B5.after bV B5.size
          have yV := bV.size
          clear hV
          refine (l1PickInt_any V w.heap.size DV w5.heap.size (by omega) _ _ oL (by simp)).mono ?_
          rintro e w6 ⟨q, rfl, hq, D6, g6⟩
          have hqr := oL.2 q hq
          have o6 := oV.grow g6 (fun q hq e => by have := Option.some.inj hq; have := (oV.lt _ e).1; omega)
          have B6 := BV.grown g6 BV.size (fun q hq => by have := Option.some.inj hq; omega)
          have y6 := g6.size
          have HQR := Lib.hid hqr
          have hNR : InR (N : Int) := smallR (by omega)
          clear hq oL hqr
          go_wp2_with (at_builtin; refine wpList_appendI rfl _ _ _ rfl 3 Try.underlying24 intElem w2.heap.size _ _ q w6.heap.size rfl rfl (cell_new w6 #[.int .i64 q] 3 0 _ rfl) (o6.alloc _) HQR.out (by omega) (by simp; omega) ?_; intro v' w7 hown hgr; obtain ⟨av, nv, cv, rfl⟩ := hown.shape3)
          have b7 := bl1 w6 (.cells #[.int .i64 q] 3)
          have B7 := (B6.after b7 B6.size).grown hgr (B6.after b7 B6.size).size (fun q e => by have := (o6.lt q e).1; omega)
          go_ret2
          exact ⟨(N : Int), av, nv, cv, L ++ [q], rfl, hNR, hown.mono (by omega), by simp; omega, B7⟩
        · have t1 : (s == 1) = false := by simp [s1]
          have hNR : InR (N : Int) := smallR (by omega)
          go_wp2
          go_ret2
          exact ⟨(N : Int), ad, nn, cp, L, rfl, hNR, o5.mono (by omega), by omega, B5⟩
theorem drawRep_any (w : World) (v : Value) (l : List Nat) (hv : Byts w v l) :
    Calls Try.prog 40 #[v] w fun e w' => ∃ (n : Int) (ad : Option Addr) (i cp : Nat) (L : List Int), e = .returned (.tuple #[.int .i64 n, .slice ad i cp]) ∧ InR n ∧ OwnI 3 w.heap.size w' (.slice ad i cp) L ∧ L.length ≤ 6 ∧ Below w.heap.size w w' := by
  have HL := Lib.hid (l28Both_any w v l hv)
  go_enter Try.func40, Try.ntmps40
  go_wp2_with (go_at_call 94; refine HL.out.mono ?_; rintro e w1 ⟨n, ad, i, cp, L, rfl, h1, h2, h3, b1⟩)
  go_ret2
  exact ⟨n, ad, i, cp, L, rfl, h1, h2, h3, b1⟩
end Go.Proofs.Ytmfenalnmpndmaa
