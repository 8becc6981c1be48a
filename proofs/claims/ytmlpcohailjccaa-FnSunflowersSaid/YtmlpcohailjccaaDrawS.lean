/- Draws: uniform families, lists of sets. -/
import Derived.Test.YtmlpcohailjccaaDrawG
import Derived.Test.YtmlpcohailjccaaSun
namespace Go.Proofs.Ytmlpcohailjccaa
open Go.RowKit Go.G5

set_option maxHeartbeats 4000000 in
set_option maxRecDepth 100000 in
theorem l22Uniform_any (w : World) (g : Nat) (D : Dr w g) :
    Calls Try.prog 88 #[.pointer (some ⟨g, 0, none⟩)] w fun e w' => ∃ (n : Int) (ad : Option Addr) (i cp : Nat) (q : Int) (l : List Int), e = .returned (.tuple #[.agg #[.int .i64 n, .slice ad i cp], .int .i64 q]) ∧ InR n ∧ InR q ∧ OwnI 3 w.heap.size w' (.slice ad i cp) l ∧ l.length ≤ 32 ∧ Dr w' g ∧ w.grownBy w' (some g) := by
  have zg := D.lt
  go_enter Try.func88, Try.ntmps88
  go_wp2_with fail
  refine calls_named ?_
  intro V hV
  have B : Below w.heap.size w V := by rw [hV]; exact bl1 _ _
  have K2 : Blk V w.heap.size 28 #[.int .i64 0, .slice none 0 0] := by rw [hV]; exact Blk.new _ _ _
  have D0 := D.keep B
  have g0 : w.grownBy V (some g) := gr_below _ B
  have y0 := K2.lt
  clear hV B
  refine (l1Below_any V g D0 5).mono ?_
  rintro e w1 ⟨x, rfl, _, hx, _, D1, g1⟩
  have hx := hx (by omega)
  have K2 := K2.grow g1 (by simp; omega)
  have yV := g1.size
  have g1 := gr_trans g0 g1
  have wx : IntKind.i64.wrap (1 + x) = 1 + x := IntWalk.i64_in _ ⟨by omega, by omega⟩
  obtain ⟨N, hN⟩ : ∃ N : Nat, 1 + x = (N : Int) := ⟨(1 + x).toNat, by omega⟩
  rw [hN] at wx
  have hN5 : N ≤ 5 := by omega
  have wn : IntKind.i64.wrap ((N : Int) + 1) = (N : Int) + 1 := IntWalk.i64_in _ ⟨by omega, by omega⟩
  have wx' : IntKind.i64.wrap (1 + x) = (N : Int) := by rw [hN]; exact wx
  have hx1 := hx.1
  have hx2 := hx.2
  clear hN wx hx D0 g0
  go_wp2_with fail
  refine (l1Below_any w1 g D1 ((N : Int) + 1)).mono ?_
  rintro e w2 ⟨q, rfl, hqr, _, _, D2, g2⟩
  have K2 := K2.grow g2 (by simp; omega)
  have y2 := g2.size
  have g2 := gr_trans g1 g2
  clear D1 g1
  obtain ⟨V3, hV3⟩ : ∃ W, W = w2.alloc (.cells #[] 3) := ⟨_, rfl⟩
  have b3 : Below w2.heap.size w2 V3 := by rw [hV3]; exact bl1 _ _
  have o3 : OwnI 3 V.heap.size V3 (.slice (some ⟨w2.heap.size, 0, none⟩) 0 0) [] := by rw [hV3]; exact (OwnI.lit0 w2 (by omega))
  have K2 := K2.keep b3
  have D3 := D2.keep b3
  have g3 := gr_trans g2 (gr_below (some g) b3)
  have zV : V.heap.size ≤ V3.heap.size := by have := b3.size; omega
  clear D2 g2 b3
  have hp64 := two_pow N 5 (by omega)
  have hp1 : (2 : Int) ^ N ≤ 32 := by simpa using hp64.1
  have hp2 := hp64.2
  have hpN : ((2 ^ N : Nat) : Int) = (2 : Int) ^ N := by push_cast; rfl
  obtain ⟨M, hM⟩ : ∃ M : Nat, M = 2 ^ N := ⟨_, rfl⟩
  rw [← hM] at hpN
  have hM32 : M ≤ 32 := by omega
  have HPN := Lib.hid hpN
  clear hp64 hM hpN
  go_wp2_with fail
  rw [← hV3]
  clear hV3
  go_loopw [6, 7] (fun out s wr => ∃ (k : Nat) (ad : Option Addr) (nn cp : Nat) (L : List Int), k ≤ M ∧ out = .slice ad nn cp ∧ s = .int .i64 k ∧ L.length ≤ k ∧ OwnI 3 V.heap.size wr (.slice ad nn cp) L ∧ Dr wr g ∧ w.grownBy wr (some g) ∧ Blk wr w.heap.size 28 #[.int .i64 0, .slice none 0 0] ∧ V.heap.size ≤ wr.heap.size) (fun _ s _ => M - (intOf s).toNat)
  case atStart => exact ⟨0, _, _, _, [], Nat.zero_le _, rfl, rfl, by simp, o3, D3, g3, K2, zV⟩
  case round =>
    obtain ⟨k, ad, nn, cp, L, hk, rfl, rfl, hL, o, Dk, gk, Kk, zk⟩ := hrel
    clear zV
    clear o3 D3 g3 K2
    have xk := Kk.lt
    by_cases hlt : k < M
    · have hlt2 : (k : Int) < (2 : Int) ^ N := by have := HPN.out; omega
      have HSZ := Lib.hid (l2Size_i (k : Int) wr (by omega) (by omega))
      by_cases hpq : ipop (k : Int) = q
      · have hb1 : (ipop (k : Int) == q) = true := by simp [hpq]
        clear hpq
        go_wp2_with (go_at_call 61; refine HSZ.out.mono ?_; rintro e w' ⟨rfl, rfl⟩)
        refine (l1Once_any wr g Dk 2).mono ?_
        rintro e w5 ⟨bb, rfl, D5, g5⟩
        have K5 := Kk.grow g5 (by simp; omega)
        have o5 := o.grow g5 (fun q hq e => by have := Option.some.inj hq; have := (o.lt _ e).1; omega)
        have x5 := K5.lt
        have gg5 := gr_trans gk g5
        cases bb with
        | false =>
          go_wp2
          go_roundw
          case rel => exact ⟨k + 1, ad, nn, cp, L, by omega, rfl, by go_num, by omega, o5, D5, gg5, K5, by have := g5.size; omega⟩
          case measure => simp [intOf]; omega
        | true =>
          go_wp2_with (at_builtin; refine wpList_appendI rfl _ _ _ rfl 3 Try.underlying22 intElem V.heap.size _ _ (k : Int) w5.heap.size rfl rfl (by simp) (o5.alloc _) ⟨by omega, by omega⟩ (by omega) (by have := g5.size; simp; omega) ?_; intro v' w6 hown hgr; obtain ⟨av, nv, cv, rfl⟩ := hown.shape3)
          have D6 := (D5.keep (bl1 w5 (.cells #[.int .i64 (k : Int)] 3))).grow hgr (fun q e => by have := (o5.lt q e).1; omega)
          have K6 := (K5.alloc (.cells #[.int .i64 (k : Int)] 3)).grow hgr (fun e => by have := (o5.lt _ e).1; omega)
          have g6 := gr_any (gr_trans gg5 (gr_below _ (bl1 w5 (.cells #[.int .i64 (k : Int)] 3)))) hgr (fun b e => .inr (by have := (o5.lt b e).1; omega))
          go_roundw
          case rel => exact ⟨k + 1, av, nv, cv, L ++ [(k : Int)], by omega, rfl, by go_num, by simp; omega, hown, D6, g6, K6, by have := g5.size; have := hgr.size; simp at this; omega⟩
          case measure => simp [intOf]; omega
      · have hb1 : (ipop (k : Int) == q) = false := by simp [hpq]
        clear hpq
        go_wp2_with (go_at_call 61; refine HSZ.out.mono ?_; rintro e w' ⟨rfl, rfl⟩)
        go_roundw
        case rel => exact ⟨k + 1, ad, nn, cp, L, by omega, rfl, by go_num, by omega, o, Dk, gk, Kk, zk⟩
        case measure => simp [intOf]; omega
    · have hlt2 : ¬ (k : Int) < (2 : Int) ^ N := by have := HPN.out; omega
      have G2 := Kk.cell
      have F2 := Kk.frozen
      go_wp2
      refine post_named ?_
      intro Wf hWf
      obtain ⟨KF, DF, oF, gF⟩ := any_tail zg Kk Dk o (by omega) gk hWf
      have GF := KF.cell
      clear hWf
      exact bodyPost_ret (v := .tuple #[.agg #[.int .i64 N, .slice ad nn cp], .int .i64 q]) (by simp [results, Try.results88, go_sem, GF]) rfl (by first | exact ⟨N, ad, nn, cp, q, L, rfl, ⟨by omega, by omega⟩, hqr, oF, by omega, DF, gF⟩ | exact ⟨N, ad, nn, cp, q, rfl, ⟨by omega, by omega⟩, hqr, L, oF, by omega, DF, gF⟩)
end Go.Proofs.Ytmlpcohailjccaa
