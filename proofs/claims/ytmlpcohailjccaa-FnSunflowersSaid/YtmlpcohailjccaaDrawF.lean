/- Draws: families. -/
import Derived.Test.YtmlpcohailjccaaDrawB
import Derived.Test.YtmlpcohailjccaaPutW
import Derived.Test.YtmlpcohailjccaaChoose
namespace Go.Proofs.Ytmlpcohailjccaa
open Go.RowKit Go.G5

theorem Dr.below0 {w w' : World} {g : Nat} (D : Dr w g) (hb : Below w.heap.size w w') : Dr w' g := D.keep hb
set_option maxHeartbeats 1000000 in
set_option maxRecDepth 100000 in
theorem l15Draw_any (w : World) (g : Nat) (D : Dr w g) :
    Calls Try.prog 153 #[.pointer (some ⟨g, 0, none⟩), .int .i64 5] w fun e w' => ∃ (n : Int) (ad : Option Addr) (i cp : Nat) (l : List Int), e = .returned (.agg #[.int .i64 n, .slice ad i cp]) ∧ InR n ∧ OwnI 3 w.heap.size w' (.slice ad i cp) l ∧ l.Pairwise (· < ·) ∧ l.length ≤ 7 ∧ Dr w' g ∧ w.grownBy w' (some g) := by
  have zg := D.lt
  go_enter Try.func153, Try.ntmps153
  go_wp2_with fail
  refine calls_named ?_
  intro V hV
  have B : Below w.heap.size w V := by rw [hV]; exact bl1 _ _
  have K : Blk V w.heap.size 28 #[.int .i64 0, .slice none 0 0] := by rw [hV]; exact Blk.new _ _ _
  have D0 := D.keep B
  have g0 : w.grownBy V (some g) := gr_below _ B
  have y0 := B.size
  clear hV B
  refine (l1Below_any V g D0 6).mono ?_
  rintro e w1 ⟨n, rfl, hn, hn2, _, D1, g1⟩
  have hn2 := hn2 (by omega)
  have K1 := K.grow g1 (by simp; omega)
  have g1 := gr_trans g0 g1
  have y1 := g1.size
  have x1 := K1.lt
  go_wp2_with fail
  refine calls_named ?_
  intro V1 hV1
  have D1 := D1.keep (bl1 w1 (.cells #[] 3))
  have K1 := K1.alloc (.cells #[] 3)
  have o1 : OwnI 3 w1.heap.size (w1.alloc (.cells #[] 3)) (.slice (some ⟨w1.heap.size, 0, none⟩) 0 0) [] := OwnI.lit0 w1 (Nat.le_refl _)
  have g1 := gr_trans g1 (gr_below (some g) (bl1 w1 (.cells #[] 3)))
  rw [← hV1] at D1 K1 o1 g1
  have z1 := K1.lt
  clear hV1
  refine (l1Below_any V1 g D1 7).mono ?_
  rintro e w2 ⟨m, rfl, _, hm, _, D2, g2⟩
  have hm := hm (by omega)
  have K2 := K1.grow g2 (by simp; omega)
  have o2 := (o1.grow g2 (fun q hq e => by have := Option.some.inj hq; have := (o1.lt _ e).1; omega)).mono (B' := w.heap.size + 1) (by omega)
  have g2 := gr_trans g1 g2
  obtain ⟨M, rfl⟩ := Int.eq_ofNat_of_zero_le hm.1
  have hM : M ≤ 6 := by omega
  have y2 := g2.size
  have z2 := K2.lt
  clear o1 K1 D1 g1 hm D0 g0 K
  go_wp2_with fail
  go_loopw [6, 7] (fun l k wr => ∃ (ad : Option Addr) (i cp : Nat) (L : List Int) (j : Nat), l = .slice ad i cp ∧ k = .int .i64 j ∧ j + L.length ≤ M ∧ j ≤ M ∧ OwnI 3 (w.heap.size + 1) wr (.slice ad i cp) L ∧ L.Pairwise (· < ·) ∧ Dr wr g ∧ w.grownBy wr (some g) ∧ Blk wr w.heap.size 28 #[.int .i64 0, .slice none 0 0]) (fun _ k _ => (intOf k).toNat)
  case atStart => exact ⟨_, _, _, [], M, rfl, rfl, by simp, Nat.le_refl _, o2, List.Pairwise.nil, D2, g2, K2⟩
  case round =>
    obtain ⟨ad, i, cp, L, j, rfl, rfl, hjL, hj, ho, hasc, Dr1, gr1, Kr⟩ := hrel
    clear o2 D2 g2 K2
    have zr := Kr.lt
    have yr := gr1.size
    have HA := Lib.hid hasc
    clear hasc
    by_cases h0 : 0 < j
    · have h1 : (0 : Int) < (j : Int) := by omega
      have hn2' : 0 ≤ n ∧ n < 6 := hn2
      obtain ⟨nn, rfl⟩ := Int.eq_ofNat_of_zero_le hn2'.1
      have hnn : nn ≤ 5 := by omega
      have p5 := two_pow nn 5 hnn
      have hsh : IntKind.i64.wrap ((2 : Int) ^ nn) = (2 : Int) ^ nn := by rw [IntKind.wrap_i64]; omega
      go_wp2_with fail
      refine (l1Below_any wr g Dr1 _).mono ?_
      rintro e w3 ⟨x, rfl, hx, _, _, D3, g3⟩
      have o3 := ho.grow g3 (fun q hq e => by have := Option.some.inj hq; have := (ho.lt _ e).1; omega)
      have K3 := Kr.grow g3 (by simp; omega)
      have y3 := g3.size
      have g3 := gr_trans gr1 g3
      go_wp2_with fail
      refine (l15Put_any (w.heap.size + 1) L _ x w3 o3 (by omega) HA.out (by omega) hx).mono ?_
      rintro e w4 ⟨a4, i4, q4, rfl, o4, b4, _⟩
      have hp := putL_len L x
      have hpa := putL_asc L x
      go_wp2
      go_roundw
      case rel => exact ⟨a4, i4, q4, putL L x, j - 1, rfl, by go_num, by omega, by omega, o4, hpa, D3.keep b4, gr_trans g3 (gr_below _ b4), K3.keep b4⟩
      case measure => simp [intOf]; omega
    · have hj0 : j = 0 := by omega
      subst hj0
      have G := Kr.cell
      have F := Kr.frozen
      go_wp2
      refine post_named ?_
      intro Wf hWf
      have KF : Blk Wf w.heap.size 28 #[.int .i64 n, .slice ad i cp] := by
        rw [hWf]
        have := (Kr.set 0 (.int .i64 n)).set 1 (.slice ad i cp)
        simpa using this
      have gf : wr.grownBy Wf (some w.heap.size) := by rw [hWf]; exact grow_set (grow_set (World.grownBy.refl _ _) 0 _) 1 _
      have GF := KF.cell
      have DF := Dr1.grow gf (fun k e => by have := Option.some.inj e; omega)
      have oF := ho.grow gf (fun q hq e => by have := Option.some.inj hq; have := (ho.lt _ e).1; omega)
      have gF : w.grownBy Wf (some g) := ⟨gf.os.trans gr1.os, gf.tape.trans gr1.tape, gf.output.trans gr1.output, Nat.le_trans gr1.size gf.size, fun b hb hr => (gf.block b (by omega) (fun e => by have := Option.some.inj e; omega)).trans (gr1.block b hb hr)⟩
      clear hWf
      exact bodyPost_ret (v := .agg #[.int .i64 n, .slice ad i cp]) (by simp [results, Try.results153, go_sem, GF]) rfl ⟨n, ad, i, cp, L, rfl, hn, oF.mono (by omega), HA.out, by omega, DF, gF⟩
end Go.Proofs.Ytmlpcohailjccaa
