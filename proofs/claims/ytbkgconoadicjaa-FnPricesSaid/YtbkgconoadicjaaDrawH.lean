/- Draws: families to cover, and what the law of prices draws. -/
import Derived.Test.YtbkgconoadicjaaDrawG
import Derived.Test.YtbkgconoadicjaaGreed
namespace Go.Proofs.Ytbkgconoadicjaa
open Go.RowKit Go.G5

theorem bits_inR (op : BinOp) (a b : Int) : InR (bits op .i64 a b) := by
  unfold bits
  rw [IntKind.wrap_i64]
  unfold InR
  omega
set_option maxHeartbeats 4000000 in
set_option maxRecDepth 100000 in
theorem l29Draw_any (w : World) (g : Nat) (D : Dr w g) :
    Calls Try.prog 111 #[.pointer (some ⟨g, 0, none⟩)] w fun e w' => ∃ (n : Int) (ad : Option Addr) (i cp : Nat) (l : List Int), e = .returned (.agg #[.int .i64 n, .slice ad i cp]) ∧ InR n ∧ OwnI 3 w.heap.size w' (.slice ad i cp) l ∧ l.length ≤ 20 ∧ Dr w' g ∧ w.grownBy w' (some g) := by
  have zg := D.lt
  go_enter Try.func111, Try.ntmps111
  go_wp2_with fail
  refine calls_named ?_
  intro V hV
  have B : Below w.heap.size w V := by rw [hV]; exact bl1 _ _
  have K2 : Blk V w.heap.size 29 #[.int .i64 0, .slice none 0 0] := by rw [hV]; exact Blk.new _ _ _
  have D0 := D.keep B
  have g0 : w.grownBy V (some g) := gr_below _ B
  have y0 := K2.lt
  clear hV B
  refine (l15Any_any V g D0).mono ?_
  rintro e w1 ⟨n, ad, i, cp, l, rfl, hn, o1, hl, D1, g1⟩
  have K2 := K2.grow g1 (by simp; omega)
  have yV := g1.size
  have g1 := gr_trans g0 g1
  have x1 := K2.lt
  have y1 := g1.size
  go_wp2_with fail
  refine calls_named ?_
  intro V1 hV1
  have K3 : Blk V1 w1.heap.size 29 #[.int .i64 n, .slice ad i cp] := by
    rw [hV1]
    first
      | exact Blk.new _ _ _
      | (have := ((Blk.new w1 29 #[.int .i64 0, .slice none 0 0]).set 0 (.int .i64 n)).set 1 (.slice ad i cp); simpa using this)
  have g2 : w1.grownBy V1 (some w1.heap.size) := by
    rw [hV1]
    first
      | exact gr_below _ (bl1 _ _)
      | exact grow_set (grow_set (gr_below _ (bl1 _ _)) 0 _) 1 _
  have K2 := K2.grow g2 (by simp; omega)
  have D2 := D1.grow g2 (fun k e => by have := Option.some.inj e; omega)
  have ro1 := o1.lt
  have o2 := o1.grow g2 (fun q hq e => by have := Option.some.inj hq; have := (o1.lt _ e).2; omega)
  have g2 := gr_any g1 g2 (fun b e => .inr (by have := Option.some.inj e; omega))
  clear hV1 o1 D1 g1 g0 D0
  refine (isFamS_any n l _ V1 o2.ints).mono ?_
  rintro e w3 ⟨rfl, b3⟩
  have K2 := K2.keep b3
  have K3 := K3.keep b3
  have o3 := o2.keep b3
  have D3 := D2.keep b3
  have g3 := gr_trans g2 (gr_below _ b3)
  clear D2 o2 g2 b3
  cases hf : isFamB n l with
  | false =>
    clear hf
    have G3 := K3.cell
    have G2 := K2.cell
    have F2 := K2.frozen
    go_wp2
    refine post_named ?_
    intro Wf hWf
    obtain ⟨KF, DF, oF, gF⟩ := any_tail zg K2 D3 o3 (by omega) g3 hWf
    have GF := KF.cell
    clear hWf
    exact bodyPost_ret (v := .agg #[.int .i64 n, .slice ad i cp]) (by simp [results, Try.results111, go_sem, GF]) rfl ⟨n, ad, i, cp, l, rfl, hn, oF, by omega, DF, gF⟩
  | true =>
    obtain ⟨h0, h6, _, hasc⟩ := famOk hf
    clear hf
    go_wp2_with fail
    refine (l1Once_any w3 g D3 4).mono ?_
    rintro e w4 ⟨bb, rfl, D4, g4⟩
    have K2 := K2.grow g4 (by simp; omega)
    have K3 := K3.grow g4 (by simp; omega)
    have o4 := o3.grow g4 (fun q hq e => by have := Option.some.inj hq; have := (o3.lt _ e).1; omega)
    have g4 := gr_trans g3 g4
    clear D3 o3 g3
    cases bb with
    | true =>
      have G3 := K3.cell
      have G2 := K2.cell
      have F2 := K2.frozen
      go_wp2
      refine post_named ?_
      intro Wf hWf
      obtain ⟨KF, DF, oF, gF⟩ := any_tail zg K2 D4 o4 (by omega) g4 hWf
      have GF := KF.cell
      clear hWf
      exact bodyPost_ret (v := .agg #[.int .i64 n, .slice ad i cp]) (by simp [results, Try.results111, go_sem, GF]) rfl ⟨n, ad, i, cp, l, rfl, hn, oF, by omega, DF, gF⟩
    | false =>
      obtain ⟨N, rfl⟩ := Int.eq_ofNat_of_zero_le h0
      have hN : N ≤ 6 := by omega
      go_wp2_with fail
      go_loopw [4] (fun kk wr => ∃ (k : Nat) (ad : Option Addr) (i cp : Nat) (L : List Int), kk = .int .i64 k ∧ k ≤ N ∧ L.length ≤ 8 + k ∧ L.Pairwise (· < ·) ∧ OwnI 3 V.heap.size wr (.slice ad i cp) L ∧ Dr wr g ∧ w.grownBy wr (some g) ∧ Blk wr w.heap.size 29 #[.int .i64 0, .slice none 0 0] ∧ Blk wr w1.heap.size 29 #[.int .i64 N, .slice ad i cp]) (fun kk _ => N - (intOf kk).toNat)
      case atStart => exact ⟨0, ad, i, cp, l, rfl, Nat.zero_le _, by omega, hasc, o4, D4, g4, K2, K3⟩
      case round =>
        obtain ⟨k, a5, i5, c5, L, rfl, hk, hL, hLa, o5, D5, g5, K25, K35⟩ := hrel
        clear o4 D4 g4 K2 K3
        have HLA := Lib.hid hLa
        clear hLa hasc
        have G3 := K35.cell
        have x5 := K35.lt
        by_cases hlt : k < N
        · have hlt2 : (k : Int) < (N : Int) := by omega
          have pk := two_pow k 6 (by omega)
          have wk : IntKind.i64.wrap ((2 : Int) ^ k) = (2 : Int) ^ k := by rw [IntKind.wrap_i64]; omega
          have Dd : Dr wr.drew g := D5.keep (Below.refl _ _).drew
          have K3d : Blk wr.drew w1.heap.size 29 #[.int .i64 N, .slice a5 i5 c5] := K35
          have K2d : Blk wr.drew w.heap.size 29 #[.int .i64 0, .slice none 0 0] := K25
          have od : OwnI 3 V.heap.size wr.drew (.slice a5 i5 c5) L := o5.keep (Below.refl _ _).drew
          have gd : w.grownBy wr.drew (some g) := gr_trans g5 (gr_below _ (Below.refl _ _).drew)
          have HB := Lib.hid (l1Below_any wr.drew g Dd (N : Int))
          have HP := Lib.hid (fun (W : World) (h : OwnI 3 V.heap.size W (.slice a5 i5 c5) L) (hs : V.heap.size ≤ W.heap.size) (x : Int) (hx : InR x) => l15Put_any V.heap.size L _ x W h hs HLA.out (by omega) hx)
          go_wp2_with fail
          go_region_law
            (first
              | (go_simp; go_at_call 120; refine HB.out.mono ?_; rintro e w6 ⟨x, rfl, _, hx, _, D6, g6⟩; have hx := hx (by omega); have K36 := K3d.grow g6 (by simp; omega); have G36 := K36.cell; have o6 := od.grow g6 (fun q hq e => by have := Option.some.inj hq; have := (od.lt _ e).1; omega); have gg6 := gr_trans gd g6; have K26 := K2d.grow g6 (by simp; omega); have x36 := K36.lt; obtain ⟨X, rfl⟩ := Int.eq_ofNat_of_zero_le hx.1; have px := two_pow X 6 (by omega); have wx : IntKind.i64.wrap ((2 : Int) ^ X) = (2 : Int) ^ X := by { rw [IntKind.wrap_i64]; omega })
              | (go_simp; go_at_call 103; refine (HP.out _ o6 (by omega) _ (bits_inR _ _ _)).mono ?_; rintro e w7 ⟨a7, i7, q7, rfl, o7, b7, _⟩; have K37 := K36.keep b7; have F37 := K37.frozen; have G37 := K37.cell))
          all_goals
            obtain ⟨y, hy⟩ : ∃ y, y = bits .or .i64 ((2 : Int) ^ k) (2 ^ X) := ⟨_, rfl⟩
            rw [← hy] at o7
            have gs := grown_setCell w7 ⟨w1.heap.size, 1, none⟩ (.slice a7 i7 q7)
            have hne7 := own_apart o7 K37
            have DF := (D6.keep b7).setCell (b := w1.heap.size) (i := 1) (.slice a7 i7 q7) (by omega)
            have oF := o7.grow gs (fun q hq e => by have := Option.some.inj hq; simp at this; exact hne7 (by rw [e, this]))
            have gF := gr_any (gr_trans gg6 (gr_below _ b7)) gs (fun b e => .inr (by have := Option.some.inj e; simp at this; omega))
            have KF2 := (K26.keep b7).far (p := ⟨w1.heap.size, 1, none⟩) (by simp; omega) (.slice a7 i7 q7)
            have KF3 : Blk (w7.setCell ⟨w1.heap.size, 1, none⟩ (.slice a7 i7 q7)) w1.heap.size 29 #[.int .i64 N, .slice a7 i7 q7] := by
              have := K37.set 1 (.slice a7 i7 q7)
              simpa using this
            have hl7 := putL_len L y
            have ha7 := putL_asc L y
            go_wp2
            go_roundw
            case rel => exact ⟨k + 1, a7, i7, q7, putL L y, by go_num, by omega, by omega, ha7, oF, DF, gF, KF2, KF3⟩
            case measure => simp [intOf]; omega
        · have hlt2 : ¬ (k : Int) < (N : Int) := by omega
          have G2 := K25.cell
          have F2 := K25.frozen
          go_wp2
          refine post_named ?_
          intro Wf hWf
          obtain ⟨KF, DF, oF, gF⟩ := any_tail zg K25 D5 o5 (by omega) g5 hWf
          have GF := KF.cell
          clear hWf
          exact bodyPost_ret (v := .agg #[.int .i64 N, .slice a5 i5 c5]) (by simp [results, Try.results111, go_sem, GF]) rfl (by first | exact ⟨N, a5, i5, c5, L, rfl, hn, oF, by omega, DF, gF⟩ | exact ⟨N, a5, i5, c5, rfl, hn, L, oF, by omega, DF, gF⟩)
end Go.Proofs.Ytbkgconoadicjaa
