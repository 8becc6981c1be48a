/- Common independent sets: whether two functions are ranks of matroids alike; sets that are free. -/
import Derived.Test.YtmlpcohailjccaaComP
import Derived.Test.YtmlpcohailjccaaCutM
import Derived.Test.YtmlpcohailjccaaChoose
namespace Go.Proofs.Ytmlpcohailjccaa
open Go.RowKit Go.G5

theorem beq_dec (a b : Int) : (a == b) = decide (a = b) := by by_cases h : a = b <;> simp [h]
set_option maxHeartbeats 1000000 in
set_option maxRecDepth 100000 in
theorem areMatI_any (w : World) (n : Int) (v : Value) (l : List Int) (hv : Ints w v l) (hl : l.length ≤ 1048576) (m : Int) (u : Value) (k : List Int) (hu : Ints w u k) (hk : k.length ≤ 1048576) :
    Calls Try.prog 120 #[.agg #[.int .i64 n, v], .agg #[.int .i64 m, u]] w fun e w' => e = .returned (.bool (comB n l m k)) ∧ Below w.heap.size w w' := by
  obtain ⟨a, c, rfl⟩ := hv.shape
  obtain ⟨b, d, rfl⟩ := hu.shape
  go_enter Try.func120, Try.ntmps120
  go_wp2_with fail
  refine calls_named ?_
  intro V hV
  have B : Below w.heap.size w V := by rw [hV]; exact bl2 _ _ _
  have K1 : Blk V w.heap.size 26 #[.int .i64 n, .slice a l.length c] := by rw [hV]; exact (Blk.new _ _ _).alloc _
  have K2 : Blk V (w.heap.size + 1) 26 #[.int .i64 m, .slice b k.length d] := by rw [hV]; have := Blk.new (w.alloc (.cells #[.int .i64 n, .slice a l.length c] 26)) 26 #[.int .i64 m, .slice b k.length d]; simpa using this
  clear hV
  refine (rankI_any n l _ V (hv.below B (Nat.le_refl _)) hl).mono ?_
  rintro e w1 ⟨rfl, b1⟩
  have K1 := K1.keep b1
  have K2 := K2.keep b1
  have B := B.after b1 B.size
  have z2 := K2.lt
  cases h1 : rankB n l with
  | false =>
    have hx : comB n l m k = false := by unfold comB; rw [h1]; rfl
    have HX := Lib.hid hx
    clear hx h1
    have G1 := K1.cell
    have G2 := K2.cell
    go_wp2
    go_ret
    exact ⟨ret_bool HX.out.symm, B⟩
  | true =>
    have H1 := Lib.hid h1
    clear h1
    have G2 := K2.cell
    go_wp2_with fail
    clear G2
    refine (rankI_any m k _ w1 (hu.below B (Nat.le_refl _)) hk).mono ?_
    rintro e w2 ⟨rfl, b2⟩
    have K1 := K1.keep b2
    have K2 := K2.keep b2
    have B := B.after b2 B.size
    have hx : comB n l m k = (rankB m k && decide (n = m)) := by unfold comB; rw [H1.out]; rfl
    have HX := Lib.hid hx
    clear hx
    have G1 := K1.cell
    have G2 := K2.cell
    have z2 := K2.lt
    cases h2 : rankB m k with
    | false =>
      have H2 := Lib.hid h2
      clear h2
      go_wp2
      go_ret
      exact ⟨ret_bool (by rw [HX.out, H2.out]; rfl), B⟩
    | true =>
      have H2 := Lib.hid h2
      clear h2
      go_wp2
      go_ret
      exact ⟨ret_bool (by rw [HX.out, H2.out, Bool.true_and]; exact beq_dec n m), B⟩
set_option maxHeartbeats 1000000 in
set_option maxRecDepth 100000 in
theorem areMatS_any (w : World) (n : Int) (v : Value) (l : List Int) (hv : Ints w v l) (hl : l.length ≤ 1048576) (m : Int) (u : Value) (k : List Int) (hu : Ints w u k) (hk : k.length ≤ 1048576) :
    Calls Try.prog 118 #[.agg #[.int .i64 n, v], .agg #[.int .i64 m, u]] w fun e w' => e = .returned (.bool (comB n l m k)) ∧ Below w.heap.size w w' := by
  obtain ⟨a, c, rfl⟩ := hv.shape
  obtain ⟨b, d, rfl⟩ := hu.shape
  go_enter Try.func118, Try.ntmps118
  go_wp2_with fail
  refine calls_named ?_
  intro V hV
  have B : Below w.heap.size w V := by rw [hV]; exact bl2 _ _ _
  have K1 : Blk V w.heap.size 26 #[.int .i64 n, .slice a l.length c] := by rw [hV]; exact (Blk.new _ _ _).alloc _
  have K2 : Blk V (w.heap.size + 1) 26 #[.int .i64 m, .slice b k.length d] := by rw [hV]; have := Blk.new (w.alloc (.cells #[.int .i64 n, .slice a l.length c] 26)) 26 #[.int .i64 m, .slice b k.length d]; simpa using this
  clear hV
  refine (rankS_any n l _ V (hv.below B (Nat.le_refl _)) hl).mono ?_
  rintro e w1 ⟨rfl, b1⟩
  have K1 := K1.keep b1
  have K2 := K2.keep b1
  have B := B.after b1 B.size
  have z2 := K2.lt
  cases h1 : rankB n l with
  | false =>
    have hx : comB n l m k = false := by unfold comB; rw [h1]; rfl
    have HX := Lib.hid hx
    clear hx h1
    have G1 := K1.cell
    have G2 := K2.cell
    go_wp2
    go_ret
    exact ⟨ret_bool HX.out.symm, B⟩
  | true =>
    have H1 := Lib.hid h1
    clear h1
    have G2 := K2.cell
    go_wp2_with fail
    clear G2
    refine (rankS_any m k _ w1 (hu.below B (Nat.le_refl _)) hk).mono ?_
    rintro e w2 ⟨rfl, b2⟩
    have K1 := K1.keep b2
    have K2 := K2.keep b2
    have B := B.after b2 B.size
    have hx : comB n l m k = (rankB m k && decide (n = m)) := by unfold comB; rw [H1.out]; rfl
    have HX := Lib.hid hx
    clear hx
    have G1 := K1.cell
    have G2 := K2.cell
    have z2 := K2.lt
    cases h2 : rankB m k with
    | false =>
      have H2 := Lib.hid h2
      clear h2
      go_wp2
      go_ret
      exact ⟨ret_bool (by rw [HX.out, H2.out]; rfl), B⟩
    | true =>
      have H2 := Lib.hid h2
      clear h2
      go_wp2
      go_ret
      exact ⟨ret_bool (by rw [HX.out, H2.out, Bool.true_and]; exact beq_dec n m), B⟩
set_option maxHeartbeats 1000000 in
set_option maxRecDepth 100000 in
theorem isFree_any (w : World) (n : Int) (v : Value) (l : List Int) (hv : Ints w v l) (s : Nat) (hs : s < l.length) (hs2 : s < 64) :
    Calls Try.prog 123 #[.agg #[.int .i64 n, v], .int .i64 s] w fun e w' => e = .returned (.bool (freeB l s)) ∧ Below w.heap.size w w' := by
  have hv0 := hv
  obtain ⟨a, b, off, c, rfl, hlen, hix, hc, hb⟩ := hv.view Try.prog 22 3 Try.underlying22 intElem
  obtain ⟨V, hV⟩ : ∃ V, V = w.alloc (.cells #[.int .i64 n, .slice a l.length c] 26) := ⟨_, rfl⟩
  have B : Below w.heap.size w V := by rw [hV]; exact bl1 _ _
  have K1 : Blk V w.heap.size 26 #[.int .i64 n, .slice a l.length c] := by rw [hV]; exact Blk.new _ _ _
  have ck := cells_below hc hb B (Nat.le_refl _) s hs
  have ik := fun W => hix W s hs
  have hg : l.getD s 0 = l[s] := getD_at l s hs
  have hfr : freeB l s = decide (l[s] = (pop s : Int)) := by unfold freeB; rw [hg]
  obtain ⟨x, hx⟩ : ∃ x, x = l[s] := ⟨_, rfl⟩
  rw [← hx] at ck hfr
  have HFR := Lib.hid hfr
  have HS := Lib.hid (fun W => sizeOf_any s W (by omega))
  have e1 : ∀ y : Ext V, y.w.cell? ⟨w.heap.size, 1, none⟩ = some (.slice a l.length c) := fun y => y.cell (K1.cell 1)
  have e2 : ∀ y : Ext V, y.w.cell? ⟨b, off + s, none⟩ = some (.int .i64 x) := fun y => y.cell ck
  clear hc hix hb hg hfr hx ck
  go_enter Try.func123, Try.ntmps123
  go_wp2_with fail
  rw [← hV]
  clear hV
  refine wp_region_ext _ (by kernel_rfl) (by kernel_rfl) ?_
  repeat (first | go_big_quiet_skip | (go_big_quiet_want; go_big_quiet_op; first | go_big_quiet_on | (apply Exists.intro; refine ⟨fun _ => ?_, ?_⟩; (go_at_call 66; exact ext_same (HS.out _)); go_big_quiet_on)))
  refine wpQuiet_nil ?_
  rintro w3 ⟨⟨w3, hb3⟩, rfl⟩
  try dsimp only
  go_wp2
  go_ret
  exact ⟨ret_bool (by rw [HFR.out]; exact beq_dec _ _), B.after hb3 B.size⟩
set_option maxHeartbeats 1000000 in
set_option maxRecDepth 100000 in
theorem freeClosure (w : World) (g1 g2 : Nat) (n m : Int) (v u : Value) (l k : List Int) (hv : Ints w v l) (hu : Ints w u k) (hlk : k.length = l.length) (hl : l.length ≤ 32) (s : Nat) (hs : s < l.length) (K1 : Blk w g1 26 #[.int .i64 n, v]) (K2 : Blk w g2 26 #[.int .i64 m, u]) :
    Calls Try.prog 122 #[.int .i64 s, .pointer (some ⟨g1, 0, none⟩), .pointer (some ⟨g2, 0, none⟩)] w fun e w' => e = .returned (.bool (freeB l s && freeB k s)) ∧ Below w.heap.size w w' := by
  obtain ⟨a, c, rfl⟩ := hv.shape
  obtain ⟨b, d, rfl⟩ := hu.shape
  have G1 := K1.cell
  have z1 := K1.lt
  go_enter Try.func122, Try.ntmps122
  go_wp2_with fail
  clear G1
  refine (isFree_any w n _ l hv s hs (by omega)).mono ?_
  rintro e w1 ⟨rfl, b1⟩
  have K2 := K2.keep b1
  have hu1 := hu.keep b1
  have HKL := Lib.hid hlk
  clear hlk
  cases h1 : freeB l s with
  | false =>
    have hx : (freeB l s && freeB k s) = false := by rw [h1]; rfl
    have HX := Lib.hid hx
    clear hx h1
    go_wp2
    go_ret
    exact ⟨ret_bool (by first | exact HX.out.symm | simp), b1⟩
  | true =>
    have hx : (freeB l s && freeB k s) = freeB k s := by rw [h1]; rfl
    have HX := Lib.hid hx
    clear hx h1
    have G2 := K2.cell
    go_wp2_with fail
    clear G2
    refine (isFree_any w1 m _ k hu1 s (by rw [HKL.out]; exact hs) (by omega)).mono ?_
    rintro e w2 ⟨rfl, b2⟩
    go_wp2
    go_ret
    exact ⟨ret_bool (by first | exact HX.out.symm | simp), b1.after b2 b1.size⟩
theorem freeClosure_enters : ∀ args w, (callFunc 122 args).run Try.prog w = .ok (.enter 122 args) w := enters_of Try.func122 (by kernel_rfl) rfl
end Go.Proofs.Ytmlpcohailjccaa
