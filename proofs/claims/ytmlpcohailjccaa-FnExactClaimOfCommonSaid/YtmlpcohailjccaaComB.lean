/- What bounds common independent sets: both programs. -/
import Derived.Test.YtmlpcohailjccaaComS
namespace Go.Proofs.Ytmlpcohailjccaa
open Go.RowKit Go.G5

set_option maxHeartbeats 2000000 in
set_option maxRecDepth 100000 in
theorem commonBoundI_c (w : World) (n : Int) (v : Value) (l : List Int) (hv : Ints w v l) (hl : l.length ≤ 1048576) (m : Int) (u : Value) (k : List Int) (hu : Ints w u k) (hk : k.length ≤ 1048576) :
    Calls Try.prog 64 #[.agg #[.int .i64 n, v], .agg #[.int .i64 m, u]] w fun e w' => e = .returned (.tuple #[.int .i64 (cbN n l m k), .int .i64 (cbS n l m k), .bool (comB n l m k)]) ∧ Below w.heap.size w w' := by
  obtain ⟨a, c, rfl⟩ := hv.shape
  obtain ⟨b, d, rfl⟩ := hu.shape
  go_enter Try.func64, Try.ntmps64
  go_wp2_with fail
  refine calls_named ?_
  intro V hV
  have B : Below w.heap.size w V := by rw [hV]; exact bl2 _ _ _
  have K1 : Blk V w.heap.size 26 #[.int .i64 n, .slice a l.length c] := by rw [hV]; exact (Blk.new _ _ _).alloc _
  have K2 : Blk V (w.heap.size + 1) 26 #[.int .i64 m, .slice b k.length d] := by rw [hV]; have := Blk.new (w.alloc (.cells #[.int .i64 n, .slice a l.length c] 26)) 26 #[.int .i64 m, .slice b k.length d]; simpa using this
  clear hV
  refine (areMatI_any V n _ l (hv.below B (Nat.le_refl _)) hl m _ k (hu.below B (Nat.le_refl _)) hk).mono ?_
  rintro e w1 ⟨rfl, b1⟩
  have K1 := K1.keep b1
  have K2 := K2.keep b1
  have B := B.after b1 B.size
  have hv1 := hv.below B (Nat.le_refl _)
  have hu1 := hu.below B (Nat.le_refl _)
  have z2 := K2.lt
  cases hf : comB n l m k with
  | false =>
    have hx : cbN n l m k = 0 := by unfold cbN; rw [hf]; rfl
    have hy : cbS n l m k = 0 := by unfold cbS; rw [hf]; rfl
    have HX := Lib.hid (And.intro hx hy)
    have HF := Lib.hid hf
    clear hx hy hf
    go_wp2
    go_ret3
    exact ⟨by rw [HX.out.1, HX.out.2, HF.out]; rfl, B⟩
  | true =>
    obtain ⟨rfl, N, rfl, hN5, hl2, hl32, hkl, hlb, hkb⟩ := com_fun hf
    have hx : cbN N l N k = sumT l k (spTo l k (2 ^ N)) := by unfold cbN; rw [hf, if_pos rfl, hl2]
    have hy : cbS N l N k = (spTo l k (2 ^ N) : Int) := by unfold cbS; rw [hf, if_pos rfl, hl2]
    have HX := Lib.hid (And.intro hx hy)
    have HF := Lib.hid hf
    have hal : ∀ x : Ext w1, Calls Try.prog 125 #[.agg #[.int .i64 (N : Int), .slice a l.length c]] x.w fun e w' => e = .returned (.int .i64 (2 ^ N - 1)) ∧ Below x.w.heap.size x.w w' := fun x => by
      have := allOf_any (N : Int) (.slice a l.length c) l x.w (x.ints hv1) (by omega) (by omega)
      rw [Int.toNat_natCast] at this
      exact this
    have HAL := Lib.hid hal
    have HSP := Lib.hid (fun x : Ext w1 => leastSplit_any x.w N hN5 (N : Int) (N : Int) (.slice a l.length c) (.slice b k.length d) l k (x.ints hv1) (x.ints hu1) hl2 hkl hlb hkb)
    have e0 : ∀ y : Ext w1, y.w.cell? ⟨w.heap.size, 0, none⟩ = some (.int .i64 N) := fun y => y.cell (K1.cell 0)
    have e1 : ∀ y : Ext w1, y.w.cell? ⟨w.heap.size, 1, none⟩ = some (.slice a l.length c) := fun y => y.cell (K1.cell 1)
    have e2 : ∀ y : Ext w1, y.w.cell? ⟨w.heap.size + 1, 0, none⟩ = some (.int .i64 N) := fun y => y.cell (K2.cell 0)
    have e3 : ∀ y : Ext w1, y.w.cell? ⟨w.heap.size + 1, 1, none⟩ = some (.slice b k.length d) := fun y => y.cell (K2.cell 1)
    clear hx hy hf hl2 hkl hlb hkb hal
    go_wp2_with fail
    refine wp_region_ext _ (by kernel_rfl) (by kernel_rfl) ?_
    repeat (first | go_big_quiet_skip | (go_big_quiet_want; go_big_quiet_op; first | go_big_quiet_on | (apply Exists.intro; refine ⟨fun _ => ?_, ?_⟩; (first | (go_at_call 125; exact ext_call (HAL.out _)) | (go_at_call 124; exact ext_call (HSP.out _))); go_big_quiet_on)))
    refine wpQuiet_nil ?_
    rintro w3 ⟨⟨w3, hb3⟩, rfl⟩
    try dsimp only
    go_wp2
    go_ret3
    exact ⟨by rw [HX.out.1, HX.out.2, HF.out]; rfl, B.after hb3 B.size⟩
set_option maxHeartbeats 2000000 in
set_option maxRecDepth 100000 in
theorem commonBoundS_c (w : World) (n : Int) (v : Value) (l : List Int) (hv : Ints w v l) (hl : l.length ≤ 1048576) (m : Int) (u : Value) (k : List Int) (hu : Ints w u k) (hk : k.length ≤ 1048576) :
    Calls Try.prog 59 #[.agg #[.int .i64 n, v], .agg #[.int .i64 m, u]] w fun e w' => e = .returned (.tuple #[.int .i64 (cbN n l m k), .int .i64 (cbS n l m k), .bool (comB n l m k)]) ∧ Below w.heap.size w w' := by
  obtain ⟨a, c, rfl⟩ := hv.shape
  obtain ⟨b, d, rfl⟩ := hu.shape
  go_enter Try.func59, Try.ntmps59
  go_wp2_with fail
  refine calls_named ?_
  intro V hV
  have B : Below w.heap.size w V := by rw [hV]; exact bl2 _ _ _
  have K1 : Blk V w.heap.size 26 #[.int .i64 n, .slice a l.length c] := by rw [hV]; exact (Blk.new _ _ _).alloc _
  have K2 : Blk V (w.heap.size + 1) 26 #[.int .i64 m, .slice b k.length d] := by rw [hV]; have := Blk.new (w.alloc (.cells #[.int .i64 n, .slice a l.length c] 26)) 26 #[.int .i64 m, .slice b k.length d]; simpa using this
  clear hV
  refine (areMatS_any V n _ l (hv.below B (Nat.le_refl _)) hl m _ k (hu.below B (Nat.le_refl _)) hk).mono ?_
  rintro e w1 ⟨rfl, b1⟩
  have K1 := K1.keep b1
  have K2 := K2.keep b1
  have B := B.after b1 B.size
  have hv1 := hv.below B (Nat.le_refl _)
  have hu1 := hu.below B (Nat.le_refl _)
  have z2 := K2.lt
  obtain ⟨aa, ba, offa, ca, hsa, _, hixa, hca, hba⟩ := hv.view Try.prog 22 3 Try.underlying22 intElem
  obtain ⟨ab, bb, offb, cb, hsb, _, hixb, hcb, hbb⟩ := hu.view Try.prog 22 3 Try.underlying22 intElem
  simp only [Value.slice.injEq] at hsa hsb
  obtain ⟨rfl, _, rfl⟩ := hsa
  obtain ⟨rfl, _, rfl⟩ := hsb
  cases hf : comB n l m k with
  | false =>
    clear hixa hca hixb hcb
    have hx : cbN n l m k = 0 := by unfold cbN; rw [hf]; rfl
    have hy : cbS n l m k = 0 := by unfold cbS; rw [hf]; rfl
    have HX := Lib.hid (And.intro hx hy)
    have HF := Lib.hid hf
    clear hx hy hf
    go_wp2
    go_ret3
    exact ⟨by rw [HX.out.1, HX.out.2, HF.out]; rfl, B⟩
  | true =>
    obtain ⟨rfl, N, rfl, hN5, hl2, hl32, hkl, hlb, hkb⟩ := com_fun hf
    have hpos := Nat.two_pow_pos N
    have hpl := spTo_lt l k (2 ^ N) hpos
    have hx : cbN N l N k = sumT l k (spTo l k (2 ^ N)) := by unfold cbN; rw [hf, if_pos rfl, hl2]
    have hy : cbS N l N k = (spTo l k (2 ^ N) : Int) := by unfold cbS; rw [hf, if_pos rfl, hl2]
    have hcast : ((2 ^ N - 1 : Nat) : Int) = (2 : Int) ^ N - 1 := by rw [Int.ofNat_sub hpos]; simp
    obtain ⟨p, hp⟩ : ∃ p, p = spTo l k (2 ^ N) := ⟨_, rfl⟩
    rw [← hp] at hx hy hpl
    have hst := sumT_at l k hkl p (by omega)
    have cp := cells_below hca hba B (Nat.le_refl _) p (by omega)
    have ip := fun W => hixa W p (by omega)
    have dp := cells_below hcb hbb B (Nat.le_refl _) (l.length - 1 - p) (by omega)
    have jp := fun W => hixb W (l.length - 1 - p) (by omega)
    have lbp := hlb p (by omega)
    have kbp := hkb (l.length - 1 - p) (by omega)
    obtain ⟨x, hxe⟩ : ∃ x, x = l[p]'(by omega) := ⟨_, rfl⟩
    obtain ⟨y, hye⟩ : ∃ y, y = k[l.length - 1 - p]'(by omega) := ⟨_, rfl⟩
    rw [← hxe] at cp lbp hst
    rw [← hye] at dp kbp hst
    have hsub : ((2 : Int) ^ N - 1) - (p : Int) = ((l.length - 1 - p : Nat) : Int) := by rw [← hcast]; omega
    obtain ⟨r, hr⟩ : ∃ r, r = l.length - 1 - p := ⟨_, rfl⟩
    simp only [← hr] at dp jp hsub
    have HX := Lib.hid (And.intro hx (And.intro hy hst))
    have HF := Lib.hid hf
    have HFU := Lib.hid (fun W => l2Full_any N W (by omega))
    have hsp := fun (W : World) (h1 : Ints W (.slice a l.length c) l) (h2 : Ints W (.slice b k.length d) k) => l6Split_any W N hN5 (N : Int) (N : Int) (.slice a l.length c) (.slice b k.length d) l k h1 h2 hl2 hkl hlb hkb
    rw [← hp] at hsp
    have HSP := Lib.hid hsp
    have p5 := two_pow N 5 hN5
    clear hx hy hf hl2 hkl hlb hkb hst hxe hye hr hp hcast hixa hca hixb hcb hsp
    have G1 := K1.cell
    go_wp2_with fail
    refine (HFU.out _).mono ?_
    rintro e w2 ⟨rfl, rfl⟩
    have G2 := K2.cell
    go_wp2_with fail
    clear G1 G2
    refine (HSP.out _ hv1 hu1).mono ?_
    rintro e w3 ⟨rfl, b3⟩
    have K1 := K1.keep b3
    have K2 := K2.keep b3
    have B3 := B.after b3 B.size
    have cp := keep b3 cp
    have dp := keep b3 dp
    have G1 := K1.cell
    have G2 := K2.cell
    go_wp2_with fail
    go_quiet (fail)
    go_wp2
    go_ret3
    exact ⟨by rw [HX.out.1, HX.out.2.1, HX.out.2.2, HF.out]; rfl, B3.drewN' _⟩
end Go.Proofs.Ytmlpcohailjccaa
