/- Maxima and the double greed: the second program. -/
import Derived.Test.YtelmokapdkepbaaGreatDoorQ38
section
namespace Go.Proofs.YtelmokapdkepbaaGreatDoor
open Go.RowKit Go.G5

set_option maxHeartbeats 2000000 in
set_option maxRecDepth 100000 in
theorem mxS_c (w : World) (n : Int) (v : Value) (l : List Int) (hv : Ints w v l) :
    Calls Tryz.prog 18 #[.agg #[.int .i64 n, v]] w fun e w' => e = .returned (.tuple #[.int .i64 (mxN n l), .int .i64 (mxS n l), .bool (isFunB n l)]) ∧ Below w.heap.size w w' := by
  have hv0 := hv
  obtain ⟨a, b, off, c, rfl, hlen, hix, hc, hb⟩ := hv.view Tryz.prog 22 3 Tryz.underlying22 intElem
  have HC := Lib.hid hc
  have HIX := Lib.hid hix
  clear hc hix
  go_enter Tryz.func18, Tryz.ntmps18
  go_wp2_with fail
  refine calls_named ?_
  intro V hV
  have B : Below w.heap.size w V := by rw [hV]; exact bl1 _ _
  have K : Blk V w.heap.size 27 #[.int .i64 n, .slice a l.length c] := by rw [hV]; exact Blk.new _ _ _
  clear hV
  refine (isFunS_any n l _ V (hv.below B (Nat.le_refl _))).mono ?_
  rintro e w1 ⟨rfl, b1⟩
  have K := K.keep b1
  have B := B.after b1 B.size
  have G := K.cell
  have z := K.lt
  cases hf : isFunB n l with
  | false =>
    have hx : mxN n l = 0 ∧ mxS n l = 0 := by unfold mxN mxS; rw [hf]; exact ⟨rfl, rfl⟩
    have HX := Lib.hid (And.intro hx hf)
    clear hx hf
    go_wp2
    go_ret3
    exact ⟨by rw [HX.out.1.1, HX.out.1.2, HX.out.2]; rfl, B⟩
  | true =>
    have hx : mxN n l = l.getD (mxTo l l.length) 0 ∧ mxS n l = (mxTo l l.length : Int) := by unfold mxN mxS; rw [hf]; exact ⟨rfl, rfl⟩
    have hl32 : l.length ≤ 32 ∧ 0 < l.length := by
      obtain ⟨N', hN, h5, hl2, hl32, _⟩ := fun_nat hf
      have := Nat.two_pow_pos N'
      exact ⟨hl32, by omega⟩
    have HX := Lib.hid (And.intro hx hf)
    have h1 := mxTo_one l
    clear hx hf
    go_wp2_with fail
    go_loopw [5, 6] (fun bst i wr => ∃ t : Nat, 1 ≤ t ∧ t ≤ l.length ∧ i = .int .i64 t ∧ bst = .int .i64 (mxTo l t : Int) ∧ Below w1.heap.size w1 wr) (fun _ i _ => l.length - (intOf i).toNat)
    case atStart => exact ⟨1, Nat.le_refl _, by omega, rfl, by rw [h1]; rfl, Below.refl _ _⟩
    case round =>
      obtain ⟨t, ht1, ht, rfl, rfl, Br⟩ := hrel
      obtain ⟨wo, rfl⟩ : ∃ z : World, z = wr := ⟨_, rfl⟩
      have Bw := B.after Br B.size
      have Kw := K.keep Br
      have hbl := mxTo_lt l t ht1
      clear G z
      have G := Kw.cell
      have z := Kw.lt
      by_cases hlt : t < l.length
      · have hlt2 : (t : Int) < (l.length : Int) := by omega
        have hbl2 : mxTo l t < l.length := by omega
        have hsucc := mxTo_succ l t
        have ck1 := cells_below HC.out hb Bw (Nat.le_refl _) t hlt
        have ik1 := fun W => HIX.out W t hlt
        have ck2 := cells_below HC.out hb Bw (Nat.le_refl _) _ hbl2
        have ik2 := fun W => HIX.out W _ hbl2
        rw [← getD_at l t hlt] at ck1
        rw [← getD_at l _ hbl2] at ck2
        obtain ⟨q, hq⟩ : ∃ q, q = mxTo l t := ⟨_, rfl⟩
        simp only [← hq] at hsucc ck2 ik2
        rw [← hq]
        obtain ⟨x, hx⟩ : ∃ x, x = l.getD t 0 := ⟨_, rfl⟩
        obtain ⟨y, hy⟩ : ∃ y, y = l.getD q 0 := ⟨_, rfl⟩
        rw [← hx, ← hy] at hsucc
        rw [← hx] at ck1
        rw [← hy] at ck2
        have e1 : ∀ y : Ext wo, y.w.cell? ⟨w.heap.size, 1, none⟩ = some (.slice a l.length c) := fun y => y.cell (Kw.cell 1)
        have e2 : ∀ z : Ext wo, z.w.cell? ⟨b, off + t, none⟩ = some (.int .i64 x) := fun z => z.cell ck1
        have e3 : ∀ z : Ext wo, z.w.cell? ⟨b, off + q, none⟩ = some (.int .i64 y) := fun z => z.cell ck2
        clear hq hx hy hbl hbl2 ck1 ck2
        by_cases hgt : y < x
        · rw [if_pos hgt] at hsucc
          have HSU := Lib.hid hsucc
          clear hsucc
          go_wp2_with fail
          refine wp_region_ext _ (by kernel_rfl) (by kernel_rfl) ?_
          repeat (first | go_big_quiet_skip | (go_big_quiet_want; go_big_quiet_op; first | go_big_quiet_on | (apply Exists.intro; refine ⟨fun _ => ?_, ?_⟩; (fail); go_big_quiet_on)))
          refine wpQuiet_nil ?_
          rintro w5 ⟨⟨w5, b5⟩, rfl⟩
          try dsimp only
          go_wp2
          go_roundw
          case rel => exact ⟨t + 1, by omega, by omega, by go_num, by rw [HSU.out], Br.after b5 Br.size⟩
          case measure => simp [intOf]; omega
        · rw [if_neg hgt] at hsucc
          have HSU := Lib.hid hsucc
          clear hsucc
          go_wp2_with fail
          refine wp_region_ext _ (by kernel_rfl) (by kernel_rfl) ?_
          repeat (first | go_big_quiet_skip | (go_big_quiet_want; go_big_quiet_op; first | go_big_quiet_on | (apply Exists.intro; refine ⟨fun _ => ?_, ?_⟩; (fail); go_big_quiet_on)))
          refine wpQuiet_nil ?_
          rintro w5 ⟨⟨w5, b5⟩, rfl⟩
          try dsimp only
          go_wp2
          go_roundw
          case rel => exact ⟨t + 1, by omega, by omega, by go_num, by rw [HSU.out], Br.after b5 Br.size⟩
          case measure => simp [intOf]; omega
      · have hlt2 : ¬ (t : Int) < (l.length : Int) := by omega
        have htl : t = l.length := by omega
        subst htl
        have ck2 := cells_below HC.out hb Bw (Nat.le_refl _) _ hbl
        have ik2 := fun W => HIX.out W _ hbl
        obtain ⟨q, hq⟩ : ∃ q, q = mxTo l l.length := ⟨_, rfl⟩
        simp only [← hq] at ck2 ik2 hbl
        rw [← getD_at l _ hbl] at ck2
        rw [← hq]
        obtain ⟨y, hy⟩ : ∃ y, y = l.getD q 0 := ⟨_, rfl⟩
        rw [← hy] at ck2
        have HY := Lib.hid hy
        have HQ := Lib.hid hq
        clear hy hq
        go_wp2
        go_ret3
        exact ⟨by rw [HX.out.1.1, HX.out.1.2, HX.out.2, ← HQ.out, ← HY.out]; rfl, Bw⟩
set_option maxHeartbeats 2000000 in
set_option maxRecDepth 100000 in
theorem dgS_c (w : World) (n : Int) (v : Value) (l : List Int) (hv : Ints w v l) :
    Calls Tryz.prog 19 #[.agg #[.int .i64 n, v]] w fun e w' => e = .returned (.tuple #[.int .i64 (dgS n l), .bool (isFunB n l)]) ∧ Below w.heap.size w w' := by
  have hv0 := hv
  obtain ⟨a, b, off, c, rfl, hlen, hix, hc, hb⟩ := hv.view Tryz.prog 22 3 Tryz.underlying22 intElem
  have HC := Lib.hid hc
  have HIX := Lib.hid hix
  clear hc hix
  go_enter Tryz.func19, Tryz.ntmps19
  go_wp2_with fail
  refine calls_named ?_
  intro V hV
  have B : Below w.heap.size w V := by rw [hV]; exact bl1 _ _
  have K : Blk V w.heap.size 27 #[.int .i64 n, .slice a l.length c] := by rw [hV]; exact Blk.new _ _ _
  clear hV
  refine (isFunS_any n l _ V (hv.below B (Nat.le_refl _))).mono ?_
  rintro e w1 ⟨rfl, b1⟩
  have K := K.keep b1
  have B := B.after b1 B.size
  have G := K.cell
  have z := K.lt
  cases hf : isFunB n l with
  | false =>
    have hx : dgS n l = 0 := by unfold dgS; rw [hf]; rfl
    have HX := Lib.hid (And.intro hx hf)
    clear hx hf
    go_wp2
    go_ret2
    exact ⟨by rw [HX.out.1, HX.out.2]; rfl, B⟩
  | true =>
    obtain ⟨N, rfl, h5, hl2, hl32, hlb⟩ := fun_nat hf
    have hx : dgS N l = (dgTo l N N : Int) := by unfold dgS; rw [hf, if_pos rfl, Int.toNat_natCast]
    have hal := l2Full_any N w1 (by omega)
    rw [show ((2 : Int) ^ N - 1) = ((dgB N 0 0 : Nat) : Int) by
      rw [dgB_zero]
      have : ((2 ^ N : Nat) : Int) = (2 : Int) ^ N := by simp
      have := Nat.two_pow_pos N
      omega] at hal
    have HAL := Lib.hid hal
    have HX := Lib.hid (And.intro hx hf)
    have HL2 := Lib.hid hl2
    have HLB := Lib.hid hlb
    clear hx hf hal hl2 hlb
    go_wp2_with fail
    refine HAL.out.mono ?_
    rintro e w2 ⟨rfl, rfl⟩
    go_wp2_with fail
    go_loopw [4, 5, 6] (fun av bv i wr => ∃ e : Nat, e ≤ N ∧ i = .int .i64 e ∧ av = .int .i64 (dgTo l N e : Int) ∧ bv = .int .i64 (dgB N (dgTo l N e) e : Int) ∧ Below w1.heap.size w1 wr) (fun _ _ i _ => N - (intOf i).toNat)
    case atStart => exact ⟨0, Nat.zero_le _, rfl, rfl, rfl, Below.refl _ _⟩
    case round =>
      obtain ⟨e, he, rfl, rfl, rfl, Br⟩ := hrel
      obtain ⟨wo, rfl⟩ : ∃ z : World, z = wr := ⟨_, rfl⟩
      have Kw := K.keep Br
      clear G z
      have G := Kw.cell
      have z := Kw.lt
      by_cases hlt : e < N
      · have hlt2 : (e : Int) < (N : Int) := by omega
        have Bw := B.after Br B.size
        have hxl := dgTo_lt l N h5 e he
        have hpe : (2 : Nat) ^ e ≤ 32 := Nat.pow_le_pow_right (n := 2) (j := 5) (by decide) (by omega)
        have hpN : (2 : Nat) ^ N ≤ 32 := Nat.pow_le_pow_right (n := 2) (j := 5) (by decide) (by omega)
        have hsucc := dgTo_succ l N e
        obtain ⟨x, hx⟩ : ∃ x, x = dgTo l N e := ⟨_, rfl⟩
        rw [← hx] at hxl hsucc ⊢
        obtain ⟨⟨f1, f2⟩, ⟨f3, f4⟩, ⟨f5, f6⟩, f7, f8⟩ := dg_facts N (by omega) e hlt x (by omega) hxl
        have hor := setBit_is x e (by omega) (by omega)
        have hor2 := f1
        rw [f2] at hsucc
        rw [f1] at hor hsucc
        have hgl : gainL l x e = l.getD (x + 2 ^ e) 0 - l.getD x 0 := by unfold gainL; rw [f1]
        have hb3 := bd_at HLB.out (x + 2 ^ e)
        have hb4 := bd_at HLB.out x
        have hin3 : x + 2 ^ e < l.length := by have := HL2.out; omega
        have hin4 : x < l.length := by have := HL2.out; omega
        have ck3 := cells_below HC.out hb Bw (Nat.le_refl _) _ hin3
        have ck4 := cells_below HC.out hb Bw (Nat.le_refl _) _ hin4
        have ik3 := fun W => HIX.out W _ hin3
        have ik4 := fun W => HIX.out W _ hin4
        rw [← getD_at l _ hin3] at ck3
        rw [← getD_at l _ hin4] at ck4
        have hb1 := bd_at HLB.out (dgB N x (e + 1))
        have hb2 := bd_at HLB.out (dgB N x e)
        have hin1 : dgB N x (e + 1) < l.length := by have := HL2.out; omega
        have hin2 : dgB N x e < l.length := by have := HL2.out; omega
        have ck1 := cells_below HC.out hb Bw (Nat.le_refl _) _ hin1
        have ck2 := cells_below HC.out hb Bw (Nat.le_refl _) _ hin2
        have ik1 := (fun (W : World) => HIX.out W _ hin1)
        have ik2 := fun W => HIX.out W _ hin2
        rw [← getD_at l _ hin1] at ck1
        rw [← getD_at l _ hin2] at ck2
        have H3 := Lib.hid f3
        obtain ⟨y, hy⟩ : ∃ y, y = dgB N x e := ⟨_, rfl⟩
        obtain ⟨z', hz'⟩ : ∃ z', z' = dgB N x (e + 1) := ⟨_, rfl⟩
        obtain ⟨x', hx'⟩ : ∃ x', x' = x + 2 ^ e := ⟨_, rfl⟩
        simp only [← hy, ← hz'] at f5 f6 hb1 hb2 ck1 ck2 ik1 ik2 hsucc
        rw [← hx'] at hor hsucc hgl hb3 ck3
        simp only [← hx'] at ik3
        rw [← hy]
        have HY := Lib.hid hy
        have HZ := Lib.hid hz'
        have HX' := Lib.hid hx'
        obtain ⟨p, hp⟩ : ∃ p, p = l.getD z' 0 := ⟨_, rfl⟩
        obtain ⟨q, hq⟩ : ∃ q, q = l.getD y 0 := ⟨_, rfl⟩
        obtain ⟨r, hr⟩ : ∃ r, r = l.getD x' 0 := ⟨_, rfl⟩
        obtain ⟨s, hs⟩ : ∃ s, s = l.getD x 0 := ⟨_, rfl⟩
        rw [← hr, ← hs] at hgl
        rw [hgl] at hsucc
        rw [← hr] at hb3 ck3
        rw [← hs] at hb4 ck4
        rw [← hp] at hb1 ck1 hsucc
        rw [← hq] at hb2 ck2 hsucc
        have hwr : IntKind.i64.wrap (p - q) = p - q := by rw [IntKind.wrap_i64]; omega
        have hwr2 : IntKind.i64.wrap (r - s) = r - s := by rw [IntKind.wrap_i64]; omega
        have hsb : (y : Int) - 2 ^ e = (z' : Int) := by
          have : ((2 ^ e : Nat) : Int) = (2 : Int) ^ e := by simp
          omega
        have hwr3 : IntKind.i64.wrap ((y : Int) - 2 ^ e) = (y : Int) - 2 ^ e := by rw [hsb, IntKind.wrap_i64]; omega
        simp only [← hsb] at ik1
        have HSB := Lib.hid hsb
        clear hsb
        have hp64 := two_pow e 6 (by omega)
        have hp1 : (2 : Int) ^ e ≤ 64 := by simpa using hp64.1
        have hp2 := hp64.2
        have he0 : (0 : Int) ≤ (e : Int) := Int.natCast_nonneg _
        have e0 : ∀ y : Ext wo, y.w.cell? ⟨w.heap.size, 0, none⟩ = some (.int .i64 (N : Int)) := fun y => y.cell (Kw.cell 0)
        have e1 : ∀ y : Ext wo, y.w.cell? ⟨w.heap.size, 1, none⟩ = some (.slice a l.length c) := fun y => y.cell (Kw.cell 1)
        have e2 : ∀ y : Ext wo, y.w.cell? ⟨b, off + z', none⟩ = some (.int .i64 p) := fun y => y.cell ck1
        have e3 : ∀ z : Ext wo, z.w.cell? ⟨b, off + y, none⟩ = some (.int .i64 q) := fun z => z.cell ck2
        have e4 : ∀ z : Ext wo, z.w.cell? ⟨b, off + x', none⟩ = some (.int .i64 r) := fun z => z.cell ck3
        have e5 : ∀ z : Ext wo, z.w.cell? ⟨b, off + x, none⟩ = some (.int .i64 s) := fun z => z.cell ck4
        clear hx f1 f2 f3 f4 f5 f6 f7 f8 hxl hpe hpN hy hz' hx' hp hq hr hs hgl hor2 hin1 hin2 hin3 hin4 hp64 ck1 ck2 ck3 ck4 hb1 hb2 hb3 hb4
        by_cases hge : p - q ≤ r - s
        · rw [if_pos hge] at hsucc
          have HSU := Lib.hid hsucc
          clear hsucc
          go_wp2_with fail
          refine wp_region_ext _ (by kernel_rfl) (by kernel_rfl) ?_
          repeat (first | go_big_quiet_skip | (go_big_quiet_want; go_big_quiet_op; first | go_big_quiet_on | (apply Exists.intro; refine ⟨fun _ => ?_, ?_⟩; (fail); go_big_quiet_on)))
          refine wpQuiet_nil ?_
          rintro w5 ⟨⟨w5, b5⟩, rfl⟩
          try dsimp only
          have e0 : ∀ y : Ext w5, y.w.cell? ⟨w.heap.size, 0, none⟩ = some (.int .i64 (N : Int)) := fun y => e0 ⟨y.w, b5.after y.b b5.size⟩
          have e1 : ∀ y : Ext w5, y.w.cell? ⟨w.heap.size, 1, none⟩ = some (.slice a l.length c) := fun y => e1 ⟨y.w, b5.after y.b b5.size⟩
          have e2 : ∀ y : Ext w5, y.w.cell? ⟨b, off + z', none⟩ = some (.int .i64 p) := fun y => e2 ⟨y.w, b5.after y.b b5.size⟩
          have e3 : ∀ z : Ext w5, z.w.cell? ⟨b, off + y, none⟩ = some (.int .i64 q) := fun y => e3 ⟨y.w, b5.after y.b b5.size⟩
          go_wp2_with fail
          refine wp_region_ext _ (by kernel_rfl) (by kernel_rfl) ?_
          repeat (first | go_big_quiet_skip | (go_big_quiet_want; go_big_quiet_op; first | go_big_quiet_on | (apply Exists.intro; refine ⟨fun _ => ?_, ?_⟩; (fail); go_big_quiet_on)))
          refine wpQuiet_nil ?_
          rintro w6 ⟨⟨w6, b6x⟩, rfl⟩
          try dsimp only
          have b6 := b5.after b6x b5.size
          go_wp2
          go_roundw
          case rel => exact ⟨e + 1, by omega, by go_num, by rw [HSU.out], by rw [HSU.out, HX'.out, H3.out, HY.out], Br.after b6 Br.size⟩
          case measure => simp [intOf]; omega
        · rw [if_neg hge] at hsucc
          have HSU := Lib.hid hsucc
          clear hsucc
          go_wp2_with fail
          refine wp_region_ext _ (by kernel_rfl) (by kernel_rfl) ?_
          repeat (first | go_big_quiet_skip | (go_big_quiet_want; go_big_quiet_op; first | go_big_quiet_on | (apply Exists.intro; refine ⟨fun _ => ?_, ?_⟩; (fail); go_big_quiet_on)))
          refine wpQuiet_nil ?_
          rintro w5 ⟨⟨w5, b5⟩, rfl⟩
          try dsimp only
          have e0 : ∀ y : Ext w5, y.w.cell? ⟨w.heap.size, 0, none⟩ = some (.int .i64 (N : Int)) := fun y => e0 ⟨y.w, b5.after y.b b5.size⟩
          have e1 : ∀ y : Ext w5, y.w.cell? ⟨w.heap.size, 1, none⟩ = some (.slice a l.length c) := fun y => e1 ⟨y.w, b5.after y.b b5.size⟩
          have e2 : ∀ y : Ext w5, y.w.cell? ⟨b, off + z', none⟩ = some (.int .i64 p) := fun y => e2 ⟨y.w, b5.after y.b b5.size⟩
          have e3 : ∀ z : Ext w5, z.w.cell? ⟨b, off + y, none⟩ = some (.int .i64 q) := fun y => e3 ⟨y.w, b5.after y.b b5.size⟩
          go_wp2_with fail
          refine wp_region_ext _ (by kernel_rfl) (by kernel_rfl) ?_
          repeat (first | go_big_quiet_skip | (go_big_quiet_want; go_big_quiet_op; first | go_big_quiet_on | (apply Exists.intro; refine ⟨fun _ => ?_, ?_⟩; (fail); go_big_quiet_on)))
          refine wpQuiet_nil ?_
          rintro w6 ⟨⟨w6, b6x⟩, rfl⟩
          try dsimp only
          have b6 := b5.after b6x b5.size
          go_wp2
          go_roundw
          case rel => exact ⟨e + 1, by omega, by go_num, by rw [HSU.out], by rw [HSU.out, ← HZ.out, HSB.out], Br.after b6 Br.size⟩
          case measure => simp [intOf]; omega
      · have hlt2 : ¬ (e : Int) < (N : Int) := by omega
        have hE : e = N := by omega
        subst hE
        go_wp2
        go_ret2
        exact ⟨by rw [HX.out.1, HX.out.2]; rfl, B.after Br B.size⟩
end Go.Proofs.YtelmokapdkepbaaGreatDoor
end
