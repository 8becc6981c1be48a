/- What bounds common independent sets: both programs. Largest unions: the first program. -/
import Derived.Test.YtpaoiiiceekkkaaGreatDoorQ34
section
namespace Go.Proofs.YtpaoiiiceekkkaaGreatDoor
open Go.RowKit Go.G5

set_option maxHeartbeats 2000000 in
set_option maxRecDepth 100000 in
theorem commonBoundI_c (w : World) (n : Int) (v : Value) (l : List Int) (hv : Ints w v l) (hl : l.length ≤ 1048576) (m : Int) (u : Value) (k : List Int) (hu : Ints w u k) (hk : k.length ≤ 1048576) :
    Calls Tryz.prog 54 #[.agg #[.int .i64 n, v], .agg #[.int .i64 m, u]] w fun e w' => e = .returned (.tuple #[.int .i64 (cbN n l m k), .int .i64 (cbS n l m k), .bool (comB n l m k)]) ∧ Below w.heap.size w w' := by
  obtain ⟨a, c, rfl⟩ := hv.shape
  obtain ⟨b, d, rfl⟩ := hu.shape
  go_enter Tryz.func54, Tryz.ntmps54
  go_wp2_with fail
  refine calls_named ?_
  intro V hV
  have B : Below w.heap.size w V := by rw [hV]; exact bl2 _ _ _
  have K1 : Blk V w.heap.size 27 #[.int .i64 n, .slice a l.length c] := by rw [hV]; exact (Blk.new _ _ _).alloc _
  have K2 : Blk V (w.heap.size + 1) 27 #[.int .i64 m, .slice b k.length d] := by rw [hV]; have := Blk.new (w.alloc (.cells #[.int .i64 n, .slice a l.length c] 27)) 27 #[.int .i64 m, .slice b k.length d]; simpa using this
  clear hV
  refine (areMatI_any V n _ l (hv.below B (Nat.le_refl _)) hl m _ k (hu.below B (Nat.le_refl _)) hk).mono ?_
  rintro e w1 ⟨rfl, b1⟩
  have K1 := K1.keep b1
  have K2 := K2.keep b1
  have B := B.after b1 B.size
  have hv1 := hv.below B (Nat.le_refl _)
  have hu1 := hu.below B (Nat.le_refl _)
  have z2 := K2.lt
  cases hf : comB n l m k with
  | false =>
    have hx : cbN n l m k = 0 := by unfold cbN; rw [hf]; rfl
    have hy : cbS n l m k = 0 := by unfold cbS; rw [hf]; rfl
    have HX := Lib.hid (And.intro hx hy)
    have HF := Lib.hid hf
    clear hx hy hf
    go_wp2
    go_ret3
    exact ⟨by rw [HX.out.1, HX.out.2, HF.out]; rfl, B⟩
  | true =>
    obtain ⟨rfl, N, rfl, hN5, hl2, hl32, hkl, hlb, hkb⟩ := com_fun hf
    have hx : cbN N l N k = sumT l k (spTo l k (2 ^ N)) := by unfold cbN; rw [hf, if_pos rfl, hl2]
    have hy : cbS N l N k = (spTo l k (2 ^ N) : Int) := by unfold cbS; rw [hf, if_pos rfl, hl2]
    have HX := Lib.hid (And.intro hx hy)
    have HF := Lib.hid hf
    have hal : ∀ x : Ext w1, Calls Tryz.prog 119 #[.agg #[.int .i64 (N : Int), .slice a l.length c]] x.w fun e w' => e = .returned (.int .i64 (2 ^ N - 1)) ∧ Below x.w.heap.size x.w w' := fun x => by
      have := allOf_any (N : Int) (.slice a l.length c) l x.w (x.ints hv1) (by omega) (by omega)
      rw [Int.toNat_natCast] at this
      exact this
    have HAL := Lib.hid hal
    have HSP := Lib.hid (fun x : Ext w1 => leastSplit_any x.w N hN5 (N : Int) (N : Int) (.slice a l.length c) (.slice b k.length d) l k (x.ints hv1) (x.ints hu1) hl2 hkl hlb hkb)
    have e0 : ∀ y : Ext w1, y.w.cell? ⟨w.heap.size, 0, none⟩ = some (.int .i64 N) := fun y => y.cell (K1.cell 0)
    have e1 : ∀ y : Ext w1, y.w.cell? ⟨w.heap.size, 1, none⟩ = some (.slice a l.length c) := fun y => y.cell (K1.cell 1)
    have e2 : ∀ y : Ext w1, y.w.cell? ⟨w.heap.size + 1, 0, none⟩ = some (.int .i64 N) := fun y => y.cell (K2.cell 0)
    have e3 : ∀ y : Ext w1, y.w.cell? ⟨w.heap.size + 1, 1, none⟩ = some (.slice b k.length d) := fun y => y.cell (K2.cell 1)
    clear hx hy hf hl2 hkl hlb hkb hal
    go_wp2_with fail
    refine wp_region_ext _ (by kernel_rfl) (by kernel_rfl) ?_
    repeat (first | go_big_quiet_skip | (go_big_quiet_want; go_big_quiet_op; first | go_big_quiet_on | (apply Exists.intro; refine ⟨fun _ => ?_, ?_⟩; (first | (go_at_call 119; exact ext_call (HAL.out _)) | (go_at_call 160; exact ext_call (HSP.out _))); go_big_quiet_on)))
    refine wpQuiet_nil ?_
    rintro w3 ⟨⟨w3, hb3⟩, rfl⟩
    try dsimp only
    go_wp2
    go_ret3
    exact ⟨by rw [HX.out.1, HX.out.2, HF.out]; rfl, B.after hb3 B.size⟩
set_option maxHeartbeats 2000000 in
set_option maxRecDepth 100000 in
theorem commonBoundS_c (w : World) (n : Int) (v : Value) (l : List Int) (hv : Ints w v l) (hl : l.length ≤ 1048576) (m : Int) (u : Value) (k : List Int) (hu : Ints w u k) (hk : k.length ≤ 1048576) :
    Calls Tryz.prog 46 #[.agg #[.int .i64 n, v], .agg #[.int .i64 m, u]] w fun e w' => e = .returned (.tuple #[.int .i64 (cbN n l m k), .int .i64 (cbS n l m k), .bool (comB n l m k)]) ∧ Below w.heap.size w w' := by
  obtain ⟨a, c, rfl⟩ := hv.shape
  obtain ⟨b, d, rfl⟩ := hu.shape
  go_enter Tryz.func46, Tryz.ntmps46
  go_wp2_with fail
  refine calls_named ?_
  intro V hV
  have B : Below w.heap.size w V := by rw [hV]; exact bl2 _ _ _
  have K1 : Blk V w.heap.size 27 #[.int .i64 n, .slice a l.length c] := by rw [hV]; exact (Blk.new _ _ _).alloc _
  have K2 : Blk V (w.heap.size + 1) 27 #[.int .i64 m, .slice b k.length d] := by rw [hV]; have := Blk.new (w.alloc (.cells #[.int .i64 n, .slice a l.length c] 27)) 27 #[.int .i64 m, .slice b k.length d]; simpa using this
  clear hV
  refine (areMatS_any V n _ l (hv.below B (Nat.le_refl _)) hl m _ k (hu.below B (Nat.le_refl _)) hk).mono ?_
  rintro e w1 ⟨rfl, b1⟩
  have K1 := K1.keep b1
  have K2 := K2.keep b1
  have B := B.after b1 B.size
  have hv1 := hv.below B (Nat.le_refl _)
  have hu1 := hu.below B (Nat.le_refl _)
  have z2 := K2.lt
  obtain ⟨aa, ba, offa, ca, hsa, _, hixa, hca, hba⟩ := hv.view Tryz.prog 22 3 Tryz.underlying22 intElem
  obtain ⟨ab, bb, offb, cb, hsb, _, hixb, hcb, hbb⟩ := hu.view Tryz.prog 22 3 Tryz.underlying22 intElem
  simp only [Value.slice.injEq] at hsa hsb
  obtain ⟨rfl, _, rfl⟩ := hsa
  obtain ⟨rfl, _, rfl⟩ := hsb
  cases hf : comB n l m k with
  | false =>
    clear hixa hca hixb hcb
    have hx : cbN n l m k = 0 := by unfold cbN; rw [hf]; rfl
    have hy : cbS n l m k = 0 := by unfold cbS; rw [hf]; rfl
    have HX := Lib.hid (And.intro hx hy)
    have HF := Lib.hid hf
    clear hx hy hf
    go_wp2
    go_ret3
    exact ⟨by rw [HX.out.1, HX.out.2, HF.out]; rfl, B⟩
  | true =>
    obtain ⟨rfl, N, rfl, hN5, hl2, hl32, hkl, hlb, hkb⟩ := com_fun hf
    have hpos := Nat.two_pow_pos N
    have hpl := spTo_lt l k (2 ^ N) hpos
    have hx : cbN N l N k = sumT l k (spTo l k (2 ^ N)) := by unfold cbN; rw [hf, if_pos rfl, hl2]
    have hy : cbS N l N k = (spTo l k (2 ^ N) : Int) := by unfold cbS; rw [hf, if_pos rfl, hl2]
    have hcast : ((2 ^ N - 1 : Nat) : Int) = (2 : Int) ^ N - 1 := by rw [Int.ofNat_sub hpos]; simp
    obtain ⟨p, hp⟩ : ∃ p, p = spTo l k (2 ^ N) := ⟨_, rfl⟩
    rw [← hp] at hx hy hpl
    have hst := sumT_at l k hkl p (by omega)
    have cp := cells_below hca hba B (Nat.le_refl _) p (by omega)
    have ip := fun W => hixa W p (by omega)
    have dp := cells_below hcb hbb B (Nat.le_refl _) (l.length - 1 - p) (by omega)
    have jp := fun W => hixb W (l.length - 1 - p) (by omega)
    have lbp := hlb p (by omega)
    have kbp := hkb (l.length - 1 - p) (by omega)
    obtain ⟨x, hxe⟩ : ∃ x, x = l[p]'(by omega) := ⟨_, rfl⟩
    obtain ⟨y, hye⟩ : ∃ y, y = k[l.length - 1 - p]'(by omega) := ⟨_, rfl⟩
    rw [← hxe] at cp lbp hst
    rw [← hye] at dp kbp hst
    have hsub : ((2 : Int) ^ N - 1) - (p : Int) = ((l.length - 1 - p : Nat) : Int) := by rw [← hcast]; omega
    obtain ⟨r, hr⟩ : ∃ r, r = l.length - 1 - p := ⟨_, rfl⟩
    simp only [← hr] at dp jp hsub
    have HX := Lib.hid (And.intro hx (And.intro hy hst))
    have HF := Lib.hid hf
    have HFU := Lib.hid (fun W => l2Full_any N W (by omega))
    have hsp := fun (W : World) (h1 : Ints W (.slice a l.length c) l) (h2 : Ints W (.slice b k.length d) k) => l6Split_any W N hN5 (N : Int) (N : Int) (.slice a l.length c) (.slice b k.length d) l k h1 h2 hl2 hkl hlb hkb
    rw [← hp] at hsp
    have HSP := Lib.hid hsp
    have p5 := two_pow N 5 hN5
    clear hx hy hf hl2 hkl hlb hkb hst hxe hye hr hp hcast hixa hca hixb hcb hsp
    have G1 := K1.cell
    go_wp2_with fail
    refine (HFU.out _).mono ?_
    rintro e w2 ⟨rfl, rfl⟩
    have G2 := K2.cell
    go_wp2_with fail
    clear G1 G2
    refine (HSP.out _ hv1 hu1).mono ?_
    rintro e w3 ⟨rfl, b3⟩
    have K1 := K1.keep b3
    have K2 := K2.keep b3
    have B3 := B.after b3 B.size
    have cp := keep b3 cp
    have dp := keep b3 dp
    have G1 := K1.cell
    have G2 := K2.cell
    go_wp2_with fail
    go_quiet (fail)
    go_wp2
    go_ret3
    exact ⟨by rw [HX.out.1, HX.out.2.1, HX.out.2.2, HF.out]; rfl, B3.drewN' _⟩
end Go.Proofs.YtpaoiiiceekkkaaGreatDoor
end
section
namespace Go.Proofs.YtpaoiiiceekkkaaGreatDoor
open Go.RowKit Go.G5

set_option maxHeartbeats 1000000 in
set_option maxRecDepth 100000 in
theorem leastLargestP_any (w : World) (n : Nat) (hn : n ≤ 5) (c : FuncId) (he : ∀ args w, (callFunc c args).run Tryz.prog w = .ok (.enter c args) w) (g1 g2 : Nat) (P : Nat → Bool)
    (hw : ∀ (s : Nat) W', s < 2 ^ n → Below w.heap.size w W' → Calls Tryz.prog c #[.int .i64 (s : Int), .pointer (some ⟨g1, 0, none⟩), .pointer (some ⟨g2, 0, none⟩)] W' fun e w2 => e = .returned (.bool (P s)) ∧ Below W'.heap.size W' w2) :
    Calls Tryz.prog 157 #[.int .i64 (n : Int), .func (.func c) #[] #[.pointer (some ⟨g1, 0, none⟩), .pointer (some ⟨g2, 0, none⟩)]] w fun e w' => e = .returned (.int .i64 (luTo P (2 ^ n) : Int)) ∧ Below w.heap.size w w' := by
  have hpn : (2 : Nat) ^ n ≤ 32 := Nat.pow_le_pow_right (n := 2) (by decide) hn
  have hpi : ((2 ^ n : Nat) : Int) = (2 : Int) ^ n := by simp
  obtain ⟨N, hN⟩ : ∃ N : Nat, N = 2 ^ n := ⟨_, rfl⟩
  rw [← hN] at hw hpn hpi ⊢
  have HW := Lib.hid hw
  clear hN hw
  go_enter Tryz.func157, Tryz.ntmps157
  go_wp2_with fail
  go_loopw [5, 10] (fun bst i wr => ∃ t : Nat, t ≤ N ∧ i = .int .i64 t ∧ bst = .int .i64 (luTo P t : Int) ∧ Below w.heap.size w wr) (fun _ i _ => N - (intOf i).toNat)
  case atStart => exact ⟨0, Nat.zero_le _, rfl, rfl, Below.refl _ _⟩
  case round =>
    obtain ⟨t, ht, rfl, rfl, B⟩ := hrel
    have hle := luTo_le P t
    by_cases hlt : t < N
    · have hlt2 : (t : Int) < 2 ^ n := by rw [← hpi]; exact_mod_cast hlt
      have hsucc := luTo_succ P t
      obtain ⟨b, hb⟩ : ∃ b, b = luTo P t := ⟨_, rfl⟩
      rw [← hb] at hle hsucc ⊢
      have HS1 := Lib.hid (fun W => sizeOf_any t W (by omega))
      have HS2 := Lib.hid (fun W => sizeOf_any b W (by omega))
      have hcl := HW.out t wr hlt B
      by_cases hgt : pop b < pop t
      · rw [decide_eq_true hgt, Bool.true_and] at hsucc
        cases hP : P t with
        | true =>
          rw [hP] at hcl hsucc
          have HSU := Lib.hid hsucc
          clear hP hsucc hb
          go_wp2_with (first
            | (go_at_call 188; (first | (with_reducible refine (HS1.out _).mono ?_) | (with_reducible refine (HS2.out _).mono ?_)); rintro e w1 ⟨rfl, rfl⟩)
            | (go_at_fn c; refine hcl.mono ?_; rintro e w2 ⟨rfl, hb2⟩))
          go_roundw
          case rel => exact ⟨t + 1, by omega, by go_num, by rw [HSU.out]; rfl, B.after hb2 B.size⟩
          case measure => simp [intOf]; omega
        | false =>
          rw [hP] at hcl hsucc
          have HSU := Lib.hid hsucc
          clear hP hsucc hb
          go_wp2_with (first
            | (go_at_call 188; (first | (with_reducible refine (HS1.out _).mono ?_) | (with_reducible refine (HS2.out _).mono ?_)); rintro e w1 ⟨rfl, rfl⟩)
            | (go_at_fn c; refine hcl.mono ?_; rintro e w2 ⟨rfl, hb2⟩))
          go_roundw
          case rel => exact ⟨t + 1, by omega, by go_num, by rw [HSU.out]; rfl, B.after hb2 B.size⟩
          case measure => simp [intOf]; omega
      · rw [decide_eq_false hgt, Bool.false_and] at hsucc
        have HSU := Lib.hid hsucc
        clear hsucc hb hcl
        go_wp2_with (go_at_call 188; (first | (with_reducible refine (HS1.out _).mono ?_) | (with_reducible refine (HS2.out _).mono ?_)); rintro e w1 ⟨rfl, rfl⟩)
        go_roundw
        case rel => exact ⟨t + 1, by omega, by go_num, by rw [HSU.out]; rfl, B⟩
        case measure => simp [intOf]; omega
    · have hlt2 : ¬ (t : Int) < 2 ^ n := by rw [← hpi]; exact_mod_cast hlt
      have htN : t = N := by omega
      subst htN
      go_wp2
      go_ret
      exact ⟨rfl, B⟩

set_option maxHeartbeats 2000000 in
set_option maxRecDepth 100000 in
theorem parts_any (w : World) (n m : Int) (v u : Value) (l k : List Int) (hv : Ints w v l) (hu : Ints w u k) (hkl : k.length = l.length) (hl32 : l.length ≤ 32) (s : Nat) (hs : s < l.length) :
    Calls Tryz.prog 162 #[.agg #[.int .i64 n, v], .agg #[.int .i64 m, u], .int .i64 (s : Int)] w fun e w' => ∃ t : Int, e = .returned (.tuple #[.int .i64 t, .bool (uniB l k s)]) ∧ Below w.heap.size w w' := by
  have hv0 := hv
  have hu0 := hu
  obtain ⟨a, c, rfl⟩ := hv.shape
  obtain ⟨b, d, rfl⟩ := hu.shape
  have hfl := fun (W : World) (h : Ints W (.slice a l.length c) l) (t : Nat) (ht : t < l.length) => isFree_any W n _ l h t ht (by omega)
  have hfk := fun (W : World) (h : Ints W (.slice b k.length d) k) (t : Nat) (ht : t < k.length) => isFree_any W m _ k h t ht (by omega)
  have HFL := Lib.hid hfl
  have HFK := Lib.hid hfk
  have HKL := Lib.hid hkl
  clear hfl hfk hkl
  have K1 := (Blk.new w 27 #[.int .i64 n, .slice a l.length c]).alloc (.cells #[.int .i64 m, .slice b k.length d] 27)
  have K2 : Blk ((w.alloc (.cells #[.int .i64 n, .slice a l.length c] 27)).alloc (.cells #[.int .i64 m, .slice b k.length d] 27)) (w.heap.size + 1) 27 #[.int .i64 m, .slice b k.length d] := by
    have := Blk.new (w.alloc (.cells #[.int .i64 n, .slice a l.length c] 27)) 27 #[.int .i64 m, .slice b k.length d]
    simpa using this
  have B0 : Below w.heap.size w ((w.alloc (.cells #[.int .i64 n, .slice a l.length c] 27)).alloc (.cells #[.int .i64 m, .slice b k.length d] 27)) := bl2 _ _ _
  have wS : IntKind.i64.wrap ((s : Int) + 1) = (s : Int) + 1 := by rw [IntKind.wrap_i64]; omega
  go_enter Tryz.func162, Tryz.ntmps162
  go_wp2_with fail
  go_loopw [11] (fun iv wr => ∃ t : Nat, t ≤ s + 1 ∧ iv = .int .i64 t ∧ noPart l k s t = true ∧ Below w.heap.size w wr ∧ Blk wr w.heap.size 27 #[.int .i64 n, .slice a l.length c] ∧ Blk wr (w.heap.size + 1) 27 #[.int .i64 m, .slice b k.length d]) (fun iv _ => s + 1 - (intOf iv).toNat)
  case atStart => exact ⟨0, Nat.zero_le _, rfl, rfl, B0, K1, K2⟩
  case round =>
    obtain ⟨t, ht, rfl, hno, B, K1', K2'⟩ := hrel
    obtain ⟨wo, rfl⟩ : ∃ z : World, z = wr := ⟨_, rfl⟩
    have HNO := Lib.hid hno
    clear hno K1 K2 B0
    have G1 := K1'.cell
    have G2 := K2'.cell
    have z1 := K1'.lt
    have z2 := K2'.lt
    by_cases hlt : t < s + 1
    · have hlt2 : (t : Int) < (s : Int) + 1 := by omega
      have hst := noPart_succ l k s t
      rw [HNO.out, Bool.true_and] at hst
      have hpd : partP l k s t = ((ndiff t s == 0) && (freeB l t && freeB k (ndiff s t))) := rfl
      have hb1 := bitsN t s (by omega) (by omega)
      have hb2 := bitsN s t (by omega) (by omega)
      have hd1 := ndiff_lt s t l.length hs
      have c1 := HFL.out wo (hv0.below B (Nat.le_refl _)) t (by omega)
      have c2 := fun (W : World) (h : Ints W (.slice b k.length d) k) => HFK.out W h (ndiff s t) (by rw [HKL.out]; exact hd1)
      have huni : partP l k s t = true → uniB l k s = true := fun h => uni_hit (by omega) h
      obtain ⟨x, hx⟩ : ∃ x : Nat, x = ndiff t s := ⟨_, rfl⟩
      obtain ⟨y, hy⟩ : ∃ y : Nat, y = ndiff s t := ⟨_, rfl⟩
      obtain ⟨p, hp⟩ : ∃ p, p = freeB l t := ⟨_, rfl⟩
      obtain ⟨q, hq⟩ : ∃ q, q = freeB k (ndiff s t) := ⟨_, rfl⟩
      rw [← hx, ← hp, ← hq] at hpd
      rw [← hx] at hb1
      simp only [← hq] at c2
      simp only [← hy] at hb2 c2
      rw [← hp] at c1
      have C1 := Lib.hid c1
      have C2 := Lib.hid c2
      have HST := Lib.hid hst
      have HUN := Lib.hid huni
      clear hst c1 c2 hx hy hp hq hd1 huni
      by_cases hz : x = 0
      · have hzb : ((x : Int) == 0) = true := by simp [hz]
        have hzn : (x == 0) = true := by simp [hz]
        rw [hzn, Bool.true_and] at hpd
        cases p with
        | false =>
          have HP := Lib.hid hpd
          clear hpd hz hzn
          go_wp2_with fail
          refine C1.out.mono ?_
          rintro e w3 ⟨rfl, b3⟩
          go_wp2
          go_roundw
          case rel => exact ⟨t + 1, by omega, by go_num, by rw [HST.out, HP.out]; rfl, B.after b3 B.size, K1'.keep b3, K2'.keep b3⟩
          case measure => simp [intOf]; omega
        | true =>
          rw [Bool.true_and] at hpd
          go_wp2_with fail
          refine C1.out.mono ?_
          rintro e w3 ⟨rfl, b3⟩
          have B3 := B.after b3 B.size
          have K3 := K1'.keep b3
          have K4 := K2'.keep b3
          clear G1 G2
          have G2 := K4.cell
          cases q with
          | false =>
            have HP := Lib.hid hpd
            clear hpd hz hzn
            go_wp2_with fail
            refine (C2.out _ (hu0.below B3 (Nat.le_refl _))).mono ?_
            rintro e w4 ⟨rfl, b4⟩
            go_wp2
            go_roundw
            case rel => exact ⟨t + 1, by omega, by go_num, by rw [HST.out, HP.out]; rfl, B3.after b4 B3.size, K3.keep b4, K4.keep b4⟩
            case measure => simp [intOf]; omega
          | true =>
            have hr := HUN.out hpd
            have HR := Lib.hid hr
            clear hpd hz hzn hr
            go_wp2_with fail
            refine (C2.out _ (hu0.below B3 (Nat.le_refl _))).mono ?_
            rintro e w4 ⟨rfl, b4⟩
            go_wp2
            go_ret2
            exact ⟨t, by rw [HR.out]; rfl, B3.after b4 B3.size⟩
      · have hzb : ((x : Int) == 0) = false := by rw [beq_eq_false_iff_ne]; omega
        have hzn : (x == 0) = false := by simp [hz]
        rw [hzn, Bool.false_and] at hpd
        have HP := Lib.hid hpd
        clear hpd hz hzn
        go_wp2
        go_roundw
        case rel => exact ⟨t + 1, by omega, by go_num, by rw [HST.out, HP.out]; rfl, B, K1', K2'⟩
        case measure => simp [intOf]; omega
    · have hlt2 : ¬ (t : Int) < (s : Int) + 1 := by omega
      have hr : uniB l k s = false := by unfold uniB; rw [← show t = s + 1 by omega, HNO.out]; rfl
      have HR := Lib.hid hr
      clear hr
      go_wp2
      go_ret2
      first | exact ⟨0, by rw [HR.out]; rfl, B⟩ | exact ⟨⟨0, by rw [HR.out]; rfl⟩, B⟩
set_option maxHeartbeats 1000000 in
set_option maxRecDepth 100000 in
theorem uniClosure (w : World) (g1 g2 : Nat) (n m : Int) (v u : Value) (l k : List Int) (hv : Ints w v l) (hu : Ints w u k) (hlk : k.length = l.length) (hl : l.length ≤ 32) (s : Nat) (hs : s < l.length) (K1 : Blk w g1 27 #[.int .i64 n, v]) (K2 : Blk w g2 27 #[.int .i64 m, u]) :
    Calls Tryz.prog 161 #[.int .i64 s, .pointer (some ⟨g1, 0, none⟩), .pointer (some ⟨g2, 0, none⟩)] w fun e w' => e = .returned (.bool (uniB l k s)) ∧ Below w.heap.size w w' := by
  have HC := Lib.hid (parts_any w n m v u l k hv hu hlk hl s hs)
  obtain ⟨a, c, rfl⟩ := hv.shape
  obtain ⟨b, d, rfl⟩ := hu.shape
  have G1 := K1.cell
  have G2 := K2.cell
  have z1 := K1.lt
  have z2 := K2.lt
  clear hlk
  go_enter Tryz.func161, Tryz.ntmps161
  go_wp2_with fail
  refine HC.out.mono ?_
  rintro e w1 ⟨t, rfl, b1⟩
  go_wp2
  go_ret
  exact ⟨rfl, b1⟩
theorem uniClosure_enters : ∀ args w, (callFunc 161 args).run Tryz.prog w = .ok (.enter 161 args) w := enters_of Tryz.func161 (by kernel_rfl) rfl
set_option maxHeartbeats 1000000 in
set_option maxRecDepth 100000 in
theorem unionI_c (w : World) (n : Int) (v : Value) (l : List Int) (hv : Ints w v l) (hl : l.length ≤ 1048576) (m : Int) (u : Value) (k : List Int) (hu : Ints w u k) (hk : k.length ≤ 1048576) :
    Calls Tryz.prog 55 #[.agg #[.int .i64 n, v], .agg #[.int .i64 m, u]] w fun e w' => e = .returned (.tuple #[.int .i64 (luS n l m k), .bool (comB n l m k)]) ∧ Below w.heap.size w w' := by
  obtain ⟨a, c, rfl⟩ := hv.shape
  obtain ⟨b, d, rfl⟩ := hu.shape
  have hmf : ∀ (fn : Fn) (first cap : Array Value) (w : World), (Instr.makeFunc fn first cap).run Tryz.prog w = .ok (.func fn first cap) w := fun _ _ _ _ => rfl
  go_enter Tryz.func55, Tryz.ntmps55
  go_wp2_with fail
  refine calls_named ?_
  intro V hV
  have B : Below w.heap.size w V := by rw [hV]; exact bl2 _ _ _
  have K1 : Blk V w.heap.size 27 #[.int .i64 n, .slice a l.length c] := by rw [hV]; exact (Blk.new _ _ _).alloc _
  have K2 : Blk V (w.heap.size + 1) 27 #[.int .i64 m, .slice b k.length d] := by rw [hV]; have := Blk.new (w.alloc (.cells #[.int .i64 n, .slice a l.length c] 27)) 27 #[.int .i64 m, .slice b k.length d]; simpa using this
  clear hV
  refine (areMatI_any V n _ l (hv.below B (Nat.le_refl _)) hl m _ k (hu.below B (Nat.le_refl _)) hk).mono ?_
  rintro e w1 ⟨rfl, b1⟩
  have K1 := K1.keep b1
  have K2 := K2.keep b1
  have B := B.after b1 B.size
  have hv1 := hv.below B (Nat.le_refl _)
  have hu1 := hu.below B (Nat.le_refl _)
  have z2 := K2.lt
  have G1 := K1.cell
  cases hf : comB n l m k with
  | false =>
    have hx : luS n l m k = 0 := by unfold luS; rw [hf]; rfl
    have HX := Lib.hid hx
    have HF := Lib.hid hf
    clear hx hf
    go_wp2
    go_ret2
    exact ⟨by rw [HX.out, HF.out]; rfl, B⟩
  | true =>
    obtain ⟨rfl, N, rfl, hN5, hl2, hl32, hkl, _, _⟩ := com_fun hf
    have hx : luS N l N k = (luTo (uniB l k) (2 ^ N) : Int) := by unfold luS; rw [hf, if_pos rfl, hl2]
    have HX := Lib.hid hx
    have HF := Lib.hid hf
    have hcl := leastLargestP_any w1 N hN5 161 uniClosure_enters w.heap.size (w.heap.size + 1) (uniB l k) (fun s W' hs hB =>
      uniClosure W' w.heap.size (w.heap.size + 1) N N _ _ l k (hv1.keep hB) (hu1.keep hB) hkl hl32 s (by omega) (K1.keep hB) (K2.keep hB))
    have HCL := Lib.hid hcl
    clear hx hf hl2 hkl hcl
    go_wp2_with fail
    refine HCL.out.mono ?_
    rintro e w2 ⟨rfl, b2⟩
    go_wp2
    go_ret2
    exact ⟨by rw [HX.out, HF.out]; rfl, B.after b2 B.size⟩
end Go.Proofs.YtpaoiiiceekkkaaGreatDoor
end
