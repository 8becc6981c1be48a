/- Largest common independent sets. -/
import Derived.Test.YtmlpcohailjccaaComF
namespace Go.Proofs.Ytmlpcohailjccaa
open Go.RowKit Go.G5

theorem lcTo_succ (l k : List Int) (t : Nat) : lcTo l k (t + 1) = if decide (pop (lcTo l k t) < pop t) && (freeB l t && freeB k t) then t else lcTo l k t := rfl
theorem lcTo_le (l k : List Int) (t : Nat) : lcTo l k t ≤ t := by
  rcases Nat.eq_zero_or_pos t with rfl | h
  · exact Nat.le_refl _
  · exact Nat.le_of_lt (lcTo_lt l k t h)
set_option maxHeartbeats 1000000 in
set_option maxRecDepth 100000 in
theorem leastLargest_any (w : World) (n : Nat) (hn : n ≤ 5) (c : FuncId) (he : ∀ args w, (callFunc c args).run Try.prog w = .ok (.enter c args) w) (g1 g2 : Nat) (l k : List Int)
    (hw : ∀ (s : Nat) W', s < 2 ^ n → Below w.heap.size w W' → Calls Try.prog c #[.int .i64 (s : Int), .pointer (some ⟨g1, 0, none⟩), .pointer (some ⟨g2, 0, none⟩)] W' fun e w2 => e = .returned (.bool (freeB l s && freeB k s)) ∧ Below W'.heap.size W' w2) :
    Calls Try.prog 121 #[.int .i64 (n : Int), .func (.func c) #[] #[.pointer (some ⟨g1, 0, none⟩), .pointer (some ⟨g2, 0, none⟩)]] w fun e w' => e = .returned (.int .i64 (lcTo l k (2 ^ n) : Int)) ∧ Below w.heap.size w w' := by
  have hpn : (2 : Nat) ^ n ≤ 32 := Nat.pow_le_pow_right (n := 2) (by decide) hn
  have hpi : ((2 ^ n : Nat) : Int) = (2 : Int) ^ n := by simp
  obtain ⟨N, hN⟩ : ∃ N : Nat, N = 2 ^ n := ⟨_, rfl⟩
  rw [← hN] at hw hpn hpi ⊢
  have HW := Lib.hid hw
  clear hN hw
  go_enter Try.func121, Try.ntmps121
  go_wp2_with fail
  go_loopw [5, 10] (fun bst i wr => ∃ t : Nat, t ≤ N ∧ i = .int .i64 t ∧ bst = .int .i64 (lcTo l k t : Int) ∧ Below w.heap.size w wr) (fun _ i _ => N - (intOf i).toNat)
  case atStart => exact ⟨0, Nat.zero_le _, rfl, rfl, Below.refl _ _⟩
  case round =>
    obtain ⟨t, ht, rfl, rfl, B⟩ := hrel
    have hle := lcTo_le l k t
    by_cases hlt : t < N
    · have hlt2 : (t : Int) < 2 ^ n := by rw [← hpi]; exact_mod_cast hlt
      have hsucc := lcTo_succ l k t
      obtain ⟨b, hb⟩ : ∃ b, b = lcTo l k t := ⟨_, rfl⟩
      rw [← hb] at hle hsucc ⊢
      have HS1 := Lib.hid (fun W => sizeOf_any t W (by omega))
      have HS2 := Lib.hid (fun W => sizeOf_any b W (by omega))
      have hcl := HW.out t wr hlt B
      by_cases hgt : pop b < pop t
      · rw [decide_eq_true hgt, Bool.true_and] at hsucc
        cases hP : (freeB l t && freeB k t) with
        | true =>
          rw [hP] at hcl hsucc
          have HSU := Lib.hid hsucc
          clear hP hsucc hb
          go_wp2_with (first
            | (go_at_call 66; (first | (with_reducible refine (HS1.out _).mono ?_) | (with_reducible refine (HS2.out _).mono ?_)); rintro e w1 ⟨rfl, rfl⟩)
            | (go_at_fn c; refine hcl.mono ?_; rintro e w2 ⟨rfl, hb2⟩))
          go_roundw
          case rel => exact ⟨t + 1, by omega, by go_num, by rw [HSU.out]; rfl, B.after hb2 B.size⟩
          case measure => simp [intOf]; omega
        | false =>
          rw [hP] at hcl hsucc
          have HSU := Lib.hid hsucc
          clear hP hsucc hb
          go_wp2_with (first
            | (go_at_call 66; (first | (with_reducible refine (HS1.out _).mono ?_) | (with_reducible refine (HS2.out _).mono ?_)); rintro e w1 ⟨rfl, rfl⟩)
            | (go_at_fn c; refine hcl.mono ?_; rintro e w2 ⟨rfl, hb2⟩))
          go_roundw
          case rel => exact ⟨t + 1, by omega, by go_num, by rw [HSU.out]; rfl, B.after hb2 B.size⟩
          case measure => simp [intOf]; omega
      · rw [decide_eq_false hgt, Bool.false_and] at hsucc
        have HSU := Lib.hid hsucc
        clear hsucc hb hcl
        go_wp2_with (go_at_call 66; (first | (with_reducible refine (HS1.out _).mono ?_) | (with_reducible refine (HS2.out _).mono ?_)); rintro e w1 ⟨rfl, rfl⟩)
        go_roundw
        case rel => exact ⟨t + 1, by omega, by go_num, by rw [HSU.out]; rfl, B⟩
        case measure => simp [intOf]; omega
    · have hlt2 : ¬ (t : Int) < 2 ^ n := by rw [← hpi]; exact_mod_cast hlt
      have htN : t = N := by omega
      subst htN
      go_wp2
      go_ret
      exact ⟨rfl, B⟩
set_option maxHeartbeats 1000000 in
set_option maxRecDepth 100000 in
theorem largestCommonI_c (w : World) (n : Int) (v : Value) (l : List Int) (hv : Ints w v l) (hl : l.length ≤ 1048576) (m : Int) (u : Value) (k : List Int) (hu : Ints w u k) (hk : k.length ≤ 1048576) :
    Calls Try.prog 63 #[.agg #[.int .i64 n, v], .agg #[.int .i64 m, u]] w fun e w' => e = .returned (.tuple #[.int .i64 (lcS n l m k), .bool (comB n l m k)]) ∧ Below w.heap.size w w' := by
  obtain ⟨a, c, rfl⟩ := hv.shape
  obtain ⟨b, d, rfl⟩ := hu.shape
  have hmf : ∀ (fn : Fn) (first cap : Array Value) (w : World), (Instr.makeFunc fn first cap).run Try.prog w = .ok (.func fn first cap) w := fun _ _ _ _ => rfl
  go_enter Try.func63, Try.ntmps63
  go_wp2_with fail
  refine calls_named ?_
  intro V hV
  have B : Below w.heap.size w V := by rw [hV]; exact bl2 _ _ _
  have K1 : Blk V w.heap.size 26 #[.int .i64 n, .slice a l.length c] := by rw [hV]; exact (Blk.new _ _ _).alloc _
  have K2 : Blk V (w.heap.size + 1) 26 #[.int .i64 m, .slice b k.length d] := by rw [hV]; have := Blk.new (w.alloc (.cells #[.int .i64 n, .slice a l.length c] 26)) 26 #[.int .i64 m, .slice b k.length d]; simpa using this
  clear hV
  refine (areMatI_any V n _ l (hv.below B (Nat.le_refl _)) hl m _ k (hu.below B (Nat.le_refl _)) hk).mono ?_
  rintro e w1 ⟨rfl, b1⟩
  have K1 := K1.keep b1
  have K2 := K2.keep b1
  have B := B.after b1 B.size
  have hv1 := hv.below B (Nat.le_refl _)
  have hu1 := hu.below B (Nat.le_refl _)
  have z2 := K2.lt
  have G1 := K1.cell
  cases hf : comB n l m k with
  | false =>
    have hx : lcS n l m k = 0 := by unfold lcS; rw [hf]; rfl
    have HX := Lib.hid hx
    have HF := Lib.hid hf
    clear hx hf
    go_wp2
    go_ret2
    exact ⟨by rw [HX.out, HF.out]; rfl, B⟩
  | true =>
    obtain ⟨rfl, N, rfl, hN5, hl2, hl32, hkl, _, _⟩ := com_fun hf
    have hx : lcS N l N k = (lcTo l k (2 ^ N) : Int) := by unfold lcS; rw [hf, if_pos rfl, hl2]
    have HX := Lib.hid hx
    have HF := Lib.hid hf
    have hcl := leastLargest_any w1 N hN5 122 freeClosure_enters w.heap.size (w.heap.size + 1) l k (fun s W' hs hB =>
      freeClosure W' w.heap.size (w.heap.size + 1) N N _ _ l k (hv1.keep hB) (hu1.keep hB) hkl hl32 s (by omega) (K1.keep hB) (K2.keep hB))
    have HCL := Lib.hid hcl
    clear hx hf hl2 hkl hcl
    go_wp2_with fail
    refine HCL.out.mono ?_
    rintro e w2 ⟨rfl, b2⟩
    go_wp2
    go_ret2
    exact ⟨by rw [HX.out, HF.out]; rfl, B.after b2 B.size⟩
set_option maxHeartbeats 2000000 in
set_option maxRecDepth 100000 in
theorem largestCommonS_c (w : World) (n : Int) (v : Value) (l : List Int) (hv : Ints w v l) (hl : l.length ≤ 1048576) (m : Int) (u : Value) (k : List Int) (hu : Ints w u k) (hk : k.length ≤ 1048576) :
    Calls Try.prog 58 #[.agg #[.int .i64 n, v], .agg #[.int .i64 m, u]] w fun e w' => e = .returned (.tuple #[.int .i64 (lcS n l m k), .bool (comB n l m k)]) ∧ Below w.heap.size w w' := by
  have hv0 := hv
  have hu0 := hu
  obtain ⟨a, bb, off, c, rfl, hlen, hix, hc, hb⟩ := hv.view Try.prog 22 3 Try.underlying22 intElem
  obtain ⟨a', bb', off', c', rfl, hlen', hix', hc', hb'⟩ := hu.view Try.prog 22 3 Try.underlying22 intElem
  go_enter Try.func58, Try.ntmps58
  go_wp2_with fail
  refine calls_named ?_
  intro V hV
  have B : Below w.heap.size w V := by rw [hV]; exact bl2 _ _ _
  have K1 : Blk V w.heap.size 26 #[.int .i64 n, .slice a l.length c] := by rw [hV]; exact (Blk.new _ _ _).alloc _
  have K2 : Blk V (w.heap.size + 1) 26 #[.int .i64 m, .slice a' k.length c'] := by rw [hV]; have := Blk.new (w.alloc (.cells #[.int .i64 n, .slice a l.length c] 26)) 26 #[.int .i64 m, .slice a' k.length c']; simpa using this
  clear hV
  refine (areMatS_any V n _ l (hv0.below B (Nat.le_refl _)) hl m _ k (hu0.below B (Nat.le_refl _)) hk).mono ?_
  rintro e w1 ⟨rfl, b1⟩
  have K1 := K1.keep b1
  have K2 := K2.keep b1
  have B := B.after b1 B.size
  have z2 := K2.lt
  have hc1 := cells_below hc hb B (Nat.le_refl _)
  have hc2 := cells_below hc' hb' B (Nat.le_refl _)
  have G1 := K1.cell
  have G2 := K2.cell
  cases hf : comB n l m k with
  | false =>
    have hx : lcS n l m k = 0 := by unfold lcS; rw [hf]; rfl
    have HX := Lib.hid hx
    have HF := Lib.hid hf
    clear hx hf hc hc' hc1 hc2
    go_wp2
    go_ret2
    exact ⟨by rw [HX.out, HF.out]; rfl, B⟩
  | true =>
    obtain ⟨rfl, N, rfl, hN5, hl2, hl32, hkl, hlb, hkb⟩ := com_fun hf
    have hx : lcS N l N k = (lcTo l k l.length : Int) := by unfold lcS; rw [hf, if_pos rfl]
    have h1 := lcTo_one l k
    have HX := Lib.hid hx
    have HF := Lib.hid hf
    have HKL := Lib.hid hkl
    have HC1 := Lib.hid hc1
    have HC2 := Lib.hid hc2
    have HIX := Lib.hid hix
    have HIX2 := Lib.hid hix'
    have HB := Lib.hid (And.intro hlb hkb)
    have hpos : 1 ≤ l.length := by rw [hl2]; exact Nat.two_pow_pos N
    clear hx hf hl2 hkl hc hc' hc1 hc2 hix hix' hb hb' hlb hkb
    go_wp2_with fail
    go_loop [6, 7] (fun bst i => ∃ t : Nat, 1 ≤ t ∧ t ≤ l.length ∧ i = .int .i64 t ∧ bst = .int .i64 (lcTo l k t : Int)) (fun _ i => l.length - (intOf i).toNat)
    case atStart => exact ⟨1, Nat.le_refl _, hpos, rfl, by rw [h1]; rfl⟩
    case round =>
      obtain ⟨t, ht1, ht, rfl, rfl⟩ := hrel
      have hlt0 := lcTo_lt l k t ht1
      by_cases hlt : t < l.length
      · have hlt2 : (t : Int) < (l.length : Int) := by omega
        have hsucc := lcTo_succ l k t
        have ck := HC1.out t hlt
        have ck2 := HC2.out t (by rw [HKL.out]; exact hlt)
        have ik := fun W => HIX.out W t hlt
        have ik2 := fun W => HIX2.out W t (by rw [HKL.out]; exact hlt)
        have hfl : freeB l t = (l[t] == (pop t : Int)) := by unfold freeB; rw [getD_at l t hlt]; exact (beq_dec _ _).symm
        have hfk : freeB k t = (k[t]'(by rw [HKL.out]; exact hlt) == (pop t : Int)) := by unfold freeB; rw [getD_at k t (by rw [HKL.out]; exact hlt)]; exact (beq_dec _ _).symm
        obtain ⟨x, hx⟩ : ∃ x, x = l[t] := ⟨_, rfl⟩
        obtain ⟨y, hy⟩ : ∃ y, y = k[t]'(by rw [HKL.out]; exact hlt) := ⟨_, rfl⟩
        rw [← hx] at ck hfl
        rw [← hy] at ck2 hfk
        rw [hfl, hfk] at hsucc
        obtain ⟨b, hbe⟩ : ∃ b, b = lcTo l k t := ⟨_, rfl⟩
        rw [← hbe] at hlt0 hsucc ⊢
        have HS1 := Lib.hid (fun W => l2Size_any t W (by omega))
        have HS2 := Lib.hid (fun W => l2Size_any b W (by omega))
        obtain ⟨P, hP⟩ : ∃ P, P = pop t := ⟨_, rfl⟩
        obtain ⟨Q, hQ⟩ : ∃ Q, Q = pop b := ⟨_, rfl⟩
        simp only [← hP] at HS1 hsucc
        simp only [← hQ] at HS2 hsucc
        clear hx hy hfl hfk hbe hP hQ
        by_cases hgt : Q < P
        · rw [decide_eq_true hgt, Bool.true_and] at hsucc
          have hgt2 : (Q : Int) < (P : Int) := by omega
          cases e1 : (x == (P : Int)) with
          | false =>
            rw [e1] at hsucc
            have HSU := Lib.hid hsucc
            clear hsucc
            go_wp2_with (go_at_call 61; (first | (with_reducible refine (HS1.out _).mono ?_) | (with_reducible refine (HS2.out _).mono ?_)); rintro e w2 ⟨rfl, rfl⟩)
            go_round
            case rel => exact ⟨t + 1, by omega, by omega, by go_num, by rw [HSU.out]; rfl⟩
            case measure => simp [intOf]; omega
          | true =>
            cases e2 : (y == (P : Int)) with
            | false =>
              rw [e1, e2] at hsucc
              have HSU := Lib.hid hsucc
              clear hsucc
              go_wp2_with (go_at_call 61; (first | (with_reducible refine (HS1.out _).mono ?_) | (with_reducible refine (HS2.out _).mono ?_)); rintro e w2 ⟨rfl, rfl⟩)
              go_round
              case rel => exact ⟨t + 1, by omega, by omega, by go_num, by rw [HSU.out]; rfl⟩
              case measure => simp [intOf]; omega
            | true =>
              rw [e1, e2] at hsucc
              have HSU := Lib.hid hsucc
              clear hsucc
              go_wp2_with (go_at_call 61; (first | (with_reducible refine (HS1.out _).mono ?_) | (with_reducible refine (HS2.out _).mono ?_)); rintro e w2 ⟨rfl, rfl⟩)
              go_round
              case rel => exact ⟨t + 1, by omega, by omega, by go_num, by rw [HSU.out]; rfl⟩
              case measure => simp [intOf]; omega
        · rw [decide_eq_false hgt, Bool.false_and] at hsucc
          have hgt2 : ¬ (Q : Int) < (P : Int) := by omega
          have HSU := Lib.hid hsucc
          clear hsucc
          go_wp2_with (go_at_call 61; (first | (with_reducible refine (HS1.out _).mono ?_) | (with_reducible refine (HS2.out _).mono ?_)); rintro e w2 ⟨rfl, rfl⟩)
          go_round
          case rel => exact ⟨t + 1, by omega, by omega, by go_num, by rw [HSU.out]; rfl⟩
          case measure => simp [intOf]; omega
      · have hlt2 : ¬ (t : Int) < (l.length : Int) := by omega
        have htl : t = l.length := by omega
        have HT := Lib.hid htl
        clear htl
        go_wp2
        go_ret2
        exact ⟨by rw [HX.out, HF.out, ← HT.out]; rfl, B⟩
end Go.Proofs.Ytmlpcohailjccaa
