/- Powers of elements: the reference's. -/
import Derived.Test.YtpaoiiiceekkkaaDoorQ36
import Derived.IntWalk
section
namespace Go.Proofs.YtpaoiiiceekkkaaDoor
open Go.RowKit Go.G5

theorem pop_room : ∀ n : Nat, n ≤ 5 → ∀ s : Nat, s < 2 ^ n → ∀ e : Nat, e < n → ibit (s : Int) e ≠ 1 → pop s + 1 ≤ n := by decide +kernel
theorem fact24 (k : Nat) (h : k ≤ 4) : fact k ≤ 24 := by have := fact_mono k 4 h; have e : fact 4 = 24 := by decide
                                                         omega
theorem mul_bdS {a b A B : Int} (ha : 0 ≤ a) (hA : a ≤ A) (hb : -B ≤ b) (hB : b ≤ B) (hB0 : 0 ≤ B) : -(A * B) ≤ a * b ∧ a * b ≤ A * B := by
  have h1 : a * b ≤ a * B := Int.mul_le_mul_of_nonneg_left hB ha
  have h2 : a * B ≤ A * B := Int.mul_le_mul_of_nonneg_right hA hB0
  have h3 : a * (-B) ≤ a * b := Int.mul_le_mul_of_nonneg_left hb ha
  rw [Int.mul_neg] at h3
  omega
/-- one set's part -/
def spPart (l : List Int) (n e s : Nat) : Int := (fact (pop s) : Int) * (fact (n - 1 - pop s) : Int) * (l.getD (setBit s e) 0 - l.getD s 0)
theorem shTo_bd (l : List Int) (n e : Nat) (hn : n ≤ 5) (he : e < n) (hl : l.length = 2 ^ n) (hlb : ∀ k, (hk : k < l.length) → -1000 ≤ l[k] ∧ l[k] ≤ 1000) (s : Nat) (hs : s ≤ 2 ^ n) : -1152000 * (s : Int) ≤ shTo l n e s ∧ shTo l n e s ≤ 1152000 * (s : Int) := by
  induction s with
  | zero => simp [shTo]
  | succ s ih =>
    have h1 := ih (by omega)
    rw [shTo]
    by_cases hb : ibit (s : Int) e = 1
    · rw [if_pos hb]; omega
    · rw [if_neg hb]
      have hr := pop_room n hn s (by omega) e he hb
      have f1 := fact24 (pop s) (by omega)
      have f2 := fact24 (n - 1 - pop s) (by omega)
      have hg := gainL_bd l s e (by omega) (by rw [hl]; exact setBit_lt _ _ _ (by omega) he) hlb
      unfold gainL at hg
      have m1 := mul_bdS (a := (fact (pop s) : Int)) (b := (fact (n - 1 - pop s) : Int)) (A := 24) (B := 24) (by omega) (by omega) (by omega) (by omega) (by omega)
      have m0 : 0 ≤ (fact (pop s) : Int) * (fact (n - 1 - pop s) : Int) := Int.mul_nonneg (by omega) (by omega)
      have m2 := mul_bdS (a := (fact (pop s) : Int) * (fact (n - 1 - pop s) : Int)) (b := l.getD (setBit s e) 0 - l.getD s 0) (A := 576) (B := 2000) m0 (by omega) (by omega) (by omega) (by omega)
      omega

set_option maxHeartbeats 4000000 in
set_option maxRecDepth 100000 in
theorem shapS_c (w : World) (n : Int) (v : Value) (l : List Int) (hv : Ints w v l) (_ : l.length ≤ 1048576) :
    Calls Tryd.prog 46 #[.agg #[.int .i64 n, v]] w fun e w' => ∃ ad i cp, e = .returned (.slice ad i cp) ∧ OwnI 3 w.heap.size w' (.slice ad i cp) (shapOf n l) ∧ Below w.heap.size w w' := by
  obtain ⟨a, b, off, c, rfl, hlen, hix, hc, hb⟩ := hv.view Tryd.prog 22 3 Tryd.underlying22 intElem
  have X0 := Box2.new w n (.slice a l.length c) 31
  have o0 : OwnI 3 (w.heap.size + 1) ((w.alloc (.cells #[.int .i64 n, .slice a l.length c] 31)).alloc (.cells #[] 3)) (.slice (some ⟨w.heap.size + 1, 0, none⟩) 0 0) [] := by
    have := OwnI.lit0 (E := 3) (B := w.heap.size + 1) (w.alloc (.cells #[.int .i64 n, .slice a l.length c] 31)) (by simp)
    simpa using this
  have X1 := X0.after (bl1 _ (.cells #[] 3))
  clear X0
  cases hf : isFunB n l with
  | false =>
    have hx : shapOf n l = [] := by unfold shapOf; rw [hf]; rfl
    have HX := Lib.hid hx
    have HF := Lib.hid hf
    have HO := Lib.hid o0
    clear hx hf hix hc o0
    obtain ⟨d0, d1, B1, z1⟩ := X1
    go_enter Tryd.func46, Tryd.ntmps46
    go_wp2_with fail
    refine wp_loop_rounds 1 ?_
    rw [rounds_succ]
    go_wp2_with fail
    refine (isFunS_any n l _ _ (hv.below B1 (Nat.le_refl _))).mono ?_
    rintro e w2 ⟨rfl, hb2⟩
    rw [HF.out]
    have B2 := B1.after hb2 B1.size
    have HO2 := Lib.hid (HO.out.keep hb2)
    go_wp2
    go_ret
    exact ⟨_, _, _, rfl, by rw [HX.out]; exact HO2.out.mono (Nat.le_succ _), B2⟩
  | true =>
    obtain ⟨h0, h5, hl, hlb⟩ := funOk hf
    obtain ⟨N, rfl⟩ := Int.eq_ofNat_of_zero_le h0
    have hN : N ≤ 5 := by omega
    have hlN : l.length = 2 ^ N := by
      have : ((l.length : Nat) : Int) = ((2 ^ N : Nat) : Int) := by push_cast; exact hl
      exact_mod_cast this
    have hl32 : l.length ≤ 32 := by rw [hlN]; exact Nat.pow_le_pow_right (by decide) hN
    have hx : shapOf N l = shapL N l := by unfold shapOf; rw [if_pos hf]; rfl
    have HX := Lib.hid hx
    have HLB := Lib.hid hlb
    have HLN := Lib.hid hlN
    have HF := Lib.hid hf
    have HO := Lib.hid o0
    clear hx hl hlb hlN hf o0
    go_enter Tryd.func46, Tryd.ntmps46
    go_wp2_with fail
    go_loopw [3, 4] (fun out i wr => ∃ (e : Nat) (ad : Option Addr) (nn cp : Nat), e ≤ N ∧ i = .int .i64 e ∧ out = .slice ad nn cp ∧ OwnI 3 (w.heap.size + 1) wr (.slice ad nn cp) ((shapL N l).take e) ∧ Box2 w wr N (.slice a l.length c))
      (fun _ i _ => N - (intOf i).toNat)
    case atStart => exact ⟨0, _, _, _, Nat.zero_le _, rfl, rfl, by simpa using HO.out, X1⟩
    case round =>
      obtain ⟨e, ad, nn, cp, he, rfl, rfl, ow, X⟩ := hrel
      have HW := Lib.hid ow
      clear ow X1
      obtain ⟨d0, d1, B1, z1⟩ := X
      go_wp2_with fail
      refine (isFunS_any N l _ _ (hv.below B1 (Nat.le_refl _))).mono ?_
      rintro e' w2 ⟨rfl, hb2⟩
      rw [HF.out]
      have X2 := (Box2.mk d0 d1 B1 z1).after hb2
      have HW2 := Lib.hid (HW.out.keep hb2)
      clear hb2 d0 d1 B1 z1
      obtain ⟨d0, d1, B1, z1⟩ := X2
      by_cases hen : e < N
      · have hck := cells_below hc hb B1 (Nat.le_refl _)
        have hll : (shapL N l).length = N := by simp [shapL]
        have htk : (shapL N l).take (e + 1) = (shapL N l).take e ++ [shTo l N e (2 ^ N)] := by
          rw [List.take_succ_eq_append_getElem (by rw [hll]; exact hen)]
          simp [shapL]
        have htl : ((shapL N l).take e).length ≤ 5 := by rw [List.length_take]; omega
        have HTK := Lib.hid htk
        have HCK := Lib.hid hck
        clear hll htk hck
        go_wp2_with fail
        go_loopw [5, 6] (fun x i wr => ∃ s m : Nat, s ≤ l.length ∧ i = .int .i64 s ∧ x = .int .i64 (shTo l N e s) ∧ wr = w2.drewN m) (fun _ i _ => l.length - (intOf i).toNat)
        case atStart => exact ⟨0, 0, Nat.zero_le _, rfl, rfl, rfl⟩
        case round =>
          obtain ⟨s, m, hs, rfl, rfl, rfl⟩ := hrel
          have hbd := shTo_bd l N e hN hen HLN.out HLB.out s (by rw [← HLN.out]; exact hs)
          by_cases hlt : s < l.length
          · have hbit := bit_is s e (by omega) (by omega)
            by_cases hone : ibit (s : Int) e = 1
            · have ht : (ibit (s : Int) e == 1) = true := by simp [hone]
              have hnx : shTo l N e (s + 1) = shTo l N e s := by rw [shTo, if_pos hone]
              have HNX := Lib.hid hnx
              clear hone hnx
              go_wp2
              go_roundw
              case rel => exact ⟨s + 1, m, by omega, by go_num, by rw [HNX.out], rfl⟩
              case measure => simp [intOf]; omega
            · have ht : (ibit (s : Int) e == 1) = false := by simp [hone]
              have hnx : shTo l N e (s + 1) = shTo l N e s + (fact (pop s) : Int) * (fact (N - 1 - pop s) : Int) * (l.getD (setBit s e) 0 - l.getD s 0) := by rw [shTo, if_neg hone]
              have hs2 : s < 2 ^ N := by rw [← HLN.out]; exact hlt
              have hr := pop_room N hN s hs2 e hen hone
              have hse : setBit s e < l.length := by rw [HLN.out]; exact setBit_lt _ _ _ hs2 hen
              have hx1 := HLB.out s hlt
              have hx2 := HLB.out _ hse
              have hc1 := HCK.out s hlt
              have hc2 := HCK.out _ hse
              have hi2 := fun w' => hix w' _ hse
              rw [show l.getD (setBit s e) 0 = l[setBit s e] by rw [List.getD_eq_getElem?_getD, List.getElem?_eq_getElem hse]; rfl, show l.getD s 0 = l[s] by rw [List.getD_eq_getElem?_getD, List.getElem?_eq_getElem hlt]; rfl] at hnx
              have hF1 : ∀ W, Calls Tryd.prog 118 #[.int .i64 (pop s : Int)] W fun e' w' => e' = .returned (.int .i64 (fact (pop s) : Int)) ∧ W = w' := fun W => by
                have := factS_any (pop s : Int) W
                rw [show factOf (pop s : Int) = (fact (pop s) : Int) by unfold factOf; rw [show inB (pop s : Int) 0 12 = true from inB_true.2 ⟨by omega, by omega⟩]; rfl] at this
                exact this
              have hF2 : ∀ W, Calls Tryd.prog 118 #[.int .i64 ((N : Int) - 1 - (pop s : Int))] W fun e' w' => e' = .returned (.int .i64 (fact (N - 1 - pop s) : Int)) ∧ W = w' := fun W => by
                have := factS_any (((N - 1 - pop s : Nat)) : Int) W
                rw [show factOf ((N - 1 - pop s : Nat) : Int) = (fact (N - 1 - pop s) : Int) by unfold factOf; rw [show inB ((N - 1 - pop s : Nat) : Int) 0 12 = true from inB_true.2 ⟨by omega, by omega⟩]; rfl] at this
                rw [show ((N : Int) - 1 - (pop s : Int)) = ((N - 1 - pop s : Nat) : Int) by omega]
                exact this
              have f1 := fact24 (pop s) (by omega)
              have f2 := fact24 (N - 1 - pop s) (by omega)
              have hsz := l2Size_any s w2 (by omega)
              obtain ⟨x, hx⟩ : ∃ x, x = l[setBit s e] := ⟨_, rfl⟩
              obtain ⟨y, hy⟩ : ∃ y, y = l[s] := ⟨_, rfl⟩
              obtain ⟨q, hq⟩ : ∃ q, q = setBit s e := ⟨_, rfl⟩
              obtain ⟨F, hF⟩ : ∃ F : Int, F = (fact (pop s) : Int) := ⟨_, rfl⟩
              obtain ⟨G, hG⟩ : ∃ G : Int, G = (fact (N - 1 - pop s) : Int) := ⟨_, rfl⟩
              obtain ⟨k, hk⟩ : ∃ k : Int, k = (pop s : Int) := ⟨_, rfl⟩
              obtain ⟨k2, hk2⟩ : ∃ k : Int, k = (N : Int) - 1 - (pop s : Int) := ⟨_, rfl⟩
              obtain ⟨z, hz⟩ : ∃ z : Int, z = shTo l N e s := ⟨_, rfl⟩
              rw [← hx] at hnx hx2 hc2
              rw [← hy] at hnx hx1 hc1
              rw [← hF] at hnx hF1
              rw [← hG] at hnx hF2
              rw [← hk2] at hF2
              rw [← hk] at hF1
              rw [← hz] at hnx hbd ⊢
              have m1 := mul_bdS (a := F) (b := G) (A := 24) (B := 24) (by omega) (by omega) (by omega) (by omega) (by omega)
              have m0 : 0 ≤ F * G := Int.mul_nonneg (by omega) (by omega)
              have m2 := mul_bdS (a := F * G) (b := x - y) (A := 576) (B := 2000) m0 (by omega) (by omega) (by omega) (by omega)
              obtain ⟨p1, hp1⟩ : ∃ p : Int, p = F * G := ⟨_, rfl⟩
              obtain ⟨p2, hp2⟩ : ∃ p : Int, p = p1 * (x - y) := ⟨_, rfl⟩
              obtain ⟨p3, hp3⟩ : ∃ p : Int, p = (N : Int) - 1 := ⟨_, rfl⟩
              rw [← hp1] at m0 m1 m2 hnx
              rw [← hp2] at m2 hnx
              have w1 : IntKind.i64.wrap (F * G) = p1 := by rw [hp1]; exact IntWalk.i64_in _ (by omega)
              have w2' : IntKind.i64.wrap (x - y) = x - y := IntWalk.i64_in _ (by omega)
              have w3 : IntKind.i64.wrap (p1 * (x - y)) = p2 := by rw [hp2]; exact IntWalk.i64_in _ (by omega)
              have w4 : IntKind.i64.wrap ((N : Int) - 1) = p3 := by rw [hp3]; exact IntWalk.i64_in _ (by omega)
              have w5 : IntKind.i64.wrap (p3 - k) = k2 := by rw [hp3, hk, hk2]; exact IntWalk.i64_in _ (by omega)
              have w6 : IntKind.i64.wrap (z + p2) = z + p2 := IntWalk.i64_in _ (by omega)
              have hor := setBit_is s e (by omega) (by omega)
              have hpe := two_pow e 6 (by omega)
              have hpe1 : (2 : Int) ^ e ≤ 64 := by simpa using hpe.1
              have hpe2 := hpe.2
              rw [← hq] at hor hi2 hc2
              have HNX := Lib.hid hnx
              have HF1 := Lib.hid hF1
              have HF2 := Lib.hid hF2
              have HK := Lib.hid hk
              have he0 : (0 : Int) ≤ (e : Int) := Int.natCast_nonneg _
              clear hone hnx hF1 hF2 hse hr hs2 hx hy hq hF hG hk hk2 hz hp1 hp2 hp3 m0 m1 m2 f1 f2 hpe hsz hx1 hx2 hbd
              go_wp2_with (go_at_call 117; refine (l2Size_any s _ (by omega)).mono ?_; rintro e' w' ⟨rfl, rfl⟩; rw [← HK.out])
              go_quiet ((go_at_call 118; first | (with_reducible exact q_same2 (HF1.out _)) | (with_reducible exact q_same (HF1.out _)) | (with_reducible exact q_same2 (HF2.out _)) | (with_reducible exact q_same (HF2.out _))))
              go_wp2
              go_roundw
              case rel => exact ⟨s + 1, m + nq, by omega, by go_num, by rw [HNX.out], by simp⟩
              case measure => simp [intOf]; omega
          · have hsl : s = 2 ^ N := by have := HLN.out; omega
            have hs32 : (s : Int) ≤ 32 := by omega
            obtain ⟨z, hz⟩ : ∃ z : Int, z = shTo l N e s := ⟨_, rfl⟩
            rw [← hz] at hbd ⊢
            have hz2 : z = shTo l N e (2 ^ N) := by rw [hz, hsl]
            have hzb1 : -40000000 ≤ z := by omega
            have hzb2 : z ≤ 40000000 := by omega
            have HZ := Lib.hid hz2
            clear hz hz2 hsl hbd
            go_wp2_with (at_builtin; refine wpList_appendI rfl _ _ _ rfl 3 Tryd.underlying22 intElem (w.heap.size + 1) _ _ z w2.heap.size rfl rfl (cell_new w2 #[.int .i64 z] 3 0 _ rfl) ((HW2.out.alloc _).drewN m) ⟨by omega, by omega⟩ (by omega) (by first | omega | (simp; done) | (simp; omega)) ?_; intro v' w6 hown hgr; obtain ⟨av, nv, cv, rfl⟩ := hown.shape3)
            have X6 := (((Box2.mk d0 d1 B1 z1).after (bl1 _ (.cells #[.int .i64 z] 3))).drewN m).grow hgr (fun k hk => by have := (HW2.out.lt k hk).1; omega)
            rw [HZ.out, ← HTK.out] at hown
            have HWN := Lib.hid hown
            clear hown hgr
            go_wp2
            go_roundw
            case rel => exact ⟨e + 1, _, _, _, by omega, by go_num, rfl, HWN.out, X6⟩
            case measure => simp [intOf]; omega
      · have hee : e = N := by omega
        have hll : (shapL N l).length = N := by simp [shapL]
        have hw : (shapL N l).take e = shapL N l := List.take_of_length_le (by omega)
        have HH := Lib.hid hw
        clear hw hll
        go_wp2
        go_ret
        exact ⟨_, _, _, rfl, by rw [HX.out, ← HH.out]; exact HW2.out.mono (Nat.le_succ _), B1⟩
end Go.Proofs.YtpaoiiiceekkkaaDoor
end
