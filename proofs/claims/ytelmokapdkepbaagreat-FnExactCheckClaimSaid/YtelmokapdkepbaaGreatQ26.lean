/- Which lists are representations: both programs. -/
import Derived.Test.YtelmokapdkepbaaGreatQ25
section
namespace Go.Proofs.YtelmokapdkepbaaGreat
open Go.RowKit Go.G5

theorem rp_elem {g : Int} {l x : List Int} {k : Nat} (h : rpAt g l x k = true) : 0 ≤ x.getD k 0 ∧ x.getD k 0 < g := by
  unfold rpAt at h
  simp only [Bool.and_eq_true, decide_eq_true_eq] at h
  exact h.1
theorem allTo_at {p : Nat → Bool} : ∀ {n : Nat}, allTo p n = true → ∀ k, k < n → p k = true := by
  intro n h k hk
  cases hp : p k with
  | true => rfl
  | false => rw [allTo_false hk hp] at h; cases h
theorem used_bd {G : Nat} {l x : List Int} {k : Nat} (h : allTo (rpAt (G : Int) l x) k = true) (hG : G ≤ 6) : usedAt x k < 64 :=
  Nat.lt_of_lt_of_le (usedAt_lt x G k (fun i hi => rp_elem (allTo_at h i hi))) (Nat.pow_le_pow_right (n := 2) (by decide) hG)
set_option maxHeartbeats 4000000 in
set_option maxRecDepth 100000 in
theorem isRepI_any (w : World) (g : Int) (v vx : Value) (l x : List Int) (hv : Ints w v l) (hvx : Ints w vx x) :
    Calls Tryz.prog 76 #[.int .i64 g, v, vx] w fun e w' => e = .returned (.bool (isRepB g l x)) ∧ w = w' := by
  have hv0 := hv
  obtain ⟨a, b, off, c, rfl, hlen, hix, hc, hb⟩ := hv.view Tryz.prog 22 3 Tryz.underlying22 intElem
  obtain ⟨ax, bx, offx, cx, rfl, hlenx, hixx, hcx, hbx⟩ := hvx.view Tryz.prog 22 3 Tryz.underlying22 intElem
  cases hf : fewB g l with
  | false =>
    have hx : isRepB g l x = false := by unfold isRepB; rw [hf]; rfl
    have HX := Lib.hid hx
    have HF := Lib.hid hf
    clear hx hf hc hb hix hcx hbx hixx
    go_enter Tryz.func76, Tryz.ntmps76
    go_wp2_with (go_at_call 101; refine (areFew_any g l _ _ hv0).mono ?_; rintro e w1 ⟨rfl, rfl⟩; rw [HF.out])
    go_ret
    exact ⟨ret_bool HX.out.symm, rfl⟩
  | true =>
    obtain ⟨G, rfl, hG, hl6, hm, _⟩ := few_set hf
    by_cases hxl : x.length = l.length
    · have hx : isRepB (G : Int) l x = allTo (rpAt (G : Int) l x) x.length := by unfold isRepB; rw [hf, decide_eq_true hxl]; rfl
      have ht : ((x.length : Int) != (l.length : Int)) = false := by simp; omega
      have HX := Lib.hid hx
      have HF := Lib.hid hf
      have HM := Lib.hid hm
      have HXL := Lib.hid hxl
      clear hx hf hm hb hbx hxl
      go_enter Tryz.func76, Tryz.ntmps76
      go_wp2_with (go_at_call 101; refine (areFew_any (G : Int) l _ _ hv0).mono ?_; rintro e w1 ⟨rfl, rfl⟩; rw [HF.out])
      go_loop [7, 23] (fun u i => ∃ k : Nat, k ≤ x.length ∧ i = .int .i64 k ∧ u = .int .i64 ((usedAt x k : Nat) : Int) ∧ allTo (rpAt (G : Int) l x) k = true) (fun _ i => x.length - (intOf i).toNat)
      case atStart => exact ⟨0, Nat.zero_le _, rfl, rfl, rfl⟩
      case round =>
        obtain ⟨k, hk, rfl, rfl, hall⟩ := hrel
        have hu := used_bd hall hG
        have HA := Lib.hid hall
        clear hall
        by_cases hlt : k < x.length
        · have hkl : k < l.length := by have := HXL.out; omega
          have hck := hc k hkl
          have hixk := fun W => hix W k hkl
          have hcxk := hcx k hlt
          have hixxk := fun W => hixx W k hlt
          have hmk := HM.out _ (List.getElem_mem hkl)
          have hrp : rpAt (G : Int) l x k = ((decide (0 ≤ x[k]) && decide (x[k] < (G : Int))) && (nbit l[k].toNat x[k].toNat && !nbit (usedAt x k) x[k].toNat)) := by unfold rpAt; rw [getD_at l k hkl, getD_at x k hlt]
          have hus : usedAt x (k + 1) = setBit (usedAt x k) x[k].toNat := by rw [usedAt, getD_at x k hlt]
          have hpow : (2 : Int) ^ G ≤ 64 := (two_pow G 6 hG).1
          obtain ⟨u, hue⟩ : ∃ u, u = usedAt x k := ⟨_, rfl⟩
          rw [← hue] at hu hrp hus ⊢
          obtain ⟨y, hy⟩ : ∃ y, y = x[k] := ⟨_, rfl⟩
          rw [← hy] at hcxk hrp hus
          obtain ⟨s, hs⟩ : ∃ s : Nat, l[k] = (s : Int) := ⟨l[k].toNat, by omega⟩
          rw [hs] at hck hmk hrp
          rw [Int.toNat_natCast] at hrp
          have hs64 : s < 64 := by omega
          have hel := isElem_any (G : Int) y w
          obtain ⟨el, hele⟩ : ∃ el, el = (decide (0 ≤ y) && decide (y < (G : Int))) := ⟨_, rfl⟩
          rw [← hele] at hel hrp
          have HEL := Lib.hid hel
          have HUS := Lib.hid hus
          clear hel hus hue hy hs hc hix hcx hixx hpow hmk
          cases el with
          | false =>
            have hno := allTo_false (n := x.length) hlt (hrp.trans rfl)
            have HNO := Lib.hid hno
            clear hno hrp hele
            go_wp2_with (go_at_call 63; refine HEL.out.mono ?_; rintro e w' ⟨rfl, rfl⟩)
            go_ret
            exact ⟨ret_bool (by rw [HX.out, HNO.out]), rfl⟩
          | true =>
            have hyb : 0 ≤ y ∧ y < (G : Int) := by
              have := hele.symm
              simp only [Bool.and_eq_true, decide_eq_true_eq] at this
              exact this
            obtain ⟨e, rfl⟩ := Int.eq_ofNat_of_zero_le hyb.1
            rw [Int.toNat_natCast] at hrp
            have hbx := bit_is (s : Int) e (by omega) (by omega)
            have hbu := bit_is (u : Int) e (by omega) (by omega)
            have hnx := nbit_is s e
            have hnu := nbit_is u e
            have hzx := ibit_zero s e
            have he6 : e < 6 := by omega
            have hset := setBit_is u e (by omega) he6
            have hp := pow2_bd' (e : Int) (by omega)
            rw [Int.toNat_natCast] at hp
            have hp1 := hp.1
            have hp2 := hp.2
            obtain ⟨z1, hz1⟩ : ∃ y, y = ibit (s : Int) e := ⟨_, rfl⟩
            obtain ⟨z2, hz2⟩ : ∃ y, y = ibit (u : Int) e := ⟨_, rfl⟩
            rw [← hz1] at hbx hnx hzx
            rw [← hz2] at hbu hnu
            clear hele hyb hz1 hz2 hp
            cases h1 : nbit s e with
            | false =>
              have t1 : (z1 == 0) = true := by rw [hzx, h1]; rfl
              have hno := allTo_false (n := x.length) hlt (hrp.trans (by rw [h1]; rfl))
              have HNO := Lib.hid hno
              clear hno hrp h1 hnx hnu hzx
              go_wp2_with (go_at_call 63; refine HEL.out.mono ?_; rintro e w' ⟨rfl, rfl⟩)
              go_ret
              exact ⟨ret_bool (by rw [HX.out, HNO.out]), rfl⟩
            | true =>
              have t1 : (z1 == 0) = false := by rw [hzx, h1]; rfl
              cases h2 : nbit u e with
              | true =>
                have t2 : (z2 == 1) = true := by rw [hnu, h2]
                have hno := allTo_false (n := x.length) hlt (hrp.trans (by rw [h1, h2]; rfl))
                have HNO := Lib.hid hno
                clear hno hrp h1 h2 hnx hnu hzx
                go_wp2_with (go_at_call 63; refine HEL.out.mono ?_; rintro e w' ⟨rfl, rfl⟩)
                go_ret
                exact ⟨ret_bool (by rw [HX.out, HNO.out]), rfl⟩
              | false =>
                have t2 : (z2 == 1) = false := by rw [hnu, h2]
                have hyes := allTo_succ HA.out (hrp.trans (by rw [h1, h2]; rfl))
                have HYES := Lib.hid hyes
                obtain ⟨u2, hu2⟩ : ∃ q, q = setBit u e := ⟨_, rfl⟩
                rw [← hu2] at hset
                have HU2 := Lib.hid hu2
                clear hyes hrp h1 h2 hnx hnu hzx hu2
                go_wp2_with (go_at_call 63; refine HEL.out.mono ?_; rintro e w' ⟨rfl, rfl⟩)
                go_round
                case rel => exact ⟨k + 1, by omega, by go_num, by rw [HUS.out, Int.toNat_natCast, ← HU2.out], HYES.out⟩
                case measure => simp [intOf]; omega
        · have hkn : k = x.length := by omega
          have HK := Lib.hid hkn
          clear hkn
          go_wp2
          go_ret
          exact ⟨ret_bool (by rw [HX.out, ← HK.out, HA.out]), rfl⟩
    · have hx : isRepB (G : Int) l x = false := by unfold isRepB; rw [decide_eq_false hxl, Bool.false_and, Bool.and_false]
      have ht : ((x.length : Int) != (l.length : Int)) = true := by simp; omega
      have HX := Lib.hid hx
      have HF := Lib.hid hf
      clear hx hf hc hb hix hcx hbx hixx hxl
      go_enter Tryz.func76, Tryz.ntmps76
      go_wp2_with (go_at_call 101; refine (areFew_any (G : Int) l _ _ hv0).mono ?_; rintro e w1 ⟨rfl, rfl⟩; rw [HF.out])
      go_ret
      exact ⟨ret_bool HX.out.symm, rfl⟩
theorem elem_inB (g y : Int) : inB y 0 (g - 1) = (decide (0 ≤ y) && decide (y < g)) := by
  unfold inB
  congr 1
  rw [Bool.eq_iff_iff, decide_eq_true_eq, decide_eq_true_eq]
  omega
set_option maxHeartbeats 4000000 in
set_option maxRecDepth 100000 in
theorem isRepS_any (w : World) (g : Int) (v vx : Value) (l x : List Int) (hv : Ints w v l) (hvx : Ints w vx x) :
    Calls Tryz.prog 30 #[.int .i64 g, v, vx] w fun e w' => e = .returned (.bool (isRepB g l x)) ∧ Below w.heap.size w w' := by
  have hv0 := hv
  obtain ⟨a, b, off, c, rfl, hlen, hix, hc, hb⟩ := hv.view Tryz.prog 22 3 Tryz.underlying22 intElem
  obtain ⟨ax, bx, offx, cx, rfl, hlenx, hixx, hcx, hbx⟩ := hvx.view Tryz.prog 22 3 Tryz.underlying22 intElem
  have HL := Lib.hid (l28Lists_any g l _ w hv0)
  cases hf : fewB g l with
  | false =>
    have hx : isRepB g l x = false := by unfold isRepB; rw [hf]; rfl
    have HX := Lib.hid hx
    rw [hf] at HL
    clear hx hf hc hb hix hcx hbx hixx
    go_enter Tryz.func30, Tryz.ntmps30
    go_wp2_with (go_at_call 57; refine HL.out.mono ?_; rintro e w1 ⟨rfl, b1⟩)
    go_ret
    exact ⟨ret_bool HX.out.symm, b1⟩
  | true =>
    rw [hf] at HL
    obtain ⟨G, rfl, hG, hl6, hm, _⟩ := few_set hf
    by_cases hxl : x.length = l.length
    · have hx : isRepB (G : Int) l x = allTo (rpAt (G : Int) l x) x.length := by unfold isRepB; rw [hf, decide_eq_true hxl]; rfl
      have ht : ((x.length : Int) != (l.length : Int)) = false := by simp; omega
      have HX := Lib.hid hx
      have HM := Lib.hid hm
      have HXL := Lib.hid hxl
      have HC := Lib.hid hc
      have HCX := Lib.hid hcx
      have wg : IntKind.i64.wrap ((G : Int) - 1) = (G : Int) - 1 := IntWalk.i64_in _ ⟨by omega, by omega⟩
      clear hx hf hm hb hbx hxl hc hcx
      go_enter Tryz.func30, Tryz.ntmps30
      go_wp2_with (go_at_call 57; refine HL.out.mono ?_; rintro e w1 ⟨rfl, b1⟩)
      go_loopw [7, 8] (fun u i wr => ∃ k : Nat, k ≤ x.length ∧ i = .int .i64 k ∧ u = .int .i64 ((usedAt x k : Nat) : Int) ∧ allTo (rpAt (G : Int) l x) k = true ∧ Below w.heap.size w wr) (fun _ i _ => x.length - (intOf i).toNat)
      case atStart => exact ⟨0, Nat.zero_le _, rfl, rfl, rfl, b1⟩
      case round =>
        obtain ⟨k, hk, rfl, rfl, hall, Bw⟩ := hrel
        have hu := used_bd hall hG
        have HA := Lib.hid hall
        clear hall b1
        by_cases hlt : k < x.length
        · have hkl : k < l.length := by have := HXL.out; omega
          have hck := keep Bw (HC.out k hkl)
          have hixk := fun W => hix W k hkl
          have hcxk := keep Bw (HCX.out k hlt)
          have hixxk := fun W => hixx W k hlt
          have hmk := HM.out _ (List.getElem_mem hkl)
          have hrp : rpAt (G : Int) l x k = ((decide (0 ≤ x[k]) && decide (x[k] < (G : Int))) && (nbit l[k].toNat x[k].toNat && !nbit (usedAt x k) x[k].toNat)) := by unfold rpAt; rw [getD_at l k hkl, getD_at x k hlt]
          have hus : usedAt x (k + 1) = setBit (usedAt x k) x[k].toNat := by rw [usedAt, getD_at x k hlt]
          have hpow : (2 : Int) ^ G ≤ 64 := (two_pow G 6 hG).1
          obtain ⟨u, hue⟩ : ∃ u, u = usedAt x k := ⟨_, rfl⟩
          rw [← hue] at hu hrp hus ⊢
          obtain ⟨y, hy⟩ : ∃ y, y = x[k] := ⟨_, rfl⟩
          rw [← hy] at hcxk hrp hus
          obtain ⟨s, hs⟩ : ∃ s : Nat, l[k] = (s : Int) := ⟨l[k].toNat, by omega⟩
          rw [hs] at hck hmk hrp
          rw [Int.toNat_natCast] at hrp
          have hs64 : s < 64 := by omega
          have hin := elem_inB (G : Int) y
          obtain ⟨el, hele⟩ : ∃ el, el = (decide (0 ≤ y) && decide (y < (G : Int))) := ⟨_, rfl⟩
          rw [← hele] at hin hrp
          have HI := Lib.hid hin
          have HUS := Lib.hid hus
          clear hin hus hue hy hs hix hixx hpow hmk
          cases el with
          | false =>
            have hno := allTo_false (n := x.length) hlt (hrp.trans rfl)
            have HNO := Lib.hid hno
            clear hno hrp hele
            go_wp2_with fail
            go_quiet ((go_at_call 17; first | exact q_bool2 (l1In_any _ _ _ _) HI.out | exact q_bool (l1In_any _ _ _ _) HI.out))
            go_wp2
            go_ret
            exact ⟨ret_bool (by rw [HX.out, HNO.out]), Bw.drewN' _⟩
          | true =>
            have hyb : 0 ≤ y ∧ y < (G : Int) := by
              have := hele.symm
              simp only [Bool.and_eq_true, decide_eq_true_eq] at this
              exact this
            obtain ⟨e, rfl⟩ := Int.eq_ofNat_of_zero_le hyb.1
            rw [Int.toNat_natCast] at hrp
            have hbx := bit_is (s : Int) e (by omega) (by omega)
            have hbu := bit_is (u : Int) e (by omega) (by omega)
            have hnx := nbit_is s e
            have hnu := nbit_is u e
            have hzx := ibit_zero s e
            have he6 : e < 6 := by omega
            have hset := setBit_is u e (by omega) he6
            have hp := pow2_bd' (e : Int) (by omega)
            rw [Int.toNat_natCast] at hp
            have hp1 := hp.1
            have hp2 := hp.2
            obtain ⟨z1, hz1⟩ : ∃ y, y = ibit (s : Int) e := ⟨_, rfl⟩
            obtain ⟨z2, hz2⟩ : ∃ y, y = ibit (u : Int) e := ⟨_, rfl⟩
            rw [← hz1] at hbx hnx hzx
            rw [← hz2] at hbu hnu
            clear hele hyb hz1 hz2 hp
            cases h1 : nbit s e with
            | false =>
              have t1 : (z1 == 0) = true := by rw [hzx, h1]; rfl
              have hno := allTo_false (n := x.length) hlt (hrp.trans (by rw [h1]; rfl))
              have HNO := Lib.hid hno
              clear hno hrp h1 hnx hnu hzx
              go_wp2_with fail
              go_quiet ((go_at_call 17; first | exact q_bool2 (l1In_any _ _ _ _) HI.out | exact q_bool (l1In_any _ _ _ _) HI.out))
              go_wp2
              go_ret
              exact ⟨ret_bool (by rw [HX.out, HNO.out]), Bw.drewN' _⟩
            | true =>
              have t1 : (z1 == 0) = false := by rw [hzx, h1]; rfl
              cases h2 : nbit u e with
              | true =>
                have t2 : (z2 == 1) = true := by rw [hnu, h2]
                have hno := allTo_false (n := x.length) hlt (hrp.trans (by rw [h1, h2]; rfl))
                have HNO := Lib.hid hno
                clear hno hrp h1 h2 hnx hnu hzx
                go_wp2_with fail
                go_quiet ((go_at_call 17; first | exact q_bool2 (l1In_any _ _ _ _) HI.out | exact q_bool (l1In_any _ _ _ _) HI.out))
                go_wp2
                go_ret
                exact ⟨ret_bool (by rw [HX.out, HNO.out]), Bw.drewN' _⟩
              | false =>
                have t2 : (z2 == 1) = false := by rw [hnu, h2]
                have hyes := allTo_succ HA.out (hrp.trans (by rw [h1, h2]; rfl))
                have HYES := Lib.hid hyes
                obtain ⟨u2, hu2⟩ : ∃ q, q = setBit u e := ⟨_, rfl⟩
                rw [← hu2] at hset
                have HU2 := Lib.hid hu2
                clear hyes hrp h1 h2 hnx hnu hzx hu2
                go_wp2_with fail
                go_quiet ((go_at_call 17; first | exact q_bool2 (l1In_any _ _ _ _) HI.out | exact q_bool (l1In_any _ _ _ _) HI.out))
                go_wp2
                go_roundw
                case rel => exact ⟨k + 1, by omega, by go_num, by rw [HUS.out, Int.toNat_natCast, ← HU2.out], HYES.out, Bw.drewN' _⟩
                case measure => simp [intOf]; omega
        · have hkn : k = x.length := by omega
          have HK := Lib.hid hkn
          clear hkn
          go_wp2
          go_ret
          exact ⟨ret_bool (by rw [HX.out, ← HK.out, HA.out]), Bw⟩
    · have hx : isRepB (G : Int) l x = false := by unfold isRepB; rw [decide_eq_false hxl, Bool.false_and, Bool.and_false]
      have ht : ((x.length : Int) != (l.length : Int)) = true := by simp; omega
      have HX := Lib.hid hx
      clear hx hf hc hb hix hcx hbx hixx hxl
      go_enter Tryz.func30, Tryz.ntmps30
      go_wp2_with (go_at_call 57; refine HL.out.mono ?_; rintro e w1 ⟨rfl, b1⟩)
      go_ret
      exact ⟨ret_bool HX.out.symm, b1⟩
end Go.Proofs.YtelmokapdkepbaaGreat
end
