/- Sunflowers: the tests of both programs, and the search of the first. -/
import Derived.Test.YtmlpcohailjccaaFlowerP
import Derived.Test.YtmlpcohailjccaaApp
import Derived.Test.YtmlpcohailjccaaFam
import Derived.Deep.RegionHeld3
namespace Go.Proofs.Ytmlpcohailjccaa
open Go.RowKit Go.G5

set_option maxHeartbeats 2000000 in
theorem inFlower_any (l : List Int) (v : Value) (s : Int) (w : World) (hv : Ints w v l) (hm : ∀ x ∈ l, 0 ≤ x ∧ x < 64) (hs : 0 ≤ s ∧ s < 64) :
    Calls Try.prog 99 #[v, .int .i64 s] w fun e w' => e = .returned (.bool (inFI l s)) ∧ Below w.heap.size w w' := by
  obtain ⟨a, b, off, c, rfl, hlen, hix, hc, hb⟩ := hv.view Try.prog 22 3 Try.underlying22 intElem
  have hs0 := hs.1
  have hs1 := hs.2
  go_enter Try.func99, Try.ntmps99
  go_wp2
  go_loopw [9] (fun i wr => ∃ k n : Nat, k ≤ l.length ∧ i = .int .i64 k ∧ allTo (petal l s) k = true ∧ wr = w.drewN n) (fun i _ => l.length - (intOf i).toNat)
  case atStart => exact ⟨0, 0, Nat.zero_le _, rfl, rfl, rfl⟩
  case round =>
    obtain ⟨k, n, hk, rfl, hall, rfl⟩ := hrel
    have H := Lib.hid hall
    clear hall
    by_cases hlt : k < l.length
    · have hck := hc k hlt
      have hc0 := hc 0 (by omega)
      have hix0 : ∀ w', (Instr.indexAt 22 (.slice a l.length c) (.int .i64 0)).run Try.prog w' = .ok (.pointer (some ⟨b, off, none⟩)) w' := fun w' => by have := hix w' 0 (by omega); simpa using this
      have hmk := hm _ (List.getElem_mem hlt)
      have hm0 := hm _ (List.getElem_mem (show 0 < l.length by omega))
      have gk := getD_at l k hlt
      have g0 := getD_at l 0 (by omega)
      have hpet : petal l s k = (!(l[k] == s) && (iand s l[k] == iand s l[0]) && (k == 0 || iand s l[k] == iand l[0] (l.getD 1 0))) := by unfold petal; rw [gk, g0]
      have hixk := fun W => hix W k hlt
      obtain ⟨t, ht⟩ : ∃ t, t = l[k] := ⟨_, rfl⟩
      obtain ⟨t0, ht0⟩ : ∃ t, t = l[0] := ⟨_, rfl⟩
      rw [← ht] at hck hmk hpet
      rw [← ht0] at hc0 hm0 hpet
      rw [Nat.add_zero] at hc0
      have h1 := iand_is hs0 (show s < 4611686018427387904 by omega) hmk.1 (show t < 4611686018427387904 by omega)
      have h2 := iand_is hs0 (show s < 4611686018427387904 by omega) hm0.1 (show t0 < 4611686018427387904 by omega)
      have HT0 := Lib.hid ht0
      have HT := Lib.hid ht
      clear ht ht0 gk g0
      have bad : petal l s k = false → inFI l s = false := fun h => allTo_false hlt h
      cases c1 : (t == s) with
      | true =>
        have hbad := bad (by rw [hpet, c1]; rfl)
        have HBAD := Lib.hid hbad
        clear hbad bad hpet hc hm h1 h2
        go_wp2_with fail
        go_quiet (fail)
        go_wp2
        go_ret
        exact ⟨ret_bool HBAD.out.symm, ((Below.refl _ _).drewN' _).drewN' _⟩
      | false =>
        cases c2 : (iand s t != iand s t0) with
        | true =>
          have hbad := bad (by rw [hpet]; have : (iand s t == iand s t0) = false := by simpa using c2
                               rw [this]; simp)
          have HBAD := Lib.hid hbad
          obtain ⟨q, hq⟩ : ∃ q, q = iand s t := ⟨_, rfl⟩
          obtain ⟨q0, hq0⟩ : ∃ q, q = iand s t0 := ⟨_, rfl⟩
          rw [← hq] at h1 c2
          rw [← hq0] at h2 c2
          clear hbad bad hpet hc hm hq hq0
          go_wp2_with fail
          go_quiet (fail)
          go_wp2
          go_ret
          exact ⟨ret_bool HBAD.out.symm, ((Below.refl _ _).drewN' _).drewN' _⟩
        | false =>
          have c2' : (iand s t == iand s t0) = true := by simpa using c2
          by_cases hk0 : k = 0
          · have hgood : petal l s k = true := by rw [hpet, c1, c2', hk0]; rfl
            have HG := Lib.hid hgood
            subst hk0
            have ett : t = t0 := HT.out.trans HT0.out.symm
            subst ett
            obtain ⟨q, hq⟩ : ∃ q, q = iand s t := ⟨_, rfl⟩
            rw [← hq] at h1
            clear hgood bad hpet hc hm hq c2' hck h2 c2
            go_wp2_with fail
            go_quiet (fail)
            go_wp2
            go_roundw
            case rel => exact ⟨0 + 1, n + nq, by omega, by go_num, allTo_succ H.out HG.out, by simp⟩
            case measure => simp [intOf]; omega
          · have h1l : 1 < l.length := by omega
            have hc1 := hc 1 h1l
            have hix1 : ∀ w', (Instr.indexAt 22 (.slice a l.length c) (.int .i64 1)).run Try.prog w' = .ok (.pointer (some ⟨b, off + 1, none⟩)) w' := fun w' => by have := hix w' 1 h1l; simpa using this
            have hm1 := hm _ (List.getElem_mem h1l)
            have g1 := getD_at l 1 h1l
            rw [g1] at hpet
            obtain ⟨t1, ht1⟩ : ∃ t, t = l[1] := ⟨_, rfl⟩
            rw [← ht1] at hc1 hm1 hpet
            have h3 := iand_is hm0.1 (show t0 < 4611686018427387904 by omega) hm1.1 (show t1 < 4611686018427387904 by omega)
            have hkg : (0 : Int) < k := by omega
            have hkn : 0 < k := by omega
            have hkb : (k == 0) = false := by simpa using hk0
            cases c4 : (iand s t != iand t0 t1) with
            | true =>
              have hbad := bad (by rw [hpet]; have : (iand s t == iand t0 t1) = false := by simpa using c4
                                   rw [this, hkb]; simp)
              have HBAD := Lib.hid hbad
              obtain ⟨q, hq⟩ : ∃ q, q = iand s t := ⟨_, rfl⟩
              obtain ⟨q0, hq0⟩ : ∃ q, q = iand s t0 := ⟨_, rfl⟩
              obtain ⟨q1, hq1⟩ : ∃ q, q = iand t0 t1 := ⟨_, rfl⟩
              rw [← hq] at h1 c2 c4
              rw [← hq0] at h2 c2
              rw [← hq1] at h3 c4
              clear hbad bad hpet hc hm hq hq0 hq1 c2' g1 ht1
              go_wp2_with fail
              go_quiet (fail)
              go_wp2
              go_ret
              exact ⟨ret_bool HBAD.out.symm, ((Below.refl _ _).drewN' _).drewN' _⟩
            | false =>
              have c4' : (iand s t == iand t0 t1) = true := by simpa using c4
              have hgood : petal l s k = true := by rw [hpet, c1, c2', c4']; simp
              have HG := Lib.hid hgood
              obtain ⟨q, hq⟩ : ∃ q, q = iand s t := ⟨_, rfl⟩
              obtain ⟨q0, hq0⟩ : ∃ q, q = iand s t0 := ⟨_, rfl⟩
              obtain ⟨q1, hq1⟩ : ∃ q, q = iand t0 t1 := ⟨_, rfl⟩
              rw [← hq] at h1 c2 c4
              rw [← hq0] at h2 c2
              rw [← hq1] at h3 c4
              clear hgood bad hpet hc hm hq hq0 hq1 c2' c4' g1 ht1
              go_wp2_with fail
              go_quiet (fail)
              go_wp2
              go_roundw
              case rel => exact ⟨k + 1, n + nq, by omega, by go_num, allTo_succ H.out HG.out, by simp⟩
              case measure => simp [intOf]; omega
    · have hkl : k = l.length := by omega
      subst hkl
      go_wp2
      go_ret
      exact ⟨ret_bool H.out.symm, (Below.refl _ _).drewN' _⟩
end Go.Proofs.Ytmlpcohailjccaa
