/- Sunflowers: the test of the second program. -/
import Derived.Test.YtmlpcohailjccaaFlowerI
namespace Go.Proofs.Ytmlpcohailjccaa
open Go.RowKit Go.G5

set_option maxHeartbeats 2000000 in
theorem l24Sun_any (l : List Int) (v : Value) (w : World) (hv : Ints w v l) (hm : ∀ x ∈ l, 0 ≤ x ∧ x < 64) :
    Calls Try.prog 104 #[v] w fun e w' => e = .returned (.bool (sunS l)) ∧ Below w.heap.size w w' := by
  obtain ⟨a, b, off, c, rfl, hlen, hix, hc, hb⟩ := hv.view Try.prog 22 3 Try.underlying22 intElem
  obtain ⟨F, hF⟩ : ∃ F : Nat → Bool, F = fun i => allTo (pairS l i) i := ⟨_, rfl⟩
  have hsun : sunS l = allTo F l.length := by rw [hF]; rfl
  have HS := Lib.hid hsun
  have HF := Lib.hid hF
  have HC := Lib.hid hc
  have HX := Lib.hid hix
  have HM := Lib.hid hm
  clear hsun hF hc hix hm
  go_enter Try.func104, Try.ntmps104
  go_wp2
  go_loopw [3] (fun i wr => ∃ k n : Nat, k ≤ l.length ∧ i = .int .i64 k ∧ allTo F k = true ∧ wr = w.drewN n) (fun i _ => l.length - (intOf i).toNat)
  case atStart => exact ⟨0, 0, Nat.zero_le _, rfl, rfl, rfl⟩
  case round =>
    obtain ⟨k, n, hk, rfl, hall, rfl⟩ := hrel
    have H := Lib.hid hall
    clear hall
    by_cases hlt : k < l.length
    · have hFk : F k = allTo (pairS l k) k := by rw [HF.out]
      have bad : F k = false → sunS l = false := fun h => by rw [HS.out]; exact allTo_false hlt h
      have HBAD := Lib.hid bad
      have HFK := Lib.hid hFk
      clear bad hFk
      go_wp2
      go_loopw [4] (fun i wr => ∃ j n' : Nat, j ≤ k ∧ i = .int .i64 j ∧ allTo (pairS l k) j = true ∧ wr = w.drewN n') (fun i _ => k - (intOf i).toNat)
      case atStart => exact ⟨0, n, Nat.zero_le _, rfl, rfl, rfl⟩
      case round =>
        obtain ⟨j, n', hj, rfl, hin, rfl⟩ := hrel
        have HIN := Lib.hid hin
        clear hin
        by_cases hjk : j < k
        · have hck := HC.out k hlt
          have hcj := HC.out j (by omega)
          have hc0 := HC.out 0 (by omega)
          have hc1 := HC.out 1 (by omega)
          rw [Nat.add_zero] at hc0
          have hixk := fun W => HX.out W k hlt
          have hixj := fun W => HX.out W j (by omega)
          have hix0 : ∀ w', (Instr.indexAt 22 (.slice a l.length c) (.int .i64 0)).run Try.prog w' = .ok (.pointer (some ⟨b, off, none⟩)) w' := fun w' => by have := HX.out w' 0 (by omega); simpa using this
          have hix1 : ∀ w', (Instr.indexAt 22 (.slice a l.length c) (.int .i64 1)).run Try.prog w' = .ok (.pointer (some ⟨b, off + 1, none⟩)) w' := fun w' => by have := HX.out w' 1 (by omega); simpa using this
          have hmk := HM.out _ (List.getElem_mem hlt)
          have hmj := HM.out _ (List.getElem_mem (show j < l.length by omega))
          have hm0 := HM.out _ (List.getElem_mem (show 0 < l.length by omega))
          have hm1 := HM.out _ (List.getElem_mem (show 1 < l.length by omega))
          have hpair : pairS l k j = (iand l[k] l[j] == iand l[0] l[1]) := by
            unfold pairS; rw [getD_at l k hlt, getD_at l j (by omega), getD_at l 0 (by omega), getD_at l 1 (by omega)]
          obtain ⟨tk, hk'⟩ : ∃ t, t = l[k] := ⟨_, rfl⟩
          obtain ⟨tj, hj'⟩ : ∃ t, t = l[j] := ⟨_, rfl⟩
          obtain ⟨t0, h0'⟩ : ∃ t, t = l[0] := ⟨_, rfl⟩
          obtain ⟨t1, h1'⟩ : ∃ t, t = l[1] := ⟨_, rfl⟩
          rw [← hk'] at hck hmk hpair
          rw [← hj'] at hcj hmj hpair
          rw [← h0'] at hc0 hm0 hpair
          rw [← h1'] at hc1 hm1 hpair
          have b1 := iand_is hmk.1 (show tk < 4611686018427387904 by omega) hmj.1 (show tj < 4611686018427387904 by omega)
          have b2 := iand_is hm0.1 (show t0 < 4611686018427387904 by omega) hm1.1 (show t1 < 4611686018427387904 by omega)
          obtain ⟨q, hq⟩ : ∃ q, q = iand tk tj := ⟨_, rfl⟩
          obtain ⟨q0, hq0⟩ : ∃ q, q = iand t0 t1 := ⟨_, rfl⟩
          rw [← hq] at b1 hpair
          rw [← hq0] at b2 hpair
          clear hk' hj' h0' h1' hq hq0 hmk hmj hm0 hm1
          cases hp : pairS l k j with
          | false =>
            have ht : (q != q0) = true := by rw [hp] at hpair; have := hpair.symm; simpa using this
            have hbad := HBAD.out (by rw [HFK.out]; exact allTo_false hjk hp)
            have HB := Lib.hid hbad
            clear hpair hp hbad
            go_wp2_with fail
            go_quiet (fail)
            go_wp2
            go_ret
            exact ⟨ret_bool HB.out.symm, ((Below.refl _ _).drewN' _).drewN' _⟩
          | true =>
            have ht : (q != q0) = false := by rw [hp] at hpair; have := hpair.symm; simpa using this
            have HP := Lib.hid hp
            clear hpair hp
            go_wp2_with fail
            go_quiet (fail)
            go_wp2
            go_roundw
            case rel => exact ⟨j + 1, n' + nq, by omega, by go_num, allTo_succ HIN.out HP.out, by simp⟩
            case measure => simp [intOf]; omega
        · have hjk' : j = k := by omega
          subst hjk'
          go_wp2
          go_roundw
          case rel => exact ⟨j + 1, n', by omega, by go_num, allTo_succ H.out (by rw [HFK.out]; exact HIN.out), rfl⟩
          case measure => simp [intOf]; omega
    · have hkl : k = l.length := by omega
      subst hkl
      go_wp2
      go_ret
      exact ⟨ret_bool (by rw [HS.out, H.out]), (Below.refl _ _).drewN' _⟩
end Go.Proofs.Ytmlpcohailjccaa
