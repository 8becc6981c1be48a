/- Which lists are sunflowers: the second program; kernels. -/
import Derived.Test.YtmlpcohailjccaaSunK
namespace Go.Proofs.Ytmlpcohailjccaa
open Go.RowKit Go.G5

set_option maxHeartbeats 2000000 in
set_option maxRecDepth 100000 in
theorem l24Valid_any (l : List Int) (v : Value) (w : World) (hv : Ints w v l) :
    Calls Try.prog 103 #[v] w fun e w' => e = .returned (.bool (valS l)) ∧ Below w.heap.size w w' := by
  obtain ⟨a, b, off, c, rfl, hlen, hix, hc, hb⟩ := hv.view Try.prog 22 3 Try.underlying22 intElem
  by_cases h64 : l.length ≤ 64
  · have h64i : ¬ (64 : Int) < (l.length : Int) := by omega
    have hx : valS l = allTo (vAt l) l.length := by unfold valS; rw [decide_eq_true h64, Bool.true_and]
    have HX := Lib.hid hx
    clear hx
    go_enter Try.func103, Try.ntmps103
    go_wp2_with fail
    go_loopw [3] (fun i wr => ∃ k : Nat, k ≤ l.length ∧ i = .int .i64 k ∧ allTo (vAt l) k = true ∧ Below w.heap.size w wr) (fun i _ => l.length - (intOf i).toNat)
    case atStart => exact ⟨0, Nat.zero_le _, rfl, rfl, Below.refl _ _⟩
    case round =>
      obtain ⟨k, hk, rfl, hall, B⟩ := hrel
      have H := Lib.hid hall
      clear hall
      by_cases hlt : k < l.length
      · have hlt2 : (k : Int) < (l.length : Int) := by omega
        have ck := cells_below hc hb B (Nat.le_refl _) k hlt
        have ik := fun W => hix W k hlt
        have hgk := getD_at l k hlt
        have hvk : vAt l k = (isSet 6 l[k] && allTo (dAt l k) k) := by unfold vAt; rw [hgk]
        have HC := Lib.hid hc
        have HIX := Lib.hid hix
        have hin : inB l[k] 0 63 = isSet 6 l[k] := by
          cases hs : isSet 6 l[k] with
          | true => have := (isSet6 _).1 hs; exact inB_true.2 ⟨this.1, by omega⟩
          | false =>
            cases hq : inB l[k] 0 63 with
            | false => rfl
            | true =>
              have h2 := inB_true.1 hq
              have := (isSet6 l[k]).2 ⟨h2.1, by omega⟩
              rw [this] at hs
              cases hs
        obtain ⟨y, hy⟩ : ∃ y, y = l[k] := ⟨_, rfl⟩
        rw [← hy] at ck hvk hin hgk
        have HIN := Lib.hid hin
        have HGK := Lib.hid hgk
        have HYV := Lib.hid hy.symm
        have HVK := Lib.hid hvk
        have e63 : (63 : Int) = 2 ^ (6 : Int).toNat - 1 := by decide
        have HE63 := Lib.hid e63
        rw [e63] at HIN
        clear hin hgk hvk hc hix hy e63
        cases hs : isSet 6 y with
        | false =>
          have hno : valS l = false := by rw [HX.out]; exact allTo_false hlt (by rw [HVK.out, hs]; rfl)
          have HNO := Lib.hid hno
          have HS := Lib.hid hs
          clear hno hs
          have hyk : ∀ x : Ext wr, x.w.cell? ⟨b, off + k, none⟩ = some (.int .i64 y) := fun x => x.cell ck
          go_wp2_with fail
          refine wp_region_ext _ (by kernel_rfl) (by kernel_rfl) ?_
          repeat (first | go_big_quiet_skip | (go_big_quiet_want; go_big_quiet_op; first | go_big_quiet_on | (apply Exists.intro; refine ⟨fun _ => ?_, ?_⟩; (first | (go_at_call 117; exact ext_same (l2Full_i 6 _ (by decide) (by decide))) | (go_at_call 96; exact ext_sameB (l1In_any _ _ _ _) (HIN.out.trans HS.out))); go_big_quiet_on)))
          refine wpQuiet_nil ?_
          rintro w3 ⟨⟨w3, hb3⟩, rfl⟩
          try dsimp only
          go_wp2
          go_ret
          exact ⟨ret_bool HNO.out.symm, B.after hb3 B.size⟩
        | true =>
          have HS := Lib.hid hs
          clear hs
          have hyk : ∀ x : Ext wr, x.w.cell? ⟨b, off + k, none⟩ = some (.int .i64 y) := fun x => x.cell ck
          go_wp2_with fail
          refine wp_region_ext _ (by kernel_rfl) (by kernel_rfl) ?_
          repeat (first | go_big_quiet_skip | (go_big_quiet_want; go_big_quiet_op; first | go_big_quiet_on | (apply Exists.intro; refine ⟨fun _ => ?_, ?_⟩; (first | (go_at_call 117; exact ext_same (l2Full_i 6 _ (by decide) (by decide))) | (go_at_call 96; exact ext_sameB (l1In_any _ _ _ _) (HIN.out.trans HS.out))); go_big_quiet_on)))
          refine wpQuiet_nil ?_
          rintro w3 ⟨⟨w3, hb3⟩, rfl⟩
          try dsimp only
          clear hyk
          have B3 := B.after hb3 B.size
          obtain ⟨wo, rfl⟩ : ∃ wo : World, wo = w3 := ⟨_, rfl⟩
          go_wp2_with fail
          go_loopw [4] (fun i wi => ∃ j : Nat, j ≤ k ∧ i = .int .i64 j ∧ allTo (dAt l k) j = true ∧ Below w.heap.size w wi) (fun i _ => k - (intOf i).toNat)
          case atStart => exact ⟨0, Nat.zero_le _, rfl, rfl, B3⟩
          case round =>
            obtain ⟨j, hj, rfl, hin2, Bj⟩ := hrel
            obtain ⟨wi, hwi⟩ : ∃ wi : World, wi = wr := ⟨_, rfl⟩
            subst hwi
            clear B3
            have HD := Lib.hid hin2
            clear hin2 ck ik
            have ck := cells_below HC.out hb Bj (Nat.le_refl _) k hlt
            have ckv : wi.cell? ⟨b, off + k, none⟩ = some (.int .i64 y) := by rw [ck, HYV.out]
            clear ck
            by_cases hjk : j < k
            · have hjk2 : (j : Int) < (k : Int) := by omega
              have hjl : j < l.length := by omega
              have cj := cells_below HC.out hb Bj (Nat.le_refl _) j hjl
              have ij := fun W => HIX.out W j hjl
              have ik := fun W => HIX.out W k hlt
              have hda : dAt l k j = !(l[j] == y) := by unfold dAt; rw [getD_at l j hjl, HGK.out]
              obtain ⟨z, hz⟩ : ∃ z, z = l[j] := ⟨_, rfl⟩
              rw [← hz] at cj hda
              have HDA := Lib.hid hda
              clear hz hda
              by_cases hzy : z = y
              · have hze : (z == y) = true := by simp [hzy]
                have hno : valS l = false := by rw [HX.out]; exact allTo_false hlt (by rw [HVK.out]; rw [allTo_false hjk (by rw [HDA.out, hze]; rfl)]; simp)
                have HNO := Lib.hid hno
                clear hno hzy
                go_wp2
                go_quiet (fail)
                go_wp2
                go_ret
                exact ⟨ret_bool HNO.out.symm, Bj.drewN' _⟩
              · have hze : (z == y) = false := by simp [hzy]
                have HZE := Lib.hid hze
                clear hzy
                go_wp2
                go_quiet (fail)
                go_wp2
                go_roundw
                case rel => exact ⟨j + 1, by omega, by go_num, allTo_succ HD.out (by rw [HDA.out, HZE.out]; rfl), Bj.drewN' _⟩
                case measure => simp [intOf]; omega
            · have hjk2 : ¬ (j : Int) < (k : Int) := by omega
              have hje : j = k := by omega
              subst hje
              have hv1 : vAt l j = true := by rw [HVK.out, HS.out, HD.out]; rfl
              have HV1 := Lib.hid hv1
              clear hv1
              go_wp2
              go_roundw
              case rel => exact ⟨j + 1, by omega, by go_num, allTo_succ H.out HV1.out, Bj⟩
              case measure => simp [intOf]; omega
      · have hlt2 : ¬ (k : Int) < (l.length : Int) := by omega
        have hkl : k = l.length := by omega
        have hyes : valS l = true := by rw [HX.out, ← hkl]; exact H.out
        have HY := Lib.hid hyes
        clear hkl hyes
        go_wp2
        go_ret
        exact ⟨ret_bool HY.out.symm, B⟩
  · have h64i : (64 : Int) < (l.length : Int) := by omega
    have hx : valS l = false := by unfold valS; rw [decide_eq_false h64]; rfl
    have HX := Lib.hid hx
    clear hx
    go_enter Try.func103, Try.ntmps103
    go_wp2
    go_ret
    exact ⟨ret_bool HX.out.symm, Below.refl _ _⟩
end Go.Proofs.Ytmlpcohailjccaa
