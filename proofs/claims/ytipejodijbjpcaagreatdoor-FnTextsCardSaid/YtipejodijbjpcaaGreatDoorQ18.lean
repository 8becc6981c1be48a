/- Sets that are read: the second program. Families that are read: what is computed. Families that are read: the first program. -/
import Derived.Test.YtipejodijbjpcaaGreatDoorQ17
import Derived.Deep.DeepCutAuto
section
namespace Go.Proofs.YtipejodijbjpcaaGreatDoor
open Go.RowKit Go.G5

theorem byte_ne {b c : UInt8} (h : b ≠ c) : ((b.toNat : Int) != (c.toNat : Int)) = true := by
  rw [bne_iff_ne]
  intro e
  exact h (UInt8.toNat_inj.1 (by omega))
theorem byte_eq {b c : UInt8} (h : b = c) : ((b.toNat : Int) != (c.toNat : Int)) = false := by rw [h]; simp
set_option maxHeartbeats 2000000 in
set_option maxRecDepth 100000 in
theorem psetS_any (n : Int) (s : ByteArray) (w : World) (hs : s.size ≤ 2000000) :
    Calls Tryz.prog 145 #[.int .i64 n, .string s] w fun e w' => e = .returned (.tuple #[.int .i64 (psV n s), .bool (psB n s)]) ∧ Below w.heap.size w w' := by
  have hwi := l1In_any n 0 6 w
  cases hn : inB n 0 6 with
  | false =>
    rw [hn] at hwi
    have HPB := Lib.hid (psB_out (s := s) hn)
    have HW := Lib.hid hwi
    clear hn hwi
    go_enter Tryz.func145, Tryz.ntmps145
    go_wp2_with fail
    refine HW.out.mono ?_
    rintro e w1 ⟨rfl, rfl⟩
    go_wp2
    go_ret2
    exact ⟨ret_pair (psV_no HPB.out).symm HPB.out.symm, Below.refl _ _⟩
  | true =>
  rw [hn] at hwi
  have HW := Lib.hid hwi
  clear hwi
  by_cases hd : s = dashB
  · subst hd
    have hst : setTx n 0 = dashB := by
      obtain ⟨h0, h6⟩ := inB_true.1 hn
      have hp0 := (two_pow n.toNat n.toNat (Nat.le_refl _)).2
      have : setOk n 0 = true := by
        unfold setOk; rw [hn]
        exact isSet_true.2 ⟨Int.le_refl _, hp0⟩
      unfold setTx; rw [if_pos this, if_pos rfl]
    have HD := Lib.hid (psB_dash hn)
    have hte : ((dashB).toList == [45]) = true := by rw [show ([45] : List UInt8) = dashB.toList by decide +kernel, str_eq]; simp
    have hfs := fmtSetS_any n 0 w
    rw [hst] at hfs
    have HFS := Lib.hid hfs
    have hts : (dashB.toList == dashB.toList) = true := by simp
    clear hn hst hfs
    go_enter Tryz.func145, Tryz.ntmps145
    go_wp2_with fail
    refine HW.out.mono ?_
    rintro e w1 ⟨rfl, rfl⟩
    go_wp2_with fail
    go_loopw [6, 7, 8] (fun xv _ iv wr => iv = .int .i64 0 ∧ xv = .int .i64 0 ∧ wr = w) (fun _ _ _ _ => 0)
    case atStart => exact ⟨rfl, rfl, rfl⟩
    case round =>
      obtain ⟨rfl, rfl, rfl⟩ := hrel
      go_wp2_with fail
      refine HFS.out.mono ?_
      rintro e w2 ⟨rfl, b2⟩
      go_wp2
      go_ret2
      exact ⟨ret_pair HD.out.2.symm HD.out.1.symm, b2⟩
  have hte : (s.toList == [45]) = false := by rw [show ([45] : List UInt8) = dashB.toList by decide +kernel, str_eq, decide_eq_false hd]
  obtain ⟨h0, h6⟩ := inB_true.1 hn
  obtain ⟨N, rfl⟩ := Int.eq_ofNat_of_zero_le h0
  have hbad := psB_bad (n := (N : Int)) hd
  have hfin := psB_fin hn hd
  have hyes := psV_yes (n := (N : Int)) hd
  have hlt0 := psTo_lt N (cutB 44 s)
  have hpart := cutB_part 44 s
  have hca := cutAt_0 44 s
  obtain ⟨ps, hps⟩ : ∃ ps, ps = cutB 44 s := ⟨_, rfl⟩
  rw [← hps] at hbad hfin hyes hlt0 hpart hca
  have hN6 : (2 : Nat) ^ N ≤ 2 ^ 6 := Nat.pow_le_pow_right (by decide) (by omega)
  have HBAD := Lib.hid hbad
  have HFIN := Lib.hid hfin
  have HYES := Lib.hid hyes
  have HLT := Lib.hid hlt0
  have HPART := Lib.hid hpart
  have HCA := Lib.hid hca
  clear hbad hfin hyes hlt0 hpart hps hd hn hca
  go_enter Tryz.func145, Tryz.ntmps145
  go_wp2_with fail
  refine HW.out.mono ?_
  rintro e w1 ⟨rfl, rfl⟩
  go_wp2_with fail
  clear HW
  go_loopw [6, 7, 8] (fun uv pv iv wr => ∃ (j k : Nat) (P : ByteArray), iv = .int .i64 k ∧ pv = .string P ∧ uv = .int .i64 (psTo ps j : Int) ∧ (ps.take j).all (elP (N : Int)) = true ∧ (CutAt 44 s ps j P k ∨ (k = s.size + 1 ∧ j = ps.length)) ∧ Below w.heap.size w wr) (fun _ _ iv _ => s.size + 1 - (intOf iv).toNat)
  case atStart => exact ⟨0, 0, ByteArray.empty, rfl, rfl, rfl, rfl, .inl HCA.out, Below.refl _ _⟩
  case round =>
    obtain ⟨j, k, P, rfl, rfl, rfl, hall, hst, Bw⟩ := hrel
    have HALL := Lib.hid hall
    clear hall HCA
    rcases hst with hst | ⟨hk1, hj1⟩
    · have hks := hst.2.1
      have hPk := hst.2.2
      have hle : (k : Int) ≤ (s.size : Int) := by omega
      have hjl : j ≤ ps.length := by
        by_cases h : k < s.size
        · by_cases hc : s[k] = 44
          · exact Nat.le_of_lt (cutAt_end hst h hc).1
          · refine Nat.le_of_not_lt fun hgt => ?_
            have h1 := hst.1
            rw [List.drop_eq_nil_of_le (by omega)] at h1
            exact cutA_ne _ _ _ (List.map_eq_nil_iff.1 h1.symm)
        · exact Nat.le_of_lt (cutAt_fin hst h).1
      have hu := HLT.out j hjl HALL.out
      by_cases hlt : k < s.size
      · have hlt2 : (k : Int) < (s.size : Int) := by omega
        by_cases hc : s[k] = 44
        · have hcb : ((s[k].toNat : Int) != 44) = false := byte_eq hc
          have hend := cutAt_end hst hlt hc
          have hend : j < ps.length ∧ ps.getD j ByteArray.empty = P ∧ (CutAt 44 s ps (j + 1) ByteArray.empty (k + 1) ∨ (k + 1 = s.size + 1 ∧ j + 1 = ps.length)) := ⟨hend.1, hend.2.1, .inl hend.2.2⟩
          clear hst hc hjl
          obtain ⟨hj2, hg, HNX⟩ := hend
          have hsz := HPART.out _ (List.getElem_mem hj2)
          have hgp : ps[j] = P := by rw [← getD_b ps j hj2]; exact hg
          rw [hgp] at hsz
          have hps1 : psTo ps (j + 1) = setBit (psTo ps j) (pN P).toNat := by rw [psTo, hg]
          have htk : (ps.take (j + 1)).all (elP (N : Int)) = elP (N : Int) P := by rw [List.take_succ_eq_append_getElem hj2, List.all_append, HALL.out, hgp]; simp
          have hfls := all_false_b (elP (N : Int)) ps j hj2
          rw [hgp] at hfls
          obtain ⟨u, hue⟩ : ∃ u, u = psTo ps j := ⟨_, rfl⟩
          rw [← hue] at hps1 hu ⊢
          have hpi := parseS_any P wr (by omega)
          have HPS := Lib.hid hps1
          have HTK := Lib.hid htk
          have HFLS := Lib.hid hfls
          have HNXT := Lib.hid HNX
          clear hg hps1 htk hfls hue hgp HNX
          cases hpb : pB P with
          | false =>
            rw [hpb] at hpi
            have hel : elP (N : Int) P = false := by unfold elP; rw [hpb]; rfl
            have HPI := Lib.hid hpi
            have HPB := Lib.hid (HBAD.out (HFLS.out hel))
            clear hpi hel hpb
            go_wp2_with fail
            refine HPI.out.mono ?_
            rintro e w2 ⟨rfl, b2⟩
            go_wp2
            go_ret2
            exact ⟨ret_pair (psV_no HPB.out).symm HPB.out.symm, Bw.after b2 Bw.size⟩
          | true =>
            rw [hpb, pV_yes hpb] at hpi
            have hei := fun W => l1In_any (pN P) 0 ((N : Int) - 1) W
            have hin : inB (pN P) 0 ((N : Int) - 1) = (decide (0 ≤ pN P) && decide (pN P < (N : Int))) := by
              unfold inB
              congr 1
              exact decide_eq_decide.2 (by omega)
            simp only [hin] at hei
            cases hel : (decide (0 ≤ pN P) && decide (pN P < (N : Int))) with
            | false =>
              simp only [hel] at hei
              have hel2 : elP (N : Int) P = false := by unfold elP; rw [hel]; simp
              obtain ⟨y, hy⟩ : ∃ y, y = pN P := ⟨_, rfl⟩
              rw [← hy] at hpi
              simp only [← hy] at hei
              have HPI := Lib.hid hpi
              have HEI := Lib.hid hei
              have HPB := Lib.hid (HBAD.out (HFLS.out hel2))
              clear hpi hel hel2 hpb hei hy hin
              go_wp2_with fail
              refine HPI.out.mono ?_
              rintro e w2 ⟨rfl, b2⟩
              go_wp2_with fail
              refine (HEI.out _).mono ?_
              rintro e w3 ⟨rfl, rfl⟩
              go_wp2
              go_ret2
              exact ⟨ret_pair (psV_no HPB.out).symm HPB.out.symm, Bw.after b2 Bw.size⟩
            | true =>
              simp only [hel] at hei
              have hel2 : elP (N : Int) P = true := by unfold elP; rw [hpb, hel]; rfl
              obtain ⟨_, e, he, heN⟩ := elP_nat hel2
              have hps1 := HPS.out
              rw [he] at hpi hps1
              simp only [he] at hei
              rw [Int.toNat_natCast] at hps1
              have hsb := setBit_is u e (by omega) (by omega)
              have htk : (ps.take (j + 1)).all (elP (N : Int)) = true := by rw [HTK.out, hel2]
              have he6 : (e : Int) < 6 := by omega
              have hp2 := pow2_bd' (e : Int) (by omega)
              rw [Int.toNat_natCast] at hp2
              have hp3 := hp2.1
              have hp4 := hp2.2
              obtain ⟨u2, hu2⟩ : ∃ u2, u2 = setBit u e := ⟨_, rfl⟩
              rw [← hu2] at hsb hps1
              have HPS1 := Lib.hid hps1
              have HPI := Lib.hid hpi
              have HEI := Lib.hid hei
              have HTK1 := Lib.hid htk
              clear hpi hel hel2 hpb hei htk he hp2 hps1 hu2 hin
              go_wp2_with fail
              refine HPI.out.mono ?_
              rintro e w2 ⟨rfl, b2⟩
              have B2 := Bw.after b2 Bw.size
              clear Bw
              go_wp2_with fail
              refine (HEI.out _).mono ?_
              rintro e w3 ⟨rfl, rfl⟩
              go_wp2
              go_roundw
              case rel => exact ⟨j + 1, k + 1, _, by go_num, rfl, by rw [HPS1.out], HTK1.out, HNXT.out, B2⟩
              case measure => simp [intOf]; omega
        · have hcb : ((s[k].toNat : Int) != 44) = true := byte_ne hc
          have hnx := cutAt_next hst hlt hc
          have hz := one_size P s k hlt
          have HNX := Lib.hid hnx
          have hz2 : P.size + 1 ≤ s.size := by omega
          clear hst hc hnx hjl hz
          go_wp2
          go_roundw
          case rel => exact ⟨j, k + 1, _, by go_num, rfl, rfl, HALL.out, .inl HNX.out, Bw⟩
          case measure => simp [intOf]; omega
      · have hlt2 : ¬ (k : Int) < (s.size : Int) := by omega
        have hend := cutAt_fin hst hlt
        have hend : j < ps.length ∧ ps.getD j ByteArray.empty = P ∧ (CutAt 44 s ps (j + 1) ByteArray.empty (k + 1) ∨ (k + 1 = s.size + 1 ∧ j + 1 = ps.length)) := ⟨hend.1, hend.2.1, .inr ⟨by omega, hend.2.2⟩⟩
        clear hst hjl
        obtain ⟨hj2, hg, HNX⟩ := hend
        have hsz := HPART.out _ (List.getElem_mem hj2)
        have hgp : ps[j] = P := by rw [← getD_b ps j hj2]; exact hg
        rw [hgp] at hsz
        have hps1 : psTo ps (j + 1) = setBit (psTo ps j) (pN P).toNat := by rw [psTo, hg]
        have htk : (ps.take (j + 1)).all (elP (N : Int)) = elP (N : Int) P := by rw [List.take_succ_eq_append_getElem hj2, List.all_append, HALL.out, hgp]; simp
        have hfls := all_false_b (elP (N : Int)) ps j hj2
        rw [hgp] at hfls
        obtain ⟨u, hue⟩ : ∃ u, u = psTo ps j := ⟨_, rfl⟩
        rw [← hue] at hps1 hu ⊢
        have hpi := parseS_any P wr (by omega)
        have HPS := Lib.hid hps1
        have HTK := Lib.hid htk
        have HFLS := Lib.hid hfls
        have HNXT := Lib.hid HNX
        clear hg hps1 htk hfls hue hgp HNX
        cases hpb : pB P with
        | false =>
          rw [hpb] at hpi
          have hel : elP (N : Int) P = false := by unfold elP; rw [hpb]; rfl
          have HPI := Lib.hid hpi
          have HPB := Lib.hid (HBAD.out (HFLS.out hel))
          clear hpi hel hpb
          go_wp2_with fail
          refine HPI.out.mono ?_
          rintro e w2 ⟨rfl, b2⟩
          go_wp2
          go_ret2
          exact ⟨ret_pair (psV_no HPB.out).symm HPB.out.symm, Bw.after b2 Bw.size⟩
        | true =>
          rw [hpb, pV_yes hpb] at hpi
          have hei := fun W => l1In_any (pN P) 0 ((N : Int) - 1) W
          have hin : inB (pN P) 0 ((N : Int) - 1) = (decide (0 ≤ pN P) && decide (pN P < (N : Int))) := by
            unfold inB
            congr 1
            exact decide_eq_decide.2 (by omega)
          simp only [hin] at hei
          cases hel : (decide (0 ≤ pN P) && decide (pN P < (N : Int))) with
          | false =>
            simp only [hel] at hei
            have hel2 : elP (N : Int) P = false := by unfold elP; rw [hel]; simp
            obtain ⟨y, hy⟩ : ∃ y, y = pN P := ⟨_, rfl⟩
            rw [← hy] at hpi
            simp only [← hy] at hei
            have HPI := Lib.hid hpi
            have HEI := Lib.hid hei
            have HPB := Lib.hid (HBAD.out (HFLS.out hel2))
            clear hpi hel hel2 hpb hei hy hin
            go_wp2_with fail
            refine HPI.out.mono ?_
            rintro e w2 ⟨rfl, b2⟩
            go_wp2_with fail
            refine (HEI.out _).mono ?_
            rintro e w3 ⟨rfl, rfl⟩
            go_wp2
            go_ret2
            exact ⟨ret_pair (psV_no HPB.out).symm HPB.out.symm, Bw.after b2 Bw.size⟩
          | true =>
            simp only [hel] at hei
            have hel2 : elP (N : Int) P = true := by unfold elP; rw [hpb, hel]; rfl
            obtain ⟨_, e, he, heN⟩ := elP_nat hel2
            have hps1 := HPS.out
            rw [he] at hpi hps1
            simp only [he] at hei
            rw [Int.toNat_natCast] at hps1
            have hsb := setBit_is u e (by omega) (by omega)
            have htk : (ps.take (j + 1)).all (elP (N : Int)) = true := by rw [HTK.out, hel2]
            have he6 : (e : Int) < 6 := by omega
            have hp2 := pow2_bd' (e : Int) (by omega)
            rw [Int.toNat_natCast] at hp2
            have hp3 := hp2.1
            have hp4 := hp2.2
            obtain ⟨u2, hu2⟩ : ∃ u2, u2 = setBit u e := ⟨_, rfl⟩
            rw [← hu2] at hsb hps1
            have HPS1 := Lib.hid hps1
            have HPI := Lib.hid hpi
            have HEI := Lib.hid hei
            have HTK1 := Lib.hid htk
            clear hpi hel hel2 hpb hei htk he hp2 hps1 hu2 hin
            go_wp2_with fail
            refine HPI.out.mono ?_
            rintro e w2 ⟨rfl, b2⟩
            have B2 := Bw.after b2 Bw.size
            clear Bw
            go_wp2_with fail
            refine (HEI.out _).mono ?_
            rintro e w3 ⟨rfl, rfl⟩
            go_wp2
            go_roundw
            case rel => exact ⟨j + 1, k + 1, _, by go_num, rfl, by rw [HPS1.out], HTK1.out, HNXT.out, B2⟩
            case measure => simp [intOf]; omega
    · have hle : ¬ (k : Int) ≤ (s.size : Int) := by omega
      have hu := HLT.out j (by omega) HALL.out
      have hall := HALL.out
      rw [hj1, List.take_length] at hall
      have hfb := HFIN.out hall
      have hyy := HYES.out
      rw [show psF ps = psTo ps j by unfold psF; rw [hj1]] at hfb hyy
      have hfs := fmtSetS_any (N : Int) (psTo ps j : Int) wr
      obtain ⟨T, hT⟩ : ∃ T, T = setTx (N : Int) (psTo ps j : Int) := ⟨_, rfl⟩
      rw [← hT] at hfs hfb
      obtain ⟨u, hue⟩ : ∃ u, u = psTo ps j := ⟨_, rfl⟩
      rw [← hue] at hfs hyy hu ⊢
      have HFS := Lib.hid hfs
      have HFB := Lib.hid hfb
      have HYY := Lib.hid hyy
      clear hk1 hj1 hall hfb hyy hfs hT hue
      go_wp2_with fail
      refine HFS.out.mono ?_
      rintro e w2 ⟨rfl, b2⟩
      by_cases ht : T = s
      · have hpb : psB (N : Int) s = true := by rw [HFB.out, decide_eq_true ht]
        have hte2 : (T.toList == s.toList) = true := by rw [str_eq, decide_eq_true ht]
        have HPB := Lib.hid hpb
        clear hpb ht
        go_wp2
        go_ret2
        exact ⟨ret_pair (HYY.out HPB.out).symm HPB.out.symm, Bw.after b2 Bw.size⟩
      · have hpb : psB (N : Int) s = false := by rw [HFB.out, decide_eq_false ht]
        have hte2 : (T.toList == s.toList) = false := by rw [str_eq, decide_eq_false ht]
        have HPB := Lib.hid hpb
        clear hpb ht
        go_wp2
        go_ret2
        exact ⟨ret_pair (psV_no HPB.out).symm HPB.out.symm, Bw.after b2 Bw.size⟩
end Go.Proofs.YtipejodijbjpcaaGreatDoor
end
section
namespace Go.Proofs.YtipejodijbjpcaaGreatDoor
open Go.RowKit Go.G5

def pmB (n : Int) (s : ByteArray) : Bool := inB n 0 6 && (decide (s = noneB) || ((cutB 124 s).all (psB n) && isFamB n ((cutB 124 s).map (psV n))))
def pmN (n : Int) (s : ByteArray) : Int := if pmB n s then n else 0
def pmL (n : Int) (s : ByteArray) : List Int := if pmB n s then (if s = noneB then [] else (cutB 124 s).map (psV n)) else []
theorem pmB_out {n : Int} {s : ByteArray} (hn : inB n 0 6 = false) : pmB n s = false := by unfold pmB; rw [hn]; rfl
theorem pm_no {n : Int} {s : ByteArray} (h : pmB n s = false) : pmN n s = 0 ∧ pmL n s = [] := by unfold pmN pmL; rw [h]; exact ⟨rfl, rfl⟩
theorem pm_none {n : Int} (hn : inB n 0 6 = true) : pmB n noneB = true ∧ pmN n noneB = n ∧ pmL n noneB = [] := by
  have : pmB n noneB = true := by unfold pmB; rw [hn]; simp
  unfold pmN pmL
  rw [this]
  exact ⟨rfl, rfl, by simp⟩
theorem pm_bad {n : Int} {s : ByteArray} (hd : s ≠ noneB) (h : (cutB 124 s).all (psB n) = false) : pmB n s = false := by
  unfold pmB
  rw [h, decide_eq_false hd]
  simp
theorem pm_fin {n : Int} {s : ByteArray} (hn : inB n 0 6 = true) (hd : s ≠ noneB) (h : (cutB 124 s).all (psB n) = true) : pmB n s = isFamB n ((cutB 124 s).map (psV n)) := by
  unfold pmB
  rw [h, decide_eq_false hd, hn]
  simp
theorem pm_yes {n : Int} {s : ByteArray} (hd : s ≠ noneB) (h : pmB n s = true) : pmN n s = n ∧ pmL n s = (cutB 124 s).map (psV n) := by
  unfold pmN pmL
  rw [if_pos h, if_pos h, if_neg hd]
  exact ⟨rfl, rfl⟩
theorem pm_fam {n : Int} {s : ByteArray} (h : pmB n s = true) : isFamB n (pmL n s) = true := by
  by_cases hd : s = noneB
  · subst hd
    have hn : inB n 0 6 = true := by unfold pmB at h; rw [Bool.and_eq_true] at h; exact h.1
    rw [(pm_none hn).2.2]
    unfold isFamB areSetsB ascB
    rw [hn]; simp
  · have hn : inB n 0 6 = true := by unfold pmB at h; rw [Bool.and_eq_true] at h; exact h.1
    have ha : (cutB 124 s).all (psB n) = true := by
      cases hx : (cutB 124 s).all (psB n) with
      | true => rfl
      | false => rw [pm_bad hd hx] at h; cases h
    rw [(pm_yes hd h).2, ← pm_fin hn hd ha]; exact h
theorem psV_bd (n : Int) (s : ByteArray) : 0 ≤ psV n s ∧ psV n s < 64 := by
  cases h : psB n s with
  | false => rw [psV_no h]; omega
  | true =>
    have hn : inB n 0 6 = true := by unfold psB at h; rw [Bool.and_eq_true] at h; exact h.1
    obtain ⟨h0, h6⟩ := inB_true.1 hn
    obtain ⟨N, rfl⟩ := Int.eq_ofNat_of_zero_le h0
    have h1 := psV_set h
    have h2 := (two_pow N 6 (by omega)).1
    simp at h2
    omega
theorem snoc_map (n : Int) (ps : List ByteArray) (k : Nat) (h : k < ps.length) : (ps.take (k + 1)).map (psV n) = (ps.take k).map (psV n) ++ [psV n ps[k]] := by
  rw [List.take_succ_eq_append_getElem h, List.map_append]; rfl
/-- a field of a box is set -/
theorem box_tail {w W Wf : World} {r : Nat} {E : TypeId} {n m : Int} {a b : Value} {ad : Option Addr} {i cp : Nat} {l : List Int} {B : Nat}
    (K : Blk W r E #[.int .i64 n, a]) (o : OwnI 3 B W (.slice ad i cp) l) (hr : w.heap.size ≤ r) (hB : r < B) (hb : Below w.heap.size w W)
    (hWf : Wf = (W.setCell ⟨r, 0, none⟩ (.int .i64 m)).setCell ⟨r, 1, none⟩ b) : Blk Wf r E #[.int .i64 m, b] ∧ OwnI 3 w.heap.size Wf (.slice ad i cp) l ∧ Below w.heap.size w Wf := by
  refine ⟨?_, ?_, ?_⟩
  · rw [hWf]
    have := (K.set 0 (.int .i64 m)).set 1 b
    simpa using this
  · rw [hWf]
    exact ((o.setBelow (by show r < B; exact hB) _).setBelow (by show r < B; exact hB) _).mono (by omega)
  · rw [hWf]
    exact Below.setCell (Below.setCell hb hr _) hr _
end Go.Proofs.YtipejodijbjpcaaGreatDoor
end
section
namespace Go.Proofs.YtipejodijbjpcaaGreatDoor
open Go.RowKit Go.G5

set_option maxHeartbeats 2000000 in
set_option maxRecDepth 100000 in
theorem pfamI_any (n : Int) (s : ByteArray) (w : World) (hs : s.size ≤ 2000000) (hp : Pow w) (hm : MaxL w) :
    Calls Tryz.prog 28 #[.int .i64 n, .string s] w fun e w' => ∃ ad i c, e = .returned (.tuple #[.agg #[.int .i64 (pmN n s), .slice ad i c], .bool (pmB n s)]) ∧ OwnI 3 w.heap.size w' (.slice ad i c) (pmL n s) ∧ Below w.heap.size w w' := by
  obtain ⟨W1, hW1⟩ : ∃ W, W = w.alloc (.cells #[.int .i64 0, .slice none 0 0] 27) := ⟨_, rfl⟩
  have hwi := within_any n 0 6 W1
  have K0 : Blk W1 w.heap.size 27 #[.int .i64 0, .slice none 0 0] := by rw [hW1]; exact Blk.new _ _ _
  have B0 : Below w.heap.size w W1 := by rw [hW1]; exact bl1 _ _
  have hz1 : W1.heap.size = w.heap.size + 1 := by rw [hW1]; simp
  cases hn : inB n 0 6 with
  | false =>
    rw [hn] at hwi
    have hpb := pmB_out (s := s) hn
    have HPB := Lib.hid (And.intro hpb (pm_no hpb))
    have HW := Lib.hid hwi
    have G := K0.cell
    have F := K0.frozen
    clear hn hwi hpb
    go_enter Tryz.func28, Tryz.ntmps28
    go_wp2_with fail
    rw [← hW1]
    clear hW1
    refine HW.out.mono ?_
    rintro e w1 ⟨rfl, rfl⟩
    go_wp2
    refine post_named ?_
    intro Wf hWf
    have t := box_tail (w := w) (E := 27) (m := 0) (b := .slice none 0 0) K0 (OwnI.nil 3 (W1.heap.size) W1) (Nat.le_refl _) (by omega) B0 hWf
    have GF := t.1.cell
    exact bodyPost_ret (v := .tuple #[.agg #[.int .i64 0, .slice none 0 0], .bool false]) (by simp [results, Tryz.results28, go_sem, GF]) rfl ⟨none, 0, 0, by rw [HPB.out.1, HPB.out.2.1], by rw [HPB.out.2.2]; exact t.2.1, t.2.2⟩
  | true =>
  rw [hn] at hwi
  have HW := Lib.hid hwi
  obtain ⟨V, hV⟩ : ∃ V, V = W1.alloc (.cells #[.int .i64 n, .slice none 0 0] 27) := ⟨_, rfl⟩
  have K0V : Blk V w.heap.size 27 #[.int .i64 0, .slice none 0 0] := by rw [hV]; exact K0.alloc _
  have K1V : Blk V (w.heap.size + 1) 27 #[.int .i64 n, .slice none 0 0] := by rw [hV, ← hz1]; exact Blk.new _ _ _
  have BV : Below w.heap.size w V := by rw [hV]; exact B0.alloc (by omega) _
  have hzV : V.heap.size = w.heap.size + 2 := by rw [hV]; simp; omega
  have HZ := Lib.hid (And.intro hz1 hzV)
  have hz1' : w.heap.size + 1 ≤ W1.heap.size := by omega
  by_cases hd : s = noneB
  · subst hd
    have HD := Lib.hid (pm_none hn)
    have hte : (noneB.toList == [110, 111, 110, 101]) = true := by rw [show ([110, 111, 110, 101] : List UInt8) = noneB.toList by decide +kernel, str_eq]; simp
    have G0 := K0V.cell
    have F0 := K0V.frozen
    have G1 := K1V.cell
    clear hn hwi hz1 hzV
    go_enter Tryz.func28, Tryz.ntmps28
    go_wp2_with fail
    rw [← hW1]
    clear hW1
    refine HW.out.mono ?_
    rintro e w1 ⟨rfl, rfl⟩
    go_upto_region 4 with fail
    rw [← hV, HZ.out.1]
    clear hV
    go_wp2_with fail
    refine post_named ?_
    intro Wf hWf
    have t := box_tail (w := w) (E := 27) (m := n) (b := .slice none 0 0) K0V (OwnI.nil 3 (V.heap.size) V) (Nat.le_refl _) (by have := HZ.out; omega) BV hWf
    have GF := t.1.cell
    exact bodyPost_ret (v := .tuple #[.agg #[.int .i64 n, .slice none 0 0], .bool true]) (by simp [results, Tryz.results28, go_sem, GF]) rfl ⟨none, 0, 0, by rw [HD.out.1, HD.out.2.1], by rw [HD.out.2.2]; exact t.2.1, t.2.2⟩
  have hte : (s.toList == [110, 111, 110, 101]) = false := by rw [show ([110, 111, 110, 101] : List UInt8) = noneB.toList by decide +kernel, str_eq, decide_eq_false hd]
  have hbad := pm_bad (n := n) hd
  have hfin := pm_fin hn hd
  have hyes := pm_yes (n := n) hd
  have hlen := cutB_len 124 s
  have hpart := cutB_part 124 s
  have hsp := split_c 124 s V (hm.keep (by rw [hV, hW1]; exact bl2 _ _ _)) (by omega)
  obtain ⟨ps, hps⟩ : ∃ ps, ps = cutB 124 s := ⟨_, rfl⟩
  rw [← hps] at hbad hfin hyes hlen hpart hsp
  rw [hzV] at hsp
  have HBAD := Lib.hid hbad
  have HFIN := Lib.hid hfin
  have HYES := Lib.hid hyes
  have HPART := Lib.hid hpart
  have HSP := Lib.hid hsp
  clear hbad hfin hyes hpart hsp hps hd hn hwi
  go_enter Tryz.func28, Tryz.ntmps28
  go_wp2_with fail
  rw [← hW1]
  clear hW1
  refine HW.out.mono ?_
  rintro e w1 ⟨rfl, rfl⟩
  go_upto_region 4 with fail
  rw [← hV]
  clear hV hz1 hzV
  go_wp2_with fail
  refine HSP.out.mono ?_
  rintro e w1 ⟨rfl, rfl⟩
  have K2U : Blk (V.alloc (.cells (ps.map Value.string).toArray 9)) (w.heap.size + 2) 9 (ps.map Value.string).toArray := by rw [← HZ.out.2]; exact Blk.new _ _ _
  have K0U := K0V.alloc (.cells (ps.map Value.string).toArray 9)
  have K1U := K1V.alloc (.cells (ps.map Value.string).toArray 9)
  have BU := BV.alloc BV.size (.cells (ps.map Value.string).toArray 9)
  have o0 := OwnI.nil 3 (w.heap.size + 3) (V.alloc (.cells (ps.map Value.string).toArray 9))
  have zU : w.heap.size + 3 ≤ (V.alloc (.cells (ps.map Value.string).toArray 9)).heap.size := by have := HZ.out.2; simp; omega
  obtain ⟨U, hU⟩ : ∃ U, U = V.alloc (.cells (ps.map Value.string).toArray 9) := ⟨_, rfl⟩
  rw [← hU] at K2U K0U K1U BU o0 zU ⊢
  clear hU HW HSP hte K0V K1V BV K0 B0
  go_wp2_with fail
  go_loopw [23] (fun iv wr => ∃ (k : Nat) (ad : Option Addr) (i c : Nat), k ≤ ps.length ∧ iv = .int .i64 k ∧ (ps.take k).all (psB n) = true ∧ Below w.heap.size w wr ∧ w.heap.size + 3 ≤ wr.heap.size ∧ Blk wr w.heap.size 27 #[.int .i64 0, .slice none 0 0] ∧ Blk wr (w.heap.size + 1) 27 #[.int .i64 n, .slice ad i c] ∧ Blk wr (w.heap.size + 2) 9 (ps.map Value.string).toArray ∧ OwnI 3 (w.heap.size + 3) wr (.slice ad i c) ((ps.take k).map (psV n))) (fun iv _ => ps.length - (intOf iv).toNat)
  case atStart => exact ⟨0, none, 0, 0, Nat.zero_le _, rfl, rfl, BU, zU, K0U, K1U, K2U, o0⟩
  case round =>
    obtain ⟨k, ad, i, c, hk, rfl, hall, Bw, zw, K0w, K1w, K2w, ow⟩ := hrel
    have HALL := Lib.hid hall
    clear hall BU zU K0U K1U K2U o0
    by_cases hlt : k < ps.length
    · have hlt2 : (k : Int) < (ps.length : Int) := by omega
      have hcell := cut_cell K2w k hlt
      have hix := fun W => ix_str (w.heap.size + 2) ps.length ps.length k hlt W
      have hsz := HPART.out _ (List.getElem_mem hlt)
      have htk : (ps.take (k + 1)).all (psB n) = psB n ps[k] := by rw [List.take_succ_eq_append_getElem hlt, List.all_append, HALL.out]; simp
      have hfls := all_false_b (psB n) ps k hlt
      have hsn := snoc_map n ps k hlt
      obtain ⟨x, hx⟩ : ∃ x, x = ps[k] := ⟨_, rfl⟩
      rw [← hx] at hcell hsz htk hfls hsn
      have hpi := psetI_any n x wr (by omega) (hp.keep Bw) (hm.keep Bw)
      have hbd := psV_bd n x
      obtain ⟨y, hy⟩ : ∃ y, y = psV n x := ⟨_, rfl⟩
      rw [← hy] at hpi hbd hsn
      have hyr : InR y := ⟨by omega, by omega⟩
      have hll : ((ps.take k).map (psV n)).length ≤ 2000001 := by rw [List.length_map, List.length_take]; omega
      obtain ⟨l, hl⟩ : ∃ l, l = (ps.take k).map (psV n) := ⟨_, rfl⟩
      rw [← hl] at ow hsn hll
      have HTK := Lib.hid htk
      have HFLS := Lib.hid hfls
      have HSN := Lib.hid hsn
      clear htk hfls hsn hx hy hl
      cases hpb : psB n x with
      | false =>
        rw [hpb] at hpi
        have hpn := HBAD.out (HFLS.out hpb)
        have HPB := Lib.hid (And.intro hpn (pm_no hpn))
        have HPI := Lib.hid hpi
        clear hpi hpb hpn
        go_wp2_with fail
        refine HPI.out.mono ?_
        rintro e w2 ⟨rfl, b2⟩
        have K02 := K0w.keep b2
        have B2 := Bw.after b2 Bw.size
        have G := K02.cell
        have F := K02.frozen
        clear hcell hix
        go_wp2
        refine post_named ?_
        intro Wf hWf
        have t := box_tail (w := w) (E := 27) (m := 0) (b := .slice none 0 0) K02 (OwnI.nil 3 (w2.heap.size) w2) (Nat.le_refl _) K02.lt B2 hWf
        have GF := t.1.cell
        clear hWf G F
        exact bodyPost_ret (v := .tuple #[.agg #[.int .i64 0, .slice none 0 0], .bool false]) (by simp [results, Tryz.results28, go_sem, GF]) rfl ⟨none, 0, 0, by rw [HPB.out.1, HPB.out.2.1], by rw [HPB.out.2.2]; exact t.2.1, t.2.2⟩
      | true =>
        rw [hpb] at hpi
        have htk := HTK.out
        rw [hpb] at htk
        have HTK1 := Lib.hid htk
        have HPI := Lib.hid hpi
        clear hpi hpb htk
        go_wp2_with fail
        refine HPI.out.mono ?_
        rintro e w2 ⟨rfl, b2⟩
        have K02 := K0w.keep b2
        have K12 := K1w.keep b2
        have K22 := K2w.keep b2
        have o2 := ow.keep b2
        have B2 := Bw.after b2 Bw.size
        have z2 := b2.size
        have G := K12.cell
        have F := K12.frozen
        have hlt3 := o2.lt
        clear hcell hix Bw K0w K1w K2w ow b2
        go_wp2_with (at_builtin; refine wpList_appendI rfl _ _ _ rfl 3 Tryz.underlying22 intElem (w.heap.size + 3) _ l y w2.heap.size rfl rfl (cell_new _ _ _ _ _ rfl) (o2.alloc _) hyr (by omega) (by simp; omega) ?_; intro v7 w7 o7 g7; obtain ⟨p7, i7, q7, rfl⟩ := o7.shape3; have K17 := (K12.alloc (.cells #[.int .i64 y] 3)).grow g7 (by intro e; have := (hlt3 _ e).1; omega); have G7 := K17.cell; have F7 := K17.frozen)
        have K07 := (K02.alloc (.cells #[.int .i64 y] 3)).grow g7 (by intro e; have := (hlt3 _ e).1; omega)
        have K27 := (K22.alloc (.cells #[.int .i64 y] 3)).grow g7 (by intro e; have := (hlt3 _ e).1; omega)
        have B7 : Below w.heap.size w w7 := (B2.alloc B2.size (.cells #[.int .i64 y] 3)).grown g7 (by have := B2.size; simp; omega) (fun q hq => by have := (hlt3 q hq).1; omega)
        have z7 := g7.size
        simp at z7
        go_roundw
        case rel =>
          refine ⟨k + 1, p7, i7, q7, by omega, by go_num, HTK1.out, Below.setCell B7 (by show w.heap.size ≤ w.heap.size + 1; omega) _, by show w.heap.size + 3 ≤ (w7.setCell _ _).heap.size; simp; omega, K07.far (by show w.heap.size ≠ w.heap.size + 1; omega) _, ?_, K27.far (by show w.heap.size + 2 ≠ w.heap.size + 1; omega) _, ?_⟩
          · have := K17.set 1 (.slice p7 i7 q7)
            simpa using this
          · rw [HSN.out]
            exact o7.setBelow (by show w.heap.size + 1 < w.heap.size + 3; omega) _
        case measure => simp [intOf]; omega
    · have hlt2 : ¬ (k : Int) < (ps.length : Int) := by omega
      have hkl : k = ps.length := by omega
      have hall := HALL.out
      rw [hkl, List.take_length] at hall ow
      have hfb := HFIN.out hall
      have hyy := HYES.out
      have hpno := pm_no (n := n) (s := s)
      have hll : (ps.map (psV n)).length ≤ 2000001 := by rw [List.length_map]; omega
      obtain ⟨l, hl⟩ : ∃ l, l = ps.map (psV n) := ⟨_, rfl⟩
      rw [← hl] at ow hfb hyy hll
      have hfm := isFamI_any n l _ wr ow.ints
      rw [← hfb] at hfm
      have hic := ow.ints.capLe.1
      subst hic
      have HYY := Lib.hid hyy
      have HPN := Lib.hid hpno
      have HFM := Lib.hid hfm
      have G1 := K1w.cell
      clear hkl hall hfb hyy hpno hfm hl
      go_wp2_with fail
      refine HFM.out.mono ?_
      rintro e w2 ⟨rfl, b2⟩
      have K02 := K0w.keep b2
      have K12 := K1w.keep b2
      have o2 := ow.keep b2
      have B2 := Bw.after b2 Bw.size
      clear G1
      have G0 := K02.cell
      have F0 := K02.frozen
      have G1 := K12.cell
      cases hpb : pmB n s with
      | false =>
        have HPB := Lib.hid (HPN.out hpb)
        have HPB2 := Lib.hid hpb
        clear hpb
        go_wp2
        refine post_named ?_
        intro Wf hWf
        have t := box_tail (w := w) (E := 27) (m := 0) (b := .slice none 0 0) K02 (OwnI.nil 3 (w2.heap.size) w2) (Nat.le_refl _) K02.lt B2 hWf
        have GF := t.1.cell
        clear hWf G0 F0 G1
        exact bodyPost_ret (v := .tuple #[.agg #[.int .i64 0, .slice none 0 0], .bool false]) (by simp [results, Tryz.results28, go_sem, GF]) rfl ⟨none, 0, 0, by rw [HPB.out.1, HPB2.out], by rw [HPB.out.2]; exact t.2.1, t.2.2⟩
      | true =>
        have HPB := Lib.hid (HYY.out hpb)
        have HPB2 := Lib.hid hpb
        clear hpb
        go_wp2
        refine post_named ?_
        intro Wf hWf
        have t := box_tail (w := w) (E := 27) (m := n) (b := .slice ad l.length c) K02 o2 (Nat.le_refl _) (by omega) B2 hWf
        have GF := t.1.cell
        clear hWf G0 F0 G1
        exact bodyPost_ret (v := .tuple #[.agg #[.int .i64 n, .slice ad l.length c], .bool true]) (by simp [results, Tryz.results28, go_sem, GF]) rfl ⟨_, _, _, by rw [HPB.out.1, HPB2.out], by rw [HPB.out.2]; exact t.2.1, t.2.2⟩
end Go.Proofs.YtipejodijbjpcaaGreatDoor
end
