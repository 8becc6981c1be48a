/- Numbers that are read: both programs. -/
import Derived.Test.YtipejodijbjpcaaGreatDoorQ12
section
namespace Go.Proofs.YtipejodijbjpcaaGreatDoor
open Go.RowKit Go.G5

/-- what is behind the sign -/
def pDg (s : ByteArray) : ByteArray := mkB (if pSg s then s.data.toList.tail else s.data.toList)
theorem pDg_trim (s : ByteArray) : Lib.trimPrefix s.data.toList (⟨#[45]⟩ : ByteArray).data.toList = (pDg s).data.toList := by
  unfold pDg pSg
  rw [mkB_data]
  show Lib.trimPrefix s.data.toList [45] = _
  cases h : s.data.toList with
  | nil => rfl
  | cons b l =>
    by_cases hb : b = 45
    · subst hb; rfl
    · have e : ((b :: l).headD 0 == 45) = false := by simpa using hb
      have e2 : ([45] : List UInt8).isPrefixOf (b :: l) = false := by simp [List.isPrefixOf]; exact fun h => hb h.symm
      rw [e]
      unfold Lib.trimPrefix
      rw [if_neg (by show ¬ ([45] : List UInt8).isPrefixOf (b :: l) = true; rw [e2]; simp)]
      rfl
theorem pDg_val (s : ByteArray) : valL (pDg s).data.toList = valL s.data.toList := by
  unfold pDg
  rw [mkB_data]
  cases h : pSg s with
  | false => rfl
  | true =>
    unfold pSg at h
    cases hl : s.data.toList with
    | nil => rfl
    | cons b l =>
      rw [hl] at h
      have : b = 45 := by simpa using h
      subst this
      exact (valL_minus l).symm
theorem pDg_size (s : ByteArray) : (pDg s).size ≤ s.size ∧ ((pDg s).size = s.size ↔ pSg s = false) := by
  unfold pDg
  cases h : pSg s with
  | false => rw [Lib.size_eq, mkB_data, Lib.size_eq]; simp
  | true =>
    unfold pSg at h
    rw [Lib.size_eq, mkB_data, Lib.size_eq]
    cases hl : s.data.toList with
    | nil => rw [hl] at h; simp at h
    | cons b l => simp
theorem pB_dig {s : ByteArray} (h : pB s = true) : 1 ≤ (pDg s).size ∧ (pDg s).size ≤ 9 ∧ ∀ b ∈ (pDg s).data.toList, isDig b = true := by
  obtain ⟨h1, h2, h3⟩ := pB_is h
  obtain ⟨n, hn⟩ : ∃ n, n = pN s := ⟨_, rfl⟩
  rw [← hn] at h1 h2 h3
  have hd : (pDg s).data.toList = Lib.decDigits n.natAbs := by
    unfold pDg pSg
    rw [mkB_data, ← h1, itoa_data]
    by_cases h0 : n < 0
    · rw [if_pos h0]; rfl
    · rw [if_neg h0]
      have := dec_head n.natAbs
      rw [if_neg (by simpa using this)]
  have hne := decDigits_ne n.natAbs
  have hlen := decDigits_len 9 n.natAbs (by omega) (by decide)
  rw [Lib.size_eq, hd]
  refine ⟨?_, hlen, (dec_all _).1⟩
  cases hx : Lib.decDigits n.natAbs with
  | nil => exact absurd hx hne
  | cons b l => simp
theorem pB_long {s : ByteArray} (h : 9 < (pDg s).size) : pB s = false := by
  cases hp : pB s with
  | false => rfl
  | true => have := (pB_dig hp).2.1; omega
theorem pB_none {s : ByteArray} (h : (pDg s).size = 0) : pB s = false := by
  cases hp : pB s with
  | false => rfl
  | true => have := (pB_dig hp).1; omega
theorem pB_bad {s : ByteArray} (b : UInt8) (hb : b ∈ (pDg s).data.toList) (h : isDig b = false) : pB s = false := by
  cases hp : pB s with
  | false => rfl
  | true => have := (pB_dig hp).2.2 b hb; rw [h] at this; cases this
theorem cntD_le (l : List UInt8) : cntD l ≤ l.length := List.countP_le_length
theorem pB_fin {s : ByteArray} (h : (pDg s).size ≤ 9) : pB s = decide (itoaB (pN s) = s) ∧ -999999999 ≤ pN s ∧ pN s ≤ 999999999 := by
  have h1 := cntD_le (pDg s).data.toList
  rw [Lib.size_eq] at h
  have h2 := valL_lt (pDg s).data.toList 9 (by omega)
  rw [pDg_val] at h2
  have h3 : -999999999 ≤ pN s ∧ pN s ≤ 999999999 := by
    unfold pN
    split <;> omega
  refine ⟨?_, h3⟩
  unfold pB
  rw [decide_eq_true h3.1, decide_eq_true h3.2]
  simp
theorem take_bytes (s : ByteArray) (k : Nat) (h : k < s.size) : s.data.toList.take (k + 1) = s.data.toList.take k ++ [s[k]] := by
  rw [List.take_succ_eq_append_getElem (by simpa using h)]; rfl
theorem byte_mem (s : ByteArray) (k : Nat) (h : k < s.size) : s[k] ∈ s.data.toList := by
  have : s.data.toList[k]'(by simpa using h) ∈ s.data.toList := List.getElem_mem _
  exact this

theorem str_eq (a b : ByteArray) : (a.toList == b.toList) = decide (a = b) := by
  rw [Bool.eq_iff_iff, beq_iff_eq, decide_eq_true_iff]
  constructor
  · intro h
    refine ba_ext ?_
    rw [Lib.toList_data, Lib.toList_data] at h
    exact h
  · intro h; rw [h]

set_option maxHeartbeats 1000000 in
set_option maxRecDepth 100000 in
theorem parseI_any (s : ByteArray) (w : World) (_ : s.size ≤ 9223372036854775807) (hp : Pow w) :
    Calls Tryz.prog 109 #[.string s] w fun e w' => e = .returned (.tuple #[.int .i64 (pV s), .bool (pB s)]) ∧ Below w.heap.size w w' := by
  have htr := pDg_trim s
  have hsz := pDg_size s
  have hval := pDg_val s
  have hlong := pB_long (s := s)
  have hnone := pB_none (s := s)
  have hbad := pB_bad (s := s)
  have hfin := pB_fin (s := s)
  obtain ⟨D, hD⟩ : ∃ D, D = pDg s := ⟨_, rfl⟩
  rw [← hD] at htr hsz hval hlong hnone hbad hfin
  have htp := fun W : World => sh_strings_TrimPrefix s ⟨#[45]⟩ W
  have hD2 : (⟨(Lib.trimPrefix s.data.toList (⟨#[45]⟩ : ByteArray).data.toList).toArray⟩ : ByteArray) = D := by rw [htr]
  simp only [hD2] at htp
  have hds := hsz.1
  have HTP := Lib.hid htp
  have HSZ := Lib.hid hsz
  have HVAL := Lib.hid hval
  have HLONG := Lib.hid hlong
  have HNONE := Lib.hid hnone
  have HBAD := Lib.hid hbad
  have HFIN := Lib.hid hfin
  clear htr hsz hval hlong hnone hbad hfin hD htp hD2
  by_cases h0 : D.size = 0
  · have hpb := HNONE.out h0
    have hd1 : (D.size : Int) < 1 := by omega
    have HPB := Lib.hid hpb
    clear hpb h0
    go_enter Tryz.func109, Tryz.ntmps109
    go_wp2_with fail
    refine (HTP.out _).mono ?_
    rintro e w1 ⟨rfl, rfl⟩
    go_wp2
    go_ret2
    exact ⟨ret_pair (pV_no HPB.out).symm HPB.out.symm, Below.refl _ _⟩
  have hd1 : ¬ (D.size : Int) < 1 := by omega
  by_cases h9 : 9 < D.size
  · have hpb := HLONG.out h9
    have hd2 : (9 : Int) < (D.size : Int) := by omega
    have HPB := Lib.hid hpb
    clear hpb h0 h9
    go_enter Tryz.func109, Tryz.ntmps109
    go_wp2_with fail
    refine (HTP.out _).mono ?_
    rintro e w1 ⟨rfl, rfl⟩
    go_wp2
    go_ret2
    exact ⟨ret_pair (pV_no HPB.out).symm HPB.out.symm, Below.refl _ _⟩
  have hd2 : ¬ (9 : Int) < (D.size : Int) := by omega
  have hds9 : D.size ≤ 9 := by omega
  clear h0 h9
  go_enter Tryz.func109, Tryz.ntmps109
  go_wp2_with fail
  refine (HTP.out _).mono ?_
  rintro e w1 ⟨rfl, rfl⟩
  go_wp2_with fail
  clear hd1 hd2
  go_loop [5, 6] (fun nv iv => ∃ k : Nat, k ≤ D.size ∧ iv = .int .i64 k ∧ nv = .int .i64 (valL (D.data.toList.take k) : Int)) (fun _ iv => D.size - (intOf iv).toNat)
  case atStart => exact ⟨0, Nat.zero_le _, rfl, rfl⟩
  case round =>
    obtain ⟨k, hk, rfl, rfl⟩ := hrel
    have hvk := valL_lt (D.data.toList.take k) 9 (Nat.le_trans (cntD_le _) (by rw [List.length_take]; omega))
    by_cases hlt : k < D.size
    · have hlt2 : (k : Int) < (D.size : Int) := by omega
      have hts := take_bytes D k hlt
      have hmem := byte_mem D k hlt
      have hsn := valL_snoc (D.data.toList.take k) D[k]
      rw [← hts] at hsn
      have hvk8 := valL_lt (D.data.toList.take k) 8 (Nat.le_trans (cntD_le _) (by rw [List.length_take]; omega))
      obtain ⟨v, hv⟩ : ∃ v, v = valL (D.data.toList.take k) := ⟨_, rfl⟩
      rw [← hv] at hsn hvk hvk8 ⊢
      have HMEM := Lib.hid hmem
      have HSN := Lib.hid hsn
      have hb256 := D[k].toNat_lt
      clear hts hmem hsn hv
      by_cases hb1 : D[k].toNat < 48
      · have hbb : isDig D[k] = false := by unfold isDig; simp; omega
        have hpb := HBAD.out _ HMEM.out hbb
        have HPB := Lib.hid hpb
        have hb2 : (D[k].toNat : Int) < 48 := by omega
        clear hpb hbb
        go_wp2
        go_ret2
        exact ⟨ret_pair (pV_no HPB.out).symm HPB.out.symm, Below.refl _ _⟩
      · by_cases hb3 : 57 < D[k].toNat
        · have hbb : isDig D[k] = false := by unfold isDig; simp; omega
          have hpb := HBAD.out _ HMEM.out hbb
          have HPB := Lib.hid hpb
          have hb2 : ¬ (D[k].toNat : Int) < 48 := by omega
          have hb4 : (57 : Int) < (D[k].toNat : Int) := by omega
          clear hpb hbb hb1 hb3
          go_wp2
          go_ret2
          exact ⟨ret_pair (pV_no HPB.out).symm HPB.out.symm, Below.refl _ _⟩
        · have hbb : isDig D[k] = true := by unfold isDig; simp; omega
          have hs1 : (valL (D.data.toList.take (k + 1)) : Int) = (v : Int) * 10 + ((D[k].toNat : Int) - 48) := by
            rw [HSN.out]; unfold valStep; rw [if_pos hbb]; omega
          have HS1 := Lib.hid hs1
          have hb2 : ¬ (D[k].toNat : Int) < 48 := by omega
          have hb4 : ¬ (57 : Int) < (D[k].toNat : Int) := by omega
          clear hs1 hbb hb1 hb3
          go_wp2
          go_round
          case rel => exact ⟨k + 1, by omega, by go_num, by rw [HS1.out]⟩
          case measure => simp [intOf]; omega
    · have hlt2 : ¬ (k : Int) < (D.size : Int) := by omega
      have hkk : D.data.toList.take k = D.data.toList := List.take_of_length_le (by rw [← Lib.size_eq]; omega)
      rw [hkk, HVAL.out] at hvk ⊢
      obtain ⟨hf1, hf2, hf3⟩ := HFIN.out hds9
      have hpn : pN s = if D.size = s.size then (valL s.data.toList : Int) else -(valL s.data.toList : Int) := by
        unfold pN
        by_cases h : D.size = s.size
        · rw [if_pos h, if_neg (by rw [HSZ.out.2.1 h]; simp)]
        · rw [if_neg h]
          cases hg : pSg s with
          | true => rw [if_pos rfl]
          | false => exact absurd (HSZ.out.2.2 hg) h
      obtain ⟨v, hv⟩ : ∃ v, v = valL s.data.toList := ⟨_, rfl⟩
      rw [← hv] at hpn hvk ⊢
      obtain ⟨m, hm⟩ : ∃ m, m = pN s := ⟨_, rfl⟩
      have hfi := fun W (h : Pow W) => fmtI_any m ⟨by omega, by omega⟩ W h
      obtain ⟨T, hT⟩ : ∃ T, T = itoaB m := ⟨_, rfl⟩
      rw [← hm] at hpn hf1 hf2 hf3
      simp only [← hT] at hfi
      rw [← hT] at hf1
      have HFI := Lib.hid hfi
      have HM := Lib.hid hm
      have HF1 := Lib.hid hf1
      have HPN := Lib.hid hpn
      clear hkk hv hm hT hfi hf1 hpn
      by_cases he : D.size = s.size
      · have he1 : ((D.size : Int) != (s.size : Int)) = false := by rw [bne_eq_false_iff_eq]; omega
        have hmv := HPN.out
        rw [if_pos he] at hmv
        have HMV := Lib.hid hmv
        clear hmv he
        go_wp2_with fail
        rw [← HMV.out]
        refine (HFI.out _ hp).mono ?_
        rintro e w2 ⟨rfl, b2⟩
        by_cases ht : T = s
        · have hpb : pB s = true := by rw [HF1.out, decide_eq_true ht]
          have hte : (T.toList == s.toList) = true := by rw [str_eq, decide_eq_true ht]
          have HPB := Lib.hid hpb
          clear hpb ht
          go_wp2
          go_ret2
          exact ⟨ret_pair (by rw [pV_yes HPB.out, HM.out]) HPB.out.symm, b2⟩
        · have hpb : pB s = false := by rw [HF1.out, decide_eq_false ht]
          have hte : (T.toList == s.toList) = false := by rw [str_eq, decide_eq_false ht]
          have HPB := Lib.hid hpb
          clear hpb ht
          go_wp2
          go_ret2
          exact ⟨ret_pair (pV_no HPB.out).symm HPB.out.symm, b2⟩
      · have he1 : ((D.size : Int) != (s.size : Int)) = true := by rw [bne_iff_ne]; omega
        have hmv := HPN.out
        rw [if_neg he] at hmv
        have HMV := Lib.hid hmv
        clear hmv he
        go_wp2_with fail
        rw [← HMV.out]
        refine (HFI.out _ hp).mono ?_
        rintro e w2 ⟨rfl, b2⟩
        by_cases ht : T = s
        · have hpb : pB s = true := by rw [HF1.out, decide_eq_true ht]
          have hte : (T.toList == s.toList) = true := by rw [str_eq, decide_eq_true ht]
          have HPB := Lib.hid hpb
          clear hpb ht
          go_wp2
          go_ret2
          exact ⟨ret_pair (by rw [pV_yes HPB.out, HM.out]) HPB.out.symm, b2⟩
        · have hpb : pB s = false := by rw [HF1.out, decide_eq_false ht]
          have hte : (T.toList == s.toList) = false := by rw [str_eq, decide_eq_false ht]
          have HPB := Lib.hid hpb
          clear hpb ht
          go_wp2
          go_ret2
          exact ⟨ret_pair (pV_no HPB.out).symm HPB.out.symm, b2⟩

theorem cntD_minus (l : List UInt8) : cntD (45 :: l) = cntD l := by unfold cntD; rfl
theorem pDg_cnt (s : ByteArray) : cntD s.data.toList = cntD (pDg s).data.toList := by
  unfold pDg
  rw [mkB_data]
  cases h : pSg s with
  | false => rfl
  | true =>
    unfold pSg at h
    cases hl : s.data.toList with
    | nil => rfl
    | cons b l =>
      rw [hl] at h
      have : b = 45 := by simpa using h
      subst this
      exact cntD_minus l
theorem pB_cnt {s : ByteArray} (h : 9 < cntD s.data.toList) : pB s = false := by
  cases hp : pB s with
  | false => rfl
  | true =>
    have h1 := (pB_dig hp).2.1
    rw [pDg_cnt] at h
    have h2 := cntD_le (pDg s).data.toList
    rw [Lib.size_eq] at h1
    omega
theorem pB_ten {s : ByteArray} (h : 10 < s.size) : pB s = false := by
  cases hp : pB s with
  | false => rfl
  | true =>
    have h1 := (pB_dig hp).2.1
    have h2 : s.size ≤ (pDg s).size + 1 := by
      unfold pDg
      rw [Lib.size_eq, Lib.size_eq, mkB_data]
      split
      · simp; omega
      · omega
    omega
theorem pB_fin2 {s : ByteArray} (h : cntD s.data.toList ≤ 9) : pB s = decide (itoaB (pN s) = s) ∧ -999999999 ≤ pN s ∧ pN s ≤ 999999999 := by
  have h2 := valL_lt s.data.toList 9 h
  have h3 : -999999999 ≤ pN s ∧ pN s ≤ 999999999 := by
    unfold pN
    split <;> omega
  refine ⟨?_, h3⟩
  unfold pB
  rw [decide_eq_true h3.1, decide_eq_true h3.2]
  simp
theorem pSg_zero {s : ByteArray} (h : s.size = 0) : pSg s = false := by
  unfold pSg
  rw [Lib.size_eq] at h
  rw [List.eq_nil_of_length_eq_zero h]; rfl
theorem pSg_at {s : ByteArray} (h : 0 < s.size) : pSg s = ((s[0].toNat : Int) == 45) := by
  unfold pSg
  have e : s.data.toList.headD 0 = s[0] := by
    have h2 : 0 < s.data.toList.length := by rw [← Lib.size_eq]; exact h
    rw [List.headD_eq_head?_getD, List.head?_eq_getElem?, List.getElem?_eq_getElem h2]; rfl
  rw [e, Bool.eq_iff_iff, beq_iff_eq, beq_iff_eq]
  constructor
  · intro h; rw [h]; rfl
  · intro h
    have h2 : s[0].toNat = 45 := by omega
    have : s[0] = UInt8.ofNat s[0].toNat := by simp
    rw [this, h2]; rfl

set_option maxHeartbeats 2000000 in
set_option maxRecDepth 100000 in
theorem parseS_any (s : ByteArray) (w : World) (_ : s.size ≤ 9223372036854775807) :
    Calls Tryz.prog 112 #[.string s] w fun e w' => e = .returned (.tuple #[.int .i64 (pV s), .bool (pB s)]) ∧ Below w.heap.size w w' := by
  have hcnt := pB_cnt (s := s)
  have hten := pB_ten (s := s)
  have hfin := pB_fin2 (s := s)
  have HCNT := Lib.hid hcnt
  have HTEN := Lib.hid hten
  have HFIN := Lib.hid hfin
  clear hcnt hten hfin
  go_enter Tryz.func112, Tryz.ntmps112
  go_wp2_with fail
  go_loop [4, 5, 6] (fun nv kv iv => ∃ j : Nat, j ≤ s.size ∧ j ≤ 11 ∧ iv = .int .i64 j ∧ nv = .int .i64 (valL (s.data.toList.take j) : Int) ∧ kv = .int .i64 (cntD (s.data.toList.take j) : Int)) (fun _ _ iv => 11 - (intOf iv).toNat)
  case atStart => exact ⟨0, Nat.zero_le _, by omega, rfl, rfl, rfl⟩
  case round =>
    obtain ⟨j, hj, hj11, rfl, rfl, rfl⟩ := hrel
    have hcl : cntD (s.data.toList.take j) ≤ j := Nat.le_trans (cntD_le _) (by rw [List.length_take]; omega)
    have hvl := valL_lt (s.data.toList.take j) 11 (by omega)
    by_cases hlt : j < s.size
    · have hlt2 : (j : Int) < (s.size : Int) := by omega
      by_cases h11 : j < 11
      · have h112 : (j : Int) < 11 := by omega
        have hvl10 := valL_lt (s.data.toList.take j) 10 (by omega)
        have hts := take_bytes s j hlt
        have hsn := valL_snoc (s.data.toList.take j) s[j]
        have hcn := cntD_snoc (s.data.toList.take j) s[j]
        rw [← hts] at hsn hcn
        obtain ⟨v, hv⟩ : ∃ v, v = valL (s.data.toList.take j) := ⟨_, rfl⟩
        obtain ⟨q, hq⟩ : ∃ q, q = cntD (s.data.toList.take j) := ⟨_, rfl⟩
        rw [← hv] at hsn hvl hvl10 ⊢
        rw [← hq] at hcn hcl ⊢
        have HSN := Lib.hid hsn
        have HCN := Lib.hid hcn
        have hb256 := s[j].toNat_lt
        clear hts hsn hcn hv hq
        by_cases hb1 : 48 ≤ s[j].toNat
        · by_cases hb3 : s[j].toNat ≤ 57
          · have hbb : isDig s[j] = true := by unfold isDig; simp; omega
            have hs1 : (valL (s.data.toList.take (j + 1)) : Int) = (v : Int) * 10 + ((s[j].toNat : Int) - 48) := by
              rw [HSN.out]; unfold valStep; rw [if_pos hbb]; omega
            have hs2 : (cntD (s.data.toList.take (j + 1)) : Int) = (q : Int) + 1 := by rw [HCN.out, if_pos hbb]; omega
            have HS1 := Lib.hid hs1
            have HS2 := Lib.hid hs2
            have hb2 : (48 : Int) ≤ (s[j].toNat : Int) := by omega
            have hb4 : (s[j].toNat : Int) ≤ 57 := by omega
            clear hs1 hs2 hbb hb1 hb3
            go_wp2
            go_round
            case rel => exact ⟨j + 1, by omega, by omega, by go_num, by rw [HS1.out], by rw [HS2.out]⟩
            case measure => simp [intOf]; omega
          · have hbb : isDig s[j] = false := by unfold isDig; simp; omega
            have hs1 : valL (s.data.toList.take (j + 1)) = v := by
              rw [HSN.out]; unfold valStep; rw [if_neg (by rw [hbb]; simp)]
            have hs2 : cntD (s.data.toList.take (j + 1)) = q := by rw [HCN.out, if_neg (by rw [hbb]; simp)]; omega
            have HS1 := Lib.hid hs1
            have HS2 := Lib.hid hs2
            have hb2 : (48 : Int) ≤ (s[j].toNat : Int) := by omega
            have hb4 : ¬ (s[j].toNat : Int) ≤ 57 := by omega
            clear hs1 hs2 hbb hb1 hb3
            go_wp2
            go_round
            case rel => exact ⟨j + 1, by omega, by omega, by go_num, by rw [HS1.out], by rw [HS2.out]⟩
            case measure => simp [intOf]; omega
        · have hbb : isDig s[j] = false := by unfold isDig; simp; omega
          have hs1 : valL (s.data.toList.take (j + 1)) = v := by
            rw [HSN.out]; unfold valStep; rw [if_neg (by rw [hbb]; simp)]
          have hs2 : cntD (s.data.toList.take (j + 1)) = q := by rw [HCN.out, if_neg (by rw [hbb]; simp)]; omega
          have HS1 := Lib.hid hs1
          have HS2 := Lib.hid hs2
          have hb2 : ¬ (48 : Int) ≤ (s[j].toNat : Int) := by omega
          clear hs1 hs2 hbb hb1
          go_wp2
          go_round
          case rel => exact ⟨j + 1, by omega, by omega, by go_num, by rw [HS1.out], by rw [HS2.out]⟩
          case measure => simp [intOf]; omega
      · have h112 : ¬ (j : Int) < 11 := by omega
        have hpb := HTEN.out (by omega)
        have HPB := Lib.hid hpb
        have h10 : (10 : Int) < (s.size : Int) := by omega
        have h0 : (0 : Int) < (s.size : Int) := by omega
        obtain ⟨v, hv⟩ : ∃ v, v = valL (s.data.toList.take j) := ⟨_, rfl⟩
        obtain ⟨q, hq⟩ : ∃ q, q = cntD (s.data.toList.take j) := ⟨_, rfl⟩
        rw [← hv] at hvl ⊢
        rw [← hq] at hcl ⊢
        clear hv hq hpb
        go_wp2
        all_goals (go_ret2; exact ⟨ret_pair (pV_no HPB.out).symm HPB.out.symm, Below.refl _ _⟩)
    · have hlt2 : ¬ (j : Int) < (s.size : Int) := by omega
      have hkk : s.data.toList.take j = s.data.toList := List.take_of_length_le (by rw [← Lib.size_eq]; omega)
      rw [hkk] at hvl hcl ⊢
      by_cases h10 : 10 < s.size
      · have hpb := HTEN.out h10
        have HPB := Lib.hid hpb
        have h102 : (10 : Int) < (s.size : Int) := by omega
        have h0 : (0 : Int) < (s.size : Int) := by omega
        obtain ⟨v, hv⟩ : ∃ v, v = valL s.data.toList := ⟨_, rfl⟩
        obtain ⟨q, hq⟩ : ∃ q, q = cntD s.data.toList := ⟨_, rfl⟩
        rw [← hv] at hvl ⊢
        rw [← hq] at hcl ⊢
        clear hv hq hpb hkk
        go_wp2
        all_goals (go_ret2; exact ⟨ret_pair (pV_no HPB.out).symm HPB.out.symm, Below.refl _ _⟩)
      · have h102 : ¬ (10 : Int) < (s.size : Int) := by omega
        clear hkk
        by_cases h9 : 9 < cntD s.data.toList
        · have hpb := HCNT.out h9
          have HPB := Lib.hid hpb
          obtain ⟨v, hv⟩ : ∃ v, v = valL s.data.toList := ⟨_, rfl⟩
          obtain ⟨q, hq⟩ : ∃ q, q = cntD s.data.toList := ⟨_, rfl⟩
          rw [← hv] at hvl ⊢
          rw [← hq] at hcl h9 ⊢
          have h92 : (9 : Int) < (q : Int) := by omega
          clear hv hq hpb h9
          by_cases h0 : 0 < s.size
          · have h02 : (0 : Int) < (s.size : Int) := by omega
            go_wp2
            all_goals (go_ret2; exact ⟨ret_pair (pV_no HPB.out).symm HPB.out.symm, Below.refl _ _⟩)
          · have h02 : ¬ (0 : Int) < (s.size : Int) := by omega
            go_wp2
            all_goals (go_ret2; exact ⟨ret_pair (pV_no HPB.out).symm HPB.out.symm, Below.refl _ _⟩)
        · obtain ⟨hf1, hf2, hf3⟩ := HFIN.out (by omega)
          have hpn : pN s = if pSg s then -(valL s.data.toList : Int) else (valL s.data.toList : Int) := rfl
          have hsg0 := pSg_zero (s := s)
          have hsg1 := pSg_at (s := s)
          obtain ⟨v, hv⟩ : ∃ v, v = valL s.data.toList := ⟨_, rfl⟩
          obtain ⟨q, hq⟩ : ∃ q, q = cntD s.data.toList := ⟨_, rfl⟩
          rw [← hv] at hpn hvl ⊢
          rw [← hq] at hcl h9 ⊢
          have h92 : ¬ (9 : Int) < (q : Int) := by omega
          obtain ⟨m, hm⟩ : ∃ m, m = pN s := ⟨_, rfl⟩
          have hfi := fun W => fmtS_any m ⟨by omega, by omega⟩ W
          obtain ⟨T, hT⟩ : ∃ T, T = itoaB m := ⟨_, rfl⟩
          rw [← hm] at hpn hf1 hf2 hf3
          simp only [← hT] at hfi
          rw [← hT] at hf1
          have HFI := Lib.hid hfi
          have HM := Lib.hid hm
          have HF1 := Lib.hid hf1
          have HPN := Lib.hid hpn
          have HSG1 := Lib.hid hsg1
          have HSG0 := Lib.hid hsg0
          clear hv hq hm hT hfi hf1 hpn hsg0 hsg1 h9
          by_cases h0 : 0 < s.size
          · have h02 : (0 : Int) < (s.size : Int) := by omega
            have hsg := HSG1.out h0
            cases hg : pSg s with
            | true =>
              rw [hg] at hsg
              have hmv := HPN.out
              rw [hg, if_pos rfl] at hmv
              have hsg2 := hsg.symm
              have HMV := Lib.hid hmv
              clear hmv hg hsg
              go_wp2_with fail
              rw [← HMV.out]
              refine (HFI.out _).mono ?_
              rintro e w2 ⟨rfl, b2⟩
              by_cases ht : T = s
              · have hpb : pB s = true := by rw [HF1.out, decide_eq_true ht]
                have hte : (T.toList == s.toList) = true := by rw [str_eq, decide_eq_true ht]
                have HPB := Lib.hid hpb
                clear hpb ht
                go_wp2
                go_ret2
                exact ⟨ret_pair (by rw [pV_yes HPB.out, HM.out]) HPB.out.symm, b2⟩
              · have hpb : pB s = false := by rw [HF1.out, decide_eq_false ht]
                have hte : (T.toList == s.toList) = false := by rw [str_eq, decide_eq_false ht]
                have HPB := Lib.hid hpb
                clear hpb ht
                go_wp2
                go_ret2
                exact ⟨ret_pair (pV_no HPB.out).symm HPB.out.symm, b2⟩
            | false =>
              rw [hg] at hsg
              have hmv := HPN.out
              rw [hg, if_neg (by simp)] at hmv
              have hsg2 := hsg.symm
              have HMV := Lib.hid hmv
              clear hmv hg hsg
              go_wp2_with fail
              rw [← HMV.out]
              refine (HFI.out _).mono ?_
              rintro e w2 ⟨rfl, b2⟩
              by_cases ht : T = s
              · have hpb : pB s = true := by rw [HF1.out, decide_eq_true ht]
                have hte : (T.toList == s.toList) = true := by rw [str_eq, decide_eq_true ht]
                have HPB := Lib.hid hpb
                clear hpb ht
                go_wp2
                go_ret2
                exact ⟨ret_pair (by rw [pV_yes HPB.out, HM.out]) HPB.out.symm, b2⟩
              · have hpb : pB s = false := by rw [HF1.out, decide_eq_false ht]
                have hte : (T.toList == s.toList) = false := by rw [str_eq, decide_eq_false ht]
                have HPB := Lib.hid hpb
                clear hpb ht
                go_wp2
                go_ret2
                exact ⟨ret_pair (pV_no HPB.out).symm HPB.out.symm, b2⟩
          · have h02 : ¬ (0 : Int) < (s.size : Int) := by omega
            have hg := HSG0.out (by omega)
            cases hi : true with
            | false => cases hi
            | true =>
              have hmv := HPN.out
              rw [hg, if_neg (by simp)] at hmv
              have HMV := Lib.hid hmv
              clear hmv hg hi
              go_wp2_with fail
              rw [← HMV.out]
              refine (HFI.out _).mono ?_
              rintro e w2 ⟨rfl, b2⟩
              by_cases ht : T = s
              · have hpb : pB s = true := by rw [HF1.out, decide_eq_true ht]
                have hte : (T.toList == s.toList) = true := by rw [str_eq, decide_eq_true ht]
                have HPB := Lib.hid hpb
                clear hpb ht
                go_wp2
                go_ret2
                exact ⟨ret_pair (by rw [pV_yes HPB.out, HM.out]) HPB.out.symm, b2⟩
              · have hpb : pB s = false := by rw [HF1.out, decide_eq_false ht]
                have hte : (T.toList == s.toList) = false := by rw [str_eq, decide_eq_false ht]
                have HPB := Lib.hid hpb
                clear hpb ht
                go_wp2
                go_ret2
                exact ⟨ret_pair (pV_no HPB.out).symm HPB.out.symm, b2⟩
end Go.Proofs.YtipejodijbjpcaaGreatDoor
end
