/- Families of bases: the second program's test. -/
import Derived.Test.YtipejodijbjpcaaGreatDoorQ37
section
namespace Go.Proofs.YtipejodijbjpcaaGreatDoor
open Go.RowKit Go.G5

theorem bit_tests (a : Int) (e : Nat) (h : 0 ≤ a ∧ a < 64) : bits BinOp.and IntKind.i64 (a / 2 ^ e) 1 = ibit a e ∧ (ibit a e == 0) = !nbit a.toNat e ∧ (ibit a e == 1) = nbit a.toNat e := by
  have h1 := nbit_is a.toNat e
  rw [show ((a.toNat : Nat) : Int) = a by omega] at h1
  refine ⟨bit_is a e h.1 (by omega), ?_, h1⟩
  rw [← h1]
  have : ibit a e = 0 ∨ ibit a e = 1 := by unfold ibit; omega
  rcases this with h | h <;> rw [h] <;> rfl
theorem pow_six (e : Nat) (h : e < 6) : 0 < (2 : Int) ^ e ∧ (2 : Int) ^ e < 64 := by
  rcases (show e = 0 ∨ e = 1 ∨ e = 2 ∨ e = 3 ∨ e = 4 ∨ e = 5 by omega) with rfl | rfl | rfl | rfl | rfl | rfl <;> decide
set_option maxHeartbeats 2000000 in
set_option maxRecDepth 100000 in
theorem isBasisS_any (w : World) (N : Nat) (v : Value) (l : List Int) (hv : Ints w v l) (hf : isFamB (N : Int) l = true) :
    Calls Tryz.prog 88 #[.agg #[.int .i64 (N : Int), v]] w fun r w' => r = .returned (.bool (bfB (N : Int) l)) ∧ Below w.heap.size w w' := by
  have hv0 := hv
  obtain ⟨p, bb, off, c, rfl, hlen, hix, hc, hb⟩ := hv.view Tryz.prog 22 3 Tryz.underlying22 intElem
  have hm := famOk hf
  have hl := fam_len hf
  obtain ⟨h0, h6, hq1, hq2⟩ := famOk hf
  have hN : N ≤ 6 := by omega
  have hpp := two_pow N 6 hN
  have hp1 := hpp.1
  have hp2 := hpp.2
  simp at hp1
  have K1 := Blk.new w 27 #[.int .i64 (N : Int), .slice p l.length c]
  have hfm := fun (W : World) (h : Ints W (.slice p l.length c) l) => isFamS_any (N : Int) l _ W h
  simp only [hf] at hfm
  have hx : bfB (N : Int) l = (!l.isEmpty && l.all fun a => l.all (exI l a)) := by unfold bfB; rw [hf, Bool.true_and]
  have hes : ∀ a b, a ∈ l → b ∈ l → exI l a b = exS N l a b := fun a b ha hb => by
    have h1 := hq1 a ha
    have h2 := hq1 b hb
    have e : ((N : Int)).toNat = N := Int.toNat_natCast N
    exact ex_same N hN l a b (by simpa [e] using h1) (by simpa [e] using h2)
  have HFM := Lib.hid hfm
  have HX := Lib.hid hx
  have HES := Lib.hid hes
  have HQ := Lib.hid hq1
  have HC := Lib.hid hc
  have HIX := Lib.hid hix
  clear hfm hx hes hq1 hq2 hm hf hc hix hpp hlen
  go_enter Tryz.func88, Tryz.ntmps88
  go_wp2_with fail
  go_loopw [3] (fun iv wr => ∃ j : Nat, j ≤ l.length ∧ iv = .int .i64 j ∧ (l.take j).all (fun a => l.all (exI l a)) = true ∧ Below w.heap.size w wr ∧ Blk wr w.heap.size 27 #[.int .i64 (N : Int), .slice p l.length c]) (fun iv _ => l.length - (intOf iv).toNat)
  case atStart => exact ⟨0, Nat.zero_le _, rfl, by simp, bl1 _ _, K1⟩
  case round =>
    obtain ⟨j, hj, rfl, hall, Bw, Kw⟩ := hrel
    have HALL := Lib.hid hall
    clear hall
    have G := Kw.cell
    by_cases hlt : j < l.length
    · have hlt2 : (j : Int) < (l.length : Int) := by omega
      go_wp2_with fail
      refine (HFM.out wr (hv0.below Bw (Nat.le_refl _))).mono ?_
      rintro r w3 ⟨rfl, b3⟩
      have B3 := Bw.after b3 Bw.size
      have K3 := Kw.keep b3
      have hB := B3.size
      clear G
      have G := K3.cell
      go_wp2_with fail
      have htk : (l.take (j + 1)).all (fun a => l.all (exI l a)) = l.all (exI l l[j]) := by rw [List.take_succ_eq_append_getElem hlt, List.all_append, HALL.out]; simp
      have hmem := List.getElem_mem hlt
      obtain ⟨a, hae⟩ : ∃ a, a = l[j] := ⟨_, rfl⟩
      rw [← hae] at htk hmem
      have HTK := Lib.hid htk
      have HMEM := Lib.hid hmem
      have HAE := Lib.hid hae
      clear htk hmem hae G
      go_loopw [4] (fun iv wq => ∃ k : Nat, k ≤ l.length ∧ iv = .int .i64 k ∧ (l.take k).all (exI l a) = true ∧ Below w.heap.size w wq ∧ Blk wq w.heap.size 27 #[.int .i64 (N : Int), .slice p l.length c]) (fun iv _ => l.length - (intOf iv).toNat)
      case atStart => exact ⟨0, Nat.zero_le _, rfl, by simp, B3, K3⟩
      case round =>
        obtain ⟨k, hk, rfl, hall, Bk, Kk⟩ := hrel
        obtain ⟨wk, rfl⟩ : ∃ wk : World, wk = wr := ⟨_, rfl⟩
        have HALL2 := Lib.hid hall
        clear hall B3 K3 hB
        have G := Kk.cell
        by_cases hlk : k < l.length
        · have hlk2 : (k : Int) < (l.length : Int) := by omega
          have ck1 := cells_below HC.out hb Bk (Nat.le_refl _) j hlt
          have ck2 := cells_below HC.out hb Bk (Nat.le_refl _) k hlk
          rw [← HAE.out] at ck1
          have ik1 := fun W => HIX.out W j hlt
          have ik2 := fun W => HIX.out W k hlk
          obtain ⟨b, hbe⟩ : ∃ b, b = l[k] := ⟨_, rfl⟩
          have hqa := HQ.out a HMEM.out
          have hmb := List.getElem_mem hlk
          rw [← hbe] at ck2 hmb
          have hqb := HQ.out b hmb
          have hsame := HES.out a b HMEM.out hmb
          have htk : (l.take (k + 1)).all (exI l a) = exI l a b := by rw [List.take_succ_eq_append_getElem hlk, List.all_append, HALL2.out, hbe]; simp
          have ha64 : 0 ≤ a ∧ a < 64 := by rw [Int.toNat_natCast] at hqa; omega
          have hb64 : 0 ≤ b ∧ b < 64 := by rw [Int.toNat_natCast] at hqb; omega
          have HTK2 := Lib.hid htk
          have HSAME := Lib.hid hsame
          have HMB := Lib.hid hmb
          have HBE := Lib.hid hbe
          clear htk hsame hmb hbe hqa hqb
          go_wp2_with fail
          clear ck1 ck2 ik1 ik2 G
          have ha1 := ha64.1
          have ha2 := ha64.2
          have hb1 := hb64.1
          have hb2 := hb64.2
          have HAB := Lib.hid (And.intro ha64 hb64)
          clear ha64 hb64
          go_loopw [7] (fun iv wq => ∃ e : Nat, e ≤ N ∧ iv = .int .i64 e ∧ allTo (fun e => outS a b e || anTo (swS l a b e) N) e = true ∧ Below w.heap.size w wq ∧ Blk wq w.heap.size 27 #[.int .i64 (N : Int), .slice p l.length c]) (fun iv _ => N - (intOf iv).toNat)
          case atStart => exact ⟨0, Nat.zero_le _, rfl, rfl, Bk, Kk⟩
          case round =>
            obtain ⟨e, he, rfl, hall, Be, Ke⟩ := hrel
            obtain ⟨we, rfl⟩ : ∃ we : World, we = wr := ⟨_, rfl⟩
            have HALL3 := Lib.hid hall
            clear hall Bk Kk
            have G := Ke.cell
            by_cases hle : e < N
            · have hle2 : (e : Int) < (N : Int) := by omega
              have he6 : e < 6 := by omega
              obtain ⟨fa1, fa2, fa3⟩ := bit_tests a e HAB.out.1
              obtain ⟨fb1, fb2, fb3⟩ := bit_tests b e HAB.out.2
              have hsucc : allTo (fun e => outS a b e || anTo (swS l a b e) N) (e + 1) = (outS a b e || anTo (swS l a b e) N) := by rw [allTo, HALL3.out, Bool.true_and]
              have houts : outS a b e = (!nbit a.toNat e || nbit b.toNat e) := rfl
              obtain ⟨za, hza⟩ : ∃ z, z = nbit a.toNat e := ⟨_, rfl⟩
              obtain ⟨zb, hzb⟩ : ∃ z, z = nbit b.toNat e := ⟨_, rfl⟩
              rw [← hza] at fa2 fa3 houts
              rw [← hzb] at fb2 fb3 houts
              obtain ⟨ya, hya⟩ : ∃ y, y = ibit a e := ⟨_, rfl⟩
              obtain ⟨yb, hyb⟩ : ∃ y, y = ibit b e := ⟨_, rfl⟩
              rw [← hya] at fa1 fa2 fa3
              rw [← hyb] at fb1 fb2 fb3
              have HSU := Lib.hid (And.intro hsucc houts)
              clear hza hzb hya hyb hsucc houts fa3 fb2
              cases za with
              | false =>
                simp only [Bool.not_false] at fa2
                have hs : allTo (fun e => outS a b e || anTo (swS l a b e) N) (e + 1) = true := by rw [HSU.out.1, HSU.out.2]; rfl
                have HS := Lib.hid hs
                clear hs
                go_wp2
                go_roundw
                case rel => exact ⟨e + 1, by omega, by go_num, HS.out, Be, Ke⟩
                case measure => simp [intOf]; omega
              | true =>
                simp only [Bool.not_true] at fa2
                cases zb with
                | true =>
                  have hs : allTo (fun e => outS a b e || anTo (swS l a b e) N) (e + 1) = true := by rw [HSU.out.1, HSU.out.2]; rfl
                  have HS := Lib.hid hs
                  clear hs
                  go_wp2
                  go_roundw
                  case rel => exact ⟨e + 1, by omega, by go_num, HS.out, Be, Ke⟩
                  case measure => simp [intOf]; omega
                | false =>
                  have hs : allTo (fun e => outS a b e || anTo (swS l a b e) N) (e + 1) = anTo (swS l a b e) N := by rw [HSU.out.1, HSU.out.2]; rfl
                  have HS := Lib.hid hs
                  clear hs HSU
                  go_wp2_with fail
                  clear fa1 fa2 fb1 fb3 G
                  go_loopw [9, 8] (fun dv fv wq => ∃ d : Nat, d ≤ N ∧ dv = .int .i64 d ∧ fv = .bool (anTo (swS l a b e) d) ∧ Below w.heap.size w wq ∧ Blk wq w.heap.size 27 #[.int .i64 (N : Int), .slice p l.length c]) (fun dv _ _ => N - (intOf dv).toNat)
                  case atStart => exact ⟨0, Nat.zero_le _, rfl, rfl, Be, Ke⟩
                  case round =>
                    obtain ⟨d, hd, rfl, rfl, Bd, Kd⟩ := hrel
                    obtain ⟨wd, rfl⟩ : ∃ wd : World, wd = wr := ⟨_, rfl⟩
                    clear Be Ke
                    have G := Kd.cell
                    have hvi := hv0.below Bd (Nat.le_refl _)
                    by_cases hld : d < N
                    · have hld2 : (d : Int) < (N : Int) := by omega
                      have hd6 : d < 6 := by omega
                      obtain ⟨fa1, fa2, fa3⟩ := bit_tests a d HAB.out.1
                      obtain ⟨fb1, fb2, fb3⟩ := bit_tests b d HAB.out.2
                      have hsucc : anTo (swS l a b e) (d + 1) = (anTo (swS l a b e) d || (nbit b.toNat d && (!nbit a.toNat d && has l (a - 2 ^ e + 2 ^ d)))) := rfl
                      obtain ⟨za, hza⟩ : ∃ z, z = nbit a.toNat d := ⟨_, rfl⟩
                      obtain ⟨zb, hzb⟩ : ∃ z, z = nbit b.toNat d := ⟨_, rfl⟩
                      rw [← hza] at fa2 hsucc
                      rw [← hzb] at fb3 hsucc
                      obtain ⟨ya, hya⟩ : ∃ y, y = ibit a d := ⟨_, rfl⟩
                      obtain ⟨yb, hyb⟩ : ∃ y, y = ibit b d := ⟨_, rfl⟩
                      rw [← hya] at fa1 fa2
                      rw [← hyb] at fb1 fb3
                      obtain ⟨q, hq⟩ : ∃ q, q = anTo (swS l a b e) d := ⟨_, rfl⟩
                      rw [← hq] at hsucc ⊢
                      have HSU := Lib.hid hsucc
                      clear hza hzb hya hyb hsucc fa3 fb2 hq
                      cases zb with
                      | false =>
                        have hs : anTo (swS l a b e) (d + 1) = q := by rw [HSU.out]; simp
                        have HS2 := Lib.hid hs
                        clear hs HSU
                        go_wp2_with fail
                        go_quiet (fail)
                        go_wp2
                        go_roundw
                        case rel => exact ⟨d + 1, by omega, by go_num, by rw [HS2.out], Bd.drewN' _, Kd.drewN _⟩
                        case measure => simp [intOf]; omega
                      | true =>
                        cases za with
                        | true =>
                          have hs : anTo (swS l a b e) (d + 1) = q := by rw [HSU.out]; simp
                          have HS2 := Lib.hid hs
                          clear hs HSU
                          simp only [Bool.not_true] at fa2
                          go_wp2_with fail
                          go_quiet (fail)
                          go_wp2
                          go_roundw
                          case rel => exact ⟨d + 1, by omega, by go_num, by rw [HS2.out], Bd.drewN' _, Kd.drewN _⟩
                          case measure => simp [intOf]; omega
                        | false =>
                          simp only [Bool.not_false] at fa2
                          have pe := pow_six e he6
                          have pd := pow_six d hd6
                          have pe1 := pe.1
                          have pe2 := pe.2
                          have pd1 := pd.1
                          have pd2 := pd.2
                          have hw1 : IntKind.i64.wrap (a - 2 ^ e) = a - 2 ^ e := by rw [IntKind.wrap_i64]; omega
                          have hw2 : IntKind.i64.wrap (a - 2 ^ e + 2 ^ d) = a - 2 ^ e + 2 ^ d := by rw [IntKind.wrap_i64]; omega
                          clear pe pd
                          cases hh : has l (a - 2 ^ e + 2 ^ d) with
                          | false =>
                            have hs : anTo (swS l a b e) (d + 1) = q := by rw [HSU.out, hh]; simp
                            have HS2 := Lib.hid hs
                            clear hs HSU
                            go_wp2_with fail
                            go_quiet ((go_at_call 195; first | exact q_bool2 (l10Has_any l _ _ _ (hvi.drewN _)) hh | exact q_bool (l10Has_any l _ _ _ (hvi.drewN _)) hh))
                            go_wp2
                            go_roundw
                            case rel => exact ⟨d + 1, by omega, by go_num, by rw [HS2.out], Bd.drewN' _, Kd.drewN _⟩
                            case measure => simp [intOf]; omega
                          | true =>
                            have hs : anTo (swS l a b e) (d + 1) = true := by rw [HSU.out, hh]; simp
                            have HS2 := Lib.hid hs
                            clear hs HSU
                            go_wp2_with fail
                            go_quiet ((go_at_call 195; first | exact q_bool2 (l10Has_any l _ _ _ (hvi.drewN _)) hh | exact q_bool (l10Has_any l _ _ _ (hvi.drewN _)) hh))
                            go_wp2
                            go_roundw
                            case rel => exact ⟨d + 1, by omega, by go_num, by rw [HS2.out], Bd.drewN' _, Kd.drewN _⟩
                            case measure => simp [intOf]; omega
                    · have hld2 : ¬ (d : Int) < (N : Int) := by omega
                      have hdn : d = N := by omega
                      subst hdn
                      obtain ⟨q, hq⟩ : ∃ q, q = anTo (swS l a b e) d := ⟨_, rfl⟩
                      have hs := HS.out
                      rw [← hq] at hs ⊢
                      have HS2 := Lib.hid hs
                      have HQQ := Lib.hid hq
                      clear hs hq HS
                      cases q with
                      | true =>
                        go_wp2
                        go_roundw
                        case rel => exact ⟨e + 1, by omega, by go_num, HS2.out, Bd, Kd⟩
                        case measure => simp [intOf]; omega
                      | false =>
                        go_wp2
                        go_ret
                        refine ⟨ret_bool ?_, Bd⟩
                        rw [HX.out]
                        have hxx : exI l a b = false := by
                          rw [HSAME.out]
                          cases hc : exS d l a b with
                          | false => rfl
                          | true =>
                            unfold exS at hc
                            have h1 := allTo_iff.1 hc
                            have h2 : allTo (fun e => outS a b e || anTo (swS l a b e) d) (e + 1) = true := allTo_iff.2 (fun i hi => h1 i (by omega))
                            rw [HS2.out] at h2
                            cases h2
                        have h1 : l.all (fun a => l.all (exI l a)) = false := by
                          cases hc : l.all (fun a => l.all (exI l a)) with
                          | false => rfl
                          | true =>
                            have := List.all_eq_true.1 (List.all_eq_true.1 hc a HMEM.out) b HMB.out
                            rw [hxx] at this
                            cases this
                        rw [h1, Bool.and_false]
            · have hle2 : ¬ (e : Int) < (N : Int) := by omega
              have hen : e = N := by omega
              have hh : exI l a b = true := by rw [HSAME.out]; unfold exS; rw [← hen]; simpa [hen] using HALL3.out
              have HH := Lib.hid hh
              clear hh hen
              go_wp2
              go_roundw
              case rel => exact ⟨k + 1, by omega, by go_num, by rw [HTK2.out, HH.out], Be, Ke⟩
              case measure => simp [intOf]; omega
        · have hlk2 : ¬ (k : Int) < (l.length : Int) := by omega
          have hh := HALL2.out
          rw [List.take_of_length_le (by omega)] at hh
          have HH := Lib.hid hh
          clear hh
          go_wp2
          go_roundw
          case rel => exact ⟨j + 1, by omega, by go_num, by rw [HTK.out, HH.out], Bk, Kk⟩
          case measure => simp [intOf]; omega
    · have hlt2 : ¬ (j : Int) < (l.length : Int) := by omega
      have hh := HALL.out
      rw [List.take_of_length_le (by omega)] at hh
      have HH := Lib.hid hh
      clear hh
      go_wp2_with fail
      refine (HFM.out wr (hv0.below Bw (Nat.le_refl _))).mono ?_
      rintro r w3 ⟨rfl, b3⟩
      have B3 := Bw.after b3 Bw.size
      have K3 := Kw.keep b3
      clear G
      have G := K3.cell
      go_wp2_with fail
      refine (HFM.out w3 (hv0.below B3 (Nat.le_refl _))).mono ?_
      rintro r w5 ⟨rfl, b5⟩
      have B5 := B3.after b5 B3.size
      have K5 := K3.keep b5
      clear G
      have G := K5.cell
      have hgt : (decide ((0 : Int) < (l.length : Int))) = !l.isEmpty := by cases l with | nil => rfl | cons x t => simp
      have HGT := Lib.hid hgt
      clear hgt
      go_wp2
      go_ret
      exact ⟨ret_bool (by rw [HX.out, HH.out, Bool.and_true, ← HGT.out]; simp), B5⟩
end Go.Proofs.YtipejodijbjpcaaGreatDoor
end
