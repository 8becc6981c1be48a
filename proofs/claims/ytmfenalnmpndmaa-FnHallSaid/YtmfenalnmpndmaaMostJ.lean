/- The largest part: the first program. -/
import Derived.Test.YtmfenalnmpndmaaMostI
namespace Go.Proofs.Ytmfenalnmpndmaa
open Go.RowKit Go.G5

set_option maxHeartbeats 4000000 in
set_option maxRecDepth 100000 in
theorem lpI_any (w : World) (g : Int) (v : Value) (l : List Int) (hv : Ints w v l) :
    Calls Try.prog 46 #[.int .i64 g, v] w fun e w' => e = .returned (.tuple #[.int .i64 (mstR g l), .bool (fewB g l)]) ∧ Below w.heap.size w w' := by
  have hv0 := hv
  obtain ⟨a, b, off, c, rfl, hlen, hix, hc, hb⟩ := hv.view Try.prog 24 3 Try.underlying24 intElem
  cases hf : fewB g l with
  | false =>
    have hx : mstR g l = 0 := by unfold mstR; rw [hf]; rfl
    have HX := Lib.hid hx
    have HF := Lib.hid hf
    clear hx hf hc hb hix
    go_enter Try.func46, Try.ntmps46
    go_wp2_with (go_at_call 95; refine (areFew_any g l _ _ hv0).mono ?_; rintro e w1 ⟨rfl, rfl⟩; rw [HF.out])
    go_ret2
    refine ⟨?_, Below.refl _ _⟩
    rw [HX.out]
    rfl
  | true =>
    obtain ⟨hl6, h0, hg6, _, hm⟩ := few_ok hf
    have hx : mstR g l = ((lpN g l : Nat) : Int) := by unfold mstR; rw [hf, lp_most g l hf]; rfl
    have hgr : InR g := ⟨by omega, by omega⟩
    obtain ⟨f, hfd⟩ : ∃ f : Int → Int, f = fun i => l.getD i.toNat 0 := ⟨_, rfl⟩
    obtain ⟨P, hP⟩ : ∃ P : Nat → Bool, P = fun code => repB g (pickI l code) := ⟨_, rfl⟩
    obtain ⟨F, hF⟩ : ∃ F : Nat → Nat, F = fun code => (pickI l code).length := ⟨_, rfl⟩
    have hlp : lpN g l = maxTo P F 0 (2 ^ l.length) := by rw [hP, hF]; rfl
    have hF6 : ∀ k, F k ≤ 6 := fun k => by rw [hF]; unfold pickI; simp only [List.length_map]; exact elL_len6 _
    have hmx : ∀ k, maxTo P F 0 k ≤ 6 := fun k => by
      rcases maxTo_is P F 0 k with h | ⟨e, _, _, h⟩
      · omega
      · rw [h]; exact hF6 e
    have hpk : ∀ k, pickI l k = (elL (k : Int)).map f := fun k => by rw [hfd]; rfl
    have hP2 : ∀ k, P k = repB g ((elL (k : Int)).map f) := fun k => by rw [hP, ← hpk]
    have hF2 : ∀ k, F k = (elL (k : Int)).length := fun k => by rw [hF]; simp only [hpk, List.length_map]
    have hbd : ∀ k : Nat, k < 2 ^ l.length → ∀ i ∈ elL (k : Int), 0 ≤ i ∧ i < (l.length : Int) := fun k hk i hi => by
      rw [elL_fam l hl6 k hk] at hi
      exact famOf_bd k l.length i hi
    have hfe : ∀ e : Nat, (h : e < l.length) → f (e : Int) = l[e] := fun e h => by rw [hfd]; simp only [Int.toNat_natCast]; exact getD_at l e h
    have hp6 : (2 : Nat) ^ l.length ≤ 64 := Nat.pow_le_pow_right (n := 2) (by decide) hl6
    have hpi : ((2 ^ l.length : Nat) : Int) = (2 : Int) ^ l.length := by simp
    have hp1 : (2 : Int) ^ l.length ≤ 64 := by rw [← hpi]; exact_mod_cast hp6
    have hp2 := (two_pow l.length 6 hl6).2
    obtain ⟨N, hN⟩ : ∃ N : Nat, N = 2 ^ l.length := ⟨_, rfl⟩
    rw [← hN] at hlp hp6 hpi
    simp only [← hN] at hbd
    have hcR := hv0.inR
    have HF := Lib.hid hf
    have HX := Lib.hid (hx.trans (by rw [hlp]))
    have HPI := Lib.hid hpi
    have HP := Lib.hid hP2
    have HF2 := Lib.hid hF2
    have HMX := Lib.hid hmx
    have HBD := Lib.hid hbd
    have HFE := Lib.hid hfe
    have HC := Lib.hid hc
    have HIX := Lib.hid hix
    have HB := Lib.hid hb
    have HCR := Lib.hid hcR
    clear hx hf hm hN hpi hP hF hF6 hmx hpk hP2 hF2 hbd hfe hfd hlp hc hix hb hcR hv
    go_enter Try.func46, Try.ntmps46
    go_wp2_with (go_at_call 95; refine (areFew_any g l _ _ hv0).mono ?_; rintro e w1 ⟨rfl, rfl⟩; rw [HF.out])
    go_loopw [6, 21] (fun m i wr => ∃ k : Nat, k ≤ N ∧ i = .int .i64 k ∧ m = .int .i64 ((maxTo P F 0 k : Nat) : Int) ∧ Below w.heap.size w wr) (fun _ i _ => N - (intOf i).toNat)
    case atStart => exact ⟨0, Nat.zero_le _, rfl, rfl, Below.refl _ _⟩
    case round =>
      obtain ⟨k, hk, rfl, rfl, Bw⟩ := hrel
      obtain ⟨wo, rfl⟩ : ∃ wo : World, wo = wr := ⟨_, rfl⟩
      have yw := Bw.size
      by_cases hlt : k < N
      · have hlt2 : (k : Int) < 2 ^ l.length := by rw [← HPI.out]; exact_mod_cast hlt
        have hms : maxTo P F 0 (k + 1) = if P k then max (maxTo P F 0 k) (F k) else maxTo P F 0 k := rfl
        have hm6 := HMX.out k
        obtain ⟨M, hM⟩ : ∃ M, M = maxTo P F 0 k := ⟨_, rfl⟩
        rw [← hM] at hms hm6 ⊢
        have HMS := Lib.hid hms
        have hPk := HP.out k
        have hFk := HF2.out k
        have hEb := HBD.out k hlt
        have hE6 := elL_len6 (k : Int)
        clear hms hM
        go_wp2_with fail
        refine (elementsOf_i (k : Int) _ (by omega) (by omega)).mono ?_
        rintro e w1 ⟨p1, i1, q1, rfl, o1, hb1⟩
        have hi1 : i1 = (elL (k : Int)).length := o1.ints.capLe.1
        obtain ⟨E, hE⟩ : ∃ E, E = elL (k : Int) := ⟨_, rfl⟩
        rw [← hE] at o1 hi1 hPk hFk hEb hE6
        subst hi1
        have B1 := Bw.after hb1 Bw.size
        have HPK := Lib.hid hPk
        have HFK := Lib.hid hFk
        have HEB := Lib.hid hEb
        have o1 := o1.ints
        clear hE hPk hFk hEb
        go_wp2_with fail
        go_loopw [8, 27] (fun s i wr => ∃ (j : Nat) (ad : Option Addr) (nn cp : Nat), j ≤ E.length ∧ i = .int .i64 j ∧ s = .slice ad nn cp ∧ OwnI 3 w1.heap.size wr (.slice ad nn cp) ((E.take j).map f) ∧ Below w1.heap.size w1 wr) (fun _ i _ => E.length - (intOf i).toNat)
        case atStart => exact ⟨0, none, 0, 0, Nat.zero_le _, rfl, rfl, by simp only [List.take_zero, List.map_nil]; exact OwnI.nil _ _ _, Below.refl _ _⟩
        case round =>
          obtain ⟨j, ad, nn, cp, hj, rfl, rfl, ho, Bj⟩ := hrel
          have yj := Bj.size
          by_cases hje : j < E.length
          · have oE := o1.below Bj (Nat.le_refl _)
            obtain ⟨a5, bj, offj, c5, he5, hlenj, hixj, hcj, _⟩ := oE.view Try.prog 24 3 Try.underlying24 intElem
            simp only [Value.slice.injEq, true_and] at he5
            obtain ⟨rfl, rfl⟩ := he5
            have hejb := HEB.out _ (List.getElem_mem hje)
            have hcjj := hcj j hje
            have hixjj := fun W => hixj W j hje
            have htk : (E.take (j + 1)).map f = (E.take j).map f ++ [f E[j]] := by rw [List.take_succ_eq_append_getElem hje, List.map_append]; rfl
            obtain ⟨e, he'⟩ : ∃ e : Nat, E[j] = (e : Int) := ⟨E[j].toNat, by omega⟩
            rw [he'] at hcjj hejb htk
            have hel : e < l.length := by omega
            rw [HFE.out e hel] at htk
            have hyr := HCR.out _ (List.getElem_mem hel)
            have hce : wr.cell? ⟨b, off + e, none⟩ = some (.int .i64 l[e]) := keep (B1.after Bj B1.size) (HC.out e hel)
            have hixe := fun W => HIX.out W e hel
            obtain ⟨y, hy⟩ : ∃ y, y = l[e] := ⟨_, rfl⟩
            rw [← hy] at htk hyr hce
            have hl6' : ((E.take j).map f).length ≤ 6 := by rw [List.length_map, List.length_take]; omega
            have hrow := ho.lt
            obtain ⟨L, hL⟩ : ∃ L, L = (E.take j).map f := ⟨_, rfl⟩
            rw [← hL] at htk hl6' ho
            have HTK := Lib.hid htk
            have HO := Lib.hid ho
            have HBJ := Lib.hid Bj
            have HYR := Lib.hid hyr
            have he6 : e < 6 := by omega
            clear htk ho Bj hy hL he' hejb oE hcj hixj hyr
            go_wp2_with (at_builtin; refine wpList_appendI rfl _ _ _ rfl 3 Try.underlying24 intElem w1.heap.size _ _ y wr.heap.size rfl rfl (cell_new wr #[.int .i64 y] 3 0 _ rfl) (HO.out.alloc _) HYR.out (by omega) (by simp; omega) ?_; intro v' w6 hown hgr; obtain ⟨av, nv, cv, rfl⟩ := hown.shape3)
            have B6 : Below w1.heap.size w1 w6 := (HBJ.out.alloc HBJ.out.size (.cells #[.int .i64 y] 3)).grown hgr (by simp; omega) (fun p hp => (hrow p hp).1)
            go_roundw
            case rel => exact ⟨j + 1, av, nv, cv, by omega, by go_num, rfl, by rw [HTK.out]; exact hown, B6⟩
            case measure => simp [intOf]; omega
          · rw [List.take_of_length_le (by omega)] at ho
            obtain ⟨L, hL⟩ : ∃ L, L = E.map f := ⟨_, rfl⟩
            have hLl : L.length = E.length := by rw [hL, List.length_map]
            rw [← hL] at ho
            obtain ⟨_, cv, hsv⟩ := ho.shape
            injection hsv with ha hnn hcp
            subst ha
            subst hnn
            subst hcp
            have hL6 : L.length ≤ 1048576 := by omega
            have hRep := repI_c wr g hgr _ L ho.ints hL6
            have hPL : P k = repB g L := by rw [HPK.out, hL]
            have hFL : F k = L.length := by rw [HFK.out, hLl]
            rw [← hPL] at hRep
            have HREP := Lib.hid hRep
            have HFL := Lib.hid hFL
            have Bz := B1.after Bj B1.size
            have hLE : L.length ≤ 6 := by omega
            clear hRep hPL hFL hL hLl ho
            cases hbb : P k with
            | false =>
              rw [hbb] at HREP
              have HBB := Lib.hid hbb
              clear hbb
              go_wp2_with (go_at_call 41; with_reducible refine HREP.out.mono ?_; rintro e w3 ⟨p3, i3, q3, rfl, _, b3⟩)
              go_roundw
              case rel => exact ⟨k + 1, by omega, by go_num, by rw [HMS.out, HBB.out]; rfl, Bz.after b3 Bz.size⟩
              case measure => simp [intOf]; omega
            | true =>
              rw [hbb] at HREP
              have HBB := Lib.hid hbb
              clear hbb
              go_wp2_with (go_at_call 41; with_reducible refine HREP.out.mono ?_; rintro e w3 ⟨p3, i3, q3, rfl, _, b3⟩)
              go_roundw
              case rel => exact ⟨k + 1, by omega, by go_num, by rw [HMS.out, HBB.out, if_pos rfl, HFL.out]; congr 1; split <;> omega, Bz.after b3 Bz.size⟩
              case measure => simp [intOf]; omega
      · have hlt2 : ¬ (k : Int) < 2 ^ l.length := by rw [← HPI.out]; exact_mod_cast hlt
        have hkn : k = N := by omega
        have HK := Lib.hid hkn
        clear hkn
        go_wp2
        go_ret2
        refine ⟨?_, Bw⟩
        rw [HX.out, HK.out]
        rfl
end Go.Proofs.Ytmfenalnmpndmaa
