/- Representatives and violators: the first program. -/
import Derived.Test.YtmfenalnmpndmaaVisit
namespace Go.Proofs.Ytmfenalnmpndmaa
open Go.RowKit Go.G5

set_option maxHeartbeats 2000000 in
set_option maxRecDepth 100000 in
theorem repI_c (w : World) (g : Int) (_ : InR g) (v : Value) (l : List Int) (hv : Ints w v l) (_ : l.length ≤ 1048576) :
    Calls Try.prog 41 #[.int .i64 g, v] w fun e w' => ∃ ad i cp, e = .returned (.tuple #[.slice ad i cp, .bool (repB g l)]) ∧ OwnW 3 w.heap.size w' (.slice ad i cp) (repL g l) ∧ Below w.heap.size w w' := by
  have hv0 := hv
  obtain ⟨a, c, rfl⟩ := hv.shape
  cases hf : fewB g l with
  | false =>
    have hr : repR g l = none := by unfold repR; rw [hf]; rfl
    have hB : repB g l = false := by unfold repB; rw [hr]; rfl
    have hL : repL g l = [] := repL_none hB
    have H := Lib.hid (And.intro hB hL)
    have HF := Lib.hid hf
    clear hr hB hL hf
    go_enter Try.func41, Try.ntmps41
    go_wp2_with (go_at_call 95; refine (areFew_any g l _ _ hv0).mono ?_; rintro e w1 ⟨rfl, rfl⟩; rw [HF.out])
    go_ret2
    exact ⟨none, 0, 0, by rw [H.out.1]; rfl, by rw [H.out.2]; exact OwnW.nil _ _ _, Below.refl _ _⟩
  | true =>
    have hr : repR g l = repG l l.length 0 [] := by unfold repR; rw [hf]; rfl
    obtain ⟨hl6, _, _, _, hm⟩ := few_ok hf
    have HF := Lib.hid hf
    have hmf : ∀ (fn : Fn) (first cap : Array Value) (w : World), (Instr.makeFunc fn first cap).run Try.prog w = .ok (.func fn first cap) w := fun _ _ _ _ => rfl
    have hvis : ∀ V, Below w.heap.size w V → w.heap.size + 2 ≤ V.heap.size → Blk V w.heap.size 24 #[.slice none 0 0] → Blk V (w.heap.size + 1) 4 #[.bool false] →
        Calls Try.prog 96 #[.slice a l.length c, .int .i64 0, .slice none 0 0, .func (.func 97) #[] #[.pointer (some ⟨w.heap.size, 0, none⟩), .pointer (some ⟨w.heap.size + 1, 0, none⟩)]] V (visPost w.heap.size (w.heap.size + 1) (w.heap.size + 2) V (repR g l)) := fun V hB hz h1 h2 => by
      rw [hr]
      exact visit_any l _ hm hl6 _ _ (by omega) l.length 0 [] _ V (w.heap.size + 2) (by simp) (hv0.below hB (Nat.le_refl _)) (OwnI.nil _ _ _) hz (by omega) (by omega) h1 h2 (by omega)
    obtain ⟨R, hR⟩ : ∃ R, R = repR g l := ⟨_, rfl⟩
    simp only [← hR] at hvis
    have HV := Lib.hid hvis
    clear hvis hr hf hm hl6
    cases R with
    | none =>
      have hB : repB g l = false := by unfold repB; rw [← hR]; rfl
      have H := Lib.hid (And.intro hB (repL_none hB))
      clear hB hR
      go_enter Try.func41, Try.ntmps41
      go_wp2_with (go_at_call 95; refine (areFew_any g l _ _ hv0).mono ?_; rintro e w1 ⟨rfl, rfl⟩; rw [HF.out])
      refine calls_named ?_
      intro V hV
      have B : Below w.heap.size w V := by rw [hV]; exact bl2 _ _ _
      have K1 : Blk V w.heap.size 24 #[.slice none 0 0] := by rw [hV]; exact (Blk.new _ _ _).alloc _
      have K2 : Blk V (w.heap.size + 1) 4 #[.bool false] := by rw [hV]; have := Blk.new (w.alloc (.cells #[.slice none 0 0] 24)) 4 #[.bool false]; simpa using this
      have z2 := K2.lt
      clear hV
      refine (HV.out V B (by omega) K1 K2).mono ?_
      rintro e w3 ⟨rfl, hb3⟩
      have K1 := K1.keep hb3
      have K2 := K2.keep hb3
      have B3 := B.after hb3 B.size
      have G1 := K1.cell
      have G2 := K2.cell
      go_wp2_with fail
      go_quiet (fail)
      go_wp2
      go_ret2
      exact ⟨none, 0, 0, by rw [H.out.1]; rfl, by rw [H.out.2]; exact OwnW.nil _ _ _, B3.drewN' _⟩
    | some y =>
      have hB : repB g l = true := by unfold repB; rw [← hR]; rfl
      have hL : repL g l = y := by unfold repL; rw [← hR]; rfl
      have H := Lib.hid (And.intro hB hL)
      clear hB hR hL
      go_enter Try.func41, Try.ntmps41
      go_wp2_with (go_at_call 95; refine (areFew_any g l _ _ hv0).mono ?_; rintro e w1 ⟨rfl, rfl⟩; rw [HF.out])
      refine calls_named ?_
      intro V hV
      have B : Below w.heap.size w V := by rw [hV]; exact bl2 _ _ _
      have K1 : Blk V w.heap.size 24 #[.slice none 0 0] := by rw [hV]; exact (Blk.new _ _ _).alloc _
      have K2 : Blk V (w.heap.size + 1) 4 #[.bool false] := by rw [hV]; have := Blk.new (w.alloc (.cells #[.slice none 0 0] 24)) 4 #[.bool false]; simpa using this
      have z2 := K2.lt
      clear hV
      refine (HV.out V B (by omega) K1 K2).mono ?_
      rintro e w3 ⟨rfl, ⟨p3, i3, q3, o3, K3⟩, K4, g3⟩
      have B3 := Below.growIn B g3 B.size (by rintro k (h | h) <;> omega)
      have G1 := K3.cell
      have G2 := K4.cell
      clear K1 K2
      go_wp2_with fail
      go_quiet (fail)
      go_wp2
      go_ret2
      exact ⟨p3, i3, q3, by rw [H.out.1]; rfl, by rw [H.out.2]; exact (o3.toW.mono (by omega)).drewN _, B3.drewN' _⟩

set_option maxHeartbeats 1000000 in
set_option maxRecDepth 100000 in
theorem lackOf_any (l : List Int) (v : Value) (w : World) (hv : Ints w v l) (hm : ∀ x ∈ l, 0 ≤ x ∧ x < 64) (hl6 : l.length ≤ 6) (code : Nat) (hcode : code < 64) :
    Calls Try.prog 100 #[v, .int .i64 code] w fun e w' => e = .returned (.int .i64 ((pop code : Int) - ipop (unionTo l code l.length))) ∧ w = w' := by
  obtain ⟨a, b, off, c, rfl, hlen, hix, hc, hb⟩ := hv.view Try.prog 24 3 Try.underlying24 intElem
  have HM := Lib.hid hm
  clear hm
  go_enter Try.func100, Try.ntmps100
  go_wp2
  go_loop [5, 10] (fun u i => ∃ k : Nat, k ≤ l.length ∧ i = .int .i64 k ∧ u = .int .i64 (unionTo l code k)) (fun _ i => l.length - (intOf i).toNat)
  case atStart => exact ⟨0, Nat.zero_le _, rfl, rfl⟩
  case round =>
    obtain ⟨k, hk, rfl, rfl⟩ := hrel
    by_cases hlt : k < l.length
    · have hck := hc k hlt
      have hmk := HM.out _ (List.getElem_mem hlt)
      have hub := unionTo_bd l code HM.out k hk
      have hs : unionTo l code (k + 1) = if nbit code k then ior (unionTo l code k) l[k] else unionTo l code k := by rw [unionTo, getD_at l k hlt]
      have hbit := bit_is (code : Int) k (by omega) (by omega)
      have hnb := nbit_is code k
      obtain ⟨y, hy⟩ : ∃ y, y = ibit (code : Int) k := ⟨_, rfl⟩
      rw [← hy] at hbit hnb
      have hor := ior_is hub.1 (show unionTo l code k < 4611686018427387904 by omega) hmk.1 (show l[k] < 4611686018427387904 by omega)
      obtain ⟨u, hu⟩ : ∃ u, u = unionTo l code k := ⟨_, rfl⟩
      rw [← hu] at hor hs ⊢
      have HS := Lib.hid hs
      clear hs hy hu hub hmk
      cases hbb : nbit code k with
      | false =>
        have hy1 : (y == 1) = false := by rw [hnb, hbb]
        have HBB := Lib.hid hbb
        clear hbb hnb
        go_wp2
        go_round
        case rel => exact ⟨k + 1, by omega, by go_num, by rw [HS.out, HBB.out]; rfl⟩
        case measure => simp [intOf]; omega
      | true =>
        have hy1 : (y == 1) = true := by rw [hnb, hbb]
        have HBB := Lib.hid hbb
        clear hbb hnb
        go_wp2
        go_round
        case rel => exact ⟨k + 1, by omega, by go_num, by rw [HS.out, HBB.out, if_pos rfl]⟩
        case measure => simp [intOf]; omega
    · have hkl : k = l.length := by omega
      subst hkl
      have hub := unionTo_bd l code HM.out l.length (Nat.le_refl _)
      obtain ⟨u, hu⟩ : ∃ u, u = unionTo l code l.length := ⟨_, rfl⟩
      rw [← hu] at hub ⊢
      have hpu := ipop_bd u (by omega)
      have hpc := pop_le code (by omega)
      have HU := Lib.hid hu
      have hub0 := hub.1
      have hub1 := hub.2
      clear hu hub
      go_wp2_with (first
        | (go_at_call 58; refine (sizeOf_any code _ (by omega)).mono ?_; rintro e w1 ⟨rfl, rfl⟩)
        | (go_at_call 58; refine (sizeOf_i u _ hub0 (by omega)).mono ?_; rintro e w1 ⟨rfl, rfl⟩))
      go_ret
      exact ⟨ret_int (by rw [← HU.out]), rfl⟩

set_option maxHeartbeats 2000000 in
set_option maxRecDepth 100000 in
theorem vioI_c (w : World) (g : Int) (_ : InR g) (v : Value) (l : List Int) (hv : Ints w v l) (_ : l.length ≤ 1048576) :
    Calls Try.prog 43 #[.int .i64 g, v] w fun e w' => ∃ ad i cp, e = .returned (.tuple #[.slice ad i cp, .bool (vioB g l)]) ∧ OwnW 3 w.heap.size w' (.slice ad i cp) (vioL g l) ∧ Below w.heap.size w w' := by
  have hv0 := hv
  obtain ⟨a, c, rfl⟩ := hv.shape
  cases hf : fewB g l with
  | false =>
    have hr : vioR g l = none := by unfold vioR; rw [hf]; rfl
    have hB : vioB g l = false := by unfold vioB; rw [hr]; rfl
    have hL : vioL g l = [] := by unfold vioL; rw [hr]
    have H := Lib.hid (And.intro hB hL)
    have HF := Lib.hid hf
    clear hr hB hL hf
    go_enter Try.func43, Try.ntmps43
    go_wp2_with (go_at_call 95; refine (areFew_any g l _ _ hv0).mono ?_; rintro e w1 ⟨rfl, rfl⟩; rw [HF.out])
    go_ret2
    exact ⟨none, 0, 0, by rw [H.out.1]; rfl, by rw [H.out.2]; exact OwnW.nil _ _ _, Below.refl _ _⟩
  | true =>
    have hr : vioR g l = firstFrom (lackB l) (2 ^ l.length) 0 := by unfold vioR; rw [hf]; rfl
    obtain ⟨hl6, _, _, _, hm⟩ := few_ok hf
    have HF := Lib.hid hf
    have HM := Lib.hid hm
    have hp6 : (2 : Nat) ^ l.length ≤ 64 := Nat.pow_le_pow_right (n := 2) (by decide) hl6
    have hpi : ((2 ^ l.length : Nat) : Int) = (2 : Int) ^ l.length := by simp
    have hp1 : (2 : Int) ^ l.length ≤ 64 := by rw [← hpi]; exact_mod_cast hp6
    have hp2 := (two_pow l.length 6 hl6).2
    obtain ⟨N, hN⟩ : ∃ N : Nat, N = 2 ^ l.length := ⟨_, rfl⟩
    rw [← hN] at hr hp6 hpi
    obtain ⟨P, hP⟩ : ∃ P, P = lackB l := ⟨_, rfl⟩
    rw [← hP] at hr
    have HR := Lib.hid hr
    have HPI := Lib.hid hpi
    have HP := Lib.hid hP
    clear hr hf hm hN hpi hP
    go_enter Try.func43, Try.ntmps43
    go_wp2_with (go_at_call 95; refine (areFew_any g l _ _ hv0).mono ?_; rintro e w1 ⟨rfl, rfl⟩; rw [HF.out])
    go_loop [15] (fun i => ∃ k : Nat, k ≤ N ∧ i = .int .i64 k ∧ firstFrom P (N - k) k = firstFrom P N 0) (fun i => N - (intOf i).toNat)
    case atStart => exact ⟨0, Nat.zero_le _, rfl, rfl⟩
    case round =>
      obtain ⟨k, hk, rfl, hfirst⟩ := hrel
      have H := Lib.hid hfirst
      clear hfirst
      by_cases hlt : k < N
      · have hlt2 : (k : Int) < 2 ^ l.length := by rw [← HPI.out]; exact_mod_cast hlt
        have hstep : firstFrom P (N - k) k = if P k then some k else firstFrom P (N - (k + 1)) (k + 1) := by
          rw [show N - k = (N - (k + 1)) + 1 by omega]; rfl
        have hPk : P k = decide (ipop (unionTo l k l.length) < (pop k : Int)) := by rw [HP.out]; rfl
        have hlk := lackOf_any l _ w hv0 HM.out hl6 k (by omega)
        have hub := unionTo_bd l k HM.out l.length (Nat.le_refl _)
        have hpu := ipop_bd (unionTo l k l.length) (by omega)
        have hpc := pop_le k (by omega)
        obtain ⟨q, hq⟩ : ∃ q, q = ipop (unionTo l k l.length) := ⟨_, rfl⟩
        obtain ⟨r, hr⟩ : ∃ r, r = (pop k : Int) := ⟨_, rfl⟩
        rw [← hq] at hPk hlk hpu
        rw [← hr] at hPk hlk
        have hr8 : r ≤ 8 ∧ 0 ≤ r := by rw [hr]; omega
        have HLK := Lib.hid hlk
        have HST := Lib.hid hstep
        have hk64 : k < 64 := by omega
        clear hlk hstep hub hq hr hpc
        cases hbb : P k with
        | false =>
          have hnl : ¬ 0 < r - q := by rw [hbb] at hPk; have := of_decide_eq_false hPk.symm; omega
          have HBB := Lib.hid hbb
          clear hbb hPk
          go_wp2_with (go_at_call 100; refine HLK.out.mono ?_; rintro e w1 ⟨rfl, rfl⟩)
          go_round
          case rel => exact ⟨k + 1, by omega, by go_num, by rw [← H.out, HST.out, HBB.out]; rfl⟩
          case measure => simp [intOf]; omega
        | true =>
          have hyl : 0 < r - q := by rw [hbb] at hPk; have := of_decide_eq_true hPk.symm; omega
          have hR : vioR g l = some k := by rw [HR.out, ← H.out, HST.out, hbb]; rfl
          have hB : vioB g l = true := by unfold vioB; rw [hR]; rfl
          have hL : vioL g l = elL (k : Int) := by unfold vioL; rw [hR]
          have HB := Lib.hid (And.intro hB hL)
          clear hbb hPk hR hB hL
          go_wp2_with (first
            | (go_at_call 100; refine HLK.out.mono ?_; rintro e w1 ⟨rfl, rfl⟩)
            | (go_at_call 101; refine (elementsOf_i (k : Int) _ (by omega) (by omega)).mono ?_; rintro e w2 ⟨p2, i2, q2, rfl, o2, hb2⟩))
          go_ret2
          exact ⟨p2, i2, q2, by rw [HB.out.1]; rfl, by rw [HB.out.2]; exact o2.toW, hb2⟩
      · have hlt2 : ¬ (k : Int) < 2 ^ l.length := by rw [← HPI.out]; exact_mod_cast hlt
        have hR : vioR g l = none := by rw [HR.out, ← H.out, show N - k = 0 by omega]; rfl
        have hB : vioB g l = false := by unfold vioB; rw [hR]; rfl
        have hL : vioL g l = [] := by unfold vioL; rw [hR]
        have HB := Lib.hid (And.intro hB hL)
        clear hR hB hL
        go_wp2
        go_ret2
        exact ⟨none, 0, 0, by rw [HB.out.1]; rfl, by rw [HB.out.2]; exact OwnW.nil _ _ _, Below.refl _ _⟩
end Go.Proofs.Ytmfenalnmpndmaa
