/- Orders in which sets are intervals: the second program. -/
import Derived.Test.YtelmokapdkepbaaDoorQ38
section
namespace Go.Proofs.YtelmokapdkepbaaDoor
open Go.RowKit Go.G5

set_option maxHeartbeats 1000000 in
set_option maxRecDepth 100000 in
theorem spanS_any (p : List Int) (v : Value) (s : Nat) (w : World) (hv : Ints w v p) (hpl : p.length ≤ 6) (hpm : ∀ x ∈ p, 0 ≤ x ∧ x < 6) (hs : s < 64) :
    Calls Tryd.prog 64 #[v, .int .i64 (s : Int)] w fun e w' => e = .returned (.tuple #[.int .i64 (spF p s p.length), .int .i64 (spL p s p.length), .bool (decide (0 ≤ spF p s p.length) && spOk p s)]) ∧ w = w' := by
  obtain ⟨a, b, off, c, rfl, hlen, hix, hc, hb⟩ := hv.view Tryd.prog 22 3 Tryd.underlying22 intElem
  have HC := Lib.hid hc
  have HIX := Lib.hid hix
  have HPM := Lib.hid hpm
  have HSZ := Lib.hid (l2Size_any s w (by omega))
  clear hc hix hpm
  go_enter Tryd.func64, Tryd.ntmps64
  go_wp2
  go_loop [7, 8, 9] (fun fi la i => ∃ k : Nat, k ≤ p.length ∧ i = .int .i64 k ∧ fi = .int .i64 (spF p s k) ∧ la = .int .i64 (spL p s k)) (fun _ _ i => p.length - (intOf i).toNat)
  case atStart => exact ⟨0, Nat.zero_le _, rfl, rfl, rfl⟩
  case round =>
    obtain ⟨k, hk, rfl, rfl, rfl⟩ := hrel
    by_cases hlt : k < p.length
    · have hlt2 : (k : Int) < (p.length : Int) := by omega
      have ck := HC.out k hlt
      have ik := fun W => HIX.out W k hlt
      have hm := HPM.out _ (List.getElem_mem hlt)
      have h1 := spF_succ p s k
      have h2 := spL_succ p s k
      have h3 := spF_bd p s k
      obtain ⟨e, he⟩ : ∃ e : Nat, p[k] = (e : Int) := ⟨p[k].toNat, by omega⟩
      have hin : inP p s k = nbit s e := by
        unfold inP
        rw [List.getD_eq_getElem?_getD, List.getElem?_eq_getElem hlt, Option.getD_some, he, Int.toNat_natCast]
      rw [he] at ck hm
      rw [hin] at h1 h2
      have he6 : e < 6 := by omega
      have hbit := bit_is (s : Int) e (by omega) (by omega)
      have hnb := nbit_is s e
      obtain ⟨y, hy⟩ : ∃ y, y = ibit (s : Int) e := ⟨_, rfl⟩
      rw [← hy] at hbit hnb
      have hp := two_pow e 6 (by omega)
      have hp1 : (2 : Int) ^ e ≤ 64 := by simpa using hp.1
      have hp2 := hp.2
      obtain ⟨F, hF⟩ : ∃ F, F = spF p s k := ⟨_, rfl⟩
      obtain ⟨L, hL⟩ : ∃ F, F = spL p s k := ⟨_, rfl⟩
      rw [← hF] at h1 h3 ⊢
      rw [← hL] at h2 ⊢
      clear hp hy hin he hm hF hL
      cases hbb : nbit s e with
      | false =>
        have hy1 : (y == 1) = false := by rw [hnb, hbb]
        rw [hbb, Bool.false_and, if_neg (by simp)] at h1
        rw [hbb, if_neg (by simp)] at h2
        have H1 := Lib.hid h1
        have H2 := Lib.hid h2
        clear hbb hnb h1 h2
        go_wp2
        go_round
        case rel => exact ⟨k + 1, by omega, by go_num, by rw [H1.out], by rw [H2.out]⟩
        case measure => simp [intOf]; omega
      | true =>
        have hy1 : (y == 1) = true := by rw [hnb, hbb]
        rw [hbb, Bool.true_and] at h1
        rw [hbb, if_pos rfl] at h2
        have H2 := Lib.hid h2
        clear hbb hnb h2
        by_cases hneg : F < 0
        · rw [decide_eq_true hneg, if_pos rfl] at h1
          have H1 := Lib.hid h1
          clear h1
          go_wp2
          go_round
          case rel => exact ⟨k + 1, by omega, by go_num, by rw [H1.out], by rw [H2.out]⟩
          case measure => simp [intOf]; omega
        · rw [decide_eq_false hneg, if_neg (by simp)] at h1
          have H1 := Lib.hid h1
          clear h1
          go_wp2
          go_round
          case rel => exact ⟨k + 1, by omega, by go_num, by rw [H1.out], by rw [H2.out]⟩
          case measure => simp [intOf]; omega
    · have hkp : k = p.length := by omega
      have hlt2 : ¬ (k : Int) < (p.length : Int) := by omega
      have h3 := spF_bd p s p.length
      have h4 := spL_bd p s p.length
      have hok : spOk p s = decide (spL p s p.length - spF p s p.length + 1 = (pop s : Int)) := rfl
      subst hkp
      obtain ⟨F, hF⟩ : ∃ F, F = spF p s p.length := ⟨_, rfl⟩
      obtain ⟨L, hL⟩ : ∃ F, F = spL p s p.length := ⟨_, rfl⟩
      rw [← hF, ← hL] at hok ⊢
      rw [← hF] at h3
      rw [← hL] at h4
      have wr1 : IntKind.i64.wrap (L - F) = L - F := by rw [IntKind.wrap_i64]; omega
      have wr2 : IntKind.i64.wrap (L - F + 1) = L - F + 1 := by rw [IntKind.wrap_i64]; omega
      have hbe : (L - F + 1 == (pop s : Int)) = spOk p s := by rw [hok]; by_cases h : L - F + 1 = (pop s : Int) <;> simp [h]
      obtain ⟨o, ho⟩ : ∃ o, o = spOk p s := ⟨_, rfl⟩
      rw [← ho] at hbe
      have HH := Lib.hid (And.intro hF (And.intro hL ho))
      clear hok hF hL ho
      by_cases hpos : 0 ≤ F
      · go_wp2_with (go_at_call 78; refine HSZ.out.mono ?_; rintro e w3 ⟨rfl, rfl⟩)
        go_ret3
        exact ⟨by rw [← HH.out.1, ← HH.out.2.1, ← HH.out.2.2, decide_eq_true hpos]; rfl, rfl⟩
      · have HD := Lib.hid (decide_eq_false hpos)
        go_wp2_with (go_at_call 78; refine HSZ.out.mono ?_; rintro e w3 ⟨rfl, rfl⟩)
        go_ret3
        exact ⟨by rw [← HH.out.1, ← HH.out.2.1, ← HH.out.2.2, HD.out]; rfl, rfl⟩
set_option maxHeartbeats 1000000 in
set_option maxRecDepth 100000 in
theorem fitsS_any (N : Nat) (hN : N ≤ 6) (l p : List Int) (v u : Value) (w : World) (hv : Ints w v l) (hu : Ints w u p) (hpl : p.length ≤ 6) (hpm : ∀ x ∈ p, 0 ≤ x ∧ x < 6) (hpp : ∀ e, e < N → (e : Int) ∈ p) (hlm : ∀ s ∈ l, 0 ≤ s ∧ s < 2 ^ N) :
    Calls Tryd.prog 42 #[v, u] w fun e w' => e = .returned (.bool (fitP l p)) ∧ w = w' := by
  obtain ⟨a, b, off, c, rfl, hlen, hix, hc, hb⟩ := hv.view Tryd.prog 22 3 Tryd.underlying22 intElem
  have h64 : (2 : Int) ^ N ≤ 64 := by have := (two_pow N 6 hN).1; simpa using this
  have hsp := fun (s : Nat) (hs : s < 64) => spanS_any p _ s _ hu hpl hpm hs
  obtain ⟨a', c', rfl⟩ := hu.shape
  have HC := Lib.hid hc
  have HIX := Lib.hid hix
  have HLM := Lib.hid hlm
  have HSP := Lib.hid hsp
  have HPP := Lib.hid hpp
  clear hc hix hlm hsp hpm hpp
  go_enter Tryd.func42, Tryd.ntmps42
  go_wp2
  go_loop [5] (fun i => ∃ k : Nat, k ≤ l.length ∧ i = .int .i64 k ∧ (∀ j, (hj : j < l.length) → j < k → setOkP p l[j] = true)) (fun i => l.length - (intOf i).toNat)
  case atStart => exact ⟨0, Nat.zero_le _, rfl, by intros; omega⟩
  case round =>
    obtain ⟨k, hk, rfl, hyes⟩ := hrel
    have HY := Lib.hid hyes
    clear hyes
    by_cases hlt : k < l.length
    · have hlt2 : (k : Int) < (l.length : Int) := by omega
      have ck := HC.out k hlt
      have ik := fun W => HIX.out W k hlt
      have hm := HLM.out _ (List.getElem_mem hlt)
      obtain ⟨s, hse⟩ : ∃ s : Nat, l[k] = (s : Int) := ⟨l[k].toNat, by omega⟩
      have hok : setOkP p l[k] = ((s : Int) == 0 || spOk p s) := by unfold setOkP; rw [hse, Int.toNat_natCast]
      have hst := HSP.out s (by omega)
      have hfi : ((s : Int) == 0) = false → decide (0 ≤ spF p s p.length) = true := fun h => by
        have h0 : s ≠ 0 := fun e => by rw [e] at h; exact Bool.noConfusion h
        have : ((2 ^ N : Nat) : Int) = (2 : Int) ^ N := by simp
        exact decide_eq_true (first_is hN HPP.out s (by omega) h0)
      have hno : setOkP p l[k] = false → fitP l p = false := fun h => by
        unfold fitP
        rw [List.all_eq_false]
        exact ⟨l[k], List.getElem_mem hlt, by rw [h]; simp⟩
      have hnx : setOkP p l[k] = true → ∀ j, (hj : j < l.length) → j < k + 1 → setOkP p l[j] = true := fun h j hj hjk => by
        by_cases e : j = k
        · subst e; exact h
        · exact HY.out j hj (by omega)
      rw [hse] at ck
      obtain ⟨o, ho⟩ : ∃ o, o = spOk p s := ⟨_, rfl⟩
      obtain ⟨q, hq⟩ : ∃ q, q = decide (0 ≤ spF p s p.length) := ⟨_, rfl⟩
      rw [← ho] at hok
      rw [← ho, ← hq] at hst
      rw [← hq] at hfi
      have HNO := Lib.hid hno
      have HNX := Lib.hid hnx
      have HST := Lib.hid hst
      clear hno hnx hst ho hse hm hq
      cases h0 : ((s : Int) == 0) with
      | true =>
        have h0n : ((s : Int) != 0) = false := by simp [bne, h0]
        rw [h0, Bool.true_or] at hok
        have HOK := Lib.hid hok
        clear hok hfi
        cases hqo : (q && o) with
        | true =>
          have HQO := Lib.hid hqo
          clear hqo
          go_wp2_with (go_at_call 64; refine HST.out.mono ?_; rintro e w3 ⟨rfl, rfl⟩; rw [HQO.out])
          go_round
          case rel => exact ⟨k + 1, by omega, by go_num, HNX.out HOK.out⟩
          case measure => simp [intOf]; omega
        | false =>
          have HQO := Lib.hid hqo
          clear hqo
          go_wp2_with (go_at_call 64; refine HST.out.mono ?_; rintro e w3 ⟨rfl, rfl⟩; rw [HQO.out])
          go_round
          case rel => exact ⟨k + 1, by omega, by go_num, HNX.out HOK.out⟩
          case measure => simp [intOf]; omega
      | false =>
        have h0n : ((s : Int) != 0) = true := by simp [bne, h0]
        have hqt := hfi h0
        subst hqt
        rw [h0, Bool.false_or] at hok
        have HOK := Lib.hid hok
        clear hok hfi
        cases o with
        | true =>
          go_wp2_with (go_at_call 64; refine HST.out.mono ?_; rintro e w3 ⟨rfl, rfl⟩)
          go_round
          case rel => exact ⟨k + 1, by omega, by go_num, HNX.out HOK.out⟩
          case measure => simp [intOf]; omega
        | false =>
          go_wp2_with (go_at_call 64; refine HST.out.mono ?_; rintro e w3 ⟨rfl, rfl⟩)
          go_ret
          exact ⟨by rw [HNO.out HOK.out]; rfl, rfl⟩
    · have hlt2 : ¬ (k : Int) < (l.length : Int) := by omega
      have hr : fitP l p = true := by
        unfold fitP
        rw [List.all_eq_true]
        intro x hx
        obtain ⟨j, hj, rfl⟩ := List.getElem_of_mem hx
        exact HY.out j hj (by omega)
      have HR := Lib.hid hr
      clear hr
      go_wp2
      go_ret
      exact ⟨by rw [HR.out]; rfl, rfl⟩
set_option maxHeartbeats 1000000 in
set_option maxRecDepth 100000 in
theorem ivS_c (w : World) (g : Int) (v : Value) (l : List Int) (hv : Ints w v l) :
    Calls Tryd.prog 16 #[.agg #[.int .i64 g, v]] w fun e w' => ∃ ad i cp, e = .returned (.tuple #[.slice ad i cp, .bool (ivB g l)]) ∧ OwnI 3 w.heap.size w' (.slice ad i cp) (ivL g l) ∧ Below w.heap.size w w' := by
  have hv0 := hv
  obtain ⟨a, c, rfl⟩ := hv.shape
  go_enter Tryd.func16, Tryd.ntmps16
  go_wp2_with fail
  refine calls_named ?_
  intro V hV
  have B : Below w.heap.size w V := by rw [hV]; exact bl1 _ _
  have K : Blk V w.heap.size 27 #[.int .i64 g, .slice a l.length c] := by rw [hV]; exact Blk.new _ _ _
  clear hV
  refine (isFamS_any g l _ V (hv.below B (Nat.le_refl _))).mono ?_
  rintro e w1 ⟨rfl, b1⟩
  have K := K.keep b1
  have B := B.after b1 B.size
  have G := K.cell
  have z := K.lt
  cases hf : isFamB g l with
  | false =>
    have hx : ivB g l = false ∧ ivL g l = [] := by unfold ivB ivL; rw [hf]; exact ⟨rfl, rfl⟩
    have HX := Lib.hid hx
    have o0 := OwnI.lit0 (E := 3) (B := w.heap.size) w1 B.size
    clear hx hf
    go_wp2
    go_ret2
    exact ⟨_, _, _, by rw [HX.out.1]; rfl, by rw [HX.out.2]; exact o0, B.alloc B.size _⟩
  | true =>
    obtain ⟨hg0, hg6, hlm, _⟩ := famOk hf
    obtain ⟨N, rfl⟩ : ∃ N : Nat, g = N := ⟨g.toNat, by omega⟩
    have hmem := ordersN_mem N N
    have hR : ivR (N : Int) l = (ordersN N N).find? (fitP l) := by unfold ivR; rw [Int.toNat_natCast]
    have hB : ivB (N : Int) l = (ivR (N : Int) l).isSome := by unfold ivB; rw [hf]; rfl
    have hL : ivL (N : Int) l = (ivR (N : Int) l).getD [] := by unfold ivL; rw [hf]; rfl
    have hor := l8Orders6_any N (by omega) N [] (.slice (some ⟨w1.heap.size, 0, none⟩) 0 0) (w1.alloc (.cells #[] 3)) w1.heap.size (by simp) (OwnI.lit0 w1 (Nat.le_refl _)) (by simp)
    rw [ordS_all] at hor
    have HOR := Lib.hid hor
    clear hor
    obtain ⟨ls, hls⟩ : ∃ ls, ls = ordersN N N := ⟨_, rfl⟩
    have hls0 := hls
    have hln := ordersN_len6 N (by omega) N
    have h66 : (6 : Nat) ^ N ≤ 6 ^ 6 := Nat.pow_le_pow_right (by decide) (by omega)
    rw [← hls] at hR hmem HOR hln
    have hln2 : ls.length ≤ 46656 := by omega
    have HRR := Lib.hid hR
    have HBB := Lib.hid hB
    have HLL := Lib.hid hL
    have HME := Lib.hid hmem
    have HLM := Lib.hid (show ∀ s ∈ l, 0 ≤ s ∧ s < (2 : Int) ^ N from fun s hs => by have := hlm s hs; rw [Int.toNat_natCast] at this; exact this)
    have HPP := Lib.hid (show ∀ p ∈ ordersN N N, ∀ e, e < N → (e : Int) ∈ p from fun p hp e he => order_has (by omega) hp he)
    rw [← hls0] at HPP
    clear hf hlm hmem hR hB hL hls hls0 hln h66
    go_wp2_with fail
    refine HOR.out.mono ?_
    rintro e w2 ⟨pO, iO, qO, rfl, oO, b2⟩
    obtain ⟨_, _, hsh, _⟩ := oO.len
    have hiO : iO = ls.length := by injection hsh
    subst hiO
    have z1 := B.size
    have Bx := B.alloc B.size (.cells #[] 3)
    have K := (K.alloc (.cells #[] 3)).keep b2
    have B := Bx.after b2 Bx.size
    clear G z hsh
    have zk := K.lt
    go_wp2_with fail
    go_loopw [5] (fun i wr => ∃ k : Nat, k ≤ ls.length ∧ i = .int .i64 k ∧ (∀ j, (hj : j < ls.length) → j < k → fitP l ls[j] = false) ∧ Below w2.heap.size w2 wr) (fun i _ => ls.length - (intOf i).toNat)
    case atStart => exact ⟨0, Nat.zero_le _, rfl, by intros; omega, Below.refl _ _⟩
    case round =>
      obtain ⟨k, hk, rfl, hno, Br⟩ := hrel
      obtain ⟨wo, rfl⟩ : ∃ z : World, z = wr := ⟨_, rfl⟩
      have HN := Lib.hid hno
      clear hno
      have Bw := B.after Br B.size
      by_cases hlt : k < ls.length
      · have hlt2 : (k : Int) < (ls.length : Int) := by omega
        obtain ⟨gg, u, hix, hcell, hu⟩ := (oO.keep Br).view Tryd.prog 35 Tryd.underlying35 sliceElem k hlt
        have hm := HME.out _ (List.getElem_mem hlt)
        have hft := fun y : Ext wo => fitsS_any N (by omega) l ls[k] _ _ y.w (y.ints (hv0.below Bw (Nat.le_refl _))) (y.ints hu.ints) (by omega) (fun x hx => by have := hm.2 x hx; omega) (fun e he => HPP.out _ (List.getElem_mem hlt) e he) HLM.out
        have hhit : fitP l ls[k] = true → ivR (N : Int) l = some ls[k] := fun h => by rw [HRR.out]; exact find_hit k hlt HN.out h
        have hnx : fitP l ls[k] = false → ∀ j, (hj : j < ls.length) → j < k + 1 → fitP l ls[j] = false := fun h j hj hjk => by
          by_cases e : j = k
          · subst e; exact h
          · exact HN.out j hj (by omega)
        have HNX := Lib.hid hnx
        obtain ⟨p, hp⟩ : ∃ p, p = ls[k] := ⟨_, rfl⟩
        simp only [← hp] at hft
        rw [← hp] at hhit hu hnx HNX
        obtain ⟨o, ho⟩ : ∃ o, o = fitP l p := ⟨_, rfl⟩
        simp only [← ho] at hft
        have HFT := Lib.hid hft
        have HHI := Lib.hid hhit
        have HOO := Lib.hid ho
        have HU := Lib.hid (hu.mono (show w.heap.size ≤ w1.heap.size from z1))
        obtain ⟨ua, un, uc, rfl⟩ := hu.shape3
        have Kw := K.keep Br
        have G := Kw.cell
        have zz := Kw.lt
        clear hnx hhit hft ho hp hm hu
        have a1 := Kw.cell 1
        simp only [List.getElem?_toArray, List.getElem?_cons_zero, List.getElem?_cons_succ] at a1
        have p1 : ∀ y : Ext wo, y.w.cell? ⟨w.heap.size, 1, none⟩ = some (.slice a l.length c) := fun y => y.cell a1
        have p2 : ∀ y : Ext wo, y.w.cell? ⟨gg, k, none⟩ = some (.slice ua un uc) := fun y => y.cell hcell
        clear a1
        cases o with
        | true =>
          go_wp2_with fail
          refine wp_region_ext _ (by kernel_rfl) (by kernel_rfl) ?_
          repeat (first | go_big_quiet_skip | (go_big_quiet_want; go_big_quiet_op; first | go_big_quiet_on | (apply Exists.intro; refine ⟨fun _ => ?_, ?_⟩; (go_at_call 42; exact ext_same (HFT.out _)); go_big_quiet_on)))
          refine wpQuiet_nil ?_
          rintro w5 ⟨⟨w5, b5⟩, rfl⟩
          try dsimp only
          have p3 := (Ext.mk w5 b5).cell hcell
          clear p1 p2 HFT G zz
          go_wp2
          go_ret2
          exact ⟨ua, un, uc, by rw [HBB.out, HHI.out HOO.out.symm]; rfl, by rw [HLL.out, HHI.out HOO.out.symm]; exact HU.out.keep b5, Bw.after b5 Bw.size⟩
        | false =>
          go_wp2_with fail
          refine wp_region_ext _ (by kernel_rfl) (by kernel_rfl) ?_
          repeat (first | go_big_quiet_skip | (go_big_quiet_want; go_big_quiet_op; first | go_big_quiet_on | (apply Exists.intro; refine ⟨fun _ => ?_, ?_⟩; (go_at_call 42; exact ext_same (HFT.out _)); go_big_quiet_on)))
          refine wpQuiet_nil ?_
          rintro w5 ⟨⟨w5, b5⟩, rfl⟩
          try dsimp only
          clear p1 p2 HFT G zz
          go_wp2
          go_roundw
          case rel => exact ⟨k + 1, by omega, by go_num, HNX.out HOO.out.symm, Br.after b5 Br.size⟩
          case measure => simp [intOf]; omega
      · have hlt2 : ¬ (k : Int) < (ls.length : Int) := by omega
        have hr : ivR (N : Int) l = none := by rw [HRR.out]; exact find_miss (fun j hj => HN.out j hj (by omega))
        have HR := Lib.hid hr
        have o0 := OwnI.lit0 (E := 3) (B := w.heap.size) wo Bw.size
        clear hr
        go_wp2
        go_ret2
        exact ⟨_, _, _, by rw [HBB.out, HR.out]; rfl, by rw [HLL.out, HR.out]; exact o0, Bw.alloc Bw.size _⟩
end Go.Proofs.YtelmokapdkepbaaDoor
end
