/- Minimum cuts: the first program's search, and claims of it. -/
import Derived.Test.YtbkgconoadicjaaCutI
import Derived.Test.YtbkgconoadicjaaMarkK
import Derived.Deep.RegionHeld3
namespace Go.Proofs.Ytbkgconoadicjaa
open Go.RowKit Go.G5

theorem fit_fun {n : Int} {l : List Int} (h : fitB n l = true) : isFunB n l = true ∧ 2 ≤ n := by
  unfold fitB subB at h
  simp only [Bool.and_eq_true, decide_eq_true_eq] at h
  exact ⟨h.1.1.1, h.2⟩
theorem fit_size {n : Int} {l : List Int} (h : fitB n l = true) : 4 ≤ l.length ∧ l.length ≤ 32 ∧ (l.length : Int) = 2 ^ n.toNat ∧ n ≤ 5 ∧ ∀ k, (hk : k < l.length) → -1000 ≤ l[k] ∧ l[k] ≤ 1000 := by
  obtain ⟨h1, h2⟩ := fit_fun h
  obtain ⟨h0, h5, hlen, hlb⟩ := funOk h1
  obtain ⟨m, hm⟩ : ∃ m : Nat, n.toNat = m := ⟨_, rfl⟩
  have hm2 : 2 ≤ m ∧ m ≤ 5 := by omega
  have hp4 : (2 : Nat) ^ 2 ≤ 2 ^ m := Nat.pow_le_pow_right (by decide) hm2.1
  have hp5 : (2 : Nat) ^ m ≤ 2 ^ 5 := Nat.pow_le_pow_right (by decide) hm2.2
  have hln : l.length = 2 ^ m := by rw [hm] at hlen; exact_mod_cast hlen
  exact ⟨by omega, by omega, hlen, h5, hlb⟩

set_option maxHeartbeats 2000000 in
set_option maxRecDepth 100000 in
theorem minCutI_c (w : World) (n : Int) (v : Value) (l : List Int) (hv : Ints w v l) (hl : l.length ≤ 1048576) :
    Calls Try.prog 93 #[.agg #[.int .i64 n, v]] w fun e w' => e = .returned (.tuple #[.int .i64 (cutN n l), .int .i64 (cutS n l), .bool (fitB n l)]) ∧ Below w.heap.size w w' := by
  have hv0 := hv
  obtain ⟨a, b, off, c, rfl, hlen, hix, hc, hb⟩ := hv.view Try.prog 22 3 Try.underlying22 intElem
  have K0 := Blk.new w 54 #[.int .i64 n, .slice a l.length c]
  cases hf : fitB n l with
  | false =>
    have hN : cutN n l = 0 := by unfold cutN; rw [hf]; rfl
    have hS : cutS n l = 0 := by unfold cutS; rw [hf]; rfl
    have H := Lib.hid (And.intro hN hS)
    have HF := Lib.hid hf
    clear hN hS hf hc
    go_enter Try.func93, Try.ntmps93
    go_wp2_with (go_at_call 136; refine (canCut_any n l _ _ (hv0.alloc _) hl).mono ?_; rintro e w1 ⟨rfl, hb1⟩; rw [HF.out])
    go_ret3
    exact ⟨by rw [H.out.1, H.out.2]; rfl, (bl1 _ _).after hb1 (by simp)⟩
  | true =>
    obtain ⟨h4, h32, hpow, hn5, hlb⟩ := fit_size hf
    have hn0 : 0 ≤ n := by have := (fit_fun hf).2; omega
    have hN : cutN n l = l.getD (bestTo l (l.length - 1)) 0 := by unfold cutN; rw [hf]; rfl
    have hS : cutS n l = (bestTo l (l.length - 1) : Int) := by unfold cutS; rw [hf]; rfl
    have H := Lib.hid (And.intro hN hS)
    have HF := Lib.hid hf
    have HLB := Lib.hid hlb
    have HC := Lib.hid hc
    have HIX := Lib.hid hix
    have HPW := Lib.hid hpow
    have HAL := Lib.hid (fun (W : World) (hW : Ints W (.slice a l.length c) l) => allOf_any n (.slice a l.length c) l W hW hn0 (by omega))
    clear hN hS hf hlb hc hix hpow
    go_enter Try.func93, Try.ntmps93
    go_wp2_with fail
    refine (canCut_any n l _ _ (hv0.alloc _) hl).mono ?_
    rintro e w1 ⟨rfl, hb1⟩
    rw [HF.out]
    have K1 := K0.keep hb1
    have B1 : Below w.heap.size w w1 := (bl1 _ _).after hb1 (by simp)
    clear K0 hb1
    go_wp2_with fail
    go_loopw [5, 6] (fun bst i wr => ∃ k : Nat, 2 ≤ k ∧ k ≤ l.length - 1 ∧ i = .int .i64 k ∧ bst = .int .i64 (bestTo l k : Int) ∧ Below w.heap.size w wr ∧ Blk wr w.heap.size 54 #[.int .i64 n, .slice a l.length c]) (fun _ i _ => l.length - (intOf i).toNat)
    case atStart => exact ⟨2, by omega, by omega, rfl, rfl, B1, K1⟩
    case round =>
      obtain ⟨k, hk2, hk, rfl, rfl, B, K⟩ := hrel
      have G1 := K.cell
      have hbk := bestTo_lt l k hk2
      obtain ⟨p, hp⟩ : ∃ p, p = bestTo l k := ⟨_, rfl⟩
      rw [← hp] at hbk ⊢
      have cp := HC.out p (by omega)
      have cp2 := cells_below HC.out hb B (Nat.le_refl _) p (by omega)
      have ip := fun W => HIX.out W p (by omega)
      by_cases hlt : k < l.length - 1
      · have hst := bestTo_succ l k hk2
        rw [← hp, getD_at l k (by omega), getD_at l p (by omega)] at hst
        have ck := cells_below HC.out hb B (Nat.le_refl _) k (by omega)
        have ik := fun W => HIX.out W k (by omega)
        obtain ⟨x, hx⟩ : ∃ x, x = l[k] := ⟨_, rfl⟩
        obtain ⟨y, hy⟩ : ∃ x, x = l[p] := ⟨_, rfl⟩
        rw [← hx] at ck hst
        rw [← hy] at cp2 hst
        have hlt2 : (k : Int) < 2 ^ n.toNat - 1 := by rw [← HPW.out]; omega
        have HST := Lib.hid hst
        clear hst hp hx hy cp
        go_wp2_with fail
        refine (HAL.out _ (hv0.below B (Nat.le_refl _))).mono ?_
        rintro e w3 ⟨rfl, hb3⟩
        have B3 := B.after hb3 B.size
        have K3 := K.keep hb3
        have ck := keep hb3 ck
        have cp2 := keep hb3 cp2
        clear G1 hb3
        have G3 := K3.cell
        by_cases hxy : x < y
        · have HS2 := Lib.hid (HST.out.trans (if_pos hxy))
          go_wp2_with fail
          go_quiet (fail)
          go_wp2
          go_roundw
          case rel => exact ⟨k + 1, by omega, by omega, by go_num, by rw [HS2.out], B3.drewN' _, K3.drewN _⟩
          case measure => simp [intOf]; omega
        · have HS2 := Lib.hid (HST.out.trans (if_neg hxy))
          go_wp2_with fail
          go_quiet (fail)
          go_wp2
          go_roundw
          case rel => exact ⟨k + 1, by omega, by omega, by go_num, by rw [HS2.out], B3.drewN' _, K3.drewN _⟩
          case measure => simp [intOf]; omega
      · have hkl : k = l.length - 1 := by omega
        have hlt2 : ¬ (k : Int) < 2 ^ n.toNat - 1 := by rw [← HPW.out]; omega
        have hg : l.getD p 0 = l[p] := getD_at l p (by omega)
        obtain ⟨y, hy⟩ : ∃ x, x = l[p] := ⟨_, rfl⟩
        rw [← hy] at cp2 hg
        have HP := Lib.hid hp
        have HG := Lib.hid hg
        have HKL := Lib.hid hkl
        clear hp hg hkl hy cp
        go_wp2_with fail
        refine (HAL.out _ (hv0.below B (Nat.le_refl _))).mono ?_
        rintro e w3 ⟨rfl, hb3⟩
        have B3 := B.after hb3 B.size
        have K3 := K.keep hb3
        have cp2 := keep hb3 cp2
        clear G1 hb3
        have G3 := K3.cell
        go_wp2
        go_ret3
        exact ⟨by rw [H.out.1, H.out.2, ← HKL.out, ← HP.out, HG.out]; rfl, B3⟩
end Go.Proofs.Ytbkgconoadicjaa
