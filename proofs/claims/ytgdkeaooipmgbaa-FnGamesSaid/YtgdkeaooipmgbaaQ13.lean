/- Functions of masses: the program's own. -/
import Derived.Test.YtgdkeaooipmgbaaQ12
import Derived.Shelf.Abstract
section
namespace Go.Proofs.Ytgdkeaooipmgbaa
open Go.RowKit Go.G5

def fomF (m : List Int) (s : Nat) : Int := sumTo m s (s + 1)
def fomOk (n : Int) (m : List Int) : Bool := inB n 0 5 && (m.length == 2 ^ n.toNat) && allIn m (-100000) 100000
def fomV (n : Int) (m : List Int) : List Int := madeL (fomF m) (2 ^ n.toNat)
def fomB (n : Int) (m : List Int) : Bool := fomOk n m && isFunB n (fomV n m)
def fomN (n : Int) (m : List Int) : Int := if fomB n m then n else 0
def fomL (n : Int) (m : List Int) : List Int := if fomB n m then fomV n m else []

theorem fomL_len (n : Int) (m : List Int) : (fomL n m).length ≤ 1048576 := by
  unfold fomL
  split
  · rename_i h
    have h1 : inB n 0 5 = true := by
      unfold fomB fomOk at h
      simp only [Bool.and_eq_true] at h
      exact h.1.1.1
    have h2 := inB_true.1 h1
    have h3 : (2 : Nat) ^ n.toNat ≤ 2 ^ 5 := Nat.pow_le_pow_right (by decide) (by omega)
    unfold fomV madeL
    simp; omega
  · simp

theorem fom_enters : ∀ args w, (callFunc 42 args).run Try.prog w = .ok (.enter 42 args) w := enters_of Try.func42 (by kernel_rfl) rfl

set_option maxHeartbeats 2000000 in
set_option maxRecDepth 100000 in
theorem fomI_c (w : World) (n : Int) (_ : InR n) (v : Value) (m : List Int) (hv : Ints w v m) (_ : m.length ≤ 1048576) :
    Calls Try.prog 10 #[.int .i64 n, v] w fun e w' =>
      ∃ ad i cp, e = .returned (.tuple #[.agg #[.int .i64 (fomN n m), .slice ad i cp], .bool (fomB n m)]) ∧ OwnI 3 w.heap.size w' (.slice ad i cp) (fomL n m) ∧ Below w.heap.size w w' := by
  obtain ⟨a, c, rfl⟩ := hv.shape
  cases h1 : inB n 0 5 with
  | false =>
    have hB : fomB n m = false := by unfold fomB fomOk; rw [h1]; rfl
    have hN : fomN n m = 0 := by unfold fomN; rw [hB]; rfl
    have hL : fomL n m = [] := by unfold fomL; rw [hB]; rfl
    rw [hB, hN, hL]
    have hwi := fun W => within_any n 0 5 W
    rw [h1] at hwi
    clear hB hN hL
    go_enter Try.func10, Try.ntmps10
    go_wp2_with (go_at_call 39; refine (hwi _).mono ?_; rintro e w' ⟨rfl, rfl⟩)
    refine bodyPost_ret (v := .tuple #[.agg #[.int .i64 0, .slice none 0 0], .bool false]) (by simp [results, Try.results10, go_sem]) rfl ⟨none, 0, 0, rfl, OwnI.nil _ _ _, (by repeat (first | exact Below.refl _ _ | (with_reducible refine Below.setCell ?_ (by first | omega | (simp; done) | (simp; omega)) _) | (with_reducible refine Below.alloc ?_ (by first | omega | (simp; done) | (simp; omega)) _) | (with_reducible refine Below.drewN' ?_ _) | (with_reducible refine Below.drew ?_) | (with_reducible assumption) | refine Below.trans ?_ (Below.mono (by assumption) (by first | omega | (simp; done) | (simp; omega)))))⟩
  | true =>
    obtain ⟨hn0, hn5⟩ := inB_true.1 h1
    obtain ⟨k, rfl⟩ : ∃ k : Nat, n = k := ⟨n.toNat, by omega⟩
    have hwi := fun W => within_any (k : Int) 0 5 W
    rw [h1] at hwi
    have hp0 := two_pow k 5 (by omega)
    have hp1 : (2 : Int) ^ k ≤ 32 := by have := hp0.1; simpa using this
    have hp2 := hp0.2
    clear hp0
    have hk5 : k ≤ 5 := by omega
    have hpn : (2 : Nat) ^ k ≤ 32 := Nat.pow_le_pow_right (by decide) hk5
    have hpi : ((2 ^ k : Nat) : Int) = (2 : Int) ^ k := by simp
    by_cases h2 : m.length = 2 ^ k
    · have ht : ((m.length : Int) != 2 ^ k) = false := by rw [← hpi, h2]; simp
      have hca := fun W hW => areWithin_any m (.slice a m.length c) (-100000) 100000 W hW
      cases h3 : allIn m (-100000) 100000 with
      | false =>
        have hB : fomB k m = false := by unfold fomB fomOk; rw [h1, h3]; simp
        have hN : fomN k m = 0 := by unfold fomN; rw [hB]; rfl
        have hL : fomL k m = [] := by unfold fomL; rw [hB]; rfl
        rw [hB, hN, hL]
        rw [h3] at hca
        clear hB hN hL h2 hpi hpn h1 h3
        go_enter Try.func10, Try.ntmps10
        go_wp2_with (first
          | (go_at_call 39; refine (hwi _).mono ?_; rintro e w' ⟨rfl, rfl⟩)
          | (go_at_call 40; refine (hca _ ((hv.alloc _).alloc _)).mono ?_; rintro e w' ⟨rfl, rfl⟩))
        refine bodyPost_ret (v := .tuple #[.agg #[.int .i64 0, .slice none 0 0], .bool false]) (by simp [results, Try.results10, go_sem]) rfl ⟨none, 0, 0, rfl, OwnI.nil _ _ _, (by repeat (first | exact Below.refl _ _ | (with_reducible refine Below.setCell ?_ (by first | omega | (simp; done) | (simp; omega)) _) | (with_reducible refine Below.alloc ?_ (by first | omega | (simp; done) | (simp; omega)) _) | (with_reducible refine Below.drewN' ?_ _) | (with_reducible refine Below.drew ?_) | (with_reducible assumption) | refine Below.trans ?_ (Below.mono (by assumption) (by first | omega | (simp; done) | (simp; omega)))))⟩
      | true =>
        have hall : ∀ q, (hq : q < m.length) → -100000 ≤ m[q] ∧ m[q] ≤ 100000 := fun q hq => by
          unfold allIn at h3
          exact inB_true.1 (List.all_eq_true.1 h3 _ (List.getElem_mem hq))
        have hB : fomB k m = isFunB k (madeL (fomF m) (2 ^ k)) := by
          unfold fomB fomOk fomV; rw [h1, h3, show (m.length == 2 ^ (k : Int).toNat) = true by simpa using h2]; rfl
        have hN : fomN k m = if isFunB k (madeL (fomF m) (2 ^ k)) then (k : Int) else 0 := by unfold fomN; rw [hB]
        have hL : fomL k m = if isFunB k (madeL (fomF m) (2 ^ k)) then madeL (fomF m) (2 ^ k) else [] := by unfold fomL; rw [hB]; rfl
        rw [hB, hN, hL]
        rw [h3] at hca
        have hF : ∀ s, s < 2 ^ k → InR (fomF m s) := fun s hs => by
          have := sumTo_bd m s hall (s + 1) (by omega)
          unfold fomF; exact ⟨by omega, by omega⟩
        have HF := Lib.hid hF
        have HA := Lib.hid hall
        have H2 := Lib.hid h2
        clear hB hN hL hF hall h2 hpn h3 hpi h1
        obtain ⟨bb, hbb⟩ : ∃ b, b = isFunB (k : Int) (madeL (fomF m) (2 ^ k)) := ⟨_, rfl⟩
        rw [← hbb]
        obtain ⟨nn, hnn⟩ : ∃ n, n = (if bb = true then (k : Int) else 0) := ⟨_, rfl⟩
        obtain ⟨ll, hll⟩ : ∃ n, n = (if bb = true then madeL (fomF m) (2 ^ k) else []) := ⟨_, rfl⟩
        rw [← hnn, ← hll]
        have HBB := Lib.hid hbb
        have HNN := Lib.hid hnn
        have HLL := Lib.hid hll
        clear hbb hnn hll
        go_enter Try.func10, Try.ntmps10
        go_wp2_with (first
          | (go_at_call 39; refine (hwi _).mono ?_; rintro e w' ⟨rfl, rfl⟩)
          | (go_at_call 40; refine (hca _ ((hv.alloc _).alloc _)).mono ?_; rintro e w' ⟨rfl, rfl⟩))
        refine (makeFunction_any _ k hk5 42 fom_enters w.heap.size (fomF m) HF.out ?_).mono ?_
        · intro s W' hs hb
          have hsm : s < m.length := by rw [H2.out]; exact hs
          refine fom_closure W' s w.heap.size m _ (hv.below (((bl2 w _ _).after hb (by simp))) (Nat.le_refl _)) ?_ hsm (by rw [H2.out]; exact Nat.pow_le_pow_right (by decide) hk5) HA.out
          exact G5.keep hb (by simp [go_sem])
        · rintro e w5 ⟨ad, i, cp, rfl, ho, hb⟩
          obtain ⟨hc5, hf5⟩ := bcellN hb (w.heap.size + 1 + 1) (by first | omega | (simp; done) | (simp; omega))
          have z5 := hb.size
          simp at z5
          rw [← HBB.out, ← HNN.out]
          rw [← HBB.out, ← HLL.out] at ho
          go_wp2_with fail
          refine bodyPost_ret (v := .tuple #[.agg #[.int .i64 nn, .slice ad i cp], .bool bb]) (by simp [results, Try.results10, go_sem, hc5]) rfl ⟨ad, i, cp, rfl, ?_, ?_⟩
          · exact ((ho.setBelow (by first | omega | (simp; done) | (simp; omega)) _).setBelow (by first | omega | (simp; done) | (simp; omega)) _).mono (by first | omega | (simp; done) | (simp; omega))
          · exact (by repeat (first | exact Below.refl _ _ | (with_reducible refine Below.setCell ?_ (by first | omega | (simp; done) | (simp; omega)) _) | (with_reducible refine Below.alloc ?_ (by first | omega | (simp; done) | (simp; omega)) _) | (with_reducible refine Below.drewN' ?_ _) | (with_reducible refine Below.drew ?_) | (with_reducible assumption) | refine Below.trans ?_ (Below.mono (by assumption) (by first | omega | (simp; done) | (simp; omega)))))
    · have hB : fomB k m = false := by unfold fomB fomOk; rw [h1, show (m.length == 2 ^ (k : Int).toNat) = false by simpa using h2]; rfl
      have hN : fomN k m = 0 := by unfold fomN; rw [hB]; rfl
      have hL : fomL k m = [] := by unfold fomL; rw [hB]; rfl
      rw [hB, hN, hL]
      have ht : ((m.length : Int) != 2 ^ k) = true := by rw [← hpi]; simp; exact_mod_cast h2
      clear hB hN hL hpi hpn h1 h2
      go_enter Try.func10, Try.ntmps10
      go_wp2_with (go_at_call 39; refine (hwi _).mono ?_; rintro e w' ⟨rfl, rfl⟩)
      refine bodyPost_ret (v := .tuple #[.agg #[.int .i64 0, .slice none 0 0], .bool false]) (by simp [results, Try.results10, go_sem]) rfl ⟨none, 0, 0, rfl, OwnI.nil _ _ _, (by repeat (first | exact Below.refl _ _ | (with_reducible refine Below.setCell ?_ (by first | omega | (simp; done) | (simp; omega)) _) | (with_reducible refine Below.alloc ?_ (by first | omega | (simp; done) | (simp; omega)) _) | (with_reducible refine Below.drewN' ?_ _) | (with_reducible refine Below.drew ?_) | (with_reducible assumption) | refine Below.trans ?_ (Below.mono (by assumption) (by first | omega | (simp; done) | (simp; omega)))))⟩
end Go.Proofs.Ytgdkeaooipmgbaa
end
