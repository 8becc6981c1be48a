/- Counting families: the shared walks. -/
import Derived.Test.YtpaoiiiceekkkaaDoorFun
import Derived.Test.YtpaoiiiceekkkaaDoorChoose
namespace Go.Proofs.YtpaoiiiceekkkaaDoor
open Go.RowKit Go.G5

def nbit (code s : Nat) : Bool := code / 2 ^ s % 2 == 1
theorem nbit_is (code s : Nat) : (ibit (code : Int) s == 1) = nbit code s := by
  unfold ibit nbit
  have h : ((code : Int) / 2 ^ s % 2) = ((code / 2 ^ s % 2 : Nat) : Int) := by push_cast; rfl
  rw [h]
  have : (code / 2 ^ s % 2) < 2 := Nat.mod_lt _ (by decide)
  rcases (show code / 2 ^ s % 2 = 0 ∨ code / 2 ^ s % 2 = 1 by omega) with h1 | h1 <;> rw [h1] <;> rfl
/-- the sets that are the bits of a number -/
def famOf (code : Nat) (k : Nat) : List Int := chosen (nbit code) k
theorem famOf_more (code k m : Nat) (h : code < 2 ^ k) : famOf code (k + m) = famOf code k := by
  induction m with
  | zero => rfl
  | succ m ih =>
    rw [← Nat.add_assoc, famOf, chosen_succ, if_neg, ← famOf, ih]
    have h1 : code < 2 ^ (k + m) := Nat.lt_of_lt_of_le h (Nat.pow_le_pow_right (by decide) (by omega))
    unfold nbit
    rw [Nat.div_eq_of_lt h1]; decide
theorem famOf_same (code k m : Nat) (h : code < 2 ^ k) (h' : code < 2 ^ m) : famOf code k = famOf code m := by
  rcases Nat.le_total k m with hkm | hkm
  · obtain ⟨d, rfl⟩ := Nat.exists_eq_add_of_le hkm
    exact (famOf_more code k d h).symm
  · obtain ⟨d, rfl⟩ := Nat.exists_eq_add_of_le hkm
    exact famOf_more code m d h'
/-- how many codes below k are wanted -/
def cntTo (Q : Nat → Bool) : Nat → Nat
  | 0 => 0
  | k + 1 => if Q k then cntTo Q k + 1 else cntTo Q k
theorem cntTo_le (Q : Nat → Bool) (k : Nat) : cntTo Q k ≤ k := by
  induction k with
  | zero => exact Nat.le_refl _
  | succ k ih => rw [cntTo]; split <;> omega

set_option maxHeartbeats 1000000 in
theorem l2List_any (w : World) (code : Nat) (hc : code < 2 ^ 32) :
    Calls Tryd.prog 110 #[.int .i64 (code : Int)] w fun e w' => ∃ ad i cp, e = .returned (.slice ad i cp) ∧ OwnI 3 w.heap.size w' (.slice ad i cp) (famOf code 32) ∧ Below w.heap.size w w' := by
  have o0 := OwnI.lit0 (E := 3) (B := w.heap.size) w (Nat.le_refl _)
  go_enter Tryd.func110, Tryd.ntmps110
  go_wp2
  go_loopw [3, 4, 5] (fun out i x wr => ∃ (k : Nat) (ad : Option Addr) (nn cp : Nat), k ≤ 32 ∧ out = .slice ad nn cp ∧ i = .int .i64 k ∧ x = .int .i64 ((code / 2 ^ k : Nat) : Int) ∧ OwnI 3 w.heap.size wr (.slice ad nn cp) (famOf code k) ∧ Below w.heap.size w wr)
    (fun _ _ x _ => (intOf x).toNat)
  case atStart => exact ⟨0, _, _, _, by omega, rfl, rfl, by simp, o0, bl1 _ _⟩
  case round =>
    obtain ⟨k, ad, nn, cp, hk, rfl, rfl, rfl, ho, B⟩ := hrel
    obtain ⟨q, hq⟩ : ∃ q, q = code / 2 ^ k := ⟨_, rfl⟩
    have hq2 : code / 2 ^ (k + 1) = q / 2 := by rw [hq, Nat.pow_succ, Nat.div_div_eq_div_mul]
    have hql : q ≤ code := by rw [hq]; exact Nat.div_le_self _ _
    have hn : nbit code k = (q % 2 == 1) := by unfold nbit; rw [hq]
    have hlen := chosen_len (nbit code) k
    rw [← hq]
    have hb := bitsA1 q (by omega)
    have HQ := Lib.hid hq2
    have HN := Lib.hid hn
    have HO := Lib.hid ho
    have HB := Lib.hid B
    have hz : 0 < q → k + 1 ≤ 32 := by
      intro h
      by_cases h2 : k + 1 ≤ 32
      · exact h2
      · have : k = 32 := by omega
        rw [hq, this, Nat.div_eq_of_lt hc] at h
        omega
    have HQ0 := Lib.hid hq
    clear ho B hq hq2 hn
    by_cases h0 : 0 < q
    · have hk1 := hz h0
      clear hz
      by_cases h1 : q % 2 = 1
      · go_wp2_with (at_builtin; refine wpList_appendI rfl _ _ _ rfl 3 Tryd.underlying22 intElem w.heap.size _ _ (k : Int) wr.heap.size rfl rfl (by simp) (HO.out.alloc _) ⟨by omega, by omega⟩ (by unfold famOf; omega) (by have := HB.out.size; simp; omega) ?_; intro v' w6 hown hgr; obtain ⟨av, nv, cv, rfl⟩ := hown.shape3)
        have B6 : Below w.heap.size w w6 := (HB.out.alloc HB.out.size (.cells #[.int .i64 k] 3)).grown hgr (by have := HB.out.size; simp; omega) (fun p hp => (HO.out.lt p hp).1)
        go_roundw
        case rel => exact ⟨k + 1, av, nv, cv, hk1, rfl, by go_num, by rw [HQ.out]; go_num, by rw [famOf, chosen_succ, HN.out, h1]; exact hown, B6⟩
        case measure => simp [intOf]; omega
      · go_wp2
        go_roundw
        case rel => exact ⟨k + 1, ad, nn, cp, hk1, rfl, by go_num, by rw [HQ.out]; go_num, by rw [famOf, chosen_succ, HN.out, show (q % 2 == 1) = false by simp [h1]]; exact HO.out, HB.out⟩
        case measure => simp [intOf]; omega
    · go_wp2
      go_ret
      refine ⟨ad, nn, cp, rfl, ?_, HB.out⟩
      have hlt : code < 2 ^ k := by
        have := HQ0.out
        rcases Nat.lt_or_ge code (2 ^ k) with h | h
        · exact h
        · have := Nat.div_pos h (Nat.two_pow_pos k)
          omega
      rw [famOf_same code 32 k hc hlt]
      exact HO.out

theorem famOf_bd (code k : Nat) : ∀ x ∈ famOf code k, 0 ≤ x ∧ x < (k : Int) := by
  intro x hx
  unfold famOf chosen at hx
  rw [List.mem_map] at hx
  obtain ⟨s, hs, rfl⟩ := hx
  rw [List.mem_filter, List.mem_range] at hs
  simp only [Int.ofNat_eq_natCast]
  omega
theorem famOf32 (code k : Nat) (h : code < 2 ^ k) (hk : k ≤ 32) : famOf code 32 = famOf code k :=
  famOf_same code 32 k (Nat.lt_of_lt_of_le h (Nat.pow_le_pow_right (by decide) hk)) h
def cntOf (Q : Int → Nat → Bool) (n : Int) : Int := if inB n 0 3 then (cntTo (Q n) (2 ^ 2 ^ n.toNat) : Int) else -1
theorem in03 {n : Int} (h : inB n 0 3 = true) : n = 0 ∨ n = 1 ∨ n = 2 ∨ n = 3 := by have := inB_true.1 h; omega
end Go.Proofs.YtpaoiiiceekkkaaDoor
